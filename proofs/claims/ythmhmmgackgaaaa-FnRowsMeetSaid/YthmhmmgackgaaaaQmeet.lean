/- Which numbers the row that two rows meet in has; that their order does not matter. -/
import Derived.Test.YthmhmmgackgaaaaQrows
namespace Go.Proofs.Ythmhmmgackgaaaa.Pure
open Go.RowKit Go.Proofs.Ythmhmmgackgaaaa.G Go.Proofs.YthmhmmgackgaaaaW.PrintWords Go.Proofs.YthmhmmgackgaaaaW.PrintLast

theorem lcm_nat (m n : Nat) : lcmI (m : Int) (n : Int) = ((Nat.lcm m n : Nat) : Int) := by
  unfold lcmI
  rw [Int.toNat_natCast, Int.toNat_natCast, Int.tdiv_eq_ediv_of_nonneg (by omega), ← Int.natCast_ediv, ← Int.natCast_mul, Nat.div_mul_right_comm (Nat.gcd_dvd_left m n)]
  rfl
theorem lcmI_comm {a b : Int} (ha : 0 ≤ a) (hb : 0 ≤ b) : lcmI a b = lcmI b a := by
  obtain ⟨m, rfl⟩ := Int.eq_ofNat_of_zero_le ha
  obtain ⟨n, rfl⟩ := Int.eq_ofNat_of_zero_le hb
  rw [lcm_nat, lcm_nat, Nat.lcm_comm]
theorem lcmI_dvd {a b x : Int} (ha : 0 ≤ a) (hb : 0 ≤ b) : lcmI a b ∣ x ↔ a ∣ x ∧ b ∣ x := by
  obtain ⟨m, rfl⟩ := Int.eq_ofNat_of_zero_le ha
  obtain ⟨n, rfl⟩ := Int.eq_ofNat_of_zero_le hb
  rw [lcm_nat, Int.ofNat_dvd_left, Int.ofNat_dvd_left, Int.ofNat_dvd_left]
  exact ⟨fun h => ⟨Nat.dvd_trans (Nat.dvd_lcm_left m n) h, Nat.dvd_trans (Nat.dvd_lcm_right m n) h⟩, fun h => Nat.lcm_dvd h.1 h.2⟩
theorem lcmI_pos {a b : Int} (ha : 0 < a) (hb : 0 < b) : 0 < lcmI a b := by
  obtain ⟨m, rfl⟩ := Int.eq_ofNat_of_zero_le (Int.le_of_lt ha)
  obtain ⟨n, rfl⟩ := Int.eq_ofNat_of_zero_le (Int.le_of_lt hb)
  rw [lcm_nat]
  have := Nat.lcm_pos (show 0 < m by omega) (show 0 < n by omega)
  omega
theorem hasB_iff {b s n : Int} : hasB b s n = true ↔ (s = 0 ∧ n = b) ∨ (s ≠ 0 ∧ b ≤ n ∧ s ∣ n - b) := by
  unfold hasB
  by_cases h : s = 0
  · rw [if_pos h, beq_iff_eq]
    simp [h]
  · rw [if_neg h, Bool.and_eq_true, decide_eq_true_eq, beq_iff_eq, Int.dvd_iff_tmod_eq_zero]
    simp [h]
theorem firstFrom_some {p : Int → Bool} {d : Nat} : ∀ {i n : Int}, firstFrom p d i = some n → i ≤ n ∧ n < i + d ∧ p n = true ∧ ∀ m, i ≤ m → m < n → p m = false := by
  induction d with
  | zero => intro i n h; simp [firstFrom] at h
  | succ d ih =>
    intro i n h
    unfold firstFrom at h
    by_cases hp : p i = true
    · rw [if_pos hp, Option.some.injEq] at h
      subst h
      exact ⟨by omega, by omega, hp, fun m h1 h2 => by omega⟩
    · rw [if_neg hp] at h
      obtain ⟨h1, h2, h3, h4⟩ := ih h
      refine ⟨by omega, by omega, h3, fun m hm1 hm2 => ?_⟩
      by_cases e : m = i
      · subst e
        simpa using hp
      · exact h4 m (by omega) hm2
theorem firstFrom_congr {p q : Int → Bool} (h : ∀ n, p n = q n) (d : Nat) : ∀ i, firstFrom p d i = firstFrom q d i := by
  induction d with
  | zero => intro i; rfl
  | succ d ih => intro i; unfold firstFrom; rw [h, ih]
theorem stepOf_comm {a b : List Int} (ha : RowOk a) (hb : RowOk b) : stepOf a b = stepOf b a := by
  unfold RowOk at ha hb
  unfold stepOf
  by_cases h : rd a 1 > 0 ∧ rd b 1 > 0
  · rw [if_pos h, if_pos ⟨h.2, h.1⟩, lcmI_comm (by omega) (by omega)]
  · rw [if_neg h, if_neg (fun k => h ⟨k.2, k.1⟩)]
theorem meetC_comm (a b : List Int) : meetC a b = meetC b a := by
  unfold meetC
  by_cases h : RowOk a ∧ RowOk b
  · rw [if_pos h, if_pos ⟨h.2, h.1⟩, stepOf_comm h.1 h.2]
    congr 1
    exact firstFrom_congr (fun n => by unfold meetP; rw [Bool.and_comm (hasB (rd a 0) (rd a 1) n)]) _ _
  · rw [if_neg h, if_neg (fun k => h ⟨k.2, k.1⟩)]
/-- What two rows meet in, told for numbers that are not negative. -/
theorem meet_has {a b : List Int} (ha : RowOk a) (hb : RowOk b) {n0 : Int} (hf : firstFrom (meetP a b (stepOf a b)) 60 0 = some n0) {n : Int} (hn : 0 ≤ n) :
    hasB n0 (stepOf a b) n = (hasB (rd a 0) (rd a 1) n && hasB (rd b 0) (rd b 1) n) := by
  obtain ⟨h1, h2, h3, h4⟩ := firstFrom_some hf
  unfold meetP at h3
  rw [Bool.and_eq_true, Bool.and_eq_true, decide_eq_true_eq] at h3
  obtain ⟨⟨hA, hB⟩, hst⟩ := h3
  have hmin : ∀ m, 0 ≤ m → m < n0 → ¬ (hasB (rd a 0) (rd a 1) m = true ∧ hasB (rd b 0) (rd b 1) m = true) := by
    intro m hm1 hm2 hm3
    have := h4 m hm1 hm2
    unfold meetP at this
    rw [hm3.1, hm3.2, decide_eq_true hst] at this
    simp at this
  unfold RowOk at ha hb
  generalize rd a 0 = b1 at *
  generalize rd b 0 = b2 at *
  have hgoal : hasB n0 (stepOf a b) n = true ↔ (hasB b1 (rd a 1) n = true ∧ hasB b2 (rd b 1) n = true) := by
    by_cases hs : rd a 1 > 0 ∧ rd b 1 > 0
    · have est : stepOf a b = lcmI (rd a 1) (rd b 1) := by unfold stepOf; rw [if_pos hs]
      have hp := lcmI_pos hs.1 hs.2
      rw [est]
      have hd := fun x => lcmI_dvd (x := x) (Int.le_of_lt hs.1) (Int.le_of_lt hs.2)
      generalize hl : lcmI (rd a 1) (rd b 1) = L at *
      generalize rd a 1 = s1 at *
      generalize rd b 1 = s2 at *
      rw [hasB_iff] at hA hB
      have hA' : b1 ≤ n0 ∧ s1 ∣ n0 - b1 := hA.elim (fun h => absurd h.1 (by omega)) (fun h => h.2)
      have hB' : b2 ≤ n0 ∧ s2 ∣ n0 - b2 := hB.elim (fun h => absurd h.1 (by omega)) (fun h => h.2)
      constructor
      · intro h
        rw [hasB_iff] at h
        have h' : n0 ≤ n ∧ L ∣ n - n0 := h.elim (fun h => absurd h.1 (by omega)) (fun h => h.2)
        obtain ⟨e1, e2⟩ := (hd _).1 h'.2
        rw [hasB_iff, hasB_iff]
        refine ⟨.inr ⟨by omega, by omega, ?_⟩, .inr ⟨by omega, by omega, ?_⟩⟩
        · have := Int.dvd_add e1 hA'.2
          rwa [show n - n0 + (n0 - b1) = n - b1 by omega] at this
        · have := Int.dvd_add e2 hB'.2
          rwa [show n - n0 + (n0 - b2) = n - b2 by omega] at this
      · rintro ⟨k1, k2⟩
        have hge : n0 ≤ n := by
          apply Classical.byContradiction
          intro hlt
          exact hmin n hn (by omega) ⟨k1, k2⟩
        rw [hasB_iff] at k1 k2
        have k1' : b1 ≤ n ∧ s1 ∣ n - b1 := k1.elim (fun h => absurd h.1 (by omega)) (fun h => h.2)
        have k2' : b2 ≤ n ∧ s2 ∣ n - b2 := k2.elim (fun h => absurd h.1 (by omega)) (fun h => h.2)
        rw [hasB_iff]
        refine .inr ⟨by omega, hge, (hd _).2 ⟨?_, ?_⟩⟩
        · have := Int.dvd_sub k1'.2 hA'.2
          rwa [show n - b1 - (n0 - b1) = n - n0 by omega] at this
        · have := Int.dvd_sub k2'.2 hB'.2
          rwa [show n - b2 - (n0 - b2) = n - n0 by omega] at this
    · have est : stepOf a b = 0 := by unfold stepOf; rw [if_neg hs]
      rw [est]
      have hz : rd a 1 = 0 ∨ rd b 1 = 0 := by omega
      constructor
      · intro h
        rw [hasB_iff] at h
        have : n = n0 := by omega
        rw [this]
        exact ⟨hA, hB⟩
      · rintro ⟨k1, k2⟩
        rw [hasB_iff] at k1 k2 hA hB ⊢
        refine .inl ⟨rfl, ?_⟩
        rcases hz with hz | hz <;> omega
  rw [Bool.eq_iff_iff, Bool.and_eq_true]
  exact hgoal
end Go.Proofs.Ythmhmmgackgaaaa.Pure
