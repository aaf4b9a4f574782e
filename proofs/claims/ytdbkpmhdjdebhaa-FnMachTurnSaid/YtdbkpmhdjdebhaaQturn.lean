/- A machine turned round: what the program and the reference make of it. -/
import Derived.Test.YtdbkpmhdjdebhaaQmach3
import Derived.Test.YtdbkpmhdjdebhaaG21
import Derived.Test.YtdbkpmhdjdebhaaG22
namespace Go.Proofs.Ytdbkpmhdjdebhaa.Pure
open Go.RowKit Go.Proofs.Ytdbkpmhdjdebhaa.G Go.Proofs.YtdbkpmhdjdebhaaW.PrintWords Go.Proofs.YtdbkpmhdjdebhaaW.PrintLast Go.Proofs.YtdbkpmhdjdebhaaW.PrintMore

theorem shr_nat2 (s i : Nat) (hs : s < 2 ^ 62) : shr .i64 (s : Int) (i : Int) = ((s >>> i : Nat) : Int) := by
  unfold shr
  rw [Int.toNat_natCast, show IntKind.i64.bits = 64 from rfl, Nat.shiftRight_eq_div_pow]
  by_cases h : i ≤ 64
  · rw [Nat.min_eq_left h]
    simp
  · rw [Nat.min_eq_right (by omega)]
    have h1 : s / 2 ^ 64 = 0 := Nat.div_eq_of_lt (by omega)
    have h2 : s / 2 ^ i = 0 := Nat.div_eq_of_lt (Nat.lt_of_lt_of_le (by omega : s < 2 ^ 64) (Nat.pow_le_pow_right (by decide) (by omega)))
    rw [h2]
    have : ((s : Int) / 2 ^ 64) = ((s / 2 ^ 64 : Nat) : Int) := by simp
    rw [this, h1]
theorem bit_val (s i : Nat) (hs : s < 2 ^ 62) : Go.bits .and .i64 (shr .i64 (s : Int) (i : Int)) 1 = if s.testBit i = true then 1 else 0 := by
  have hlt : s >>> i < 2 ^ 63 := by
    rw [Nat.shiftRight_eq_div_pow]
    exact Nat.lt_of_le_of_lt (Nat.div_le_self _ _) (by omega)
  by_cases h : s.testBit i = true
  · rw [if_pos h]
    exact (bit_test s i hs).2 h
  · rw [if_neg h]
    have h2 := fun z => h ((bit_test s i hs).1 z)
    rw [shr_nat2 s i hs, show (1 : Int) = ((1 : Nat) : Int) from rfl, bits64_and _ _ hlt (by decide), Nat.and_one_is_mod] at h2 ⊢
    generalize s >>> i = z at h2 ⊢
    have h3 : ¬ ((z % 2 : Nat) : Int) = 1 := h2
    show ((z % 2 : Nat) : Int) = 0
    omega
structure TOk (n : Nat) (t : List Int) : Prop where
  len : t.length = n
  st : ∀ x ∈ t, 0 ≤ x ∧ x.toNat < 2 ^ n
def cellT (t : List Int) (x i j : Nat) : Nat := (rd t (j : Int)).toNat ||| (if x.testBit j = true then 2 ^ i else 0)
def tr1 (x i : Nat) : Nat → Nat → List Int → List Int
  | 0, _, t => t
  | d + 1, j, t => tr1 x i d (j + 1) (t.set j (cellT t x i j : Int))
def tr0 (n : Nat) : List Int → Nat → List Int → List Int
  | [], _, t => t
  | x :: xs, i, t => tr0 n xs (i + 1) (tr1 x.toNat i n 0 t)
def turnL (l : List Int) : List Int := tr0 l.length l 0 (List.replicate l.length 0)
theorem cellT_lt {n : Nat} {t : List Int} (ht : TOk n t) (x i j : Nat) (hi : i < n) (hj : j < n) : cellT t x i j < 2 ^ n := by
  unfold cellT
  rw [rd_get (by rw [ht.len]; exact hj)]
  refine Nat.or_lt_two_pow (ht.st _ (List.getElem_mem _)).2 ?_
  split
  · exact Nat.pow_lt_pow_right (by decide) hi
  · exact Nat.two_pow_pos _
theorem TOk.set {n : Nat} {t : List Int} (ht : TOk n t) (x i j : Nat) (hi : i < n) (hj : j < n) : TOk n (t.set j (cellT t x i j : Int)) := by
  refine ⟨by rw [List.length_set]; exact ht.len, fun y hy => ?_⟩
  rcases List.mem_or_eq_of_mem_set hy with h | h
  · exact ht.st y h
  · subst h
    exact ⟨by omega, by rw [Int.toNat_natCast]; exact cellT_lt ht x i j hi hj⟩
theorem TOk.tr1 {n : Nat} (x i : Nat) (hi : i < n) : ∀ (d j : Nat) (t : List Int), d + j = n → TOk n t → TOk n (tr1 x i d j t)
  | 0, _, _, _, ht => ht
  | d + 1, j, _, hd, ht => TOk.tr1 x i hi d (j + 1) _ (by omega) (ht.set x i j hi (by omega))
theorem TOk.tr0 {n : Nat} : ∀ (l : List Int) (i : Nat) (t : List Int), l.length + i = n → TOk n t → TOk n (tr0 n l i t)
  | [], _, _, _, ht => ht
  | x :: xs, i, _, hd, ht => TOk.tr0 xs (i + 1) _ (by simp at hd; omega) (TOk.tr1 x.toNat i (by simp at hd; omega) n 0 _ (by omega) ht)
theorem TOk.zero (n : Nat) : TOk n (List.replicate n 0) := ⟨by simp, fun x hx => by
  rw [List.eq_of_mem_replicate hx]
  exact ⟨by omega, Nat.two_pow_pos _⟩⟩
theorem turnL_ok (l : List Int) : TOk l.length (turnL l) := TOk.tr0 l 0 _ (by omega) (TOk.zero _)
theorem put_val {n : Nat} {t : List Int} (ht : TOk n t) (h5 : n ≤ 5) (x i j : Nat) (hx : x < 2 ^ 62) (hi : i < n) (hj : j < n) :
    Go.bits .or .i64 (rd t (j : Int)) (shl .i64 (Go.bits .and .i64 (shr .i64 (x : Int) (j : Int)) 1) (i : Int)) = (cellT t x i j : Int) := by
  have hp : 2 ^ n ≤ 2 ^ 5 := Nat.pow_le_pow_right (by decide) h5
  have hpi : 2 ^ i ≤ 2 ^ 5 := Nat.pow_le_pow_right (by decide) (by omega)
  have hr : 0 ≤ rd t (j : Int) ∧ (rd t (j : Int)).toNat < 2 ^ n := by
    rw [rd_get (by rw [ht.len]; exact hj)]
    exact ht.st _ (List.getElem_mem _)
  have e : shl .i64 (if x.testBit j = true then 1 else 0) (i : Int) = (((if x.testBit j = true then 2 ^ i else 0) : Nat) : Int) := by
    by_cases h : x.testBit j = true
    · rw [if_pos h, if_pos h]
      exact shl_one i (by omega)
    · rw [if_neg h, if_neg h]
      have : i = 0 ∨ i = 1 ∨ i = 2 ∨ i = 3 ∨ i = 4 := by omega
      rcases this with rfl | rfl | rfl | rfl | rfl <;> decide +kernel
  rw [bit_val x j hx, e]
  unfold cellT
  have hq : (if x.testBit j = true then 2 ^ i else 0) < 2 ^ 63 := by split <;> omega
  have := bits64_or (rd t (j : Int)).toNat (if x.testBit j = true then 2 ^ i else 0) (by omega) hq
  rwa [Int.toNat_of_nonneg hr.1] at this
theorem put_same {n : Nat} {t : List Int} (ht : TOk n t) (x i j : Nat) (hj : j < n) (h : ¬ x.testBit j = true) : t.set j (cellT t x i j : Int) = t := by
  have hj2 : j < t.length := by rw [ht.len]; exact hj
  have e : (cellT t x i j : Int) = t[j] := by
    unfold cellT
    rw [if_neg h, Nat.or_zero, rd_get hj2]
    exact Int.toNat_of_nonneg (ht.st _ (List.getElem_mem _)).1
  rw [e]
  exact List.set_getElem_self hj2
theorem impl_turn_l1 {l : List Int} {a b : Int} (h : MOk l a b) (i : Nat) (hi : i < l.length) (u v : Int) (r : List Int × Int × Int × Bool) : ∀ (d j : Nat) (t : List Int), d + j = l.length → TOk l.length t →
    Ev (fun k => impl_MachTurn.l0 k l (l.length : Int) ((i + 1 : Nat) : Int) l a b (tr1 l[i].toNat i d j t) u v) r →
    Ev (fun k => impl_MachTurn.l1 k (i : Int) l[i] l (l.length : Int) (i : Int) (l.length : Int) (j : Int) l a b t u v) r := by
  have h5 := h.n5
  have hp : 2 ^ l.length ≤ 2 ^ 5 := Nat.pow_le_pow_right (by decide) h.n5
  have hx := h.st _ (List.getElem_mem hi)
  intro d
  induction d with
  | zero =>
    intro j t hd ht hr
    rw [ev_step (fun k => by rw [impl_MachTurn.l1]), ev_neg (by omega), wrap_in _ (by omega)]
    exact hr
  | succ d ih =>
    intro j t hd ht hr
    have hl := ht.len
    have pv := put_val ht h5 l[i].toNat i j (by omega) hi (by omega)
    rw [Int.toNat_of_nonneg hx.1] at pv
    rw [ev_step (fun k => by rw [impl_MachTurn.l1]), ev_pos (by omega), ev_pos (by omega), ev_pos (by omega), ev_pos (by omega), wrap_in _ (by omega), pv, Int.toNat_natCast]
    exact ih (j + 1) _ (by omega) (ht.set _ i j hi (by omega)) hr
theorem impl_turn_l0 {l : List Int} {a b : Int} (h : MOk l a b) (u v : Int) : ∀ (d i : Nat) (t : List Int), d + i = l.length → TOk l.length t →
    Ev (fun k => impl_MachTurn.l0 k l (l.length : Int) (i : Int) l a b t u v) (tr0 l.length (l.drop i) i t, u, v, true) := by
  have h5 := h.n5
  intro d
  induction d with
  | zero =>
    intro i t hd ht
    rw [ev_step (fun k => by rw [impl_MachTurn.l0]), ev_neg (by omega), ev_some, List.drop_of_length_le (by omega)]
    rfl
  | succ d ih =>
    intro i t hd ht
    have hi : i < l.length := by omega
    rw [ev_step (fun k => by rw [impl_MachTurn.l0]), ev_pos (by omega), ev_pos (by omega), ev_pos (by omega), rd_get hi, List.drop_eq_getElem_cons hi]
    exact impl_turn_l1 h i hi u v _ l.length 0 t (by omega) ht (ih (i + 1) _ (by omega) (TOk.tr1 _ i hi _ 0 t (by omega) ht))
def turnC (l : List Int) (a b : Int) : List Int × Int × Int × Bool := if machB l a b = true then (turnL l, b, a, true) else ([], 0, 0, false)
theorem impl_turn_ev (l : List Int) (a b : Int) : Ev (fun k => impl_MachTurn.f k l a b) (turnC l a b) := by
  simp only [impl_MachTurn.f]
  rw [ev_bind0 (impl_machIn l a b)]
  unfold turnC
  by_cases c : machB l a b = true
  · have h := mOk c
    have h5 := h.n5
    rw [ev_pos c, ev_pos (by omega), ev_pos (by omega), if_pos c, Int.toNat_natCast]
    exact impl_turn_l0 h b a l.length 0 _ (by omega) (TOk.zero _)
  · rw [ev_neg c, ev_some, if_neg c]
theorem spec_turn_l1 {l : List Int} {a b : Int} (h : MOk l a b) (i : Nat) (hi : i < l.length) (u v : Int) (r : List Int × Int × Int × Bool) : ∀ (d j : Nat) (t : List Int), d + j = l.length → TOk l.length t →
    Ev (fun k => spec_MachTurn.l0 k (l.length : Int) ((i + 1 : Nat) : Int) l a b (tr1 l[i].toNat i d j t) u v) r →
    Ev (fun k => spec_MachTurn.l1 k (l.length : Int) (i : Int) (j : Int) l a b t u v) r := by
  have h5 := h.n5
  have hp : 2 ^ l.length ≤ 2 ^ 5 := Nat.pow_le_pow_right (by decide) h.n5
  have hx := h.st _ (List.getElem_mem hi)
  intro d
  induction d with
  | zero =>
    intro j t hd ht hr
    rw [ev_step (fun k => by rw [spec_MachTurn.l1]), ev_neg (by omega), wrap_in _ (by omega)]
    exact hr
  | succ d ih =>
    intro j t hd ht hr
    have hl := ht.len
    have pv := put_val ht h5 l[i].toNat i j (by omega) hi (by omega)
    have bv := bit_val l[i].toNat j (by omega)
    rw [Int.toNat_of_nonneg hx.1] at pv bv
    rw [ev_step (fun k => by rw [spec_MachTurn.l1]), ev_pos (by omega), ev_pos (by omega), ev_pos (by omega), ev_pos (by omega), rd_get hi]
    by_cases c : l[i].toNat.testBit j = true
    · rw [if_pos c] at bv
      rw [bv] at pv
      rw [ev_pos bv, ev_pos (by omega), wrap_in _ (by omega), pv, Int.toNat_natCast]
      exact ih (j + 1) _ (by omega) (ht.set _ i j hi (by omega)) hr
    · rw [if_neg c] at bv
      rw [ev_neg (by rw [bv]; decide), wrap_in _ (by omega)]
      refine ih (j + 1) t (by omega) ht ?_
      have ps := put_same ht l[i].toNat i j (by omega) c
      simp only [tr1, ps] at hr
      exact hr
theorem spec_turn_l0 {l : List Int} {a b : Int} (h : MOk l a b) (u v : Int) : ∀ (d i : Nat) (t : List Int), d + i = l.length → TOk l.length t →
    Ev (fun k => spec_MachTurn.l0 k (l.length : Int) (i : Int) l a b t u v) (tr0 l.length (l.drop i) i t, u, v, true) := by
  have h5 := h.n5
  intro d
  induction d with
  | zero =>
    intro i t hd ht
    rw [ev_step (fun k => by rw [spec_MachTurn.l0]), ev_neg (by omega), ev_some, List.drop_of_length_le (by omega)]
    rfl
  | succ d ih =>
    intro i t hd ht
    have hi : i < l.length := by omega
    rw [ev_step (fun k => by rw [spec_MachTurn.l0]), ev_pos (by omega), List.drop_eq_getElem_cons hi]
    exact spec_turn_l1 h i hi u v _ l.length 0 t (by omega) ht (ih (i + 1) _ (by omega) (TOk.tr1 _ i hi _ 0 t (by omega) ht))
theorem spec_turn_ev (l : List Int) (a b : Int) (hm : l.length ≤ 1048576) : Ev (fun k => spec_MachTurn.f k l a b) (turnC l a b) := by
  simp only [spec_MachTurn.f]
  rw [ev_bind (spec_machIn_ev l a b hm)]
  unfold turnC
  by_cases c : machB l a b = true
  · have h := mOk c
    have h5 := h.n5
    rw [ev_pos c, ev_pos (by omega), ev_pos (by omega), if_pos c, Int.toNat_natCast]
    exact spec_turn_l0 h b a l.length 0 _ (by omega) (TOk.zero _)
  · rw [ev_neg c, ev_some, if_neg c]
theorem turnC_len (l : List Int) (a b : Int) : (turnC l a b).1.length ≤ 5 := by
  unfold turnC
  by_cases c : machB l a b = true
  · rw [if_pos c]
    have := (mOk c).n5
    have := (turnL_ok l).len
    show (turnL l).length ≤ 5
    omega
  · rw [if_neg c]
    simp
end Go.Proofs.Ytdbkpmhdjdebhaa.Pure
