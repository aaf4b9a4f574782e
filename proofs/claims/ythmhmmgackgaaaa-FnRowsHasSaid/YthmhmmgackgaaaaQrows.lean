/- What the functions over rows come to, the program's and the reference's alike. -/
import Derived.Test.YthmhmmgackgaaaaQkit
import Derived.Test.YthmhmmgackgaaaaG1
import Derived.Test.YthmhmmgackgaaaaG10
import Derived.Test.YthmhmmgackgaaaaG11
import Derived.Test.YthmhmmgackgaaaaG12
import Derived.Test.YthmhmmgackgaaaaG13
import Derived.Test.YthmhmmgackgaaaaG2
import Derived.Test.YthmhmmgackgaaaaG8
namespace Go.Proofs.Ythmhmmgackgaaaa.Pure
open Go.RowKit Go.Proofs.Ythmhmmgackgaaaa.G Go.Proofs.YthmhmmgackgaaaaW.PrintWords Go.Proofs.YthmhmmgackgaaaaW.PrintLast

theorem l6In_eq (n lo hi : Int) : spec_l6In.f n lo hi = some (decide (lo ≤ n ∧ n ≤ hi)) := ite_bool
theorem in_eq (n lo hi : Int) : impl_in.f n lo hi = some (decide (lo ≤ n ∧ n ≤ hi)) := ite_bool
/-- A row of two numbers that are in their ranges. -/
def RowOk (l : List Int) : Prop := l.length = 2 ∧ (0 ≤ rd l 0 ∧ rd l 0 ≤ 59) ∧ (0 ≤ rd l 1 ∧ rd l 1 ≤ 60)
instance (l : List Int) : Decidable (RowOk l) := by unfold RowOk; exact inferInstance
theorem l3Row_eq (l : List Int) : spec_l3Row.f l = some (decide (RowOk l)) := by
  unfold spec_l3Row.f
  simp only [l6In_eq, Option.bind_some, decide_eq_true_eq]
  (repeat' split) <;> simp only [some_dec, some_false, none_some] <;> (try unfold RowOk) <;> omega
/-- What both functions say of a row and a number. -/
def hasB (b s n : Int) : Bool := if s = 0 then n == b else decide (b ≤ n) && ((n - b).tmod s == 0)
theorem l3Has_eq (l : List Int) (n : Int) (h : RowOk l) (h0 : 0 ≤ n) (h1 : n ≤ 1000000) : spec_l3Has.f l n = some (hasB (rd l 0) (rd l 1) n) := by
  unfold RowOk at h
  unfold spec_l3Has.f hasB
  rw [if_pos (by omega)]
  split
  · rw [if_pos (by omega)]
  · rw [if_pos (by omega)]
    split
    · rw [wrap_in _ (by omega), decide_eq_true (by omega), Bool.true_and]
    · rw [decide_eq_false (by omega), Bool.false_and]
theorem row_has_eq (b s n : Int) (hb : 0 ≤ b ∧ b ≤ 59) (h0 : 0 ≤ n) (h1 : n ≤ 1000000) : impl_row_has.f b s n = some (hasB b s n) := by
  unfold impl_row_has.f hasB
  split
  · rfl
  · split
    · rw [wrap_in _ (by omega), decide_eq_true (by omega), Bool.true_and]
    · rw [decide_eq_false (by omega), Bool.false_and]
/-- Euclid's loop. -/
theorem gcd_nat (d : Nat) : ∀ (m n : Nat), n ≤ d → Ev (fun k => impl_gcd.l0 k (m : Int) (n : Int)) ((Nat.gcd m n : Nat) : Int) := by
  induction d with
  | zero =>
    intro m n hn
    obtain rfl : n = 0 := by omega
    rw [ev_step (fun k => by rw [impl_gcd.l0]), ev_pos (show ((0 : Nat) : Int) = 0 from rfl), ev_some, Nat.gcd_zero_right]
  | succ d ih =>
    intro m n hn
    rw [ev_step (fun k => by rw [impl_gcd.l0])]
    by_cases h : n = 0
    · subst h
      rw [ev_pos (show ((0 : Nat) : Int) = 0 from rfl), ev_some, Nat.gcd_zero_right]
    · have := Nat.mod_lt m (show n > 0 by omega)
      rw [ev_neg (by omega), ← Int.ofNat_tmod, Nat.gcd_comm m n, Nat.gcd_rec n m, Nat.gcd_comm]
      exact ih n (m % n) (by omega)
theorem gcd_ev {a b : Int} (ha : 0 ≤ a) (hb : 0 ≤ b) : Ev (fun k => impl_gcd.f k a b) ((Nat.gcd a.toNat b.toNat : Nat) : Int) := by
  obtain ⟨m, rfl⟩ := Int.eq_ofNat_of_zero_le ha
  obtain ⟨n, rfl⟩ := Int.eq_ofNat_of_zero_le hb
  exact gcd_nat n m n (Nat.le_refl _)
theorem div_nat (d : Nat) : ∀ (m n : Nat), n ≤ d → Ev (fun k => spec_l1Divisor.l0 k (m : Int) (n : Int)) ((Nat.gcd m n : Nat) : Int) := by
  induction d with
  | zero =>
    intro m n hn
    obtain rfl : n = 0 := by omega
    rw [ev_step (fun k => by rw [spec_l1Divisor.l0]), ev_neg (by omega), ev_some, Nat.gcd_zero_right]
  | succ d ih =>
    intro m n hn
    rw [ev_step (fun k => by rw [spec_l1Divisor.l0])]
    by_cases h : n = 0
    · subst h
      rw [ev_neg (by omega), ev_some, Nat.gcd_zero_right]
    · have := Nat.mod_lt m (show n > 0 by omega)
      rw [ev_pos (by omega), ev_neg (by omega), ← Int.ofNat_tmod, Nat.gcd_comm m n, Nat.gcd_rec n m, Nat.gcd_comm]
      exact ih n (m % n) (by omega)
theorem div_ev {a b : Int} (ha : 0 ≤ a) (hb : 0 ≤ b) : Ev (fun k => spec_l1Divisor.f k a b) ((Nat.gcd a.toNat b.toNat : Nat) : Int) := by
  obtain ⟨m, rfl⟩ := Int.eq_ofNat_of_zero_le ha
  obtain ⟨n, rfl⟩ := Int.eq_ofNat_of_zero_le hb
  exact div_nat n m n (Nat.le_refl _)
/-- What 'a / gcd * b' comes to. -/
def lcmI (a b : Int) : Int := a.tdiv ((Nat.gcd a.toNat b.toNat : Nat) : Int) * b
theorem gcd_pos {a b : Int} (ha : 0 < a) : ((Nat.gcd a.toNat b.toNat : Nat) : Int) ≠ 0 := by
  have := Nat.gcd_pos_of_pos_left b.toNat (show 0 < a.toNat by omega)
  omega
theorem tdiv_bound {a g : Int} (ha : 0 ≤ a) (hg : 0 ≤ g) : 0 ≤ a.tdiv g ∧ a.tdiv g ≤ a := by
  rw [Int.tdiv_eq_ediv_of_nonneg ha]
  exact ⟨Int.ediv_nonneg ha hg, Int.ediv_le_self _ ha⟩
theorem lcm_bound {a b : Int} (ha : 0 ≤ a) (hb : 0 ≤ b) (hA : a ≤ 60000000) (hB : b ≤ 60) : 0 ≤ lcmI a b ∧ lcmI a b ≤ 3600000000 := by
  have h := tdiv_bound (g := ((Nat.gcd a.toNat b.toNat : Nat) : Int)) ha (by omega)
  unfold lcmI
  refine ⟨Int.mul_nonneg h.1 hb, ?_⟩
  exact Int.le_trans (Int.mul_le_mul h.2 hB hb ha) (by omega)
theorem lcm_ev {a b : Int} (ha : 0 < a) (hb : 0 ≤ b) (hA : a ≤ 60000000) (hB : b ≤ 60) : Ev (fun k => impl_lcm.f k a b) (lcmI a b) := by
  have h := tdiv_bound (g := ((Nat.gcd a.toNat b.toNat : Nat) : Int)) (Int.le_of_lt ha) (by omega)
  have h2 := lcm_bound (Int.le_of_lt ha) hb hA hB
  simp only [impl_lcm.f]
  rw [ev_bind (gcd_ev (Int.le_of_lt ha) hb), ev_neg (gcd_pos ha), ev_some, wrap_in (a.tdiv _) (by omega)]
  exact wrap_in _ (by unfold lcmI at h2; omega)
abbrev Row := S54
def rowOf (l : List Int) : Row := ⟨rd l 0, rd l 1⟩
def rowsOk (rows : List (List Int)) : Bool := rows.all fun l => decide (RowOk l)
theorem rd_L1_get {l : List (List Int)} {i : Nat} (h : i < l.length) : rd_L1 l (i : Int) = l[i] := by
  simp [rd_L1, List.getD_eq_getElem?_getD, h]
theorem rowsOf_l0 (rows : List (List Int)) (hm : rows.length ≤ 8796093022207) (d : Nat) : ∀ (i : Nat), rows.length - i = d → i ≤ rows.length →
    Ev (fun k => impl_rowsOf.l0 k ((rows.take i).map rowOf) rows (rows.length : Int) (i : Int)) (if rowsOk (rows.drop i) = true then (rows.map rowOf, decide (rows.length ≤ 20)) else ([], false)) := by
  induction d with
  | zero =>
    intro i hd hi
    rw [ev_step (fun k => by rw [impl_rowsOf.l0]), ev_neg (by omega), ev_some, List.drop_of_length_le (by omega), List.take_of_length_le (by omega), if_pos (by rfl), List.length_map]
    congr 1
    exact decide_eq_decide.2 (by omega)
  | succ d ih =>
    intro i hd hi
    have hi2 : i < rows.length := by omega
    have hdrop : rowsOk (rows.drop i) = (decide (RowOk rows[i]) && rowsOk (rows.drop (i + 1))) := by
      rw [List.drop_eq_getElem_cons hi2]; rfl
    rw [ev_step (fun k => by rw [impl_rowsOf.l0]), ev_pos (by omega), ev_pos (by omega), ev_pos (by omega), rd_L1_get hi2, hdrop]
    simp only [in_eq, Option.bind_some, decide_eq_true_eq]
    by_cases h : RowOk rows[i]
    · have h' := h
      unfold RowOk at h'
      rw [ev_pos (by omega), ev_pos (by omega), ev_pos (by omega), ev_pos (by omega), ev_pos (by omega), ev_pos (by rw [List.length_map, List.length_take]; omega), wrap_in _ (by omega)]
      simp only [h, decide_true, Bool.true_and]
      have := ih (i + 1) (by omega) (by omega)
      rw [List.take_succ_eq_append_getElem hi2, List.map_append] at this
      exact this
    · simp only [h, decide_false, Bool.false_and]
      unfold RowOk at h
      by_cases h1 : (rows[i].length : Int) = 2
      · rw [ev_pos h1, ev_pos (by omega)]
        by_cases h2 : 0 ≤ rd rows[i] 0 ∧ rd rows[i] 0 ≤ 59
        · rw [ev_pos h2, ev_pos (by omega), ev_neg (by omega), ev_some]
          rfl
        · rw [ev_neg h2, ev_some]
          rfl
      · rw [ev_neg h1, ev_some]
        rfl
theorem rowsOf_ev (rows : List (List Int)) (hm : rows.length ≤ 8796093022207) : Ev (fun k => impl_rowsOf.f k rows) (if rowsOk rows = true then (rows.map rowOf, decide (rows.length ≤ 20)) else ([], false)) := by
  simp only [impl_rowsOf.f]
  exact rowsOf_l0 rows hm rows.length 0 (by omega) (by omega)
/-- The first number from i on, of d in all, that p takes. -/
def firstFrom (p : Int → Bool) : Nat → Int → Option Int
  | 0, _ => none
  | d + 1, i => if p i = true then some i else firstFrom p d (i + 1)
def meetRes (st : Int) : Option Int → List Int × Bool
  | none => ([], false)
  | some n => ([n, st], true)
def meetP (a b : List Int) (st n : Int) : Bool := hasB (rd a 0) (rd a 1) n && hasB (rd b 0) (rd b 1) n && decide (st ≤ 60)
theorem spec_meet_l0 (a b : List Int) (ha : RowOk a) (hb : RowOk b) (st : Int) (d : Nat) : ∀ i : Int, 0 ≤ i → 60 - i = d → Ev (fun k => spec_RowsMeet.l0 k a b st i) (meetRes st (firstFrom (meetP a b st) d i)) := by
  induction d with
  | zero =>
    intro i h0 hd
    rw [ev_step (fun k => by rw [spec_RowsMeet.l0]), ev_neg (by omega), ev_some]
    rfl
  | succ d ih =>
    intro i h0 hd
    rw [ev_step (fun k => by rw [spec_RowsMeet.l0]), ev_pos (by omega), l3Has_eq a i ha h0 (by omega), l3Has_eq b i hb h0 (by omega), wrap_in _ (by omega)]
    simp only [Option.bind_some, firstFrom, meetP]
    have := ih (i + 1) (by omega) (by omega)
    by_cases e1 : hasB (rd a 0) (rd a 1) i = true <;> by_cases e2 : hasB (rd b 0) (rd b 1) i = true <;> by_cases h : st ≤ 60 <;> simp [e1, e2, h, ev_some, meetRes] <;> exact this
theorem impl_meet_l0 (a b : List Int) (ha : RowOk a) (hb : RowOk b) (st : Int) (d : Nat) : ∀ i : Int, 0 ≤ i → 60 - i = d → Ev (fun k => impl_RowsMeet.l0 k [rowOf a, rowOf b] st i) (meetRes st (firstFrom (meetP a b st) d i)) := by
  have ha' := ha
  have hb' := hb
  unfold RowOk at ha' hb'
  have h0 : rd_T54 [rowOf a, rowOf b] 0 = rowOf a := rfl
  have h1 : rd_T54 [rowOf a, rowOf b] 1 = rowOf b := rfl
  induction d with
  | zero =>
    intro i h0 hd
    rw [ev_step (fun k => by rw [impl_RowsMeet.l0]), ev_neg (by omega), ev_some]
    rfl
  | succ d ih =>
    intro i hi hd
    rw [ev_step (fun k => by rw [impl_RowsMeet.l0]), ev_pos (by omega), ev_pos (by simp), h0, h1]
    simp only [rowOf]
    rw [row_has_eq _ _ _ ha'.2.1 hi (by omega), row_has_eq _ _ _ hb'.2.1 hi (by omega), wrap_in _ (by omega)]
    simp only [Option.bind_some, firstFrom, meetP]
    have := ih (i + 1) (by omega) (by omega)
    simp only [rowOf] at this
    by_cases e1 : hasB (rd a 0) (rd a 1) i = true <;> by_cases e2 : hasB (rd b 0) (rd b 1) i = true <;> by_cases h : st ≤ 60 <;> simp [e1, e2, h, ev_some, meetRes] <;> exact this
def stepOf (a b : List Int) : Int := if rd a 1 > 0 ∧ rd b 1 > 0 then lcmI (rd a 1) (rd b 1) else 0
def meetC (a b : List Int) : List Int × Bool := if RowOk a ∧ RowOk b then meetRes (stepOf a b) (firstFrom (meetP a b (stepOf a b)) 60 0) else ([], false)
theorem step_bound {a b : List Int} (ha : RowOk a) (hb : RowOk b) : 0 ≤ stepOf a b ∧ stepOf a b ≤ 3600000000 := by
  unfold RowOk at ha hb
  unfold stepOf
  split
  · exact lcm_bound (by omega) (by omega) (by omega) (by omega)
  · omega
theorem spec_meet_ev (a b : List Int) : Ev (fun k => spec_RowsMeet.f k a b) (meetC a b) := by
  simp only [spec_RowsMeet.f, l3Row_eq, Option.bind_some, decide_eq_true_eq]
  unfold meetC
  by_cases ha : RowOk a
  · rw [ev_pos ha]
    by_cases hb : RowOk b
    · have ha' := ha
      have hb' := hb
      unfold RowOk at ha' hb'
      rw [if_pos ⟨ha, hb⟩, ev_step (fun k => by rw [spec_RowsMeet.j0])]
      rw [decide_eq_true hb, ev_neg (by simp), ev_pos (by omega)]
      have hl := spec_meet_l0 a b ha hb (stepOf a b) 60 0 (by omega) (by omega)
      by_cases h1 : rd a 1 > 0
      · rw [ev_pos h1, ev_pos (by omega), ev_step (fun k => by rw [spec_RowsMeet.j1])]
        by_cases h2 : rd b 1 > 0
        · have e : stepOf a b = lcmI (rd a 1) (rd b 1) := by unfold stepOf; rw [if_pos ⟨h1, h2⟩]
          have h3 := tdiv_bound (a := rd a 1) (g := ((Nat.gcd (rd a 1).toNat (rd b 1).toNat : Nat) : Int)) (by omega) (by omega)
          have h4 := step_bound ha hb
          rw [e] at h4
          rw [ev_pos (by simp [h2]), ev_pos (by omega), ev_pos (by omega), ev_bind (div_ev (by omega) (by omega)), ev_neg (gcd_pos (by omega)), ev_step (fun k => by rw [spec_RowsMeet.j2]), wrap_in (Int.tdiv _ _) (by omega)]
          rw [wrap_in _ (by unfold lcmI at h4; omega)]
          rw [e] at hl ⊢
          exact hl
        · have e : stepOf a b = 0 := by unfold stepOf; rw [if_neg (by omega)]
          rw [ev_neg (by simp [h2]), ev_step (fun k => by rw [spec_RowsMeet.j2])]
          rw [e] at hl ⊢
          exact hl
      · have e : stepOf a b = 0 := by unfold stepOf; rw [if_neg (by omega)]
        rw [ev_neg h1, ev_step (fun k => by rw [spec_RowsMeet.j1]), ev_neg (by simp), ev_step (fun k => by rw [spec_RowsMeet.j2])]
        rw [e] at hl ⊢
        exact hl
    · rw [if_neg (fun h => hb h.2), ev_step (fun k => by rw [spec_RowsMeet.j0]), decide_eq_false hb, ev_pos (by rfl), ev_some]
  · rw [ev_neg ha, if_neg (fun h => ha h.1), ev_step (fun k => by rw [spec_RowsMeet.j0]), ev_pos (by rfl), ev_some]
theorem impl_meet_ev (a b : List Int) : Ev (fun k => impl_RowsMeet.f k a b) (meetC a b) := by
  simp only [impl_RowsMeet.f]
  rw [ev_bind (rowsOf_ev [a, b] (by simp))]
  unfold meetC
  by_cases h : RowOk a ∧ RowOk b
  · obtain ⟨ha, hb⟩ := h
    have hk : rowsOk [a, b] = true := by simp [rowsOk, ha, hb]
    have ha' := ha
    have hb' := hb
    unfold RowOk at ha' hb'
    have g0 : (rd_T54 [rowOf a, rowOf b] 0).f1 = rd a 1 := rfl
    have g1 : (rd_T54 [rowOf a, rowOf b] 1).f1 = rd b 1 := rfl
    rw [if_pos hk, if_pos ⟨ha, hb⟩]
    simp only [List.map_cons, List.map_nil, g0, g1]
    have hl := impl_meet_l0 a b ha hb (stepOf a b) 60 0 (by omega) (by omega)
    rw [ev_pos (by simp), ev_pos (by simp)]
    by_cases h1 : rd a 1 > 0
    · rw [ev_pos h1, ev_pos (by simp), ev_step (fun k => by rw [impl_RowsMeet.j0])]
      simp only [g0, g1]
      by_cases h2 : rd b 1 > 0
      · have e : stepOf a b = lcmI (rd a 1) (rd b 1) := by unfold stepOf; rw [if_pos ⟨h1, h2⟩]
        rw [ev_pos (by simp [h2]), ev_pos (by simp), ev_pos (by simp), ev_bind (lcm_ev (by omega) (by omega) (by omega) (by omega)), ev_step (fun k => by rw [impl_RowsMeet.j1])]
        rw [e] at hl ⊢
        exact hl
      · have e : stepOf a b = 0 := by unfold stepOf; rw [if_neg (by omega)]
        rw [ev_neg (by simp [h2]), ev_step (fun k => by rw [impl_RowsMeet.j1])]
        rw [e] at hl ⊢
        exact hl
    · have e : stepOf a b = 0 := by unfold stepOf; rw [if_neg (by omega)]
      rw [ev_neg h1, ev_step (fun k => by rw [impl_RowsMeet.j0]), ev_neg (by simp), ev_step (fun k => by rw [impl_RowsMeet.j1])]
      rw [e] at hl ⊢
      exact hl
  · have hk : ¬ rowsOk [a, b] = true := by simpa [rowsOk] using h
    rw [if_neg hk, if_neg h, ev_neg (by simp), ev_some]
end Go.Proofs.Ythmhmmgackgaaaa.Pure
