/- Rows: which lists are rows, divisors and multiples: the program's functions and the reference's. -/
import Derived.Test.YtdiaifmlockohaaQkit3
import Derived.Test.YtdiaifmlockohaaG1
import Derived.Test.YtdiaifmlockohaaG2
import Derived.Test.YtdiaifmlockohaaG3
import Derived.Test.YtdiaifmlockohaaG4
namespace Go.Proofs.Ytdiaifmlockohaa.Pure
open Go.RowKit Go.Proofs.Ytdiaifmlockohaa.G Go.Proofs.YtdiaifmlockohaaW.PrintWords Go.Proofs.YtdiaifmlockohaaW.PrintLast

theorem l6In_eq (n lo hi : Int) : spec_l6In.f n lo hi = some (decide (lo ≤ n ∧ n ≤ hi)) := ite_bool
theorem in_eq (n lo hi : Int) : impl_in.f n lo hi = some (decide (lo ≤ n ∧ n ≤ hi)) := ite_bool
/-- A row of two numbers that are in their ranges. -/
def RowOk (l : List Int) : Prop := l.length = 2 ∧ (0 ≤ rd l 0 ∧ rd l 0 ≤ 59) ∧ (0 ≤ rd l 1 ∧ rd l 1 ≤ 60)
instance (l : List Int) : Decidable (RowOk l) := by unfold RowOk; exact inferInstance
theorem l3Row_eq (l : List Int) : spec_l3Row.f l = some (decide (RowOk l)) := by
  unfold spec_l3Row.f
  simp only [l6In_eq, Option.bind_some, decide_eq_true_eq]
  (repeat' split) <;> simp only [some_dec, some_false, none_some] <;> (try unfold RowOk) <;> omega
/-- Euclid's loop. -/
theorem gcd_nat (d : Nat) : ∀ (m n : Nat), n ≤ d → Ev (fun k => impl_gcd.l0 k (m : Int) (n : Int)) ((Nat.gcd m n : Nat) : Int) := by
  induction d with
  | zero =>
    intro m n hn
    obtain rfl : n = 0 := by omega
    rw [ev_step (fun k => by rw [impl_gcd.l0]), ev_pos (show ((0 : Nat) : Int) = 0 from rfl), ev_some, Nat.gcd_zero_right]
  | succ d ih =>
    intro m n hn
    rw [ev_step (fun k => by rw [impl_gcd.l0])]
    by_cases h : n = 0
    · subst h
      rw [ev_pos (show ((0 : Nat) : Int) = 0 from rfl), ev_some, Nat.gcd_zero_right]
    · have := Nat.mod_lt m (show n > 0 by omega)
      rw [ev_neg (by omega), ← Int.ofNat_tmod, Nat.gcd_comm m n, Nat.gcd_rec n m, Nat.gcd_comm]
      exact ih n (m % n) (by omega)
theorem gcd_ev {a b : Int} (ha : 0 ≤ a) (hb : 0 ≤ b) : Ev (fun k => impl_gcd.f k a b) ((Nat.gcd a.toNat b.toNat : Nat) : Int) := by
  obtain ⟨m, rfl⟩ := Int.eq_ofNat_of_zero_le ha
  obtain ⟨n, rfl⟩ := Int.eq_ofNat_of_zero_le hb
  exact gcd_nat n m n (Nat.le_refl _)
theorem div_nat (d : Nat) : ∀ (m n : Nat), n ≤ d → Ev (fun k => spec_l1Divisor.l0 k (m : Int) (n : Int)) ((Nat.gcd m n : Nat) : Int) := by
  induction d with
  | zero =>
    intro m n hn
    obtain rfl : n = 0 := by omega
    rw [ev_step (fun k => by rw [spec_l1Divisor.l0]), ev_neg (by omega), ev_some, Nat.gcd_zero_right]
  | succ d ih =>
    intro m n hn
    rw [ev_step (fun k => by rw [spec_l1Divisor.l0])]
    by_cases h : n = 0
    · subst h
      rw [ev_neg (by omega), ev_some, Nat.gcd_zero_right]
    · have := Nat.mod_lt m (show n > 0 by omega)
      rw [ev_pos (by omega), ev_neg (by omega), ← Int.ofNat_tmod, Nat.gcd_comm m n, Nat.gcd_rec n m, Nat.gcd_comm]
      exact ih n (m % n) (by omega)
theorem div_ev {a b : Int} (ha : 0 ≤ a) (hb : 0 ≤ b) : Ev (fun k => spec_l1Divisor.f k a b) ((Nat.gcd a.toNat b.toNat : Nat) : Int) := by
  obtain ⟨m, rfl⟩ := Int.eq_ofNat_of_zero_le ha
  obtain ⟨n, rfl⟩ := Int.eq_ofNat_of_zero_le hb
  exact div_nat n m n (Nat.le_refl _)
/-- What 'a / gcd * b' comes to. -/
def lcmI (a b : Int) : Int := a.tdiv ((Nat.gcd a.toNat b.toNat : Nat) : Int) * b
theorem gcd_pos {a b : Int} (ha : 0 < a) : ((Nat.gcd a.toNat b.toNat : Nat) : Int) ≠ 0 := by
  have := Nat.gcd_pos_of_pos_left b.toNat (show 0 < a.toNat by omega)
  omega
theorem tdiv_bound {a g : Int} (ha : 0 ≤ a) (hg : 0 ≤ g) : 0 ≤ a.tdiv g ∧ a.tdiv g ≤ a := by
  rw [Int.tdiv_eq_ediv_of_nonneg ha]
  exact ⟨Int.ediv_nonneg ha hg, Int.ediv_le_self _ ha⟩
theorem lcm_bound {a b : Int} (ha : 0 ≤ a) (hb : 0 ≤ b) (hA : a ≤ 60000000) (hB : b ≤ 60) : 0 ≤ lcmI a b ∧ lcmI a b ≤ 3600000000 := by
  have h := tdiv_bound (g := ((Nat.gcd a.toNat b.toNat : Nat) : Int)) ha (by omega)
  unfold lcmI
  refine ⟨Int.mul_nonneg h.1 hb, ?_⟩
  exact Int.le_trans (Int.mul_le_mul h.2 hB hb ha) (by omega)
theorem lcm_ev {a b : Int} (ha : 0 < a) (hb : 0 ≤ b) (hA : a ≤ 60000000) (hB : b ≤ 60) : Ev (fun k => impl_lcm.f k a b) (lcmI a b) := by
  have h := tdiv_bound (g := ((Nat.gcd a.toNat b.toNat : Nat) : Int)) (Int.le_of_lt ha) (by omega)
  have h2 := lcm_bound (Int.le_of_lt ha) hb hA hB
  simp only [impl_lcm.f]
  rw [ev_bind (gcd_ev (Int.le_of_lt ha) hb), ev_neg (gcd_pos ha), ev_some, wrap_in (a.tdiv _) (by omega)]
  exact wrap_in _ (by unfold lcmI at h2; omega)
abbrev Row := S42
def rowOf (l : List Int) : Row := ⟨rd l 0, rd l 1⟩
def rowsOk (rows : List (List Int)) : Bool := rows.all fun l => decide (RowOk l)
theorem rd_L1_get {l : List (List Int)} {i : Nat} (h : i < l.length) : rd_L1 l (i : Int) = l[i] := by
  simp [rd_L1, List.getD_eq_getElem?_getD, h]
theorem rowsOf_l0 (rows : List (List Int)) (hm : rows.length ≤ 8796093022207) (d : Nat) : ∀ (i : Nat), rows.length - i = d → i ≤ rows.length →
    Ev (fun k => impl_rowsOf.l0 k ((rows.take i).map rowOf) rows (rows.length : Int) (i : Int)) (if rowsOk (rows.drop i) = true then (rows.map rowOf, decide (rows.length ≤ 20)) else ([], false)) := by
  induction d with
  | zero =>
    intro i hd hi
    rw [ev_step (fun k => by rw [impl_rowsOf.l0]), ev_neg (by omega), ev_some, List.drop_of_length_le (by omega), List.take_of_length_le (by omega), if_pos (by rfl), List.length_map]
    congr 1
    exact decide_eq_decide.2 (by omega)
  | succ d ih =>
    intro i hd hi
    have hi2 : i < rows.length := by omega
    have hdrop : rowsOk (rows.drop i) = (decide (RowOk rows[i]) && rowsOk (rows.drop (i + 1))) := by
      rw [List.drop_eq_getElem_cons hi2]; rfl
    rw [ev_step (fun k => by rw [impl_rowsOf.l0]), ev_pos (by omega), ev_pos (by omega), ev_pos (by omega), rd_L1_get hi2, hdrop]
    simp only [in_eq, Option.bind_some, decide_eq_true_eq]
    by_cases h : RowOk rows[i]
    · have h' := h
      unfold RowOk at h'
      rw [ev_pos (by omega), ev_pos (by omega), ev_pos (by omega), ev_pos (by omega), ev_pos (by omega), ev_pos (by rw [List.length_map, List.length_take]; omega), wrap_in _ (by omega)]
      simp only [h, decide_true, Bool.true_and]
      have := ih (i + 1) (by omega) (by omega)
      rw [List.take_succ_eq_append_getElem hi2, List.map_append] at this
      exact this
    · simp only [h, decide_false, Bool.false_and]
      unfold RowOk at h
      by_cases h1 : (rows[i].length : Int) = 2
      · rw [ev_pos h1, ev_pos (by omega)]
        by_cases h2 : 0 ≤ rd rows[i] 0 ∧ rd rows[i] 0 ≤ 59
        · rw [ev_pos h2, ev_pos (by omega), ev_neg (by omega), ev_some]
          rfl
        · rw [ev_neg h2, ev_some]
          rfl
      · rw [ev_neg h1, ev_some]
        rfl
theorem rowsOf_ev (rows : List (List Int)) (hm : rows.length ≤ 8796093022207) : Ev (fun k => impl_rowsOf.f k rows) (if rowsOk rows = true then (rows.map rowOf, decide (rows.length ≤ 20)) else ([], false)) := by
  simp only [impl_rowsOf.f]
  exact rowsOf_l0 rows hm rows.length 0 (by omega) (by omega)
def rowsIn (l : List (List Int)) : Bool := rowsOk l && decide (l.length ≤ 20)
theorem l3Rows_l0 (l : List (List Int)) (hm : l.length ≤ 1048576) (d : Nat) : ∀ (i : Nat), l.length - i = d → i ≤ l.length → Ev (fun k => spec_l3Rows.l0 k l (i : Int)) (rowsOk (l.drop i) && decide (l.length ≤ 20)) := by
  induction d with
  | zero =>
    intro i hd hi
    rw [ev_step (fun k => by rw [spec_l3Rows.l0]), ev_neg (by omega), ev_some, List.drop_of_length_le (by omega)]
    show decide ((l.length : Int) ≤ 20) = (true && decide (l.length ≤ 20))
    rw [Bool.true_and]
    exact decide_eq_decide.2 (by omega)
  | succ d ih =>
    intro i hd hi
    have hi2 : i < l.length := by omega
    have hdrop : rowsOk (l.drop i) = (decide (RowOk l[i]) && rowsOk (l.drop (i + 1))) := by
      rw [List.drop_eq_getElem_cons hi2]; rfl
    rw [ev_step (fun k => by rw [spec_l3Rows.l0]), ev_pos (by omega), ev_pos (by omega), rd_L1_get hi2, ev_bind0 (l3Row_eq _), hdrop]
    by_cases h : RowOk l[i]
    · rw [decide_eq_true h, ev_pos rfl, wrap_in _ (by omega), Bool.true_and]
      exact ih (i + 1) (by omega) (by omega)
    · rw [decide_eq_false h, ev_neg (by simp), ev_some]
      rfl
theorem l3Rows_ev (l : List (List Int)) (hm : l.length ≤ 1048576) : Ev (fun k => spec_l3Rows.f k l) (rowsIn l) := by
  simp only [spec_l3Rows.f]
  exact l3Rows_l0 l hm l.length 0 (by omega) (by omega)
theorem rowOk_get {l : List (List Int)} (h : rowsOk l = true) {i : Nat} (hi : i < l.length) : RowOk l[i] := by
  unfold rowsOk at h
  rw [List.all_eq_true] at h
  simpa using h _ (List.getElem_mem hi)
end Go.Proofs.Ytdiaifmlockohaa.Pure
