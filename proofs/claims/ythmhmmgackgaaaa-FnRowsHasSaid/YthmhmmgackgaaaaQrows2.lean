/- What the laws' helpers over lists of lists come to, and which lists are rows. -/
import Derived.Test.YthmhmmgackgaaaaQrows
import Derived.Test.YthmhmmgackgaaaaG1
import Derived.Test.YthmhmmgackgaaaaG17
import Derived.Test.YthmhmmgackgaaaaG3
import Derived.Test.YthmhmmgackgaaaaG8
namespace Go.Proofs.Ythmhmmgackgaaaa.Pure
open Go.RowKit Go.Proofs.Ythmhmmgackgaaaa.G Go.Proofs.YthmhmmgackgaaaaW.PrintWords Go.Proofs.YthmhmmgackgaaaaW.PrintLast

theorem szIntS_eq (l : List Int) (a : Int) (ha : 0 ≤ a ∧ a ≤ 1048576) (hl : l.length ≤ maxLen) : laws_szIntS.f l a = some (if a - l.length < 0 then -1 else a - l.length) := by
  unfold maxLen at hl
  unfold laws_szIntS.f
  rw [wrap_in _ (by omega)]
  split <;> rfl
theorem sz_l0 (l : List (List Int)) (hm : l.length ≤ 1048576) (hl : ∀ r ∈ l, r.length ≤ maxLen) (d : Nat) : ∀ (i : Nat) (a : Int), l.length - i = d → i ≤ l.length → 0 ≤ a → a ≤ 1048576 → ∃ r, Ev (fun k => laws_szIntSS.l0 k l a (i : Int)) r ∧ (0 ≤ r → ∀ q ∈ l.drop i, q.length ≤ 1048576) := by
  induction d with
  | zero =>
    intro i a hd hi h0 h1
    refine ⟨a, ?_, fun _ q hq => ?_⟩
    · rw [ev_step (fun k => by rw [laws_szIntSS.l0]), ev_neg (by omega), ev_some]
    · rw [List.drop_of_length_le (by omega)] at hq
      simp at hq
  | succ d ih =>
    intro i a hd hi h0 h1
    have hi2 : i < l.length := by omega
    have hs := szIntS_eq l[i] a (by omega) (hl _ (List.getElem_mem hi2))
    by_cases hneg : a - l[i].length < 0
    · refine ⟨-1, ?_, fun h => by omega⟩
      rw [ev_step (fun k => by rw [laws_szIntSS.l0]), ev_pos (by omega), ev_pos (by omega), rd_L1_get hi2, ev_bind0 hs, if_pos hneg, ev_pos (by omega), ev_some]
    · obtain ⟨r, hr, hq⟩ := ih (i + 1) (a - l[i].length) (by omega) (by omega) (by omega) (by omega)
      refine ⟨r, ?_, fun h q hqm => ?_⟩
      · rw [ev_step (fun k => by rw [laws_szIntSS.l0]), ev_pos (by omega), ev_pos (by omega), rd_L1_get hi2, ev_bind0 hs, if_neg hneg, ev_neg hneg, wrap_in _ (by omega)]
        exact hr
      · rw [List.drop_eq_getElem_cons hi2, List.mem_cons] at hqm
        rcases hqm with rfl | hqm
        · omega
        · exact hq h q hqm
theorem sz_ev (l : List (List Int)) (hm : l.length ≤ maxLen) (hl : ∀ r ∈ l, r.length ≤ maxLen) : ∃ r, Ev (fun k => laws_szIntSS.f k l 1048576) r ∧ (0 ≤ r → l.length ≤ 1048576 ∧ ∀ q ∈ l, q.length ≤ 1048576) := by
  unfold maxLen at hm
  simp only [laws_szIntSS.f]
  by_cases h : (1048576 : Int) - l.length < 0
  · refine ⟨-1, ?_, fun h => by omega⟩
    rw [wrap_in _ (by omega), ev_pos h, ev_some]
  · obtain ⟨r, hr, hq⟩ := sz_l0 l (by omega) hl l.length 0 (1048576 - l.length) (by omega) (by omega) (by omega) (by omega)
    refine ⟨r, ?_, fun h => ⟨by omega, fun q hqm => hq h q (by simpa using hqm)⟩⟩
    rw [wrap_in _ (by omega), ev_neg h]
    exact hr
theorem toIntSS_l0 (x : List (List Int)) (hm : x.length ≤ 1048576) (hx : ∀ q ∈ x, q.length ≤ 1048576) (d : Nat) : ∀ (i : Nat) (y : List (List Int)), x.length - i = d → i ≤ x.length → y.length = x.length → y.take i = x.take i → Ev (fun k => laws_toIntSS.l0 k x y (i : Int)) x := by
  induction d with
  | zero =>
    intro i y hd hi hl ht
    rw [ev_step (fun k => by rw [laws_toIntSS.l0]), ev_neg (by omega), ev_some]
    rwa [List.take_of_length_le (by omega), List.take_of_length_le (by omega)] at ht
  | succ d ih =>
    intro i y hd hi hl ht
    have hi2 : i < x.length := by omega
    rw [ev_step (fun k => by rw [laws_toIntSS.l0]), ev_pos (by omega), ev_pos (by omega), rd_L1_get hi2, ev_bind (toIntS_ev x[i] (by have := hx _ (List.getElem_mem hi2); omega)), ev_pos (by omega), wrap_in _ (by omega), Int.toNat_natCast]
    exact ih (i + 1) _ (by omega) (by omega) (by rw [List.length_set]; exact hl) (take_set_next hi2 (by omega) ht)
theorem toIntSS_ev (x : List (List Int)) (hm : x.length ≤ 1048576) (hx : ∀ q ∈ x, q.length ≤ 1048576) : Ev (fun k => laws_toIntSS.f k x) x := by
  simp only [laws_toIntSS.f]
  rw [ev_pos (by omega), ev_pos (by omega)]
  exact toIntSS_l0 x hm hx x.length 0 _ (by omega) (by omega) (by simp) (by simp)
theorem eqIntSS_l0 (x : List (List Int)) (hm : x.length ≤ 1048576) (hx : ∀ q ∈ x, q.length ≤ 1048576) (d : Nat) : ∀ (i : Nat), x.length - i = d → i ≤ x.length → Ev (fun k => laws_eqIntSS.l0 k x x (i : Int)) true := by
  induction d with
  | zero =>
    intro i hd hi
    rw [ev_step (fun k => by rw [laws_eqIntSS.l0]), ev_neg (by omega), ev_some]
  | succ d ih =>
    intro i hd hi
    have hi2 : i < x.length := by omega
    rw [ev_step (fun k => by rw [laws_eqIntSS.l0]), ev_pos (by omega), ev_pos (by omega), ev_pos (by omega), rd_L1_get hi2, ev_bind (eqIntS_self x[i] (by have := hx _ (List.getElem_mem hi2); omega)), ev_pos rfl, wrap_in _ (by omega)]
    exact ih (i + 1) (by omega) (by omega)
theorem eqIntSS_self (x : List (List Int)) (hm : x.length ≤ 1048576) (hx : ∀ q ∈ x, q.length ≤ 1048576) : Ev (fun k => laws_eqIntSS.f k x x) true := by
  simp only [laws_eqIntSS.f]
  rw [ev_pos trivial]
  exact eqIntSS_l0 x hm hx x.length 0 (by omega) (by omega)
def rowsIn (l : List (List Int)) : Bool := rowsOk l && decide (l.length ≤ 20)
theorem l3Rows_l0 (l : List (List Int)) (hm : l.length ≤ 1048576) (d : Nat) : ∀ (i : Nat), l.length - i = d → i ≤ l.length → Ev (fun k => spec_l3Rows.l0 k l (i : Int)) (rowsOk (l.drop i) && decide (l.length ≤ 20)) := by
  induction d with
  | zero =>
    intro i hd hi
    rw [ev_step (fun k => by rw [spec_l3Rows.l0]), ev_neg (by omega), ev_some, List.drop_of_length_le (by omega)]
    show decide ((l.length : Int) ≤ 20) = (true && decide (l.length ≤ 20))
    rw [Bool.true_and]
    exact decide_eq_decide.2 (by omega)
  | succ d ih =>
    intro i hd hi
    have hi2 : i < l.length := by omega
    have hdrop : rowsOk (l.drop i) = (decide (RowOk l[i]) && rowsOk (l.drop (i + 1))) := by
      rw [List.drop_eq_getElem_cons hi2]; rfl
    rw [ev_step (fun k => by rw [spec_l3Rows.l0]), ev_pos (by omega), ev_pos (by omega), rd_L1_get hi2, ev_bind0 (l3Row_eq _), hdrop]
    by_cases h : RowOk l[i]
    · rw [decide_eq_true h, ev_pos rfl, wrap_in _ (by omega), Bool.true_and]
      exact ih (i + 1) (by omega) (by omega)
    · rw [decide_eq_false h, ev_neg (by simp), ev_some]
      rfl
theorem l3Rows_ev (l : List (List Int)) (hm : l.length ≤ 1048576) : Ev (fun k => spec_l3Rows.f k l) (rowsIn l) := by
  simp only [spec_l3Rows.f]
  exact l3Rows_l0 l hm l.length 0 (by omega) (by omega)
theorem spec_rowsIn_ev (l : List (List Int)) (hm : l.length ≤ 1048576) : Ev (fun k => spec_RowsIn.f k l) (rowsIn l) := by
  simp only [spec_RowsIn.f]
  rw [ev_bind (l3Rows_ev l hm), ev_some]
theorem impl_rowsIn_ev (l : List (List Int)) (hm : l.length ≤ 1048576) : Ev (fun k => impl_RowsIn.f k l) (rowsIn l) := by
  simp only [impl_RowsIn.f]
  rw [ev_bind (rowsOf_ev l (by omega)), ev_some]
  unfold rowsIn
  cases rowsOk l <;> simp
/-- How many rows have a number. -/
def manyB (l : List (List Int)) (n : Int) : Nat := (l.filter fun r => hasB (rd r 0) (rd r 1) n).length
theorem manyB_le (l : List (List Int)) (n : Int) : manyB l n ≤ l.length := List.length_filter_le _ _
theorem manyB_snoc (l : List (List Int)) {i : Nat} (hi : i < l.length) (n : Int) : manyB (l.take (i + 1)) n = manyB (l.take i) n + (if hasB (rd l[i] 0) (rd l[i] 1) n = true then 1 else 0) := by
  unfold manyB
  rw [List.take_succ_eq_append_getElem hi, List.filter_append, List.length_append]
  by_cases h : hasB (rd l[i] 0) (rd l[i] 1) n = true <;> simp [h]
theorem rowOk_get {l : List (List Int)} (h : rowsOk l = true) {i : Nat} (hi : i < l.length) : RowOk l[i] := by
  unfold rowsOk at h
  rw [List.all_eq_true] at h
  simpa using h _ (List.getElem_mem hi)
theorem many_l0 (l : List (List Int)) (hm : l.length ≤ 20) (hk : rowsOk l = true) (n : Int) (h0 : 0 ≤ n) (h1 : n ≤ 1000000) (d : Nat) : ∀ (i : Nat), l.length - i = d → i ≤ l.length → Ev (fun k => spec_l3Many.l0 k l n (manyB (l.take i) n : Int) (i : Int)) (manyB l n : Int) := by
  induction d with
  | zero =>
    intro i hd hi
    rw [ev_step (fun k => by rw [spec_l3Many.l0]), ev_neg (by omega), ev_some, List.take_of_length_le (by omega)]
  | succ d ih =>
    intro i hd hi
    have hi2 : i < l.length := by omega
    have hb := manyB_le (l.take i) n
    rw [List.length_take] at hb
    have := ih (i + 1) (by omega) (by omega)
    rw [manyB_snoc l hi2] at this
    rw [ev_step (fun k => by rw [spec_l3Many.l0]), ev_pos (by omega), ev_pos (by omega), rd_L1_get hi2, ev_bind0 (l3Has_eq _ n (rowOk_get hk hi2) h0 h1), wrap_in (i + 1) (by omega), wrap_in _ (by omega)]
    by_cases e : hasB (rd l[i] 0) (rd l[i] 1) n = true
    · rw [ev_pos e]
      rw [if_pos e] at this
      exact this
    · rw [ev_neg e]
      rw [if_neg e] at this
      exact this
theorem spec_many_ev (l : List (List Int)) (hk : rowsIn l = true) (n : Int) (h0 : 0 ≤ n) (h1 : n ≤ 1000000) : Ev (fun k => spec_l3Many.f k l n) (manyB l n : Int) := by
  unfold rowsIn at hk
  rw [Bool.and_eq_true, decide_eq_true_eq] at hk
  simp only [spec_l3Many.f]
  exact many_l0 l hk.2 hk.1 n h0 h1 l.length 0 (by omega) (by omega)
def hasC (l : List (List Int)) (n : Int) : Int × Bool := if rowsIn l = true ∧ (0 ≤ n ∧ n ≤ 10000) then ((manyB l n : Int), true) else (0, false)
theorem spec_rowsHas_ev (l : List (List Int)) (hm : l.length ≤ 1048576) (n : Int) : Ev (fun k => spec_RowsHas.f k l n) (hasC l n) := by
  simp only [spec_RowsHas.f, l6In_eq]
  rw [ev_bind (l3Rows_ev l hm)]
  unfold hasC
  by_cases h : rowsIn l = true
  · rw [ev_pos h, ev_bind0 rfl]
    by_cases hn : 0 ≤ n ∧ n ≤ 10000
    · rw [ev_pos (by rw [decide_eq_true_eq]; exact hn), ev_bind (spec_many_ev l h n hn.1 (by omega)), ev_some, if_pos ⟨h, hn⟩]
    · rw [ev_neg (by rw [decide_eq_true_eq]; exact hn), ev_some, if_neg (fun k => hn k.2)]
  · rw [ev_neg h, ev_some, if_neg (fun k => h k.1)]
theorem impl_has_l0 (l : List (List Int)) (hm : l.length ≤ 20) (hk : rowsOk l = true) (n : Int) (h0 : 0 ≤ n) (h1 : n ≤ 1000000) (d : Nat) : ∀ (i : Nat), l.length - i = d → i ≤ l.length → Ev (fun k => impl_RowsHas.l0 k n (manyB (l.take i) n : Int) (l.map rowOf) ((l.map rowOf).length : Int) (i : Int)) ((manyB l n : Int), true) := by
  induction d with
  | zero =>
    intro i hd hi
    rw [ev_step (fun k => by rw [impl_RowsHas.l0]), List.length_map, ev_neg (by omega), ev_some, List.take_of_length_le (by omega)]
  | succ d ih =>
    intro i hd hi
    have hi2 : i < l.length := by omega
    have hb := manyB_le (l.take i) n
    rw [List.length_take] at hb
    have hr := rowOk_get hk hi2
    unfold RowOk at hr
    have hg : rd_T54 (l.map rowOf) (i : Int) = rowOf l[i] := by
      simp [rd_T54, List.getD_eq_getElem?_getD, hi2]
    have := ih (i + 1) (by omega) (by omega)
    rw [manyB_snoc l hi2, List.length_map] at this
    rw [ev_step (fun k => by rw [impl_RowsHas.l0]), List.length_map, ev_pos (by omega), ev_pos (by omega), ev_pos (by omega), hg]
    simp only [rowOf]
    rw [ev_bind0 (row_has_eq _ _ n hr.2.1 h0 h1), wrap_in (i + 1) (by omega), wrap_in _ (by omega)]
    by_cases e : hasB (rd l[i] 0) (rd l[i] 1) n = true
    · rw [ev_pos e]
      rw [if_pos e] at this
      exact this
    · rw [ev_neg e]
      rw [if_neg e] at this
      exact this
theorem impl_rowsHas_ev (l : List (List Int)) (hm : l.length ≤ 1048576) (n : Int) : Ev (fun k => impl_RowsHas.f k l n) (hasC l n) := by
  simp only [impl_RowsHas.f, in_eq]
  rw [ev_bind (rowsOf_ev l (by omega))]
  unfold hasC rowsIn
  by_cases h : rowsOk l = true
  · rw [if_pos h]
    by_cases h2 : l.length ≤ 20
    · rw [ev_pos (by simpa using h2), ev_bind0 rfl, ev_step (fun k => by rw [impl_RowsHas.j0])]
      by_cases hn : 0 ≤ n ∧ n ≤ 10000
      · rw [ev_neg (by simp [hn]), if_pos ⟨by simp [h, h2], hn⟩]
        exact impl_has_l0 l h2 h n hn.1 (by omega) l.length 0 (by omega) (by omega)
      · rw [ev_pos (by simp only [hn, decide_false, Bool.not_false]), ev_some, if_neg (fun k => hn k.2)]
    · rw [ev_neg (by simpa using h2), ev_step (fun k => by rw [impl_RowsHas.j0]), ev_pos rfl, ev_some, if_neg (fun k => by simp [h2] at k)]
  · rw [if_neg h, ev_neg (by simp), ev_step (fun k => by rw [impl_RowsHas.j0]), ev_pos rfl, ev_some, if_neg (fun k => by simp [h] at k)]
end Go.Proofs.Ythmhmmgackgaaaa.Pure
