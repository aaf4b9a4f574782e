/- The law FnExactSetEnds answers true for every text. It has no condition. -/
import Derived.Test.YthffkehkjgnalaaQset2
import Derived.Test.YthffkehkjgnalaaG10
import Derived.Test.YthffkehkjgnalaaG9
namespace Go.Proofs.Ythffkehkjgnalaa.Pure
open Go.RowKit Go.Proofs.Ythffkehkjgnalaa.G Go.Proofs.YthffkehkjgnalaaW.PrintWords Go.Proofs.YthffkehkjgnalaaW.PrintLast

theorem getD_lt (l : List Bool) {i : Nat} (h : i < l.length) : l.getD i false = l[i] := by
  rw [List.getD_eq_getElem?_getD, List.getElem?_eq_getElem h, Option.getD_some]
theorem index_l0 (r : List Bool) (hr : r.length ≤ 60) (d : Nat) : ∀ (i : Nat), r.length - i = d → i ≤ r.length → ∃ v, Ev (fun k => slices_Index_bool_bool.l0 k r true (r.length : Int) (i : Int)) v ∧ decide (v ≥ 0) = (r.drop i).any id := by
  induction d with
  | zero =>
    intro i hd hi
    refine ⟨-1, ?_, ?_⟩
    · rw [ev_step (fun k => by rw [slices_Index_bool_bool.l0]), ev_neg (by omega), ev_some]
    · rw [List.drop_of_length_le (by omega)]
      rfl
  | succ d ih =>
    intro i hd hi
    have hi2 : i < r.length := by omega
    rw [List.drop_eq_getElem_cons hi2]
    by_cases c : r[i] = true
    · refine ⟨(i : Int), ?_, ?_⟩
      · rw [ev_step (fun k => by rw [slices_Index_bool_bool.l0]), ev_pos (by omega), ev_pos (by omega), ev_pos (by omega), ev_pos (by rw [rdOf_nat, getD_lt r hi2, c]; rfl), ev_some]
      · rw [decide_eq_true (by omega), List.any_cons, c]
        rfl
    · obtain ⟨v, e, f⟩ := ih (i + 1) (by omega) (by omega)
      refine ⟨v, ?_, ?_⟩
      · rw [ev_step (fun k => by rw [slices_Index_bool_bool.l0]), ev_pos (by omega), ev_pos (by omega), ev_pos (by omega), ev_neg (by rw [rdOf_nat, getD_lt r hi2, Bool.eq_false_iff.2 c]; decide), wrap_in _ (by omega)]
        exact e
      · rw [f, List.any_cons, Bool.eq_false_iff.2 c]
        rfl
theorem contains_ev (r : List Bool) (hr : r.length ≤ 60) : Ev (fun k => slices_Contains_bool_bool.f k r true) (r.any id) := by
  obtain ⟨v, e, f⟩ := index_l0 r hr r.length 0 (by omega) (by omega)
  simp only [slices_Contains_bool_bool.f, slices_Index_bool_bool.f]
  rw [List.drop_zero] at f
  rw [← f]
  have e0 : Ev (fun k => slices_Index_bool_bool.l0 k r true (r.length : Int) 0) v := e
  rw [ev_bind e0, ev_some]
theorem ends_l0 (t r : List Bool) (hr : r.length ≤ 60) (d : Nat) : ∀ (i : Nat), r.length - i = d → i ≤ r.length → Ev (fun k => spec_l1Ends.l0 k (i : Int) t r) (!(r.drop i).any id) := by
  induction d with
  | zero =>
    intro i hd hi
    rw [ev_step (fun k => by rw [spec_l1Ends.l0]), ev_neg (by omega), ev_some, List.drop_of_length_le (by omega)]
    rfl
  | succ d ih =>
    intro i hd hi
    have hi2 : i < r.length := by omega
    rw [List.drop_eq_getElem_cons hi2]
    by_cases c : r[i] = true
    · rw [ev_step (fun k => by rw [spec_l1Ends.l0]), ev_pos (by omega), ev_pos (by omega), ev_pos (by rw [rdOf_nat, getD_lt r hi2, c]), ev_some, List.any_cons, c]
      rfl
    · rw [ev_step (fun k => by rw [spec_l1Ends.l0]), ev_pos (by omega), ev_pos (by omega), ev_neg (by rw [rdOf_nat, getD_lt r hi2]; exact c), wrap_in _ (by omega), List.any_cons, Bool.eq_false_iff.2 c]
      exact ih (i + 1) (by omega) (by omega)
theorem ends_ev (t r : List Bool) (hr : r.length ≤ 60) : Ev (fun k => spec_l1Ends.f k t r) (!r.any id) := by
  have := ends_l0 t r hr r.length 0 (by omega) (by omega)
  rw [List.drop_zero] at this
  simp only [spec_l1Ends.f]
  exact this
theorem FnExactSetEnds : laws_FnExactSetEnds.Pure := by
  intro a hs
  refine Ev.rounds ?_
  simp only [laws_FnExactSetEnds.f]
  by_cases c : (a.size : Int) > 1048576
  · rw [ev_pos c, ev_some]
  have hs2 : a.size ≤ 1048576 := by omega
  have key : ∃ v, Ev (fun k => spec_SetEnds.f k a) v ∧ Ev (fun k => impl_SetEnds.f k a) v := by
    simp only [spec_SetEnds.f, impl_SetEnds.f]
    cases hc : setC a.data.toList with
    | none =>
      obtain ⟨t, r, e⟩ := impl_none hs2 hc
      refine ⟨false, ?_, ?_⟩
      · rw [ev_bind (spec_none hs2 hc), ev_neg (by decide), ev_some]
      · rw [ev_bind0 e, ev_neg (by simp), ev_some]
    | some q =>
      obtain ⟨t, r⟩ := q
      have ok := setC_ok hc
      refine ⟨!r.any id, ?_, ?_⟩
      · rw [ev_bind (spec_some hs2 hc), ev_pos rfl, ev_bind (ends_ev t r ok.r60), ev_some]
      · rw [ev_bind0 (impl_some hs2 hc), ev_pos rfl, ev_bind (contains_ev r ok.r60), ev_some]
  obtain ⟨v, e1, e2⟩ := key
  rw [ev_neg c, ev_bind e1, ev_bind e2, ev_neg (by simp), ev_some]
end Go.Proofs.Ythffkehkjgnalaa.Pure
