/- The law FnExactTermHas answers true for every text and every number. It has no condition. -/
import Derived.Test.YtijmkmbepjjphaaQhas
import Derived.Test.YtijmkmbepjjphaaG16
namespace Go.Proofs.Ytijmkmbepjjphaa.Pure
open Go.RowKit Go.Proofs.Ytijmkmbepjjphaa.G Go.Proofs.Ytijmkmbepjjphaa.G.X Go.Proofs.YtijmkmbepjjphaaW.PrintWords Go.Proofs.YtijmkmbepjjphaaW.PrintLast
theorem in_eq (n : Int) : spec_l6In.f n 0 200 = some (decide (0 ≤ n) && decide (n ≤ 200)) := by
  unfold spec_l6In.f
  by_cases h : n ≥ 0
  · rw [if_pos h, decide_eq_true (show 0 ≤ n from h)]
    simp
  · rw [if_neg h, decide_eq_false (show ¬ 0 ≤ n from h)]
    simp
theorem FnExactTermHas : laws_FnExactTermHas.Pure := by
  intro a n _ hn
  refine Ev.rounds ?_
  simp only [laws_FnExactTermHas.f]
  by_cases c : (a.size : Int) > 1048576
  · rw [ev_pos c, ev_some]
  rw [ev_neg c]
  have h : Ev (fun k => spec_TermHas.f k a n) (th_out a.data.toList n) := by
    simp only [spec_TermHas.f]
    rw [ev_bind0 (of_eq a), of_out, th_out]
    cases ho : te_of a.data.toList with
    | none => exact (ev_neg (by simp)).2 ((ev_some _ _).2 rfl)
    | some x =>
      refine (ev_pos rfl).2 ((ev_bind0 (in_eq n)).2 ?_)
      by_cases h0 : 0 ≤ n ∧ n ≤ 200
      · obtain ⟨m, rfl⟩ := Int.eq_ofNat_of_zero_le h0.1
        obtain ⟨r, h1, h2, h3⟩ := marks_ev (N := m + 1) (by omega) (by omega) (of_wt ho)
        have hw : wrap64 ((m : Int) + 1) = ((m + 1 : Nat) : Int) := by unfold wrap64; omega
        rw [decide_eq_true h0.1, decide_eq_true h0.2, hw]
        refine (ev_pos rfl).2 ((ev_bind h3).2 ((ev_pos (by omega)).2 ((ev_pos (by omega)).2 ((ev_some _ _).2 ?_))))
        rw [rd_mkb, h2 m (by omega), Int.toNat_natCast]
        rfl
      · have hf : (decide (0 ≤ n) && decide (n ≤ 200)) = false := by
          by_cases h1 : 0 ≤ n
          · rw [decide_eq_false (fun h => h0 ⟨h1, h⟩)]
            simp
          · rw [decide_eq_false h1]
            rfl
        have hg : (decide (0 ≤ n) && (decide (n ≤ 200) && den x n.toNat)) = false := by rw [← Bool.and_assoc, hf]; rfl
        rw [hf]
        exact (ev_neg (by decide)).2 ((ev_some _ _).2 hg.symm)
  rw [ev_bind h, ev_bind0 (show impl_TermHas.f a n = some (th_out a.data.toList n) from rfl), ev_neg (by simp), ev_some]
end Go.Proofs.Ytijmkmbepjjphaa.Pure
