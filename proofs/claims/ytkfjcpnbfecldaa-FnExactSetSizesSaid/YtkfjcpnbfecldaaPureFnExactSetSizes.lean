/- The law FnExactSetSizes answers true for every text. It has no condition. -/
import Derived.Test.YtkfjcpnbfecldaaQsize
import Derived.Test.YtkfjcpnbfecldaaG10
import Derived.Test.YtkfjcpnbfecldaaG4
namespace Go.Proofs.Ytkfjcpnbfecldaa.Pure
open Go.RowKit Go.Proofs.Ytkfjcpnbfecldaa.G Go.Proofs.YtkfjcpnbfecldaaW.PrintWords Go.Proofs.YtkfjcpnbfecldaaW.PrintLast

theorem FnExactSetSizes : laws_FnExactSetSizes.Pure := by
  intro a hs0
  refine Ev.rounds ?_
  simp only [laws_FnExactSetSizes.f]
  by_cases c : (a.size : Int) > 1048576
  · rw [ev_pos c, ev_some]
  have hs : a.size ≤ 1048576 := by omega
  rw [ev_neg c]
  cases hc : setC a.data.toList with
  | none =>
    have e : Ev (fun k => spec_SetSizes.f k a) (0, 0, false) := by
      simp only [spec_SetSizes.f]
      rw [ev_bind (spec_none hs hc), ev_neg (by decide), ev_some]
    rw [ev_bind e, ev_bind (impl_sizes_none hs hc), ev_pos rfl, ev_pos rfl, ev_neg (by decide), ev_some]
  | some q =>
    obtain ⟨t, r⟩ := q
    have e : Ev (fun k => spec_SetSizes.f k a) (((nf t r).1.length : Int), ((nf t r).2.length : Int), true) := by
      simp only [spec_SetSizes.f]
      rw [ev_bind (spec_some hs hc), ev_pos rfl, ev_bind (less_ok (setC_ok hc)), ev_some]
    rw [ev_bind e, ev_bind (impl_sizes_some hs hc), ev_pos rfl, ev_pos rfl, ev_neg (by simp), ev_some]
end Go.Proofs.Ytkfjcpnbfecldaa.Pure
