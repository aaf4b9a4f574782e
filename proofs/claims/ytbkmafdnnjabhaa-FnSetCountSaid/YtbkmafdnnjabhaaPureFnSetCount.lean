/- The law FnSetCount answers true for every text and number that are drawn. It has no condition. -/
import Derived.Test.YtbkmafdnnjabhaaQset4
import Derived.Test.YtbkmafdnnjabhaaQsetd
import Derived.Test.YtbkmafdnnjabhaaQnumd
import Derived.Test.YtbkmafdnnjabhaaG14
import Derived.Test.YtbkmafdnnjabhaaG16
namespace Go.Proofs.Ytbkmafdnnjabhaa.Pure
open Go.RowKit Go.Proofs.Ytbkmafdnnjabhaa.G Go.Proofs.YtbkmafdnnjabhaaW.PrintWords Go.Proofs.YtbkmafdnnjabhaaW.PrintLast

theorem FnSetCount : laws_FnSetCount.Pure := by
  intro l0 hm _ hw
  refine Ev.rounds ?_
  simp only [laws_FnSetCount.f]
  by_cases c : (l0.length : Int) > 1048576
  · rw [ev_pos c, ev_some]
  obtain ⟨s, hs0, e⟩ := open_ev l0 hw
  obtain ⟨a, q, g1, g2, g3⟩ := dset_ev s hs0 0 (by omega)
  obtain ⟨n, q2, h1, h2, h3⟩ := dnum_ev s hs0 q (by omega) 1000 (by omega)
  have hs : a.size ≤ 1048576 := by omega
  have d : Ev (fun k => spec_DrawSetCount.f k l0) (a, n) := by
    simp only [spec_DrawSetCount.f]
    rw [ev_bind0 e, ev_bind g3, ev_bind h3, ev_some]
  rw [ev_neg c, ev_bind d, ev_bind (impl_setCount_ev a n hs), ev_bind (spec_setCount_ev a n hs), ev_pos rfl, ev_pos (by simp)]
  by_cases z : (listS a.data.toList n).2 = true
  · rw [ev_pos z, ev_bind (impl_setList_ev a n hs), ev_pos z, ev_some]
    simp
  · rw [ev_neg z, ev_some]
    simp
end Go.Proofs.Ytbkmafdnnjabhaa.Pure
