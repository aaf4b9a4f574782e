/- The law FnExactSetCount answers true for every text and number. It has no condition. -/
import Derived.Test.YthffkehkjgnalaaQset4
import Derived.Test.YthffkehkjgnalaaG14
namespace Go.Proofs.Ythffkehkjgnalaa.Pure
open Go.RowKit Go.Proofs.Ythffkehkjgnalaa.G Go.Proofs.YthffkehkjgnalaaW.PrintWords Go.Proofs.YthffkehkjgnalaaW.PrintLast

theorem FnExactSetCount : laws_FnExactSetCount.Pure := by
  intro a n hs hn
  refine Ev.rounds ?_
  simp only [laws_FnExactSetCount.f]
  by_cases c : (a.size : Int) > 1048576
  · rw [ev_pos c, ev_some]
  have hs2 : a.size ≤ 1048576 := by omega
  rw [ev_neg c, ev_bind (spec_setCount_ev a n hs2), ev_bind (impl_setCount_ev a n hs2), ev_pos rfl, ev_neg (by simp), ev_some]
end Go.Proofs.Ythffkehkjgnalaa.Pure
