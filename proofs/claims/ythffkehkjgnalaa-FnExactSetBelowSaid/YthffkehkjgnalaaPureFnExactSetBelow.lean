/- The law FnExactSetBelow answers true for every two texts. It has no condition. -/
import Derived.Test.YthffkehkjgnalaaQset5
import Derived.Test.YthffkehkjgnalaaG21
namespace Go.Proofs.Ythffkehkjgnalaa.Pure
open Go.RowKit Go.Proofs.Ythffkehkjgnalaa.G Go.Proofs.YthffkehkjgnalaaW.PrintWords Go.Proofs.YthffkehkjgnalaaW.PrintLast

theorem FnExactSetBelow : laws_FnExactSetBelow.Pure := by
  intro a b hs ht
  refine Ev.rounds ?_
  simp only [laws_FnExactSetBelow.f]
  by_cases c : (a.size : Int) > 1048576
  · rw [ev_pos c, ev_some]
  by_cases d : (b.size : Int) > 1048576
  · rw [ev_neg c, ev_pos d, ev_some]
  have ha : a.size ≤ 1048576 := by omega
  have hb : b.size ≤ 1048576 := by omega
  rw [ev_neg c, ev_neg d, ev_bind (spec_below_ev a b ha hb), ev_bind (impl_below_ev a b ha hb), ev_neg (by simp), ev_some]
end Go.Proofs.Ythffkehkjgnalaa.Pure
