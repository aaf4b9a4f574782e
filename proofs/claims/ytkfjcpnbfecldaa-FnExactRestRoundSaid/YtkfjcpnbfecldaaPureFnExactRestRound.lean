/- The law FnExactRestRound answers true for every text. It has no condition. -/
import Derived.Test.YtkfjcpnbfecldaaQround
import Derived.Test.YtkfjcpnbfecldaaG15
namespace Go.Proofs.Ytkfjcpnbfecldaa.Pure
open Go.RowKit Go.Proofs.Ytkfjcpnbfecldaa.G Go.Proofs.YtkfjcpnbfecldaaW.PrintWords Go.Proofs.YtkfjcpnbfecldaaW.PrintLast

theorem FnExactRestRound : laws_FnExactRestRound.Pure := by
  intro a hs0
  refine Ev.rounds ?_
  simp only [laws_FnExactRestRound.f]
  by_cases c : (a.size : Int) > 1048576
  · rw [ev_pos c, ev_some]
  have hs : a.size ≤ 1048576 := by omega
  rw [ev_neg c, ev_bind (spec_round_ev a hs), ev_bind (impl_round_ev a hs), ev_pos rfl, ev_neg (by simp), ev_some]
end Go.Proofs.Ytkfjcpnbfecldaa.Pure
