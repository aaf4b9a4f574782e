/- The law FnExactSetIn answers true for every text. It has no condition. -/
import Derived.Test.YthffkehkjgnalaaQset2
import Derived.Test.YthffkehkjgnalaaG3
import Derived.Test.YthffkehkjgnalaaG5
import Derived.Test.YthffkehkjgnalaaG6
namespace Go.Proofs.Ythffkehkjgnalaa.Pure
open Go.RowKit Go.Proofs.Ythffkehkjgnalaa.G Go.Proofs.YthffkehkjgnalaaW.PrintWords Go.Proofs.YthffkehkjgnalaaW.PrintLast

theorem FnExactSetIn : laws_FnExactSetIn.Pure := by
  intro a hs
  refine Ev.rounds ?_
  simp only [laws_FnExactSetIn.f, spec_SetIn.f, impl_SetIn.f]
  by_cases c : (a.size : Int) > 1048576
  · rw [ev_pos c, ev_some]
  have hs2 : a.size ≤ 1048576 := by omega
  rw [ev_neg c]
  cases hc : setC a.data.toList with
  | none =>
    obtain ⟨t, r, e⟩ := impl_none hs2 hc
    have s : Ev (fun k => (spec_l1Read.f k a).bind fun bt => some bt.2.2) false := by rw [ev_bind (spec_none hs2 hc), ev_some]
    rw [ev_bind s, e]
    simp only [Option.bind_some]
    rw [ev_neg (by decide), ev_some]
  | some q =>
    obtain ⟨t, r⟩ := q
    have s : Ev (fun k => (spec_l1Read.f k a).bind fun bt => some bt.2.2) true := by rw [ev_bind (spec_some hs2 hc), ev_some]
    rw [ev_bind s, impl_some hs2 hc]
    simp only [Option.bind_some]
    rw [ev_neg (by decide), ev_some]
end Go.Proofs.Ythffkehkjgnalaa.Pure
