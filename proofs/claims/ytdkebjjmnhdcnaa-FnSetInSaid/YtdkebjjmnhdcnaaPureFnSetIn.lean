/- The law FnSetIn answers true for every text that is drawn. It has no condition. -/
import Derived.Test.YtdkebjjmnhdcnaaQtext
import Derived.Test.YtdkebjjmnhdcnaaQin
import Derived.Test.YtdkebjjmnhdcnaaQsetd
import Derived.Test.YtdkebjjmnhdcnaaG17
import Derived.Test.YtdkebjjmnhdcnaaG18
import Derived.Test.YtdkebjjmnhdcnaaG19
namespace Go.Proofs.Ytdkebjjmnhdcnaa.Pure
open Go.RowKit Go.Proofs.Ytdkebjjmnhdcnaa.G Go.Proofs.YtdkebjjmnhdcnaaW.PrintWords Go.Proofs.YtdkebjjmnhdcnaaW.PrintLast

theorem FnSetIn : laws_FnSetIn.Pure := by
  intro l0 hm _ hw
  refine Ev.rounds ?_
  simp only [laws_FnSetIn.f]
  by_cases c : (l0.length : Int) > 1048576
  · rw [ev_pos c, ev_some]
  obtain ⟨s, hs0, e⟩ := open_ev l0 hw
  obtain ⟨a, q, g1, g2, g3⟩ := dset_ev s hs0 0 (by omega)
  have hs : a.size ≤ 1048576 := by omega
  have d : Ev (fun k => spec_DrawSetIn.f k l0) a := by
    simp only [spec_DrawSetIn.f]
    rw [ev_bind0 e, ev_bind g3, ev_some]
  have si : Ev (fun k => spec_SetIn.f k a) (setC a.data.toList).isSome := by
    simp only [spec_SetIn.f]
    cases hc : setC a.data.toList with
    | none => rw [ev_bind (spec_none hs hc), ev_some]; rfl
    | some p =>
      obtain ⟨t, r⟩ := p
      rw [ev_bind (spec_some hs hc), ev_some]; rfl
  rw [ev_neg c, ev_bind d, ev_bind0 (setIn_eq a hs), ev_bind si, ev_pos (by simp), ev_bind (impl_setTidy_ev a hs), ev_some]
  unfold tidyS
  cases setC a.data.toList with
  | none => rfl
  | some p => rfl
end Go.Proofs.Ytdkebjjmnhdcnaa.Pure
