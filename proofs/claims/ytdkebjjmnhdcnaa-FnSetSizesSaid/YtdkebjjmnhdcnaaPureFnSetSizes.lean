/- The law FnSetSizes answers true for every text that is drawn. It has no condition. -/
import Derived.Test.YtdkebjjmnhdcnaaQtext
import Derived.Test.YtdkebjjmnhdcnaaQsetd
import Derived.Test.YtdkebjjmnhdcnaaG24
import Derived.Test.YtdkebjjmnhdcnaaG25
import Derived.Test.YtdkebjjmnhdcnaaG26
import Derived.Test.YtdkebjjmnhdcnaaG27
namespace Go.Proofs.Ytdkebjjmnhdcnaa.Pure
open Go.RowKit Go.Proofs.Ytdkebjjmnhdcnaa.G Go.Proofs.YtdkebjjmnhdcnaaW.PrintWords Go.Proofs.YtdkebjjmnhdcnaaW.PrintLast

theorem FnSetSizes : laws_FnSetSizes.Pure := by
  intro l0 hm _ hw
  refine Ev.rounds ?_
  simp only [laws_FnSetSizes.f]
  by_cases c : (l0.length : Int) > 1048576
  · rw [ev_pos c, ev_some]
  obtain ⟨s, hs0, e⟩ := open_ev l0 hw
  obtain ⟨a, q, g1, g2, g3⟩ := dset_ev s hs0 0 (by omega)
  have hs : a.size ≤ 1048576 := by omega
  have d : Ev (fun k => spec_DrawSetSizes.f k l0) a := by
    simp only [spec_DrawSetSizes.f]
    rw [ev_bind0 e, ev_bind g3, ev_some]
  rw [ev_neg c, ev_bind d]
  cases hc : setC a.data.toList with
  | none =>
    have i1 : Ev (fun k => impl_SetSizes.f k a) (0, 0, false) := by
      simp only [impl_SetSizes.f]
      rw [ev_bind (impl_tidied_none hs hc), ev_some]
      rfl
    have i2 : Ev (fun k => spec_SetSizes.f k a) (0, 0, false) := by
      simp only [spec_SetSizes.f]
      rw [ev_bind (spec_none hs hc), ev_neg (by decide), ev_some]
    rw [ev_bind i1, ev_bind i2, ev_pos rfl, ev_pos rfl, ev_pos (by rfl), ev_neg (by decide), ev_some]
    rfl
  | some p =>
    obtain ⟨t, r⟩ := p
    have h := setC_ok hc
    have k1 := h.t60
    have k3 := h.r60
    have hn := nf_small h
    have i1 : Ev (fun k => impl_SetSizes.f k a) (((nf t r).1.length : Int), ((nf t r).2.length : Int), true) := by
      simp only [impl_SetSizes.f]
      rw [ev_bind (impl_tidied_some hs hc), ev_some]
    have i2 : Ev (fun k => spec_SetSizes.f k a) (((nf t r).1.length : Int), ((nf t r).2.length : Int), true) := by
      simp only [spec_SetSizes.f]
      rw [ev_bind (spec_some hs hc), ev_pos rfl, ev_bind (less_ok h), ev_some]
    have ti : tidyS a.data.toList = (wrB (nf t r).1 (nf t r).2, true) := by
      unfold tidyS
      rw [hc]
    rw [ev_bind i1, ev_bind i2, ev_pos rfl, ev_pos rfl, ev_pos (by simp), ev_pos rfl, ev_bind (impl_setTidy_ev a hs), ti, ev_pos rfl]
    simp only
    rw [wrB_size, wrap_in ((((nf t r).1.length : Int)) + ((nf t r).2.length : Int)) (by omega), wrap_in _ (by omega), ev_pos (by omega), ev_pos (by omega), ev_some, decide_eq_true_eq]
    omega
end Go.Proofs.Ytdkebjjmnhdcnaa.Pure
