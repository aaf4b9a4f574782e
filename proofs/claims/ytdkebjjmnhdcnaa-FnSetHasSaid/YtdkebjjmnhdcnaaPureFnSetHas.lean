/- The law FnSetHas answers true for every text and number that are drawn. It has no condition. -/
import Derived.Test.YtdkebjjmnhdcnaaQtext
import Derived.Test.YtdkebjjmnhdcnaaQin
import Derived.Test.YtdkebjjmnhdcnaaQset6
import Derived.Test.YtdkebjjmnhdcnaaQsetd
import Derived.Test.YtdkebjjmnhdcnaaQnumd
import Derived.Test.YtdkebjjmnhdcnaaG21
import Derived.Test.YtdkebjjmnhdcnaaG22
import Derived.Test.YtdkebjjmnhdcnaaG23
namespace Go.Proofs.Ytdkebjjmnhdcnaa.Pure
open Go.RowKit Go.Proofs.Ytdkebjjmnhdcnaa.G Go.Proofs.YtdkebjjmnhdcnaaW.PrintWords Go.Proofs.YtdkebjjmnhdcnaaW.PrintLast

theorem setHas_neg {a : ByteArray} {t r : List Bool} (hs : a.size ≤ 1048576) (h : setC a.data.toList = some (t, r)) (n : Int) (hn : n < 0) : impl_SetHas.f a n = some false := by
  unfold impl_SetHas.f
  rw [impl_some hs h, Option.bind_some, if_pos rfl, impl_has_neg _ _ _ hn, Option.bind_some]
theorem FnSetHas : laws_FnSetHas.Pure := by
  intro l0 hm _ hw
  refine Ev.rounds ?_
  simp only [laws_FnSetHas.f]
  by_cases c : (l0.length : Int) > 1048576
  · rw [ev_pos c, ev_some]
  obtain ⟨s, hs0, e⟩ := open_ev l0 hw
  obtain ⟨a, q, g1, g2, g3⟩ := dset_ev s hs0 0 (by omega)
  obtain ⟨n, q2, h1, h2, h3⟩ := dnum_ev s hs0 q (by omega) 200 (by omega)
  have hs : a.size ≤ 1048576 := by omega
  have d : Ev (fun k => spec_DrawSetHas.f k l0) (a, n) := by
    simp only [spec_DrawSetHas.f]
    rw [ev_bind0 e, ev_bind g3, ev_bind h3, ev_some]
  rw [ev_neg c, ev_bind d]
  cases hc : setC a.data.toList with
  | none =>
    have i1 : impl_SetHas.f a n = some false := by
      obtain ⟨t, r, e⟩ := impl_none hs hc
      unfold impl_SetHas.f
      rw [e]
      rfl
    have i2 : Ev (fun k => spec_SetHas.f k a n) false := by
      simp only [spec_SetHas.f]
      rw [ev_bind (spec_none hs hc), ev_neg (by decide), ev_some]
    rw [ev_bind0 i1, ev_bind i2, ev_pos (by rfl), ev_bind0 (setIn_eq a hs), hc, ev_step (fun k => by rw [laws_FnSetHas.j0]), ev_pos (by rfl), ev_some]
    rfl
  | some p =>
    obtain ⟨t, r⟩ := p
    have h := setC_ok hc
    have k1 := h.t60
    have k3 := h.r60
    have hn := nf_small h
    have hT : setC (wrB (nf t r).1 (nf t r).2).data.toList = some ((nf t r).1, (nf t r).2) := setC_wr (by omega) hn.2.1 (by omega)
    have sT : (wrB (nf t r).1 (nf t r).2).size ≤ 1048576 := by
      rw [wrB_size]
      omega
    have ti : tidyS a.data.toList = (wrB (nf t r).1 (nf t r).2, true) := by
      unfold tidyS
      rw [hc]
    by_cases h0 : 0 ≤ n
    · obtain ⟨m, rfl⟩ := Int.eq_ofNat_of_zero_le h0
      have i2 : Ev (fun k => spec_SetHas.f k a (m : Int)) (hasN t r m) := by
        simp only [spec_SetHas.f]
        rw [ev_bind (spec_some hs hc), ev_pos rfl, ev_pos (by omega), ev_bind0 (spec_has h m (by omega)), ev_some]
      rw [ev_bind0 (setHas_some hs hc m (by omega)), ev_bind i2, ev_pos (by simp), ev_bind0 (setIn_eq a hs), hc, ev_step (fun k => by rw [laws_FnSetHas.j0]), ev_neg (by simp), ev_bind (impl_setTidy_ev a hs), ti, ev_pos rfl, ev_bind0 (setHas_some sT hT m (by omega)), ev_pos (by rw [hasN_nf h.r1]; simp), ev_pos (by omega), ev_some]
    · have i2 : Ev (fun k => spec_SetHas.f k a n) false := by
        simp only [spec_SetHas.f]
        rw [ev_bind (spec_some hs hc), ev_pos rfl, ev_neg (by omega), ev_some]
      rw [ev_bind0 (setHas_neg hs hc n (by omega)), ev_bind i2, ev_pos (by rfl), ev_bind0 (setIn_eq a hs), hc, ev_step (fun k => by rw [laws_FnSetHas.j0]), ev_neg (by simp), ev_bind (impl_setTidy_ev a hs), ti, ev_pos rfl, ev_bind0 (setHas_neg sT hT n (by omega)), ev_pos (by rfl), ev_neg (by omega), ev_some]
      rfl
end Go.Proofs.Ytdkebjjmnhdcnaa.Pure
