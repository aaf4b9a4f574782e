/- The law FnExactRowsMeet answers true for every two lists of numbers: the program's RowsMeet and the reference's return the same row and the same truth, and the result is memory of its own. It has no condition. -/
import Derived.Test.YthmhmmgackgaaaaQrows
import Derived.Test.YthmhmmgackgaaaaG6
namespace Go.Proofs.Ythmhmmgackgaaaa.Pure
open Go.RowKit Go.Proofs.Ythmhmmgackgaaaa.G Go.Proofs.YthmhmmgackgaaaaW.PrintWords Go.Proofs.YthmhmmgackgaaaaW.PrintLast

theorem meetC_length (a b : List Int) : (meetC a b).1.length ≤ 2 := by
  unfold meetC
  split
  · cases firstFrom (meetP a b (stepOf a b)) 60 0 <;> simp [meetRes]
  · simp
theorem FnExactRowsMeet : laws_FnExactRowsMeet.Pure := by
  intro l0 l1 hm0 h0 hw0 hm1 h1 hw1
  refine Ev.rounds ?_
  simp only [laws_FnExactRowsMeet.f]
  by_cases c0 : (l0.length : Int) > 1048576
  · rw [ev_pos c0, ev_some]
  by_cases c1 : (l1.length : Int) > 1048576
  · rw [ev_neg c0, ev_pos c1, ev_some]
  have t0 := toIntS_ev l0 (by omega)
  have t1 := toIntS_ev l1 (by omega)
  have hl := meetC_length l0 l1
  have e := eqIntS_self (meetC l0 l1).1 (by omega)
  have m := mark_ev (meetC l0 l1).1 1 (by omega) (by omega)
  have hh := held_ev (meetC l0 l1).1.length 1 (by omega) (by omega)
  rw [ev_neg c0, ev_neg c1, ev_bind t0, ev_bind t1, ev_bind (spec_meet_ev l0 l1), ev_bind t0, ev_bind t1, ev_bind (impl_meet_ev l0 l1), ev_bind e, ev_pos rfl]
  rw [ev_step (fun k => by rw [laws_FnExactRowsMeet.j0]), ev_neg (by simp), ev_bind t0, ev_bind (eqIntS_self l0 (by omega)), ev_pos rfl, ev_bind t1, ev_bind (eqIntS_self l1 (by omega)), ev_pos rfl]
  rw [ev_bind (mark_ev l0 1 (by omega) (by omega)), ev_bind (mark_ev l1 _ (by omega) (by omega)), ev_neg (by omega), ev_bind e, ev_pos rfl]
  rw [ev_step (fun k => by rw [laws_FnExactRowsMeet.j1]), ev_neg (by simp), ev_bind m, ev_bind hh, ev_neg (by omega), ev_pos rfl, ev_bind t0, ev_bind t1, ev_bind (impl_meet_ev l0 l1), ev_bind e, ev_pos rfl]
  rw [ev_step (fun k => by rw [laws_FnExactRowsMeet.j2]), ev_neg (by simp), ev_bind hh, ev_neg (by omega), ev_pos rfl, ev_some]
end Go.Proofs.Ythmhmmgackgaaaa.Pure
