/- The law FnMachTurn answers true for every machine that is drawn. It has no condition. -/
import Derived.Test.YtdbkpmhdjdebhaaQdm
import Derived.Test.YtdbkpmhdjdebhaaQturn2
import Derived.Test.YtdbkpmhdjdebhaaQsame
import Derived.Test.YtdbkpmhdjdebhaaG27
import Derived.Test.YtdbkpmhdjdebhaaG28
import Derived.Test.YtdbkpmhdjdebhaaG29
namespace Go.Proofs.Ytdbkpmhdjdebhaa.Pure
open Go.RowKit Go.Proofs.Ytdbkpmhdjdebhaa.G Go.Proofs.YtdbkpmhdjdebhaaW.PrintWords Go.Proofs.YtdbkpmhdjdebhaaW.PrintLast

theorem drawTurn_ev (l0 : List Int) (hw : ∀ x ∈ l0, (Lit.int .u8 x).wf = true) : ∃ l a b, l.length ≤ 10 ∧ Ev (fun k => spec_DrawMachTurn.f k l0) (l, a, b) := by
  obtain ⟨s, hs, e⟩ := open_ev l0 hw
  obtain ⟨l, a, b, q, g1, g2, g3⟩ := l91_ev s hs 0 (by omega)
  refine ⟨l, a, b, g1, ?_⟩
  simp only [spec_DrawMachTurn.f]
  rw [ev_bind0 e, ev_bind g3, ev_some]
theorem sameMach_self (l : List Int) (a b : Int) (hm : l.length ≤ 1048576) : Ev (fun k => laws_sameMachine.f k l a b l a b) true := by
  simp only [laws_sameMachine.f]
  rw [ev_bind (sameInts_self l (by omega)), ev_pos rfl, ev_pos trivial, ev_some]
  simp
theorem lawTurn_l0 {l : List Int} {a b : Int} (h : MOk l a b) (d : Nat) : ∀ (i : Nat), 61 - i = d → i ≤ 61 → Ev (fun k => laws_FnMachTurn.l0 k (i : Int) l a b (turnL l) b a) true := by
  have h5 := h.n5
  induction d with
  | zero =>
    intro i hd hi
    have e := impl_turn_ev (turnL l) b a
    have eC : turnC (turnL l) b a = (l, a, b, true) := by
      unfold turnC
      rw [if_pos (mB (turn_ok h)), turn_turn h]
    rw [eC] at e
    rw [ev_step (fun k => by rw [laws_FnMachTurn.l0]), ev_neg (by omega), ev_bind e, ev_pos rfl, ev_bind (sameMach_self l a b (by omega)), ev_some]
  | succ d ih =>
    intro i hd hi
    rw [ev_step (fun k => by rw [laws_FnMachTurn.l0]), ev_pos (by omega), ev_bind (impl_machTakes_ev _ _ _ _), ev_bind (impl_machTakes_ev _ _ _ _), ev_neg (by rw [turn_takes h i (by omega)]; simp), wrap_in _ (by omega)]
    exact ih (i + 1) (by omega) (by omega)
theorem FnMachTurn : laws_FnMachTurn.Pure := by
  intro l0 hm _ hw
  refine Ev.rounds ?_
  simp only [laws_FnMachTurn.f]
  by_cases c : (l0.length : Int) > 1048576
  · rw [ev_pos c, ev_some]
  obtain ⟨l, a, b, h1, e⟩ := drawTurn_ev l0 hw
  have hc := turnC_len l a b
  rw [ev_neg c, ev_bind e, ev_bind (impl_turn_ev l a b), ev_bind (spec_turn_ev l a b (by omega)), ev_bind (sameMach_self _ _ _ (by omega)), ev_pos rfl, ev_step (fun k => by rw [laws_FnMachTurn.j0]), ev_pos (by simp), ev_step (fun k => by rw [laws_FnMachTurn.j1])]
  by_cases h : machB l a b = true
  · have eC : turnC l a b = (turnL l, b, a, true) := by
      unfold turnC
      rw [if_pos h]
    rw [eC, ev_neg (by simp)]
    exact lawTurn_l0 (mOk h) 61 0 (by omega) (by omega)
  · have eC : turnC l a b = ([], 0, 0, false) := by
      unfold turnC
      rw [if_neg h]
    rw [eC, ev_pos (by simp), ev_some]
    rfl
end Go.Proofs.Ytdbkpmhdjdebhaa.Pure
