/- The law FnMachIn answers true for every machine that is drawn. It has no condition. -/
import Derived.Test.YtdbkpmhdjdebhaaQdm
import Derived.Test.YtdbkpmhdjdebhaaG7
import Derived.Test.YtdbkpmhdjdebhaaG9
namespace Go.Proofs.Ytdbkpmhdjdebhaa.Pure
open Go.RowKit Go.Proofs.Ytdbkpmhdjdebhaa.G Go.Proofs.YtdbkpmhdjdebhaaW.PrintWords Go.Proofs.YtdbkpmhdjdebhaaW.PrintLast

theorem drawIn_ev (l0 : List Int) (hw : ∀ x ∈ l0, (Lit.int .u8 x).wf = true) : ∃ l a b, l.length ≤ 10 ∧ Ev (fun k => spec_DrawMachIn.f k l0) (l, a, b) := by
  obtain ⟨s, hs, e⟩ := open_ev l0 hw
  obtain ⟨l, a, b, q, g1, g2, g3⟩ := l91_ev s hs 0 (by omega)
  refine ⟨l, a, b, g1, ?_⟩
  simp only [spec_DrawMachIn.f]
  rw [ev_bind0 e, ev_bind g3, ev_some]
theorem atC_zero (l : List Int) (a b : Int) : (atC l a b 0).2 = machB l a b := by
  unfold atC
  by_cases h : machB l a b = true
  · rw [if_pos ⟨h, by omega⟩, h]
  · rw [if_neg (fun z => h z.1), Bool.eq_false_iff.2 h]
theorem FnMachIn : laws_FnMachIn.Pure := by
  intro l0 hm _ hw
  refine Ev.rounds ?_
  simp only [laws_FnMachIn.f]
  by_cases c : (l0.length : Int) > 1048576
  · rw [ev_pos c, ev_some]
  obtain ⟨l, a, b, h1, e⟩ := drawIn_ev l0 hw
  rw [ev_neg c, ev_bind e, ev_bind0 (impl_machIn l a b), ev_bind (spec_machIn_ev l a b (by omega)), ev_pos (by simp), ev_bind (impl_machAt_ev l a b 0), ev_some, atC_zero]
  simp
end Go.Proofs.Ytdbkpmhdjdebhaa.Pure
