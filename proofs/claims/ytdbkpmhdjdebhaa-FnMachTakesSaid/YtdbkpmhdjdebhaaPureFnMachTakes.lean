/- The law FnMachTakes answers true for every machine and number that are drawn. It has no condition. -/
import Derived.Test.YtdbkpmhdjdebhaaQdm
import Derived.Test.YtdbkpmhdjdebhaaG15
import Derived.Test.YtdbkpmhdjdebhaaG18
namespace Go.Proofs.Ytdbkpmhdjdebhaa.Pure
open Go.RowKit Go.Proofs.Ytdbkpmhdjdebhaa.G Go.Proofs.YtdbkpmhdjdebhaaW.PrintWords Go.Proofs.YtdbkpmhdjdebhaaW.PrintLast

theorem drawTakes_ev (l0 : List Int) (hw : ∀ x ∈ l0, (Lit.int .u8 x).wf = true) : ∃ l a b n, l.length ≤ 10 ∧ Ev (fun k => spec_DrawMachTakes.f k l0) (l, a, b, n) := by
  obtain ⟨s, hs, e⟩ := open_ev l0 hw
  obtain ⟨l, a, b, q, g1, g2, g3⟩ := l91_ev s hs 0 (by omega)
  obtain ⟨r, h0, h1, e1⟩ := pick_ev s hs q 20 (by omega) (by omega)
  obtain ⟨r2, h2, h3, e2⟩ := pick_ev s hs (q + 1) 200 (by omega) (by omega)
  obtain ⟨r3, h4, h5, e3⟩ := pick_ev s hs (q + 1 + 1) 6 (by omega) (by omega)
  refine ⟨l, a, b, rd [r, r2, 1000000, 1000001, (-1), 9999] r3, g1, ?_⟩
  simp only [spec_DrawMachTakes.f]
  rw [ev_bind0 e, ev_bind g3, ev_bind e1, ev_bind e2, ev_bind0 rfl, ev_bind e3, ev_pos h4, ev_pos (by simpa using h5), ev_some]
theorem FnMachTakes : laws_FnMachTakes.Pure := by
  intro l0 hm _ hw
  refine Ev.rounds ?_
  simp only [laws_FnMachTakes.f]
  by_cases c : (l0.length : Int) > 1048576
  · rw [ev_pos c, ev_some]
  obtain ⟨l, a, b, n, h1, e⟩ := drawTakes_ev l0 hw
  rw [ev_neg c, ev_bind e, ev_bind (impl_machTakes_ev l a b n), ev_bind (spec_machTakes_ev l a b n (by omega)), ev_pos (by simp), ev_bind (impl_machAt_ev l a b n)]
  unfold takesC
  by_cases h : (atC l a b n).2 = true
  · rw [ev_pos h, ev_some, h, Bool.true_and]
    simp
  · rw [ev_neg h, ev_some, Bool.eq_false_iff.2 h]
    rfl
end Go.Proofs.Ytdbkpmhdjdebhaa.Pure
