/- The law FnMachSingle answers true for every machine that is drawn. It has no condition. -/
import Derived.Test.YtdbkpmhdjdebhaaQdm
import Derived.Test.YtdbkpmhdjdebhaaQsingle
import Derived.Test.YtdbkpmhdjdebhaaG34
import Derived.Test.YtdbkpmhdjdebhaaG35
namespace Go.Proofs.Ytdbkpmhdjdebhaa.Pure
open Go.RowKit Go.Proofs.Ytdbkpmhdjdebhaa.G Go.Proofs.YtdbkpmhdjdebhaaW.PrintWords Go.Proofs.YtdbkpmhdjdebhaaW.PrintLast

theorem drawSingle_ev (l0 : List Int) (hw : ∀ x ∈ l0, (Lit.int .u8 x).wf = true) : ∃ l a b, l.length ≤ 10 ∧ Ev (fun k => spec_DrawMachSingle.f k l0) (l, a, b) := by
  obtain ⟨s, hs, e⟩ := open_ev l0 hw
  obtain ⟨l, a, b, q, g1, g2, g3⟩ := l91_ev s hs 0 (by omega)
  refine ⟨l, a, b, g1, ?_⟩
  simp only [spec_DrawMachSingle.f]
  rw [ev_bind0 e, ev_bind g3, ev_some]
theorem one_tests {x : Int} (h : ms_oneB x = true) : ¬ x = 0 ∧ Go.bits .and .i64 x (wrap64 (x - 1)) = 0 := by
  unfold ms_oneB at h
  simp only [Bool.or_eq_true, decide_eq_true_eq] at h
  rcases h with (((h | h) | h) | h) | h <;> subst h <;> exact ⟨by decide, by decide +kernel⟩
theorem lawSingle_l0 {l : List Int} {a b : Int} (hB : machB l a b = true) (ha : ms_oneB a = true) (hl : l.all ms_oneB = true) (d : Nat) : ∀ (i : Nat), 41 - i = d → i ≤ 41 → Ev (fun k => laws_FnMachSingle.l0 k (i : Int) l a b) true := by
  induction d with
  | zero =>
    intro i hd hi
    rw [ev_step (fun k => by rw [laws_FnMachSingle.l0]), ev_neg (by omega), ev_some]
  | succ d ih =>
    intro i hd hi
    have h1 := atN_one (mOk hB) ha hl i
    have hA : atC l a b (i : Int) = ((atN l a.toNat i : Int), true) := by
      unfold atC
      rw [if_pos ⟨hB, by omega⟩, Int.toNat_natCast]
    have e := impl_machAt_ev l a b (i : Int)
    rw [hA] at e
    obtain ⟨t1, t2⟩ := one_tests h1
    rw [ev_step (fun k => by rw [laws_FnMachSingle.l0]), ev_pos (by omega), ev_bind e, ev_pos rfl, ev_neg t1, ev_pos t2, wrap_in _ (by omega)]
    exact ih (i + 1) (by omega) (by omega)
theorem FnMachSingle : laws_FnMachSingle.Pure := by
  intro l0 hm _ hw
  refine Ev.rounds ?_
  simp only [laws_FnMachSingle.f]
  by_cases c : (l0.length : Int) > 1048576
  · rw [ev_pos c, ev_some]
  obtain ⟨l, a, b, h1, e⟩ := drawSingle_ev l0 hw
  rw [ev_neg c, ev_bind e, ev_bind0 (impl_single l a b), ev_bind (spec_single_ev l a b (by omega)), ev_pos (by simp), ev_step (fun k => by rw [laws_FnMachSingle.j0])]
  by_cases h : singleB l a b = true
  · rw [ev_neg (by simp [h])]
    unfold singleB at h
    rw [Bool.and_eq_true, Bool.and_eq_true] at h
    exact lawSingle_l0 h.1.1 h.1.2 h.2 41 0 (by omega) (by omega)
  · rw [ev_pos (by simp [h]), ev_some]
    simp
end Go.Proofs.Ytdbkpmhdjdebhaa.Pure
