/- The law FnSetEnds answers true for every text that is drawn. It has no condition. -/
import Derived.Test.YtbkmafdnnjabhaaQset3
import Derived.Test.YtbkmafdnnjabhaaQcomes
import Derived.Test.YtbkmafdnnjabhaaQends
import Derived.Test.YtbkmafdnnjabhaaQin
import Derived.Test.YtbkmafdnnjabhaaQsetd
import Derived.Test.YtbkmafdnnjabhaaG11
import Derived.Test.YtbkmafdnnjabhaaG13
namespace Go.Proofs.Ytbkmafdnnjabhaa.Pure
open Go.RowKit Go.Proofs.Ytbkmafdnnjabhaa.G Go.Proofs.YtbkmafdnnjabhaaW.PrintWords Go.Proofs.YtbkmafdnnjabhaaW.PrintLast

theorem firstN_true {p : Nat → Bool} : ∀ {d i m : Nat}, firstN p d i = some m → i ≤ m ∧ p m = true
  | 0, _, _, h => by cases h
  | d + 1, i, m, h => by
    rw [firstN] at h
    by_cases c : p i = true
    · rw [if_pos c] at h
      injection h with h
      subst h
      exact ⟨Nat.le_refl _, c⟩
    · rw [if_neg c] at h
      obtain ⟨g1, g2⟩ := firstN_true h
      exact ⟨by omega, g2⟩
theorem ends_from {t r : List Bool} (h : SOk t r) : (!r.any id) = (!(fromC (firstN (hasN t r) 120 1000)).2) := by
  have h1 := h.t60
  have h2 := h.r1
  have h3 := h.r60
  cases hf : firstN (hasN t r) 120 1000 with
  | none =>
    have ha : ∀ m, 1000 ≤ m → hasN t r m = false := none_all h2 (fun m g1 g2 => firstN_none hf m g1 (by omega))
    have : r.any id = false := by
      rw [List.any_eq_false]
      intro x hx
      obtain ⟨i, hi, rfl⟩ := List.mem_iff_getElem.1 hx
      have e := ring_at (t := t) hi 1000
      have hm : 1000 ≤ r.length * 1000 := Nat.le_mul_of_pos_left _ (by omega)
      rw [ha _ (by omega), List.getD_eq_getElem?_getD, List.getElem?_eq_getElem hi, Option.getD_some] at e
      rw [← e]
      decide
    rw [this]
    rfl
  | some m =>
    obtain ⟨g1, g2⟩ := firstN_true hf
    have hlt := Nat.mod_lt (m - t.length) (show r.length > 0 by omega)
    unfold hasN at g2
    rw [if_neg (by omega), List.getD_eq_getElem?_getD, List.getElem?_eq_getElem hlt, Option.getD_some] at g2
    have : r.any id = true := List.any_eq_true.2 ⟨_, List.getElem_mem hlt, g2⟩
    rw [this]
    rfl
theorem FnSetEnds : laws_FnSetEnds.Pure := by
  intro l0 hm _ hw
  refine Ev.rounds ?_
  simp only [laws_FnSetEnds.f]
  by_cases c : (l0.length : Int) > 1048576
  · rw [ev_pos c, ev_some]
  obtain ⟨s, hs0, e⟩ := open_ev l0 hw
  obtain ⟨a, q, g1, g2, g3⟩ := dset_ev s hs0 0 (by omega)
  have hs : a.size ≤ 1048576 := by omega
  have d : Ev (fun k => spec_DrawSetEnds.f k l0) a := by
    simp only [spec_DrawSetEnds.f]
    rw [ev_bind0 e, ev_bind g3, ev_some]
  rw [ev_neg c, ev_bind d, ev_bind (impl_setEnds_ev a hs), ev_bind (spec_setEnds_ev a hs), ev_pos (by simp), ev_bind0 (setIn_eq a hs)]
  cases hc : setC a.data.toList with
  | none => rw [ev_neg (by simp), ev_some]; simp
  | some q =>
    obtain ⟨t, r⟩ := q
    have e2 := impl_from_ev a 1000 hs
    rw [ev_pos (by rfl), ev_bind e2, ev_some]
    unfold endsS fromS
    rw [hc]
    simp only
    rw [if_pos (by omega), beq_iff_eq]
    exact ends_from (setC_ok hc)
end Go.Proofs.Ytbkmafdnnjabhaa.Pure
