/- The law FnRowsOnce answers true for all rows that are drawn. It has no condition. -/
import Derived.Test.YtdiaifmlockohaaQonce2
import Derived.Test.YtdiaifmlockohaaQdr2
import Derived.Test.YtdiaifmlockohaaG11
import Derived.Test.YtdiaifmlockohaaG15
import Derived.Test.YtdiaifmlockohaaG16
namespace Go.Proofs.Ytdiaifmlockohaa.Pure
open Go.RowKit Go.Proofs.Ytdiaifmlockohaa.G Go.Proofs.YtdiaifmlockohaaW.PrintWords Go.Proofs.YtdiaifmlockohaaW.PrintLast

theorem sumX_sumD (l : List Row) (hg : ∀ x ∈ l, Good 0 x) (n : Nat) : sumX 0 1 l n = sumD l n := by
  induction l with
  | nil => rfl
  | cons x l ih =>
    rw [sumX, sumD, ih (fun y hy => hg y (List.mem_cons_of_mem _ hy))]
    congr 1
    have := (hg x List.mem_cons_self).f1
    have ex : x.f1 = ((x.f1.toNat : Nat) : Int) := by omega
    clear ih
    induction n with
    | zero => rfl
    | succ n ih =>
      rw [cntX, cntD, ih]
      congr 1
      unfold hitB
      rw [← ex, Nat.zero_add, Nat.one_mul]
      by_cases c : x.f1 ∣ (n : Int) - x.f0
      · rw [if_pos (by rw [decide_eq_true_eq]; exact c), if_pos c]
      · rw [if_neg (by rw [decide_eq_true_eq]; exact c), if_neg c]
theorem FnRowsOnce : laws_FnRowsOnce.Pure := by
  intro l0 hm _ hw
  refine Ev.rounds ?_
  simp only [laws_FnRowsOnce.f]
  by_cases c0 : (l0.length : Int) > 1048576
  · rw [ev_pos c0, ev_some]
  obtain ⟨s, hs, eo⟩ := open_ev l0 hw
  obtain ⟨l, q, g1, g2, g3⟩ := drows_ev s hs 0 (by omega)
  have ed : Ev (fun k => spec_DrawRowsOnce.f k l0) l := by
    simp only [spec_DrawRowsOnce.f]
    rw [ev_bind0 eo, ev_bind g3, ev_some]
  obtain ⟨io, ic⟩ := impl_once_ev l (by omega)
  rw [ev_neg c0, ev_bind ed, ev_bind io, ev_bind (spec_once_ev l (by omega)), ev_pos (by simp), ev_step (fun k => by rw [laws_FnRowsOnce.j0])]
  by_cases c : specO l = true
  · have hr : rowsIn l = true := by
      unfold specO at c
      rw [Bool.and_eq_true] at c
      exact c.1
    have h' := hr
    unfold rowsIn at h'
    rw [Bool.and_eq_true, decide_eq_true_eq] at h'
    rw [c, ev_neg (by simp), ev_bind (impl_rowsShare_ev l (by omega)), ev_bind (ic c), ev_pos rfl]
    have hx := (specO_iff hr).1 c
    unfold shareC
    rw [if_pos hr]
    cases e : mulL (stepsL l) 1 with
    | none =>
      simp only
      rw [ev_neg (by simp), ev_some]
    | some low =>
      simp only
      obtain ⟨l1, l2⟩ := mul_le _ _ _ (by omega) (by omega) (stepsL_pos l) e
      obtain ⟨_, hdv⟩ := mul_dvd _ _ _ e
      have hg := keep_good h'.1 hdv
      have su := sumD_up _ hg
      rw [← sumX_sumD _ (good_zero h'.1), sumX_all hx, (keep_steps l h'.1).1] at su
      unfold lowest
      rw [← su, Nat.gcd_self, Nat.div_self (by omega), ev_pos rfl, ev_pos (by rfl), ev_some]
      rfl
  · rw [Bool.eq_false_iff.2 c, ev_pos (by rfl), ev_some]
    rfl
end Go.Proofs.Ytdiaifmlockohaa.Pure
