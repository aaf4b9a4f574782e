/- The law FnSetFrom answers true for every text and number that are drawn. It has no condition. -/
import Derived.Test.YtbkmafdnnjabhaaQset3
import Derived.Test.YtbkmafdnnjabhaaQset6
import Derived.Test.YtbkmafdnnjabhaaQsetd
import Derived.Test.YtbkmafdnnjabhaaQnumd
import Derived.Test.YtbkmafdnnjabhaaG10
import Derived.Test.YtbkmafdnnjabhaaG4
namespace Go.Proofs.Ytbkmafdnnjabhaa.Pure
open Go.RowKit Go.Proofs.Ytbkmafdnnjabhaa.G Go.Proofs.YtbkmafdnnjabhaaW.PrintWords Go.Proofs.YtbkmafdnnjabhaaW.PrintLast

theorem drawFrom_ev (l0 : List Int) (hw : ∀ x ∈ l0, (Lit.int .u8 x).wf = true) : ∃ a n, a.size ≤ 12 ∧ (-1 ≤ n ∧ n ≤ 1001) ∧ Ev (fun k => spec_DrawSetFrom.f k l0) (a, n) := by
  obtain ⟨s, hs, e⟩ := open_ev l0 hw
  obtain ⟨a, q, g1, g2, g3⟩ := dset_ev s hs 0 (by omega)
  obtain ⟨n, q2, h1, h2, h3⟩ := dnum_ev s hs q (by omega) 1000 (by omega)
  refine ⟨a, n, g1, by omega, ?_⟩
  simp only [spec_DrawSetFrom.f]
  rw [ev_bind0 e, ev_bind g3, ev_bind h3, ev_some]
theorem firstN_some {p : Nat → Bool} : ∀ {d i m : Nat}, firstN p d i = some m → i ≤ m ∧ m < i + d ∧ p m = true ∧ ∀ j, i ≤ j → j < m → p j = false
  | 0, _, _, h => by cases h
  | d + 1, i, m, h => by
    rw [firstN] at h
    by_cases c : p i = true
    · rw [if_pos c] at h
      injection h with h
      subst h
      exact ⟨Nat.le_refl _, by omega, c, fun j h1 h2 => by omega⟩
    · rw [if_neg c] at h
      obtain ⟨g1, g2, g3, g4⟩ := firstN_some h
      refine ⟨by omega, by omega, g3, fun j h1 h2 => ?_⟩
      by_cases e : j = i
      · subst e
        exact Bool.eq_false_iff.2 c
      · exact g4 j (by omega) h2
theorem from_l0 {a : ByteArray} {t r : List Bool} (hs : a.size ≤ 1048576) (h : setC a.data.toList = some (t, r)) (n m : Nat) (hm : m ≤ 10000) (hnm : n ≤ m) (hp : hasN t r m = true) (hf : ∀ j, n ≤ j → j < m → hasN t r j = false) (d : Nat) : ∀ (i : Nat), m - i = d → n ≤ i → i ≤ m →
    Ev (fun k => laws_FnSetFrom.l0 k a (n : Int) (m : Int) (i : Int)) true := by
  induction d with
  | zero =>
    intro i hd h1 h2
    rw [ev_step (fun k => by rw [laws_FnSetFrom.l0]), ev_neg (by omega), ev_bind0 (setHas_some hs h m (by omega)), ev_pos hp, ev_some, decide_eq_true_eq]
    omega
  | succ d ih =>
    intro i hd h1 h2
    rw [ev_step (fun k => by rw [laws_FnSetFrom.l0]), ev_pos (by omega), ev_bind0 (setHas_some hs h i (by omega)), ev_neg (by rw [hf i h1 (by omega)]; decide), wrap_in _ (by omega)]
    exact ih (i + 1) (by omega) (by omega) (by omega)
theorem FnSetFrom : laws_FnSetFrom.Pure := by
  intro l0 hm _ hw
  refine Ev.rounds ?_
  simp only [laws_FnSetFrom.f]
  by_cases c : (l0.length : Int) > 1048576
  · rw [ev_pos c, ev_some]
  obtain ⟨a, n, h1, h2, e⟩ := drawFrom_ev l0 hw
  have hs : a.size ≤ 1048576 := by omega
  rw [ev_neg c, ev_bind e, ev_bind (impl_from_ev a n hs), ev_bind (spec_from_ev a n hs), ev_pos rfl, ev_step (fun k => by rw [laws_FnSetFrom.j0]), ev_pos (by simp), ev_step (fun k => by rw [laws_FnSetFrom.j1])]
  unfold fromS
  cases hc : setC a.data.toList with
  | none => rw [ev_pos (by rfl)]; exact (ev_some _ _).2 rfl
  | some q =>
    obtain ⟨t, r⟩ := q
    simp only
    by_cases d : 0 ≤ n ∧ n ≤ 1000
    · obtain ⟨k, rfl⟩ := Int.eq_ofNat_of_zero_le d.1
      rw [if_pos d, Int.toNat_natCast]
      cases hf : firstN (hasN t r) 120 k with
      | none => rw [ev_pos (by rfl)]; exact (ev_some _ _).2 rfl
      | some m =>
        obtain ⟨f1, f2, f3, f4⟩ := firstN_some hf
        rw [ev_neg (by simp [fromC])]
        exact from_l0 hs hc k m (by omega) f1 f3 f4 (m - k) k rfl (Nat.le_refl _) f1
    · rw [if_neg d, ev_pos (by rfl)]; exact (ev_some _ _).2 rfl
end Go.Proofs.Ytbkmafdnnjabhaa.Pure
