/- The law FnSetCounts answers true for every text and number that are drawn. It has no condition. -/
import Derived.Test.YtbkmafdnnjabhaaQset4
import Derived.Test.YtbkmafdnnjabhaaQset6
import Derived.Test.YtbkmafdnnjabhaaQsetd
import Derived.Test.YtbkmafdnnjabhaaQnumd
import Derived.Test.YtbkmafdnnjabhaaG14
import Derived.Test.YtbkmafdnnjabhaaG17
namespace Go.Proofs.Ytbkmafdnnjabhaa.Pure
open Go.RowKit Go.Proofs.Ytbkmafdnnjabhaa.G Go.Proofs.YtbkmafdnnjabhaaW.PrintWords Go.Proofs.YtbkmafdnnjabhaaW.PrintLast

theorem impl_setHas_any (a : ByteArray) (n : Int) (hs : a.size ≤ 1048576) (hn : n ≤ 9223372036854775807) : ∃ v, impl_SetHas.f a n = some v := by
  cases hc : setC a.data.toList with
  | none =>
    obtain ⟨t, r, e⟩ := impl_none hs hc
    unfold impl_SetHas.f
    rw [e]
    exact ⟨false, rfl⟩
  | some q =>
    obtain ⟨t, r⟩ := q
    by_cases h0 : 0 ≤ n
    · obtain ⟨m, rfl⟩ := Int.eq_ofNat_of_zero_le h0
      exact ⟨_, setHas_some hs hc m (by omega)⟩
    · unfold impl_SetHas.f
      rw [impl_some hs hc, Option.bind_some, if_pos rfl, impl_has_neg _ _ _ (by omega)]
      exact ⟨false, rfl⟩
theorem FnSetCounts : laws_FnSetCounts.Pure := by
  intro l0 hm _ hw
  refine Ev.rounds ?_
  simp only [laws_FnSetCounts.f]
  by_cases c : (l0.length : Int) > 1048576
  · rw [ev_pos c, ev_some]
  obtain ⟨s, hs0, e⟩ := open_ev l0 hw
  obtain ⟨a, q, g1, g2, g3⟩ := dset_ev s hs0 0 (by omega)
  obtain ⟨n, q2, h1, h2, h3⟩ := dnum_ev s hs0 q (by omega) 1000 (by omega)
  have hs : a.size ≤ 1048576 := by omega
  have d : Ev (fun k => spec_DrawSetCount.f k l0) (a, n) := by
    simp only [spec_DrawSetCount.f]
    rw [ev_bind0 e, ev_bind g3, ev_bind h3, ev_some]
  have wn : wrap64 (n + 1) = n + 1 := wrap_in _ (by omega)
  rw [ev_neg c, ev_bind d, ev_bind (impl_setCount_ev a n hs), ev_bind (spec_setCount_ev a n hs), ev_pos rfl, ev_neg (by simp), ev_step (fun k => by rw [laws_FnSetCounts.j0])]
  by_cases z : (listS a.data.toList n).2 = true
  · rw [ev_neg (by rw [z]; decide), wn, ev_bind (impl_setCount_ev a (n + 1) hs)]
    unfold listS at z ⊢
    cases hc : setC a.data.toList with
    | none =>
      rw [hc] at z
      cases z
    | some p =>
      obtain ⟨t, r⟩ := p
      rw [hc] at z
      simp only at z ⊢
      by_cases b : 0 ≤ n ∧ n ≤ 1000
      · obtain ⟨m, rfl⟩ := Int.eq_ofNat_of_zero_le b.1
        have hl := listN_le (hasN t r) m
        rw [if_pos b, Int.toNat_natCast, ev_bind0 (setHas_some hs hc m (by omega)), wrap_in _ (by simp only; omega), wrap_in _ (by simp only; omega)]
        by_cases b2 : 0 ≤ (m : Int) + 1 ∧ (m : Int) + 1 ≤ 1000
        · have e3 : ((m : Int) + 1).toNat = m + 1 := by omega
          rw [if_pos b2, e3, listN]
          by_cases p : hasN t r m = true
          · rw [if_pos p, ev_pos (by rfl), ev_some]
            simp [p]
          · rw [if_neg p, ev_pos (by rfl), ev_some]
            simp [p]
        · rw [if_neg b2]
          by_cases p : hasN t r m = true
          · rw [ev_pos p, ev_neg (by decide), ev_some]
          · rw [ev_neg p, ev_neg (by decide), ev_some]
      · rw [if_neg b] at z
        cases z
  · rw [ev_pos (by simpa using z), ev_pos rfl, ev_some]
    simp
end Go.Proofs.Ytbkmafdnnjabhaa.Pure
