/- The law FnExactSetHas answers true for every text and number. It has no condition. -/
import Derived.Test.YthffkehkjgnalaaQset2
import Derived.Test.YthffkehkjgnalaaG7
import Derived.Test.YthffkehkjgnalaaG8
namespace Go.Proofs.Ythffkehkjgnalaa.Pure
open Go.RowKit Go.Proofs.Ythffkehkjgnalaa.G Go.Proofs.YthffkehkjgnalaaW.PrintWords Go.Proofs.YthffkehkjgnalaaW.PrintLast

theorem FnExactSetHas : laws_FnExactSetHas.Pure := by
  intro a n hs hn
  have hw := wf_range hn
  refine Ev.rounds ?_
  simp only [laws_FnExactSetHas.f]
  by_cases c : (a.size : Int) > 1048576
  · rw [ev_pos c, ev_some]
  have hs2 : a.size ≤ 1048576 := by omega
  have key : ∃ v, Ev (fun k => spec_SetHas.f k a n) v ∧ impl_SetHas.f a n = some v := by
    simp only [spec_SetHas.f, impl_SetHas.f]
    cases hc : setC a.data.toList with
    | none =>
      obtain ⟨t, r, e⟩ := impl_none hs2 hc
      refine ⟨false, ?_, ?_⟩
      · rw [ev_bind (spec_none hs2 hc), ev_neg (by decide), ev_some]
      · rw [e]
        rfl
    | some q =>
      obtain ⟨t, r⟩ := q
      have ok := setC_ok hc
      by_cases h0 : 0 ≤ n
      · obtain ⟨m, rfl⟩ := Int.eq_ofNat_of_zero_le h0
        refine ⟨hasN t r m, ?_, ?_⟩
        · rw [ev_bind (spec_some hs2 hc), ev_pos rfl, ev_pos (by omega), ev_bind0 (spec_has ok m (by omega)), ev_some]
        · rw [impl_some hs2 hc, Option.bind_some, if_pos rfl, impl_has ok m (by omega), Option.bind_some]
      · refine ⟨false, ?_, ?_⟩
        · rw [ev_bind (spec_some hs2 hc), ev_pos rfl, ev_neg (by omega), ev_some]
        · rw [impl_some hs2 hc, Option.bind_some, if_pos rfl, impl_has_neg _ _ _ (by omega), Option.bind_some]
  obtain ⟨v, e1, e2⟩ := key
  rw [ev_neg c, ev_bind e1, ev_bind0 e2, ev_neg (by simp), ev_some]
end Go.Proofs.Ythffkehkjgnalaa.Pure
