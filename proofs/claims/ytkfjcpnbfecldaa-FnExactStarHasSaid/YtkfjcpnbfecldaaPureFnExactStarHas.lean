/- The law FnExactStarHas answers true for every text and number. It has no condition. -/
import Derived.Test.YtkfjcpnbfecldaaQstar
import Derived.Test.YtkfjcpnbfecldaaQsmall
import Derived.Test.YtkfjcpnbfecldaaG19
import Derived.Test.YtkfjcpnbfecldaaG22
import Derived.Test.YtkfjcpnbfecldaaG33
import Derived.Test.YtkfjcpnbfecldaaG37
import Derived.Test.YtkfjcpnbfecldaaG38
namespace Go.Proofs.Ytkfjcpnbfecldaa.Pure
open Go.RowKit Go.Proofs.Ytkfjcpnbfecldaa.G Go.Proofs.YtkfjcpnbfecldaaW.PrintWords Go.Proofs.YtkfjcpnbfecldaaW.PrintLast

theorem FnExactStarHas : laws_FnExactStarHas.Pure := by
  intro a n hs0 hn0
  refine Ev.rounds ?_
  simp only [laws_FnExactStarHas.f]
  by_cases c : (a.size : Int) > 1048576
  · rw [ev_pos c, ev_some]
  have hs : a.size ≤ 1048576 := by omega
  rw [ev_neg c]
  have in1 : spec_l6In.f n 0 2000 = some (decide (0 ≤ n ∧ n ≤ 2000)) := ite_bool
  have in2 : impl_in.f n 0 2000 = some (decide (0 ≤ n ∧ n ≤ 2000)) := ite_bool
  have key : ∃ v, Ev (fun k => spec_StarHas.f k a n) v ∧ Ev (fun k => impl_StarHas.f k a n) v := by
    simp only [spec_StarHas.f, impl_StarHas.f]
    cases hc : setC a.data.toList with
    | none =>
      refine ⟨false, ?_, ?_⟩
      · rw [ev_bind (spec_small_none hs hc), ev_neg (by simp), ev_some]
      · rw [ev_bind (impl_small_none hs hc), ev_neg (by simp), ev_some]
    | some q =>
      obtain ⟨t, r⟩ := q
      have h := nf_ok (setC_ok hc)
      by_cases b : smallB (nf t r).1 (nf t r).2 = true
      · by_cases cn : 0 ≤ n ∧ n ≤ 2000
        · obtain ⟨k, rfl⟩ := Int.eq_ofNat_of_zero_le cn.1
          have w : wrap64 ((k : Int) + 1) = ((k + 1 : Nat) : Int) := by rw [wrap_in _ (by omega)]; omega
          obtain ⟨l, e1, q1⟩ := spec_star_ev h (k + 1) (by omega)
          obtain ⟨m, e2, q2⟩ := impl_star_ev h (k + 1) (by omega)
          obtain rfl := star_same q1 q2
          have hl := q1.1
          refine ⟨rdOf false l (k : Int), ?_, ?_⟩
          · rw [ev_bind (spec_small_some hs hc), ev_pos b, ev_bind0 in1, ev_pos (by simpa using cn), w, ev_bind e1, ev_pos (by omega), ev_pos (by omega), ev_some]
          · rw [ev_bind (impl_small_some hs hc), ev_pos b, ev_bind0 in2, ev_pos (by simpa using cn), w, ev_bind e2, ev_pos (by omega), ev_pos (by omega), ev_some]
        · refine ⟨false, ?_, ?_⟩
          · rw [ev_bind (spec_small_some hs hc), ev_pos b, ev_bind0 in1, ev_neg (by simpa using cn), ev_some]
          · rw [ev_bind (impl_small_some hs hc), ev_pos b, ev_bind0 in2, ev_neg (by simpa using cn), ev_some]
      · refine ⟨false, ?_, ?_⟩
        · rw [ev_bind (spec_small_some hs hc), ev_neg b, ev_some]
        · rw [ev_bind (impl_small_some hs hc), ev_neg b, ev_some]
  obtain ⟨v, e1, e2⟩ := key
  rw [ev_bind e1, ev_bind e2, ev_neg (by simp), ev_some]
end Go.Proofs.Ytkfjcpnbfecldaa.Pure
