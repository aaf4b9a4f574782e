/- The law FnExactRestSame answers true for every text and every two numbers. It has no condition. -/
import Derived.Test.YtkfjcpnbfecldaaQrsame2
import Derived.Test.YtkfjcpnbfecldaaG20
import Derived.Test.YtkfjcpnbfecldaaG21
import Derived.Test.YtkfjcpnbfecldaaG24
namespace Go.Proofs.Ytkfjcpnbfecldaa.Pure
open Go.RowKit Go.Proofs.Ytkfjcpnbfecldaa.G Go.Proofs.YtkfjcpnbfecldaaW.PrintWords Go.Proofs.YtkfjcpnbfecldaaW.PrintLast

theorem spec_same_ev (a : ByteArray) (i j : Int) (hs : a.size ≤ 1048576) : Ev (fun k => spec_RestSame.f k a i j) (sameS a.data.toList i j) := by
  simp only [spec_RestSame.f]
  unfold sameS
  cases hc : setC a.data.toList with
  | none =>
    have g : Ev (fun k => spec_l5Given.f k a i) ([], [false], false) := by
      simp only [spec_l5Given.f]
      rw [ev_bind (spec_none hs hc), ev_neg (by simp), ev_some]
    rw [ev_bind g, ev_neg (by simp), ev_some]
  | some q =>
    obtain ⟨t, r⟩ := q
    have h := setC_ok hc
    have g : Ev (fun k => spec_l5Given.f k a i) (t, r, decide (0 ≤ i ∧ i ≤ 1000)) := by
      simp only [spec_l5Given.f]
      rw [ev_bind (spec_some hs hc), ev_pos rfl, ev_bind0 (rin6_eq _ _ _), ev_some]
    rw [ev_bind g]
    simp only
    by_cases ci : 0 ≤ i ∧ i ≤ 1000
    · rw [if_pos ci, ev_pos (by simpa using ci), ev_bind0 (rin6_eq _ _ _)]
      by_cases cj : 0 ≤ j ∧ j ≤ 1000
      · obtain ⟨x, rfl⟩ := Int.eq_ofNat_of_zero_le ci.1
        obtain ⟨y, rfl⟩ := Int.eq_ofNat_of_zero_le cj.1
        rw [if_pos cj, ev_pos (by simpa using cj), Int.toNat_natCast, Int.toNat_natCast, ev_bind (down_ev h x (by omega)), ev_bind (down_ev h y (by omega)), ev_some, Bool.eq_iff_iff, beq_iff_eq, decide_eq_true_eq, down_iff h]
      · rw [if_neg cj, ev_neg (by simpa using cj), ev_some]
    · rw [if_neg ci, ev_neg (by simpa using ci), ev_some]
theorem FnExactRestSame : laws_FnExactRestSame.Pure := by
  intro a i j hs0 hi hj
  refine Ev.rounds ?_
  simp only [laws_FnExactRestSame.f]
  by_cases c : (a.size : Int) > 1048576
  · rw [ev_pos c, ev_some]
  have hs : a.size ≤ 1048576 := by omega
  rw [ev_neg c, ev_bind (spec_same_ev a i j hs), ev_bind (impl_same_ev a i j hs), ev_neg (by simp), ev_some]
end Go.Proofs.Ytkfjcpnbfecldaa.Pure
