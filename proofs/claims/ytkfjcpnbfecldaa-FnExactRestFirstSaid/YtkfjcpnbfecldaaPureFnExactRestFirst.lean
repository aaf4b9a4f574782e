/- The law FnExactRestFirst answers true for every text and number. It has no condition. -/
import Derived.Test.YtkfjcpnbfecldaaQrsame
import Derived.Test.YtkfjcpnbfecldaaG20
import Derived.Test.YtkfjcpnbfecldaaG25
import Derived.Test.YtkfjcpnbfecldaaG26
namespace Go.Proofs.Ytkfjcpnbfecldaa.Pure
open Go.RowKit Go.Proofs.Ytkfjcpnbfecldaa.G Go.Proofs.YtkfjcpnbfecldaaW.PrintWords Go.Proofs.YtkfjcpnbfecldaaW.PrintLast

theorem first_l0 {t r : List Bool} (h : SOk t r) (k : Nat) (hk : k ≤ 1000) (d : Nat) : ∀ (i : Nat), restN (nf t r).1 (nf t r).2 k - i = d → i ≤ restN (nf t r).1 (nf t r).2 k →
    Ev (fun q => spec_RestFirst.l0 q (wrB (downN t r k).1 (downN t r k).2) (i : Int) t r) (((restN (nf t r).1 (nf t r).2 k : Nat) : Int), true) := by
  have hn := nf_small h
  have hle := restN_le (t := (nf t r).1) (r := (nf t r).2) k
  have hlt := restN_lt (t := (nf t r).1) hn.2.1 k
  induction d with
  | zero =>
    intro i hd hi
    have hi2 : restN (nf t r).1 (nf t r).2 i = restN (nf t r).1 (nf t r).2 k := by
      rw [show i = restN (nf t r).1 (nf t r).2 k by omega, restN_rest hn.2.1]
    rw [ev_step (fun q => by rw [spec_RestFirst.l0]), ev_bind (down_ev h i (by omega)), ev_pos ((down_iff h i k).2 hi2), ev_some, show i = restN (nf t r).1 (nf t r).2 k by omega]
  | succ d ih =>
    intro i hd hi
    rw [ev_step (fun q => by rw [spec_RestFirst.l0]), ev_bind (down_ev h i (by omega)), ev_neg (fun z => by
      have := (down_iff h i k).1 z
      rw [restN_self (by omega)] at this
      omega), wrap_in _ (by omega)]
    exact ih (i + 1) (by omega) (by omega)
theorem FnExactRestFirst : laws_FnExactRestFirst.Pure := by
  intro a n hs0 hn0
  refine Ev.rounds ?_
  simp only [laws_FnExactRestFirst.f]
  by_cases c : (a.size : Int) > 1048576
  · rw [ev_pos c, ev_some]
  have hs : a.size ≤ 1048576 := by omega
  rw [ev_neg c]
  have key : ∃ v, Ev (fun k => spec_RestFirst.f k a n) v ∧ Ev (fun k => impl_RestFirst.f k a n) v := by
    simp only [spec_RestFirst.f, impl_RestFirst.f]
    cases hc : setC a.data.toList with
    | none =>
      have g : Ev (fun k => spec_l5Given.f k a n) ([], [false], false) := by
        simp only [spec_l5Given.f]
        rw [ev_bind (spec_none hs hc), ev_neg (by simp), ev_some]
      refine ⟨(0, false), ?_, ?_⟩
      · rw [ev_bind g, ev_neg (by simp), ev_some]
      · rw [ev_bind (impl_tidied_none hs hc), ev_neg (by simp), ev_some]
    | some q =>
      obtain ⟨t, r⟩ := q
      have h := setC_ok hc
      have h1 := h.t60
      have h3 := h.r60
      have hn := nf_small h
      have q1 : (nf t r).1.length ≤ 60 := by omega
      have q2 : (nf t r).2.length ≤ 60 := by omega
      have g : Ev (fun k => spec_l5Given.f k a n) (t, r, decide (0 ≤ n ∧ n ≤ 1000)) := by
        simp only [spec_l5Given.f]
        rw [ev_bind (spec_some hs hc), ev_pos rfl, ev_bind0 (rin6_eq _ _ _), ev_some]
      by_cases cn : 0 ≤ n ∧ n ≤ 1000
      · obtain ⟨k, rfl⟩ := Int.eq_ofNat_of_zero_le cn.1
        refine ⟨(((restN (nf t r).1 (nf t r).2 k : Nat) : Int), true), ?_, ?_⟩
        · rw [ev_bind g, ev_pos (by simpa using cn), ev_bind (down_ev h k (by omega))]
          exact first_l0 h k (by omega) _ 0 rfl (by omega)
        · rw [ev_bind (impl_tidied_some hs hc), ev_pos rfl, ev_bind0 (rin_eq _ _ _), ev_pos (by simpa using cn), ev_bind0 (rest_eq q1 hn.2.1 q2 k (by omega)), ev_some]
      · refine ⟨(0, false), ?_, ?_⟩
        · rw [ev_bind g, ev_neg (by simpa using cn), ev_some]
        · rw [ev_bind (impl_tidied_some hs hc), ev_pos rfl, ev_bind0 (rin_eq _ _ _), ev_neg (by simpa using cn), ev_some]
  obtain ⟨v, e1, e2⟩ := key
  rw [ev_bind e1, ev_bind e2, ev_pos rfl, ev_neg (by simp), ev_some]
end Go.Proofs.Ytkfjcpnbfecldaa.Pure
