/- Whether two rests are the same: what the program answers. -/
import Derived.Test.YtkfjcpnbfecldaaQrsame
import Derived.Test.YtkfjcpnbfecldaaG23
namespace Go.Proofs.Ytkfjcpnbfecldaa.Pure
open Go.RowKit Go.Proofs.Ytkfjcpnbfecldaa.G Go.Proofs.YtkfjcpnbfecldaaW.PrintWords Go.Proofs.YtkfjcpnbfecldaaW.PrintLast Go.Proofs.YtkfjcpnbfecldaaW.PrintMore

/-- What both answer. -/
def sameS (l : List UInt8) (i j : Int) : Bool := match setC l with
  | none => false
  | some (t, r) => if 0 ≤ i ∧ i ≤ 1000 then (if 0 ≤ j ∧ j ≤ 1000 then decide (restN (nf t r).1 (nf t r).2 i.toNat = restN (nf t r).1 (nf t r).2 j.toNat) else false) else false
theorem impl_same_ev (a : ByteArray) (i j : Int) (hs : a.size ≤ 1048576) : Ev (fun k => impl_RestSame.f k a i j) (sameS a.data.toList i j) := by
  simp only [impl_RestSame.f]
  unfold sameS
  cases hc : setC a.data.toList with
  | none => rw [ev_bind (impl_tidied_none hs hc), ev_neg (by simp), ev_some]
  | some q =>
    obtain ⟨t, r⟩ := q
    have h := setC_ok hc
    have h1 := h.t60
    have h3 := h.r60
    have hn := nf_small h
    rw [ev_bind (impl_tidied_some hs hc), ev_pos rfl, ev_bind0 (rin_eq _ _ _)]
    simp only
    by_cases ci : 0 ≤ i ∧ i ≤ 1000
    · rw [if_pos ci, ev_pos (by simpa using ci), ev_bind0 (rin_eq _ _ _)]
      by_cases cj : 0 ≤ j ∧ j ≤ 1000
      · obtain ⟨x, rfl⟩ := Int.eq_ofNat_of_zero_le ci.1
        obtain ⟨y, rfl⟩ := Int.eq_ofNat_of_zero_le cj.1
        rw [if_pos cj, ev_pos (by simpa using cj), Int.toNat_natCast, Int.toNat_natCast, ev_bind0 (rest_eq (by omega) hn.2.1 (by omega) x (by omega)), ev_bind0 (rest_eq (by omega) hn.2.1 (by omega) y (by omega)), ev_some, Bool.eq_iff_iff, beq_iff_eq, decide_eq_true_eq]
        omega
      · rw [if_neg cj, ev_neg (by simpa using cj), ev_some]
    · rw [if_neg ci, ev_neg (by simpa using ci), ev_some]
end Go.Proofs.Ytkfjcpnbfecldaa.Pure
