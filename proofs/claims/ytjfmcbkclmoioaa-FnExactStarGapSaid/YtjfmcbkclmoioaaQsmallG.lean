/- Small sets: the program's and the reference's reading. -/
import Derived.Test.YtjfmcbkclmoioaaQtidy
import Derived.Test.YtjfmcbkclmoioaaG13
import Derived.Test.YtjfmcbkclmoioaaG4
namespace Go.Proofs.Ytjfmcbkclmoioaa.Pure
open Go.RowKit Go.Proofs.Ytjfmcbkclmoioaa.G Go.Proofs.YtjfmcbkclmoioaaW.PrintWords Go.Proofs.YtjfmcbkclmoioaaW.PrintLast Go.Proofs.YtjfmcbkclmoioaaW.PrintMore

theorem nf_small {t r : List Bool} (h : SOk t r) : (nf t r).1.length ≤ t.length ∧ 1 ≤ (nf t r).2.length ∧ (nf t r).2.length ≤ r.length := by
  obtain ⟨g1, g2, g3, _⟩ := per_spec h.r1
  have := nf_le (t := t) h.r1
  omega
def smallB (t r : List Bool) : Bool := decide (t.length ≤ 8 ∧ r.length ≤ 8)
theorem impl_small_none {a : ByteArray} (hs : a.size ≤ 1048576) (h : setC a.data.toList = none) : Ev (fun k => impl_small.f k a) ([], [], false) := by
  simp only [impl_small.f]
  rw [ev_bind (impl_tidied_none hs h), ev_neg (by simp), ev_some]
theorem spec_small_none {a : ByteArray} (hs : a.size ≤ 1048576) (h : setC a.data.toList = none) : Ev (fun k => spec_l4Small.f k a) ([], [false], false) := by
  simp only [spec_l4Small.f]
  rw [ev_bind (spec_none hs h), ev_neg (by simp), ev_some]
theorem impl_small_some {a : ByteArray} {t r : List Bool} (hs : a.size ≤ 1048576) (h : setC a.data.toList = some (t, r)) : Ev (fun k => impl_small.f k a) ((nf t r).1, (nf t r).2, smallB (nf t r).1 (nf t r).2) := by
  simp only [impl_small.f]
  rw [ev_bind (impl_tidied_some hs h), ev_pos rfl]
  unfold smallB
  by_cases c : (nf t r).1.length ≤ 8
  · rw [ev_pos (by show ((nf t r).1.length : Int) ≤ 8; omega), ev_some]
    have e : decide (((nf t r).2.length : Int) ≤ 8) = decide ((nf t r).1.length ≤ 8 ∧ (nf t r).2.length ≤ 8) := decide_eq_decide.2 (by omega)
    rw [← e]
  · rw [ev_neg (by show ¬ ((nf t r).1.length : Int) ≤ 8; omega), ev_some, decide_eq_false (fun z => c z.1)]
theorem spec_small_some {a : ByteArray} {t r : List Bool} (hs : a.size ≤ 1048576) (h : setC a.data.toList = some (t, r)) : Ev (fun k => spec_l4Small.f k a) ((nf t r).1, (nf t r).2, smallB (nf t r).1 (nf t r).2) := by
  simp only [spec_l4Small.f]
  rw [ev_bind (spec_some hs h), ev_pos rfl, ev_bind (less_ok (setC_ok h))]
  unfold smallB
  by_cases c : (nf t r).1.length ≤ 8
  · rw [ev_pos (by omega), ev_some]
    have e : decide (((nf t r).2.length : Int) ≤ 8) = decide ((nf t r).1.length ≤ 8 ∧ (nf t r).2.length ≤ 8) := decide_eq_decide.2 (by omega)
    rw [← e]
  · rw [ev_neg (by omega), ev_some, decide_eq_false (fun z => c z.1)]
theorem nf_ok {t r : List Bool} (h : SOk t r) : SOk (nf t r).1 (nf t r).2 := by
  have h1 := h.t60
  have h3 := h.r60
  have hn := nf_small h
  exact ⟨by omega, hn.2.1, by omega⟩
end Go.Proofs.Ytjfmcbkclmoioaa.Pure
