/- The sizes of a tidy set: the program's answer. -/
import Derived.Test.YtkfjcpnbfecldaaQtidy
import Derived.Test.YtkfjcpnbfecldaaG9
namespace Go.Proofs.Ytkfjcpnbfecldaa.Pure
open Go.RowKit Go.Proofs.Ytkfjcpnbfecldaa.G Go.Proofs.YtkfjcpnbfecldaaW.PrintWords Go.Proofs.YtkfjcpnbfecldaaW.PrintLast Go.Proofs.YtkfjcpnbfecldaaW.PrintMore

theorem impl_sizes_none {a : ByteArray} (hs : a.size ≤ 1048576) (h : setC a.data.toList = none) : Ev (fun k => impl_SetSizes.f k a) (0, 0, false) := by
  simp only [impl_SetSizes.f]
  rw [ev_bind (impl_tidied_none hs h), ev_some]
  rfl
theorem impl_sizes_some {a : ByteArray} {t r : List Bool} (hs : a.size ≤ 1048576) (h : setC a.data.toList = some (t, r)) : Ev (fun k => impl_SetSizes.f k a) (((nf t r).1.length : Int), ((nf t r).2.length : Int), true) := by
  simp only [impl_SetSizes.f]
  rw [ev_bind (impl_tidied_some hs h), ev_some]
theorem nf_small {t r : List Bool} (h : SOk t r) : (nf t r).1.length ≤ t.length ∧ 1 ≤ (nf t r).2.length ∧ (nf t r).2.length ≤ r.length := by
  obtain ⟨g1, g2, g3, _⟩ := per_spec h.r1
  have := nf_le (t := t) h.r1
  omega
end Go.Proofs.Ytkfjcpnbfecldaa.Pure
