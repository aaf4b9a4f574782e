/- How rests come round: the reference's search. -/
import Derived.Test.YtkfjcpnbfecldaaQdown
import Derived.Test.YtkfjcpnbfecldaaQsize
import Derived.Test.YtkfjcpnbfecldaaG13
import Derived.Test.YtkfjcpnbfecldaaG14
namespace Go.Proofs.Ytkfjcpnbfecldaa.Pure
open Go.RowKit Go.Proofs.Ytkfjcpnbfecldaa.G Go.Proofs.YtkfjcpnbfecldaaW.PrintWords Go.Proofs.YtkfjcpnbfecldaaW.PrintLast Go.Proofs.YtkfjcpnbfecldaaW.PrintMore

theorem rest_shift {t r : List Bool} {m d : Nat} (h : t.length ≤ m) : restN t r (m + d) = restN t r m ↔ d % r.length = 0 := by
  unfold restN
  rw [if_neg (by omega), if_neg (by omega)]
  constructor
  · intro e
    have e2 : (m + d - t.length) % r.length = (m - t.length) % r.length := by omega
    have := Nat.sub_mod_eq_zero_of_mod_eq e2
    rwa [show m + d - t.length - (m - t.length) = d by omega] at this
  · intro e
    obtain ⟨k, hk⟩ := Nat.dvd_of_mod_eq_zero e
    rw [show m + d - t.length = (m - t.length) + r.length * k by omega, Nat.add_mul_mod_self_left]
theorem round_l0 {t r : List Bool} (h : SOk t r) (e : Nat) : ∀ (d : Nat), (nf t r).2.length - d = e → 1 ≤ d → d ≤ (nf t r).2.length → Ev (fun k => spec_RestRound.l0 k (t.length : Int) (d : Int) t r) (((nf t r).2.length : Int), true) := by
  have h1 := h.t60
  have h3 := h.r60
  have hn := nf_small h
  have key : ∀ d, (wrB (downN t r (t.length + d)).1 (downN t r (t.length + d)).2).toList = (wrB (downN t r t.length).1 (downN t r t.length).2).toList ↔ d % (nf t r).2.length = 0 := by
    intro d
    rw [down_iff h, rest_shift hn.1]
  induction e with
  | zero =>
    intro d he h4 h5
    obtain rfl : d = (nf t r).2.length := by omega
    have w : wrap64 ((t.length : Int) + ((nf t r).2.length : Int)) = ((t.length + (nf t r).2.length : Nat) : Int) := by rw [wrap_in _ (by omega)]; omega
    rw [ev_step (fun k => by rw [spec_RestRound.l0]), w, ev_bind (down_ev h _ (by omega)), ev_bind (down_ev h _ (by omega)), ev_pos ((key _).2 (Nat.mod_self _)), ev_some]
  | succ e ih =>
    intro d he h4 h5
    have w : wrap64 ((t.length : Int) + (d : Int)) = ((t.length + d : Nat) : Int) := by rw [wrap_in _ (by omega)]; omega
    rw [ev_step (fun k => by rw [spec_RestRound.l0]), w, ev_bind (down_ev h _ (by omega)), ev_bind (down_ev h _ (by omega)), ev_neg (fun z => by
      have := (key d).1 z
      rw [Nat.mod_eq_of_lt (by omega)] at this
      omega), wrap_in _ (by omega)]
    exact ih (d + 1) (by omega) (by omega) (by omega)
/-- What both answer. -/
def roundS (l : List UInt8) : Int × Bool := match setC l with
  | none => (0, false)
  | some (t, r) => (((nf t r).2.length : Int), true)
theorem spec_round_ev (a : ByteArray) (hs : a.size ≤ 1048576) : Ev (fun k => spec_RestRound.f k a) (roundS a.data.toList) := by
  simp only [spec_RestRound.f]
  unfold roundS
  cases hc : setC a.data.toList with
  | none => rw [ev_bind (spec_none hs hc), ev_neg (by decide), ev_some]
  | some q =>
    obtain ⟨t, r⟩ := q
    have h := setC_ok hc
    rw [ev_bind (spec_some hs hc), ev_pos rfl]
    exact round_l0 h _ 1 rfl (by omega) (nf_small h).2.1
theorem impl_round_ev (a : ByteArray) (hs : a.size ≤ 1048576) : Ev (fun k => impl_RestRound.f k a) (roundS a.data.toList) := by
  simp only [impl_RestRound.f]
  unfold roundS
  cases hc : setC a.data.toList with
  | none => rw [ev_bind (impl_sizes_none hs hc), ev_some]
  | some q =>
    obtain ⟨t, r⟩ := q
    rw [ev_bind (impl_sizes_some hs hc), ev_some]
end Go.Proofs.Ytkfjcpnbfecldaa.Pure
