/- The law FnExactRestMany answers true for every text. It has no condition. -/
import Derived.Test.YtkfjcpnbfecldaaQdown
import Derived.Test.YtkfjcpnbfecldaaQsize
import Derived.Test.YtkfjcpnbfecldaaG16
import Derived.Test.YtkfjcpnbfecldaaG17
import Derived.Test.YtkfjcpnbfecldaaG18
namespace Go.Proofs.Ytkfjcpnbfecldaa.Pure
open Go.RowKit Go.Proofs.Ytkfjcpnbfecldaa.G Go.Proofs.YtkfjcpnbfecldaaW.PrintWords Go.Proofs.YtkfjcpnbfecldaaW.PrintLast
set_option linter.unusedVariables false

def downT (t r : List Bool) (k : Nat) : ByteArray := wrB (downN t r k).1 (downN t r k).2
def metL (t r : List Bool) (n : Nat) : List ByteArray := (List.range n).map (downT t r)
theorem metL_length (t r : List Bool) (n : Nat) : (metL t r n).length = n := by simp [metL]
theorem metL_get {t r : List Bool} {n i : Nat} (h : i < n) : rdOf ByteArray.empty (metL t r n) (i : Int) = downT t r i := by
  unfold rdOf metL
  rw [Int.toNat_natCast, List.getD_eq_getElem?_getD, List.getElem?_map, List.getElem?_range h]
  rfl
theorem metL_succ (t r : List Bool) (n : Nat) : metL t r (n + 1) = metL t r n ++ [downT t r n] := by
  unfold metL
  rw [List.range_succ, List.map_append, List.map_singleton]
/-- The text stands among the first n. -/
def MetIn (t r : List Bool) (k n : Nat) : Prop := ∃ i, i < n ∧ (downT t r i).toList = (downT t r k).toList
/-- The inner search: is the text among those met? -/
theorem many_l1 {t r : List Bool} (k n : Nat) (hk : k ≤ 1000) (hn : n ≤ 1000) (R : Int × Bool)
    (hy : MetIn t r k n → Ev (fun q => spec_RestMany.l0 q (metL t r n) ((k + 1 : Nat) : Int) t r) R)
    (hno : ¬ MetIn t r k n → Ev (fun q => spec_RestMany.l0 q (metL t r n ++ [downT t r k]) ((k + 1 : Nat) : Int) t r) R) (d : Nat) :
    ∀ (i : Nat) (b : Bool), n - i = d → i ≤ n → (b = true ↔ MetIn t r k i) → Ev (fun q => spec_RestMany.l1 q (metL t r n) (k : Int) (downT t r k) b (i : Int) t r) R := by
  have w : wrap64 ((k : Int) + 1) = ((k + 1 : Nat) : Int) := by rw [wrap_in _ (by omega)]; omega
  induction d with
  | zero =>
    intro i b hd hi hb
    obtain rfl : i = n := by omega
    rw [ev_step (fun q => by rw [spec_RestMany.l1]), ev_neg (by rw [metL_length]; omega), w]
    by_cases c : b = true
    · rw [ev_pos c]
      exact hy (hb.1 c)
    · rw [ev_neg c, ev_pos (by rw [metL_length]; omega)]
      exact hno (fun z => c (hb.2 z))
  | succ d ih =>
    intro i b hd hi hb
    rw [ev_step (fun q => by rw [spec_RestMany.l1]), ev_pos (by rw [metL_length]; omega), wrap_in ((i : Int) + 1) (by omega)]
    by_cases c : b = true
    · rw [ev_pos c]
      refine ih (i + 1) true (by omega) (by omega) ?_
      obtain ⟨j, h1, h2⟩ := hb.1 c
      exact ⟨fun _ => ⟨j, by omega, h2⟩, fun _ => rfl⟩
    · rw [ev_neg c, ev_pos (by omega), metL_get (by omega)]
      refine ih (i + 1) _ (by omega) (by omega) ?_
      rw [beq_iff_eq]
      constructor
      · intro z
        exact ⟨i, by omega, z⟩
      · rintro ⟨j, h1, h2⟩
        by_cases e : j = i
        · rw [← e]
          exact h2
        · exact absurd (hb.2 ⟨j, by omega, h2⟩) c
theorem many_l0 {t r : List Bool} (h : SOk t r) (N : Nat) (hN : N = (nf t r).1.length + (nf t r).2.length) (hNle : N ≤ t.length + r.length) (d : Nat) : ∀ (k n : Nat), t.length + r.length - k = d → k ≤ t.length + r.length → n = (if k ≤ N then k else N) →
    Ev (fun q => spec_RestMany.l0 q (metL t r n) (k : Int) t r) ((N : Int), true) := by
  have h1 := h.t60
  have h3 := h.r60
  have w : wrap64 ((t.length : Int) + (r.length : Int)) = ((t.length + r.length : Nat) : Int) := by rw [wrap_in _ (by omega)]; omega
  have hn := nf_small h
  induction d with
  | zero =>
    intro k n hd hk hnn
    rw [ev_step (fun q => by rw [spec_RestMany.l0]), w, ev_neg (by omega), ev_some, metL_length]
    split at hnn
    · rw [hnn, show k = N by omega]
    · rw [hnn]
  | succ d ih =>
    intro k n hd hk hnn
    have hnk : n ≤ k ∧ n ≤ N := by
      split at hnn <;> omega
    have key : MetIn t r k n ↔ N ≤ k := by
      constructor
      · rintro ⟨i, hi, e⟩
        by_cases c : N ≤ k
        · exact c
        · unfold downT at e
          rw [down_iff h, restN_self (by omega), restN_self (by omega)] at e
          omega
      · intro c
        refine ⟨restN (nf t r).1 (nf t r).2 k, ?_, ?_⟩
        · have := restN_lt (t := (nf t r).1) hn.2.1 k
          split at hnn <;> omega
        · unfold downT
          rw [down_iff h, restN_rest hn.2.1]
    have e : Ev (fun q => spec_l5Down.f q t r (k : Int)) (downT t r k) := down_ev h k (by omega)
    rw [ev_step (fun q => by rw [spec_RestMany.l0]), w, ev_pos (by omega), ev_bind e]
    refine many_l1 k n (by omega) (by omega) _ (fun hy => ?_) (fun hno => ?_) n 0 false (by omega) (by omega) ⟨fun z => absurd z (by decide), fun ⟨j, z, _⟩ => by omega⟩
    · have := key.1 hy
      exact ih (k + 1) n (by omega) (by omega) (by rw [if_neg (by omega)]; split at hnn <;> omega)
    · have c : ¬ N ≤ k := fun z => hno (key.2 z)
      have e2 : n = k := by
        split at hnn <;> omega
      subst e2
      rw [← metL_succ]
      exact ih (n + 1) (n + 1) (by omega) (by omega) (by rw [if_pos (by omega)])
theorem FnExactRestMany : laws_FnExactRestMany.Pure := by
  intro a hs0
  refine Ev.rounds ?_
  simp only [laws_FnExactRestMany.f]
  by_cases c : (a.size : Int) > 1048576
  · rw [ev_pos c, ev_some]
  have hs : a.size ≤ 1048576 := by omega
  rw [ev_neg c]
  cases hc : setC a.data.toList with
  | none =>
    have e : Ev (fun k => spec_RestMany.f k a) (0, false) := by
      simp only [spec_RestMany.f]
      rw [ev_bind (spec_none hs hc), ev_neg (by decide), ev_some]
    have f : Ev (fun k => impl_RestMany.f k a) (0, false) := by
      simp only [impl_RestMany.f]
      rw [ev_bind (impl_sizes_none hs hc), ev_some, wrap_in _ (by simp only; omega)]
      rfl
    rw [ev_bind e, ev_bind f, ev_pos rfl, ev_neg (by decide), ev_some]
  | some q =>
    obtain ⟨t, r⟩ := q
    have h := setC_ok hc
    have h1 := h.t60
    have h3 := h.r60
    have hn := nf_small h
    have e : Ev (fun k => spec_RestMany.f k a) ((((nf t r).1.length + (nf t r).2.length : Nat) : Int), true) := by
      simp only [spec_RestMany.f]
      rw [ev_bind (spec_some hs hc), ev_pos rfl]
      exact many_l0 h _ rfl (by omega) _ 0 0 rfl (by omega) (by simp)
    have f : Ev (fun k => impl_RestMany.f k a) ((((nf t r).1.length + (nf t r).2.length : Nat) : Int), true) := by
      simp only [impl_RestMany.f]
      rw [ev_bind (impl_sizes_some hs hc), ev_some, wrap_in _ (by simp only; omega)]
      simp
    rw [ev_bind e, ev_bind f, ev_pos rfl, ev_neg (by simp), ev_some]
end Go.Proofs.Ytkfjcpnbfecldaa.Pure
