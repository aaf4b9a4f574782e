/- A machine that is drawn: the drawing comes to some machine of at most ten rows. -/
import Derived.Test.YtbgjehgfaakfdaaQdraw
import Derived.Test.YtbgjehgfaakfdaaQmachB
import Derived.Test.YtbgjehgfaakfdaaG9
namespace Go.Proofs.Ytbgjehgfaakfdaa.Pure
open Go.RowKit Go.Proofs.Ytbgjehgfaakfdaa.G Go.Proofs.YtbgjehgfaakfdaaW.PrintWords Go.Proofs.YtbgjehgfaakfdaaW.PrintLast Go.Proofs.YtbgjehgfaakfdaaW.PrintMore

theorem l91_j1 (s : List Int) (hs : Bytes s) (n : Nat) (p : Int) (hp : 0 ≤ p ∧ p ≤ 900000) (l : List Int) (hl : l.length ≤ 5) (a b : Int) :
    ∃ l' a' b' q, l'.length ≤ 10 ∧ (p ≤ q ∧ q ≤ p + 2) ∧ Ev (fun k => spec_l91Machine.j1 k (n : Int) s p l a b) (l', a', b', q) := by
  obtain ⟨r, h0, h1, e⟩ := pick_ev s hs p 20 (by omega) (by omega)
  by_cases c0 : r = 0
  · obtain ⟨r2, h2, h3, e2⟩ := pick_ev s hs (p + 1) 2 (by omega) (by omega)
    refine ⟨l, a, rd [(-1), shl .i64 1 (n : Int)] r2, p + 1 + 1, by omega, by omega, ?_⟩
    rw [ev_step (fun k => by rw [spec_l91Machine.j1]), ev_bind e, ev_pos c0, ev_pos (by omega), ev_bind0 rfl, ev_bind e2, ev_pos h2, ev_pos (by simpa using h3), ev_some]
  · by_cases c1 : r = 1
    · refine ⟨l ++ [1, 1, 1, 1, 1], a, b, p + 1, by simp; omega, by omega, ?_⟩
      rw [ev_step (fun k => by rw [spec_l91Machine.j1]), ev_bind e, ev_neg c0, ev_pos c1, ev_bind0 rfl, ev_pos (by simp; omega), ev_some]
    · by_cases c2 : r = 2
      · refine ⟨[], a, b, p + 1, by simp, by omega, ?_⟩
        rw [ev_step (fun k => by rw [spec_l91Machine.j1]), ev_bind e, ev_neg c0, ev_neg c1, ev_pos c2, ev_some]
      · refine ⟨l, a, b, p + 1, by omega, by omega, ?_⟩
        rw [ev_step (fun k => by rw [spec_l91Machine.j1]), ev_bind e, ev_neg c0, ev_neg c1, ev_neg c2, ev_some]
theorem shl_ge (n : Nat) (h : n ≤ 5) : 1 ≤ shl .i64 1 (n : Int) := by
  have : n = 0 ∨ n = 1 ∨ n = 2 ∨ n = 3 ∨ n = 4 ∨ n = 5 := by omega
  rcases this with rfl | rfl | rfl | rfl | rfl | rfl <;> decide +kernel
theorem l91_l0 (s : List Int) (hs : Bytes s) (n : Nat) (hn : 1 ≤ n ∧ n ≤ 5) (c : Bool) (a b : Int) (d : Nat) : ∀ (i : Nat) (p : Int) (l : List Int), n - i = d → i ≤ n → l.length = i → 0 ≤ p ∧ p ≤ 800000 + 2 * (i : Int) →
    ∃ l' a' b' q, l'.length ≤ 10 ∧ (p ≤ q ∧ q ≤ p + 2 * d + 3) ∧ Ev (fun k => spec_l91Machine.l0 k (n : Int) c (i : Int) s p l a b) (l', a', b', q) := by
  have hsh := shl_ge n hn.2
  induction d with
  | zero =>
    intro i p l hd hi hl hp
    by_cases hc : c = true
    · obtain ⟨r, h0, h1, e⟩ := pick_ev s hs p (n : Int) (by omega) (by omega)
      obtain ⟨l', a', b', q, g1, g2, g3⟩ := l91_j1 s hs n (p + 1) (by omega) l (by omega) (shl .i64 1 r) b
      refine ⟨l', a', b', q, g1, by omega, ?_⟩
      rw [ev_step (fun k => by rw [spec_l91Machine.l0]), ev_neg (by omega), ev_pos hc, ev_bind e, ev_pos h0]
      exact g3
    · obtain ⟨l', a', b', q, g1, g2, g3⟩ := l91_j1 s hs n p (by omega) l (by omega) a b
      refine ⟨l', a', b', q, g1, by omega, ?_⟩
      rw [ev_step (fun k => by rw [spec_l91Machine.l0]), ev_neg (by omega), ev_neg hc]
      exact g3
  | succ d ih =>
    intro i p l hd hi hl hp
    by_cases hc : c = true
    · obtain ⟨r, h0, h1, e⟩ := pick_ev s hs p (n : Int) (by omega) (by omega)
      obtain ⟨l', a', b', q, g1, g2, g3⟩ := ih (i + 1) (p + 1) (l ++ [shl .i64 1 r]) (by omega) (by omega) (by simp; omega) (by omega)
      refine ⟨l', a', b', q, g1, by omega, ?_⟩
      rw [ev_step (fun k => by rw [spec_l91Machine.l0]), ev_pos (by omega), ev_pos hc, ev_bind e, ev_pos h0, ev_pos (by omega), wrap_in _ (by omega)]
      exact g3
    · obtain ⟨r, h0, h1, e⟩ := pick_ev s hs p (shl .i64 1 (n : Int)) (by omega) hsh
      obtain ⟨r2, h2, h3, e2⟩ := pick_ev s hs (p + 1) (shl .i64 1 (n : Int)) (by omega) hsh
      obtain ⟨l', a', b', q, g1, g2, g3⟩ := ih (i + 1) (p + 1 + 1) (l ++ [Go.bits .and .i64 r r2]) (by omega) (by omega) (by simp; omega) (by omega)
      refine ⟨l', a', b', q, g1, by omega, ?_⟩
      rw [ev_step (fun k => by rw [spec_l91Machine.l0]), ev_pos (by omega), ev_neg hc, ev_pos (by omega), ev_bind e, ev_bind e2, ev_pos (by omega), wrap_in _ (by omega)]
      exact g3
theorem l91_ev (s : List Int) (hs : Bytes s) (p : Int) (hp : 0 ≤ p ∧ p ≤ 700000) : ∃ l a b q, l.length ≤ 10 ∧ (p ≤ q ∧ q ≤ p + 30) ∧ Ev (fun k => spec_l91Machine.f k s p) (l, a, b, q) := by
  obtain ⟨r, h0, h1, e⟩ := pick_ev s hs p 5 (by omega) (by omega)
  obtain ⟨n, hn⟩ : ∃ n : Nat, 1 + r = (n : Int) := ⟨(1 + r).toNat, by omega⟩
  have hsh := shl_ge n (by omega)
  obtain ⟨r2, h2, h3, e2⟩ := pick_ev s hs (p + 1) (shl .i64 1 (n : Int)) (by omega) hsh
  obtain ⟨r3, h4, h5, e3⟩ := pick_ev s hs (p + 1 + 1) (shl .i64 1 (n : Int)) (by omega) hsh
  obtain ⟨r4, h6, h7, e4⟩ := pick_ev s hs (p + 1 + 1 + 1) 2 (by omega) (by omega)
  obtain ⟨l, a, b, q, g1, g2, g3⟩ := l91_l0 s hs n (by omega) (r4 == 0) r2 r3 n 0 (p + 1 + 1 + 1 + 1) [] (by omega) (by omega) rfl (by omega)
  refine ⟨l, a, b, q, g1, by omega, ?_⟩
  simp only [spec_l91Machine.f]
  rw [ev_bind e]
  simp only
  rw [wrap_in _ (by omega), hn, ev_pos (by omega), ev_bind e2, ev_bind e3, ev_bind e4]
  exact g3
end Go.Proofs.Ytbgjehgfaakfdaa.Pure
