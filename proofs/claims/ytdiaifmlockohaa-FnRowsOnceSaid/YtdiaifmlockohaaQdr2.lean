/- Rows that are drawn: the drawing comes to some list of at most ten lists. -/
import Derived.Test.YtdiaifmlockohaaQdraw
import Derived.Test.YtdiaifmlockohaaQrowsA
import Derived.Test.YtdiaifmlockohaaG8
import Derived.Test.YtdiaifmlockohaaG9
namespace Go.Proofs.Ytdiaifmlockohaa.Pure
open Go.RowKit Go.Proofs.Ytdiaifmlockohaa.G Go.Proofs.YtdiaifmlockohaaW.PrintWords Go.Proofs.YtdiaifmlockohaaW.PrintLast

theorem drow_ev (s : List Int) (hs : Bytes s) (p : Int) (hp : 0 ≤ p ∧ p ≤ 999998) : ∃ row, Ev (fun k => spec_l91Row.f k s p) (row, p + 1 + 1) := by
  obtain ⟨r, r0, r1, hr⟩ := pick_ev s hs p 9 (by omega) (by omega)
  obtain ⟨q, q0, q1, hq⟩ := pick_ev s hs (p + 1) 8 (by omega) (by omega)
  refine ⟨[r, rd [0, 1, 2, 3, 4, 6, 12, 5] q], ?_⟩
  simp only [spec_l91Row.f]
  rw [ev_bind hr, ev_bind0 rfl, ev_bind hq, ev_pos q0, ev_pos (by show q < 8; omega), ev_some]
theorem drows_j2 (s : List Int) (hs : Bytes s) (p : Int) (hp : 0 ≤ p ∧ p ≤ 900000) (l : List (List Int)) (hl : l.length ≤ 9) :
    ∃ l' q, l'.length ≤ 10 ∧ (p ≤ q ∧ q ≤ p + 2) ∧ Ev (fun k => spec_l91Rows.j2 k l s p) (l', q) := by
  obtain ⟨r, h0, h1, e⟩ := pick_ev s hs p 20 (by omega) (by omega)
  by_cases c0 : r = 0
  · obtain ⟨r2, h2, h3, e2⟩ := pick_ev s hs (p + 1) 7 (by omega) (by omega)
    refine ⟨l ++ [rd_L1 [[60, 1], [0, 61], [(-1), 2], [1, (-1)], [1], [1, 2, 3], [59, 60]] r2], p + 1 + 1, by simp; omega, by omega, ?_⟩
    rw [ev_step (fun k => by rw [spec_l91Rows.j2]), ev_bind e, ev_pos c0, ev_bind0 rfl, ev_bind e2, ev_pos h2, ev_pos (by show r2 < 7; exact h3), ev_pos (by omega), ev_some]
  · refine ⟨l, p + 1, by omega, by omega, ?_⟩
    rw [ev_step (fun k => by rw [spec_l91Rows.j2]), ev_bind e, ev_neg c0, ev_some]
theorem drows_l0 (s : List Int) (hs : Bytes s) (p : Int) (hp : 0 ≤ p ∧ p ≤ 900000) (n : Nat) (hn : n ≤ 4) (d : Nat) : ∀ (i : Nat) (l : List (List Int)), n - i = d → i ≤ n → l.length = i →
    ∃ l' q, l'.length ≤ 10 ∧ (p ≤ q ∧ q ≤ p + 2) ∧ Ev (fun k => spec_l91Rows.l0 k l (n : Int) (i : Int) s p) (l', q) := by
  induction d with
  | zero =>
    intro i l hd hi hl
    obtain ⟨l', q, g1, g2, g3⟩ := drows_j2 s hs p hp l (by omega)
    refine ⟨l', q, g1, g2, ?_⟩
    rw [ev_step (fun k => by rw [spec_l91Rows.l0]), ev_neg (by omega)]
    exact g3
  | succ d ih =>
    intro i l hd hi hl
    obtain ⟨l', q, g1, g2, g3⟩ := ih (i + 1) (l ++ [[(i : Int), (n : Int)]]) (by omega) (by omega) (by simp; omega)
    refine ⟨l', q, g1, g2, ?_⟩
    rw [ev_step (fun k => by rw [spec_l91Rows.l0]), ev_pos (by omega), ev_pos (by omega), wrap_in _ (by omega)]
    exact g3
theorem drows_l1 (s : List Int) (hs : Bytes s) (d : Nat) (hd : d ≤ 5) : ∀ (p : Int) (l : List (List Int)), 0 ≤ p ∧ p ≤ 800000 + 2 * (5 - (d : Int)) → l.length + d ≤ 6 →
    ∃ l' q, l'.length ≤ 10 ∧ (p ≤ q ∧ q ≤ p + 2 * d + 2) ∧ Ev (fun k => spec_l91Rows.l1 k l (d : Int) s p) (l', q) := by
  induction d with
  | zero =>
    intro p l hp hl
    obtain ⟨l', q, g1, g2, g3⟩ := drows_j2 s hs p (by omega) l (by omega)
    refine ⟨l', q, g1, by omega, ?_⟩
    rw [ev_step (fun k => by rw [spec_l91Rows.l1]), ev_neg (by omega)]
    exact g3
  | succ d ih =>
    intro p l hp hl
    obtain ⟨row, e⟩ := drow_ev s hs p (by omega)
    obtain ⟨l', q, g1, g2, g3⟩ := ih (by omega) (p + 1 + 1) (l ++ [row]) (by omega) (by simp; omega)
    refine ⟨l', q, g1, by omega, ?_⟩
    rw [ev_step (fun k => by rw [spec_l91Rows.l1]), ev_pos (by omega), ev_bind e, ev_pos (by omega), wrap_in _ (by omega), show ((d + 1 : Nat) : Int) - 1 = (d : Int) by omega]
    exact g3
theorem drows_ev (s : List Int) (hs : Bytes s) (p : Int) (hp : 0 ≤ p ∧ p ≤ 700000) : ∃ l q, l.length ≤ 10 ∧ (p ≤ q ∧ q ≤ p + 20) ∧ Ev (fun k => spec_l91Rows.f k s p) (l, q) := by
  obtain ⟨r, h0, h1, e⟩ := pick_ev s hs p 5 (by omega) (by omega)
  by_cases c0 : r = 0
  · obtain ⟨r2, h2, h3, e2⟩ := pick_ev s hs (p + 1) 4 (by omega) (by omega)
    obtain ⟨n, hn⟩ : ∃ n : Nat, 1 + r2 = (n : Int) := ⟨(1 + r2).toNat, by omega⟩
    obtain ⟨l, q, g1, g2, g3⟩ := drows_l0 s hs (p + 1 + 1) (by omega) n (by omega) n 0 [] (by omega) (by omega) rfl
    refine ⟨l, q, g1, by omega, ?_⟩
    simp only [spec_l91Rows.f]
    rw [ev_bind0 rfl, ev_bind e, ev_pos c0, ev_bind e2]
    simp only
    rw [wrap_in _ (by omega), hn]
    exact g3
  · by_cases c1 : r = 1
    · obtain ⟨l, q, g1, g2, g3⟩ := drows_j2 s hs (p + 1) (by omega) [[0, 2], [1, 4], [3, 4]] (by simp)
      refine ⟨l, q, g1, by omega, ?_⟩
      simp only [spec_l91Rows.f]
      rw [ev_bind0 rfl, ev_bind e, ev_neg c0, ev_pos c1]
      exact g3
    · obtain ⟨r2, h2, h3, e2⟩ := pick_ev s hs (p + 1) 6 (by omega) (by omega)
      obtain ⟨n, hn⟩ : ∃ n : Nat, r2 = (n : Int) := ⟨r2.toNat, by omega⟩
      obtain ⟨l, q, g1, g2, g3⟩ := drows_l1 s hs n (by omega) (p + 1 + 1) [] (by omega) (by simp; omega)
      refine ⟨l, q, g1, by omega, ?_⟩
      simp only [spec_l91Rows.f]
      rw [ev_bind0 rfl, ev_bind e, ev_neg c0, ev_neg c1, ev_bind e2]
      simp only
      rw [hn]
      exact g3
end Go.Proofs.Ytdiaifmlockohaa.Pure
