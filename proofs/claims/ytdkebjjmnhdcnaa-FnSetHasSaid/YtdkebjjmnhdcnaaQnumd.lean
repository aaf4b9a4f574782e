/- A number that is drawn: from one below 0 to one above the limit. -/
import Derived.Test.YtdkebjjmnhdcnaaQdraw
import Derived.Test.YtdkebjjmnhdcnaaG20
namespace Go.Proofs.Ytdkebjjmnhdcnaa.Pure
open Go.RowKit Go.Proofs.Ytdkebjjmnhdcnaa.G Go.Proofs.YtdkebjjmnhdcnaaW.PrintWords Go.Proofs.YtdkebjjmnhdcnaaW.PrintLast

theorem dnum_ev (s : List Int) (hs : Bytes s) (p : Int) (hp : 0 ≤ p ∧ p ≤ 900000) (n : Int) (hn : 0 ≤ n ∧ n ≤ 100000) : ∃ v q, (-1 ≤ v ∧ v ≤ n + 1) ∧ (p ≤ q ∧ q ≤ p + 2) ∧ Ev (fun k => spec_l91Number.f k s p n) (v, q) := by
  obtain ⟨r, h0, h1, e⟩ := pick_ev s hs p 16 (by omega) (by omega)
  have wn : wrap64 (n + 1) = n + 1 := wrap_in _ (by omega)
  simp only [spec_l91Number.f]
  by_cases c : r = 0
  · obtain ⟨r2, h2, h3, e2⟩ := pick_ev s hs (p + 1) 3 (by omega) (by omega)
    refine ⟨rd [(-1), n, n + 1] r2, p + 1 + 1, ?_, by omega, ?_⟩
    · have : r2 = 0 ∨ r2 = 1 ∨ r2 = 2 := by omega
      rcases this with rfl | rfl | rfl
      · show -1 ≤ (-1 : Int) ∧ (-1 : Int) ≤ n + 1
        omega
      · show -1 ≤ n ∧ n ≤ n + 1
        omega
      · show -1 ≤ n + 1 ∧ n + 1 ≤ n + 1
        omega
    · rw [ev_bind e, ev_pos c, wn, ev_bind0 rfl, ev_bind e2, ev_pos h2, ev_pos (by simpa using h3), ev_some]
  · have hm : 0 ≤ mn n 30 ∧ mn n 30 ≤ n ∧ mn n 30 ≤ 30 := by
      unfold mn
      split <;> omega
    have wm : wrap64 (mn n 30 + 1) = mn n 30 + 1 := wrap_in _ (by omega)
    obtain ⟨r2, h2, h3, e2⟩ := pick_ev s hs (p + 1) (mn n 30 + 1) (by omega) (by omega)
    refine ⟨r2, p + 1 + 1, by omega, by omega, ?_⟩
    rw [ev_bind e, ev_neg c, wm, ev_bind e2, ev_some]
end Go.Proofs.Ytdkebjjmnhdcnaa.Pure
