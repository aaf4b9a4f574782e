/- Texts of sets that are drawn: the drawing comes to some text of at most twelve signs; a number that is drawn. -/
import Derived.Test.YtdkebjjmnhdcnaaQdraw
import Derived.Test.YtdkebjjmnhdcnaaQset2
import Derived.Test.YtdkebjjmnhdcnaaG15
import Derived.Test.YtdkebjjmnhdcnaaG16
namespace Go.Proofs.Ytdkebjjmnhdcnaa.Pure
open Go.RowKit Go.Proofs.Ytdkebjjmnhdcnaa.G Go.Proofs.YtdkebjjmnhdcnaaW.PrintWords Go.Proofs.YtdkebjjmnhdcnaaW.PrintLast Go.Proofs.YtdkebjjmnhdcnaaW.PrintMore

theorem strOf_size (l : List Int) : (strOfNums l).size = l.length := by
  unfold strOfNums
  simp [ByteArray.size]
theorem dsigns_l0 (s : List Int) (hs : Bytes s) (d : Nat) : ∀ (p : Int) (l : List Int), 0 ≤ p → p + d ≤ 1000000 → l.length + d ≤ 20 →
    ∃ x q, x.size = l.length + d ∧ (p ≤ q ∧ q ≤ p + d) ∧ Ev (fun k => spec_l91Signs.l0 k l (d : Int) s p) (x, q) := by
  induction d with
  | zero =>
    intro p l hp hp2 hl
    refine ⟨strOfNums l, p, strOf_size l, by omega, ?_⟩
    rw [ev_step (fun k => by rw [spec_l91Signs.l0]), ev_neg (by omega), ev_some]
  | succ d ih =>
    intro p l hp hp2 hl
    obtain ⟨r, h0, h1, e⟩ := pick_ev s hs p 2 (by omega) (by omega)
    obtain ⟨x, q, g1, g2, g3⟩ := ih (p + 1) (l ++ [(wrap64 (48 + r)) % 256]) (by omega) (by omega) (by simp; omega)
    refine ⟨x, q, by rw [g1]; simp; omega, by omega, ?_⟩
    rw [ev_step (fun k => by rw [spec_l91Signs.l0]), ev_pos (by omega), ev_bind e, ev_pos (by omega), wrap_in (((d + 1 : Nat) : Int) - 1) (by omega), show ((d + 1 : Nat) : Int) - 1 = (d : Int) by omega]
    exact g3
theorem dsigns_ev (s : List Int) (hs : Bytes s) (p : Int) (hp : 0 ≤ p ∧ p ≤ 900000) (low n : Nat) (hl : low ≤ 5) (hn : 1 ≤ n ∧ n ≤ 10) :
    ∃ x q, (low ≤ x.size ∧ x.size < low + n) ∧ (p ≤ q ∧ q ≤ p + 20) ∧ Ev (fun k => spec_l91Signs.f k s p (low : Int) (n : Int)) (x, q) := by
  obtain ⟨r, h0, h1, e⟩ := pick_ev s hs p (n : Int) (by omega) (by omega)
  obtain ⟨m, rfl⟩ := Int.eq_ofNat_of_zero_le h0
  obtain ⟨x, q, g1, g2, g3⟩ := dsigns_l0 s hs (low + m) (p + 1) [] (by omega) (by omega) (by simp; omega)
  refine ⟨x, q, by rw [g1]; simp; omega, by omega, ?_⟩
  have w : wrap64 ((low : Int) + (m : Int)) = ((low + m : Nat) : Int) := by rw [wrap_in _ (by omega)]; omega
  simp only [spec_l91Signs.f]
  rw [ev_bind e, w]
  exact g3
theorem dset_ev (s : List Int) (hs : Bytes s) (p : Int) (hp : 0 ≤ p ∧ p ≤ 700000) : ∃ x q, x.size ≤ 12 ∧ (p ≤ q ∧ q ≤ p + 100) ∧ Ev (fun k => spec_l91Set.f k s p) (x, q) := by
  obtain ⟨x, q1, hx, hq1, e1⟩ := dsigns_ev s hs p (by omega) 0 6 (by omega) (by omega)
  obtain ⟨y, q2, hy, hq2, e2⟩ := dsigns_ev s hs q1 (by omega) 1 5 (by omega) (by omega)
  obtain ⟨r, h0, h1, e3⟩ := pick_ev s hs q2 24 (by omega) (by omega)
  have s1 : (x ++ (⟨#[40]⟩ : ByteArray)).size = x.size + 1 := by rw [ByteArray.size_append]; rfl
  have s2 : ((x ++ (⟨#[40]⟩ : ByteArray)) ++ y).size = x.size + 1 + y.size := by rw [ByteArray.size_append, s1]
  have s3 : (((x ++ (⟨#[40]⟩ : ByteArray)) ++ y) ++ (⟨#[41]⟩ : ByteArray)).size = x.size + 1 + y.size + 1 := by rw [ByteArray.size_append, s2]; rfl
  have e1' : Ev (fun k => spec_l91Signs.f k s p 0 6) (x, q1) := e1
  have e2' : Ev (fun k => spec_l91Signs.f k s q1 1 5) (y, q2) := e2
  simp only [spec_l91Set.f]
  by_cases c0 : r = 0
  · obtain ⟨r2, h2, h3, e4⟩ := pick_ev s hs (q2 + 1) 9 (by omega) (by omega)
    refine ⟨rdOf ByteArray.empty [(⟨#[]⟩ : ByteArray), (⟨#[48]⟩ : ByteArray), (⟨#[40, 41]⟩ : ByteArray), (⟨#[49, 40]⟩ : ByteArray), (⟨#[40, 48, 41, 41]⟩ : ByteArray), (⟨#[97, 40, 49, 41]⟩ : ByteArray), (⟨#[40, 49, 41, 48]⟩ : ByteArray), (⟨#[48, 49, 40, 48, 50, 41]⟩ : ByteArray), (⟨#[48, 40, 40, 49, 41]⟩ : ByteArray)] r2, q2 + 1 + 1, ?_, by omega, ?_⟩
    · have : r2 = 0 ∨ r2 = 1 ∨ r2 = 2 ∨ r2 = 3 ∨ r2 = 4 ∨ r2 = 5 ∨ r2 = 6 ∨ r2 = 7 ∨ r2 = 8 := by omega
      rcases this with rfl | rfl | rfl | rfl | rfl | rfl | rfl | rfl | rfl <;> decide
    · rw [ev_bind e1', ev_pos (by simp only; omega), ev_bind e2', ev_pos (by simp only; omega), ev_pos (by simp only; omega), ev_bind e3, ev_pos c0, ev_bind0 rfl, ev_bind e4, ev_pos h2, ev_pos (by simpa using h3), ev_some]
  by_cases c1 : r = 1
  · obtain ⟨z, q3, hz, hq3, e4⟩ := dsigns_ev s hs (q2 + 1) (by omega) 0 6 (by omega) (by omega)
    have e4' : Ev (fun k => spec_l91Signs.f k s (q2 + 1) 0 6) (z, q3) := e4
    refine ⟨z ++ (⟨#[40, 48, 41]⟩ : ByteArray), q3, ?_, by omega, ?_⟩
    · rw [ByteArray.size_append]
      show z.size + 3 ≤ 12
      omega
    · rw [ev_bind e1', ev_pos (by simp only; omega), ev_bind e2', ev_pos (by simp only; omega), ev_pos (by simp only; omega), ev_bind e3, ev_neg c0, ev_pos c1, ev_bind e4', ev_pos (by simp only; omega), ev_some]
  by_cases c2 : r = 2
  · have s4 : ((((x ++ (⟨#[40]⟩ : ByteArray)) ++ y) ++ (⟨#[41]⟩ : ByteArray)).extract 1 (((x ++ (⟨#[40]⟩ : ByteArray)) ++ y) ++ (⟨#[41]⟩ : ByteArray)).size).size = x.size + y.size + 1 := by
      rw [ByteArray.size_extract, s3]
      omega
    refine ⟨(⟨#[40]⟩ : ByteArray) ++ ((((x ++ (⟨#[40]⟩ : ByteArray)) ++ y) ++ (⟨#[41]⟩ : ByteArray)).extract 1 (((x ++ (⟨#[40]⟩ : ByteArray)) ++ y) ++ (⟨#[41]⟩ : ByteArray)).size), q2 + 1, ?_, by omega, ?_⟩
    · rw [ByteArray.size_append, s4]
      show 1 + (x.size + y.size + 1) ≤ 12
      omega
    · rw [ev_bind e1', ev_pos (by simp only; omega), ev_bind e2', ev_pos (by simp only; omega), ev_pos (by simp only; omega), ev_bind e3, ev_neg c0, ev_neg c1, ev_pos c2, ev_pos (by simp only [s3]; omega), ev_pos (by simp only [s4]; omega), ev_some]
  · refine ⟨((x ++ (⟨#[40]⟩ : ByteArray)) ++ y) ++ (⟨#[41]⟩ : ByteArray), q2 + 1, by omega, by omega, ?_⟩
    rw [ev_bind e1', ev_pos (by simp only; omega), ev_bind e2', ev_pos (by simp only; omega), ev_pos (by simp only; omega), ev_bind e3, ev_neg c0, ev_neg c1, ev_neg c2, ev_some]
end Go.Proofs.Ytdkebjjmnhdcnaa.Pure
