/- The drawn terms: short texts, after few picks. -/
import Derived.Test.YtkapeoigpdppeaaQdraw
import Derived.Test.YtkapeoigpdppeaaG7
import Derived.Test.YtkapeoigpdppeaaG8
namespace Go.Proofs.Ytkapeoigpdppeaa.Pure
open Go.RowKit Go.Proofs.Ytkapeoigpdppeaa.G Go.Proofs.YtkapeoigpdppeaaW.PrintWords Go.Proofs.YtkapeoigpdppeaaW.PrintLast

theorem term_leaf (s : List Int) (hs : Bytes s) (p x : Int) (hp : 0 ≤ p ∧ p ≤ 1000000) : ∃ t : ByteArray, t.size = 1 ∧ Ev (fun k => spec_l91Term.j0 k x true s p) (t, p + 1) := by
  obtain ⟨r, h0, h1, hr⟩ := pick_ev s hs p 4 hp (by omega)
  refine ⟨rdOf ByteArray.empty [(⟨#[48]⟩ : ByteArray), (⟨#[49]⟩ : ByteArray), (⟨#[97]⟩ : ByteArray), (⟨#[97]⟩ : ByteArray)] r, ?_, ?_⟩
  · have : r = 0 ∨ r = 1 ∨ r = 2 ∨ r = 3 := by omega
    rcases this with rfl | rfl | rfl | rfl <;> rfl
  · rw [ev_step (fun k => by rw [spec_l91Term.j0]), ev_pos rfl, ev_bind0 rfl, ev_bind hr, ev_pos h0, ev_pos (by simp; omega), ev_some]
theorem one_size (r : Int) (h0 : 0 ≤ r) (h1 : r < 4) (a b c d : UInt8) : (rdOf ByteArray.empty [(⟨#[a]⟩ : ByteArray), (⟨#[b]⟩ : ByteArray), (⟨#[c]⟩ : ByteArray), (⟨#[d]⟩ : ByteArray)] r).size = 1 := by
  have : r = 0 ∨ r = 1 ∨ r = 2 ∨ r = 3 := by omega
  rcases this with rfl | rfl | rfl | rfl <;> rfl
theorem term_ev (s : List Int) (hs : Bytes s) (d : Nat) : ∀ (p : Int), d ≤ 10 → 0 ≤ p → p + 4 * 2 ^ d ≤ 1000000 → ∃ (t : ByteArray) (q : Int), t.size + 3 ≤ 4 * 2 ^ d ∧ p ≤ q ∧ q + 3 ≤ p + 4 * 2 ^ d ∧ Ev (fun k => spec_l91Term.f k s p (d : Int)) (t, q) := by
  induction d with
  | zero =>
    intro p _ h0 h1
    obtain ⟨t, ht, e⟩ := term_leaf s hs p 0 ⟨h0, by omega⟩
    refine ⟨t, p + 1, by omega, by omega, by omega, ?_⟩
    rw [ev_step (fun k => by rw [spec_l91Term.f]), ev_pos (by rfl)]
    exact e
  | succ d ih =>
    intro p hd h0 h1
    have ht : (2 : Int) ^ (d + 1) = 2 * 2 ^ d := by rw [Int.pow_succ]; omega
    have htn : (2 : Nat) ^ (d + 1) = 2 * 2 ^ d := by rw [Nat.pow_succ]; omega
    have hp1 : (1 : Int) ≤ 2 ^ d := by
      have := Nat.one_le_two_pow (n := d)
      have e : ((2 ^ d : Nat) : Int) = 2 ^ d := by simp
      omega
    have hpn : 1 ≤ 2 ^ d := Nat.one_le_two_pow
    have h2 : 2 ^ d ≤ 1024 := by
      have := Nat.pow_le_pow_right (n := 2) (by omega) (show d ≤ 10 by omega)
      omega
    rw [ht] at h1
    rw [htn, ht]
    have hw : wrap64 (((d + 1 : Nat) : Int) - 1) = (d : Int) := by
      rw [wrap_in _ (by omega)]
      omega
    have ih := fun p => ih p (by omega)
    obtain ⟨r, g0, g1, hr⟩ := pick_ev s hs p 5 ⟨h0, by omega⟩ (by omega)
    by_cases c : r = 0
    · obtain ⟨t, ht, e⟩ := term_leaf s hs (p + 1) ((d + 1 : Nat) : Int) ⟨by omega, by omega⟩
      refine ⟨t, p + 1 + 1, by omega, by omega, by omega, ?_⟩
      rw [ev_step (fun k => by rw [spec_l91Term.f]), ev_neg (by omega), ev_bind hr, c]
      exact e
    · obtain ⟨o, o0, o1, ho⟩ := pick_ev s hs (p + 1) 6 ⟨by omega, by omega⟩ (by omega)
      have hc : ((r : Int) == 0) = false := beq_eq_false_iff_ne.2 c
      by_cases c0 : o = 0
      · obtain ⟨t, q, a1, a2, a3, e⟩ := ih (p + 1 + 1) (by omega) (by omega)
        refine ⟨(⟨#[42]⟩ : ByteArray) ++ t, q, by rw [ByteArray.size_append, show (⟨#[42]⟩ : ByteArray).size = 1 from rfl]; omega, by omega, by omega, ?_⟩
        rw [ev_step (fun k => by rw [spec_l91Term.f]), ev_neg (by omega), ev_bind hr]
        simp only [hc]
        rw [ev_step (fun k => by rw [spec_l91Term.j0]), ev_neg (by decide), ev_bind ho, ev_pos c0, hw, ev_bind e, ev_pos (by simp only; omega), ev_some]
      · by_cases c1 : o = 1
        · obtain ⟨o2, x0, x1, hx⟩ := pick_ev s hs (p + 1 + 1) 4 ⟨by omega, by omega⟩ (by omega)
          obtain ⟨t, q, a1, a2, a3, e⟩ := ih (p + 1 + 1 + 1) (by omega) (by omega)
          have hz := one_size o2 x0 x1 50 51 52 53
          refine ⟨rdOf ByteArray.empty [(⟨#[50]⟩ : ByteArray), (⟨#[51]⟩ : ByteArray), (⟨#[52]⟩ : ByteArray), (⟨#[53]⟩ : ByteArray)] o2 ++ t, q, by rw [ByteArray.size_append, hz]; omega, by omega, by omega, ?_⟩
          rw [ev_step (fun k => by rw [spec_l91Term.f]), ev_neg (by omega), ev_bind hr]
          simp only [hc]
          rw [ev_step (fun k => by rw [spec_l91Term.j0]), ev_neg (by decide), ev_bind ho, ev_neg c0, ev_pos c1, ev_bind0 rfl, ev_bind hx, ev_pos x0, ev_pos (by simp; omega), hw, ev_bind e, ev_pos (by simp only [hz]; omega), ev_some]
        · obtain ⟨t, q, a1, a2, a3, e⟩ := ih (p + 1 + 1) (by omega) (by omega)
          obtain ⟨o2, x0, x1, hx⟩ := pick_ev s hs q 4 ⟨by omega, by omega⟩ (by omega)
          obtain ⟨t2, q2, b1, b2, b3, e2⟩ := ih (q + 1) (by omega) (by omega)
          have hz := one_size o2 x0 x1 43 43 46 38
          refine ⟨((((⟨#[40]⟩ : ByteArray) ++ t) ++ (rdOf ByteArray.empty [(⟨#[43]⟩ : ByteArray), (⟨#[43]⟩ : ByteArray), (⟨#[46]⟩ : ByteArray), (⟨#[38]⟩ : ByteArray)] o2)) ++ t2) ++ (⟨#[41]⟩ : ByteArray), q2, ?_, by omega, by omega, ?_⟩
          · rw [ByteArray.size_append, ByteArray.size_append, ByteArray.size_append, ByteArray.size_append, hz, show (⟨#[40]⟩ : ByteArray).size = 1 from rfl, show (⟨#[41]⟩ : ByteArray).size = 1 from rfl]
            omega
          · have z1 : ((⟨#[40]⟩ : ByteArray) ++ t).size = 1 + t.size := by rw [ByteArray.size_append]; rfl
            rw [ev_step (fun k => by rw [spec_l91Term.f]), ev_neg (by omega), ev_bind hr]
            simp only [hc]
            rw [ev_step (fun k => by rw [spec_l91Term.j0]), ev_neg (by decide), ev_bind ho, ev_neg c0, ev_neg c1, hw, ev_bind e, ev_pos (by simp only; omega), ev_bind0 rfl, ev_bind hx, ev_pos x0, ev_pos (by simp; omega), ev_pos (by simp only [z1, hz]; omega), ev_bind e2, ev_pos (by simp only [ByteArray.size_append, z1, hz]; omega), ev_pos (by simp only [ByteArray.size_append, z1, hz]; omega), ev_some]
theorem said_ev (s : List Int) (hs : Bytes s) : ∃ (t : ByteArray) (q : Int), t.size ≤ 60 ∧ Ev (fun k => spec_l91Said.f k s 0) (t, q) := by
  obtain ⟨d, g0, g1, hd⟩ := pick_ev s hs 0 4 ⟨by omega, by omega⟩ (by omega)
  obtain ⟨n, rfl⟩ := Int.eq_ofNat_of_zero_le g0
  have h8 : 2 ^ n ≤ 8 := Nat.pow_le_pow_right (n := 2) (by omega) (show n ≤ 3 by omega)
  have h8i : (2 : Int) ^ n ≤ 8 := by
    have e : ((2 ^ n : Nat) : Int) = 2 ^ n := by simp
    omega
  obtain ⟨t, q, a1, a2, a3, e⟩ := term_ev s hs n (0 + 1) (by omega) (by omega) (by omega)
  obtain ⟨o, o0, o1, ho⟩ := pick_ev s hs q 16 ⟨by omega, by omega⟩ (by omega)
  simp only [spec_l91Said.f]
  by_cases c : o = 0
  · obtain ⟨m, m0, m1, hm⟩ := pick_ev s hs (q + 1) (wrap64 ((t.size : Int) + 1)) ⟨by omega, by omega⟩ (by rw [wrap_in _ (by omega)]; omega)
    rw [wrap_in _ (by omega)] at m1
    obtain ⟨x, x0, x1, hx⟩ := pick_ev s hs (q + 1 + 1) 5 ⟨by omega, by omega⟩ (by omega)
    have hz : (rdOf ByteArray.empty [(⟨#[]⟩ : ByteArray), (⟨#[98]⟩ : ByteArray), (⟨#[40]⟩ : ByteArray), (⟨#[41]⟩ : ByteArray), (⟨#[43]⟩ : ByteArray)] x).size ≤ 1 := by
      have : x = 0 ∨ x = 1 ∨ x = 2 ∨ x = 3 ∨ x = 4 := by omega
      rcases this with rfl | rfl | rfl | rfl | rfl <;> decide
    have z1 : (t.extract 0 m.toNat).size ≤ t.size := by rw [ByteArray.size_extract]; omega
    have z2 : (t.extract m.toNat t.size).size ≤ t.size := by rw [ByteArray.size_extract]; omega
    have z3 : (t.extract 0 m.toNat).size + (t.extract m.toNat t.size).size ≤ t.size := by rw [ByteArray.size_extract, ByteArray.size_extract]; omega
    refine ⟨_, _, ?_, by rw [ev_bind hd, ev_bind e, ev_bind ho, ev_pos c, ev_bind hm, ev_pos m0, ev_pos (by simp only; omega), ev_bind0 rfl, ev_bind hx, ev_pos x0, ev_pos (by simp; omega), ev_pos (by simp only; omega), ev_pos (by simp only [ByteArray.size_append]; omega), ev_some]⟩
    simp only [ByteArray.size_append]
    omega
  · exact ⟨t, _, by omega, by rw [ev_bind hd, ev_bind e, ev_bind ho, ev_neg c, ev_some]⟩
end Go.Proofs.Ytkapeoigpdppeaa.Pure
