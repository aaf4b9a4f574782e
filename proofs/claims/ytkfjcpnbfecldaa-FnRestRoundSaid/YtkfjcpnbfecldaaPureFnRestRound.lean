/- The law FnRestRound answers true for every text that is drawn. It has no condition. -/
import Derived.Test.YtkfjcpnbfecldaaQ0

import Derived.Laws.BitsLemmas
import Derived.Test.YtkfjcpnbfecldaaQset2
import Derived.Test.YtkfjcpnbfecldaaQtidy
import Derived.Test.YtkfjcpnbfecldaaQdown
import Derived.Test.YtkfjcpnbfecldaaG13
import Derived.Test.YtkfjcpnbfecldaaG14
import Derived.Test.YtkfjcpnbfecldaaG19
import Derived.Test.YtkfjcpnbfecldaaG22
import Derived.Test.YtkfjcpnbfecldaaG23
import Derived.Test.YtkfjcpnbfecldaaG27
import Derived.Test.YtkfjcpnbfecldaaG28
import Derived.Test.YtkfjcpnbfecldaaG29
import Derived.Test.YtkfjcpnbfecldaaG30
import Derived.Test.YtkfjcpnbfecldaaG9
namespace Go.Proofs.Ytkfjcpnbfecldaa.Pure
section
open Go.RowKit Go.Proofs.YtkfjcpnbfecldaaW.PrintWords

theorem rd_get {l : List Int} {i : Nat} (h : i < l.length) : rd l (i : Int) = l[i] := by
  rw [rd_nat, List.getD_eq_getElem?_getD, List.getElem?_eq_getElem h, Option.getD_some]
theorem take_set_next {α : Type} {x y : List α} {i : Nat} (hx : i < x.length) (hy : i < y.length) (h : y.take i = x.take i) : (y.set i x[i]).take (i + 1) = x.take (i + 1) := by
  rw [List.take_succ_eq_append_getElem (by rw [List.length_set]; exact hy), List.take_succ_eq_append_getElem hx, List.getElem_set_self, List.take_set_of_le (Nat.le_refl _), h]
theorem drop_eq_iff {x y : List Int} {i : Nat} (hx : i < x.length) (hy : i < y.length) : (x.drop i = y.drop i) ↔ (x[i] = y[i] ∧ x.drop (i + 1) = y.drop (i + 1)) := by
  rw [List.drop_eq_getElem_cons hx, List.drop_eq_getElem_cons hy, List.cons.injEq]
end
section
open Go.RowKit Go.Proofs.Ytkfjcpnbfecldaa.G Go.Proofs.YtkfjcpnbfecldaaW.PrintWords Go.Proofs.YtkfjcpnbfecldaaW.PrintLast

theorem wrap63 (n : Nat) (h : n < 2 ^ 63) : IntKind.i64.wrap (n : Int) = (n : Int) := by
  rw [IntKind.wrap_i64]
  have : (2 : Nat) ^ 63 = 9223372036854775808 := by decide
  omega
theorem bits64_and (a b : Nat) (ha : a < 2 ^ 63) (hb : b < 2 ^ 63) : Go.bits .and .i64 (a : Int) (b : Int) = ((a &&& b : Nat) : Int) := by
  have ha' : a % 2 ^ IntKind.i64.bits = a := Nat.mod_eq_of_lt (Nat.lt_of_lt_of_le ha (by decide))
  have hb' : b % 2 ^ IntKind.i64.bits = b := Nat.mod_eq_of_lt (Nat.lt_of_lt_of_le hb (by decide))
  simp only [Go.bits, BitVec.ofInt_natCast, BitVec.toNat_and, BitVec.toNat_ofNat, ha', hb']
  exact wrap63 _ (Nat.and_lt_two_pow _ hb)
theorem bits64_or (a b : Nat) (ha : a < 2 ^ 63) (hb : b < 2 ^ 63) : Go.bits .or .i64 (a : Int) (b : Int) = ((a ||| b : Nat) : Int) := by
  have ha' : a % 2 ^ IntKind.i64.bits = a := Nat.mod_eq_of_lt (Nat.lt_of_lt_of_le ha (by decide))
  have hb' : b % 2 ^ IntKind.i64.bits = b := Nat.mod_eq_of_lt (Nat.lt_of_lt_of_le hb (by decide))
  simp only [Go.bits, BitVec.ofInt_natCast, BitVec.toNat_or, BitVec.toNat_ofNat, ha', hb']
  exact wrap63 _ (Nat.or_lt_two_pow ha hb)
theorem bits64_xor (a b : Nat) (ha : a < 2 ^ 63) (hb : b < 2 ^ 63) : Go.bits .xor .i64 (a : Int) (b : Int) = ((a ^^^ b : Nat) : Int) := by
  have ha' : a % 2 ^ IntKind.i64.bits = a := Nat.mod_eq_of_lt (Nat.lt_of_lt_of_le ha (by decide))
  have hb' : b % 2 ^ IntKind.i64.bits = b := Nat.mod_eq_of_lt (Nat.lt_of_lt_of_le hb (by decide))
  simp only [Go.bits, BitVec.ofInt_natCast, BitVec.toNat_xor, BitVec.toNat_ofNat, ha', hb']
  exact wrap63 _ (Nat.xor_lt_two_pow ha hb)
theorem xor_nonneg {x y : Int} (hx : 0 ≤ x) (hx1 : x ≤ 1000000000000) (hy : 0 ≤ y) (hy1 : y ≤ 1000000000000) : 0 ≤ Go.bits .xor .i64 x y := by
  obtain ⟨a, rfl⟩ := Int.eq_ofNat_of_zero_le hx
  obtain ⟨b, rfl⟩ := Int.eq_ofNat_of_zero_le hy
  rw [bits64_xor a b (by omega) (by omega)]
  omega
/-- Bytes. -/
def Bytes (s : List Int) : Prop := s.length ≤ 2000 ∧ ∀ x ∈ s, 0 ≤ x ∧ x ≤ 255
theorem Bytes.read {s : List Int} (h : Bytes s) (i : Int) : 0 ≤ rd s i ∧ rd s i ≤ 255 := by
  unfold rd
  rw [List.getD_eq_getElem?_getD]
  by_cases hi : i.toNat < s.length
  · rw [List.getElem?_eq_getElem hi]
    exact h.2 _ (List.getElem_mem hi)
  · rw [List.getElem?_eq_none (by omega)]
    exact ⟨by decide, by decide⟩
theorem tmod_range {x n : Int} (hx : 0 ≤ x) (hn : 1 ≤ n) : 0 ≤ x.tmod n ∧ x.tmod n < n := ⟨Int.tmod_nonneg _ hx, Int.tmod_lt_of_pos _ (by omega)⟩
theorem tdiv_range {x n : Int} (hx : 0 ≤ x) (hn : 0 ≤ n) : 0 ≤ x.tdiv n ∧ x.tdiv n ≤ x := by
  rw [Int.tdiv_eq_ediv_of_nonneg hx]
  exact ⟨Int.ediv_nonneg hx hn, Int.ediv_le_self _ hx⟩
theorem pick_j0 (s : List Int) (hs : Bytes s) (p n : Int) (hp : 1 ≤ p ∧ p ≤ 1000001) (hn : 1 ≤ n) : ∃ r, 0 ≤ r ∧ r < n ∧ Ev (fun k => spec_l6Rd_pick.j0 k n (decide ((s.length : Int) = 0)) s p) (r, p) := by
  have hl := hs.1
  by_cases h0 : (s.length : Int) = 0
  · refine ⟨0, by omega, by omega, ?_⟩
    rw [ev_step (fun k => by rw [spec_l6Rd_pick.j0]), ev_pos (by simpa using h0), ev_some]
  · have hn0 : ¬ n = 0 := by omega
    by_cases h1 : p - 1 < (s.length : Int)
    · have hr := hs.read (p - 1)
      refine ⟨(rd s (p - 1)).tmod n, (tmod_range hr.1 hn).1, (tmod_range hr.1 hn).2, ?_⟩
      rw [ev_step (fun k => by rw [spec_l6Rd_pick.j0]), ev_neg (by simpa using h0), wrap_in (p - 1) (by omega), ev_pos h1, ev_pos (by omega), ev_neg hn0, ev_some, wrap_in _ (by omega)]
    · have t1 := tmod_range (x := p - 1) (n := (s.length : Int)) (by omega) (by omega)
      have t2 := tmod_range (x := (p - 1) * 7 + 3) (n := (s.length : Int)) (by omega) (by omega)
      have t3 := tdiv_range (x := p - 1) (n := (s.length : Int)) (by omega) (by omega)
      have r1 := hs.read ((p - 1).tmod (s.length : Int))
      have r2 := hs.read (((p - 1) * 7 + 3).tmod (s.length : Int))
      generalize hx : rd s ((p - 1).tmod (s.length : Int)) = u at r1
      generalize hy : rd s (((p - 1) * 7 + 3).tmod (s.length : Int)) = v at r2
      generalize hq : (p - 1).tdiv (s.length : Int) = q at t3
      have t4 := tdiv_range (x := u * 131 + v * 1117 + (p - 1) * 29 + q * 53) (n := 64) (by omega) (by omega)
      have hz := xor_nonneg (x := u * 131 + v * 1117 + (p - 1) * 29 + q * 53) (y := (u * 131 + v * 1117 + (p - 1) * 29 + q * 53).tdiv 64) (by omega) (by omega) (by omega) (by omega)
      refine ⟨_, (tmod_range hz hn).1, (tmod_range hz hn).2, ?_⟩
      rw [ev_step (fun k => by rw [spec_l6Rd_pick.j0]), ev_neg (by simpa using h0), wrap_in (p - 1) (by omega), ev_neg h1, ev_neg h0, ev_pos t1.1, ev_pos t1.2, wrap_in ((p - 1) * 7) (by omega), wrap_in ((p - 1) * 7 + 3) (by omega), ev_pos t2.1, ev_pos t2.2, ev_neg hn0, ev_some, hx, hy, hq]
      rw [wrap_in u (by omega), wrap_in v (by omega), wrap_in (u * 131) (by omega), wrap_in (v * 1117) (by omega), wrap_in (u * 131 + v * 1117) (by omega), wrap_in ((p - 1) * 29) (by omega), wrap_in (u * 131 + v * 1117 + (p - 1) * 29) (by omega), wrap_in q (by omega), wrap_in (q * 53) (by omega), wrap_in (u * 131 + v * 1117 + (p - 1) * 29 + q * 53) (by omega)]
      rw [wrap_in (Int.tdiv _ 64) (by omega)]
theorem pick_ev (s : List Int) (hs : Bytes s) (p n : Int) (hp : 0 ≤ p ∧ p ≤ 1000000) (hn : 1 ≤ n) : ∃ r, 0 ≤ r ∧ r < n ∧ Ev (fun k => spec_l6Rd_pick.f k s p n) (r, p + 1) := by
  obtain ⟨r, h0, h1, h2⟩ := pick_j0 s hs (p + 1) n (by omega) hn
  refine ⟨r, h0, h1, ?_⟩
  simp only [spec_l6Rd_pick.f]
  rw [ev_neg (by omega), wrap_in (p + 1) (by omega)]
  have e : ((s.length : Int) == 0) = decide ((s.length : Int) = 0) := by
    by_cases h : (s.length : Int) = 0
    · rw [decide_eq_true h, beq_iff_eq]; exact h
    · rw [decide_eq_false h, beq_eq_false_iff_ne]; exact h
  rw [e]
  exact h2
theorem open_ev (l : List Int) (hw : ∀ x ∈ l, (Lit.int .u8 x).wf = true) : ∃ s, Bytes s ∧ spec_l6Open.f l = some (s, 0) := by
  have hb : ∀ x ∈ l, 0 ≤ x ∧ x ≤ 255 := by
    intro x hx
    simpa [Lit.wf, IntKind.min, IntKind.max, IntKind.signed, IntKind.bits] using hw x hx
  unfold spec_l6Open.f
  by_cases h : (l.length : Int) > 2000
  · rw [if_pos h, if_pos (by omega)]
    exact ⟨_, ⟨by simp; omega, fun x hx => hb x (List.mem_of_mem_take hx)⟩, rfl⟩
  · rw [if_neg h]
    exact ⟨l, ⟨by omega, hb⟩, rfl⟩
end
section
open Go.RowKit Go.Proofs.Ytkfjcpnbfecldaa.G Go.Proofs.YtkfjcpnbfecldaaW.PrintWords Go.Proofs.YtkfjcpnbfecldaaW.PrintLast Go.Proofs.YtkfjcpnbfecldaaW.PrintMore

theorem strOf_size (l : List Int) : (strOfNums l).size = l.length := by
  unfold strOfNums
  simp [ByteArray.size]
theorem dsigns_l0 (s : List Int) (hs : Bytes s) (d : Nat) : ∀ (p : Int) (l : List Int), 0 ≤ p → p + d ≤ 1000000 → l.length + d ≤ 20 →
    ∃ x q, x.size = l.length + d ∧ (p ≤ q ∧ q ≤ p + d) ∧ Ev (fun k => spec_l91Signs.l0 k l (d : Int) s p) (x, q) := by
  induction d with
  | zero =>
    intro p l hp hp2 hl
    refine ⟨strOfNums l, p, strOf_size l, by omega, ?_⟩
    rw [ev_step (fun k => by rw [spec_l91Signs.l0]), ev_neg (by omega), ev_some]
  | succ d ih =>
    intro p l hp hp2 hl
    obtain ⟨r, h0, h1, e⟩ := pick_ev s hs p 2 (by omega) (by omega)
    obtain ⟨x, q, g1, g2, g3⟩ := ih (p + 1) (l ++ [(wrap64 (48 + r)) % 256]) (by omega) (by omega) (by simp; omega)
    refine ⟨x, q, by rw [g1]; simp; omega, by omega, ?_⟩
    rw [ev_step (fun k => by rw [spec_l91Signs.l0]), ev_pos (by omega), ev_bind e, ev_pos (by omega), wrap_in (((d + 1 : Nat) : Int) - 1) (by omega), show ((d + 1 : Nat) : Int) - 1 = (d : Int) by omega]
    exact g3
theorem dsigns_ev (s : List Int) (hs : Bytes s) (p : Int) (hp : 0 ≤ p ∧ p ≤ 900000) (low n : Nat) (hl : low ≤ 5) (hn : 1 ≤ n ∧ n ≤ 10) :
    ∃ x q, (low ≤ x.size ∧ x.size < low + n) ∧ (p ≤ q ∧ q ≤ p + 20) ∧ Ev (fun k => spec_l91Signs.f k s p (low : Int) (n : Int)) (x, q) := by
  obtain ⟨r, h0, h1, e⟩ := pick_ev s hs p (n : Int) (by omega) (by omega)
  obtain ⟨m, rfl⟩ := Int.eq_ofNat_of_zero_le h0
  obtain ⟨x, q, g1, g2, g3⟩ := dsigns_l0 s hs (low + m) (p + 1) [] (by omega) (by omega) (by simp; omega)
  refine ⟨x, q, by rw [g1]; simp; omega, by omega, ?_⟩
  have w : wrap64 ((low : Int) + (m : Int)) = ((low + m : Nat) : Int) := by rw [wrap_in _ (by omega)]; omega
  simp only [spec_l91Signs.f]
  rw [ev_bind e, w]
  exact g3
theorem dset_ev (s : List Int) (hs : Bytes s) (p : Int) (hp : 0 ≤ p ∧ p ≤ 700000) : ∃ x q, x.size ≤ 12 ∧ (p ≤ q ∧ q ≤ p + 100) ∧ Ev (fun k => spec_l91Set.f k s p) (x, q) := by
  obtain ⟨x, q1, hx, hq1, e1⟩ := dsigns_ev s hs p (by omega) 0 6 (by omega) (by omega)
  obtain ⟨y, q2, hy, hq2, e2⟩ := dsigns_ev s hs q1 (by omega) 1 5 (by omega) (by omega)
  obtain ⟨r, h0, h1, e3⟩ := pick_ev s hs q2 24 (by omega) (by omega)
  have s1 : (x ++ (⟨#[40]⟩ : ByteArray)).size = x.size + 1 := by rw [ByteArray.size_append]; rfl
  have s2 : ((x ++ (⟨#[40]⟩ : ByteArray)) ++ y).size = x.size + 1 + y.size := by rw [ByteArray.size_append, s1]
  have s3 : (((x ++ (⟨#[40]⟩ : ByteArray)) ++ y) ++ (⟨#[41]⟩ : ByteArray)).size = x.size + 1 + y.size + 1 := by rw [ByteArray.size_append, s2]; rfl
  have e1' : Ev (fun k => spec_l91Signs.f k s p 0 6) (x, q1) := e1
  have e2' : Ev (fun k => spec_l91Signs.f k s q1 1 5) (y, q2) := e2
  simp only [spec_l91Set.f]
  by_cases c0 : r = 0
  · obtain ⟨r2, h2, h3, e4⟩ := pick_ev s hs (q2 + 1) 9 (by omega) (by omega)
    refine ⟨rdOf ByteArray.empty [(⟨#[]⟩ : ByteArray), (⟨#[48]⟩ : ByteArray), (⟨#[40, 41]⟩ : ByteArray), (⟨#[49, 40]⟩ : ByteArray), (⟨#[40, 48, 41, 41]⟩ : ByteArray), (⟨#[97, 40, 49, 41]⟩ : ByteArray), (⟨#[40, 49, 41, 48]⟩ : ByteArray), (⟨#[48, 49, 40, 48, 50, 41]⟩ : ByteArray), (⟨#[48, 40, 40, 49, 41]⟩ : ByteArray)] r2, q2 + 1 + 1, ?_, by omega, ?_⟩
    · have : r2 = 0 ∨ r2 = 1 ∨ r2 = 2 ∨ r2 = 3 ∨ r2 = 4 ∨ r2 = 5 ∨ r2 = 6 ∨ r2 = 7 ∨ r2 = 8 := by omega
      rcases this with rfl | rfl | rfl | rfl | rfl | rfl | rfl | rfl | rfl <;> decide
    · rw [ev_bind e1', ev_pos (by simp only; omega), ev_bind e2', ev_pos (by simp only; omega), ev_pos (by simp only; omega), ev_bind e3, ev_pos c0, ev_bind0 rfl, ev_bind e4, ev_pos h2, ev_pos (by simpa using h3), ev_some]
  by_cases c1 : r = 1
  · obtain ⟨z, q3, hz, hq3, e4⟩ := dsigns_ev s hs (q2 + 1) (by omega) 0 6 (by omega) (by omega)
    have e4' : Ev (fun k => spec_l91Signs.f k s (q2 + 1) 0 6) (z, q3) := e4
    refine ⟨z ++ (⟨#[40, 48, 41]⟩ : ByteArray), q3, ?_, by omega, ?_⟩
    · rw [ByteArray.size_append]
      show z.size + 3 ≤ 12
      omega
    · rw [ev_bind e1', ev_pos (by simp only; omega), ev_bind e2', ev_pos (by simp only; omega), ev_pos (by simp only; omega), ev_bind e3, ev_neg c0, ev_pos c1, ev_bind e4', ev_pos (by simp only; omega), ev_some]
  by_cases c2 : r = 2
  · have s4 : ((((x ++ (⟨#[40]⟩ : ByteArray)) ++ y) ++ (⟨#[41]⟩ : ByteArray)).extract 1 (((x ++ (⟨#[40]⟩ : ByteArray)) ++ y) ++ (⟨#[41]⟩ : ByteArray)).size).size = x.size + y.size + 1 := by
      rw [ByteArray.size_extract, s3]
      omega
    refine ⟨(⟨#[40]⟩ : ByteArray) ++ ((((x ++ (⟨#[40]⟩ : ByteArray)) ++ y) ++ (⟨#[41]⟩ : ByteArray)).extract 1 (((x ++ (⟨#[40]⟩ : ByteArray)) ++ y) ++ (⟨#[41]⟩ : ByteArray)).size), q2 + 1, ?_, by omega, ?_⟩
    · rw [ByteArray.size_append, s4]
      show 1 + (x.size + y.size + 1) ≤ 12
      omega
    · rw [ev_bind e1', ev_pos (by simp only; omega), ev_bind e2', ev_pos (by simp only; omega), ev_pos (by simp only; omega), ev_bind e3, ev_neg c0, ev_neg c1, ev_pos c2, ev_pos (by simp only [s3]; omega), ev_pos (by simp only [s4]; omega), ev_some]
  · refine ⟨((x ++ (⟨#[40]⟩ : ByteArray)) ++ y) ++ (⟨#[41]⟩ : ByteArray), q2 + 1, by omega, by omega, ?_⟩
    rw [ev_bind e1', ev_pos (by simp only; omega), ev_bind e2', ev_pos (by simp only; omega), ev_pos (by simp only; omega), ev_bind e3, ev_neg c0, ev_neg c1, ev_neg c2, ev_some]
end
section
open Go.RowKit Go.Proofs.Ytkfjcpnbfecldaa.G Go.Proofs.YtkfjcpnbfecldaaW.PrintWords Go.Proofs.YtkfjcpnbfecldaaW.PrintLast Go.Proofs.YtkfjcpnbfecldaaW.PrintMore

theorem impl_sizes_none {a : ByteArray} (hs : a.size ≤ 1048576) (h : setC a.data.toList = none) : Ev (fun k => impl_SetSizes.f k a) (0, 0, false) := by
  simp only [impl_SetSizes.f]
  rw [ev_bind (impl_tidied_none hs h), ev_some]
  rfl
theorem impl_sizes_some {a : ByteArray} {t r : List Bool} (hs : a.size ≤ 1048576) (h : setC a.data.toList = some (t, r)) : Ev (fun k => impl_SetSizes.f k a) (((nf t r).1.length : Int), ((nf t r).2.length : Int), true) := by
  simp only [impl_SetSizes.f]
  rw [ev_bind (impl_tidied_some hs h), ev_some]
theorem nf_small {t r : List Bool} (h : SOk t r) : (nf t r).1.length ≤ t.length ∧ 1 ≤ (nf t r).2.length ∧ (nf t r).2.length ≤ r.length := by
  obtain ⟨g1, g2, g3, _⟩ := per_spec h.r1
  have := nf_le (t := t) h.r1
  omega
end
section
open Go.RowKit Go.Proofs.Ytkfjcpnbfecldaa.G Go.Proofs.YtkfjcpnbfecldaaW.PrintWords Go.Proofs.YtkfjcpnbfecldaaW.PrintLast Go.Proofs.YtkfjcpnbfecldaaW.PrintMore

theorem rest_shift {t r : List Bool} {m d : Nat} (h : t.length ≤ m) : restN t r (m + d) = restN t r m ↔ d % r.length = 0 := by
  unfold restN
  rw [if_neg (by omega), if_neg (by omega)]
  constructor
  · intro e
    have e2 : (m + d - t.length) % r.length = (m - t.length) % r.length := by omega
    have := Nat.sub_mod_eq_zero_of_mod_eq e2
    rwa [show m + d - t.length - (m - t.length) = d by omega] at this
  · intro e
    obtain ⟨k, hk⟩ := Nat.dvd_of_mod_eq_zero e
    rw [show m + d - t.length = (m - t.length) + r.length * k by omega, Nat.add_mul_mod_self_left]
theorem round_l0 {t r : List Bool} (h : SOk t r) (e : Nat) : ∀ (d : Nat), (nf t r).2.length - d = e → 1 ≤ d → d ≤ (nf t r).2.length → Ev (fun k => spec_RestRound.l0 k (t.length : Int) (d : Int) t r) (((nf t r).2.length : Int), true) := by
  have h1 := h.t60
  have h3 := h.r60
  have hn := nf_small h
  have key : ∀ d, (wrB (downN t r (t.length + d)).1 (downN t r (t.length + d)).2).toList = (wrB (downN t r t.length).1 (downN t r t.length).2).toList ↔ d % (nf t r).2.length = 0 := by
    intro d
    rw [down_iff h, rest_shift hn.1]
  induction e with
  | zero =>
    intro d he h4 h5
    obtain rfl : d = (nf t r).2.length := by omega
    have w : wrap64 ((t.length : Int) + ((nf t r).2.length : Int)) = ((t.length + (nf t r).2.length : Nat) : Int) := by rw [wrap_in _ (by omega)]; omega
    rw [ev_step (fun k => by rw [spec_RestRound.l0]), w, ev_bind (down_ev h _ (by omega)), ev_bind (down_ev h _ (by omega)), ev_pos ((key _).2 (Nat.mod_self _)), ev_some]
  | succ e ih =>
    intro d he h4 h5
    have w : wrap64 ((t.length : Int) + (d : Int)) = ((t.length + d : Nat) : Int) := by rw [wrap_in _ (by omega)]; omega
    rw [ev_step (fun k => by rw [spec_RestRound.l0]), w, ev_bind (down_ev h _ (by omega)), ev_bind (down_ev h _ (by omega)), ev_neg (fun z => by
      have := (key d).1 z
      rw [Nat.mod_eq_of_lt (by omega)] at this
      omega), wrap_in _ (by omega)]
    exact ih (d + 1) (by omega) (by omega) (by omega)
/-- What both answer. -/
def roundS (l : List UInt8) : Int × Bool := match setC l with
  | none => (0, false)
  | some (t, r) => (((nf t r).2.length : Int), true)
theorem spec_round_ev (a : ByteArray) (hs : a.size ≤ 1048576) : Ev (fun k => spec_RestRound.f k a) (roundS a.data.toList) := by
  simp only [spec_RestRound.f]
  unfold roundS
  cases hc : setC a.data.toList with
  | none => rw [ev_bind (spec_none hs hc), ev_neg (by decide), ev_some]
  | some q =>
    obtain ⟨t, r⟩ := q
    have h := setC_ok hc
    rw [ev_bind (spec_some hs hc), ev_pos rfl]
    exact round_l0 h _ 1 rfl (by omega) (nf_small h).2.1
theorem impl_round_ev (a : ByteArray) (hs : a.size ≤ 1048576) : Ev (fun k => impl_RestRound.f k a) (roundS a.data.toList) := by
  simp only [impl_RestRound.f]
  unfold roundS
  cases hc : setC a.data.toList with
  | none => rw [ev_bind (impl_sizes_none hs hc), ev_some]
  | some q =>
    obtain ⟨t, r⟩ := q
    rw [ev_bind (impl_sizes_some hs hc), ev_some]
end
section
open Go.RowKit Go.Proofs.Ytkfjcpnbfecldaa.G Go.Proofs.YtkfjcpnbfecldaaW.PrintWords Go.Proofs.YtkfjcpnbfecldaaW.PrintLast Go.Proofs.YtkfjcpnbfecldaaW.PrintMore

theorem rin6_eq (n lo hi : Int) : spec_l6In.f n lo hi = some (decide (lo ≤ n ∧ n ≤ hi)) := ite_bool
theorem rin_eq (n lo hi : Int) : impl_in.f n lo hi = some (decide (lo ≤ n ∧ n ≤ hi)) := ite_bool
theorem rest_eq {t r : List Bool} (ht : t.length ≤ 60) (h1 : 1 ≤ r.length) (hr : r.length ≤ 60) (k : Nat) (hk : k ≤ 100000) : impl_set_rest.f t r (k : Int) = some ((restN t r k : Nat) : Int) := by
  unfold impl_set_rest.f restN
  by_cases c : k < t.length
  · rw [if_pos (by omega), if_pos c]
  · have hm := Nat.mod_lt (k - t.length) (show r.length > 0 by omega)
    have w : wrap64 ((k : Int) - (t.length : Int)) = ((k - t.length : Nat) : Int) := by rw [wrap_in _ (by omega)]; omega
    rw [if_neg (by omega), if_neg (by omega), w, tmod_nat, if_neg c, wrap_in _ (by omega), Int.natCast_add]
end
section
open Go.RowKit Go.Proofs.Ytkfjcpnbfecldaa.G Go.Proofs.YtkfjcpnbfecldaaW.PrintWords Go.Proofs.YtkfjcpnbfecldaaW.PrintLast Go.Proofs.YtkfjcpnbfecldaaW.PrintMore

/-- What both answer. -/
def sameS (l : List UInt8) (i j : Int) : Bool := match setC l with
  | none => false
  | some (t, r) => if 0 ≤ i ∧ i ≤ 1000 then (if 0 ≤ j ∧ j ≤ 1000 then decide (restN (nf t r).1 (nf t r).2 i.toNat = restN (nf t r).1 (nf t r).2 j.toNat) else false) else false
theorem impl_same_ev (a : ByteArray) (i j : Int) (hs : a.size ≤ 1048576) : Ev (fun k => impl_RestSame.f k a i j) (sameS a.data.toList i j) := by
  simp only [impl_RestSame.f]
  unfold sameS
  cases hc : setC a.data.toList with
  | none => rw [ev_bind (impl_tidied_none hs hc), ev_neg (by simp), ev_some]
  | some q =>
    obtain ⟨t, r⟩ := q
    have h := setC_ok hc
    have h1 := h.t60
    have h3 := h.r60
    have hn := nf_small h
    rw [ev_bind (impl_tidied_some hs hc), ev_pos rfl, ev_bind0 (rin_eq _ _ _)]
    simp only
    by_cases ci : 0 ≤ i ∧ i ≤ 1000
    · rw [if_pos ci, ev_pos (by simpa using ci), ev_bind0 (rin_eq _ _ _)]
      by_cases cj : 0 ≤ j ∧ j ≤ 1000
      · obtain ⟨x, rfl⟩ := Int.eq_ofNat_of_zero_le ci.1
        obtain ⟨y, rfl⟩ := Int.eq_ofNat_of_zero_le cj.1
        rw [if_pos cj, ev_pos (by simpa using cj), Int.toNat_natCast, Int.toNat_natCast, ev_bind0 (rest_eq (by omega) hn.2.1 (by omega) x (by omega)), ev_bind0 (rest_eq (by omega) hn.2.1 (by omega) y (by omega)), ev_some, Bool.eq_iff_iff, beq_iff_eq, decide_eq_true_eq]
        omega
      · rw [if_neg cj, ev_neg (by simpa using cj), ev_some]
    · rw [if_neg ci, ev_neg (by simpa using ci), ev_some]
end
section
open Go.RowKit Go.Proofs.Ytkfjcpnbfecldaa.G Go.Proofs.YtkfjcpnbfecldaaW.PrintWords Go.Proofs.YtkfjcpnbfecldaaW.PrintLast

theorem FnRestRound : laws_FnRestRound.Pure := by
  intro l0 hm _ hw
  refine Ev.rounds ?_
  simp only [laws_FnRestRound.f]
  by_cases c : (l0.length : Int) > 1048576
  · rw [ev_pos c, ev_some]
  obtain ⟨s, hs0, e⟩ := open_ev l0 hw
  obtain ⟨a, q, g1, g2, g3⟩ := dset_ev s hs0 0 (by omega)
  have hs : a.size ≤ 1048576 := by omega
  have d : Ev (fun k => spec_DrawRestRound.f k l0) a := by
    simp only [spec_DrawRestRound.f]
    rw [ev_bind0 e, ev_bind g3, ev_some]
  rw [ev_neg c, ev_bind d, ev_bind (impl_round_ev a hs), ev_bind (spec_round_ev a hs), ev_pos rfl, ev_step (fun k => by rw [laws_FnRestRound.j0]), ev_pos (by simp), ev_step (fun k => by rw [laws_FnRestRound.j1])]
  unfold roundS
  cases hc : setC a.data.toList with
  | none => rw [ev_pos (by rfl)]; exact (ev_some _ _).2 rfl
  | some p =>
    obtain ⟨t, r⟩ := p
    have h := setC_ok hc
    have h1 := h.t60
    have h3 := h.r60
    have hn := nf_small h
    have w : wrap64 (60 + ((nf t r).2.length : Int)) = 60 + ((nf t r).2.length : Int) := wrap_in _ (by omega)
    have s1 : sameS a.data.toList 60 (60 + ((nf t r).2.length : Int)) = true := by
      unfold sameS
      rw [hc]
      simp only
      rw [if_pos (by omega), if_pos (by omega), decide_eq_true_eq]
      have := (rest_shift (t := (nf t r).1) (r := (nf t r).2) (m := 60) (d := (nf t r).2.length) (by omega)).2 (Nat.mod_self _)
      rw [show (60 + ((nf t r).2.length : Int)).toNat = 60 + (nf t r).2.length by omega]
      exact this.symm
    simp only
    rw [ev_neg (by simp), ev_bind (impl_sizes_some hs hc), ev_pos rfl, ev_pos rfl, w, ev_bind (impl_same_ev a _ _ hs), ev_pos s1]
    by_cases b : (nf t r).2.length = 1
    · rw [ev_pos (by omega), ev_some]
    · have s2 : sameS a.data.toList 60 61 = false := by
        unfold sameS
        rw [hc]
        simp only
        rw [if_pos (by omega), if_pos (by omega), decide_eq_false_iff_not]
        intro z
        have := (rest_shift (t := (nf t r).1) (r := (nf t r).2) (m := 60) (d := 1) (by omega)).1 z.symm
        rw [Nat.mod_eq_of_lt (by omega)] at this
        omega
      rw [ev_neg (by omega), ev_bind (impl_same_ev a _ _ hs), ev_some, s2]
      rfl
end
end Go.Proofs.Ytkfjcpnbfecldaa.Pure
