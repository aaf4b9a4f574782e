/- What the reader of draws comes to: some number in its range, one place further on. -/
import Derived.Test.YtdiaifmlockohaaQkit3
import Derived.Laws.BitsLemmas
import Derived.Test.YtdiaifmlockohaaG8
namespace Go.Proofs.Ytdiaifmlockohaa.Pure
open Go.RowKit Go.Proofs.Ytdiaifmlockohaa.G Go.Proofs.YtdiaifmlockohaaW.PrintWords Go.Proofs.YtdiaifmlockohaaW.PrintLast

theorem wrap63 (n : Nat) (h : n < 2 ^ 63) : IntKind.i64.wrap (n : Int) = (n : Int) := by
  rw [IntKind.wrap_i64]
  have : (2 : Nat) ^ 63 = 9223372036854775808 := by decide
  omega
theorem bits64_and (a b : Nat) (ha : a < 2 ^ 63) (hb : b < 2 ^ 63) : Go.bits .and .i64 (a : Int) (b : Int) = ((a &&& b : Nat) : Int) := by
  have ha' : a % 2 ^ IntKind.i64.bits = a := Nat.mod_eq_of_lt (Nat.lt_of_lt_of_le ha (by decide))
  have hb' : b % 2 ^ IntKind.i64.bits = b := Nat.mod_eq_of_lt (Nat.lt_of_lt_of_le hb (by decide))
  simp only [Go.bits, BitVec.ofInt_natCast, BitVec.toNat_and, BitVec.toNat_ofNat, ha', hb']
  exact wrap63 _ (Nat.and_lt_two_pow _ hb)
theorem bits64_or (a b : Nat) (ha : a < 2 ^ 63) (hb : b < 2 ^ 63) : Go.bits .or .i64 (a : Int) (b : Int) = ((a ||| b : Nat) : Int) := by
  have ha' : a % 2 ^ IntKind.i64.bits = a := Nat.mod_eq_of_lt (Nat.lt_of_lt_of_le ha (by decide))
  have hb' : b % 2 ^ IntKind.i64.bits = b := Nat.mod_eq_of_lt (Nat.lt_of_lt_of_le hb (by decide))
  simp only [Go.bits, BitVec.ofInt_natCast, BitVec.toNat_or, BitVec.toNat_ofNat, ha', hb']
  exact wrap63 _ (Nat.or_lt_two_pow ha hb)
theorem bits64_xor (a b : Nat) (ha : a < 2 ^ 63) (hb : b < 2 ^ 63) : Go.bits .xor .i64 (a : Int) (b : Int) = ((a ^^^ b : Nat) : Int) := by
  have ha' : a % 2 ^ IntKind.i64.bits = a := Nat.mod_eq_of_lt (Nat.lt_of_lt_of_le ha (by decide))
  have hb' : b % 2 ^ IntKind.i64.bits = b := Nat.mod_eq_of_lt (Nat.lt_of_lt_of_le hb (by decide))
  simp only [Go.bits, BitVec.ofInt_natCast, BitVec.toNat_xor, BitVec.toNat_ofNat, ha', hb']
  exact wrap63 _ (Nat.xor_lt_two_pow ha hb)
theorem xor_nonneg {x y : Int} (hx : 0 ≤ x) (hx1 : x ≤ 1000000000000) (hy : 0 ≤ y) (hy1 : y ≤ 1000000000000) : 0 ≤ Go.bits .xor .i64 x y := by
  obtain ⟨a, rfl⟩ := Int.eq_ofNat_of_zero_le hx
  obtain ⟨b, rfl⟩ := Int.eq_ofNat_of_zero_le hy
  rw [bits64_xor a b (by omega) (by omega)]
  omega
/-- Bytes. -/
def Bytes (s : List Int) : Prop := s.length ≤ 2000 ∧ ∀ x ∈ s, 0 ≤ x ∧ x ≤ 255
theorem Bytes.read {s : List Int} (h : Bytes s) (i : Int) : 0 ≤ rd s i ∧ rd s i ≤ 255 := by
  unfold rd
  rw [List.getD_eq_getElem?_getD]
  by_cases hi : i.toNat < s.length
  · rw [List.getElem?_eq_getElem hi]
    exact h.2 _ (List.getElem_mem hi)
  · rw [List.getElem?_eq_none (by omega)]
    exact ⟨by decide, by decide⟩
theorem tmod_range {x n : Int} (hx : 0 ≤ x) (hn : 1 ≤ n) : 0 ≤ x.tmod n ∧ x.tmod n < n := ⟨Int.tmod_nonneg _ hx, Int.tmod_lt_of_pos _ (by omega)⟩
theorem tdiv_range {x n : Int} (hx : 0 ≤ x) (hn : 0 ≤ n) : 0 ≤ x.tdiv n ∧ x.tdiv n ≤ x := by
  rw [Int.tdiv_eq_ediv_of_nonneg hx]
  exact ⟨Int.ediv_nonneg hx hn, Int.ediv_le_self _ hx⟩
theorem pick_j0 (s : List Int) (hs : Bytes s) (p n : Int) (hp : 1 ≤ p ∧ p ≤ 1000001) (hn : 1 ≤ n) : ∃ r, 0 ≤ r ∧ r < n ∧ Ev (fun k => spec_l6Rd_pick.j0 k n (decide ((s.length : Int) = 0)) s p) (r, p) := by
  have hl := hs.1
  by_cases h0 : (s.length : Int) = 0
  · refine ⟨0, by omega, by omega, ?_⟩
    rw [ev_step (fun k => by rw [spec_l6Rd_pick.j0]), ev_pos (by simpa using h0), ev_some]
  · have hn0 : ¬ n = 0 := by omega
    by_cases h1 : p - 1 < (s.length : Int)
    · have hr := hs.read (p - 1)
      refine ⟨(rd s (p - 1)).tmod n, (tmod_range hr.1 hn).1, (tmod_range hr.1 hn).2, ?_⟩
      rw [ev_step (fun k => by rw [spec_l6Rd_pick.j0]), ev_neg (by simpa using h0), wrap_in (p - 1) (by omega), ev_pos h1, ev_pos (by omega), ev_neg hn0, ev_some, wrap_in _ (by omega)]
    · have t1 := tmod_range (x := p - 1) (n := (s.length : Int)) (by omega) (by omega)
      have t2 := tmod_range (x := (p - 1) * 7 + 3) (n := (s.length : Int)) (by omega) (by omega)
      have t3 := tdiv_range (x := p - 1) (n := (s.length : Int)) (by omega) (by omega)
      have r1 := hs.read ((p - 1).tmod (s.length : Int))
      have r2 := hs.read (((p - 1) * 7 + 3).tmod (s.length : Int))
      generalize hx : rd s ((p - 1).tmod (s.length : Int)) = u at r1
      generalize hy : rd s (((p - 1) * 7 + 3).tmod (s.length : Int)) = v at r2
      generalize hq : (p - 1).tdiv (s.length : Int) = q at t3
      have t4 := tdiv_range (x := u * 131 + v * 1117 + (p - 1) * 29 + q * 53) (n := 64) (by omega) (by omega)
      have hz := xor_nonneg (x := u * 131 + v * 1117 + (p - 1) * 29 + q * 53) (y := (u * 131 + v * 1117 + (p - 1) * 29 + q * 53).tdiv 64) (by omega) (by omega) (by omega) (by omega)
      refine ⟨_, (tmod_range hz hn).1, (tmod_range hz hn).2, ?_⟩
      rw [ev_step (fun k => by rw [spec_l6Rd_pick.j0]), ev_neg (by simpa using h0), wrap_in (p - 1) (by omega), ev_neg h1, ev_neg h0, ev_pos t1.1, ev_pos t1.2, wrap_in ((p - 1) * 7) (by omega), wrap_in ((p - 1) * 7 + 3) (by omega), ev_pos t2.1, ev_pos t2.2, ev_neg hn0, ev_some, hx, hy, hq]
      rw [wrap_in u (by omega), wrap_in v (by omega), wrap_in (u * 131) (by omega), wrap_in (v * 1117) (by omega), wrap_in (u * 131 + v * 1117) (by omega), wrap_in ((p - 1) * 29) (by omega), wrap_in (u * 131 + v * 1117 + (p - 1) * 29) (by omega), wrap_in q (by omega), wrap_in (q * 53) (by omega), wrap_in (u * 131 + v * 1117 + (p - 1) * 29 + q * 53) (by omega)]
      rw [wrap_in (Int.tdiv _ 64) (by omega)]
theorem pick_ev (s : List Int) (hs : Bytes s) (p n : Int) (hp : 0 ≤ p ∧ p ≤ 1000000) (hn : 1 ≤ n) : ∃ r, 0 ≤ r ∧ r < n ∧ Ev (fun k => spec_l6Rd_pick.f k s p n) (r, p + 1) := by
  obtain ⟨r, h0, h1, h2⟩ := pick_j0 s hs (p + 1) n (by omega) hn
  refine ⟨r, h0, h1, ?_⟩
  simp only [spec_l6Rd_pick.f]
  rw [ev_neg (by omega), wrap_in (p + 1) (by omega)]
  have e : ((s.length : Int) == 0) = decide ((s.length : Int) = 0) := by
    by_cases h : (s.length : Int) = 0
    · rw [decide_eq_true h, beq_iff_eq]; exact h
    · rw [decide_eq_false h, beq_eq_false_iff_ne]; exact h
  rw [e]
  exact h2
theorem open_ev (l : List Int) (hw : ∀ x ∈ l, (Lit.int .u8 x).wf = true) : ∃ s, Bytes s ∧ spec_l6Open.f l = some (s, 0) := by
  have hb : ∀ x ∈ l, 0 ≤ x ∧ x ≤ 255 := by
    intro x hx
    simpa [Lit.wf, IntKind.min, IntKind.max, IntKind.signed, IntKind.bits] using hw x hx
  unfold spec_l6Open.f
  by_cases h : (l.length : Int) > 2000
  · rw [if_pos h, if_pos (by omega)]
    exact ⟨_, ⟨by simp; omega, fun x hx => hb x (List.mem_of_mem_take hx)⟩, rfl⟩
  · rw [if_neg h]
    exact ⟨l, ⟨by omega, hb⟩, rfl⟩
end Go.Proofs.Ytdiaifmlockohaa.Pure
