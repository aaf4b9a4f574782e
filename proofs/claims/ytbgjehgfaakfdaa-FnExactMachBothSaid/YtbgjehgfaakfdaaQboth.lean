/- The machine of pairs of states of two machines: what the program and the reference make of them. -/
import Derived.Test.YtbgjehgfaakfdaaQmachB
import Derived.Test.YtbgjehgfaakfdaaG3
import Derived.Test.YtbgjehgfaakfdaaG4
import Derived.Test.YtbgjehgfaakfdaaG5
namespace Go.Proofs.Ytbgjehgfaakfdaa.Pure
open Go.RowKit Go.Proofs.Ytbgjehgfaakfdaa.G Go.Proofs.YtbgjehgfaakfdaaW.PrintWords Go.Proofs.YtbgjehgfaakfdaaW.PrintLast Go.Proofs.YtbgjehgfaakfdaaW.PrintMore

theorem shl_nat (b m : Nat) (hm : m ≤ 62) (h : b * 2 ^ m < 2 ^ 62) : shl .i64 (b : Int) (m : Int) = ((b <<< m : Nat) : Int) := by
  unfold shl
  rw [Int.toNat_natCast, show IntKind.i64.bits = 64 from rfl, Nat.min_eq_left (by omega), Nat.shiftLeft_eq]
  have e : ((b : Int) * 2 ^ m) = ((b * 2 ^ m : Nat) : Int) := by
    rw [Int.natCast_mul, Int.natCast_pow]
    rfl
  rw [e]
  generalize b * 2 ^ m = z at *
  exact b64_wrap z (by omega)
/-- All pairs of states of a and b, of the first so many pairs; the second states go up to n. -/
def prA (n a b : Nat) : Nat → Nat
  | 0 => 0
  | p + 1 => prA n a b p ||| (if a.testBit (p / n) && b.testBit (p % n) then 2 ^ p else 0)
theorem prA_bit (n a b j : Nat) : ∀ m, (prA n a b m).testBit j = (decide (j < m) && (a.testBit (j / n) && b.testBit (j % n)))
  | 0 => by simp [prA]
  | m + 1 => by
    rw [prA, Nat.testBit_or, prA_bit n a b j m]
    by_cases e : j = m
    · subst e
      rw [decide_eq_false (Nat.lt_irrefl _), decide_eq_true (Nat.lt_succ_self _), Bool.false_and, Bool.false_or, Bool.true_and]
      by_cases h : (a.testBit (j / n) && b.testBit (j % n)) = true
      · rw [if_pos h, Nat.testBit_two_pow_self, h]
      · rw [if_neg h, Nat.zero_testBit, Bool.eq_false_iff.2 h]
    · have h2 : (if (a.testBit (m / n) && b.testBit (m % n)) = true then 2 ^ m else 0).testBit j = false := by
        split
        · exact Nat.testBit_two_pow_of_ne (fun z => e z.symm)
        · exact Nat.zero_testBit _
      rw [h2, Bool.or_false, show decide (j < m + 1) = decide (j < m) from decide_eq_decide.2 (by omega)]
theorem prA_lt (n a b : Nat) : ∀ m, prA n a b m < 2 ^ m
  | 0 => by simp [prA]
  | m + 1 => by
    rw [prA]
    refine Nat.or_lt_two_pow (Nat.lt_of_lt_of_le (prA_lt n a b m) (Nat.pow_le_pow_right (by decide) (by omega))) ?_
    split
    · exact Nat.pow_lt_pow_right (by decide) (by omega)
    · exact Nat.two_pow_pos _
/-- As the program reckons them: row by row. -/
def prL (a b n : Nat) : Nat → Nat → Nat → Nat
  | 0, _, out => out
  | d + 1, i, out => prL a b n d (i + 1) (if a.testBit i then out ||| b <<< (i * n) else out)
theorem prL_bit (a b n j : Nat) : ∀ d i out, (prL a b n d i out).testBit j = true ↔ out.testBit j = true ∨ ∃ p, i ≤ p ∧ p < i + d ∧ a.testBit p = true ∧ p * n ≤ j ∧ b.testBit (j - p * n) = true := by
  intro d
  induction d with
  | zero =>
    intro i out
    rw [prL]
    exact ⟨Or.inl, fun h => h.elim id fun ⟨p, h1, h2, _⟩ => by omega⟩
  | succ d ih =>
    intro i out
    rw [prL, ih]
    constructor
    · rintro (h | ⟨p, h1, h2, h3⟩)
      · by_cases c : a.testBit i = true
        · rw [if_pos c, Nat.testBit_or, Bool.or_eq_true, Nat.testBit_shiftLeft, Bool.and_eq_true, decide_eq_true_eq] at h
          exact h.imp_right fun h => ⟨i, by omega, by omega, c, h.1, h.2⟩
        · rw [if_neg c] at h
          exact Or.inl h
      · exact Or.inr ⟨p, by omega, by omega, h3⟩
    · rintro (h | ⟨p, h1, h2, h3, h4, h5⟩)
      · left
        split
        · rw [Nat.testBit_or, h, Bool.true_or]
        · exact h
      · by_cases e : p = i
        · subst e
          left
          rw [if_pos h3, Nat.testBit_or, Bool.or_eq_true, Nat.testBit_shiftLeft, Bool.and_eq_true, decide_eq_true_eq]
          exact Or.inr ⟨h4, h5⟩
        · exact Or.inr ⟨p, by omega, by omega, h3, h4, h5⟩
theorem prL_eq {la n a b : Nat} (hn : 1 ≤ n) (h5 : la ≤ 5) (ha : a < 2 ^ la) (hb : b < 2 ^ n) : prL a b n 5 0 0 = prA n a b (la * n) := by
  refine Nat.eq_of_testBit_eq fun j => ?_
  rw [Bool.eq_iff_iff, prL_bit, prA_bit, Bool.and_eq_true, Bool.and_eq_true, decide_eq_true_eq, Nat.zero_testBit]
  constructor
  · rintro (h | ⟨p, h1, h2, h3, h4, h5⟩)
    · cases h
    · have hp := bit_lt ha h3
      have hq := bit_lt hb h5
      have e : j = n * p + (j - p * n) := by rw [Nat.mul_comm]; omega
      have e1 : j / n = p := by
        rw [e, Nat.mul_add_div (by omega), Nat.div_eq_of_lt hq, Nat.add_zero]
      have e2 : j % n = j - p * n := by
        rw [show j % n = (n * p + (j - p * n)) % n from by rw [← e], Nat.mul_add_mod, Nat.mod_eq_of_lt hq]
      rw [e1, e2]
      refine ⟨?_, h3, h5⟩
      have : (p + 1) * n ≤ la * n := Nat.mul_le_mul_right n hp
      rw [Nat.add_mul] at this
      omega
  · rintro ⟨h1, h2, h3⟩
    have hp := bit_lt ha h2
    have hd := Nat.div_add_mod j n
    have hc := Nat.mul_comm n (j / n)
    exact Or.inr ⟨j / n, Nat.zero_le _, by omega, h2, by omega, by rw [show j - j / n * n = j % n from by omega]; exact h3⟩
theorem pairs_l0 {la n a b : Nat} (h5 : la ≤ 5) (hn5 : n ≤ 5) (h25 : la * n ≤ 5) (ha : a < 2 ^ la) (hb : b < 2 ^ n) : ∀ (d i out : Nat), d + i = 5 → out < 2 ^ (la * n) →
    Ev (fun k => impl_pairs.l0 k (a : Int) (b : Int) (n : Int) (out : Int) (i : Int)) (prL a b n d i out : Int) := by
  have p1 : 2 ^ la ≤ 2 ^ 5 := Nat.pow_le_pow_right (by decide) h5
  have p2 : 2 ^ n ≤ 2 ^ 5 := Nat.pow_le_pow_right (by decide) hn5
  have p3 : 2 ^ (la * n) ≤ 2 ^ 5 := Nat.pow_le_pow_right (by decide) h25
  intro d
  induction d with
  | zero =>
    intro i out hd ho
    rw [ev_step (fun k => by rw [impl_pairs.l0]), ev_neg (by omega), ev_some]
    rfl
  | succ d ih =>
    intro i out hd ho
    rw [ev_step (fun k => by rw [impl_pairs.l0]), ev_pos (by omega), ev_pos (by omega), wrap_in ((i : Int) + 1) (by omega), prL]
    by_cases h : a.testBit i = true
    · have hi := bit_lt ha h
      have hin : i * n ≤ 20 := Nat.le_trans (Nat.mul_le_mul (show i ≤ 4 by omega) hn5) (by decide)
      have e0 : (i + 1) * n ≤ la * n := Nat.mul_le_mul_right n hi
      rw [Nat.add_mul] at e0
      have e1 : ((i : Int) * (n : Int)) = ((i * n : Nat) : Int) := by rw [Int.natCast_mul]
      have hs : b * 2 ^ (i * n) < 2 ^ (la * n) := by
        refine Nat.lt_of_lt_of_le (Nat.mul_lt_mul_of_pos_right hb (Nat.two_pow_pos _)) ?_
        rw [← Nat.pow_add]
        exact Nat.pow_le_pow_right (by decide) (by omega)
      have hs2 : b <<< (i * n) < 2 ^ (la * n) := by rw [Nat.shiftLeft_eq]; exact hs
      rw [ev_pos ((bit_test a i (by omega)).2 h), e1, wrap_in _ (by omega), ev_pos (by omega), shl_nat b (i * n) (by omega) (by omega), b64_or _ _ (by omega) (by omega), if_pos h]
      exact ih (i + 1) _ (by omega) (Nat.or_lt_two_pow ho hs2)
    · rw [ev_neg (fun z => h ((bit_test a i (by omega)).1 z)), if_neg h]
      exact ih (i + 1) out (by omega) ho
theorem pairs_ev {la n : Nat} {a b : Int} (hn : 1 ≤ n) (h5 : la ≤ 5) (hn5 : n ≤ 5) (h25 : la * n ≤ 5) (a0 : 0 ≤ a) (b0 : 0 ≤ b) (ha : a.toNat < 2 ^ la) (hb : b.toNat < 2 ^ n) :
    Ev (fun k => impl_pairs.f k a b (n : Int)) (prA n a.toNat b.toNat (la * n) : Int) := by
  have := pairs_l0 h5 hn5 h25 ha hb 5 0 0 rfl (Nat.two_pow_pos _)
  rw [prL_eq hn h5 ha hb, Int.toNat_of_nonneg a0, Int.toNat_of_nonneg b0] at this
  simp only [impl_pairs.f]
  exact this
def gt (l : List Int) (i : Nat) : Nat := (l.getD i 0).toNat
/-- The first so many steps. -/
def stepsP (l m : List Int) (c : Nat) : List Int := (List.range c).map fun p => (prA m.length (gt l (p / m.length)) (gt m (p % m.length)) (l.length * m.length) : Int)
theorem stepsP_len (l m : List Int) (c : Nat) : (stepsP l m c).length = c := by simp [stepsP]
theorem stepsP_snoc {l m : List Int} {i k : Nat} (hk : k < m.length) : stepsP l m (i * m.length + k) ++ [(prA m.length (gt l i) (gt m k) (l.length * m.length) : Int)] = stepsP l m (i * m.length + (k + 1)) := by
  have e1 : (i * m.length + k) / m.length = i := by
    rw [Nat.mul_comm, Nat.mul_add_div (by omega), Nat.div_eq_of_lt hk, Nat.add_zero]
  have e2 : (i * m.length + k) % m.length = k := by
    rw [Nat.mul_comm, Nat.mul_add_mod, Nat.mod_eq_of_lt hk]
  unfold stepsP
  rw [← Nat.add_assoc, List.range_succ, List.map_append, List.map_singleton, e1, e2]
theorem gt_get {l : List Int} {i : Nat} (h : i < l.length) : gt l i = l[i].toNat := by
  unfold gt
  rw [List.getD_eq_getElem?_getD, List.getElem?_eq_getElem h, Option.getD_some]
structure BOk (l : List Int) (a b : Int) (m : List Int) (c e : Int) : Prop where
  f : MOk l a b
  s : MOk m c e
  le : l.length * m.length ≤ 5
theorem both_l1 {l m : List Int} {a b c e : Int} (h : BOk l a b m c e) (i : Nat) (hi : i < l.length) (u v : Int) (r : List Int × Int × Int × Bool) : ∀ (d k : Nat), d + k = m.length →
    Ev (fun q => impl_MachBoth.l0 q (m.length : Int) l (l.length : Int) ((i + 1 : Nat) : Int) m c e (stepsP l m (i * m.length + m.length)) u v) r →
    Ev (fun q => impl_MachBoth.l1 q (m.length : Int) l[i] l (l.length : Int) (i : Int) m (m.length : Int) (k : Int) m c e (stepsP l m (i * m.length + k)) u v) r := by
  have h1 := h.f.n5
  have h2 := h.s.n5
  have hi2 : (i + 1) * m.length ≤ l.length * m.length := Nat.mul_le_mul_right _ hi
  rw [Nat.add_mul] at hi2
  have h3 := h.le
  have hx := h.f.st _ (List.getElem_mem hi)
  intro d
  induction d with
  | zero =>
    intro k hd hr
    obtain rfl : k = m.length := by omega
    rw [ev_step (fun q => by rw [impl_MachBoth.l1]), ev_neg (by omega), wrap_in _ (by omega)]
    exact hr
  | succ d ih =>
    intro k hd hr
    have hk : k < m.length := by omega
    have hy := h.s.st _ (List.getElem_mem hk)
    rw [ev_step (fun q => by rw [impl_MachBoth.l1]), ev_pos (by omega), ev_pos (by omega), ev_pos (by omega), rd_get hk, ev_bind (pairs_ev h.s.n1 h1 h2 h3 hx.1 hy.1 hx.2 hy.2), ev_pos (by rw [stepsP_len]; omega), wrap_in _ (by omega), ← gt_get hi, ← gt_get hk, stepsP_snoc hk]
    have := ih (k + 1) (by omega) hr
    exact this
theorem both_l0 {l m : List Int} {a b c e : Int} (h : BOk l a b m c e) (u v : Int) : ∀ (d i : Nat), d + i = l.length →
    Ev (fun q => impl_MachBoth.l0 q (m.length : Int) l (l.length : Int) (i : Int) m c e (stepsP l m (i * m.length)) u v) (stepsP l m (l.length * m.length), u, v, true) := by
  have h1 := h.f.n5
  intro d
  induction d with
  | zero =>
    intro i hd
    obtain rfl : i = l.length := by omega
    rw [ev_step (fun q => by rw [impl_MachBoth.l0]), ev_neg (by omega), ev_some]
  | succ d ih =>
    intro i hd
    have hi : i < l.length := by omega
    have := ih (i + 1) (by omega)
    rw [Nat.add_mul, Nat.one_mul] at this
    rw [ev_step (fun q => by rw [impl_MachBoth.l0]), ev_pos (by omega), ev_pos (by omega), ev_pos (by omega), rd_get hi]
    exact both_l1 h i hi u v _ m.length 0 (by omega) this
def bothC (l : List Int) (a b : Int) (m : List Int) (c e : Int) : List Int × Int × Int × Bool :=
  if machB l a b = true ∧ machB m c e = true ∧ l.length * m.length ≤ 5 then (stepsP l m (l.length * m.length), (prA m.length a.toNat c.toNat (l.length * m.length) : Int), (prA m.length b.toNat e.toNat (l.length * m.length) : Int), true) else ([], 0, 0, false)
theorem bOk {l m : List Int} {a b c e : Int} (h : machB l a b = true ∧ machB m c e = true ∧ l.length * m.length ≤ 5) : BOk l a b m c e := ⟨mOk h.1, mOk h.2.1, h.2.2⟩
theorem len_mul {l m : List Int} {a b c e : Int} (h1 : MOk l a b) (h2 : MOk m c e) : wrap64 ((l.length : Int) * (m.length : Int)) = ((l.length * m.length : Nat) : Int) := by
  have : l.length * m.length ≤ 5 * 5 := Nat.mul_le_mul h1.n5 h2.n5
  rw [← Int.natCast_mul]
  exact wrap_in _ (by omega)
theorem impl_both_ev (l : List Int) (a b : Int) (m : List Int) (c e : Int) : Ev (fun k => impl_MachBoth.f k l a b m c e) (bothC l a b m c e) := by
  simp only [impl_MachBoth.f]
  unfold bothC
  rw [ev_bind0 (impl_machIn l a b)]
  by_cases h1 : machB l a b = true
  · rw [ev_pos h1, ev_bind0 (impl_machIn m c e)]
    by_cases h2 : machB m c e = true
    · have k1 := mOk h1
      have k2 := mOk h2
      rw [ev_pos h2, ev_step (fun q => by rw [impl_MachBoth.j0]), len_mul k1 k2]
      by_cases h3 : l.length * m.length ≤ 5
      · have h := bOk ⟨h1, h2, h3⟩
        rw [ev_neg (by simp; omega), if_pos ⟨h1, h2, h3⟩, ev_bind (pairs_ev k2.n1 k1.n5 k2.n5 h3 k1.a0 k2.a0 k1.a1 k2.a1), ev_bind (pairs_ev k2.n1 k1.n5 k2.n5 h3 k1.b0 k2.b0 k1.b1 k2.b1)]
        have := both_l0 h (prA m.length a.toNat c.toNat (l.length * m.length) : Int) (prA m.length b.toNat e.toNat (l.length * m.length) : Int) l.length 0 (by omega)
        rw [Nat.zero_mul] at this
        exact this
      · rw [ev_pos (by simp; omega), ev_some, if_neg (fun z => h3 z.2.2)]
    · rw [ev_neg h2, ev_step (fun q => by rw [impl_MachBoth.j0]), ev_pos rfl, ev_some, if_neg (fun z => h2 z.2.1)]
  · rw [ev_neg h1, ev_step (fun q => by rw [impl_MachBoth.j0]), ev_pos rfl, ev_some, if_neg (fun z => h1 z.1)]
/-- What the reference adds for one pair. -/
theorem put_pair {n a b x y : Nat} {out : Nat} (hn : n ≤ 5) (hx : x ≤ 5) (hy : y ≤ 5) (hyn : y < n) (ha : a < 2 ^ 5) (hb : b < 2 ^ 5) (ho : out < 2 ^ 62) :
    Go.bits .or .i64 (out : Int) (shl .i64 (Go.bits .and .i64 (Go.bits .and .i64 (shr .i64 (a : Int) (x : Int)) 1) (Go.bits .and .i64 (shr .i64 (b : Int) (y : Int)) 1)) ((n * x + y : Nat) : Int)) = ((out ||| (if a.testBit ((n * x + y) / n) && b.testBit ((n * x + y) % n) then 2 ^ (n * x + y) else 0) : Nat) : Int) := by
  have hm : n * x ≤ 5 * 5 := Nat.mul_le_mul hn hx
  have hm2 : n * x + y ≤ 30 := by omega
  have hp : 2 ^ (n * x + y) ≤ 2 ^ 30 := Nat.pow_le_pow_right (by decide) hm2
  have e1 : (n * x + y) / n = x := by rw [Nat.mul_add_div (by omega), Nat.div_eq_of_lt hyn, Nat.add_zero]
  have e2 : (n * x + y) % n = y := by rw [Nat.mul_add_mod, Nat.mod_eq_of_lt hyn]
  rw [e1, e2, bit_val a x (by omega), bit_val b y (by omega)]
  generalize n * x + y = z at *
  have s1 : shl .i64 1 (z : Int) = ((2 ^ z : Nat) : Int) := by
    have := shl_nat 1 z (by omega) (by omega)
    rwa [Nat.shiftLeft_eq, Nat.one_mul] at this
  have s0 : shl .i64 0 (z : Int) = ((0 : Nat) : Int) := by
    have := shl_nat 0 z (by omega) (by omega)
    rwa [Nat.shiftLeft_eq, Nat.zero_mul] at this
  by_cases h1 : a.testBit x = true
  · by_cases h2 : b.testBit y = true
    · rw [if_pos h1, if_pos h2, if_pos (by rw [h1, h2]; rfl), show Go.bits .and .i64 1 1 = 1 from by decide +kernel, s1]
      exact b64_or _ _ (by omega) (by omega)
    · rw [if_pos h1, if_neg h2, if_neg (by rw [h1, Bool.eq_false_iff.2 h2]; simp), show Go.bits .and .i64 1 0 = 0 from by decide +kernel, s0]
      exact b64_or _ _ (by omega) (by omega)
  · rw [if_neg h1, if_neg (show ¬ ((a.testBit x && b.testBit y) = true) by rw [Bool.eq_false_iff.2 h1]; simp)]
    have : Go.bits .and .i64 0 (if b.testBit y = true then 1 else 0) = 0 := by
      split <;> decide +kernel
    rw [this, s0]
    exact b64_or _ _ (by omega) (by omega)
theorem wrap_pair {n x y : Nat} (hn : n ≤ 5) (hx : x ≤ 5) (hy : y ≤ 5) : wrap64 ((wrap64 ((n : Int) * (x : Int))) + (y : Int)) = ((n * x + y : Nat) : Int) := by
  have hm : n * x ≤ 5 * 5 := Nat.mul_le_mul hn hx
  rw [← Int.natCast_mul, wrap_in ((n * x : Nat) : Int) (by omega), wrap_in _ (by omega)]
  omega
theorem sboth_l3 {l m : List Int} {a b c e : Int} (h : BOk l a b m c e) (i k x : Nat) (hi : i < l.length) (hk : k < m.length) (hx : x < l.length) (L : List Int) (u v : Int) (r : List Int × Int × Int × Bool) : ∀ (d y : Nat), d + y = m.length →
    Ev (fun q => spec_MachBoth.l2 q (m.length : Int) (i : Int) (k : Int) (prA m.length (gt l i) (gt m k) (m.length * x + m.length) : Int) ((x + 1 : Nat) : Int) l a b m c e L u v) r →
    Ev (fun q => spec_MachBoth.l3 q (m.length : Int) (i : Int) (k : Int) (prA m.length (gt l i) (gt m k) (m.length * x + y) : Int) (x : Int) (y : Int) l a b m c e L u v) r := by
  have h1 := h.f.n5
  have h2 := h.s.n5
  have p1 : 2 ^ l.length ≤ 2 ^ 5 := Nat.pow_le_pow_right (by decide) h1
  have p2 : 2 ^ m.length ≤ 2 ^ 5 := Nat.pow_le_pow_right (by decide) h2
  have hX := h.f.st _ (List.getElem_mem hi)
  have hY := h.s.st _ (List.getElem_mem hk)
  intro d
  induction d with
  | zero =>
    intro y hd hr
    obtain rfl : y = m.length := by omega
    rw [ev_step (fun q => by rw [spec_MachBoth.l3]), ev_neg (by omega), wrap_in _ (by omega)]
    exact hr
  | succ d ih =>
    intro y hd hr
    have hy : y < m.length := by omega
    have hm : m.length * x ≤ 5 * 5 := Nat.mul_le_mul h2 (by omega)
    have hlt := prA_lt m.length (gt l i) (gt m k) (m.length * x + y)
    have hle : 2 ^ (m.length * x + y) ≤ 2 ^ 30 := Nat.pow_le_pow_right (by decide) (by omega)
    have pp := put_pair (out := prA m.length (gt l i) (gt m k) (m.length * x + y)) (a := gt l i) (b := gt m k) h2 (show x ≤ 5 by omega) (show y ≤ 5 by omega) hy (by rw [gt_get hi]; omega) (by rw [gt_get hk]; omega) (by omega)
    have g1 : ((gt l i : Nat) : Int) = l[i] := by rw [gt_get hi]; exact Int.toNat_of_nonneg hX.1
    have g2 : ((gt m k : Nat) : Int) = m[k] := by rw [gt_get hk]; exact Int.toNat_of_nonneg hY.1
    rw [g1, g2] at pp
    rw [ev_step (fun q => by rw [spec_MachBoth.l3]), ev_pos (by omega), ev_pos (by omega), ev_pos (by omega), ev_pos (by omega), ev_pos (by omega), ev_pos (by omega), ev_pos (by omega), wrap_pair h2 (by omega) (by omega), ev_pos (by omega), rd_get hi, rd_get hk, pp, wrap_in _ (by omega)]
    exact ih (y + 1) (by omega) hr
theorem sboth_l2 {l m : List Int} {a b c e : Int} (h : BOk l a b m c e) (i k : Nat) (hi : i < l.length) (hk : k < m.length) (r : List Int × Int × Int × Bool) : ∀ (d x : Nat), d + x = l.length →
    Ev (fun q => spec_MachBoth.l1 q (m.length : Int) (i : Int) ((k + 1 : Nat) : Int) l a b m c e (stepsP l m (i * m.length + (k + 1))) (prA m.length a.toNat c.toNat (m.length * i + (k + 1)) : Int) (prA m.length b.toNat e.toNat (m.length * i + (k + 1)) : Int)) r →
    Ev (fun q => spec_MachBoth.l2 q (m.length : Int) (i : Int) (k : Int) (prA m.length (gt l i) (gt m k) (m.length * x) : Int) (x : Int) l a b m c e (stepsP l m (i * m.length + k)) (prA m.length a.toNat c.toNat (m.length * i + k) : Int) (prA m.length b.toNat e.toNat (m.length * i + k) : Int)) r := by
  have h1 := h.f.n5
  have h2 := h.s.n5
  have p1 : 2 ^ l.length ≤ 2 ^ 5 := Nat.pow_le_pow_right (by decide) h1
  have p2 : 2 ^ m.length ≤ 2 ^ 5 := Nat.pow_le_pow_right (by decide) h2
  have hi2 : (i + 1) * m.length ≤ l.length * m.length := Nat.mul_le_mul_right _ hi
  rw [Nat.add_mul] at hi2
  have h3 := h.le
  intro d
  induction d with
  | zero =>
    intro x hd hr
    obtain rfl : x = l.length := by omega
    have hm : m.length * i ≤ 5 * 5 := Nat.mul_le_mul h2 (by omega)
    have b1 := prA_lt m.length a.toNat c.toNat (m.length * i + k)
    have b2 := prA_lt m.length b.toNat e.toNat (m.length * i + k)
    have hle : 2 ^ (m.length * i + k) ≤ 2 ^ 30 := Nat.pow_le_pow_right (by decide) (by omega)
    have q1 := put_pair (out := prA m.length a.toNat c.toNat (m.length * i + k)) (a := a.toNat) (b := c.toNat) h2 (show i ≤ 5 by omega) (show k ≤ 5 by omega) hk (by have := h.f.a1; omega) (by have := h.s.a1; omega) (by omega)
    have q2 := put_pair (out := prA m.length b.toNat e.toNat (m.length * i + k)) (a := b.toNat) (b := e.toNat) h2 (show i ≤ 5 by omega) (show k ≤ 5 by omega) hk (by have := h.f.b1; omega) (by have := h.s.b1; omega) (by omega)
    rw [Int.toNat_of_nonneg h.f.a0, Int.toNat_of_nonneg h.s.a0] at q1
    rw [Int.toNat_of_nonneg h.f.b0, Int.toNat_of_nonneg h.s.b0] at q2
    rw [ev_step (fun q => by rw [spec_MachBoth.l2]), ev_neg (by omega), ev_pos (by rw [stepsP_len]; omega), ev_pos (by omega), ev_pos (by omega), wrap_pair h2 (by omega) (by omega), ev_pos (by omega), wrap_in _ (by omega), q1, q2, Nat.mul_comm m.length l.length, stepsP_snoc hk]
    exact hr
  | succ d ih =>
    intro x hd hr
    rw [ev_step (fun q => by rw [spec_MachBoth.l2]), ev_pos (by omega)]
    exact sboth_l3 h i k x hi hk (by omega) _ _ _ r m.length 0 (by omega) (ih (x + 1) (by omega) hr)
theorem sboth_l1 {l m : List Int} {a b c e : Int} (h : BOk l a b m c e) (i : Nat) (hi : i < l.length) (r : List Int × Int × Int × Bool) : ∀ (d k : Nat), d + k = m.length →
    Ev (fun q => spec_MachBoth.l0 q (m.length : Int) ((i + 1 : Nat) : Int) l a b m c e (stepsP l m (i * m.length + m.length)) (prA m.length a.toNat c.toNat (m.length * i + m.length) : Int) (prA m.length b.toNat e.toNat (m.length * i + m.length) : Int)) r →
    Ev (fun q => spec_MachBoth.l1 q (m.length : Int) (i : Int) (k : Int) l a b m c e (stepsP l m (i * m.length + k)) (prA m.length a.toNat c.toNat (m.length * i + k) : Int) (prA m.length b.toNat e.toNat (m.length * i + k) : Int)) r := by
  have h1 := h.f.n5
  intro d
  induction d with
  | zero =>
    intro k hd hr
    obtain rfl : k = m.length := by omega
    rw [ev_step (fun q => by rw [spec_MachBoth.l1]), ev_neg (by omega), wrap_in _ (by omega)]
    exact hr
  | succ d ih =>
    intro k hd hr
    rw [ev_step (fun q => by rw [spec_MachBoth.l1]), ev_pos (by omega)]
    have := sboth_l2 h i k hi (by omega) r l.length 0 (by omega) (ih (k + 1) (by omega) hr)
    rw [Nat.mul_zero] at this
    exact this
theorem sboth_l0 {l m : List Int} {a b c e : Int} (h : BOk l a b m c e) : ∀ (d i : Nat), d + i = l.length →
    Ev (fun q => spec_MachBoth.l0 q (m.length : Int) (i : Int) l a b m c e (stepsP l m (i * m.length)) (prA m.length a.toNat c.toNat (m.length * i) : Int) (prA m.length b.toNat e.toNat (m.length * i) : Int)) (stepsP l m (l.length * m.length), (prA m.length a.toNat c.toNat (l.length * m.length) : Int), (prA m.length b.toNat e.toNat (l.length * m.length) : Int), true) := by
  have h1 := h.f.n5
  intro d
  induction d with
  | zero =>
    intro i hd
    obtain rfl : i = l.length := by omega
    rw [ev_step (fun q => by rw [spec_MachBoth.l0]), ev_neg (by omega), ev_some, Nat.mul_comm m.length]
  | succ d ih =>
    intro i hd
    have := ih (i + 1) (by omega)
    rw [Nat.add_mul, Nat.one_mul, Nat.mul_add, Nat.mul_one] at this
    rw [ev_step (fun q => by rw [spec_MachBoth.l0]), ev_pos (by omega)]
    exact sboth_l1 h i (by omega) _ m.length 0 (by omega) this
theorem spec_both_ev (l : List Int) (a b : Int) (m : List Int) (c e : Int) (hl : l.length ≤ 1048576) (hm : m.length ≤ 1048576) : Ev (fun k => spec_MachBoth.f k l a b m c e) (bothC l a b m c e) := by
  simp only [spec_MachBoth.f]
  unfold bothC
  rw [ev_bind (spec_machIn_ev l a b hl)]
  by_cases h1 : machB l a b = true
  · rw [ev_pos h1, ev_bind (spec_machIn_ev m c e hm)]
    by_cases h2 : machB m c e = true
    · have k1 := mOk h1
      have k2 := mOk h2
      rw [ev_pos h2, ev_step (fun q => by rw [spec_MachBoth.j0]), len_mul k1 k2]
      by_cases h3 : l.length * m.length ≤ 5
      · rw [ev_neg (by simp; omega), if_pos ⟨h1, h2, h3⟩]
        have := sboth_l0 (bOk ⟨h1, h2, h3⟩) l.length 0 (by omega)
        rw [Nat.zero_mul, Nat.mul_zero] at this
        exact this
      · rw [ev_pos (by simp; omega), ev_some, if_neg (fun z => h3 z.2.2)]
    · rw [ev_neg h2, ev_step (fun q => by rw [spec_MachBoth.j0]), ev_pos rfl, ev_some, if_neg (fun z => h2 z.2.1)]
  · rw [ev_neg h1, ev_step (fun q => by rw [spec_MachBoth.j0]), ev_pos rfl, ev_some, if_neg (fun z => h1 z.1)]
theorem bothC_len (l : List Int) (a b : Int) (m : List Int) (c e : Int) : (bothC l a b m c e).1.length ≤ 5 := by
  unfold bothC
  by_cases h : machB l a b = true ∧ machB m c e = true ∧ l.length * m.length ≤ 5
  · rw [if_pos h]
    show (stepsP l m _).length ≤ 5
    rw [stepsP_len]
    exact h.2.2
  · rw [if_neg h]
    simp
end Go.Proofs.Ytbgjehgfaakfdaa.Pure
