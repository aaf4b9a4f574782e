/- Machines: which are machines; the program's function and the reference's come to the same. -/
import Derived.Test.YtbgjehgfaakfdaaQkit
import Derived.Laws.BitsLemmas
import Derived.Test.YtbgjehgfaakfdaaG1
import Derived.Test.YtbgjehgfaakfdaaG2
import Derived.Test.YtbgjehgfaakfdaaG4
namespace Go.Proofs.Ytbgjehgfaakfdaa.Pure
open Go.RowKit Go.Proofs.Ytbgjehgfaakfdaa.G Go.Proofs.YtbgjehgfaakfdaaW.PrintWords Go.Proofs.YtbgjehgfaakfdaaW.PrintLast Go.Proofs.YtbgjehgfaakfdaaW.PrintMore

theorem b64_wrap (n : Nat) (h : n < 2 ^ 63) : IntKind.i64.wrap (n : Int) = (n : Int) := by
  rw [IntKind.wrap_i64]
  have : (2 : Nat) ^ 63 = 9223372036854775808 := by decide
  omega
theorem b64_and (a b : Nat) (ha : a < 2 ^ 63) (hb : b < 2 ^ 63) : Go.bits .and .i64 (a : Int) (b : Int) = ((a &&& b : Nat) : Int) := by
  have ha' : a % 2 ^ IntKind.i64.bits = a := Nat.mod_eq_of_lt (Nat.lt_of_lt_of_le ha (by decide))
  have hb' : b % 2 ^ IntKind.i64.bits = b := Nat.mod_eq_of_lt (Nat.lt_of_lt_of_le hb (by decide))
  simp only [Go.bits, BitVec.ofInt_natCast, BitVec.toNat_and, BitVec.toNat_ofNat, ha', hb']
  exact b64_wrap _ (Nat.and_lt_two_pow _ hb)
theorem b64_or (a b : Nat) (ha : a < 2 ^ 63) (hb : b < 2 ^ 63) : Go.bits .or .i64 (a : Int) (b : Int) = ((a ||| b : Nat) : Int) := by
  have ha' : a % 2 ^ IntKind.i64.bits = a := Nat.mod_eq_of_lt (Nat.lt_of_lt_of_le ha (by decide))
  have hb' : b % 2 ^ IntKind.i64.bits = b := Nat.mod_eq_of_lt (Nat.lt_of_lt_of_le hb (by decide))
  simp only [Go.bits, BitVec.ofInt_natCast, BitVec.toNat_or, BitVec.toNat_ofNat, ha', hb']
  exact b64_wrap _ (Nat.or_lt_two_pow ha hb)
theorem l6In_eq (n lo hi : Int) : spec_l6In.f n lo hi = some (decide (lo ≤ n ∧ n ≤ hi)) := ite_bool
theorem in_eq (n lo hi : Int) : impl_in.f n lo hi = some (decide (lo ≤ n ∧ n ≤ hi)) := ite_bool
/-- The greatest number of a set of n states, as both compute it. -/
def top (n : Nat) : Int := wrap64 ((shl .i64 1 (n : Int)) - 1)
theorem top_small (n : Nat) (h : n ≤ 5) : top n = 2 ^ n - 1 := by
  have : n = 0 ∨ n = 1 ∨ n = 2 ∨ n = 3 ∨ n = 4 ∨ n = 5 := by omega
  rcases this with rfl | rfl | rfl | rfl | rfl | rfl <;> decide +kernel
def inR (x hi : Int) : Bool := decide (0 ≤ x ∧ x ≤ hi)
def machB (l : List Int) (a b : Int) : Bool := decide (1 ≤ l.length ∧ l.length ≤ 5) && l.all (fun x => inR x (2 ^ l.length - 1)) && inR a (2 ^ l.length - 1) && inR b (2 ^ l.length - 1)
theorem mi_eq (n lo hi : Int) : mi_inB n lo hi = decide (lo ≤ n ∧ n ≤ hi) := by
  unfold mi_inB
  by_cases h : lo ≤ n <;> simp [h]
theorem impl_machIn (l : List Int) (a b : Int) : impl_MachIn.f l a b = some (machB l a b) := by
  unfold impl_MachIn.f machB
  congr 1
  by_cases h : l.length ≤ 5
  · rw [Nat.min_eq_left h]
    simp only [mi_eq]
    have e1 : decide ((1 : Int) ≤ (l.length : Int) ∧ (l.length : Int) ≤ 5) = decide (1 ≤ l.length ∧ l.length ≤ 5) := decide_eq_decide.2 (by omega)
    have e2 : (!l.any fun x => !decide (0 ≤ x ∧ x ≤ 2 ^ l.length - 1)) = l.all fun x => inR x (2 ^ l.length - 1) := by
      rw [List.not_any_eq_all_not]
      congr 1
      funext x
      simp [inR]
    rw [e1, e2]
    rfl
  · have e1 : mi_inB (l.length : Int) 1 5 = false := by
      rw [mi_eq]
      exact decide_eq_false (by omega)
    have e2 : decide (1 ≤ l.length ∧ l.length ≤ 5) = false := decide_eq_false (by omega)
    rw [e1, e2]
    rfl
theorem spec_machIn_l0 (l : List Int) (a b : Int) (hm : l.length ≤ 1048576) (d : Nat) : ∀ (i : Nat), l.length - i = d → i ≤ l.length →
    Ev (fun k => spec_MachIn.l0 k (l.length : Int) (i : Int) l a b) ((l.drop i).all (fun x => inR x (top l.length)) && (decide (1 ≤ l.length ∧ l.length ≤ 5) && (inR a (top l.length) && inR b (top l.length)))) := by
  induction d with
  | zero =>
    intro i hd hi
    rw [ev_step (fun k => by rw [spec_MachIn.l0]), ev_neg (by omega), List.drop_of_length_le (by omega), List.all_nil, Bool.true_and, ev_bind0 (l6In_eq _ _ _)]
    have e1 : decide ((1 : Int) ≤ (l.length : Int) ∧ (l.length : Int) ≤ 5) = decide (1 ≤ l.length ∧ l.length ≤ 5) := decide_eq_decide.2 (by omega)
    rw [e1]
    by_cases h : 1 ≤ l.length ∧ l.length ≤ 5
    · rw [decide_eq_true h, ev_pos rfl, ev_pos (by omega), Bool.true_and, ev_bind0 (l6In_eq _ _ _)]
      show Ev (fun n => if inR a (top l.length) = true then _ else _) _
      by_cases h2 : inR a (top l.length) = true
      · rw [ev_pos h2, ev_bind0 (l6In_eq _ _ _), ev_some, h2, Bool.true_and]
        rfl
      · rw [ev_neg h2, ev_some, Bool.eq_false_iff.2 h2, Bool.false_and]
    · rw [decide_eq_false h, ev_neg (by simp), ev_some, Bool.false_and]
  | succ d ih =>
    intro i hd hi
    have hi2 : i < l.length := by omega
    rw [ev_step (fun k => by rw [spec_MachIn.l0]), ev_pos (by omega), ev_pos (by omega), ev_pos (by omega), ev_pos (by omega), rd_get hi2, ev_bind0 (l6In_eq _ _ _), List.drop_eq_getElem_cons hi2, List.all_cons]
    show Ev (fun n => if inR l[i] (top l.length) = true then _ else _) _
    by_cases h : inR l[i] (top l.length) = true
    · rw [ev_pos h, h, wrap_in _ (by omega), Bool.true_and]
      exact ih (i + 1) (by omega) (by omega)
    · rw [ev_neg h, ev_some, Bool.eq_false_iff.2 h, Bool.false_and, Bool.false_and]
theorem spec_machIn_ev (l : List Int) (a b : Int) (hm : l.length ≤ 1048576) : Ev (fun k => spec_MachIn.f k l a b) (machB l a b) := by
  simp only [spec_MachIn.f]
  have h := spec_machIn_l0 l a b hm l.length 0 (by omega) (by omega)
  have e : ((l.drop 0).all (fun x => inR x (top l.length)) && (decide (1 ≤ l.length ∧ l.length ≤ 5) && (inR a (top l.length) && inR b (top l.length)))) = machB l a b := by
    unfold machB
    rw [List.drop_zero]
    by_cases h : l.length ≤ 5
    · rw [top_small _ h]
      cases l.all (fun x => inR x (2 ^ l.length - 1)) <;> cases decide (1 ≤ l.length ∧ l.length ≤ 5) <;> simp
    · rw [decide_eq_false (show ¬ (1 ≤ l.length ∧ l.length ≤ 5) by omega)]
      simp
  rw [← e]
  exact h
structure MOk (l : List Int) (a b : Int) : Prop where
  n1 : 1 ≤ l.length
  n5 : l.length ≤ 5
  st : ∀ x ∈ l, 0 ≤ x ∧ x.toNat < 2 ^ l.length
  a0 : 0 ≤ a
  a1 : a.toNat < 2 ^ l.length
  b0 : 0 ≤ b
  b1 : b.toNat < 2 ^ l.length
theorem inR_nat {x : Int} {n : Nat} (h : inR x (2 ^ n - 1) = true) : 0 ≤ x ∧ x.toNat < 2 ^ n := by
  unfold inR at h
  rw [decide_eq_true_eq] at h
  refine ⟨h.1, ?_⟩
  have : (x.toNat : Int) < ((2 ^ n : Nat) : Int) := by
    rw [Int.natCast_pow]
    show (x.toNat : Int) < 2 ^ n
    omega
  omega
theorem mOk {l : List Int} {a b : Int} (h : machB l a b = true) : MOk l a b := by
  unfold machB at h
  rw [Bool.and_eq_true, Bool.and_eq_true, Bool.and_eq_true, decide_eq_true_eq, List.all_eq_true] at h
  obtain ⟨⟨⟨h1, h2⟩, h3⟩, h4⟩ := h
  exact ⟨h1.1, h1.2, fun x hx => inR_nat (h2 x hx), (inR_nat h3).1, (inR_nat h3).2, (inR_nat h4).1, (inR_nat h4).2⟩
theorem bit_test (s i : Nat) (hs : s < 2 ^ 62) : (Go.bits .and .i64 (shr .i64 (s : Int) (i : Int)) 1 = 1) ↔ s.testBit i = true := by
  have hm : min (i : Int).toNat 64 ≤ 64 := Nat.min_le_right _ _
  have e : shr .i64 (s : Int) (i : Int) = ((s >>> i : Nat) : Int) := by
    unfold shr
    rw [Int.toNat_natCast, show IntKind.i64.bits = 64 from rfl, Nat.shiftRight_eq_div_pow]
    by_cases h : i ≤ 64
    · rw [Nat.min_eq_left h]
      simp
    · rw [Nat.min_eq_right (by omega)]
      have h1 : s / 2 ^ 64 = 0 := Nat.div_eq_of_lt (by omega)
      have h2 : s / 2 ^ i = 0 := Nat.div_eq_of_lt (Nat.lt_of_lt_of_le (by omega : s < 2 ^ 64) (Nat.pow_le_pow_right (by decide) (by omega)))
      rw [h2]
      have : ((s : Int) / 2 ^ 64) = ((s / 2 ^ 64 : Nat) : Int) := by simp
      rw [this, h1]
  have hlt : s >>> i < 2 ^ 63 := by
    rw [Nat.shiftRight_eq_div_pow]
    exact Nat.lt_of_le_of_lt (Nat.div_le_self _ _) (by omega)
  rw [e, show (1 : Int) = ((1 : Nat) : Int) from rfl, b64_and _ _ hlt (by decide), Nat.testBit_eq_decide_div_mod_eq, decide_eq_true_eq, Nat.and_one_is_mod, Nat.shiftRight_eq_div_pow]
  omega
theorem shr_nat2 (s i : Nat) (hs : s < 2 ^ 62) : shr .i64 (s : Int) (i : Int) = ((s >>> i : Nat) : Int) := by
  unfold shr
  rw [Int.toNat_natCast, show IntKind.i64.bits = 64 from rfl, Nat.shiftRight_eq_div_pow]
  by_cases h : i ≤ 64
  · rw [Nat.min_eq_left h]
    simp
  · rw [Nat.min_eq_right (by omega)]
    have h1 : s / 2 ^ 64 = 0 := Nat.div_eq_of_lt (by omega)
    have h2 : s / 2 ^ i = 0 := Nat.div_eq_of_lt (Nat.lt_of_lt_of_le (by omega : s < 2 ^ 64) (Nat.pow_le_pow_right (by decide) (by omega)))
    rw [h2]
    have : ((s : Int) / 2 ^ 64) = ((s / 2 ^ 64 : Nat) : Int) := by simp
    rw [this, h1]
theorem bit_val (s i : Nat) (hs : s < 2 ^ 62) : Go.bits .and .i64 (shr .i64 (s : Int) (i : Int)) 1 = if s.testBit i = true then 1 else 0 := by
  have hlt : s >>> i < 2 ^ 63 := by
    rw [Nat.shiftRight_eq_div_pow]
    exact Nat.lt_of_le_of_lt (Nat.div_le_self _ _) (by omega)
  by_cases h : s.testBit i = true
  · rw [if_pos h]
    exact (bit_test s i hs).2 h
  · rw [if_neg h]
    have h2 := fun z => h ((bit_test s i hs).1 z)
    rw [shr_nat2 s i hs, show (1 : Int) = ((1 : Nat) : Int) from rfl, b64_and _ _ hlt (by decide), Nat.and_one_is_mod] at h2 ⊢
    generalize s >>> i = z at h2 ⊢
    have h3 : ¬ ((z % 2 : Nat) : Int) = 1 := h2
    show ((z % 2 : Nat) : Int) = 0
    omega
theorem inR_of {x : Int} {n : Nat} (h0 : 0 ≤ x) (h1 : x.toNat < 2 ^ n) : inR x (2 ^ n - 1) = true := by
  unfold inR
  rw [decide_eq_true_eq]
  refine ⟨h0, ?_⟩
  have : (x.toNat : Int) < ((2 ^ n : Nat) : Int) := by omega
  rw [Int.natCast_pow] at this
  have h2 : (x.toNat : Int) < 2 ^ n := this
  omega
theorem mB {l : List Int} {a b : Int} (h : MOk l a b) : machB l a b = true := by
  unfold machB
  rw [Bool.and_eq_true, Bool.and_eq_true, Bool.and_eq_true, decide_eq_true_eq, List.all_eq_true]
  exact ⟨⟨⟨⟨h.n1, h.n5⟩, fun x hx => inR_of (h.st x hx).1 (h.st x hx).2⟩, inR_of h.a0 h.a1⟩, inR_of h.b0 h.b1⟩
theorem bit_lt {x n j : Nat} (hx : x < 2 ^ n) (h : x.testBit j = true) : j < n := by
  by_cases c : j < n
  · exact c
  · have := Nat.testBit_lt_two_pow (Nat.lt_of_lt_of_le hx (Nat.pow_le_pow_right (by decide : 0 < 2) (by omega : n ≤ j)))
    rw [this] at h
    cases h
end Go.Proofs.Ytbgjehgfaakfdaa.Pure
