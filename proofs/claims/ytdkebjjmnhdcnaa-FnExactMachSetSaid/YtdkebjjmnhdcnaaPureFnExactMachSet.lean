/- The law FnExactMachSet answers true for every machine. It has no condition. -/
import Derived.Test.YtdkebjjmnhdcnaaQ0
import Derived.Laws.BitsLemmas
import Derived.Test.YtdkebjjmnhdcnaaStmtFnExactMachSet
import Derived.Test.YtdkebjjmnhdcnaaG10
import Derived.Test.YtdkebjjmnhdcnaaG28
import Derived.Test.YtdkebjjmnhdcnaaG29
import Derived.Test.YtdkebjjmnhdcnaaG3
import Derived.Test.YtdkebjjmnhdcnaaG30
import Derived.Test.YtdkebjjmnhdcnaaG35
import Derived.Test.YtdkebjjmnhdcnaaG36
import Derived.Test.YtdkebjjmnhdcnaaG37
import Derived.Test.YtdkebjjmnhdcnaaG38
import Derived.Test.YtdkebjjmnhdcnaaG39
import Derived.Test.YtdkebjjmnhdcnaaG4
import Derived.Test.YtdkebjjmnhdcnaaG40
import Derived.Test.YtdkebjjmnhdcnaaG5
import Derived.Test.YtdkebjjmnhdcnaaG8
import Derived.Test.YtdkebjjmnhdcnaaG9
namespace Go.Proofs.Ytdkebjjmnhdcnaa.Pure
section
open Go.RowKit Go.Proofs.Ytdkebjjmnhdcnaa.G Go.Proofs.YtdkebjjmnhdcnaaW.PrintWords Go.Proofs.YtdkebjjmnhdcnaaW.PrintLast Go.Proofs.YtdkebjjmnhdcnaaW.PrintMore
set_option linter.unusedVariables false
def hasN (t r : List Bool) (n : Nat) : Bool := if n < t.length then t.getD n false else r.getD ((n - t.length) % r.length) false
theorem rdOf_nat (l : List Bool) (i : Nat) : rdOf false l (i : Int) = l.getD i false := by
  unfold rdOf
  rw [Int.toNat_natCast]
theorem wrap63 (n : Nat) (h : n < 2 ^ 63) : IntKind.i64.wrap (n : Int) = (n : Int) := by
  rw [IntKind.wrap_i64]
  have : (2 : Nat) ^ 63 = 9223372036854775808 := by decide
  omega
theorem bits64_and (a b : Nat) (ha : a < 2 ^ 63) (hb : b < 2 ^ 63) : Go.bits .and .i64 (a : Int) (b : Int) = ((a &&& b : Nat) : Int) := by
  have ha' : a % 2 ^ IntKind.i64.bits = a := Nat.mod_eq_of_lt (Nat.lt_of_lt_of_le ha (by decide))
  have hb' : b % 2 ^ IntKind.i64.bits = b := Nat.mod_eq_of_lt (Nat.lt_of_lt_of_le hb (by decide))
  simp only [Go.bits, BitVec.ofInt_natCast, BitVec.toNat_and, BitVec.toNat_ofNat, ha', hb']
  exact wrap63 _ (Nat.and_lt_two_pow _ hb)
theorem bits64_or (a b : Nat) (ha : a < 2 ^ 63) (hb : b < 2 ^ 63) : Go.bits .or .i64 (a : Int) (b : Int) = ((a ||| b : Nat) : Int) := by
  have ha' : a % 2 ^ IntKind.i64.bits = a := Nat.mod_eq_of_lt (Nat.lt_of_lt_of_le ha (by decide))
  have hb' : b % 2 ^ IntKind.i64.bits = b := Nat.mod_eq_of_lt (Nat.lt_of_lt_of_le hb (by decide))
  simp only [Go.bits, BitVec.ofInt_natCast, BitVec.toNat_or, BitVec.toNat_ofNat, ha', hb']
  exact wrap63 _ (Nat.or_lt_two_pow ha hb)
end
section
open Go.RowKit Go.Proofs.Ytdkebjjmnhdcnaa.G Go.Proofs.YtdkebjjmnhdcnaaW.PrintWords Go.Proofs.YtdkebjjmnhdcnaaW.PrintLast

theorem rd_get {l : List Int} {i : Nat} (h : i < l.length) : rd l (i : Int) = l[i] := by
  rw [rd_nat, List.getD_eq_getElem?_getD, List.getElem?_eq_getElem h, Option.getD_some]
theorem take_set_next {α : Type} {x y : List α} {i : Nat} (hx : i < x.length) (hy : i < y.length) (h : y.take i = x.take i) : (y.set i x[i]).take (i + 1) = x.take (i + 1) := by
  rw [List.take_succ_eq_append_getElem (by rw [List.length_set]; exact hy), List.take_succ_eq_append_getElem hx, List.getElem_set_self, List.take_set_of_le (Nat.le_refl _), h]
theorem toIntS_l0 (x : List Int) (hm : x.length ≤ 9223372036854775806) (d : Nat) : ∀ (i : Nat) (y : List Int), x.length - i = d → i ≤ x.length → y.length = x.length → y.take i = x.take i → Ev (fun k => laws_toIntS.l0 k x y (i : Int)) x := by
  induction d with
  | zero =>
    intro i y hd hi hl ht
    rw [ev_step (fun k => by rw [laws_toIntS.l0]), ev_neg (by omega), ev_some]
    rwa [List.take_of_length_le (by omega), List.take_of_length_le (by omega)] at ht
  | succ d ih =>
    intro i y hd hi hl ht
    rw [ev_step (fun k => by rw [laws_toIntS.l0]), ev_pos (by omega), ev_pos (by omega), ev_pos (by omega), wrap_in _ (by omega), Int.toNat_natCast, rd_get (by omega)]
    exact ih (i + 1) _ (by omega) (by omega) (by rw [List.length_set]; exact hl) (take_set_next (by omega) (by omega) ht)
theorem toIntS_ev (x : List Int) (hm : x.length ≤ 35184372088832) : Ev (fun k => laws_toIntS.f k x) x := by
  simp only [laws_toIntS.f]
  rw [ev_pos (by omega), ev_pos (by omega)]
  exact toIntS_l0 x (by omega) x.length 0 _ (by omega) (by omega) (by simp) (by simp)
theorem drop_eq_iff {x y : List Int} {i : Nat} (hx : i < x.length) (hy : i < y.length) : (x.drop i = y.drop i) ↔ (x[i] = y[i] ∧ x.drop (i + 1) = y.drop (i + 1)) := by
  rw [List.drop_eq_getElem_cons hx, List.drop_eq_getElem_cons hy, List.cons.injEq]
theorem eqIntS_l0 (x y : List Int) (hm : x.length ≤ 9223372036854775806) (hl : x.length = y.length) (d : Nat) : ∀ (i : Nat), x.length - i = d → i ≤ x.length → Ev (fun k => laws_eqIntS.l0 k x y (i : Int)) (decide (x.drop i = y.drop i)) := by
  induction d with
  | zero =>
    intro i hd hi
    rw [ev_step (fun k => by rw [laws_eqIntS.l0]), ev_neg (by omega), ev_some, List.drop_of_length_le (by omega), List.drop_of_length_le (by omega)]
    simp
  | succ d ih =>
    intro i hd hi
    rw [ev_step (fun k => by rw [laws_eqIntS.l0]), ev_pos (by omega), ev_pos (by omega), ev_pos (by omega), wrap_in _ (by omega), rd_get (by omega), rd_get (by omega)]
    have he := drop_eq_iff (x := x) (y := y) (i := i) (by omega) (by omega)
    by_cases h : x[i] = y[i]
    · rw [ev_pos h]
      have := ih (i + 1) (by omega) (by omega)
      rwa [show decide (x.drop i = y.drop i) = decide (x.drop (i + 1) = y.drop (i + 1)) from decide_eq_decide.2 (by rw [he]; simp [h])]
    · rw [ev_neg h, ev_some, eq_comm, decide_eq_false_iff_not, he]
      exact fun h2 => h h2.1
theorem eqIntS_ev (x y : List Int) (hm : x.length ≤ 9223372036854775806) : Ev (fun k => laws_eqIntS.f k x y) (decide (x = y)) := by
  simp only [laws_eqIntS.f]
  by_cases h : x.length = y.length
  · rw [ev_pos (by omega)]
    exact eqIntS_l0 x y hm h x.length 0 (by omega) (by omega)
  · rw [ev_neg (by omega), ev_some, eq_comm, decide_eq_false_iff_not]
    exact fun e => h (by rw [e])
end
section
open Go.RowKit Go.Proofs.Ytdkebjjmnhdcnaa.G Go.Proofs.YtdkebjjmnhdcnaaW.PrintWords Go.Proofs.YtdkebjjmnhdcnaaW.PrintLast Go.Proofs.YtdkebjjmnhdcnaaW.PrintMore

theorem l6In_eq (n lo hi : Int) : spec_l6In.f n lo hi = some (decide (lo ≤ n ∧ n ≤ hi)) := ite_bool
/-- The greatest number of a set of n states, as both compute it. -/
def top (n : Nat) : Int := wrap64 ((shl .i64 1 (n : Int)) - 1)
theorem top_small (n : Nat) (h : n ≤ 5) : top n = 2 ^ n - 1 := by
  have : n = 0 ∨ n = 1 ∨ n = 2 ∨ n = 3 ∨ n = 4 ∨ n = 5 := by omega
  rcases this with rfl | rfl | rfl | rfl | rfl | rfl <;> decide +kernel
def inR (x hi : Int) : Bool := decide (0 ≤ x ∧ x ≤ hi)
def machB (l : List Int) (a b : Int) : Bool := decide (1 ≤ l.length ∧ l.length ≤ 5) && l.all (fun x => inR x (2 ^ l.length - 1)) && inR a (2 ^ l.length - 1) && inR b (2 ^ l.length - 1)
theorem mi_eq (n lo hi : Int) : mi_inB n lo hi = decide (lo ≤ n ∧ n ≤ hi) := by
  unfold mi_inB
  by_cases h : lo ≤ n <;> simp [h]
theorem impl_machIn (l : List Int) (a b : Int) : impl_MachIn.f l a b = some (machB l a b) := by
  unfold impl_MachIn.f machB
  congr 1
  by_cases h : l.length ≤ 5
  · rw [Nat.min_eq_left h]
    simp only [mi_eq]
    have e1 : decide ((1 : Int) ≤ (l.length : Int) ∧ (l.length : Int) ≤ 5) = decide (1 ≤ l.length ∧ l.length ≤ 5) := decide_eq_decide.2 (by omega)
    have e2 : (!l.any fun x => !decide (0 ≤ x ∧ x ≤ 2 ^ l.length - 1)) = l.all fun x => inR x (2 ^ l.length - 1) := by
      rw [List.not_any_eq_all_not]
      congr 1
      funext x
      simp [inR]
    rw [e1, e2]
    rfl
  · have e1 : mi_inB (l.length : Int) 1 5 = false := by
      rw [mi_eq]
      exact decide_eq_false (by omega)
    have e2 : decide (1 ≤ l.length ∧ l.length ≤ 5) = false := decide_eq_false (by omega)
    rw [e1, e2]
    rfl
theorem spec_machIn_l0 (l : List Int) (a b : Int) (hm : l.length ≤ 1048576) (d : Nat) : ∀ (i : Nat), l.length - i = d → i ≤ l.length →
    Ev (fun k => spec_MachIn.l0 k (l.length : Int) (i : Int) l a b) ((l.drop i).all (fun x => inR x (top l.length)) && (decide (1 ≤ l.length ∧ l.length ≤ 5) && (inR a (top l.length) && inR b (top l.length)))) := by
  induction d with
  | zero =>
    intro i hd hi
    rw [ev_step (fun k => by rw [spec_MachIn.l0]), ev_neg (by omega), List.drop_of_length_le (by omega), List.all_nil, Bool.true_and, ev_bind0 (l6In_eq _ _ _)]
    have e1 : decide ((1 : Int) ≤ (l.length : Int) ∧ (l.length : Int) ≤ 5) = decide (1 ≤ l.length ∧ l.length ≤ 5) := decide_eq_decide.2 (by omega)
    rw [e1]
    by_cases h : 1 ≤ l.length ∧ l.length ≤ 5
    · rw [decide_eq_true h, ev_pos rfl, ev_pos (by omega), Bool.true_and, ev_bind0 (l6In_eq _ _ _)]
      show Ev (fun n => if inR a (top l.length) = true then _ else _) _
      by_cases h2 : inR a (top l.length) = true
      · rw [ev_pos h2, ev_bind0 (l6In_eq _ _ _), ev_some, h2, Bool.true_and]
        rfl
      · rw [ev_neg h2, ev_some, Bool.eq_false_iff.2 h2, Bool.false_and]
    · rw [decide_eq_false h, ev_neg (by simp), ev_some, Bool.false_and]
  | succ d ih =>
    intro i hd hi
    have hi2 : i < l.length := by omega
    rw [ev_step (fun k => by rw [spec_MachIn.l0]), ev_pos (by omega), ev_pos (by omega), ev_pos (by omega), ev_pos (by omega), rd_get hi2, ev_bind0 (l6In_eq _ _ _), List.drop_eq_getElem_cons hi2, List.all_cons]
    show Ev (fun n => if inR l[i] (top l.length) = true then _ else _) _
    by_cases h : inR l[i] (top l.length) = true
    · rw [ev_pos h, h, wrap_in _ (by omega), Bool.true_and]
      exact ih (i + 1) (by omega) (by omega)
    · rw [ev_neg h, ev_some, Bool.eq_false_iff.2 h, Bool.false_and, Bool.false_and]
theorem spec_machIn_ev (l : List Int) (a b : Int) (hm : l.length ≤ 1048576) : Ev (fun k => spec_MachIn.f k l a b) (machB l a b) := by
  simp only [spec_MachIn.f]
  have h := spec_machIn_l0 l a b hm l.length 0 (by omega) (by omega)
  have e : ((l.drop 0).all (fun x => inR x (top l.length)) && (decide (1 ≤ l.length ∧ l.length ≤ 5) && (inR a (top l.length) && inR b (top l.length)))) = machB l a b := by
    unfold machB
    rw [List.drop_zero]
    by_cases h : l.length ≤ 5
    · rw [top_small _ h]
      cases l.all (fun x => inR x (2 ^ l.length - 1)) <;> cases decide (1 ≤ l.length ∧ l.length ≤ 5) <;> simp
    · rw [decide_eq_false (show ¬ (1 ≤ l.length ∧ l.length ≤ 5) by omega)]
      simp
  rw [← e]
  exact h
structure MOk (l : List Int) (a b : Int) : Prop where
  n1 : 1 ≤ l.length
  n5 : l.length ≤ 5
  st : ∀ x ∈ l, 0 ≤ x ∧ x.toNat < 2 ^ l.length
  a0 : 0 ≤ a
  a1 : a.toNat < 2 ^ l.length
  b0 : 0 ≤ b
  b1 : b.toNat < 2 ^ l.length
theorem inR_nat {x : Int} {n : Nat} (h : inR x (2 ^ n - 1) = true) : 0 ≤ x ∧ x.toNat < 2 ^ n := by
  unfold inR at h
  rw [decide_eq_true_eq] at h
  refine ⟨h.1, ?_⟩
  have : (x.toNat : Int) < ((2 ^ n : Nat) : Int) := by
    rw [Int.natCast_pow]
    show (x.toNat : Int) < 2 ^ n
    omega
  omega
theorem mOk {l : List Int} {a b : Int} (h : machB l a b = true) : MOk l a b := by
  unfold machB at h
  rw [Bool.and_eq_true, Bool.and_eq_true, Bool.and_eq_true, decide_eq_true_eq, List.all_eq_true] at h
  obtain ⟨⟨⟨h1, h2⟩, h3⟩, h4⟩ := h
  exact ⟨h1.1, h1.2, fun x hx => inR_nat (h2 x hx), (inR_nat h3).1, (inR_nat h3).2, (inR_nat h4).1, (inR_nat h4).2⟩
/-- One step: all states to which one may step from the states of s. -/
def nextL : List Int → Nat → Nat → Nat → Nat
  | [], _, _, out => out
  | x :: xs, s, i, out => nextL xs s (i + 1) (if s.testBit i = true then out ||| x.toNat else out)
def nextN (l : List Int) (s : Nat) : Nat := nextL l s 0 0
theorem nextL_lt {n : Nat} (l : List Int) (hl : ∀ x ∈ l, x.toNat < 2 ^ n) : ∀ s i out, out < 2 ^ n → nextL l s i out < 2 ^ n := by
  induction l with
  | nil => intro s i out h; exact h
  | cons x xs ih =>
    intro s i out h
    refine ih (fun y hy => hl y (List.mem_cons_of_mem _ hy)) s (i + 1) _ ?_
    split
    · exact Nat.or_lt_two_pow h (hl x List.mem_cons_self)
    · exact h
theorem nextN_lt {l : List Int} {a b : Int} (h : MOk l a b) (s : Nat) : nextN l s < 2 ^ l.length := nextL_lt l (fun x hx => (h.st x hx).2) s 0 0 (Nat.two_pow_pos _)
theorem bit_test (s i : Nat) (hs : s < 2 ^ 62) : (Go.bits .and .i64 (shr .i64 (s : Int) (i : Int)) 1 = 1) ↔ s.testBit i = true := by
  have hm : min (i : Int).toNat 64 ≤ 64 := Nat.min_le_right _ _
  have e : shr .i64 (s : Int) (i : Int) = ((s >>> i : Nat) : Int) := by
    unfold shr
    rw [Int.toNat_natCast, show IntKind.i64.bits = 64 from rfl, Nat.shiftRight_eq_div_pow]
    by_cases h : i ≤ 64
    · rw [Nat.min_eq_left h]
      simp
    · rw [Nat.min_eq_right (by omega)]
      have h1 : s / 2 ^ 64 = 0 := Nat.div_eq_of_lt (by omega)
      have h2 : s / 2 ^ i = 0 := Nat.div_eq_of_lt (Nat.lt_of_lt_of_le (by omega : s < 2 ^ 64) (Nat.pow_le_pow_right (by decide) (by omega)))
      rw [h2]
      have : ((s : Int) / 2 ^ 64) = ((s / 2 ^ 64 : Nat) : Int) := by simp
      rw [this, h1]
  have hlt : s >>> i < 2 ^ 63 := by
    rw [Nat.shiftRight_eq_div_pow]
    exact Nat.lt_of_le_of_lt (Nat.div_le_self _ _) (by omega)
  rw [e, show (1 : Int) = ((1 : Nat) : Int) from rfl, bits64_and _ _ hlt (by decide), Nat.testBit_eq_decide_div_mod_eq, decide_eq_true_eq, Nat.and_one_is_mod, Nat.shiftRight_eq_div_pow]
  omega
theorem next_l0 (l : List Int) (n : Nat) (hn : n ≤ 62) (hl : ∀ x ∈ l, 0 ≤ x ∧ x.toNat < 2 ^ n) (hm : l.length ≤ 1048576) (s : Nat) (hs : s < 2 ^ 62) (d : Nat) : ∀ (i : Nat) (out : Nat), l.length - i = d → i ≤ l.length → out < 2 ^ n →
    Ev (fun k => impl_Machine_next.l0 k (s : Int) (out : Int) l (l.length : Int) (i : Int)) (nextL (l.drop i) s i out : Int) := by
  have hp : 2 ^ n ≤ 2 ^ 62 := Nat.pow_le_pow_right (by decide) hn
  induction d with
  | zero =>
    intro i out hd hi ho
    rw [ev_step (fun k => by rw [impl_Machine_next.l0]), ev_neg (by omega), ev_some, List.drop_of_length_le (by omega)]
    rfl
  | succ d ih =>
    intro i out hd hi ho
    have hi2 : i < l.length := by omega
    have hx := hl _ (List.getElem_mem hi2)
    rw [ev_step (fun k => by rw [impl_Machine_next.l0]), ev_pos (by omega), ev_pos (by omega), ev_pos (by omega), rd_get hi2, wrap_in _ (by omega), List.drop_eq_getElem_cons hi2]
    by_cases h : s.testBit i = true
    · rw [ev_pos ((bit_test s i hs).2 h)]
      have e : Go.bits .or .i64 (out : Int) l[i] = ((out ||| l[i].toNat : Nat) : Int) := by
        have := bits64_or out l[i].toNat (by omega) (by omega)
        rwa [Int.toNat_of_nonneg hx.1] at this
      rw [e]
      have := ih (i + 1) (out ||| l[i].toNat) (by omega) (by omega) (Nat.or_lt_two_pow ho hx.2)
      simp only [nextL, h, if_true]
      exact this
    · rw [ev_neg (fun k => h ((bit_test s i hs).1 k))]
      have := ih (i + 1) out (by omega) (by omega) ho
      simp only [nextL, h]
      exact this
theorem next_ev {l : List Int} {a b : Int} (h : MOk l a b) (s : Nat) (hs : s < 2 ^ l.length) (u v : Int) : Ev (fun k => impl_Machine_next.f k l u v (s : Int)) (nextN l s : Int) := by
  have hp : 2 ^ l.length ≤ 2 ^ 5 := Nat.pow_le_pow_right (by decide) h.n5
  have h5 := h.n5
  simp only [impl_Machine_next.f]
  exact next_l0 l l.length (by omega) h.st (by omega) s (by omega) l.length 0 0 (by omega) (by omega) (Nat.two_pow_pos _)
theorem step_l0 (l : List Int) (n : Nat) (hn : n ≤ 62) (hl : ∀ x ∈ l, 0 ≤ x ∧ x.toNat < 2 ^ n) (hm : l.length ≤ 1048576) (s : Nat) (hs : s < 2 ^ 62) (u v : Int) (d : Nat) : ∀ (i : Nat) (out : Nat), l.length - i = d → i ≤ l.length → out < 2 ^ n →
    Ev (fun k => spec_l6mStep.l0 k (s : Int) (out : Int) (i : Int) l u v) (nextL (l.drop i) s i out : Int) := by
  have hp : 2 ^ n ≤ 2 ^ 62 := Nat.pow_le_pow_right (by decide) hn
  induction d with
  | zero =>
    intro i out hd hi ho
    rw [ev_step (fun k => by rw [spec_l6mStep.l0]), ev_neg (by omega), ev_some, List.drop_of_length_le (by omega)]
    rfl
  | succ d ih =>
    intro i out hd hi ho
    have hi2 : i < l.length := by omega
    have hx := hl _ (List.getElem_mem hi2)
    rw [ev_step (fun k => by rw [spec_l6mStep.l0]), ev_pos (by omega), ev_pos (by omega), rd_get hi2, wrap_in _ (by omega), List.drop_eq_getElem_cons hi2]
    by_cases h : s.testBit i = true
    · rw [ev_pos ((bit_test s i hs).2 h)]
      have e : Go.bits .or .i64 (out : Int) l[i] = ((out ||| l[i].toNat : Nat) : Int) := by
        have := bits64_or out l[i].toNat (by omega) (by omega)
        rwa [Int.toNat_of_nonneg hx.1] at this
      rw [e]
      have := ih (i + 1) (out ||| l[i].toNat) (by omega) (by omega) (Nat.or_lt_two_pow ho hx.2)
      simp only [nextL, h, if_true]
      exact this
    · rw [ev_neg (fun k => h ((bit_test s i hs).1 k))]
      have := ih (i + 1) out (by omega) (by omega) ho
      simp only [nextL, h]
      exact this
theorem step_ev {l : List Int} {a b : Int} (h : MOk l a b) (s : Nat) (hs : s < 2 ^ l.length) (u v : Int) : Ev (fun k => spec_l6mStep.f k l u v (s : Int)) (nextN l s : Int) := by
  have hp : 2 ^ l.length ≤ 2 ^ 5 := Nat.pow_le_pow_right (by decide) h.n5
  have h5 := h.n5
  simp only [spec_l6mStep.f]
  exact step_l0 l l.length (by omega) h.st (by omega) s (by omega) u v l.length 0 0 (by omega) (by omega) (Nat.two_pow_pos _)
end
section
open Go.RowKit Go.Proofs.Ytdkebjjmnhdcnaa.G Go.Proofs.YtdkebjjmnhdcnaaW.PrintWords Go.Proofs.YtdkebjjmnhdcnaaW.PrintLast Go.Proofs.YtdkebjjmnhdcnaaW.PrintMore

def atN (l : List Int) (s : Nat) : Nat → Nat
  | 0 => s
  | k + 1 => nextN l (atN l s k)
theorem atN_lt {l : List Int} {a b : Int} (h : MOk l a b) {s : Nat} (hs : s < 2 ^ l.length) : ∀ k, atN l s k < 2 ^ l.length
  | 0 => hs
  | _ + 1 => nextN_lt h _
theorem atN_add (l : List Int) (s i : Nat) : ∀ k, atN l s (i + k) = atN l (atN l s i) k
  | 0 => rfl
  | k + 1 => by
    show nextN l (atN l s (i + k)) = _
    rw [atN_add l s i k]
    rfl
/-- From where it comes again on, it comes round. -/
def zeros (l : List Int) : Nat := l.countP (fun x => x == 0)
theorem zeros_set : ∀ (l : List Int) (i : Nat) (v : Int) (hi : i < l.length), l[i] = 0 → v ≠ 0 → zeros (l.set i v) + 1 = zeros l := by
  intro l
  induction l with
  | nil => intro i v hi; simp at hi
  | cons x xs ih =>
    intro i v hi h0 hv
    cases i with
    | zero =>
      simp only [List.getElem_cons_zero] at h0
      simp [zeros, List.set_cons_zero, h0, hv]
    | succ i =>
      simp only [List.getElem_cons_succ] at h0
      have := ih i v (by simpa using hi) h0 hv
      simp only [zeros, List.set_cons_succ, List.countP_cons] at this ⊢
      omega
theorem zeros_replicate (n : Nat) : zeros (List.replicate n 0) = n := by
  simp [zeros, List.countP_replicate]
/-- What the reference has met: m different sets, the next of which is the one at place f. -/
structure Shape (l : List Int) (s m f : Nat) : Prop where
  lt : f < m
  eq : atN l s m = atN l s f
  ne : ∀ i j, i < j → j < m → atN l s i ≠ atN l s j
  le : m ≤ 32
def met (l : List Int) (s m : Nat) : List Int := (List.range m).map fun j => (atN l s j : Int)
theorem met_length (l : List Int) (s m : Nat) : (met l s m).length = m := by simp [met]
theorem met_get (l : List Int) (s m : Nat) {i : Nat} (hi : i < m) : rd (met l s m) (i : Int) = (atN l s i : Int) := by
  rw [rd_get (by rw [met_length]; exact hi)]
  simp [met]
theorem met_snoc (l : List Int) (s m : Nat) : met l s (m + 1) = met l s m ++ [(atN l s m : Int)] := by
  simp [met, List.range_succ]
theorem shape_l0 {l : List Int} {a b : Int} (h : MOk l a b) (d : Nat) : ∀ (m : Nat) (t : List Int), zeros t = d → t.length = 2 ^ l.length → m + zeros t = 2 ^ l.length →
    (∀ j, j < m → ∀ hh : atN l a.toNat j < t.length, t[atN l a.toNat j] = (j : Int) + 1) → (∀ v (hv : v < t.length), t[v] ≠ 0 → ∃ j, j < m ∧ atN l a.toNat j = v) → (∀ i j, i < j → j < m → atN l a.toNat i ≠ atN l a.toNat j) →
    ∃ m' f, Shape l a.toNat m' f ∧ Ev (fun k => spec_l6mShape.l0 k (met l a.toNat m) t (atN l a.toNat m : Int) l a b) (met l a.toNat m', (f : Int)) := by
  have hp : 2 ^ l.length ≤ 2 ^ 5 := Nat.pow_le_pow_right (by decide) h.n5
  have lt := fun k => atN_lt h h.a1 k
  induction d with
  | zero =>
    intro m t hz hl hm h1 h2 h3
    have hlt : atN l a.toNat m < t.length := by rw [hl]; exact lt m
    have hne : t[atN l a.toNat m] ≠ 0 := by
      intro h0
      have := zeros_set t _ 1 hlt h0 (by decide)
      omega
    obtain ⟨j, hj, e⟩ := h2 _ hlt hne
    refine ⟨m, j, ⟨hj, e.symm, h3, by omega⟩, ?_⟩
    have hv : t[atN l a.toNat m] = (j : Int) + 1 := by
      have := h1 j hj (by rw [hl]; exact lt j)
      simp only [e] at this
      exact this
    rw [ev_step (fun k => by rw [spec_l6mShape.l0]), ev_pos (by omega), ev_pos (by omega), rd_get hlt, ev_neg (by rw [hv]; omega), ev_some, hv, wrap_in _ (by omega)]
    congr 1
    omega
  | succ d ih =>
    intro m t hz hl hm h1 h2 h3
    have hlt : atN l a.toNat m < t.length := by rw [hl]; exact lt m
    by_cases h0 : t[atN l a.toNat m] = 0
    · have hs := zeros_set t _ ((m : Int) + 1) hlt h0 (by omega)
      have hnew : ∀ j, j < m → atN l a.toNat j ≠ atN l a.toNat m := by
        intro j hj e
        have := h1 j hj (by rw [hl]; exact lt j)
        simp only [e] at this
        omega
      obtain ⟨m', f, hS, hE⟩ := ih (m + 1) (t.set (atN l a.toNat m) ((m : Int) + 1)) (by omega) (by rw [List.length_set]; exact hl) (by omega) (by
          intro j hj hh
          rw [List.getElem_set]
          by_cases e : j = m
          · subst e
            simp
          · have := hnew j (by omega)
            rw [if_neg (fun z => this z.symm)]
            exact h1 j (by omega) (by rw [hl]; exact lt j)) (by
          intro v hv hne
          rw [List.getElem_set] at hne
          by_cases e : atN l a.toNat m = v
          · exact ⟨m, by omega, e⟩
          · rw [if_neg e] at hne
            obtain ⟨j, hj, ej⟩ := h2 v (by rw [List.length_set] at hv; exact hv) hne
            exact ⟨j, by omega, ej⟩) (by
          intro i j hij hj
          by_cases e : j = m
          · subst e
            exact hnew i hij
          · exact h3 i j hij (by omega))
      refine ⟨m', f, hS, ?_⟩
      rw [ev_step (fun k => by rw [spec_l6mShape.l0]), ev_pos (by omega), ev_pos (by omega), rd_get hlt, ev_pos h0, ev_pos (by rw [met_length]; omega), ev_bind0 rfl, ev_bind (step_ev h _ (lt m) _ _), ← met_snoc, met_length, Int.toNat_natCast]
      exact hE
    · obtain ⟨j, hj, e⟩ := h2 _ hlt h0
      refine ⟨m, j, ⟨hj, e.symm, h3, by omega⟩, ?_⟩
      have hv : t[atN l a.toNat m] = (j : Int) + 1 := by
        have := h1 j hj (by rw [hl]; exact lt j)
        simp only [e] at this
        exact this
      rw [ev_step (fun k => by rw [spec_l6mShape.l0]), ev_pos (by omega), ev_pos (by omega), rd_get hlt, ev_neg h0, ev_some, hv, wrap_in _ (by omega)]
      congr 1
      omega
theorem shl_one (n : Nat) (h : n ≤ 5) : shl .i64 1 (n : Int) = ((2 ^ n : Nat) : Int) := by
  have : n = 0 ∨ n = 1 ∨ n = 2 ∨ n = 3 ∨ n = 4 ∨ n = 5 := by omega
  rcases this with rfl | rfl | rfl | rfl | rfl | rfl <;> decide +kernel
theorem shape_ev {l : List Int} {a b : Int} (h : MOk l a b) : ∃ m f, Shape l a.toNat m f ∧ Ev (fun k => spec_l6mShape.f k l a b) (met l a.toNat m, (f : Int)) := by
  have hp : 2 ^ l.length ≤ 2 ^ 5 := Nat.pow_le_pow_right (by decide) h.n5
  obtain ⟨m, f, hS, hE⟩ := shape_l0 h (2 ^ l.length) 0 (List.replicate (2 ^ l.length) 0) (zeros_replicate _) (by simp) (by rw [zeros_replicate]; omega) (fun j hj => by omega) (fun v hv hne => by simp at hne) (fun i j _ hj => by omega)
  refine ⟨m, f, hS, ?_⟩
  simp only [spec_l6mShape.f, shl_one _ h.n5, Int.toNat_natCast]
  generalize 2 ^ l.length = N at *
  rw [ev_pos (by omega), ev_pos (by omega)]
  have ea : ((atN l a.toNat 0 : Nat) : Int) = a := Int.toNat_of_nonneg h.a0
  rw [ea] at hE
  exact hE
end
section
open Go.RowKit Go.Proofs.Ytdkebjjmnhdcnaa.G Go.Proofs.YtdkebjjmnhdcnaaW.PrintWords Go.Proofs.YtdkebjjmnhdcnaaW.PrintLast

theorem szMach (l : List Int) (a b c : Int) (hm0 : l.length ≤ maxLen) (hc : 0 ≤ c ∧ c ≤ 1048576) : ∃ r, laws_szMachine.f l a b c = some r ∧ (¬ r < 0 → l.length ≤ 1048576 ∧ 0 ≤ r ∧ r ≤ 1048576) := by
  have hm : l.length ≤ 9223372036854775807 := by unfold maxLen at hm0; omega
  unfold laws_szMachine.f laws_szIntS.f
  rw [wrap_in _ (by omega)]
  by_cases h : c - (l.length : Int) < 0
  · rw [if_pos h]
    exact ⟨-1, by simp, fun k => absurd (by decide) k⟩
  · rw [if_neg h]
    simp only [Option.bind_some]
    rw [if_neg h]
    exact ⟨_, rfl, fun _ => by omega⟩
theorem toMach_ev (l : List Int) (a b : Int) (hm : l.length ≤ 1048576) : Ev (fun k => laws_toMachine.f k l a b) (l, a, b) := by
  simp only [laws_toMachine.f]
  rw [ev_bind (toIntS_ev l (by omega)), ev_some]
theorem eqMach_ev (l m : List Int) (a b c d : Int) (hm : l.length ≤ 1048576) : Ev (fun k => laws_eqMachine.f k l a b m c d) (decide (l = m ∧ a = c ∧ b = d)) := by
  simp only [laws_eqMachine.f]
  rw [ev_bind (eqIntS_ev l m (by omega))]
  by_cases h : l = m
  · rw [ev_pos (by simpa using h)]
    by_cases h1 : a = c
    · rw [ev_pos h1]
      by_cases h2 : b = d
      · rw [ev_pos h2, ev_some, decide_eq_true ⟨h, h1, h2⟩]
      · rw [ev_neg h2, ev_some, decide_eq_false (fun z => h2 z.2.2)]
    · rw [ev_neg h1, ev_some, decide_eq_false (fun z => h1 z.2.1)]
  · rw [ev_neg (by simpa using h), ev_some, decide_eq_false (fun z => h z.1)]
theorem eqMach_self (l : List Int) (a b : Int) (hm : l.length ≤ 1048576) : Ev (fun k => laws_eqMachine.f k l a b l a b) true := by
  have := eqMach_ev l l a b a b hm
  rwa [decide_eq_true ⟨rfl, rfl, rfl⟩] at this
end
section
open Go.RowKit

/-- From M on f comes round after n. -/
def Comes (f : Nat → Bool) (M n : Nat) : Prop := ∀ x, M ≤ x → f (x + n) = f x
theorem Comes.mul {f : Nat → Bool} {M n : Nat} (h : Comes f M n) : ∀ k, Comes f M (n * k)
  | 0 => fun x _ => by rw [Nat.mul_zero, Nat.add_zero]
  | k + 1 => fun x hx => by
    rw [Nat.mul_succ, ← Nat.add_assoc, h _ (by omega)]
    exact h.mul k x hx
theorem Comes.mod {f : Nat → Bool} {M p q : Nat} (h : Comes f M p) (g : Comes f M q) : Comes f M (p % q) := by
  intro x hx
  have e := g.mul (p / q) (x + p % q) (by omega)
  have d := Nat.mod_add_div p q
  rw [← e, Nat.add_assoc, d]
  exact h x hx
theorem Comes.gcd {f : Nat → Bool} {M : Nat} (p q : Nat) : Comes f M p → Comes f M q → Comes f M (Nat.gcd p q) := by
  induction p, q using Nat.gcd.induction with
  | H0 n =>
    intro _ h
    rw [Nat.gcd_zero_left]
    exact h
  | H1 m n hm ih =>
    intro h g
    rw [Nat.gcd_rec]
    exact ih (g.mod h) h
theorem Comes.le {f : Nat → Bool} {M L n : Nat} (h : Comes f M n) (hl : M ≤ L) : Comes f L n := fun x hx => h x (by omega)
end
section
open Go.RowKit
set_option linter.unusedVariables false

def leastN (p : Nat → Bool) : Nat → Nat → Nat
  | 0, i => i
  | d + 1, i => if p i = true then i else leastN p d (i + 1)
theorem leastN_spec {p : Nat → Bool} : ∀ {d i j : Nat}, i ≤ j → j < i + d → p j = true → p (leastN p d i) = true ∧ i ≤ leastN p d i ∧ leastN p d i ≤ j ∧ ∀ k, i ≤ k → k < leastN p d i → p k = false
  | 0, i, j, h1, h2, _ => by omega
  | d + 1, i, j, h1, h2, h3 => by
    rw [leastN]
    by_cases c : p i = true
    · rw [if_pos c]
      exact ⟨c, Nat.le_refl _, h1, fun k h4 h5 => by omega⟩
    · rw [if_neg c]
      have hij : i ≠ j := fun e => c (e ▸ h3)
      obtain ⟨g1, g2, g3, g4⟩ := leastN_spec (d := d) (i := i + 1) (j := j) (by omega) (by omega) h3
      refine ⟨g1, by omega, g3, fun k h4 h5 => ?_⟩
      by_cases e : k = i
      · subst e
        exact Bool.eq_false_iff.2 c
      · exact g4 k (by omega) h5
def turnsB (r : List Bool) (d : Nat) : Bool := decide (r.length % d = 0) && (List.range r.length).all (fun i => r.getD i false == r.getD (i % d) false)
theorem turnsB_iff {r : List Bool} {d : Nat} : turnsB r d = true ↔ r.length % d = 0 ∧ ∀ i, i < r.length → r.getD i false = r.getD (i % d) false := by
  unfold turnsB
  rw [Bool.and_eq_true, decide_eq_true_eq, List.all_eq_true]
  simp only [List.mem_range, beq_iff_eq]
def per (r : List Bool) : Nat := leastN (turnsB r) r.length 1
theorem per_spec {r : List Bool} (h : 1 ≤ r.length) : turnsB r (per r) = true ∧ 1 ≤ per r ∧ per r ≤ r.length ∧ ∀ k, 1 ≤ k → k < per r → turnsB r k = false :=
  leastN_spec (p := turnsB r) (d := r.length) (i := 1) (j := r.length) h (by omega) (turnsB_iff.2 ⟨Nat.mod_self _, fun i hi => by rw [Nat.mod_eq_of_lt hi]⟩)
def rotL (r : List Bool) : List Bool := [r.getD (r.length - 1) false] ++ r.take (r.length - 1)
def trimN : Nat → List Bool → List Bool → List Bool × List Bool
  | 0, t, r => (t, r)
  | m + 1, t, r => if t.getD m false = r.getD (r.length - 1) false then trimN m (t.take m) (rotL r) else (t, r)
def nf (t r : List Bool) : List Bool × List Bool := trimN t.length t (r.take (per r))
theorem getD_take {l : List Bool} {n i : Nat} (h : i < n) : (l.take n).getD i false = l.getD i false := by
  rw [List.getD_eq_getElem?_getD, List.getD_eq_getElem?_getD, List.getElem?_take_of_lt h]
theorem rotL_length {r : List Bool} (h : 1 ≤ r.length) : (rotL r).length = r.length := by
  unfold rotL
  simp
  omega
theorem rotL_get {r : List Bool} {i : Nat} (h : i < r.length) : (rotL r).getD i false = if i = 0 then r.getD (r.length - 1) false else r.getD (i - 1) false := by
  unfold rotL
  cases i with
  | zero => rfl
  | succ i =>
    rw [if_neg (by omega)]
    show (r.take (r.length - 1)).getD i false = r.getD i false
    exact getD_take (by omega)
theorem hasN_rot {t r : List Bool} {m : Nat} (hr : 1 ≤ r.length) (ht : t.length = m + 1) (h : t.getD m false = r.getD (r.length - 1) false) (n : Nat) : hasN (t.take m) (rotL r) n = hasN t r n := by
  have hl : (t.take m).length = m := by rw [List.length_take]; omega
  unfold hasN
  rw [hl, ht, rotL_length hr]
  by_cases c : n < m
  · rw [if_pos c, if_pos (by omega), getD_take c]
  · rw [if_neg c]
    by_cases c2 : n = m
    · subst c2
      rw [if_pos (by omega), Nat.sub_self, Nat.zero_mod, rotL_get (by omega), if_pos rfl, h]
    · rw [if_neg (by omega), rotL_get (Nat.mod_lt _ (by omega))]
      have e : (n - m) % r.length = ((n - (m + 1)) % r.length + 1) % r.length := by
        rw [Nat.mod_add_mod]
        congr 1
        omega
      have hs := Nat.mod_lt (n - (m + 1)) (show r.length > 0 by omega)
      rw [e]
      generalize (n - (m + 1)) % r.length = s at hs
      by_cases c3 : s + 1 = r.length
      · rw [c3, Nat.mod_self, if_pos rfl, show s = r.length - 1 by omega]
      · rw [Nat.mod_eq_of_lt (by omega), if_neg (by omega)]
        rfl
theorem hasN_trim : ∀ (m : Nat) {t r : List Bool}, 1 ≤ r.length → t.length = m → ∀ n, hasN (trimN m t r).1 (trimN m t r).2 n = hasN t r n
  | 0, t, r, _, _, n => rfl
  | m + 1, t, r, h1, h2, n => by
    rw [trimN]
    by_cases c : t.getD m false = r.getD (r.length - 1) false
    · rw [if_pos c, hasN_trim m (by rw [rotL_length h1]; exact h1) (by rw [List.length_take]; omega), hasN_rot h1 h2 c]
    · rw [if_neg c]
theorem take_per_length {r : List Bool} (h : 1 ≤ r.length) : (r.take (per r)).length = per r := by
  have := (per_spec h).2.2.1
  rw [List.length_take]
  omega
def Prim (r : List Bool) : Prop := 1 ≤ r.length ∧ ∀ d, 1 ≤ d → d < r.length → turnsB r d = false
theorem prim_take {r : List Bool} (h : 1 ≤ r.length) : Prim (r.take (per r)) := by
  obtain ⟨g1, g2, g3, g4⟩ := per_spec h
  have hl := take_per_length h
  refine ⟨by omega, fun d h1 h2 => ?_⟩
  rw [hl] at h2
  cases hc : turnsB (r.take (per r)) d with
  | false => rfl
  | true =>
    obtain ⟨e1, e2⟩ := turnsB_iff.1 hc
    obtain ⟨f1, f2⟩ := turnsB_iff.1 g1
    rw [hl] at e1 e2
    have hd : d ∣ per r := Nat.dvd_of_mod_eq_zero e1
    have hbad : turnsB r d = true := by
      refine turnsB_iff.2 ⟨Nat.mod_eq_zero_of_dvd (Nat.dvd_trans hd (Nat.dvd_of_mod_eq_zero f1)), fun i hi => ?_⟩
      have hm := Nat.mod_lt i (show per r > 0 by omega)
      have := e2 (i % per r) hm
      rw [getD_take hm, getD_take (Nat.lt_of_le_of_lt (Nat.mod_le _ _) hm), Nat.mod_mod_of_dvd _ hd] at this
      rw [f2 i hi, this]
    rw [g4 d h1 h2] at hbad
    cases hbad
theorem prim_rot {r : List Bool} (h : Prim r) : Prim (rotL r) := by
  have h0 := h.1
  have hl := rotL_length h0
  refine ⟨by omega, fun d h1 h2 => ?_⟩
  rw [hl] at h2
  cases hc : turnsB (rotL r) d with
  | false => rfl
  | true =>
    obtain ⟨e1, e2⟩ := turnsB_iff.1 hc
    rw [hl] at e1 e2
    have hd : d ∣ r.length := Nat.dvd_of_mod_eq_zero e1
    have up : ∀ i, i < r.length → r.getD i false = (rotL r).getD ((i + 1) % d) false := by
      intro i hi
      by_cases c : i + 1 = r.length
      · have := rotL_get (r := r) (i := 0) (by omega)
        rw [if_pos rfl] at this
        rw [c, Nat.mod_eq_zero_of_dvd hd, this]
        congr 1
        omega
      · have := rotL_get (r := r) (i := i + 1) (by omega)
        rw [if_neg (by omega), Nat.add_sub_cancel] at this
        rw [← this]
        exact e2 (i + 1) (by omega)
    have hbad : turnsB r d = true := by
      refine turnsB_iff.2 ⟨e1, fun i hi => ?_⟩
      rw [up i hi, up (i % d) (Nat.lt_of_le_of_lt (Nat.mod_le _ _) hi), Nat.mod_add_mod]
    rw [h.2 d h1 h2] at hbad
    cases hbad
/-- Tidy: no shorter ring, no shorter tail. -/
def Norm (t r : List Bool) : Prop := Prim r ∧ (t ≠ [] → t.getD (t.length - 1) false ≠ r.getD (r.length - 1) false)
theorem norm_trim : ∀ (m : Nat) {t r : List Bool}, Prim r → t.length = m → Norm (trimN m t r).1 (trimN m t r).2
  | 0, t, r, h, h2 => by
    refine ⟨h, fun c => absurd (List.eq_nil_of_length_eq_zero h2) c⟩
  | m + 1, t, r, h1, h2 => by
    rw [trimN]
    by_cases c : t.getD m false = r.getD (r.length - 1) false
    · rw [if_pos c]
      exact norm_trim m (prim_rot h1) (by rw [List.length_take]; omega)
    · rw [if_neg c]
      refine ⟨h1, fun _ => ?_⟩
      show t.getD (t.length - 1) false ≠ _
      rw [h2]
      exact c
theorem trim_le : ∀ (m : Nat) {t r : List Bool}, 1 ≤ r.length → t.length = m → (trimN m t r).1.length ≤ m ∧ (trimN m t r).2.length = r.length
  | 0, t, r, h, h2 => ⟨by show t.length ≤ 0; omega, rfl⟩
  | m + 1, t, r, h1, h2 => by
    rw [trimN]
    by_cases c : t.getD m false = r.getD (r.length - 1) false
    · rw [if_pos c]
      have := trim_le m (t := t.take m) (r := rotL r) (by rw [rotL_length h1]; exact h1) (by rw [List.length_take]; omega)
      rw [rotL_length h1] at this
      exact ⟨by omega, this.2⟩
    · rw [if_neg c]
      exact ⟨by show t.length ≤ m + 1; omega, rfl⟩
theorem ext_getD {x y : List Bool} (h : x.length = y.length) (g : ∀ i, i < x.length → x.getD i false = y.getD i false) : x = y := by
  refine List.ext_getElem h (fun i h1 h2 => ?_)
  have := g i h1
  rwa [List.getD_eq_getElem?_getD, List.getD_eq_getElem?_getD, List.getElem?_eq_getElem h1, List.getElem?_eq_getElem h2] at this
theorem nf_le {t r : List Bool} (h : 1 ≤ r.length) : (nf t r).1.length ≤ t.length ∧ (nf t r).2.length = per r := by
  have := trim_le t.length (t := t) (r := r.take (per r)) (by rw [take_per_length h]; exact (per_spec h).2.1) rfl
  rw [take_per_length h] at this
  exact this
end
section
open Go.RowKit Go.Proofs.Ytdkebjjmnhdcnaa.G Go.Proofs.YtdkebjjmnhdcnaaW.PrintWords Go.Proofs.YtdkebjjmnhdcnaaW.PrintLast Go.Proofs.YtdkebjjmnhdcnaaW.PrintMore
set_option linter.unusedVariables false

theorem tmod_nat (a b : Nat) : Int.tmod (a : Int) (b : Int) = ((a % b : Nat) : Int) := (Int.ofNat_tmod _ _).symm
theorem turns_l0 (r : List Bool) (s : Nat) (hs : 1 ≤ s) (hsl : s ≤ r.length) (hr : r.length ≤ 100000) (d : Nat) : ∀ (i : Nat), r.length - i = d → i ≤ r.length → (∀ j, j < i → r.getD j false = r.getD (j % s) false) →
    Ev (fun k => impl_turns.l0 k r (s : Int) (r.length : Int) (i : Int)) (turnsB r s) := by
  induction d with
  | zero =>
    intro i hd hi hj
    rw [ev_step (fun k => by rw [impl_turns.l0]), ev_neg (by omega), ev_neg (by omega), ev_some, Bool.eq_iff_iff, turnsB_iff, beq_iff_eq, ← Int.natCast_emod]
    constructor
    · intro h
      exact ⟨by omega, fun j hjl => hj j (by omega)⟩
    · intro h
      have := h.1
      omega
  | succ d ih =>
    intro i hd hi hj
    have hm := Nat.mod_lt i (show s > 0 by omega)
    rw [ev_step (fun k => by rw [impl_turns.l0]), ev_pos (by omega), ev_pos (by omega), ev_pos (by omega), ev_neg (by omega), tmod_nat, ev_pos (by omega), ev_pos (by omega), rdOf_nat, rdOf_nat, wrap_in _ (by omega)]
    by_cases c : r.getD i false = r.getD (i % s) false
    · rw [ev_neg (by rw [c]; simp)]
      refine ih (i + 1) (by omega) (by omega) (fun j hjl => ?_)
      by_cases e : j = i
      · rw [e]
        exact c
      · exact hj j (by omega)
    · rw [ev_pos (by simpa using c), ev_some, eq_comm, Bool.eq_false_iff]
      intro h
      exact c ((turnsB_iff.1 h).2 i (by omega))
theorem turns_ev (r : List Bool) (s : Nat) (hs : 1 ≤ s) (hsl : s ≤ r.length) (hr : r.length ≤ 100000) : Ev (fun k => impl_turns.f k r (s : Int)) (turnsB r s) := by
  simp only [impl_turns.f]
  exact turns_l0 r s hs hsl hr r.length 0 (by omega) (by omega) (fun j hj => by omega)
theorem clone_eq (l : List Bool) (h : l.length ≤ 100000) : slices_Clone_bool_bool.f l = some l := by
  unfold slices_Clone_bool_bool.f
  rw [if_pos (by omega)]
theorem tidy_l1 (m : Nat) : ∀ (t r : List Bool), t.length = m → m ≤ 100000 → 1 ≤ r.length → r.length ≤ 100000 → Ev (fun k => impl_set_tidy.l1 k (r.length : Int) t r) (trimN m t r) := by
  induction m with
  | zero =>
    intro t r ht hm h1 h2
    rw [ev_step (fun k => by rw [impl_set_tidy.l1]), ev_neg (by omega), ev_some]
    rfl
  | succ m ih =>
    intro t r ht hm h1 h2
    have w1 : wrap64 ((t.length : Int) - 1) = (m : Int) := by rw [wrap_in _ (by omega)]; omega
    have w2 : wrap64 ((r.length : Int) - 1) = ((r.length - 1 : Nat) : Int) := by rw [wrap_in _ (by omega)]; omega
    rw [ev_step (fun k => by rw [impl_set_tidy.l1]), ev_pos (by omega), w1, w2, ev_pos (by omega), ev_pos (by omega), ev_pos (by omega), ev_pos (by omega), rdOf_nat, rdOf_nat, trimN]
    by_cases c : t.getD m false = r.getD (r.length - 1) false
    · have := ih (t.take m) (rotL r) (by rw [List.length_take]; omega) (by omega) (by rw [rotL_length h1]; exact h1) (by rw [rotL_length h1]; exact h2)
      rw [rotL_length h1] at this
      rw [if_pos c, ev_pos (by simpa using c), ev_pos (by omega), ev_bind0 rfl, ev_pos (by omega), ev_bind0 rfl, ev_pos (by simp; omega)]
      exact this
    · rw [if_neg c, ev_neg (by simpa using c), ev_some]
theorem tidy_l0 (t r : List Bool) (ht : t.length ≤ 100000) (h1 : 1 ≤ r.length) (h2 : r.length ≤ 100000) (d : Nat) : ∀ (s : Nat), per r - s = d → 1 ≤ s → s ≤ per r → Ev (fun k => impl_set_tidy.l0 k (s : Int) t r) (nf t r) := by
  obtain ⟨g1, g2, g3, g4⟩ := per_spec h1
  induction d with
  | zero =>
    intro s hd hs hsp
    obtain rfl : s = per r := by omega
    have hl : (r.take (per r)).length = per r := take_per_length h1
    have := tidy_l1 t.length t (r.take (per r)) rfl ht (by omega) (by omega)
    rw [hl] at this
    rw [ev_step (fun k => by rw [impl_set_tidy.l0]), ev_bind (turns_ev r (per r) hs (by omega) h2), ev_pos g1, ev_bind0 (clone_eq t ht), ev_pos (by omega), ev_pos (by omega), Int.toNat_natCast, ev_bind0 (clone_eq _ (by omega))]
    exact this
  | succ d ih =>
    intro s hd hs hsp
    rw [ev_step (fun k => by rw [impl_set_tidy.l0]), ev_bind (turns_ev r s hs (by omega) h2), ev_neg (by rw [g4 s hs (by omega)]; decide), wrap_in _ (by omega)]
    exact ih (s + 1) (by omega) (by omega) (by omega)
theorem tidy_ev (t r : List Bool) (ht : t.length ≤ 100000) (h1 : 1 ≤ r.length) (h2 : r.length ≤ 100000) : Ev (fun k => impl_set_tidy.f k t r) (nf t r) := by
  simp only [impl_set_tidy.f]
  exact tidy_l0 t r ht h1 h2 _ 1 rfl (by omega) (per_spec h1).2.1
/-- The reference's test of a period. -/
theorem turns_step {r : List Bool} {d : Nat} (hd : 1 ≤ d) : turnsB r d = true ↔ (r.length % d = 0 ∧ ∀ j, d ≤ j → j < r.length → r.getD j false = r.getD (j - d) false) := by
  rw [turnsB_iff]
  constructor
  · rintro ⟨h1, h2⟩
    refine ⟨h1, fun j h3 h4 => ?_⟩
    rw [h2 j h4, h2 (j - d) (by omega), Nat.mod_eq_sub_mod h3]
  · rintro ⟨h1, h2⟩
    refine ⟨h1, fun j => ?_⟩
    induction j using Nat.strongRecOn with
    | _ j ih =>
      intro h4
      by_cases c : j < d
      · rw [Nat.mod_eq_of_lt c]
      · rw [h2 j (by omega) h4, ih (j - d) (by omega) (by omega), ← Nat.mod_eq_sub_mod (by omega)]
theorem per_prim {r : List Bool} (h : Prim r) : per r = r.length := by
  obtain ⟨g1, g2, g3, g4⟩ := per_spec h.1
  by_cases c : per r < r.length
  · rw [h.2 _ g2 c] at g1
    cases g1
  · omega
theorem nf_prim {t r : List Bool} (h : Prim r) : nf t r = trimN t.length t r := by
  unfold nf
  rw [per_prim h, List.take_of_length_le (Nat.le_refl _)]
theorem nf_take {t r : List Bool} (h : 1 ≤ r.length) : nf t (r.take (per r)) = nf t r := by
  rw [nf_prim (prim_take h)]
  rfl
theorem less_l1 (t r : List Bool) (d : Nat) (hd : 1 ≤ d) (hdn : d < r.length) (hr : r.length ≤ 100000) (R : List Bool × List Bool) (hy : turnsB r d = true → Ev (fun k => spec_l1Less.f k t (r.take d)) R) (hn : turnsB r d = false → Ev (fun k => spec_l1Less.l0 k (r.length : Int) ((d + 1 : Nat) : Int) t r) R) (e : Nat) :
    ∀ (i : Nat) (b : Bool), r.length - i = e → d ≤ i → i ≤ r.length → (b = true ↔ (r.length % d = 0 ∧ ∀ j, d ≤ j → j < i → r.getD j false = r.getD (j - d) false)) → Ev (fun k => spec_l1Less.l1 k (r.length : Int) (d : Int) b (i : Int) t r) R := by
  have w : wrap64 ((d : Int) + 1) = ((d + 1 : Nat) : Int) := by rw [wrap_in _ (by omega)]; omega
  induction e with
  | zero =>
    intro i b he h1 h2 hb
    rw [ev_step (fun k => by rw [spec_l1Less.l1]), ev_neg (by omega), w]
    by_cases c : b = true
    · have ht := (turns_step (r := r) hd).2 ⟨(hb.1 c).1, fun j h3 h4 => (hb.1 c).2 j h3 (by omega)⟩
      rw [ev_pos c, ev_pos (by omega), ev_pos (by omega), Int.toNat_natCast, ev_bind (hy ht), ev_some]
    · have ht : turnsB r d = false := Bool.eq_false_iff.2 (fun h => c (hb.2 ⟨((turns_step hd).1 h).1, fun j h3 h4 => ((turns_step hd).1 h).2 j h3 (by omega)⟩))
      rw [ev_neg c]
      exact hn ht
  | succ e ih =>
    intro i b he h1 h2 hb
    rw [ev_step (fun k => by rw [spec_l1Less.l1]), ev_pos (by omega), w]
    by_cases c : b = true
    · have w2 : wrap64 ((i : Int) - (d : Int)) = ((i - d : Nat) : Int) := by rw [wrap_in _ (by omega)]; omega
      rw [ev_pos c, ev_pos (by omega), ev_pos (by omega), w2, ev_pos (by omega), ev_pos (by omega), rdOf_nat, rdOf_nat, wrap_in _ (by omega)]
      refine ih (i + 1) _ (by omega) (by omega) (by omega) ?_
      rw [beq_iff_eq]
      constructor
      · intro h
        refine ⟨(hb.1 c).1, fun j h3 h4 => ?_⟩
        by_cases e2 : j = i
        · rw [e2]
          exact h
        · exact (hb.1 c).2 j h3 (by omega)
      · intro h
        exact h.2 i h1 (by omega)
    · have ht : turnsB r d = false := Bool.eq_false_iff.2 (fun h => c (hb.2 ⟨((turns_step hd).1 h).1, fun j h3 h4 => ((turns_step hd).1 h).2 j h3 (by omega)⟩))
      rw [ev_neg c]
      exact hn ht
theorem less_ev (N : Nat) (hN : N ≤ 100000) : ∀ (t r : List Bool), t.length + r.length ≤ N → 1 ≤ r.length → Ev (fun k => spec_l1Less.f k t r) (nf t r) := by
  induction N with
  | zero =>
    intro t r h h1
    omega
  | succ N ih =>
    intro t r h h1
    have ih := ih (by omega)
    obtain ⟨g1, g2, g3, g4⟩ := per_spec h1
    have last : Prim r → Ev (fun k => spec_l1Less.l0 k (r.length : Int) (r.length : Int) t r) (nf t r) := by
      intro hp
      rw [nf_prim hp, ev_step (fun k => by rw [spec_l1Less.l0]), ev_neg (by omega)]
      match ht : t.length with
      | 0 =>
        rw [ev_neg (by omega), ev_some]
        rfl
      | m + 1 =>
        have w1 : wrap64 (((m + 1 : Nat) : Int) - 1) = (m : Int) := by rw [wrap_in _ (by omega)]; omega
        have w2 : wrap64 ((r.length : Int) - 1) = ((r.length - 1 : Nat) : Int) := by rw [wrap_in _ (by omega)]; omega
        rw [ev_pos (by omega), w1, w2, ev_pos (by omega), ev_pos (by omega), ev_pos (by omega), ev_pos (by omega), rdOf_nat, rdOf_nat, trimN]
        by_cases c : t.getD m false = r.getD (r.length - 1) false
        · have := ih (t.take m) (rotL r) (by rw [List.length_take, rotL_length h1]; omega) (by rw [rotL_length h1]; exact h1)
          rw [nf_prim (prim_rot hp), show (t.take m).length = m by rw [List.length_take]; omega] at this
          rw [if_pos c, ev_pos (by simpa using c), ev_bind0 rfl, ev_pos (by omega), ev_bind0 rfl, ev_pos (by simp; omega), ev_pos (by omega), ev_bind (show Ev (fun k => spec_l1Less.f k (t.take ((m : Nat) : Int).toNat) ([r.getD (r.length - 1) false] ++ r.take ((r.length - 1 : Nat) : Int).toNat)) (trimN m (t.take m) (rotL r)) from this), ev_some]
        · rw [if_neg c, ev_neg (by simpa using c), ev_some]
    have loop : ∀ (e d : Nat), r.length - d = e → 1 ≤ d → d ≤ r.length → (∀ j, 1 ≤ j → j < d → turnsB r j = false) → Ev (fun k => spec_l1Less.l0 k (r.length : Int) (d : Int) t r) (nf t r) := by
      intro e
      induction e with
      | zero =>
        intro d he h2 h3 h4
        obtain rfl : d = r.length := by omega
        exact last ⟨h1, h4⟩
      | succ e ihe =>
        intro d he h2 h3 h4
        rw [ev_step (fun k => by rw [spec_l1Less.l0]), ev_pos (by omega), ev_neg (by omega)]
        refine less_l1 t r d h2 (by omega) (by omega) _ (fun hy => ?_) (fun hn => ?_) _ d _ rfl (Nat.le_refl _) h3 ?_
        · have hp : per r = d := by
            by_cases c : per r < d
            · rw [h4 _ g2 c] at g1
              cases g1
            · by_cases c2 : d < per r
              · rw [g4 d h2 c2] at hy
                cases hy
              · omega
          have := ih t (r.take d) (by rw [List.length_take]; omega) (by rw [List.length_take]; omega)
          rw [← hp, nf_take h1] at this
          rw [← hp]
          exact this
        · refine ihe (d + 1) (by omega) (by omega) (by omega) (fun j h5 h6 => ?_)
          by_cases c : j = d
          · rw [c]
            exact hn
          · exact h4 j h5 (by omega)
        · rw [tmod_nat, beq_iff_eq]
          constructor
          · intro h
            exact ⟨by omega, fun j h5 h6 => by omega⟩
          · intro h
            have := h.1
            omega
    rw [ev_step (fun k => by rw [spec_l1Less.f])]
    exact loop _ 1 rfl (Nat.le_refl _) h1 (fun j h5 h6 => by omega)
end
section
open Go.RowKit Go.Proofs.Ytdkebjjmnhdcnaa.G Go.Proofs.YtdkebjjmnhdcnaaW.PrintWords Go.Proofs.YtdkebjjmnhdcnaaW.PrintLast Go.Proofs.YtdkebjjmnhdcnaaW.PrintMore
set_option linter.unusedVariables false

def bitI (b : Bool) : Int := if b = true then 49 else 48
def wrI (t r : List Bool) : List Int := t.map bitI ++ [40] ++ r.map bitI ++ [41]
/-- The text of a tail and a ring. -/
def wrB (t r : List Bool) : ByteArray := strOfNums (wrI t r)
theorem bit_eq (b : Bool) : ∃ v, spec_l1Bit.f b = some v ∧ 0 ≤ v ∧ v < 2 ∧ bt (⟨#[48, 49]⟩ : ByteArray) v = bitI b := by
  cases b with
  | false => exact ⟨0, rfl, by omega, by omega, rfl⟩
  | true => exact ⟨1, rfl, by omega, by omega, rfl⟩
theorem take_get {l : List Bool} {i : Nat} (h : i < l.length) : l.take (i + 1) = l.take i ++ [l.getD i false] := by
  rw [List.take_succ_eq_append_getElem h, List.getD_eq_getElem?_getD, List.getElem?_eq_getElem h, Option.getD_some]
theorem write_l1 (t r : List Bool) (ht : t.length ≤ 100000) (hr : r.length ≤ 100000) (d : Nat) : ∀ (i : Nat), r.length - i = d → i ≤ r.length →
    Ev (fun k => spec_l1Write.l1 k (t.map bitI ++ [40] ++ (r.take i).map bitI) (i : Int) t r) (wrB t r) := by
  induction d with
  | zero =>
    intro i hd hi
    obtain rfl : i = r.length := by omega
    rw [List.take_of_length_le (Nat.le_refl _), ev_step (fun k => by rw [spec_l1Write.l1]), ev_neg (by omega), ev_pos (by simp; omega), ev_some]
    rfl
  | succ d ih =>
    intro i hd hi
    obtain ⟨v, e1, e2, e3, e4⟩ := bit_eq (r.getD i false)
    have := ih (i + 1) (by omega) (by omega)
    rw [take_get (by omega), List.map_append, List.map_singleton, ← List.append_assoc] at this
    rw [ev_step (fun k => by rw [spec_l1Write.l1]), ev_pos (by omega), ev_pos (by omega), rdOf_nat, ev_bind0 e1, ev_pos e2, ev_pos e3, ev_pos (by simp; omega), e4, wrap_in _ (by omega)]
    exact this
theorem write_l0 (t r : List Bool) (ht : t.length ≤ 100000) (hr : r.length ≤ 100000) (d : Nat) : ∀ (i : Nat), t.length - i = d → i ≤ t.length →
    Ev (fun k => spec_l1Write.l0 k ((t.take i).map bitI) (i : Int) t r) (wrB t r) := by
  induction d with
  | zero =>
    intro i hd hi
    obtain rfl : i = t.length := by omega
    have := write_l1 t r ht hr r.length 0 (by omega) (by omega)
    rw [List.take_zero, List.map_nil, List.append_nil] at this
    rw [List.take_of_length_le (Nat.le_refl _), ev_step (fun k => by rw [spec_l1Write.l0]), ev_neg (by omega), ev_pos (by simp; omega)]
    exact this
  | succ d ih =>
    intro i hd hi
    obtain ⟨v, e1, e2, e3, e4⟩ := bit_eq (t.getD i false)
    have := ih (i + 1) (by omega) (by omega)
    rw [take_get (by omega), List.map_append, List.map_singleton] at this
    rw [ev_step (fun k => by rw [spec_l1Write.l0]), ev_pos (by omega), ev_pos (by omega), rdOf_nat, ev_bind0 e1, ev_pos e2, ev_pos e3, ev_pos (by simp; omega), e4, wrap_in _ (by omega)]
    exact this
theorem write_ev (t r : List Bool) (ht : t.length ≤ 100000) (hr : r.length ≤ 100000) : Ev (fun k => spec_l1Write.f k t r) (wrB t r) := by
  simp only [spec_l1Write.f]
  have := write_l0 t r ht hr t.length 0 (by omega) (by omega)
  rw [List.take_zero, List.map_nil] at this
  exact this
/-- The text tells the tail and the ring. -/
theorem wr_inj {x y : List Int} (hy : ∀ z ∈ y, z ≠ 40) : ∀ {t u : List Bool}, t.map bitI ++ 40 :: x = u.map bitI ++ 40 :: y → t = u ∧ x = y
  | [], [], h => ⟨rfl, by simpa using h⟩
  | [], b :: u, h => by
    simp only [List.map_nil, List.nil_append, List.map_cons, List.cons_append, List.cons.injEq] at h
    have := h.1
    unfold bitI at this
    split at this <;> omega
  | b :: t, [], h => by
    simp only [List.map_nil, List.nil_append, List.map_cons, List.cons_append, List.cons.injEq] at h
    have := h.1
    unfold bitI at this
    split at this <;> omega
  | b :: t, c :: u, h => by
    simp only [List.map_cons, List.cons_append, List.cons.injEq] at h
    obtain ⟨e1, e2⟩ := wr_inj hy h.2
    have hb : b = c := by
      have := h.1
      unfold bitI at this
      cases b <;> cases c <;> simp at this ⊢
    exact ⟨by rw [hb, e1], e2⟩
theorem bits_inj : ∀ {t u : List Bool}, t.map bitI = u.map bitI → t = u
  | [], [], _ => rfl
  | [], b :: u, h => by simp at h
  | b :: t, [], h => by simp at h
  | b :: t, c :: u, h => by
    simp only [List.map_cons, List.cons.injEq] at h
    have hb : b = c := by
      have := h.1
      unfold bitI at this
      cases b <;> cases c <;> simp at this ⊢
    rw [hb, bits_inj h.2]
end
section
open Go.RowKit Go.Proofs.Ytdkebjjmnhdcnaa.G Go.Proofs.YtdkebjjmnhdcnaaW.PrintWords Go.Proofs.YtdkebjjmnhdcnaaW.PrintLast Go.Proofs.YtdkebjjmnhdcnaaW.PrintMore
set_option linter.unusedVariables false

theorem byte_ext {a b : ByteArray} (h : a.data.toList = b.data.toList) : a = b := by
  obtain ⟨⟨x⟩⟩ := a
  obtain ⟨⟨y⟩⟩ := b
  simp at h
  rw [h]
theorem append_list (a b : ByteArray) : (a ++ b).data.toList = a.data.toList ++ b.data.toList := by
  rw [ByteArray.data_append, Array.toList_append]
theorem str_list (q : List Int) : (strOfNums q).data.toList = q.map (fun n => n.toNat.toUInt8) := by
  unfold strOfNums
  simp
theorem bit_byte (b : Bool) : (bitI b).toNat.toUInt8 = bitB b := by
  cases b <;> rfl
theorem bits_bytes (l : List Bool) : (l.map bitI).map (fun n => n.toNat.toUInt8) = l.map bitB := by
  rw [List.map_map]
  congr 1
  funext b
  exact bit_byte b
/-- The bytes of the text. -/
theorem wrB_list (t r : List Bool) : (wrB t r).data.toList = t.map bitB ++ 40 :: (r.map bitB ++ [41]) := by
  unfold wrB wrI
  rw [str_list, List.map_append, List.map_append, List.map_append, bits_bytes, bits_bytes, List.append_assoc, List.append_assoc]
  rfl
theorem told_eq (l : List Bool) (h : l.length ≤ 100000) : impl_told.f l = some ⟨(l.map bitB).toArray⟩ := by
  unfold impl_told.f
  rw [if_pos (by omega)]
theorem text_eq (t r : List Bool) : ((((⟨(t.map bitB).toArray⟩ : ByteArray) ++ (⟨#[40]⟩ : ByteArray)) ++ (⟨(r.map bitB).toArray⟩ : ByteArray)) ++ (⟨#[41]⟩ : ByteArray)) = wrB t r := by
  refine byte_ext ?_
  rw [append_list, append_list, append_list, wrB_list]
  simp
theorem text_ev (t r : List Bool) (ht : t.length ≤ 60) (hr : r.length ≤ 60) : Ev (fun k => impl_set_text.f k t r) (wrB t r, true) := by
  have z1 : (⟨(t.map bitB).toArray⟩ : ByteArray).size = t.length := by simp [ByteArray.size]
  have z2 : (⟨(r.map bitB).toArray⟩ : ByteArray).size = r.length := by simp [ByteArray.size]
  have z3 : ((⟨(t.map bitB).toArray⟩ : ByteArray) ++ (⟨#[40]⟩ : ByteArray)).size = t.length + 1 := by rw [ByteArray.size_append, z1]; rfl
  have z4 : (((⟨(t.map bitB).toArray⟩ : ByteArray) ++ (⟨#[40]⟩ : ByteArray)) ++ (⟨(r.map bitB).toArray⟩ : ByteArray)).size = t.length + 1 + r.length := by rw [ByteArray.size_append, z3, z2]
  simp only [impl_set_text.f]
  rw [ev_neg (by omega), ev_step (fun k => by rw [impl_set_text.j0]), ev_neg (by simp; omega), ev_bind0 (told_eq t (by omega)), ev_pos (by omega), ev_bind0 (told_eq r (by omega)), ev_pos (by omega), ev_pos (by omega), ev_some, text_eq]
end
section
open Go.RowKit Go.Proofs.Ytdkebjjmnhdcnaa.G Go.Proofs.YtdkebjjmnhdcnaaW.PrintWords Go.Proofs.YtdkebjjmnhdcnaaW.PrintLast Go.Proofs.YtdkebjjmnhdcnaaW.PrintMore
set_option linter.unusedVariables false

/-- The text of the tidy form, if it is not too long. -/
def doneB (t r : List Bool) : ByteArray × Bool := if (nf t r).1.length ≤ 60 ∧ (nf t r).2.length ≤ 60 then (wrB (nf t r).1 (nf t r).2, true) else (⟨#[]⟩, false)
theorem text_done (t r : List Bool) : Ev (fun k => (impl_set_text.f k (nf t r).1 (nf t r).2).bind fun b => some (b.1, b.2)) (doneB t r) := by
  unfold doneB
  by_cases c1 : (nf t r).1.length ≤ 60
  · by_cases c2 : (nf t r).2.length ≤ 60
    · rw [if_pos ⟨c1, c2⟩, ev_bind (text_ev _ _ c1 c2), ev_some]
    · have e : Ev (fun k => impl_set_text.f k (nf t r).1 (nf t r).2) ((⟨#[]⟩ : ByteArray), false) := by
        simp only [impl_set_text.f]
        rw [ev_neg (by omega), ev_step (fun k => by rw [impl_set_text.j0]), ev_pos (by simp; omega), ev_some]
      rw [if_neg (fun z => c2 z.2), ev_bind e, ev_some]
  · have e : Ev (fun k => impl_set_text.f k (nf t r).1 (nf t r).2) ((⟨#[]⟩ : ByteArray), false) := by
      simp only [impl_set_text.f]
      rw [ev_pos (by omega), ev_step (fun k => by rw [impl_set_text.j0]), ev_pos rfl, ev_some]
    rw [if_neg (fun z => c1 z.1), ev_bind e, ev_some]
/-- The answers to a question of so many numbers from one on. -/
def asksL (f : Nat → Bool) (a n : Nat) : List Bool := (List.range n).map (fun i => f (a + i))
theorem asksL_length (f : Nat → Bool) (a n : Nat) : (asksL f a n).length = n := by simp [asksL]
theorem asksL_succ (f : Nat → Bool) (a n : Nat) : asksL f a (n + 1) = asksL f a n ++ [f (a + n)] := by
  unfold asksL
  rw [List.range_succ, List.map_append, List.map_singleton]
theorem asksL_get {f : Nat → Bool} {a n i : Nat} (h : i < n) : (asksL f a n).getD i false = f (a + i) := by
  unfold asksL
  rw [List.getD_eq_getElem?_getD, List.getElem?_map, List.getElem?_range h]
  rfl
theorem made_l1 (p : Int → Option Bool) (f : Nat → Bool) (a n : Nat) (ha : a ≤ 30000) (h1 : 1 ≤ n) (hn : n ≤ 30000) (hp : ∀ x : Nat, x < a + n → p (x : Int) = some (f x)) (t : List Bool) (ht : t.length ≤ 30000) (d : Nat) : ∀ (i : Nat), n - i = d → i ≤ n →
    Ev (fun k => impl_made.l1 p k (a : Int) (n : Int) (i : Int) t (asksL f a i)) (doneB t (asksL f a n)) := by
  induction d with
  | zero =>
    intro i hd hi
    obtain rfl : i = n := by omega
    have e := tidy_ev t (asksL f a i) (by omega) (by rw [asksL_length]; exact h1) (by rw [asksL_length]; omega)
    rw [ev_step (fun k => by rw [impl_made.l1]), ev_neg (by omega), ev_bind e]
    exact text_done t (asksL f a i)
  | succ d ih =>
    intro i hd hi
    have := ih (i + 1) (by omega) (by omega)
    rw [asksL_succ] at this
    have w : wrap64 ((a : Int) + (i : Int)) = ((a + i : Nat) : Int) := by rw [wrap_in _ (by omega)]; omega
    rw [ev_step (fun k => by rw [impl_made.l1]), ev_pos (by omega), w, ev_bind0 (hp (a + i) (by omega)), ev_pos (by rw [asksL_length]; omega), wrap_in _ (by omega)]
    exact this
theorem made_l0 (p : Int → Option Bool) (f : Nat → Bool) (a n : Nat) (ha : a ≤ 30000) (h1 : 1 ≤ n) (hn : n ≤ 30000) (hp : ∀ x : Nat, x < a + n → p (x : Int) = some (f x)) (d : Nat) : ∀ (i : Nat), a - i = d → i ≤ a →
    Ev (fun k => impl_made.l0 p k (a : Int) (n : Int) (a : Int) (i : Int) (asksL f 0 i)) (doneB (asksL f 0 a) (asksL f a n)) := by
  induction d with
  | zero =>
    intro i hd hi
    obtain rfl : i = a := by omega
    rw [ev_step (fun k => by rw [impl_made.l0]), ev_neg (by omega)]
    exact made_l1 p f i n ha h1 hn hp _ (by rw [asksL_length]; exact ha) n 0 (by omega) (by omega)
  | succ d ih =>
    intro i hd hi
    have := ih (i + 1) (by omega) (by omega)
    rw [asksL_succ, Nat.zero_add] at this
    rw [ev_step (fun k => by rw [impl_made.l0]), ev_pos (by omega), ev_bind0 (hp i (by omega)), ev_pos (by rw [asksL_length]; omega), wrap_in _ (by omega)]
    exact this
/-- What is made: the tidy text of the numbers asked. -/
theorem made_ev (p : Int → Option Bool) (f : Nat → Bool) (a n : Nat) (ha : a ≤ 30000) (h1 : 1 ≤ n) (hn : n ≤ 30000) (hp : ∀ x : Nat, x < a + n → p (x : Int) = some (f x)) : Ev (fun k => impl_made.f p k (a : Int) (n : Int) 0) (doneB (asksL f 0 a) (asksL f a n)) := by
  simp only [impl_made.f]
  exact made_l0 p f a n ha h1 hn hp a 0 (by omega) (by omega)
end
section
open Go.RowKit Go.Proofs.Ytdkebjjmnhdcnaa.G Go.Proofs.YtdkebjjmnhdcnaaW.PrintWords Go.Proofs.YtdkebjjmnhdcnaaW.PrintLast Go.Proofs.YtdkebjjmnhdcnaaW.PrintMore
set_option linter.unusedVariables false

theorem indexM_none {l : List Int} {s : Nat} (k : Nat) (hk : k ≤ 100) (x : Int) (d : Nat) : ∀ (i : Nat), k - i = d → i ≤ k → (∀ j, i ≤ j → j < k → x ≠ (atN l s j : Int)) → Ev (fun q => slices_Index_int_int.l0 q (met l s k) x (k : Int) (i : Int)) (-1) := by
  induction d with
  | zero =>
    intro i hd hi hx
    rw [ev_step (fun q => by rw [slices_Index_int_int.l0]), ev_neg (by omega), ev_some]
  | succ d ih =>
    intro i hd hi hx
    rw [ev_step (fun q => by rw [slices_Index_int_int.l0]), ev_pos (by omega), ev_pos (by omega), ev_pos (by rw [met_length]; omega), ev_neg (by rw [met_get l s k (by omega)]; exact hx i (Nat.le_refl _) (by omega)), wrap_in _ (by omega)]
    exact ih (i + 1) (by omega) (by omega) (fun j h1 h2 => hx j (by omega) h2)
theorem indexM_some {l : List Int} {s : Nat} (k f : Nat) (hk : k ≤ 100) (hf : f < k) (x : Int) (hxf : x = (atN l s f : Int)) (d : Nat) : ∀ (i : Nat), f - i = d → i ≤ f → (∀ j, i ≤ j → j < f → x ≠ (atN l s j : Int)) → Ev (fun q => slices_Index_int_int.l0 q (met l s k) x (k : Int) (i : Int)) (f : Int) := by
  induction d with
  | zero =>
    intro i hd hi hx
    obtain rfl : i = f := by omega
    rw [ev_step (fun q => by rw [slices_Index_int_int.l0]), ev_pos (by omega), ev_pos (by omega), ev_pos (by rw [met_length]; omega), ev_pos (by rw [met_get l s k (by omega)]; exact hxf), ev_some]
  | succ d ih =>
    intro i hd hi hx
    rw [ev_step (fun q => by rw [slices_Index_int_int.l0]), ev_pos (by omega), ev_pos (by omega), ev_pos (by rw [met_length]; omega), ev_neg (by rw [met_get l s k (by omega)]; exact hx i (Nat.le_refl _) (by omega)), wrap_in _ (by omega)]
    exact ih (i + 1) (by omega) (by omega) (fun j h1 h2 => hx j (by omega) h2)
/-- Whether a machine takes a number. -/
def takesN (l : List Int) (s : Nat) (b : Int) (x : Nat) : Bool := Go.bits .and .i64 (atN l s x : Int) b != 0
theorem mset_l0 {l : List Int} {a b : Int} (h : MOk l a b) {m f : Nat} (hS : Shape l a.toNat m f) (d : Nat) : ∀ (k : Nat), m - k = d → k ≤ m →
    Ev (fun q => impl_MachSet.l0 l a b q (met l a.toNat k) (atN l a.toNat k : Int)) (doneB (asksL (takesN l a.toNat b) 0 f) (asksL (takesN l a.toNat b) f (m - f))) := by
  have hm := hS.le
  have hf := hS.lt
  have h5 := h.n5
  have hp : 2 ^ l.length ≤ 2 ^ 5 := Nat.pow_le_pow_right (by decide) h.n5
  induction d with
  | zero =>
    intro k hd hk
    obtain rfl : k = m := by omega
    have ix : Ev (fun q => slices_Index_int_int.f q (met l a.toNat k) (atN l a.toNat k : Int)) (f : Int) := by
      simp only [slices_Index_int_int.f, met_length]
      refine indexM_some k f (by omega) hf _ (by rw [hS.eq]) f 0 (by omega) (by omega) (fun j _ h2 e => ?_)
      rw [hS.eq] at e
      exact hS.ne j f h2 hf (by omega)
    have ct : Ev (fun q => slices_Contains_int_int.f q (met l a.toNat k) (atN l a.toNat k : Int)) true := by
      simp only [slices_Contains_int_int.f]
      rw [ev_bind ix, ev_some, decide_eq_true_eq]
      omega
    have w : wrap64 ((k : Int) - (f : Int)) = ((k - f : Nat) : Int) := by rw [wrap_in _ (by omega)]; omega
    rw [ev_step (fun q => by rw [impl_MachSet.l0]), ev_bind ct, ev_pos rfl, ev_bind ix, met_length, w]
    refine made_ev (ms_ask (met l a.toNat k) b) (takesN l a.toNat b) f (k - f) (by omega) (by omega) (by omega) (fun x hx => ?_)
    unfold ms_ask takesN
    rw [if_pos (by rw [met_length]; omega), met_get l a.toNat k (by omega)]
  | succ d ih =>
    intro k hd hk
    have ix : Ev (fun q => slices_Index_int_int.f q (met l a.toNat k) (atN l a.toNat k : Int)) (-1) := by
      simp only [slices_Index_int_int.f, met_length]
      refine indexM_none k (by omega) _ k 0 (by omega) (by omega) (fun j _ h2 e => ?_)
      exact hS.ne j k h2 (by omega) (by omega)
    have ct : Ev (fun q => slices_Contains_int_int.f q (met l a.toNat k) (atN l a.toNat k : Int)) false := by
      simp only [slices_Contains_int_int.f]
      rw [ev_bind ix, ev_some]
      rfl
    have nx : Ev (fun q => impl_Machine_next.f q l a b (atN l a.toNat k : Int)) (atN l a.toNat (k + 1) : Int) := next_ev h (atN l a.toNat k) (atN_lt h h.a1 k) a b
    have := ih (k + 1) (by omega) (by omega)
    rw [met_snoc] at this
    rw [ev_step (fun q => by rw [impl_MachSet.l0]), ev_bind ct, ev_neg (by decide), ev_pos (by rw [met_length]; omega), ev_bind nx]
    exact this
theorem marksM_l0 {l : List Int} {a b : Int} (m f : Nat) (hm : m ≤ 100) (hf : f < m) (d : Nat) : ∀ (i : Nat), m - i = d → i ≤ m →
    Ev (fun q => spec_l6mSet.l0 q (met l a.toNat m) (f : Int) (asksL (takesN l a.toNat b) 0 i) (i : Int) l a b) (nf (asksL (takesN l a.toNat b) 0 f) (asksL (takesN l a.toNat b) f (m - f))) := by
  induction d with
  | zero =>
    intro i hd hi
    obtain rfl : i = m := by omega
    have e1 : (asksL (takesN l a.toNat b) 0 i).take f = asksL (takesN l a.toNat b) 0 f := by
      refine ext_getD (by rw [List.length_take, asksL_length, asksL_length]; omega) (fun j hj => ?_)
      rw [List.length_take, asksL_length] at hj
      rw [getD_take (by omega), asksL_get (by omega), asksL_get (by omega)]
    have e2 : (asksL (takesN l a.toNat b) 0 i).drop f = asksL (takesN l a.toNat b) f (i - f) := by
      refine ext_getD (by rw [List.length_drop, asksL_length, asksL_length]) (fun j hj => ?_)
      rw [List.length_drop, asksL_length] at hj
      rw [List.getD_eq_getElem?_getD, List.getElem?_drop, ← List.getD_eq_getElem?_getD, asksL_get (by omega), asksL_get hj, Nat.zero_add]
    have le := less_ev 1000 (by omega) (asksL (takesN l a.toNat b) 0 f) (asksL (takesN l a.toNat b) f (i - f)) (by rw [asksL_length, asksL_length]; omega) (by rw [asksL_length]; omega)
    rw [ev_step (fun q => by rw [spec_l6mSet.l0]), ev_neg (by rw [met_length]; omega), ev_pos (by omega), ev_pos (by rw [asksL_length]; omega), Int.toNat_natCast, e1, e2, ev_bind le, ev_some]
  | succ d ih =>
    intro i hd hi
    have := ih (i + 1) (by omega) (by omega)
    rw [asksL_succ, Nat.zero_add] at this
    rw [ev_step (fun q => by rw [spec_l6mSet.l0]), ev_pos (by rw [met_length]; omega), ev_pos (by omega), ev_pos (by rw [asksL_length]; omega), met_get l a.toNat m (by omega), wrap_in _ (by omega)]
    exact this
/-- Both make the same text. -/
theorem machSet_ev (l : List Int) (a b : Int) (hm : l.length ≤ 1048576) : ∃ v, Ev (fun k => spec_MachSet.f k l a b) v ∧ Ev (fun k => impl_MachSet.f k l a b) v := by
  simp only [spec_MachSet.f, impl_MachSet.f]
  by_cases h : machB l a b = true
  · have hM := mOk h
    obtain ⟨m, f, hS, hE⟩ := shape_ev hM
    have hle := hS.le
    have hf := hS.lt
    have e0 : ((atN l a.toNat 0 : Nat) : Int) = a := Int.toNat_of_nonneg hM.a0
    have i1 := mset_l0 hM hS m 0 (by omega) (by omega)
    rw [e0] at i1
    have l1 : 1 ≤ (asksL (takesN l a.toNat b) f (m - f)).length := by rw [asksL_length]; omega
    have n1 := nf_le (t := asksL (takesN l a.toNat b) 0 f) l1
    have n2 := (per_spec l1).2.2.1
    rw [asksL_length] at n1
    rw [asksL_length] at n2
    have dn : doneB (asksL (takesN l a.toNat b) 0 f) (asksL (takesN l a.toNat b) f (m - f)) = (wrB (nf (asksL (takesN l a.toNat b) 0 f) (asksL (takesN l a.toNat b) f (m - f))).1 (nf (asksL (takesN l a.toNat b) 0 f) (asksL (takesN l a.toNat b) f (m - f))).2, true) := by
      unfold doneB
      rw [if_pos (by omega)]
    have sp : Ev (fun k => spec_l6mSet.f k l a b) (nf (asksL (takesN l a.toNat b) 0 f) (asksL (takesN l a.toNat b) f (m - f))) := by
      simp only [spec_l6mSet.f]
      rw [ev_bind hE]
      exact marksM_l0 m f (by omega) hf m 0 (by omega) (by omega)
    refine ⟨doneB (asksL (takesN l a.toNat b) 0 f) (asksL (takesN l a.toNat b) f (m - f)), ?_, ?_⟩
    · rw [ev_bind (spec_machIn_ev l a b hm), ev_pos h, ev_bind sp, ev_bind (write_ev _ _ (by omega) (by omega)), ev_some, dn]
    · rw [ev_bind0 (impl_machIn l a b), ev_pos h]
      exact i1
  · refine ⟨(⟨#[]⟩, false), ?_, ?_⟩
    · rw [ev_bind (spec_machIn_ev l a b hm), ev_neg h, ev_some]
    · rw [ev_bind0 (impl_machIn l a b), ev_neg h, ev_some]
end
section
open Go.RowKit Go.Proofs.Ytdkebjjmnhdcnaa.G Go.Proofs.YtdkebjjmnhdcnaaW.PrintWords Go.Proofs.YtdkebjjmnhdcnaaW.PrintLast

theorem FnExactMachSet : FnExactMachSet.Pure := by
  intro l a b hm hw wa wb
  refine Ev.rounds ?_
  simp only [laws_FnExactMachSet.f]
  obtain ⟨r, hr, hs⟩ := szMach l a b 1048576 hm (by omega)
  rw [ev_bind0 hr]
  by_cases c : r < 0
  · rw [ev_pos c, ev_some]
  obtain ⟨h1, _⟩ := hs c
  have t := toMach_ev l a b h1
  obtain ⟨v, e1, e2⟩ := machSet_ev l a b h1
  rw [ev_neg c, ev_bind t, ev_bind e1, ev_bind t, ev_bind e2, ev_pos rfl, ev_step (fun k => by rw [laws_FnExactMachSet.j0]), ev_neg (by simp), ev_bind t, ev_bind (eqMach_self l a b h1), ev_pos rfl, ev_some]
end
end Go.Proofs.Ytdkebjjmnhdcnaa.Pure
