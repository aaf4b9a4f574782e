/- Machines all of whose states are single. -/
import Derived.Test.YtdbkpmhdjdebhaaQmach3
import Derived.Test.YtdbkpmhdjdebhaaG25
namespace Go.Proofs.Ytdbkpmhdjdebhaa.Pure
open Go.RowKit Go.Proofs.Ytdbkpmhdjdebhaa.G Go.Proofs.YtdbkpmhdjdebhaaW.PrintWords Go.Proofs.YtdbkpmhdjdebhaaW.PrintLast Go.Proofs.YtdbkpmhdjdebhaaW.PrintMore

theorem one_eq (x : Int) (h0 : 0 ≤ x) (h1 : x.toNat < 32) : spec_l6mOne.f x = some (ms_oneB x) := by
  have : x = 0 ∨ x = 1 ∨ x = 2 ∨ x = 3 ∨ x = 4 ∨ x = 5 ∨ x = 6 ∨ x = 7 ∨ x = 8 ∨ x = 9 ∨ x = 10 ∨ x = 11 ∨ x = 12 ∨ x = 13 ∨ x = 14 ∨ x = 15 ∨ x = 16 ∨ x = 17 ∨ x = 18 ∨ x = 19 ∨ x = 20 ∨ x = 21 ∨ x = 22 ∨ x = 23 ∨ x = 24 ∨ x = 25 ∨ x = 26 ∨ x = 27 ∨ x = 28 ∨ x = 29 ∨ x = 30 ∨ x = 31 := by omega
  rcases this with rfl | rfl | rfl | rfl | rfl | rfl | rfl | rfl | rfl | rfl | rfl | rfl | rfl | rfl | rfl | rfl | rfl | rfl | rfl | rfl | rfl | rfl | rfl | rfl | rfl | rfl | rfl | rfl | rfl | rfl | rfl | rfl <;> decide +kernel
def singleB (l : List Int) (a b : Int) : Bool := machB l a b && ms_oneB a && l.all ms_oneB
theorem impl_single (l : List Int) (a b : Int) : impl_MachSingle.f l a b = some (singleB l a b) := by
  unfold impl_MachSingle.f singleB
  rw [impl_machIn, Option.bind_some, List.not_any_eq_all_not]
  simp
theorem lt32 {x : Int} {l : List Int} {a b : Int} (h : MOk l a b) (hx : x.toNat < 2 ^ l.length) : x.toNat < 32 := by
  have : 2 ^ l.length ≤ 2 ^ 5 := Nat.pow_le_pow_right (by decide) h.n5
  omega
theorem spec_single_l0 {l : List Int} {a b : Int} (h : MOk l a b) (d : Nat) : ∀ (i : Nat), l.length - i = d → i ≤ l.length → Ev (fun k => spec_MachSingle.l0 k (i : Int) l a b) ((l.drop i).all ms_oneB) := by
  have h5 := h.n5
  induction d with
  | zero =>
    intro i hd hi
    rw [ev_step (fun k => by rw [spec_MachSingle.l0]), ev_neg (by omega), ev_some, List.drop_of_length_le (by omega)]
    rfl
  | succ d ih =>
    intro i hd hi
    have hi2 : i < l.length := by omega
    have hx := h.st _ (List.getElem_mem hi2)
    rw [ev_step (fun k => by rw [spec_MachSingle.l0]), ev_pos (by omega), ev_pos (by omega), rd_get hi2, ev_bind0 (one_eq _ hx.1 (lt32 h hx.2)), List.drop_eq_getElem_cons hi2, List.all_cons]
    by_cases c : ms_oneB l[i] = true
    · rw [ev_pos c, c, Bool.true_and, wrap_in _ (by omega)]
      exact ih (i + 1) (by omega) (by omega)
    · rw [ev_neg c, ev_some, Bool.eq_false_iff.2 c, Bool.false_and]
theorem spec_single_ev (l : List Int) (a b : Int) (hm : l.length ≤ 1048576) : Ev (fun k => spec_MachSingle.f k l a b) (singleB l a b) := by
  simp only [spec_MachSingle.f]
  rw [ev_bind (spec_machIn_ev l a b hm)]
  unfold singleB
  by_cases c : machB l a b = true
  · have h := mOk c
    rw [ev_pos c, ev_bind0 (one_eq a h.a0 (lt32 h h.a1)), ev_step (fun k => by rw [spec_MachSingle.j0]), c, Bool.true_and]
    by_cases g : ms_oneB a = true
    · rw [ev_neg (by simp [g]), g, Bool.true_and]
      have := spec_single_l0 h l.length 0 (by omega) (by omega)
      rwa [List.drop_zero] at this
    · rw [ev_pos (by simp [g]), ev_some, Bool.eq_false_iff.2 g, Bool.false_and]
  · rw [ev_neg c, ev_step (fun k => by rw [spec_MachSingle.j0]), ev_pos rfl, ev_some, Bool.eq_false_iff.2 c, Bool.false_and, Bool.false_and]
theorem nextL_one (j : Nat) : ∀ (xs : List Int) (i out : Nat), nextL xs (2 ^ j) i out = out ||| (if i ≤ j then (xs.getD (j - i) 0).toNat else 0) := by
  intro xs
  induction xs with
  | nil =>
    intro i out
    simp [nextL]
  | cons x xs ih =>
    intro i out
    rw [nextL, ih, Nat.testBit_two_pow]
    by_cases h : j = i
    · subst h
      rw [if_neg (show ¬ j + 1 ≤ j by omega)]
      simp
    · rw [decide_eq_false h]
      simp only [Bool.false_eq_true, if_false]
      by_cases g : i ≤ j
      · rw [if_pos g, if_pos (by omega), show j - i = (j - (i + 1)) + 1 by omega]
        rfl
      · rw [if_neg g, if_neg (by omega)]
theorem one_pow {x : Nat} {n : Nat} (h : ms_oneB (x : Int) = true) (hx : x < 2 ^ n) : ∃ j, j < n ∧ x = 2 ^ j := by
  unfold ms_oneB at h
  simp only [Bool.or_eq_true, decide_eq_true_eq] at h
  have key : ∀ j, x = 2 ^ j → j < n := by
    intro j e
    rw [e] at hx
    exact (Nat.pow_lt_pow_iff_right (by decide)).1 hx
  rcases h with (((h | h) | h) | h) | h
  · exact ⟨0, key 0 (by omega), by omega⟩
  · exact ⟨1, key 1 (by omega), by omega⟩
  · exact ⟨2, key 2 (by omega), by omega⟩
  · exact ⟨3, key 3 (by omega), by omega⟩
  · exact ⟨4, key 4 (by omega), by omega⟩
theorem atN_one {l : List Int} {a b : Int} (h : MOk l a b) (ha : ms_oneB a = true) (hl : l.all ms_oneB = true) : ∀ k, ms_oneB (atN l a.toNat k : Int) = true
  | 0 => by
    show ms_oneB ((a.toNat : Nat) : Int) = true
    rw [Int.toNat_of_nonneg h.a0]
    exact ha
  | k + 1 => by
    obtain ⟨j, hj, e⟩ := one_pow (atN_one h ha hl k) (atN_lt h h.a1 k)
    show ms_oneB (nextN l (atN l a.toNat k) : Int) = true
    unfold nextN
    rw [e, nextL_one, if_pos (Nat.zero_le _), Nat.zero_or, Nat.sub_zero, List.getD_eq_getElem?_getD, List.getElem?_eq_getElem hj, Option.getD_some, Int.toNat_of_nonneg (h.st _ (List.getElem_mem hj)).1]
    exact List.all_eq_true.1 hl _ (List.getElem_mem hj)
end Go.Proofs.Ytdbkpmhdjdebhaa.Pure
