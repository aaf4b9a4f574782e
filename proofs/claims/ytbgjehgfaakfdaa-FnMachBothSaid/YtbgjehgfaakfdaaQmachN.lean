/- Machines: one step, so many steps, and what they take; the program's functions. -/
import Derived.Test.YtbgjehgfaakfdaaQmachB
import Derived.Test.YtbgjehgfaakfdaaG11
namespace Go.Proofs.Ytbgjehgfaakfdaa.Pure
open Go.RowKit Go.Proofs.Ytbgjehgfaakfdaa.G Go.Proofs.YtbgjehgfaakfdaaW.PrintWords Go.Proofs.YtbgjehgfaakfdaaW.PrintLast Go.Proofs.YtbgjehgfaakfdaaW.PrintMore

/-- One step: all states to which one may step from the states of s. -/
def nextL : List Int → Nat → Nat → Nat → Nat
  | [], _, _, out => out
  | x :: xs, s, i, out => nextL xs s (i + 1) (if s.testBit i = true then out ||| x.toNat else out)
def nextN (l : List Int) (s : Nat) : Nat := nextL l s 0 0
theorem nextL_lt {n : Nat} (l : List Int) (hl : ∀ x ∈ l, x.toNat < 2 ^ n) : ∀ s i out, out < 2 ^ n → nextL l s i out < 2 ^ n := by
  induction l with
  | nil => intro s i out h; exact h
  | cons x xs ih =>
    intro s i out h
    refine ih (fun y hy => hl y (List.mem_cons_of_mem _ hy)) s (i + 1) _ ?_
    split
    · exact Nat.or_lt_two_pow h (hl x List.mem_cons_self)
    · exact h
theorem nextN_lt {l : List Int} {a b : Int} (h : MOk l a b) (s : Nat) : nextN l s < 2 ^ l.length := nextL_lt l (fun x hx => (h.st x hx).2) s 0 0 (Nat.two_pow_pos _)
theorem next_l0 (l : List Int) (n : Nat) (hn : n ≤ 62) (hl : ∀ x ∈ l, 0 ≤ x ∧ x.toNat < 2 ^ n) (hm : l.length ≤ 1048576) (s : Nat) (hs : s < 2 ^ 62) (d : Nat) : ∀ (i : Nat) (out : Nat), l.length - i = d → i ≤ l.length → out < 2 ^ n →
    Ev (fun k => impl_Machine_next.l0 k (s : Int) (out : Int) l (l.length : Int) (i : Int)) (nextL (l.drop i) s i out : Int) := by
  have hp : 2 ^ n ≤ 2 ^ 62 := Nat.pow_le_pow_right (by decide) hn
  induction d with
  | zero =>
    intro i out hd hi ho
    rw [ev_step (fun k => by rw [impl_Machine_next.l0]), ev_neg (by omega), ev_some, List.drop_of_length_le (by omega)]
    rfl
  | succ d ih =>
    intro i out hd hi ho
    have hi2 : i < l.length := by omega
    have hx := hl _ (List.getElem_mem hi2)
    rw [ev_step (fun k => by rw [impl_Machine_next.l0]), ev_pos (by omega), ev_pos (by omega), ev_pos (by omega), rd_get hi2, wrap_in _ (by omega), List.drop_eq_getElem_cons hi2]
    by_cases h : s.testBit i = true
    · rw [ev_pos ((bit_test s i hs).2 h)]
      have e : Go.bits .or .i64 (out : Int) l[i] = ((out ||| l[i].toNat : Nat) : Int) := by
        have := b64_or out l[i].toNat (by omega) (by omega)
        rwa [Int.toNat_of_nonneg hx.1] at this
      rw [e]
      have := ih (i + 1) (out ||| l[i].toNat) (by omega) (by omega) (Nat.or_lt_two_pow ho hx.2)
      simp only [nextL, h, if_true]
      exact this
    · rw [ev_neg (fun k => h ((bit_test s i hs).1 k))]
      have := ih (i + 1) out (by omega) (by omega) ho
      simp only [nextL, h]
      exact this
theorem next_ev {l : List Int} {a b : Int} (h : MOk l a b) (s : Nat) (hs : s < 2 ^ l.length) (u v : Int) : Ev (fun k => impl_Machine_next.f k l u v (s : Int)) (nextN l s : Int) := by
  have hp : 2 ^ l.length ≤ 2 ^ 5 := Nat.pow_le_pow_right (by decide) h.n5
  have h5 := h.n5
  simp only [impl_Machine_next.f]
  exact next_l0 l l.length (by omega) h.st (by omega) s (by omega) l.length 0 0 (by omega) (by omega) (Nat.two_pow_pos _)
def atN (l : List Int) (s : Nat) : Nat → Nat
  | 0 => s
  | k + 1 => nextN l (atN l s k)
theorem atN_lt {l : List Int} {a b : Int} (h : MOk l a b) {s : Nat} (hs : s < 2 ^ l.length) : ∀ k, atN l s k < 2 ^ l.length
  | 0 => hs
  | _ + 1 => nextN_lt h _
theorem atN_add (l : List Int) (s i : Nat) : ∀ k, atN l s (i + k) = atN l (atN l s i) k
  | 0 => rfl
  | k + 1 => by
    show nextN l (atN l s (i + k)) = _
    rw [atN_add l s i k]
    rfl
def atC (l : List Int) (a b k : Int) : Int × Bool := if machB l a b = true ∧ (0 ≤ k ∧ k ≤ 1000000) then ((atN l a.toNat k.toNat : Int), true) else (0, false)
theorem impl_at_l0 {l : List Int} {a b : Int} (h : MOk l a b) (n : Nat) (hn : n ≤ 1000000) (d : Nat) : ∀ (i : Nat), n - i = d → i ≤ n → Ev (fun k => impl_MachAt.l0 k (atN l a.toNat i : Int) (n : Int) (i : Int) l a b) ((atN l a.toNat n : Int), true) := by
  induction d with
  | zero =>
    intro i hd hi
    rw [ev_step (fun k => by rw [impl_MachAt.l0]), ev_neg (by omega), ev_some, show i = n by omega]
  | succ d ih =>
    intro i hd hi
    rw [ev_step (fun k => by rw [impl_MachAt.l0]), ev_pos (by omega), ev_bind (next_ev h _ (atN_lt h h.a1 i) _ _), wrap_in _ (by omega)]
    exact ih (i + 1) (by omega) (by omega)
theorem impl_machAt_ev (l : List Int) (a b k0 : Int) : Ev (fun k => impl_MachAt.f k l a b k0) (atC l a b k0) := by
  simp only [impl_MachAt.f]
  rw [ev_bind0 (impl_machIn l a b)]
  unfold atC
  by_cases h : machB l a b = true
  · rw [ev_pos h, ev_bind0 (in_eq _ _ _), ev_step (fun k => by rw [impl_MachAt.j0])]
    by_cases hk : 0 ≤ k0 ∧ k0 ≤ 1000000
    · rw [decide_eq_true hk, ev_neg (by simp), if_pos ⟨h, hk⟩]
      have hm := mOk h
      have := impl_at_l0 hm k0.toNat (by omega) k0.toNat 0 (by omega) (by omega)
      have ea : ((a.toNat : Nat) : Int) = a := Int.toNat_of_nonneg hm.a0
      have ek : ((k0.toNat : Nat) : Int) = k0 := Int.toNat_of_nonneg hk.1
      simp only [atN] at this
      rw [ea, ek] at this
      exact this
    · rw [decide_eq_false hk, ev_pos (by simp), ev_some, if_neg (fun z => hk z.2)]
  · rw [ev_neg h, ev_step (fun k => by rw [impl_MachAt.j0]), ev_pos rfl, ev_some, if_neg (fun z => h z.1)]
def takesC (l : List Int) (a b k : Int) : Bool := (atC l a b k).2 && (Go.bits .and .i64 (atC l a b k).1 b != 0)
theorem impl_machTakes_ev (l : List Int) (a b k0 : Int) : Ev (fun k => impl_MachTakes.f k l a b k0) (takesC l a b k0) := by
  simp only [impl_MachTakes.f]
  rw [ev_bind (impl_machAt_ev l a b k0)]
  unfold takesC
  by_cases h : (atC l a b k0).2 = true
  · rw [ev_pos h, ev_some, h, Bool.true_and]
  · rw [ev_neg h, ev_some, Bool.eq_false_iff.2 h, Bool.false_and]
def nb (l : List Int) (i j : Nat) : Bool := (l.getD i 0).toNat.testBit j
theorem nextL_bit (s j : Nat) : ∀ (xs : List Int) (i out : Nat), (nextL xs s i out).testBit j = true ↔ out.testBit j = true ∨ ∃ p, p < xs.length ∧ s.testBit (i + p) = true ∧ nb xs p j = true := by
  intro xs
  induction xs with
  | nil =>
    intro i out
    simp [nextL]
  | cons x xs ih =>
    intro i out
    rw [nextL, ih]
    constructor
    · rintro (h | ⟨p, h1, h2, h3⟩)
      · by_cases c : s.testBit i = true
        · rw [if_pos c, Nat.testBit_or, Bool.or_eq_true] at h
          rcases h with h | h
          · exact Or.inl h
          · exact Or.inr ⟨0, by simp, c, h⟩
        · rw [if_neg c] at h
          exact Or.inl h
      · exact Or.inr ⟨p + 1, by simpa using h1, by rw [show i + (p + 1) = i + 1 + p by omega]; exact h2, h3⟩
    · rintro (h | ⟨p, h1, h2, h3⟩)
      · left
        split
        · rw [Nat.testBit_or, h, Bool.true_or]
        · exact h
      · cases p with
        | zero =>
          left
          rw [if_pos (show s.testBit i = true from h2), Nat.testBit_or, Bool.or_eq_true]
          exact Or.inr h3
        | succ p => exact Or.inr ⟨p, by simpa using h1, by rw [show i + 1 + p = i + (p + 1) by omega]; exact h2, h3⟩
theorem nextN_bit (l : List Int) (s j : Nat) : (nextN l s).testBit j = true ↔ ∃ p, p < l.length ∧ s.testBit p = true ∧ nb l p j = true := by
  unfold nextN
  rw [nextL_bit]
  simp
theorem meets_iff (x y : Nat) : x &&& y ≠ 0 ↔ ∃ j, x.testBit j = true ∧ y.testBit j = true := by
  constructor
  · intro h
    obtain ⟨j, hj⟩ := Nat.exists_testBit_of_ne_zero h
    rw [Nat.testBit_and, Bool.and_eq_true] at hj
    exact ⟨j, hj⟩
  · rintro ⟨j, h1, h2⟩ e
    have : (x &&& y).testBit j = true := by rw [Nat.testBit_and, h1, h2]; rfl
    rw [e, Nat.zero_testBit] at this
    cases this
theorem takes_eq {l : List Int} {a b : Int} (h : MOk l a b) (k : Nat) (hk : k ≤ 1000000) : takesC l a b (k : Int) = decide (atN l a.toNat k &&& b.toNat ≠ 0) := by
  have hp : 2 ^ l.length ≤ 2 ^ 5 := Nat.pow_le_pow_right (by decide) h.n5
  have h1 := atN_lt h h.a1 k
  have h2 := h.b1
  have hA : atC l a b (k : Int) = ((atN l a.toNat k : Int), true) := by
    unfold atC
    rw [if_pos ⟨mB h, by omega⟩, Int.toNat_natCast]
  have e := b64_and (atN l a.toNat k) b.toNat (by omega) (by omega)
  rw [Int.toNat_of_nonneg h.b0] at e
  unfold takesC
  rw [hA]
  show (true && (Go.bits .and .i64 (atN l a.toNat k : Int) b != 0)) = _
  rw [e, Bool.true_and]
  by_cases c : atN l a.toNat k &&& b.toNat = 0
  · rw [c, decide_eq_false (by simp)]
    rfl
  · rw [decide_eq_true c, bne_iff_ne]
    omega
end Go.Proofs.Ytbgjehgfaakfdaa.Pure
