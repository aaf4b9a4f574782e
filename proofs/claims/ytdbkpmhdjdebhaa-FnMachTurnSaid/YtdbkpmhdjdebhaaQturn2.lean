/- A machine turned round takes as many steps as the machine itself does; turned twice it is itself. -/
import Derived.Test.YtdbkpmhdjdebhaaQturn
namespace Go.Proofs.Ytdbkpmhdjdebhaa.Pure
open Go.RowKit Go.Proofs.Ytdbkpmhdjdebhaa.G Go.Proofs.YtdbkpmhdjdebhaaW.PrintWords Go.Proofs.YtdbkpmhdjdebhaaW.PrintLast Go.Proofs.YtdbkpmhdjdebhaaW.PrintMore

def nb (l : List Int) (i j : Nat) : Bool := (l.getD i 0).toNat.testBit j
theorem nextL_bit (s j : Nat) : ∀ (xs : List Int) (i out : Nat), (nextL xs s i out).testBit j = true ↔ out.testBit j = true ∨ ∃ p, p < xs.length ∧ s.testBit (i + p) = true ∧ nb xs p j = true := by
  intro xs
  induction xs with
  | nil =>
    intro i out
    simp [nextL]
  | cons x xs ih =>
    intro i out
    rw [nextL, ih]
    constructor
    · rintro (h | ⟨p, h1, h2, h3⟩)
      · by_cases c : s.testBit i = true
        · rw [if_pos c, Nat.testBit_or, Bool.or_eq_true] at h
          rcases h with h | h
          · exact Or.inl h
          · exact Or.inr ⟨0, by simp, c, h⟩
        · rw [if_neg c] at h
          exact Or.inl h
      · exact Or.inr ⟨p + 1, by simpa using h1, by rw [show i + (p + 1) = i + 1 + p by omega]; exact h2, h3⟩
    · rintro (h | ⟨p, h1, h2, h3⟩)
      · left
        split
        · rw [Nat.testBit_or, h, Bool.true_or]
        · exact h
      · cases p with
        | zero =>
          left
          rw [if_pos (show s.testBit i = true from h2), Nat.testBit_or, Bool.or_eq_true]
          exact Or.inr h3
        | succ p => exact Or.inr ⟨p, by simpa using h1, by rw [show i + 1 + p = i + (p + 1) by omega]; exact h2, h3⟩
theorem nextN_bit (l : List Int) (s j : Nat) : (nextN l s).testBit j = true ↔ ∃ p, p < l.length ∧ s.testBit p = true ∧ nb l p j = true := by
  unfold nextN
  rw [nextL_bit]
  simp
theorem getD_set (t : List Int) (j q : Nat) (v : Int) (hj : j < t.length) : (t.set j v).getD q 0 = if q = j then v else t.getD q 0 := by
  rw [List.getD_eq_getElem?_getD, List.getElem?_set]
  by_cases h : j = q
  · subst h
    simp [hj]
  · rw [if_neg h, if_neg (fun z => h z.symm), List.getD_eq_getElem?_getD]
theorem tr1_get {n : Nat} (x i : Nat) (hi : i < n) : ∀ (d j0 : Nat) (t : List Int), d + j0 = n → TOk n t → ∀ j, j < n → (tr1 x i d j0 t).getD j 0 = if j0 ≤ j then (cellT t x i j : Int) else t.getD j 0 := by
  intro d
  induction d with
  | zero =>
    intro j0 t hd ht j hj
    rw [if_neg (by omega)]
    rfl
  | succ d ih =>
    intro j0 t hd ht j hj
    have hl := ht.len
    rw [tr1, ih (j0 + 1) _ (by omega) (ht.set x i j0 hi (by omega)) j hj]
    by_cases h : j0 + 1 ≤ j
    · rw [if_pos h, if_pos (by omega)]
      unfold cellT
      rw [rd_nat, getD_set _ _ _ _ (by omega), if_neg (by omega), rd_nat]
    · rw [if_neg h, getD_set _ _ _ _ (by omega)]
      by_cases g : j = j0
      · subst g
        rw [if_pos rfl, if_pos (Nat.le_refl _)]
      · rw [if_neg g, if_neg (by omega)]
theorem cell_bit (t : List Int) (x i j p : Nat) : (cellT t x i j).testBit p = true ↔ nb t j p = true ∨ (i = p ∧ x.testBit j = true) := by
  unfold cellT nb
  rw [rd_nat, Nat.testBit_or, Bool.or_eq_true]
  by_cases h : x.testBit j = true
  · rw [if_pos h, Nat.testBit_two_pow]
    simp [h]
  · rw [if_neg h]
    simp [h]
theorem tr0_bit {n : Nat} (j p : Nat) (hj : j < n) : ∀ (l : List Int) (i : Nat) (t : List Int), l.length + i = n → TOk n t → (nb (tr0 n l i t) j p = true ↔ nb t j p = true ∨ ∃ q, q < l.length ∧ p = i + q ∧ nb l q j = true) := by
  intro l
  induction l with
  | nil =>
    intro i t hd ht
    simp [tr0]
  | cons x xs ih =>
    intro i t hd ht
    have hi : i < n := by simp at hd; omega
    rw [tr0, ih (i + 1) _ (by simp at hd; omega) (TOk.tr1 x.toNat i hi n 0 t (by omega) ht)]
    have e : nb (tr1 x.toNat i n 0 t) j p = true ↔ nb t j p = true ∨ (i = p ∧ x.toNat.testBit j = true) := by
      rw [← cell_bit]
      unfold nb
      rw [tr1_get x.toNat i hi n 0 t (by omega) ht j hj, if_pos (Nat.zero_le _), Int.toNat_natCast]
    rw [e]
    constructor
    · rintro ((h | ⟨h1, h2⟩) | ⟨q, h1, h2, h3⟩)
      · exact Or.inl h
      · exact Or.inr ⟨0, by simp, by omega, h2⟩
      · exact Or.inr ⟨q + 1, by simpa using h1, by omega, h3⟩
    · rintro (h | ⟨q, h1, h2, h3⟩)
      · exact Or.inl (Or.inl h)
      · cases q with
        | zero => exact Or.inl (Or.inr ⟨by omega, h3⟩)
        | succ q => exact Or.inr ⟨q, by simpa using h1, by omega, h3⟩
theorem turnL_bit (l : List Int) (j p : Nat) (hj : j < l.length) : nb (turnL l) j p = true ↔ p < l.length ∧ nb l p j = true := by
  unfold turnL
  rw [tr0_bit j p hj l 0 _ (by omega) (TOk.zero _)]
  have : ¬ nb (List.replicate l.length 0) j p = true := by
    unfold nb
    rw [List.getD_eq_getElem?_getD, List.getElem?_replicate, if_pos hj]
    simp
  constructor
  · rintro (h | ⟨q, h1, h2, h3⟩)
    · exact absurd h this
    · rw [Nat.zero_add] at h2
      subst h2
      exact ⟨h1, h3⟩
  · rintro ⟨h1, h2⟩
    exact Or.inr ⟨p, h1, by omega, h2⟩
theorem inR_of {x : Int} {n : Nat} (h0 : 0 ≤ x) (h1 : x.toNat < 2 ^ n) : inR x (2 ^ n - 1) = true := by
  unfold inR
  rw [decide_eq_true_eq]
  refine ⟨h0, ?_⟩
  have : (x.toNat : Int) < ((2 ^ n : Nat) : Int) := by omega
  rw [Int.natCast_pow] at this
  have h2 : (x.toNat : Int) < 2 ^ n := this
  omega
theorem mB {l : List Int} {a b : Int} (h : MOk l a b) : machB l a b = true := by
  unfold machB
  rw [Bool.and_eq_true, Bool.and_eq_true, Bool.and_eq_true, decide_eq_true_eq, List.all_eq_true]
  exact ⟨⟨⟨⟨h.n1, h.n5⟩, fun x hx => inR_of (h.st x hx).1 (h.st x hx).2⟩, inR_of h.a0 h.a1⟩, inR_of h.b0 h.b1⟩
theorem turn_ok {l : List Int} {a b : Int} (h : MOk l a b) : MOk (turnL l) b a := by
  have t := turnL_ok l
  exact ⟨by rw [t.len]; exact h.n1, by rw [t.len]; exact h.n5, by rw [t.len]; exact t.st, h.b0, by rw [t.len]; exact h.b1, h.a0, by rw [t.len]; exact h.a1⟩
theorem bit_lt {x n j : Nat} (hx : x < 2 ^ n) (h : x.testBit j = true) : j < n := by
  by_cases c : j < n
  · exact c
  · have := Nat.testBit_lt_two_pow (Nat.lt_of_lt_of_le hx (Nat.pow_le_pow_right (by decide : 0 < 2) (by omega : n ≤ j)))
    rw [this] at h
    cases h
theorem turn_turn {l : List Int} {a b : Int} (h : MOk l a b) : turnL (turnL l) = l := by
  have t := turnL_ok l
  have t2 := turnL_ok (turnL l)
  refine List.ext_getElem (by rw [t2.len, t.len]) fun i h1 h2 => ?_
  have e1 := t2.st _ (List.getElem_mem h1)
  have e2 := h.st _ (List.getElem_mem h2)
  have key : (turnL (turnL l))[i].toNat = l[i].toNat := by
    refine Nat.eq_of_testBit_eq fun j => ?_
    have g := turnL_bit (turnL l) i j (by rw [t.len]; exact h2)
    unfold nb at g
    rw [List.getD_eq_getElem?_getD, List.getElem?_eq_getElem h1, Option.getD_some, t.len] at g
    have hl : l.getD i 0 = l[i] := by rw [List.getD_eq_getElem?_getD, List.getElem?_eq_getElem h2, Option.getD_some]
    rw [Bool.eq_iff_iff, g]
    constructor
    · rintro ⟨c1, c2⟩
      have := (turnL_bit l j i c1).1 c2
      unfold nb at this
      rw [hl] at this
      exact this.2
    · intro c
      have hj := bit_lt e2.2 c
      refine ⟨hj, (turnL_bit l j i hj).2 ⟨h2, ?_⟩⟩
      unfold nb
      rw [hl]
      exact c
  omega
theorem meets_iff (x y : Nat) : x &&& y ≠ 0 ↔ ∃ j, x.testBit j = true ∧ y.testBit j = true := by
  constructor
  · intro h
    obtain ⟨j, hj⟩ := Nat.exists_testBit_of_ne_zero h
    rw [Nat.testBit_and, Bool.and_eq_true] at hj
    exact ⟨j, hj⟩
  · rintro ⟨j, h1, h2⟩ e
    have : (x &&& y).testBit j = true := by rw [Nat.testBit_and, h1, h2]; rfl
    rw [e, Nat.zero_testBit] at this
    cases this
theorem dual {l : List Int} {s t : Nat} (ht : t < 2 ^ l.length) : nextN l s &&& t ≠ 0 ↔ s &&& nextN (turnL l) t ≠ 0 := by
  rw [meets_iff, meets_iff]
  constructor
  · rintro ⟨j, h1, h2⟩
    obtain ⟨p, c1, c2, c3⟩ := (nextN_bit l s j).1 h1
    have hj := bit_lt ht h2
    exact ⟨p, c2, (nextN_bit _ t p).2 ⟨j, by rw [(turnL_ok l).len]; exact hj, h2, (turnL_bit l j p hj).2 ⟨c1, c3⟩⟩⟩
  · rintro ⟨p, h1, h2⟩
    obtain ⟨j, c1, c2, c3⟩ := (nextN_bit _ t p).1 h2
    rw [(turnL_ok l).len] at c1
    obtain ⟨c4, c5⟩ := (turnL_bit l j p c1).1 c3
    exact ⟨j, (nextN_bit l s j).2 ⟨p, c4, h1, c5⟩, c2⟩
theorem dual_at {l : List Int} {a b : Int} (h : MOk l a b) : ∀ (k t : Nat), t < 2 ^ l.length → (atN l a.toNat k &&& t ≠ 0 ↔ a.toNat &&& atN (turnL l) t k ≠ 0)
  | 0, _, _ => Iff.rfl
  | k + 1, t, ht => by
    show nextN l (atN l a.toNat k) &&& t ≠ 0 ↔ _
    have hn : nextN (turnL l) t < 2 ^ l.length := by
      have := nextN_lt (turn_ok h) t
      rwa [(turnL_ok l).len] at this
    rw [dual ht, dual_at h k _ hn, show k + 1 = 1 + k by omega, atN_add]
    exact Iff.rfl
theorem takes_eq {l : List Int} {a b : Int} (h : MOk l a b) (k : Nat) (hk : k ≤ 1000000) : takesC l a b (k : Int) = decide (atN l a.toNat k &&& b.toNat ≠ 0) := by
  have hp : 2 ^ l.length ≤ 2 ^ 5 := Nat.pow_le_pow_right (by decide) h.n5
  have h1 := atN_lt h h.a1 k
  have h2 := h.b1
  have hA : atC l a b (k : Int) = ((atN l a.toNat k : Int), true) := by
    unfold atC
    rw [if_pos ⟨mB h, by omega⟩, Int.toNat_natCast]
  have e := bits64_and (atN l a.toNat k) b.toNat (by omega) (by omega)
  rw [Int.toNat_of_nonneg h.b0] at e
  unfold takesC
  rw [hA]
  show (true && (Go.bits .and .i64 (atN l a.toNat k : Int) b != 0)) = _
  rw [e, Bool.true_and]
  by_cases c : atN l a.toNat k &&& b.toNat = 0
  · rw [c, decide_eq_false (by simp)]
    rfl
  · rw [decide_eq_true c, bne_iff_ne]
    omega
theorem turn_takes {l : List Int} {a b : Int} (h : MOk l a b) (k : Nat) (hk : k ≤ 1000000) : takesC (turnL l) b a (k : Int) = takesC l a b (k : Int) := by
  rw [takes_eq h k hk, takes_eq (turn_ok h) k hk]
  refine decide_eq_decide.2 ?_
  rw [dual_at h k b.toNat h.b1, Nat.and_comm]
end Go.Proofs.Ytdbkpmhdjdebhaa.Pure
