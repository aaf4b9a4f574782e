/- The star of a small set comes round after its least number, from 272 on. -/
import Derived.Test.YtjfmcbkclmoioaaQstar
namespace Go.Proofs.Ytjfmcbkclmoioaa.Pure
open Go.RowKit Go.Proofs.Ytjfmcbkclmoioaa.G Go.Proofs.YtjfmcbkclmoioaaW.PrintWords Go.Proofs.YtjfmcbkclmoioaaW.PrintLast

/-- How many numbers below n are in X. -/
def cnt (X : Nat → Prop) [DecidablePred X] : Nat → Nat
  | 0 => 0
  | n + 1 => cnt X n + (if X n then 1 else 0)
/-- How many numbers below n are not in X, though the ones that are greater by a are. -/
def jmp (X : Nat → Prop) [DecidablePred X] (a : Nat) : Nat → Nat
  | 0 => 0
  | n + 1 => jmp X a n + (if X (n + a) ∧ ¬ X n then 1 else 0)
/-- A set that goes up by a; where it cannot go down by a, it could not a little earlier. -/
structure Near (X : Nat → Prop) (a : Nat) : Prop where
  up : ∀ n, X n → X (n + a)
  jump : ∀ n, 16 ≤ n → X (n + a) → (∀ m, n ≤ m + 16 → m < n → X (m + a) → X m) → X n
theorem cnt_le (X : Nat → Prop) [DecidablePred X] (n : Nat) : ∀ a, cnt X (n + a) ≤ cnt X n + a
  | 0 => Nat.le_refl _
  | a + 1 => by
    have := cnt_le X n a
    show cnt X (n + a) + _ ≤ _
    split <;> omega
theorem jmp_cnt {X : Nat → Prop} [DecidablePred X] {a : Nat} (h : ∀ n, X n → X (n + a)) : ∀ n, jmp X a n + cnt X n ≤ cnt X (n + a)
  | 0 => by simp [jmp, cnt]
  | n + 1 => by
    have ih := jmp_cnt h n
    rw [show n + 1 + a = (n + a) + 1 by omega, jmp, cnt, cnt]
    by_cases c : X n
    · rw [if_neg (fun z => z.2 c), if_pos c, if_pos (h n c)]
      omega
    · by_cases c2 : X (n + a)
      · rw [if_pos ⟨c2, c⟩, if_neg c, if_pos c2]
        omega
      · rw [if_neg (fun z => c2 z.1), if_neg c, if_neg c2]
        omega
theorem jmp_le {X : Nat → Prop} [DecidablePred X] {a : Nat} (h : ∀ n, X n → X (n + a)) (n : Nat) : jmp X a n ≤ a := by
  have h1 := jmp_cnt h n
  have h2 := cnt_le X n a
  omega
theorem jmp_mono (X : Nat → Prop) [DecidablePred X] (a n : Nat) : ∀ d, jmp X a n ≤ jmp X a (n + d)
  | 0 => Nat.le_refl _
  | d + 1 => Nat.le_trans (jmp_mono X a n d) (Nat.le_add_right _ _)
theorem jmp_chain {X : Nat → Prop} [DecidablePred X] {a : Nat} (h : Near X a) : ∀ q m, X (m + a) → ¬ X m → 16 * q ≤ m → q ≤ jmp X a m
  | 0, _, _, _, _ => Nat.zero_le _
  | q + 1, m, h1, h2, h3 => by
    by_cases c : ∃ k, m ≤ k + 16 ∧ k < m ∧ X (k + a) ∧ ¬ X k
    · obtain ⟨k, g1, g2, g3, g4⟩ := c
      have ih := jmp_chain h q k g3 g4 (by omega)
      have hm := jmp_mono X a (k + 1) (m - (k + 1))
      rw [show k + 1 + (m - (k + 1)) = m by omega, jmp, if_pos ⟨g3, g4⟩] at hm
      omega
    · exact absurd (h.jump m (by omega) h1 (fun k g1 g2 g3 => by
        by_cases z : X k
        · exact z
        · exact absurd ⟨k, g1, g2, g3, z⟩ c)) h2
theorem no_jump {X : Nat → Prop} {a n : Nat} (h : Near X a) (ha : a ≤ 16) (hn : 272 ≤ n) (hx : X (n + a)) : X n := by
  have : DecidablePred X := fun _ => Classical.propDecidable _
  by_cases c : X n
  · exact c
  · have h1 := jmp_chain h 17 n hx c (by omega)
    have h2 := jmp_le h.up n
    omega
def low (A : Nat → Bool) (T k : Nat) : Bool := A k && decide (k < T)
/-- Sums with a number that is not below T. -/
def High (A : Nat → Bool) (T n : Nat) : Prop := ∃ k s, T ≤ k ∧ 1 ≤ k ∧ A k = true ∧ Star A s ∧ n = k + s
theorem low_star {A : Nat → Bool} {T n : Nat} (h : Star (low A T) n) : Star A n := by
  induction h with
  | zero => exact .zero
  | add n k _ h1 h2 ih =>
    unfold low at h2
    rw [Bool.and_eq_true] at h2
    exact .add n k ih h1 h2.1
theorem high_star {A : Nat → Bool} {T n : Nat} (h : High A T n) : Star A n := by
  obtain ⟨k, s, _, h1, h2, h3, rfl⟩ := h
  have := Star.add s k h3 h1 h2
  rwa [Nat.add_comm] at this
theorem star_split {A : Nat → Bool} {T n : Nat} (h : Star A n) : Star (low A T) n ∨ High A T n := by
  induction h with
  | zero => exact .inl .zero
  | add n k h0 h1 h2 ih =>
    by_cases c : T ≤ k
    · exact .inr ⟨k, n, c, h1, h2, h0, Nat.add_comm _ _⟩
    · rcases ih with ih | ⟨k', s, g1, g2, g3, g4, rfl⟩
      · exact .inl (.add n k ih h1 (by unfold low; rw [h2, decide_eq_true (by omega)]; rfl))
      · exact .inr ⟨k', s + k, g1, g2, g3, .add s k g4 h1 h2, by omega⟩
theorem near_high {A : Nat → Bool} {T p a : Nat} (hA : ∀ x, T ≤ x → A (x + p) = A x) (hp : 1 ≤ p) (h16 : T + p ≤ 16) (ha : 1 ≤ a) (hAa : A a = true) : Near (High A T) a := by
  have upp : ∀ n, High A T n → High A T (n + p) := by
    rintro n ⟨k, s, h1, h2, h3, h4, rfl⟩
    exact ⟨k + p, s, by omega, by omega, by rw [hA k h1]; exact h3, h4, by omega⟩
  have far : ∀ n k s, 16 ≤ n → T + p < k → A k = true → Star A s → n + a = k + s → (∀ m, n ≤ m + 16 → m < n → High A T (m + a) → High A T m) → High A T n := by
    intro n k s hn hk h3 h4 e hs
    have g : High A T (n - p + a) := ⟨k - p, s, by omega, by omega, by rw [← hA (k - p) (by omega), Nat.sub_add_cancel (by omega)]; exact h3, h4, by omega⟩
    have := upp _ (hs (n - p) (by omega) (by omega) g)
    rwa [Nat.sub_add_cancel (by omega)] at this
  refine ⟨?_, ?_⟩
  · rintro n ⟨k, s, h1, h2, h3, h4, rfl⟩
    exact ⟨k, s + a, h1, h2, h3, .add s a h4 ha hAa, by omega⟩
  · rintro n hn ⟨k, s, h1, h2, h3, h4, e⟩ hs
    by_cases c : T + p < k
    · exact far n k s hn c h3 h4 e hs
    · obtain ⟨k2, g1, g2, g3, g4⟩ := h4.last (by omega)
      by_cases c2 : T + p < k2
      · refine far n k2 (k + (s - k2)) hn c2 g3 ?_ (by omega) hs
        have := Star.add (s - k2) k g4 h2 h3
        rwa [Nat.add_comm] at this
      · obtain ⟨k3, s3, q1, q2, q3, q4, q5⟩ := hs (n - k2) (by omega) (by omega) ⟨k, s - k2, h1, h2, h3, g4, by omega⟩
        exact ⟨k3, s3 + k2, q1, q2, q3, .add s3 k2 q4 g1 g3, by omega⟩
theorem near_low {A : Nat → Bool} {T a : Nat} (hT : T ≤ 16) (ha : 1 ≤ a) (haT : a < T) (hAa : A a = true) : Near (Star (low A T)) a := by
  refine ⟨fun n h => .add n a h ha (by unfold low; rw [hAa, decide_eq_true haT]; rfl), ?_⟩
  intro n hn hx hs
  obtain ⟨k, h1, h2, h3, h4⟩ := hx.last (by omega)
  have hk : k < T := by
    unfold low at h3
    rw [Bool.and_eq_true, decide_eq_true_eq] at h3
    exact h3.2
  have := hs (n - k) (by omega) (by omega) (by rwa [show n - k + a = n + a - k by omega])
  have := Star.add (n - k) k this h1 h3
  rwa [Nat.sub_add_cancel (by omega)] at this
/-- What a small set is: T numbers, then p that come again; a is its least number above 0. -/
structure SmallSet (A : Nat → Bool) (T p a : Nat) : Prop where
  come : ∀ x, T ≤ x → A (x + p) = A x
  p1 : 1 ≤ p
  le : T + p ≤ 16
  a1 : 1 ≤ a
  at_ : A a = true
  least : ∀ k, 1 ≤ k → k < a → A k = false
theorem SmallSet.a16 {A : Nat → Bool} {T p a : Nat} (h : SmallSet A T p a) : a ≤ 16 := by
  have h1 := h.p1
  have h2 := h.le
  by_cases c : a ≤ 16
  · exact c
  · have g := h.come (a - p) (by omega)
    rw [Nat.sub_add_cancel (by omega), h.at_, h.least (a - p) (by omega) (by omega)] at g
    cases g
theorem star_down {A : Nat → Bool} {T p a n : Nat} (h : SmallSet A T p a) (hn : 272 ≤ n) (hx : Star A (n + a)) : Star A n := by
  have ha := h.a16
  have h1 := h.a1
  rcases star_split (T := T) hx with g | g
  · by_cases c : a < T
    · exact low_star (no_jump (near_low (by have := h.le; omega) h1 c h.at_) ha hn g)
    · obtain ⟨k, g1, g2, g3, _⟩ := g.last (by omega)
      unfold low at g3
      rw [Bool.and_eq_true, decide_eq_true_eq] at g3
      rw [h.least k g1 (by omega)] at g3
      cases g3.1
  · exact high_star (no_jump (near_high h.come h.p1 h.le h1 h.at_) ha hn g)
theorem star_up {A : Nat → Bool} {T p a n : Nat} (h : SmallSet A T p a) (hx : Star A n) : ∀ j, Star A (n + a * j)
  | 0 => hx
  | j + 1 => by
    rw [Nat.mul_succ, ← Nat.add_assoc]
    exact .add _ a (star_up h hx j) h.a1 h.at_
theorem star_downs {A : Nat → Bool} {T p a n : Nat} (h : SmallSet A T p a) (hn : 272 ≤ n) : ∀ j, Star A (n + a * j) → Star A n
  | 0, hx => hx
  | j + 1, hx => by
    rw [Nat.mul_succ, ← Nat.add_assoc] at hx
    exact star_downs h hn j (star_down h (by omega) hx)
/-- Some number of each stretch of a numbers is greater than n by a multiple of a. -/
theorem some_step {a : Nat} (ha : 1 ≤ a) (n N : Nat) (h : n ≤ N) : ∃ j, N ≤ n + a * j ∧ n + a * j < N + a := by
  refine ⟨(N - n + (a - 1)) / a, ?_, ?_⟩
  · have h1 := Nat.div_add_mod (N - n + (a - 1)) a
    have h2 := Nat.mod_lt (N - n + (a - 1)) (show 0 < a by omega)
    omega
  · have h1 := Nat.div_add_mod (N - n + (a - 1)) a
    omega
/-- Where all numbers from 800 to 999 are in the star, all greater ones are. -/
theorem star_all {A : Nat → Bool} {T p a n0 : Nat} (h : SmallSet A T p a) (h8 : n0 ≤ 900) (hs : ∀ m, n0 ≤ m → m < 1000 → Star A m) (m : Nat) (hm : n0 ≤ m) : Star A m := by
  have ha := h.a16
  have h1 := h.a1
  by_cases c : m < 1000
  · exact hs m hm c
  · have e1 := Nat.div_add_mod (m - 900) a
    have e2 := Nat.mod_lt (m - 900) (show 0 < a by omega)
    have := star_up h (hs (900 + (m - 900) % a) (by omega) (by omega)) ((m - 900) / a)
    rwa [show 900 + (m - 900) % a + a * ((m - 900) / a) = m by omega] at this
end Go.Proofs.Ytjfmcbkclmoioaa.Pure
