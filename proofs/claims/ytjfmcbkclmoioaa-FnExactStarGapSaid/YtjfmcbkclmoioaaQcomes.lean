/- What comes round: numbers of a set from its tail's end on. -/
import Derived.Test.YtjfmcbkclmoioaaQset2
namespace Go.Proofs.Ytjfmcbkclmoioaa.Pure
open Go.RowKit

/-- From M on f comes round after n. -/
def Comes (f : Nat → Bool) (M n : Nat) : Prop := ∀ x, M ≤ x → f (x + n) = f x
theorem Comes.mul {f : Nat → Bool} {M n : Nat} (h : Comes f M n) : ∀ k, Comes f M (n * k)
  | 0 => fun x _ => by rw [Nat.mul_zero, Nat.add_zero]
  | k + 1 => fun x hx => by
    rw [Nat.mul_succ, ← Nat.add_assoc, h _ (by omega)]
    exact h.mul k x hx
theorem Comes.mod {f : Nat → Bool} {M p q : Nat} (h : Comes f M p) (g : Comes f M q) : Comes f M (p % q) := by
  intro x hx
  have e := g.mul (p / q) (x + p % q) (by omega)
  have d := Nat.mod_add_div p q
  rw [← e, Nat.add_assoc, d]
  exact h x hx
theorem Comes.gcd {f : Nat → Bool} {M : Nat} (p q : Nat) : Comes f M p → Comes f M q → Comes f M (Nat.gcd p q) := by
  induction p, q using Nat.gcd.induction with
  | H0 n =>
    intro _ h
    rw [Nat.gcd_zero_left]
    exact h
  | H1 m n hm ih =>
    intro h g
    rw [Nat.gcd_rec]
    exact ih (g.mod h) h
theorem Comes.le {f : Nat → Bool} {M L n : Nat} (h : Comes f M n) (hl : M ≤ L) : Comes f L n := fun x hx => h x (by omega)
theorem hasN_comes (t r : List Bool) : Comes (hasN t r) t.length r.length := by
  intro x hx
  unfold hasN
  rw [if_neg (by omega), if_neg (by omega), show x + r.length - t.length = (x - t.length) + r.length by omega, Nat.add_mod_right]
theorem ring_at {t r : List Bool} {i : Nat} (h : i < r.length) (K : Nat) : hasN t r (t.length + r.length * K + i) = r.getD i false := by
  unfold hasN
  rw [if_neg (by omega), show t.length + r.length * K + i - t.length = i + r.length * K by omega, Nat.add_mul_mod_self_left, Nat.mod_eq_of_lt h]
theorem tail_at {t r : List Bool} {i : Nat} (h : i < t.length) : hasN t r i = t.getD i false := by
  unfold hasN
  rw [if_pos h]
end Go.Proofs.Ytjfmcbkclmoioaa.Pure
