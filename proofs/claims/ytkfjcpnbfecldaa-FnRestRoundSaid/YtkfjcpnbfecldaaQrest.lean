/- Rests of sets: which ones are the same; the text of a tidy set tells it. -/
import Derived.Test.YtkfjcpnbfecldaaQnf
namespace Go.Proofs.Ytkfjcpnbfecldaa.Pure
open Go.RowKit
set_option linter.unusedVariables false

/-- The least number by which the rest is the same. -/
def restN (t r : List Bool) (k : Nat) : Nat := if k < t.length then k else t.length + (k - t.length) % r.length
theorem restN_le {t r : List Bool} (k : Nat) : restN t r k ≤ k := by
  unfold restN
  by_cases c : k < t.length
  · rw [if_pos c]
    exact Nat.le_refl _
  · rw [if_neg c]
    have := Nat.mod_le (k - t.length) r.length
    omega
theorem restN_lt {t r : List Bool} (h : 1 ≤ r.length) (k : Nat) : restN t r k < t.length + r.length := by
  unfold restN
  by_cases c : k < t.length
  · rw [if_pos c]
    omega
  · rw [if_neg c]
    have := Nat.mod_lt (k - t.length) (show r.length > 0 by omega)
    omega
theorem restN_self {t r : List Bool} {k : Nat} (h : k < t.length + r.length) : restN t r k = k := by
  unfold restN
  by_cases c : k < t.length
  · rw [if_pos c]
  · rw [if_neg c, Nat.mod_eq_of_lt (by omega)]
    omega
theorem restN_rest {t r : List Bool} (h : 1 ≤ r.length) (k : Nat) : restN t r (restN t r k) = restN t r k := restN_self (restN_lt h k)
theorem rest_at {t r : List Bool} (k n : Nat) : hasN t r (n + restN t r k) = hasN t r (n + k) := by
  unfold restN
  by_cases c : k < t.length
  · rw [if_pos c]
  · rw [if_neg c]
    have e := (hasN_comes t r).mul ((k - t.length) / r.length) (n + (t.length + (k - t.length) % r.length)) (by omega)
    have d := Nat.mod_add_div (k - t.length) r.length
    rw [← e]
    congr 1
    omega
theorem rest_le_iff {t r : List Bool} (h : Norm t r) {i j : Nat} (hij : i ≤ j) (e : ∀ n, hasN t r (n + i) = hasN t r (n + j)) : restN t r i = restN t r j := by
  by_cases c : i = j
  · rw [c]
  · have hc : Comes (hasN t r) i (j - i) := by
      intro x hx
      have := e (x - i)
      rw [show x - i + i = x by omega, show x - i + j = x + (j - i) by omega] at this
      exact this.symm
    have h1 := norm_front h (by omega) hc
    obtain ⟨q, hq⟩ := prim_dvd h.1 (by omega) hc
    unfold restN
    rw [if_neg (by omega), if_neg (by omega), show j - t.length = (i - t.length) + r.length * q by omega, Nat.add_mul_mod_self_left]
/-- Rests are the same if and only if their least numbers are. -/
theorem rest_iff {t r : List Bool} (h : Norm t r) (i j : Nat) : (∀ n, hasN t r (n + i) = hasN t r (n + j)) ↔ restN t r i = restN t r j := by
  constructor
  · intro e
    rcases Nat.le_total i j with c | c
    · exact rest_le_iff h c e
    · exact (rest_le_iff h c (fun n => (e n).symm)).symm
  · intro e n
    rw [← rest_at i n, e, rest_at]
/-- The signs of a rest, as they are gathered. -/
def marksL (t r : List Bool) (k : Nat) (m : Nat) : List Bool := (List.range m).map (fun n => hasN t r (n + k))
theorem marksL_length (t r : List Bool) (k m : Nat) : (marksL t r k m).length = m := by simp [marksL]
theorem marksL_succ (t r : List Bool) (k m : Nat) : marksL t r k (m + 1) = marksL t r k m ++ [hasN t r (m + k)] := by
  unfold marksL
  rw [List.range_succ, List.map_append, List.map_singleton]
theorem marksL_get {t r : List Bool} {k m i : Nat} (h : i < m) : (marksL t r k m).getD i false = hasN t r (i + k) := by
  unfold marksL
  rw [List.getD_eq_getElem?_getD, List.getElem?_map, List.getElem?_range h]
  rfl
theorem hasN_down {t r : List Bool} (h : 1 ≤ r.length) (k : Nat) (n : Nat) :
    hasN ((marksL t r k (t.length - k + r.length)).take (t.length - k)) ((marksL t r k (t.length - k + r.length)).drop (t.length - k)) n = hasN t r (n + k) := by
  have l1 : ((marksL t r k (t.length - k + r.length)).take (t.length - k)).length = t.length - k := by rw [List.length_take, marksL_length]; omega
  have l2 : ((marksL t r k (t.length - k + r.length)).drop (t.length - k)).length = r.length := by rw [List.length_drop, marksL_length]; omega
  rw [hasN, l1, l2]
  by_cases c : n < t.length - k
  · rw [if_pos c, getD_take c, marksL_get (by omega)]
  · rw [if_neg c]
    have hm := Nat.mod_lt (n - (t.length - k)) (show r.length > 0 by omega)
    have e : ((marksL t r k (t.length - k + r.length)).drop (t.length - k)).getD ((n - (t.length - k)) % r.length) false = (marksL t r k (t.length - k + r.length)).getD (t.length - k + (n - (t.length - k)) % r.length) false := by
      rw [List.getD_eq_getElem?_getD, List.getElem?_drop, List.getD_eq_getElem?_getD]
    rw [e, marksL_get (by omega)]
    have e2 := (hasN_comes t r).mul ((n - (t.length - k)) / r.length) (t.length - k + (n - (t.length - k)) % r.length + k) (by omega)
    have d := Nat.mod_add_div (n - (t.length - k)) r.length
    rw [← e2]
    congr 1
    omega
/-- The tidy form of the rest by k. -/
def downN (t r : List Bool) (k : Nat) : List Bool × List Bool := nf ((marksL t r k (t.length - k + r.length)).take (t.length - k)) ((marksL t r k (t.length - k + r.length)).drop (t.length - k))
theorem downN_ring {t r : List Bool} (h : 1 ≤ r.length) (k : Nat) : 1 ≤ ((marksL t r k (t.length - k + r.length)).drop (t.length - k)).length := by
  rw [List.length_drop, marksL_length]
  omega
theorem downN_iff {t r : List Bool} (h : 1 ≤ r.length) (i j : Nat) : downN t r i = downN t r j ↔ restN (nf t r).1 (nf t r).2 i = restN (nf t r).1 (nf t r).2 j := by
  unfold downN
  rw [nf_eq_iff (downN_ring h i) (downN_ring h j), ← rest_iff (norm_nf h)]
  constructor
  · intro e n
    have := e n
    rw [hasN_down h, hasN_down h] at this
    rw [hasN_nf h, hasN_nf h]
    exact this
  · intro e n
    rw [hasN_down h, hasN_down h]
    have := e n
    rw [hasN_nf h, hasN_nf h] at this
    exact this
end Go.Proofs.Ytkfjcpnbfecldaa.Pure
