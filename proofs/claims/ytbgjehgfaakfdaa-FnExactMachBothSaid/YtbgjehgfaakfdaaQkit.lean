/- What the laws' own helpers over lists of numbers come to. -/
import Derived.Test.YtbgjehgfaakfdaaQ0
import Derived.Test.YtbgjehgfaakfdaaG4
import Derived.Test.YtbgjehgfaakfdaaG6
namespace Go.Proofs.Ytbgjehgfaakfdaa.Pure
open Go.RowKit Go.Proofs.Ytbgjehgfaakfdaa.G Go.Proofs.YtbgjehgfaakfdaaW.PrintWords Go.Proofs.YtbgjehgfaakfdaaW.PrintLast

theorem rd_get {l : List Int} {i : Nat} (h : i < l.length) : rd l (i : Int) = l[i] := by
  rw [rd_nat, List.getD_eq_getElem?_getD, List.getElem?_eq_getElem h, Option.getD_some]
theorem take_set_next {α : Type} {x y : List α} {i : Nat} (hx : i < x.length) (hy : i < y.length) (h : y.take i = x.take i) : (y.set i x[i]).take (i + 1) = x.take (i + 1) := by
  rw [List.take_succ_eq_append_getElem (by rw [List.length_set]; exact hy), List.take_succ_eq_append_getElem hx, List.getElem_set_self, List.take_set_of_le (Nat.le_refl _), h]
theorem toIntS_l0 (x : List Int) (hm : x.length ≤ 9223372036854775806) (d : Nat) : ∀ (i : Nat) (y : List Int), x.length - i = d → i ≤ x.length → y.length = x.length → y.take i = x.take i → Ev (fun k => laws_toIntS.l0 k x y (i : Int)) x := by
  induction d with
  | zero =>
    intro i y hd hi hl ht
    rw [ev_step (fun k => by rw [laws_toIntS.l0]), ev_neg (by omega), ev_some]
    rwa [List.take_of_length_le (by omega), List.take_of_length_le (by omega)] at ht
  | succ d ih =>
    intro i y hd hi hl ht
    rw [ev_step (fun k => by rw [laws_toIntS.l0]), ev_pos (by omega), ev_pos (by omega), ev_pos (by omega), wrap_in _ (by omega), Int.toNat_natCast, rd_get (by omega)]
    exact ih (i + 1) _ (by omega) (by omega) (by rw [List.length_set]; exact hl) (take_set_next (by omega) (by omega) ht)
theorem toIntS_ev (x : List Int) (hm : x.length ≤ 35184372088832) : Ev (fun k => laws_toIntS.f k x) x := by
  simp only [laws_toIntS.f]
  rw [ev_pos (by omega), ev_pos (by omega)]
  exact toIntS_l0 x (by omega) x.length 0 _ (by omega) (by omega) (by simp) (by simp)
theorem drop_eq_iff {x y : List Int} {i : Nat} (hx : i < x.length) (hy : i < y.length) : (x.drop i = y.drop i) ↔ (x[i] = y[i] ∧ x.drop (i + 1) = y.drop (i + 1)) := by
  rw [List.drop_eq_getElem_cons hx, List.drop_eq_getElem_cons hy, List.cons.injEq]
theorem eqIntS_l0 (x y : List Int) (hm : x.length ≤ 9223372036854775806) (hl : x.length = y.length) (d : Nat) : ∀ (i : Nat), x.length - i = d → i ≤ x.length → Ev (fun k => laws_eqIntS.l0 k x y (i : Int)) (decide (x.drop i = y.drop i)) := by
  induction d with
  | zero =>
    intro i hd hi
    rw [ev_step (fun k => by rw [laws_eqIntS.l0]), ev_neg (by omega), ev_some, List.drop_of_length_le (by omega), List.drop_of_length_le (by omega)]
    simp
  | succ d ih =>
    intro i hd hi
    rw [ev_step (fun k => by rw [laws_eqIntS.l0]), ev_pos (by omega), ev_pos (by omega), ev_pos (by omega), wrap_in _ (by omega), rd_get (by omega), rd_get (by omega)]
    have he := drop_eq_iff (x := x) (y := y) (i := i) (by omega) (by omega)
    by_cases h : x[i] = y[i]
    · rw [ev_pos h]
      have := ih (i + 1) (by omega) (by omega)
      rwa [show decide (x.drop i = y.drop i) = decide (x.drop (i + 1) = y.drop (i + 1)) from decide_eq_decide.2 (by rw [he]; simp [h])]
    · rw [ev_neg h, ev_some, eq_comm, decide_eq_false_iff_not, he]
      exact fun h2 => h h2.1
theorem eqIntS_ev (x y : List Int) (hm : x.length ≤ 9223372036854775806) : Ev (fun k => laws_eqIntS.f k x y) (decide (x = y)) := by
  simp only [laws_eqIntS.f]
  by_cases h : x.length = y.length
  · rw [ev_pos (by omega)]
    exact eqIntS_l0 x y hm h x.length 0 (by omega) (by omega)
  · rw [ev_neg (by omega), ev_some, eq_comm, decide_eq_false_iff_not]
    exact fun e => h (by rw [e])
/-- The numbers k, k + 1, .., n in all. -/
def ups (k : Int) : Nat → List Int
  | 0 => []
  | n + 1 => k :: ups (k + 1) n
theorem ups_length (n : Nat) : ∀ k, (ups k n).length = n := by
  induction n with
  | zero => intro k; rfl
  | succ n ih => intro k; simp [ups, ih]
theorem ups_get (n : Nat) : ∀ (k : Int) (i : Nat) (h : i < (ups k n).length), (ups k n)[i] = k + i := by
  induction n with
  | zero => intro k i h; simp [ups] at h
  | succ n ih =>
    intro k i h
    cases i with
    | zero => simp [ups]
    | succ i => simp [ups, ih]; omega
theorem mark_l0 (x : List Int) (k0 : Int) (h0 : 0 ≤ k0) (hm : k0 + x.length ≤ 9223372036854775806) (d : Nat) : ∀ (i : Nat) (y : List Int), x.length - i = d → i ≤ x.length → y.length = x.length → y.take i = (ups k0 x.length).take i →
    Ev (fun k => laws_markIntS.l0 k y (k0 + i) (i : Int)) (k0 + x.length, ups k0 x.length) := by
  induction d with
  | zero =>
    intro i y hd hi hl ht
    rw [ev_step (fun k => by rw [laws_markIntS.l0]), ev_neg (by omega), ev_some]
    rw [List.take_of_length_le (by omega), List.take_of_length_le (by rw [ups_length]; omega)] at ht
    rw [ht, show i = x.length by omega]
  | succ d ih =>
    intro i y hd hi hl ht
    rw [ev_step (fun k => by rw [laws_markIntS.l0]), ev_pos (by omega), ev_pos (by omega), wrap_in (k0 + i + 1) (by omega), wrap_in (i + 1) (by omega), Int.toNat_natCast]
    have := ih (i + 1) (y.set i (k0 + i)) (by omega) (by omega) (by rw [List.length_set]; exact hl) (by
      have h := take_set_next (x := ups k0 x.length) (y := y) (i := i) (by rw [ups_length]; omega) (by omega) ht
      rwa [ups_get] at h)
    rwa [show k0 + ((i + 1 : Nat) : Int) = k0 + i + 1 by omega] at this
theorem mark_ev (x : List Int) (k0 : Int) (h0 : 0 ≤ k0) (hm : k0 + x.length ≤ 9223372036854775806) : Ev (fun k => laws_markIntS.f k x k0) (k0 + x.length, ups k0 x.length) := by
  simp only [laws_markIntS.f]
  have := mark_l0 x k0 h0 hm x.length 0 x (by omega) (by omega) rfl (by simp)
  simpa using this
theorem held_l0 (n : Nat) (k0 : Int) (h0 : 0 ≤ k0) (hm : k0 + n ≤ 9223372036854775806) (d : Nat) : ∀ (i : Nat), n - i = d → i ≤ n → Ev (fun k => laws_heldIntS.l0 k (ups k0 n) (k0 + i) (i : Int)) (k0 + n) := by
  induction d with
  | zero =>
    intro i hd hi
    rw [ev_step (fun k => by rw [laws_heldIntS.l0]), ups_length, ev_neg (by omega), ev_some]
    omega
  | succ d ih =>
    intro i hd hi
    rw [ev_step (fun k => by rw [laws_heldIntS.l0]), ups_length, ev_pos (by omega), ev_pos (by omega), ev_pos (by rw [rd_get (by rw [ups_length]; omega), ups_get]), wrap_in (k0 + i + 1) (by omega), wrap_in (i + 1) (by omega)]
    have := ih (i + 1) (by omega) (by omega)
    rwa [show k0 + ((i + 1 : Nat) : Int) = k0 + i + 1 by omega] at this
theorem held_ev (n : Nat) (k0 : Int) (h0 : 0 ≤ k0) (hm : k0 + n ≤ 9223372036854775806) : Ev (fun k => laws_heldIntS.f k (ups k0 n) k0) (k0 + n) := by
  simp only [laws_heldIntS.f]
  have := held_l0 n k0 h0 hm n 0 (by omega) (by omega)
  simpa using this
theorem eqIntS_self (x : List Int) (hm : x.length ≤ 9223372036854775806) : Ev (fun k => laws_eqIntS.f k x x) true := by
  have := eqIntS_ev x x hm
  simpa using this
end Go.Proofs.Ytbgjehgfaakfdaa.Pure
