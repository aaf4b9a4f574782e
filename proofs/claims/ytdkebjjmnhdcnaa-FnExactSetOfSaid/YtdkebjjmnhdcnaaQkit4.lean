/- Lists of numbers: what the laws' copying and comparing come to. -/
import Derived.Test.YtdkebjjmnhdcnaaQ0
import Derived.Test.YtdkebjjmnhdcnaaG28
import Derived.Test.YtdkebjjmnhdcnaaG30
namespace Go.Proofs.Ytdkebjjmnhdcnaa.Pure
open Go.RowKit Go.Proofs.Ytdkebjjmnhdcnaa.G Go.Proofs.YtdkebjjmnhdcnaaW.PrintWords Go.Proofs.YtdkebjjmnhdcnaaW.PrintLast

theorem rd_get {l : List Int} {i : Nat} (h : i < l.length) : rd l (i : Int) = l[i] := by
  rw [rd_nat, List.getD_eq_getElem?_getD, List.getElem?_eq_getElem h, Option.getD_some]
theorem take_set_next {α : Type} {x y : List α} {i : Nat} (hx : i < x.length) (hy : i < y.length) (h : y.take i = x.take i) : (y.set i x[i]).take (i + 1) = x.take (i + 1) := by
  rw [List.take_succ_eq_append_getElem (by rw [List.length_set]; exact hy), List.take_succ_eq_append_getElem hx, List.getElem_set_self, List.take_set_of_le (Nat.le_refl _), h]
theorem toIntS_l0 (x : List Int) (hm : x.length ≤ 9223372036854775806) (d : Nat) : ∀ (i : Nat) (y : List Int), x.length - i = d → i ≤ x.length → y.length = x.length → y.take i = x.take i → Ev (fun k => laws_toIntS.l0 k x y (i : Int)) x := by
  induction d with
  | zero =>
    intro i y hd hi hl ht
    rw [ev_step (fun k => by rw [laws_toIntS.l0]), ev_neg (by omega), ev_some]
    rwa [List.take_of_length_le (by omega), List.take_of_length_le (by omega)] at ht
  | succ d ih =>
    intro i y hd hi hl ht
    rw [ev_step (fun k => by rw [laws_toIntS.l0]), ev_pos (by omega), ev_pos (by omega), ev_pos (by omega), wrap_in _ (by omega), Int.toNat_natCast, rd_get (by omega)]
    exact ih (i + 1) _ (by omega) (by omega) (by rw [List.length_set]; exact hl) (take_set_next (by omega) (by omega) ht)
theorem toIntS_ev (x : List Int) (hm : x.length ≤ 35184372088832) : Ev (fun k => laws_toIntS.f k x) x := by
  simp only [laws_toIntS.f]
  rw [ev_pos (by omega), ev_pos (by omega)]
  exact toIntS_l0 x (by omega) x.length 0 _ (by omega) (by omega) (by simp) (by simp)
theorem drop_eq_iff {x y : List Int} {i : Nat} (hx : i < x.length) (hy : i < y.length) : (x.drop i = y.drop i) ↔ (x[i] = y[i] ∧ x.drop (i + 1) = y.drop (i + 1)) := by
  rw [List.drop_eq_getElem_cons hx, List.drop_eq_getElem_cons hy, List.cons.injEq]
theorem eqIntS_l0 (x y : List Int) (hm : x.length ≤ 9223372036854775806) (hl : x.length = y.length) (d : Nat) : ∀ (i : Nat), x.length - i = d → i ≤ x.length → Ev (fun k => laws_eqIntS.l0 k x y (i : Int)) (decide (x.drop i = y.drop i)) := by
  induction d with
  | zero =>
    intro i hd hi
    rw [ev_step (fun k => by rw [laws_eqIntS.l0]), ev_neg (by omega), ev_some, List.drop_of_length_le (by omega), List.drop_of_length_le (by omega)]
    simp
  | succ d ih =>
    intro i hd hi
    rw [ev_step (fun k => by rw [laws_eqIntS.l0]), ev_pos (by omega), ev_pos (by omega), ev_pos (by omega), wrap_in _ (by omega), rd_get (by omega), rd_get (by omega)]
    have he := drop_eq_iff (x := x) (y := y) (i := i) (by omega) (by omega)
    by_cases h : x[i] = y[i]
    · rw [ev_pos h]
      have := ih (i + 1) (by omega) (by omega)
      rwa [show decide (x.drop i = y.drop i) = decide (x.drop (i + 1) = y.drop (i + 1)) from decide_eq_decide.2 (by rw [he]; simp [h])]
    · rw [ev_neg h, ev_some, eq_comm, decide_eq_false_iff_not, he]
      exact fun h2 => h h2.1
theorem eqIntS_ev (x y : List Int) (hm : x.length ≤ 9223372036854775806) : Ev (fun k => laws_eqIntS.f k x y) (decide (x = y)) := by
  simp only [laws_eqIntS.f]
  by_cases h : x.length = y.length
  · rw [ev_pos (by omega)]
    exact eqIntS_l0 x y hm h x.length 0 (by omega) (by omega)
  · rw [ev_neg (by omega), ev_some, eq_comm, decide_eq_false_iff_not]
    exact fun e => h (by rw [e])
theorem eqIntS_self (x : List Int) (hm : x.length ≤ 9223372036854775806) : Ev (fun k => laws_eqIntS.f k x x) true := by
  have := eqIntS_ev x x hm
  simpa using this
end Go.Proofs.Ytdkebjjmnhdcnaa.Pure
