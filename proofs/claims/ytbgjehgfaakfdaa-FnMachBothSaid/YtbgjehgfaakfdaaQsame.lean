/- The laws' comparison of two lists of numbers. -/
import Derived.Test.YtbgjehgfaakfdaaQkit3
import Derived.Test.YtbgjehgfaakfdaaG11
namespace Go.Proofs.Ytbgjehgfaakfdaa.Pure
open Go.RowKit Go.Proofs.Ytbgjehgfaakfdaa.G Go.Proofs.YtbgjehgfaakfdaaW.PrintWords Go.Proofs.YtbgjehgfaakfdaaW.PrintLast

theorem sameInts_l0 (x y : List Int) (hm : x.length ≤ 9223372036854775806) (hl : x.length = y.length) (d : Nat) : ∀ (i : Nat), x.length - i = d → i ≤ x.length → Ev (fun k => laws_sameInts.l0 k x y (i : Int)) (decide (x.drop i = y.drop i)) := by
  induction d with
  | zero =>
    intro i hd hi
    rw [ev_step (fun k => by rw [laws_sameInts.l0]), ev_neg (by omega), ev_some, List.drop_of_length_le (by omega), List.drop_of_length_le (by omega)]
    simp
  | succ d ih =>
    intro i hd hi
    rw [ev_step (fun k => by rw [laws_sameInts.l0]), ev_pos (by omega), ev_pos (by omega), ev_pos (by omega), wrap_in _ (by omega), rd_get (by omega), rd_get (by omega)]
    have he := drop_eq_iff (x := x) (y := y) (i := i) (by omega) (by omega)
    by_cases h : x[i] = y[i]
    · rw [ev_pos h]
      have := ih (i + 1) (by omega) (by omega)
      rwa [show decide (x.drop i = y.drop i) = decide (x.drop (i + 1) = y.drop (i + 1)) from decide_eq_decide.2 (by rw [he]; simp [h])]
    · rw [ev_neg h, ev_some, eq_comm, decide_eq_false_iff_not, he]
      exact fun h2 => h h2.1
theorem sameInts_ev (x y : List Int) (hm : x.length ≤ 9223372036854775806) : Ev (fun k => laws_sameInts.f k x y) (decide (x = y)) := by
  simp only [laws_sameInts.f]
  by_cases h : x.length = y.length
  · rw [ev_pos (by omega)]
    exact sameInts_l0 x y hm h x.length 0 (by omega) (by omega)
  · rw [ev_neg (by omega), ev_some, eq_comm, decide_eq_false_iff_not]
    exact fun e => h (by rw [e])
theorem sameInts_self (x : List Int) (hm : x.length ≤ 9223372036854775806) : Ev (fun k => laws_sameInts.f k x x) true := by
  have := sameInts_ev x x hm
  simpa using this
end Go.Proofs.Ytbgjehgfaakfdaa.Pure
