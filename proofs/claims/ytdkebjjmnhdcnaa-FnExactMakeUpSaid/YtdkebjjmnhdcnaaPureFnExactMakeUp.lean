/- The law FnExactMakeUp answers true for every text and number. It has no condition. -/
import Derived.Test.YtdkebjjmnhdcnaaQdone
import Derived.Test.YtdkebjjmnhdcnaaG28
import Derived.Test.YtdkebjjmnhdcnaaG32
import Derived.Test.YtdkebjjmnhdcnaaG33
import Derived.Test.YtdkebjjmnhdcnaaG34
namespace Go.Proofs.Ytdkebjjmnhdcnaa.Pure
open Go.RowKit Go.Proofs.Ytdkebjjmnhdcnaa.G Go.Proofs.YtdkebjjmnhdcnaaW.PrintWords Go.Proofs.YtdkebjjmnhdcnaaW.PrintLast
set_option linter.unusedVariables false

/-- The numbers of a set, each one k greater. -/
def upF (t r : List Bool) (k : Nat) (x : Nat) : Bool := if x < k then false else hasN t r (x - k)
theorem up_tail {t r : List Bool} (k : Nat) : asksL (upF t r k) 0 (t.length + k) = List.replicate k false ++ t := by
  refine ext_getD (by rw [asksL_length, List.length_append, List.length_replicate]; omega) (fun i hi => ?_)
  rw [asksL_length] at hi
  rw [asksL_get hi, Nat.zero_add]
  unfold upF
  rw [List.getD_eq_getElem?_getD]
  by_cases c : i < k
  · rw [if_pos c, List.getElem?_append_left (by rw [List.length_replicate]; exact c), List.getElem?_replicate, if_pos c]
    rfl
  · rw [if_neg c, List.getElem?_append_right (by rw [List.length_replicate]; omega), List.length_replicate, ← List.getD_eq_getElem?_getD, tail_at (by omega)]
theorem up_ring {t r : List Bool} (k : Nat) : asksL (upF t r k) (t.length + k) r.length = r := by
  refine ext_getD (asksL_length _ _ _) (fun i hi => ?_)
  rw [asksL_length] at hi
  rw [asksL_get hi]
  unfold upF
  rw [if_neg (by omega), show t.length + k + i - k = t.length + r.length * 0 + i by omega, ring_at hi]
theorem FnExactMakeUp : laws_FnExactMakeUp.Pure := by
  intro a n hs0 hn0
  have hw := wf_range hn0
  refine Ev.rounds ?_
  simp only [laws_FnExactMakeUp.f]
  by_cases c : (a.size : Int) > 1048576
  · rw [ev_pos c, ev_some]
  have hs : a.size ≤ 1048576 := by omega
  have in1 : spec_l6In.f n 0 60 = some (decide (0 ≤ n ∧ n ≤ 60)) := ite_bool
  have in2 : impl_in.f n 0 60 = some (decide (0 ≤ n ∧ n ≤ 60)) := ite_bool
  have key : ∃ v, Ev (fun k => spec_MakeUp.f k a n) v ∧ Ev (fun k => impl_MakeUp.f k a n) v := by
    simp only [spec_MakeUp.f, impl_MakeUp.f]
    cases hc : setC a.data.toList with
    | none =>
      obtain ⟨t, r, e⟩ := impl_none hs hc
      refine ⟨(⟨#[]⟩, false), ?_, ?_⟩
      · rw [ev_bind (spec_none hs hc), ev_neg (by simp), ev_some]
      · rw [ev_bind0 e, ev_neg (by simp), ev_some]
    | some q =>
      obtain ⟨t, r⟩ := q
      have h := setC_ok hc
      have h1 := h.t60
      have h2 := h.r1
      have h3 := h.r60
      by_cases cn : 0 ≤ n ∧ n ≤ 60
      · obtain ⟨k, rfl⟩ := Int.eq_ofNat_of_zero_le cn.1
        have w : wrap64 ((t.length : Int) + (k : Int)) = ((t.length + k : Nat) : Int) := by rw [wrap_in _ (by omega)]; omega
        have m := made_ev (fun x => impl_set_has.f t r (wrap64 (x - (k : Int)))) (upF t r k) (t.length + k) r.length (by omega) h2 (by omega) (fun x hx => by
          show impl_set_has.f t r (wrap64 ((x : Int) - (k : Int))) = _
          unfold upF
          by_cases b : x < k
          · rw [if_pos b, wrap_in _ (by omega), impl_has_neg _ _ _ (by omega)]
          · rw [if_neg b, wrap_in _ (by omega), show (x : Int) - (k : Int) = ((x - k : Nat) : Int) by omega, impl_has h (x - k) (by omega)])
        rw [up_tail, up_ring] at m
        have d := spec_done_ev (List.replicate k false ++ t) r (by simp; omega) h2 (by omega)
        refine ⟨doneB (List.replicate k false ++ t) r, ?_, ?_⟩
        · rw [ev_bind (spec_some hs hc), ev_pos rfl, ev_bind0 in1, ev_pos (by simpa using cn), ev_pos (by omega), ev_pos (by omega), Int.toNat_natCast, ev_bind0 rfl, ev_pos (by simp; omega), ev_bind d, ev_some]
        · rw [ev_bind0 (impl_some hs hc), ev_pos rfl, ev_bind0 in2, ev_pos (by simpa using cn)]
          simp only
          rw [w]
          exact m
      · refine ⟨(⟨#[]⟩, false), ?_, ?_⟩
        · rw [ev_bind (spec_some hs hc), ev_pos rfl, ev_bind0 in1, ev_neg (by simpa using cn), ev_some]
        · rw [ev_bind0 (impl_some hs hc), ev_pos rfl, ev_bind0 in2, ev_neg (by simpa using cn), ev_some]
  obtain ⟨v, e1, e2⟩ := key
  rw [ev_neg c, ev_bind e1, ev_bind e2, ev_pos rfl, ev_neg (by simp), ev_some]
end Go.Proofs.Ytdkebjjmnhdcnaa.Pure
