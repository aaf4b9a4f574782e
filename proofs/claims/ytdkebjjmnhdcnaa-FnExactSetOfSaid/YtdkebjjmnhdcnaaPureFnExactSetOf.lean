/- The law FnExactSetOf answers true for every list of numbers. It has no condition. -/
import Derived.Test.YtdkebjjmnhdcnaaQdone
import Derived.Test.YtdkebjjmnhdcnaaQkit4
import Derived.Test.YtdkebjjmnhdcnaaG28
import Derived.Test.YtdkebjjmnhdcnaaG30
import Derived.Test.YtdkebjjmnhdcnaaG31
namespace Go.Proofs.Ytdkebjjmnhdcnaa.Pure
open Go.RowKit Go.Proofs.Ytdkebjjmnhdcnaa.G Go.Proofs.YtdkebjjmnhdcnaaW.PrintWords Go.Proofs.YtdkebjjmnhdcnaaW.PrintLast
set_option linter.unusedVariables false

def hasI (l : List Int) (x : Int) : Bool := l.any (fun y => x == y)
theorem indexI_l0 (l : List Int) (x : Int) (hl : l.length ≤ 1048576) (d : Nat) : ∀ (i : Nat), l.length - i = d → i ≤ l.length → ∃ v, Ev (fun k => slices_Index_int_int.l0 k l x (l.length : Int) (i : Int)) v ∧ decide (v ≥ 0) = hasI (l.drop i) x := by
  induction d with
  | zero =>
    intro i hd hi
    refine ⟨-1, ?_, ?_⟩
    · rw [ev_step (fun k => by rw [slices_Index_int_int.l0]), ev_neg (by omega), ev_some]
    · rw [List.drop_of_length_le (by omega)]
      rfl
  | succ d ih =>
    intro i hd hi
    have hi2 : i < l.length := by omega
    rw [List.drop_eq_getElem_cons hi2]
    by_cases c : x = l[i]
    · refine ⟨(i : Int), ?_, ?_⟩
      · rw [ev_step (fun k => by rw [slices_Index_int_int.l0]), ev_pos (by omega), ev_pos (by omega), ev_pos (by omega), ev_pos (by rw [rd_get hi2]; exact c), ev_some]
      · rw [decide_eq_true (by omega)]
        unfold hasI
        rw [List.any_cons, ← c, beq_self_eq_true]
        rfl
    · obtain ⟨v, e, f⟩ := ih (i + 1) (by omega) (by omega)
      refine ⟨v, ?_, ?_⟩
      · rw [ev_step (fun k => by rw [slices_Index_int_int.l0]), ev_pos (by omega), ev_pos (by omega), ev_pos (by omega), ev_neg (by rw [rd_get hi2]; exact c), wrap_in _ (by omega)]
        exact e
      · rw [f]
        unfold hasI
        rw [List.any_cons, beq_eq_false_iff_ne.2 c]
        rfl
theorem containsI_ev (l : List Int) (x : Int) (hl : l.length ≤ 1048576) : Ev (fun k => slices_Contains_int_int.f k l x) (hasI l x) := by
  obtain ⟨v, e, f⟩ := indexI_l0 l x hl l.length 0 (by omega) (by omega)
  simp only [slices_Contains_int_int.f, slices_Index_int_int.f]
  rw [List.drop_zero] at f
  rw [← f]
  have e0 : Ev (fun k => slices_Index_int_int.l0 k l x (l.length : Int) 0) v := e
  rw [ev_bind e0, ev_some]
/-- Some number of rounds is enough for all of them. -/
theorem ev_all {g : Nat → Nat → Option Bool} {f : Nat → Bool} (h : ∀ x, Ev (g x) (f x)) : ∀ n, ∃ K, ∀ x, x < n → ∀ k, K ≤ k → g x k = some (f x)
  | 0 => ⟨0, fun x hx => by omega⟩
  | n + 1 => by
    obtain ⟨K, hK⟩ := ev_all h n
    obtain ⟨L, hL⟩ := h n
    refine ⟨max K L, fun x hx k hk => ?_⟩
    by_cases e : x = n
    · rw [e]
      exact hL k (by omega)
    · exact hK x (by omega) k (by omega)
theorem madeI_ev (l : List Int) (hl : l.length ≤ 1048576) : Ev (fun k => impl_made.f (fun x => slices_Contains_int_int.f k l x) k 60 1 0) (doneB (asksL (fun x => hasI l (x : Int)) 0 60) (asksL (fun x => hasI l (x : Int)) 60 1)) := by
  obtain ⟨K, hK⟩ := ev_all (g := fun x k => slices_Contains_int_int.f k l (x : Int)) (f := fun x => hasI l (x : Int)) (fun x => containsI_ev l x hl) 61
  obtain ⟨L, hL⟩ := made_ev (fun x => slices_Contains_int_int.f K l x) (fun x => hasI l (x : Int)) 60 1 (by omega) (by omega) (by omega) (fun x hx => hK x (by omega) K (Nat.le_refl _))
  refine ⟨max K L, fun k hk => ?_⟩
  have h1 := hL k (by omega)
  have h2 := (so_made_p (fun x => slices_Contains_int_int.f K l x) (fun x => slices_Contains_int_int.f k l x) (fun x r hr => at_rounds (fun j => slices_Contains_int_int.mono l x j) (show K ≤ k by omega) hr) k).1
  simp only [impl_made.f] at h1 ⊢
  exact h2 _ _ _ _ _ _ h1
theorem setOf_l0 (l : List Int) (hl : l.length ≤ 1048576) (R : ByteArray × Bool)
    (hy : l.any so_out = false → ∀ m : List Bool, m.length = 60 → (∀ i, i < 60 → m.getD i false = hasI l (i : Int)) → Ev (fun k => (spec_l1Done.f k m [false]).bind fun b => some (b.1, b.2)) R) (hn : l.any so_out = true → R = (⟨#[]⟩, false)) (d : Nat) :
    ∀ (j : Nat) (m : List Bool), l.length - j = d → j ≤ l.length → m.length = 60 → (∀ i, i < 60 → m.getD i false = hasI (l.take j) (i : Int)) → (l.take j).any so_out = false → Ev (fun k => spec_SetOf.l0 k l m (j : Int)) R := by
  induction d with
  | zero =>
    intro j m hd hj hm hv ha
    rw [List.take_of_length_le (by omega)] at hv ha
    rw [ev_step (fun k => by rw [spec_SetOf.l0]), ev_neg (by omega)]
    exact hy ha m hm hv
  | succ d ih =>
    intro j m hd hj hm hv ha
    have hj2 : j < l.length := by omega
    have e6 : spec_l6In.f (rd l (j : Int)) 0 59 = some (decide (0 ≤ rd l (j : Int) ∧ rd l (j : Int) ≤ 59)) := ite_bool
    have htk : l.take (j + 1) = l.take j ++ [l[j]] := List.take_succ_eq_append_getElem hj2
    rw [ev_step (fun k => by rw [spec_SetOf.l0]), ev_pos (by omega), ev_pos (by omega), ev_bind0 e6, rd_get hj2, wrap_in _ (by omega)]
    by_cases c : 0 ≤ l[j] ∧ l[j] ≤ 59
    · obtain ⟨x, hx⟩ := Int.eq_ofNat_of_zero_le c.1
      have hx2 : x < 60 := by omega
      rw [ev_pos (by simpa using c), ev_pos c.1, ev_pos (by omega), hx, Int.toNat_natCast]
      refine ih (j + 1) (m.set x true) (by omega) (by omega) (by rw [List.length_set]; exact hm) (fun i hi => ?_) ?_
      · rw [htk, List.getD_eq_getElem?_getD, List.getElem?_set]
        unfold hasI
        rw [List.any_append]
        by_cases e : x = i
        · subst e
          rw [if_pos rfl, if_pos (by omega), hx]
          simp
        · rw [if_neg e, ← List.getD_eq_getElem?_getD, hv i hi]
          unfold hasI
          rw [List.any_cons, List.any_nil, hx, beq_eq_false_iff_ne.2 (by omega)]
          simp
      · rw [htk, List.any_append, ha, List.any_cons, List.any_nil]
        unfold so_out
        rw [decide_eq_true c.1, decide_eq_true c.2]
        rfl
    · have hb : l.any so_out = true := by
        refine List.any_eq_true.2 ⟨l[j], List.getElem_mem hj2, ?_⟩
        unfold so_out
        rw [Bool.not_eq_true', Bool.and_eq_false_iff, decide_eq_false_iff_not, decide_eq_false_iff_not]
        omega
      rw [ev_neg (by simpa using c), ev_some, hn hb]
theorem FnExactSetOf : laws_FnExactSetOf.Pure := by
  intro l hm hb hw
  refine Ev.rounds ?_
  simp only [laws_FnExactSetOf.f]
  by_cases c : (l.length : Int) > 1048576
  · rw [ev_pos c, ev_some]
  have hl : l.length ≤ 1048576 := by omega
  have e1 := toIntS_ev l (by omega)
  have key : ∃ v, Ev (fun k => spec_SetOf.f k l) v ∧ Ev (fun k => impl_SetOf.f k l) v := by
    simp only [spec_SetOf.f, impl_SetOf.f]
    have start : ∀ i, i < 60 → (List.replicate 60 false).getD i false = hasI (l.take 0) (i : Int) := by
      intro i hi
      rw [List.getD_eq_getElem?_getD, List.getElem?_replicate, if_pos hi]
      rfl
    cases ha : l.any so_out with
    | true =>
      refine ⟨(⟨#[]⟩, false), ?_, ?_⟩
      · rw [ev_pos (by omega)]
        exact setOf_l0 l hl _ (fun z => by rw [ha] at z; cases z) (fun _ => rfl) l.length 0 _ (by omega) (by omega) (by simp) start rfl
      · rw [ev_pos rfl, ev_some]
    | false =>
      have last : asksL (fun x => hasI l (x : Int)) 60 1 = [false] := by
        refine ext_getD (asksL_length _ _ _) (fun i hi => ?_)
        rw [asksL_length] at hi
        obtain rfl : i = 0 := by omega
        rw [asksL_get hi]
        show hasI l ((60 + 0 : Nat) : Int) = false
        unfold hasI
        rw [List.any_eq_false]
        intro y hy
        have := List.any_eq_false.1 ha y hy
        unfold so_out at this
        simp at this
        simp
        omega
      have m := madeI_ev l hl
      rw [last] at m
      refine ⟨doneB (asksL (fun x => hasI l (x : Int)) 0 60) [false], ?_, ?_⟩
      · rw [ev_pos (by omega)]
        refine setOf_l0 l hl _ (fun _ m hm hv => ?_) (fun z => by rw [ha] at z; cases z) l.length 0 _ (by omega) (by omega) (by simp) start rfl
        have hq : m = asksL (fun x => hasI l (x : Int)) 0 60 := ext_getD (by rw [asksL_length]; exact hm) (fun i hi => by
          rw [hm] at hi
          rw [hv i hi, asksL_get hi, Nat.zero_add])
        rw [← hq, ev_bind (spec_done_ev m [false] (by omega) (by simp) (by simp)), ev_some]
      · rw [ev_neg (by decide)]
        exact m
  obtain ⟨v, e2, e3⟩ := key
  rw [ev_neg c, ev_bind e1, ev_bind e2, ev_bind e1, ev_bind e3, ev_pos rfl, ev_step (fun k => by rw [laws_FnExactSetOf.j0]), ev_neg (by simp), ev_bind e1, ev_bind (eqIntS_self l (by omega)), ev_pos rfl, ev_some]
end Go.Proofs.Ytdkebjjmnhdcnaa.Pure
