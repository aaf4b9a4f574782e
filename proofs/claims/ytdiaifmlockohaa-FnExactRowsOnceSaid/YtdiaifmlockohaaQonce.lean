/- Whether rows have each number just once: what the program and the reference say. -/
import Derived.Test.YtdiaifmlockohaaQcov2
import Derived.Test.YtdiaifmlockohaaQsimp3
import Derived.Test.YtdiaifmlockohaaG11
import Derived.Test.YtdiaifmlockohaaG13
namespace Go.Proofs.Ytdiaifmlockohaa.Pure
open Go.RowKit Go.Proofs.Ytdiaifmlockohaa.G Go.Proofs.YtdiaifmlockohaaW.PrintWords Go.Proofs.YtdiaifmlockohaaW.PrintLast

/-- How many rows that go on and on have n. -/
def cntR (l : List (List Int)) (n : Int) : Nat := ((keep (l.map rowOf)).filter (fun x => hitB x n)).length
theorem has_ev {r : List Int} (h : RowOk r) {n : Int} (h1 : 60 ≤ n) (h2 : n ≤ 2000000) : spec_l3Has.f r n = some (decide (rd r 1 ≠ 0) && hitB (rowOf r) n) := by
  obtain ⟨g0, ⟨g1, g2⟩, g3, g4⟩ := h
  unfold spec_l3Has.f
  rw [if_pos (by omega)]
  by_cases c : rd r 1 = 0
  · rw [if_pos c, if_pos (by omega), decide_eq_false (by simpa using c), beq_eq_false_iff_ne.2 (by omega)]
    rfl
  · rw [if_neg c, if_pos (by omega), if_pos (by omega), decide_eq_true c, Bool.true_and, wrap_in _ (by omega)]
    congr 1
    unfold hitB rowOf
    rw [Bool.eq_iff_iff, beq_iff_eq, decide_eq_true_eq, Int.dvd_iff_tmod_eq_zero]
theorem cntR_cons (r : List Int) (l : List (List Int)) (n : Int) : cntR (r :: l) n = (if (decide (rd r 1 ≠ 0) && hitB (rowOf r) n) = true then 1 else 0) + cntR l n := by
  unfold cntR keep
  rw [List.map_cons]
  by_cases c : rd r 1 = 0
  · rw [List.filter_cons_of_neg (by show ¬ (rd r 1 != 0) = true; rw [c]; decide), if_neg (by simp [c]), Nat.zero_add]
  · rw [List.filter_cons_of_pos (by show (rd r 1 != 0) = true; exact bne_iff_ne.2 c)]
    by_cases k : hitB (rowOf r) n = true
    · rw [List.filter_cons_of_pos (p := fun x => hitB x n) k, if_pos (by simp [c, k]), List.length_cons]
      omega
    · rw [List.filter_cons_of_neg (p := fun x => hitB x n) k, if_neg (by simp [k]), Nat.zero_add]
theorem many_l0 (l : List (List Int)) (hk : rowsOk l = true) (hm : l.length ≤ 1048576) (n : Int) (h1 : 60 ≤ n) (h2 : n ≤ 2000000) (d : Nat) : ∀ (i acc : Nat), l.length - i = d → i ≤ l.length → acc ≤ i →
    Ev (fun k => spec_l3Many.l0 k l n (acc : Int) (i : Int)) ((acc + cntR (l.drop i) n : Nat) : Int) := by
  induction d with
  | zero =>
    intro i acc hd hi ha
    have e : l.drop i = [] := List.drop_of_length_le (by omega)
    rw [ev_step (fun k => by rw [spec_l3Many.l0]), ev_neg (by omega), ev_some, e]
    rfl
  | succ d ih =>
    intro i acc hd hi ha
    have hi2 : i < l.length := by omega
    have ed : l.drop i = l[i] :: l.drop (i + 1) := List.drop_eq_getElem_cons hi2
    have w1 : wrap64 ((i : Int) + 1) = ((i + 1 : Nat) : Int) := by rw [wrap_in _ (by omega)]; omega
    have w2 : wrap64 ((acc : Int) + 1) = ((acc + 1 : Nat) : Int) := by rw [wrap_in _ (by omega)]; omega
    rw [ev_step (fun k => by rw [spec_l3Many.l0]), ev_pos (by omega), ev_pos (by omega), rd_L1_get hi2, ev_bind0 (has_ev (rowOk_get hk hi2) h1 h2), w1, w2, ed, cntR_cons]
    by_cases c : (decide (rd l[i] 1 ≠ 0) && hitB (rowOf l[i]) n) = true
    · rw [ev_pos c, if_pos c, ← Nat.add_assoc]
      exact ih (i + 1) (acc + 1) (by omega) (by omega) (by omega)
    · rw [ev_neg c, if_neg c, Nat.zero_add]
      exact ih (i + 1) acc (by omega) (by omega) (by omega)
theorem many_ev (l : List (List Int)) (hk : rowsOk l = true) (hm : l.length ≤ 1048576) (n : Int) (h1 : 60 ≤ n) (h2 : n ≤ 2000000) : Ev (fun k => spec_l3Many.f k l n) ((cntR l n : Nat) : Int) := by
  simp only [spec_l3Many.f]
  have := many_l0 l hk hm n h1 h2 l.length 0 0 (by omega) (by omega) (by omega)
  rwa [List.drop_zero, Nat.zero_add] at this
def foldC (l : List (List Int)) : Nat → Nat → Int → Int → Int × Int
  | 0, _, a, b => (a, b)
  | d + 1, i, a, b => foldC l d (i + 1) (mn a (cntR l ((60 + i : Nat) : Int) : Int)) (mx b (cntR l ((60 + i : Nat) : Int) : Int))
theorem fold_ev (l : List (List Int)) (hk : rowsOk l = true) (hm : l.length ≤ 1048576) (low : Nat) (hl : low ≤ 1000000) (d : Nat) : ∀ (i : Nat) (a b : Int), low - i = d → i ≤ low →
    Ev (fun k => spec_l3Covers.l0 k l (low : Int) a b ((60 + i : Nat) : Int)) (foldC l d i a b) := by
  induction d with
  | zero =>
    intro i a b hd hi
    rw [ev_step (fun k => by rw [spec_l3Covers.l0]), ev_neg (by rw [wrap_in _ (by omega)]; omega), ev_some, foldC]
  | succ d ih =>
    intro i a b hd hi
    have w1 : wrap64 (((60 + i : Nat) : Int) + 1) = ((60 + (i + 1) : Nat) : Int) := by rw [wrap_in _ (by omega)]; omega
    rw [ev_step (fun k => by rw [spec_l3Covers.l0]), ev_pos (by rw [wrap_in _ (by omega)]; omega), ev_bind (many_ev l hk hm _ (by omega) (by omega)), w1, foldC]
    exact ih (i + 1) _ _ (by omega) (by omega)
theorem fold_le (l : List (List Int)) : ∀ (d i : Nat) (a b : Int), (foldC l d i a b).1 ≤ a ∧ b ≤ (foldC l d i a b).2 ∧ ∀ j, j < d → (foldC l d i a b).1 ≤ (cntR l ((60 + (i + j) : Nat) : Int) : Int) ∧ (cntR l ((60 + (i + j) : Nat) : Int) : Int) ≤ (foldC l d i a b).2
  | 0, i, a, b => ⟨Int.le_refl _, Int.le_refl _, fun j h => by omega⟩
  | d + 1, i, a, b => by
    obtain ⟨h1, h2, h3⟩ := fold_le l d (i + 1) (mn a (cntR l ((60 + i : Nat) : Int) : Int)) (mx b (cntR l ((60 + i : Nat) : Int) : Int))
    rw [foldC]
    have m1 : mn a (cntR l ((60 + i : Nat) : Int) : Int) ≤ a ∧ mn a (cntR l ((60 + i : Nat) : Int) : Int) ≤ (cntR l ((60 + i : Nat) : Int) : Int) := by unfold mn; split <;> omega
    have m2 : b ≤ mx b (cntR l ((60 + i : Nat) : Int) : Int) ∧ (cntR l ((60 + i : Nat) : Int) : Int) ≤ mx b (cntR l ((60 + i : Nat) : Int) : Int) := by unfold mx; split <;> omega
    refine ⟨by omega, by omega, fun j hj => ?_⟩
    by_cases c : j = 0
    · subst c
      simp only [Nat.add_zero]
      omega
    · have := h3 (j - 1) (by omega)
      rwa [show i + 1 + (j - 1) = i + j by omega] at this
theorem fold_one (l : List (List Int)) : ∀ (d i : Nat) (a b : Int), 1 ≤ a → 0 ≤ b → b ≤ 1 → (∀ j, j < d → cntR l ((60 + (i + j) : Nat) : Int) = 1) → foldC l d i a b = if d = 0 then (a, b) else (1, 1)
  | 0, i, a, b, _, _, _, _ => rfl
  | d + 1, i, a, b, h1, h2, h3, h => by
    have h0 := h 0 (by omega)
    rw [Nat.add_zero] at h0
    have m1 : mn a ((1 : Nat) : Int) = 1 := by unfold mn; split <;> omega
    have m2 : mx b ((1 : Nat) : Int) = 1 := by unfold mx; split <;> omega
    rw [foldC, h0, m1, m2, fold_one l d (i + 1) 1 1 (by omega) (by omega) (by omega) (fun j hj => by
      have := h (j + 1) (by omega)
      rwa [show i + (j + 1) = i + 1 + j by omega] at this)]
    split <;> rfl
/-- What the reference says. -/
def specO (l : List (List Int)) : Bool := rowsIn l && match mulL (stepsL l) 1 with | none => false | some low => decide (low ≤ 60000) && (List.range low).all fun i => cntR l ((60 + i : Nat) : Int) == 1
theorem cntR_le (l : List (List Int)) (n : Int) : cntR l n ≤ l.length := by
  unfold cntR keep
  refine Nat.le_trans (List.length_filter_le _ _) (Nat.le_trans (List.length_filter_le _ _) ?_)
  rw [List.length_map]
  exact Nat.le_refl _
theorem spec_once_ev (l : List (List Int)) (hm : l.length ≤ 1048576) : Ev (fun k => spec_RowsOnce.f k l) (specO l) := by
  simp only [spec_RowsOnce.f, spec_l3Short.f]
  by_cases c : rowsIn l = true
  · have c' := c
    unfold rowsIn at c'
    rw [Bool.and_eq_true, decide_eq_true_eq] at c'
    have mv := spec_mul_ev l c'.1 hm
    cases e : mulL (stepsL l) 1 with
    | none =>
      rw [e] at mv
      simp only at mv
      have hs : specO l = false := by unfold specO; rw [e, Bool.and_false]
      have e1 : Ev (fun k => (spec_l3Rows.f k l).bind fun t298 => (if t298 = true then ((spec_l3Multiple.f k l).bind fun t299 => ((spec_l6In.f t299 1 60000).bind fun t300 => (some t300))) else (some false))) false := by
        rw [ev_bind (l3Rows_ev l hm), ev_pos c, ev_bind mv, ev_bind0 (l6In_eq _ _ _), ev_some]
        rfl
      rw [ev_bind e1, ev_neg (by simp), ev_some, hs]
    | some low =>
      rw [e] at mv
      simp only at mv
      obtain ⟨l1, l2⟩ := mul_le _ _ _ (by omega) (by omega) (stepsL_pos l) e
      have e1 : Ev (fun k => (spec_l3Rows.f k l).bind fun t298 => (if t298 = true then ((spec_l3Multiple.f k l).bind fun t299 => ((spec_l6In.f t299 1 60000).bind fun t300 => (some t300))) else (some false))) (decide (low ≤ 60000)) := by
        rw [ev_bind (l3Rows_ev l hm), ev_pos c, ev_bind mv, ev_bind0 (l6In_eq _ _ _), ev_some]
        rw [Bool.eq_iff_iff, decide_eq_true_eq, decide_eq_true_eq]
        omega
      have hs : specO l = (decide (low ≤ 60000) && (List.range low).all fun i => cntR l ((60 + i : Nat) : Int) == 1) := by
        unfold specO
        rw [c, e, Bool.true_and]
      rw [ev_bind e1, hs]
      by_cases cl : low ≤ 60000
      · have fe := fold_ev l c'.1 hm low l1 low 0 (l.length : Int) 0 (by omega) (by omega)
        have ce : Ev (fun k => spec_l3Covers.f k l) (foldC l low 0 (l.length : Int) 0) := by
          simp only [spec_l3Covers.f]
          rw [ev_bind mv]
          exact fe
        rw [ev_pos (by rw [decide_eq_true cl]), ev_bind ce, decide_eq_true cl, Bool.true_and]
        obtain ⟨f1, f2, f3⟩ := fold_le l low 0 (l.length : Int) 0
        by_cases ca : ((List.range low).all fun i => cntR l ((60 + i : Nat) : Int) == 1) = true
        · rw [ca]
          rw [List.all_eq_true] at ca
          have hall : ∀ j, j < low → cntR l ((60 + (0 + j) : Nat) : Int) = 1 := fun j hj => by
            have := ca j (List.mem_range.2 hj)
            rw [beq_iff_eq] at this
            rwa [Nat.zero_add]
          have h0 := hall 0 l2
          have hle := cntR_le l ((60 + (0 + 0) : Nat) : Int)
          simp only [Nat.add_zero] at h0 hle
          have fo := fold_one l low 0 (l.length : Int) 0 (by omega) (by omega) (by omega) hall
          rw [if_neg (show ¬ low = 0 by omega)] at fo
          rw [fo, ev_pos rfl, ev_some]
          rfl
        · rw [Bool.eq_false_iff.2 ca]
          by_cases k1 : (foldC l low 0 (l.length : Int) 0).1 = 1
          · rw [ev_pos k1, ev_some]
            rw [beq_eq_false_iff_ne]
            intro k2
            refine ca (List.all_eq_true.2 fun i hi => ?_)
            have := f3 i (List.mem_range.1 hi)
            rw [Nat.zero_add] at this
            rw [beq_iff_eq]
            omega
          · rw [ev_neg k1, ev_some]
      · rw [ev_neg (by simpa using cl), ev_some, decide_eq_false cl, Bool.false_and]
  · have e1 : Ev (fun k => (spec_l3Rows.f k l).bind fun t298 => (if t298 = true then ((spec_l3Multiple.f k l).bind fun t299 => ((spec_l6In.f t299 1 60000).bind fun t300 => (some t300))) else (some false))) false := by
      rw [ev_bind (l3Rows_ev l hm), ev_neg c, ev_some]
    have hs : specO l = false := by unfold specO; rw [Bool.eq_false_iff.2 c, Bool.false_and]
    rw [ev_bind e1, ev_neg (by simp), ev_some, hs]
end Go.Proofs.Ytdiaifmlockohaa.Pure
