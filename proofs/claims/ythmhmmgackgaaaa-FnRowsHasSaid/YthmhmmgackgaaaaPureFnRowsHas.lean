/- The law FnRowsHas answers true for every list of rows and number that are drawn. It has no condition. -/
import Derived.Test.YthmhmmgackgaaaaQdr
import Derived.Test.YthmhmmgackgaaaaG16
import Derived.Test.YthmhmmgackgaaaaG17
import Derived.Test.YthmhmmgackgaaaaG18
namespace Go.Proofs.Ythmhmmgackgaaaa.Pure
open Go.RowKit Go.Proofs.Ythmhmmgackgaaaa.G Go.Proofs.YthmhmmgackgaaaaW.PrintWords Go.Proofs.YthmhmmgackgaaaaW.PrintLast

theorem drawRowsHas_ev (l0 : List Int) (hw : ∀ x ∈ l0, (Lit.int .u8 x).wf = true) : ∃ l n, l.length ≤ 10 ∧ Ev (fun k => spec_DrawRowsHas.f k l0) (l, n) := by
  obtain ⟨s, hs, e⟩ := open_ev l0 hw
  obtain ⟨l, q, g1, g2, g3⟩ := drows_ev s hs 0 (by omega)
  obtain ⟨r, h0, h1, e1⟩ := pick_ev s hs q 60 (by omega) (by omega)
  obtain ⟨r2, h2, h3, e2⟩ := pick_ev s hs (q + 1) 200 (by omega) (by omega)
  obtain ⟨r3, h4, h5, e3⟩ := pick_ev s hs (q + 1 + 1) 5 (by omega) (by omega)
  refine ⟨l, rd [r, r2, 10000, 10001, (-1)] r3, g1, ?_⟩
  simp only [spec_DrawRowsHas.f]
  rw [ev_bind0 e, ev_bind g3, ev_bind e1, ev_bind e2, ev_bind0 rfl, ev_bind e3, ev_pos h4, ev_pos (by show r3 < 5; exact h5), ev_some]
theorem inRow_has (l : List Int) (hl : RowOk l) (n : Int) (h0 : 0 ≤ n) (h1 : n ≤ 10000) : laws_inRow.f l n = some (hasB (rd l 0) (rd l 1) n) := by
  unfold RowOk at hl
  unfold laws_inRow.f hasB
  rw [if_pos (by omega)]
  by_cases h : n < rd l 0
  · rw [if_pos h]
    by_cases hs : rd l 1 = 0
    · rw [if_pos hs]
    · rw [if_neg hs, decide_eq_false (by omega), Bool.false_and, beq_eq_false_iff_ne.2 (by omega)]
  · rw [if_neg h, if_pos (by omega)]
    by_cases hs : rd l 1 = 0
    · rw [if_pos hs, if_pos hs]
    · rw [if_neg hs, if_neg hs, wrap_in _ (by omega), decide_eq_true (by omega), Bool.true_and]
theorem lawHas_l0 (l : List (List Int)) (hm : l.length ≤ 20) (hk : rowsOk l = true) (n : Int) (h0 : 0 ≤ n) (h1 : n ≤ 10000) (d : Nat) : ∀ (i : Nat), l.length - i = d → i ≤ l.length → Ev (fun k => laws_FnRowsHas.l0 k l n (manyB l n : Int) (manyB (l.take i) n : Int) (i : Int)) true := by
  induction d with
  | zero =>
    intro i hd hi
    rw [ev_step (fun k => by rw [laws_FnRowsHas.l0]), ev_neg (by omega), ev_some, List.take_of_length_le (by omega)]
    simp
  | succ d ih =>
    intro i hd hi
    have hi2 : i < l.length := by omega
    have hb := manyB_le (l.take i) n
    rw [List.length_take] at hb
    have := ih (i + 1) (by omega) (by omega)
    rw [manyB_snoc l hi2] at this
    rw [ev_step (fun k => by rw [laws_FnRowsHas.l0]), ev_pos (by omega), ev_pos (by omega), rd_L1_get hi2, ev_bind0 (inRow_has _ (rowOk_get hk hi2) n h0 h1), wrap_in (i + 1) (by omega), wrap_in _ (by omega)]
    by_cases e : hasB (rd l[i] 0) (rd l[i] 1) n = true
    · rw [ev_pos e]
      rw [if_pos e] at this
      exact this
    · rw [ev_neg e]
      rw [if_neg e] at this
      exact this
theorem FnRowsHas : laws_FnRowsHas.Pure := by
  intro l0 hm _ hw
  refine Ev.rounds ?_
  simp only [laws_FnRowsHas.f]
  by_cases c : (l0.length : Int) > 1048576
  · rw [ev_pos c, ev_some]
  obtain ⟨l, n, h1, e⟩ := drawRowsHas_ev l0 hw
  rw [ev_neg c, ev_bind e, ev_bind (impl_rowsHas_ev l (by omega) n), ev_bind (spec_rowsHas_ev l (by omega) n), ev_pos rfl, ev_step (fun k => by rw [laws_FnRowsHas.j0]), ev_pos (by simp), ev_step (fun k => by rw [laws_FnRowsHas.j1])]
  unfold hasC
  by_cases h : rowsIn l = true ∧ (0 ≤ n ∧ n ≤ 10000)
  · rw [if_pos h, ev_neg (by simp)]
    have hk := h.1
    unfold rowsIn at hk
    rw [Bool.and_eq_true, decide_eq_true_eq] at hk
    exact lawHas_l0 l hk.2 hk.1 n h.2.1 h.2.2 l.length 0 (by omega) (by omega)
  · rw [if_neg h, ev_pos (by simp), ev_some]
    rfl
end Go.Proofs.Ythmhmmgackgaaaa.Pure
