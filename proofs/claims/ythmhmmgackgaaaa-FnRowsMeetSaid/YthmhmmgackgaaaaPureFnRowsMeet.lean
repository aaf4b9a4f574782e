/- The law FnRowsMeet answers true for every code: the row in which two drawn rows meet has just the numbers that both have, up to 300, and the order of the two does not matter. It has no condition. -/
import Derived.Test.YthmhmmgackgaaaaQmeet
import Derived.Test.YthmhmmgackgaaaaQdraw
import Derived.Test.YthmhmmgackgaaaaQsame
import Derived.Test.YthmhmmgackgaaaaG3
import Derived.Test.YthmhmmgackgaaaaG7
namespace Go.Proofs.Ythmhmmgackgaaaa.Pure
open Go.RowKit Go.Proofs.Ythmhmmgackgaaaa.G Go.Proofs.YthmhmmgackgaaaaW.PrintWords Go.Proofs.YthmhmmgackgaaaaW.PrintLast

theorem row_ev (s : List Int) (hs : Bytes s) (p : Int) (hp : 0 ≤ p ∧ p ≤ 999998) : ∃ row, RowOk row ∧ Ev (fun k => spec_l91Row.f k s p) (row, p + 1 + 1) := by
  obtain ⟨r, r0, r1, hr⟩ := pick_ev s hs p 9 (by omega) (by omega)
  obtain ⟨q, q0, q1, hq⟩ := pick_ev s hs (p + 1) 8 (by omega) (by omega)
  refine ⟨[r, rd [0, 1, 2, 3, 4, 6, 12, 5] q], ?_, ?_⟩
  · have hq8 : q = 0 ∨ q = 1 ∨ q = 2 ∨ q = 3 ∨ q = 4 ∨ q = 5 ∨ q = 6 ∨ q = 7 := by omega
    refine ⟨rfl, ⟨r0, by show r ≤ 59; omega⟩, ?_⟩
    show 0 ≤ rd [0, 1, 2, 3, 4, 6, 12, 5] q ∧ rd [0, 1, 2, 3, 4, 6, 12, 5] q ≤ 60
    rcases hq8 with rfl | rfl | rfl | rfl | rfl | rfl | rfl | rfl <;> decide
  · simp only [spec_l91Row.f]
    rw [ev_bind hr, ev_bind0 rfl, ev_bind hq, ev_pos q0, ev_pos (by show q < 8; omega), ev_some]
theorem draw_meet_ev (l : List Int) (hw : ∀ x ∈ l, (Lit.int .u8 x).wf = true) : ∃ a b, RowOk a ∧ RowOk b ∧ Ev (fun k => spec_DrawRowsMeet.f k l) (a, b) := by
  obtain ⟨s, hs, ho⟩ := open_ev l hw
  obtain ⟨a, ha, h1⟩ := row_ev s hs 0 (by omega)
  obtain ⟨b, hb, h2⟩ := row_ev s hs (0 + 1 + 1) (by omega)
  refine ⟨a, b, ha, hb, ?_⟩
  simp only [spec_DrawRowsMeet.f]
  rw [ev_bind0 ho, ev_bind h1, ev_bind h2, ev_some]
theorem inRow_eq (b s n : Int) (hb : 0 ≤ b ∧ b ≤ 59) (h0 : 0 ≤ n) (h1 : n ≤ 300) (l : List Int) (hl : l.length = 2) (e0 : rd l 0 = b) (e1 : rd l 1 = s) : laws_inRow.f l n = some (hasB b s n) := by
  unfold laws_inRow.f hasB
  rw [if_pos (by omega), e0, e1]
  by_cases h : n < b
  · rw [if_pos h]
    by_cases hs : s = 0
    · rw [if_pos hs]
    · rw [if_neg hs, decide_eq_false (by omega), Bool.false_and, beq_eq_false_iff_ne.2 (by omega)]
  · rw [if_neg h, if_pos (by omega)]
    by_cases hs : s = 0
    · rw [if_pos hs, if_pos hs]
    · rw [if_neg hs, if_neg hs, wrap_in _ (by omega), decide_eq_true (by omega), Bool.true_and]
theorem loop_ev (a b : List Int) (ha : RowOk a) (hb : RowOk b) (n0 : Int) (hf : firstFrom (meetP a b (stepOf a b)) 60 0 = some n0) (d : Nat) : ∀ n : Int, 0 ≤ n → 301 - n = d → Ev (fun k => laws_FnRowsMeet.l0 k a b [n0, stepOf a b] n) true := by
  have hc : meetC b a = ([n0, stepOf a b], true) := by
    rw [meetC_comm]
    unfold meetC
    rw [if_pos ⟨ha, hb⟩, hf]
    rfl
  have hn0 := firstFrom_some hf
  have ha' := ha
  have hb' := hb
  unfold RowOk at ha' hb'
  induction d with
  | zero =>
    intro n h0 hd
    rw [ev_step (fun k => by rw [laws_FnRowsMeet.l0]), ev_neg (by omega), ev_bind (impl_meet_ev b a), hc, ev_pos rfl, ev_bind (sameInts_self _ (by simp)), ev_some]
  | succ d ih =>
    intro n h0 hd
    rw [ev_step (fun k => by rw [laws_FnRowsMeet.l0]), ev_pos (by omega), inRow_eq n0 (stepOf a b) n (by omega) h0 (by omega) [n0, stepOf a b] rfl rfl rfl, inRow_eq (rd a 0) (rd a 1) n (by omega) h0 (by omega) a ha'.1 rfl rfl, inRow_eq (rd b 0) (rd b 1) n (by omega) h0 (by omega) b hb'.1 rfl rfl]
    simp only [Option.bind_some]
    rw [meet_has ha hb hf h0, wrap_in _ (by omega)]
    have := ih (n + 1) (by omega) (by omega)
    by_cases e : hasB (rd a 0) (rd a 1) n = true
    · rw [ev_pos e, e, ev_neg (by simp)]
      exact this
    · rw [ev_neg e, Bool.eq_false_iff.2 e, ev_neg (by simp)]
      exact this
theorem FnRowsMeet : laws_FnRowsMeet.Pure := by
  intro l hm h1 hw
  refine Ev.rounds ?_
  simp only [laws_FnRowsMeet.f]
  by_cases c0 : (l.length : Int) > 1048576
  · rw [ev_pos c0, ev_some]
  obtain ⟨a, b, ha, hb, hd⟩ := draw_meet_ev l hw
  rw [ev_neg c0, ev_bind hd, ev_bind (impl_meet_ev a b), ev_bind (spec_meet_ev a b)]
  have hc : meetC a b = meetRes (stepOf a b) (firstFrom (meetP a b (stepOf a b)) 60 0) := by
    unfold meetC
    rw [if_pos ⟨ha, hb⟩]
  rw [hc]
  cases hf : firstFrom (meetP a b (stepOf a b)) 60 0 with
  | none =>
    rw [ev_bind (sameInts_self _ (by simp [meetRes])), ev_pos rfl, ev_step (fun k => by rw [laws_FnRowsMeet.j0]), ev_pos (by simp), ev_step (fun k => by rw [laws_FnRowsMeet.j1]), ev_pos (by simp [meetRes]), ev_some]
    rfl
  | some n0 =>
    rw [ev_bind (sameInts_self _ (by simp [meetRes])), ev_pos rfl, ev_step (fun k => by rw [laws_FnRowsMeet.j0]), ev_pos (by simp), ev_step (fun k => by rw [laws_FnRowsMeet.j1]), ev_neg (by simp [meetRes])]
    exact loop_ev a b ha hb n0 hf 301 0 (by omega) (by omega)
end Go.Proofs.Ythmhmmgackgaaaa.Pure
