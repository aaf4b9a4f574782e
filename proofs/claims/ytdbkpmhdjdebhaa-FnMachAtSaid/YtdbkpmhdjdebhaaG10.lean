-- Made by gprint.py (the kit's print with contracts of this session's own among its functions).
import Derived.Test.YtdbkpmhdjdebhaaG0
import Derived.Test.YtdbkpmhdjdebhaaG5
import Derived.Test.YtdbkpmhdjdebhaaG6
namespace Go.Proofs.Ytdbkpmhdjdebhaa.G
open Go.RowKit Go.Proofs.YtdbkpmhdjdebhaaW.PrintWords Go.Proofs.YtdbkpmhdjdebhaaW.PrintLast Go.Proofs.YtdbkpmhdjdebhaaW.PrintMore
attribute [local go_sem] max2_int min2_int max_two min_two max_three min_three max_four min_four   -- for this text's walks alone
set_option linter.unusedVariables false
set_option linter.unusedSimpArgs false

/-! ### spec_DrawMachAt: function 22 -/
def spec_DrawMachAt.f (k : Nat) (l0 : List Int) : Option (List Int × Int × Int × Int) := (spec_l6Open.f l0).bind fun bt223 => ((spec_l91Machine.f k bt223.1 bt223.2).bind fun bt226 => ((spec_l6Rd_pick.f k bt223.1 bt226.2.2.2 20).bind fun bt232 => ((spec_l6Rd_pick.f k bt223.1 bt232.2 200).bind fun bt234 => ((some (([bt232.1, bt234.1, 1000000, 1000001, (-1), 9999] : List Int) : List Int)).bind fun y236 => ((spec_l6Rd_pick.f k bt223.1 bt234.2 6).bind fun bt239 => (if 0 ≤ bt239.1 then (if bt239.1 < (y236.length : Int) then (some (bt226.1, bt226.2.1, bt226.2.2.1, rd y236 bt239.1)) else (none)) else (none)))))))
theorem spec_DrawMachAt.mono : ∀ a0 k, LeO (spec_DrawMachAt.f k a0) (spec_DrawMachAt.f (k + 1) a0) := by
  intro a0 k
  unfold spec_DrawMachAt.f
  repeat' first
      | (with_reducible exact spec_l6Rd_pick.mono _ _ _ _)
      | (with_reducible exact spec_l91Machine.mono _ _ _)
      | (with_reducible exact LeO.refl _)
      | (with_reducible exact LeO.none _)
      | (with_reducible refine LeO.ite ?_ ?_)
      | (with_reducible refine LeO.bind ?_ (fun _ => ?_))
      | exact spec_l6Rd_pick.mono _ _ _ _
      | exact spec_l91Machine.mono _ _ _
      | exact LeO.none _
      | refine LeO.ite ?_ ?_
      | refine LeO.bind ?_ (fun _ => ?_)
def spec_DrawMachAt.T2 : Bool × List (List Nat × List Nat) := (true, [([], []), ([0], [0]), ([], []), ([2, 1], [2]), ([], []), ([4, 3], [4]), ([3, 5], [3, 5]), ([], []), ([7, 5], [7]), ([6, 8], [6, 8]), ([9], [9]), ([1, 8, 0, 1], [1]), ([10, 11, 0, 1, 2, 3, 4, 5, 6, 7, 8, 9, 10, 11], [10])])
def spec_DrawMachAt.B2 : List Nat := [0, 1, 0, 7, 0, 31, 63, 0, 191, 511, 1023, 447, 4095]
theorem spec_DrawMachAt.tab2 : rtab .any (opsOf Try.f22 2) = spec_DrawMachAt.T2 := by kernel_rfl
theorem spec_DrawMachAt.bits2 : waitsOk spec_DrawMachAt.T2.2 spec_DrawMachAt.B2 = true := by kernel_rfl
set_option maxHeartbeats 8000000 in
set_option maxRecDepth 100000 in
theorem spec_DrawMachAt.calls (k : Nat) (A0 : Option Addr) (c0 : Nat) (l0 : List Int) (r1 : List Int) (r2 : Int) (r3 : Int) (r4 : Int) (w : World) (hr0 : Kd.C (Kd.int .u8) w A0 l0.length l0) (hc0 : l0.length ≤ c0) (h : spec_DrawMachAt.f k l0 = some (r1, r2, r3, r4)) :
    Calls Try.prog 22 #[.slice A0 l0.length c0] w fun e w' => ∃ v0_ : Value, e = .returned (.tuple #[.agg #[v0_, .int .i64 r2, .int .i64 r3], .int .i64 r4]) ∧ Kd.R (Kd.int .i64) 3 w' w.heap.size (fun _ => True) v0_ r1 ∧ Below w.heap.size w w' := by
  have hu27 := Try.underlying27
  have HR0 := Aside0.mk hr0
  have HC0 := Aside0.mk hc0
  clear hr0 hc0
  have HB := Aside0.mk (Below.refl w.heap.size w)
  have H : ((spec_l6Open.f l0).bind fun bt223 => ((spec_l91Machine.f k bt223.1 bt223.2).bind fun bt226 => ((spec_l6Rd_pick.f k bt223.1 bt226.2.2.2 20).bind fun bt232 => ((spec_l6Rd_pick.f k bt223.1 bt232.2 200).bind fun bt234 => ((some (([bt232.1, bt234.1, 1000000, 1000001, (-1), 9999] : List Int) : List Int)).bind fun y236 => ((spec_l6Rd_pick.f k bt223.1 bt234.2 6).bind fun bt239 => (if 0 ≤ bt239.1 then (if bt239.1 < (y236.length : Int) then (some (bt226.1, bt226.2.1, bt226.2.2.1, rd y236 bt239.1)) else (none)) else (none)))))))) = some (r1, r2, r3, r4) := h
  clear h
  replace H := Option.bind_eq_some_iff.mp H
  obtain ⟨⟨t223, t224⟩, A20, H⟩ := H
  replace H : ((spec_l91Machine.f k t223 t224).bind fun bt226 => ((spec_l6Rd_pick.f k t223 bt226.2.2.2 20).bind fun bt232 => ((spec_l6Rd_pick.f k t223 bt232.2 200).bind fun bt234 => ((some (([bt232.1, bt234.1, 1000000, 1000001, (-1), 9999] : List Int) : List Int)).bind fun y236 => ((spec_l6Rd_pick.f k t223 bt234.2 6).bind fun bt239 => (if 0 ≤ bt239.1 then (if bt239.1 < (y236.length : Int) then (some (bt226.1, bt226.2.1, bt226.2.2.1, rd y236 bt239.1)) else (none)) else (none))))))) = some (r1, r2, r3, r4) := H
  have A2 := Aside0.mk A20
  clear A20
  replace H := Option.bind_eq_some_iff.mp H
  obtain ⟨⟨t226, t229, t230, t231⟩, A30, H⟩ := H
  replace H : ((spec_l6Rd_pick.f k t223 t231 20).bind fun bt232 => ((spec_l6Rd_pick.f k t223 bt232.2 200).bind fun bt234 => ((some (([bt232.1, bt234.1, 1000000, 1000001, (-1), 9999] : List Int) : List Int)).bind fun y236 => ((spec_l6Rd_pick.f k t223 bt234.2 6).bind fun bt239 => (if 0 ≤ bt239.1 then (if bt239.1 < (y236.length : Int) then (some (t226, t229, t230, rd y236 bt239.1)) else (none)) else (none)))))) = some (r1, r2, r3, r4) := H
  have A3 := Aside0.mk A30
  clear A30
  replace H := Option.bind_eq_some_iff.mp H
  obtain ⟨⟨t232, t233⟩, A40, H⟩ := H
  replace H : ((spec_l6Rd_pick.f k t223 t233 200).bind fun bt234 => ((some (([t232, bt234.1, 1000000, 1000001, (-1), 9999] : List Int) : List Int)).bind fun y236 => ((spec_l6Rd_pick.f k t223 bt234.2 6).bind fun bt239 => (if 0 ≤ bt239.1 then (if bt239.1 < (y236.length : Int) then (some (t226, t229, t230, rd y236 bt239.1)) else (none)) else (none))))) = some (r1, r2, r3, r4) := H
  have A4 := Aside0.mk A40
  clear A40
  replace H := Option.bind_eq_some_iff.mp H
  obtain ⟨⟨t234, t235⟩, A50, H⟩ := H
  replace H : ((some (([t232, t234, 1000000, 1000001, (-1), 9999] : List Int) : List Int)).bind fun y236 => ((spec_l6Rd_pick.f k t223 t235 6).bind fun bt239 => (if 0 ≤ bt239.1 then (if bt239.1 < (y236.length : Int) then (some (t226, t229, t230, rd y236 bt239.1)) else (none)) else (none)))) = some (r1, r2, r3, r4) := H
  have A5 := Aside0.mk A50
  clear A50
  obtain ⟨y236, hy236⟩ : ∃ y_ : List Int, y_ = (([t232, t234, 1000000, 1000001, (-1), 9999] : List Int)) := ⟨_, rfl⟩
  replace H : ((spec_l6Rd_pick.f k t223 t235 6).bind fun bt239 => (if 0 ≤ bt239.1 then (if bt239.1 < (y236.length : Int) then (some (t226, t229, t230, rd y236 bt239.1)) else (none)) else (none))) = some (r1, r2, r3, r4) := by first | (rw [hy236]; with_reducible exact H) | (have H2_ := (Option.bind_some _ _).symm.trans H; rw [hy236]; with_reducible exact H2_) | (have H2_ := (Option.bind_some _ _).symm.trans H; with_reducible exact H2_) | with_reducible exact H | (rw [hy236]; exact H) | exact H
  have Ny236 := Aside0.mk hy236
  clear hy236
  replace H := Option.bind_eq_some_iff.mp H
  obtain ⟨⟨t239, t240⟩, A60, H⟩ := H
  replace H : (if 0 ≤ t239 then (if t239 < (y236.length : Int) then (some (t226, t229, t230, rd y236 t239)) else (none)) else (none)) = some (r1, r2, r3, r4) := H
  have A6 := Aside0.mk A60
  clear A60
  by_cases c7 : 0 ≤ t239
  · rw [if_pos c7] at H
    have c7b0 : decide (0 ≤ t239) = true := decide_eq_true c7
    clear c7
    by_cases c8 : t239 < (y236.length : Int)
    · rw [if_pos c8] at H
      have c8b0 : decide (t239 < (y236.length : Int)) = true := decide_eq_true c8
      clear c8
      simp only [Option.some.injEq, Prod.mk.injEq] at H
      obtain ⟨rfl, rfl, rfl, rfl⟩ := H
      go_enter Try.func22, Try.ntmps22
      try go_wp2_with (first | ((with_reducible refine gate_dst (N := 2) rfl ?_); refine box_event ?hg (N := 2) ?hd (cs := #[.slice none 0 0, .int .i64 0, .int .i64 0]) (t := 27) ?hr ?_; (case hd => rfl); (case hg => rfl); (case hr => first | (go_simp; done) | (go_simp; rfl)); intro gb222 hg w9 hbox hb; have n0_ := Aside0.mk (below_step (by repeat (first | (with_reducible first | exact HB.out | apply below_alloc | apply pw_below_drewN | apply below_drew1) | exact HB.out)) hb); have n1_ := Aside0.mk (hbox); have n2_ := Aside0.mk ((by rw [hg]; exact (below_size (by repeat (first | (with_reducible first | exact HB.out | apply below_alloc | apply pw_below_drewN | apply below_drew1) | exact HB.out))) : w.heap.size ≤ gb222)); have n3_ := Aside0.mk ((by rw [hg]; exact (below_size (by repeat (first | (with_reducible first | exact HB.out | apply below_alloc | apply pw_below_drewN | apply below_drew1) | exact HB.out))) : w.heap.size ≤ gb222)); clear HB; have HB := n0_; have BK222 := n1_; have GW222 := n2_; have GE222 := n3_; clear n0_ n1_ n2_ n3_; clear hb hbox hg) | ((with_reducible refine gate_callee (f := 46) rfl ?_); refine goesL_ (some 6) rfl rfl Try.func46 (by kernel_rfl) rfl #[.slice A0 l0.length c0] rfl (by (try simp only [List.map_toArray, List.map_cons, List.map_nil]); first | done | rfl | (simp only [List.length_drop, List.length_take]; rfl)) ?_; (with_reducible refine (spec_l6Open.calls _ _ l0 t223 t224 w _ ?side1 ?side2 ?side3 A2.out).mono ?_); (case side1 => repeat (first | (with_reducible first | exact HB.out | apply below_alloc | apply pw_below_drewN | apply below_drew1 | refine below_set ?_ GE222.out) | exact HB.out)); (case side2 => exact HR0.out); (case side3 => exact HC0.out); rintro e w10 ⟨g225, rfl, hi, hb, hb2⟩; refine ⟨_, rfl, ?_⟩; have n0_ := Aside0.mk (blk_below (g := gb222) (o := .cells #[.slice none 0 0, .int .i64 0, .int .i64 0] 27 (0, 0)) (by (with_reducible repeat (first | refine blk_drewN ?_ _ | refine blk_drew ?_ | refine blk_alloc ?_ _)); exact BK222.out) hb2); have n1_ := Aside0.mk (hb); have n2_ := Aside0.mk (hi); have n3_ := Aside0.mk (IsS62.ne_blk hi (blk_below (g := gb222) (o := .cells #[.slice none 0 0, .int .i64 0, .int .i64 0] 27 (0, 0)) (by (with_reducible repeat (first | refine blk_drewN ?_ _ | refine blk_drew ?_ | refine blk_alloc ?_ _)); exact BK222.out) hb2) (by decide)); have n4_ := Aside0.mk (Ne.symm (IsS62.ne_blk hi (blk_below (g := gb222) (o := .cells #[.slice none 0 0, .int .i64 0, .int .i64 0] 27 (0, 0)) (by (with_reducible repeat (first | refine blk_drewN ?_ _ | refine blk_drew ?_ | refine blk_alloc ?_ _)); exact BK222.out) hb2) (by decide))); clear BK222; clear HB; have BK222 := n0_; have HB := n1_; have HI225 := n2_; have NB225_222 := n3_; have NB222_225 := n4_; clear n0_ n1_ n2_ n3_ n4_; (try clear hb); (try clear hb2); (try clear hk); (try clear hi)))
      have pi241 : (0 ≤ (t239 : Int)) = True := eq_true (of_decide_eq_true (by first | (with_reducible assumption) | assumption))
      have qi241 : (t239 < (y236.length : Int)) = True := eq_true (of_decide_eq_true (by first | (with_reducible assumption) | assumption))
      have n0_ := Aside0.mk (blk_drew BK222.out)
      have n1_ := Aside0.mk (IsS62.drew HI225.out)
      have n2_ := Aside0.mk (below_drew1 HB.out)
      clear BK222
      clear HI225
      clear HB
      have BK222 := n0_
      have HI225 := n1_
      have HB := n2_
      clear n0_ n1_ n2_
      refine start_ (n := 13) (S := fun w' => True) (ds := []) #[false, false, false, false, false, false, false, false, false, false, false, false, false] (by kernel_rfl) rfl rfl trivial (fun hHeld => ?_); refine with_tabW spec_DrawMachAt.tab2 spec_DrawMachAt.bits2 (fun HT_ HW_ => ?_)
      generalize w10.drew = w11 at BK222 HI225 HB hHeld ⊢
      refine pure_ (i := 0) (N := some 7) (v := ?_) (a' := ?_) #[true, false, false, false, false, false, false, false, false, false, false, false, false] rfl rfl (any_of HT_.out (by kernel_rfl)) (fun _ _ _ h => h) (Or.inl ⟨by rfl, ?_⟩) ?_ ?_
      rotate_left
      · intro w'
        go_simp
        with_reducible rfl
      rotate_left
      · simp only [Act.put, List.setIfInBounds_toArray, List.set_cons_zero, List.set_cons_succ, i64_w, i32_w]
        rfl
      refine pure_ (i := 2) (N := some 9) (v := ?_) (a' := ?_) #[true, false, true, false, false, false, false, false, false, false, false, false, false] rfl rfl (any_of HT_.out (by kernel_rfl)) (fun _ _ _ h => h) (Or.inl ⟨by rfl, ?_⟩) ?_ ?_
      rotate_left
      · intro w'
        go_simp
        with_reducible rfl
      rotate_left
      · simp only [Act.put, List.setIfInBounds_toArray, List.set_cons_zero, List.set_cons_succ, i64_w, i32_w]
        rfl
      refine pure_ (i := 4) (N := some 11) (v := ?_) (a' := ?_) #[true, false, true, false, true, false, false, false, false, false, false, false, false] rfl rfl (any_of HT_.out (by kernel_rfl)) (fun _ _ _ h => h) (Or.inl ⟨by rfl, ?_⟩) ?_ ?_
      rotate_left
      · intro w'
        go_simp
        with_reducible rfl
      rotate_left
      · simp only [Act.put, List.setIfInBounds_toArray, List.set_cons_zero, List.set_cons_succ, i64_w, i32_w]
        rfl
      refine pure_ (i := 7) (N := some 14) (v := ?_) (a' := ?_) #[true, false, true, false, true, false, false, true, false, false, false, false, false] rfl rfl (any_of HT_.out (by kernel_rfl)) (fun _ _ _ h => h) (Or.inl ⟨by rfl, ?_⟩) ?_ ?_
      rotate_left
      · intro w'
        go_simp
        with_reducible rfl
      rotate_left
      · simp only [Act.put, List.setIfInBounds_toArray, List.set_cons_zero, List.set_cons_succ, i64_w, i32_w]
        rfl
      refine inv_at [1, 3, 5, 6, 8, 9, 10, 11, 12] (fun a0_ b a w' => ∃ (v227 : Value) (v237 : Value) (adz_v237 : Addr) (m1_ : Value) (m9_ : Value), a = putSel a0_ b [(1, 8, m1_), (3, 10, .int .i64 t232), (5, 12, .int .i64 t234), (6, 13, v237), (8, 15, .int .i64 t239), (9, 16, m9_), (10, 17, .int .i64 (rd y236 t239)), (12, 3, .int .i64 (rd y236 t239))] ∧ (b 11 = false → w'.heap[gb222]? = some (.cells #[.slice none 0 0, .int .i64 0, .int .i64 0] 27 (0, 0))) ∧ (b 1 = false → IsS62 w w' g225 t223 t224) ∧ (Below w.heap.size w w') ∧ (b 1 = true → Kd.R (Kd.int .i64) 3 w' w.heap.size (fun _ => True) v227 t226) ∧ (b 1 = true → b 3 = false → IsS62 w w' g225 t223 t231) ∧ (b 3 = true → b 5 = false → IsS62 w w' g225 t223 t233) ∧ (b 5 = true → b 8 = false → IsS62 w w' g225 t223 t235) ∧ (b 6 = true → Kd.R (Kd.int .i64) 3 w' w.heap.size (fun _ => True) v237 y236) ∧ (b 6 = true → ∃ c_, (v237 : Value) = .slice (some adz_v237) y236.length c_) ∧ (b 8 = true → IsS62 w w' g225 t223 t240) ∧ (b 11 = true → w'.heap[gb222]? = some (.cells #[v227, .int .i64 t229, .int .i64 t230] 27 (0, 0))) ∧ (b 1 = true → (m1_ : Value) = .agg #[v227, .int .i64 t229, .int .i64 t230]) ∧ (b 9 = true → (m9_ : Value) = .pointer (some (adz_v237.add (t239).toNat)))) HT_.out HW_.out (by kernel_rfl) (by kernel_rfl) ?_ ?_ ?_
      · exact ⟨.bool false, .bool false, ⟨0, 0, none⟩, .bool false, .bool false, by simp only [putSel, Bool.false_eq_true, if_false], fun _ => BK222.out, fun _ => HI225.out, HB.out, fun h_ => absurd h_ (by decide), fun h_ => absurd h_ (by decide), fun h_ => absurd h_ (by decide), fun h_ => absurd h_ (by decide), fun h_ => absurd h_ (by decide), fun h_ => absurd h_ (by decide), fun h_ => absurd h_ (by decide), fun h_ => absurd h_ (by decide), fun h_ => absurd h_ (by decide), fun h_ => absurd h_ (by decide)⟩
      · skip
        clear BK222 HB HI225
        refine steps_cons ?_ ?_
        · rintro b a w' ⟨v227, v237, adz_v237, m1_, m9_, ha, Q_BK222, Q_HI225, Q_HB, Q_HO228, Q_HI225_e1, Q_HI225_e3, Q_HI225_e5, Q_HO238, Q_HA_HO238, Q_HI225_e8, Q_BK222_e11, Q_X1_, Q_X9_⟩ hb_ hon hoff
          refine ⟨_, rfl, fun K hK => ?_⟩
          have e7 : a.tmps[7]? = some (.pointer (some ⟨g225, 0, none⟩)) := by rw [ha]; exact (putSel_off rfl).trans rfl
          replace ha := Aside0.mk ha
          have BK222 := Aside0.mk (Q_BK222 (hoff 11 (by kernel_rfl)))
          have HI225 := Aside0.mk (Q_HI225 hb_)
          have HB := Aside0.mk Q_HB
          refine goes_ Try.func47 (by kernel_rfl) rfl #[.pointer (some ⟨g225, 0, none⟩)] (by rfl) rfl rfl (by first | (simp only [List.map_toArray, List.map_cons, List.map_nil, Act.eval, Array.getD_eq_getD_getElem?, Option.getD_some, e7]; done) | (simp only [List.map_toArray, List.map_cons, List.map_nil, Act.eval, Array.getD_eq_getD_getElem?, Option.getD_some, e7]; rfl)) ?_
          with_reducible refine (spec_l91Machine.calls k g225 t223 t224 t226 t229 t230 t231 w _ ?side1 ?side2 A3.out).mono ?_
          (case side1 => repeat (first | (with_reducible first | exact HI225.out | apply IsS62.alloc | apply IsS62.drewN | apply IsS62.drew | apply IsS62.set_1 | refine IsS62.far ?_ NB225_222.out _) | exact HI225.out))
          (case side2 => repeat (first | (with_reducible first | exact HB.out | apply below_alloc | apply pw_below_drewN | apply below_drew1 | refine below_set ?_ (IsS62.ge HI225.out) | refine below_set ?_ GE222.out) | exact HB.out))
          rintro e w12 ⟨v227, rfl, ho0, hi, hb, hk⟩
          refine ⟨_, rfl, ?_⟩
          have n0_ := Aside0.mk (KeepBut.blk hk (g' := gb222) (o := .cells #[.slice none 0 0, .int .i64 0, .int .i64 0] 27 (0, 0)) (by (with_reducible repeat (first | refine blk_drewN ?_ _ | refine blk_drew ?_ | refine blk_alloc ?_ _)); exact BK222.out) NB222_225.out (by simp))
          have n1_ := Aside0.mk (Kd.R_lower ho0 (below_size (by repeat (first | (with_reducible first | exact HB.out | apply below_alloc | apply pw_below_drewN | apply below_drew1 | refine below_set ?_ (IsS62.ge HI225.out) | refine below_set ?_ GE222.out) | exact HB.out))))
          have n2_ := Aside0.mk (hb)
          have n3_ := Aside0.mk (hi)
          clear BK222
          clear HB
          clear HI225
          have BK222 := n0_
          have HO228 := n1_
          have HB := n2_
          have HI225 := n3_
          clear n0_ n1_ n2_ n3_
          (try clear hb)
          (try clear hb2)
          (try clear hk)
          (try clear hi)
          (try clear ho0)
          refine hK.out _ _ ⟨v227, v237, adz_v237, (.agg #[v227, .int .i64 t229, .int .i64 t230]), m9_, (by rw [ha.out]; exact putSel_upk 0 hb_ rfl rfl rfl), fun _ => (by (with_reducible repeat (first | refine blk_drewN ?_ _ | refine blk_drew ?_ | refine blk_alloc ?_ _)); exact BK222.out), fun h0_ => absurd ((up_self b 1).symm.trans h0_) (by decide), (by repeat (first | (with_reducible first | exact HB.out | apply below_alloc | apply pw_below_drewN | apply below_drew1 | refine below_set ?_ (IsS62.ge HI225.out) | refine below_set ?_ GE222.out) | exact HB.out)), fun _ => (by (with_reducible repeat (first | apply Kd.R_alloc | apply Kd.R_drewN | apply Kd.R_drew)); exact HO228.out), fun _ _ => (by repeat (first | (with_reducible first | exact HI225.out | apply IsS62.alloc | apply IsS62.drewN | apply IsS62.drew | apply IsS62.set_1 | refine IsS62.far ?_ NB225_222.out _) | exact HI225.out)), fun h0_ _ => absurd ((hoff 3 (by kernel_rfl)).symm.trans h0_) (by decide), fun h0_ _ => absurd ((hoff 5 (by kernel_rfl)).symm.trans h0_) (by decide), fun h0_ => absurd ((hoff 6 (by kernel_rfl)).symm.trans h0_) (by decide), fun h0_ => absurd ((hoff 6 (by kernel_rfl)).symm.trans h0_) (by decide), fun h0_ => absurd ((hoff 8 (by kernel_rfl)).symm.trans h0_) (by decide), fun h0_ => absurd ((hoff 11 (by kernel_rfl)).symm.trans h0_) (by decide), fun _ => rfl, fun h0_ => absurd ((hoff 9 (by kernel_rfl)).symm.trans h0_) (by decide)⟩
        refine steps_cons ?_ ?_
        · rintro b a w' ⟨v227, v237, adz_v237, m1_, m9_, ha, Q_BK222, Q_HI225, Q_HB, Q_HO228, Q_HI225_e1, Q_HI225_e3, Q_HI225_e5, Q_HO238, Q_HA_HO238, Q_HI225_e8, Q_BK222_e11, Q_X1_, Q_X9_⟩ hb_ hon hoff
          refine ⟨_, rfl, fun K hK => ?_⟩
          have e9 : a.tmps[9]? = some (.pointer (some ⟨g225, 0, none⟩)) := by rw [ha]; exact (putSel_off rfl).trans rfl
          replace ha := Aside0.mk ha
          have BK222 := Aside0.mk (Q_BK222 (hoff 11 (by kernel_rfl)))
          have HB := Aside0.mk Q_HB
          have HO228 := Aside0.mk (Q_HO228 (hon 1 (by kernel_rfl)))
          have HI225 := Aside0.mk (Q_HI225_e1 (hon 1 (by kernel_rfl)) hb_)
          refine goes_ Try.func49 (by kernel_rfl) rfl #[.pointer (some ⟨g225, 0, none⟩), .int .i64 20] (by rfl) rfl rfl (by first | (simp only [List.map_toArray, List.map_cons, List.map_nil, Act.eval, Array.getD_eq_getD_getElem?, Option.getD_some, e9]; done) | (simp only [List.map_toArray, List.map_cons, List.map_nil, Act.eval, Array.getD_eq_getD_getElem?, Option.getD_some, e9]; rfl)) ?_
          with_reducible refine (spec_l6Rd_pick.calls k g225 t223 t231 20 t232 t233 w _ ?side1 ?side2 A4.out).mono ?_
          (case side1 => repeat (first | (with_reducible first | exact HI225.out | apply IsS62.alloc | apply IsS62.drewN | apply IsS62.drew | apply IsS62.set_1 | refine IsS62.far ?_ NB225_222.out _) | exact HI225.out))
          (case side2 => repeat (first | (with_reducible first | exact HB.out | apply below_alloc | apply pw_below_drewN | apply below_drew1 | refine below_set ?_ (IsS62.ge HI225.out) | refine below_set ?_ GE222.out) | exact HB.out))
          rintro e w14 ⟨rfl, hi, hb, hk⟩
          refine ⟨_, rfl, ?_⟩
          have n0_ := Aside0.mk (KeepBut.blk hk (g' := gb222) (o := .cells #[.slice none 0 0, .int .i64 0, .int .i64 0] 27 (0, 0)) (by (with_reducible repeat (first | refine blk_drewN ?_ _ | refine blk_drew ?_ | refine blk_alloc ?_ _)); exact BK222.out) NB222_225.out (by simp))
          have n1_ := Aside0.mk (Kd.R_mono (Kd.R_keep (IsS62.apart (show IsS62 w _ g225 t223 t231 from by repeat (first | (with_reducible first | exact HI225.out | apply IsS62.alloc | apply IsS62.drewN | apply IsS62.drew | apply IsS62.set_1 | refine IsS62.far ?_ NB225_222.out _) | exact HI225.out)) (by (with_reducible repeat (first | apply Kd.R_alloc | apply Kd.R_drewN | apply Kd.R_drew)); exact HO228.out) (by decide)) hk (fun _ h => h.2)) (fun _ h => h.1))
          have n2_ := Aside0.mk (hb)
          have n3_ := Aside0.mk (hi)
          clear BK222
          clear HO228
          clear HB
          clear HI225
          have BK222 := n0_
          have HO228 := n1_
          have HB := n2_
          have HI225 := n3_
          clear n0_ n1_ n2_ n3_
          (try clear hb)
          (try clear hb2)
          (try clear hk)
          (try clear hi)
          refine hK.out _ _ ⟨v227, v237, adz_v237, m1_, m9_, (by rw [ha.out]; exact putSel_upk 1 hb_ rfl rfl rfl), fun _ => (by (with_reducible repeat (first | refine blk_drewN ?_ _ | refine blk_drew ?_ | refine blk_alloc ?_ _)); exact BK222.out), fun h0_ => absurd ((hon 1 (by kernel_rfl)).symm.trans h0_) (by decide), (by repeat (first | (with_reducible first | exact HB.out | apply below_alloc | apply pw_below_drewN | apply below_drew1 | refine below_set ?_ (IsS62.ge HI225.out) | refine below_set ?_ GE222.out) | exact HB.out)), fun _ => (by (with_reducible repeat (first | apply Kd.R_alloc | apply Kd.R_drewN | apply Kd.R_drew)); exact HO228.out), fun _ h1_ => absurd ((up_self b 3).symm.trans h1_) (by decide), fun _ _ => (by repeat (first | (with_reducible first | exact HI225.out | apply IsS62.alloc | apply IsS62.drewN | apply IsS62.drew | apply IsS62.set_1 | refine IsS62.far ?_ NB225_222.out _) | exact HI225.out)), fun h0_ _ => absurd ((hoff 5 (by kernel_rfl)).symm.trans h0_) (by decide), fun h0_ => absurd ((hoff 6 (by kernel_rfl)).symm.trans h0_) (by decide), fun h0_ => absurd ((hoff 6 (by kernel_rfl)).symm.trans h0_) (by decide), fun h0_ => absurd ((hoff 8 (by kernel_rfl)).symm.trans h0_) (by decide), fun h0_ => absurd ((hoff 11 (by kernel_rfl)).symm.trans h0_) (by decide), Q_X1_, fun h0_ => absurd ((hoff 9 (by kernel_rfl)).symm.trans h0_) (by decide)⟩
        refine steps_cons ?_ ?_
        · rintro b a w' ⟨v227, v237, adz_v237, m1_, m9_, ha, Q_BK222, Q_HI225, Q_HB, Q_HO228, Q_HI225_e1, Q_HI225_e3, Q_HI225_e5, Q_HO238, Q_HA_HO238, Q_HI225_e8, Q_BK222_e11, Q_X1_, Q_X9_⟩ hb_ hon hoff
          refine ⟨_, rfl, fun K hK => ?_⟩
          have e11 : a.tmps[11]? = some (.pointer (some ⟨g225, 0, none⟩)) := by rw [ha]; exact (putSel_off rfl).trans rfl
          replace ha := Aside0.mk ha
          have BK222 := Aside0.mk (Q_BK222 (hoff 11 (by kernel_rfl)))
          have HB := Aside0.mk Q_HB
          have HO228 := Aside0.mk (Q_HO228 (hon 1 (by kernel_rfl)))
          have HI225 := Aside0.mk (Q_HI225_e3 (hon 3 (by kernel_rfl)) hb_)
          refine goes_ Try.func49 (by kernel_rfl) rfl #[.pointer (some ⟨g225, 0, none⟩), .int .i64 200] (by rfl) rfl rfl (by first | (simp only [List.map_toArray, List.map_cons, List.map_nil, Act.eval, Array.getD_eq_getD_getElem?, Option.getD_some, e11]; done) | (simp only [List.map_toArray, List.map_cons, List.map_nil, Act.eval, Array.getD_eq_getD_getElem?, Option.getD_some, e11]; rfl)) ?_
          with_reducible refine (spec_l6Rd_pick.calls k g225 t223 t233 200 t234 t235 w _ ?side1 ?side2 A5.out).mono ?_
          (case side1 => repeat (first | (with_reducible first | exact HI225.out | apply IsS62.alloc | apply IsS62.drewN | apply IsS62.drew | apply IsS62.set_1 | refine IsS62.far ?_ NB225_222.out _) | exact HI225.out))
          (case side2 => repeat (first | (with_reducible first | exact HB.out | apply below_alloc | apply pw_below_drewN | apply below_drew1 | refine below_set ?_ (IsS62.ge HI225.out) | refine below_set ?_ GE222.out) | exact HB.out))
          rintro e w15 ⟨rfl, hi, hb, hk⟩
          refine ⟨_, rfl, ?_⟩
          have n0_ := Aside0.mk (KeepBut.blk hk (g' := gb222) (o := .cells #[.slice none 0 0, .int .i64 0, .int .i64 0] 27 (0, 0)) (by (with_reducible repeat (first | refine blk_drewN ?_ _ | refine blk_drew ?_ | refine blk_alloc ?_ _)); exact BK222.out) NB222_225.out (by simp))
          have n1_ := Aside0.mk (Kd.R_mono (Kd.R_keep (IsS62.apart (show IsS62 w _ g225 t223 t233 from by repeat (first | (with_reducible first | exact HI225.out | apply IsS62.alloc | apply IsS62.drewN | apply IsS62.drew | apply IsS62.set_1 | refine IsS62.far ?_ NB225_222.out _) | exact HI225.out)) (by (with_reducible repeat (first | apply Kd.R_alloc | apply Kd.R_drewN | apply Kd.R_drew)); exact HO228.out) (by decide)) hk (fun _ h => h.2)) (fun _ h => h.1))
          have n2_ := Aside0.mk (hb)
          have n3_ := Aside0.mk (hi)
          clear BK222
          clear HO228
          clear HB
          clear HI225
          have BK222 := n0_
          have HO228 := n1_
          have HB := n2_
          have HI225 := n3_
          clear n0_ n1_ n2_ n3_
          (try clear hb)
          (try clear hb2)
          (try clear hk)
          (try clear hi)
          refine hK.out _ _ ⟨v227, v237, adz_v237, m1_, m9_, (by rw [ha.out]; exact putSel_upk 2 hb_ rfl rfl rfl), fun _ => (by (with_reducible repeat (first | refine blk_drewN ?_ _ | refine blk_drew ?_ | refine blk_alloc ?_ _)); exact BK222.out), fun h0_ => absurd ((hon 1 (by kernel_rfl)).symm.trans h0_) (by decide), (by repeat (first | (with_reducible first | exact HB.out | apply below_alloc | apply pw_below_drewN | apply below_drew1 | refine below_set ?_ (IsS62.ge HI225.out) | refine below_set ?_ GE222.out) | exact HB.out)), fun _ => (by (with_reducible repeat (first | apply Kd.R_alloc | apply Kd.R_drewN | apply Kd.R_drew)); exact HO228.out), fun _ h1_ => absurd ((hon 3 (by kernel_rfl)).symm.trans h1_) (by decide), fun _ h1_ => absurd ((up_self b 5).symm.trans h1_) (by decide), fun _ _ => (by repeat (first | (with_reducible first | exact HI225.out | apply IsS62.alloc | apply IsS62.drewN | apply IsS62.drew | apply IsS62.set_1 | refine IsS62.far ?_ NB225_222.out _) | exact HI225.out)), fun h0_ => absurd ((hoff 6 (by kernel_rfl)).symm.trans h0_) (by decide), fun h0_ => absurd ((hoff 6 (by kernel_rfl)).symm.trans h0_) (by decide), fun h0_ => absurd ((hoff 8 (by kernel_rfl)).symm.trans h0_) (by decide), fun h0_ => absurd ((hoff 11 (by kernel_rfl)).symm.trans h0_) (by decide), Q_X1_, fun h0_ => absurd ((hoff 9 (by kernel_rfl)).symm.trans h0_) (by decide)⟩
        refine steps_cons ?_ ?_
        · rintro b a w' ⟨v227, v237, adz_v237, m1_, m9_, ha, Q_BK222, Q_HI225, Q_HB, Q_HO228, Q_HI225_e1, Q_HI225_e3, Q_HI225_e5, Q_HO238, Q_HA_HO238, Q_HI225_e8, Q_BK222_e11, Q_X1_, Q_X9_⟩ hb_ hon hoff
          refine ⟨_, rfl, fun K hK => ?_⟩
          have e10 : a.tmps[10]? = some (.int .i64 t232) := by rw [ha]; exact putSel_on (e := (3, 10, .int .i64 t232)) 1 rfl rfl (hon 3 (by kernel_rfl)) rfl
          have e12 : a.tmps[12]? = some (.int .i64 t234) := by rw [ha]; exact putSel_on (e := (5, 12, .int .i64 t234)) 2 rfl rfl (hon 5 (by kernel_rfl)) rfl
          replace ha := Aside0.mk ha
          have HB := Aside0.mk Q_HB
          have HO228 := Aside0.mk (Q_HO228 (hon 1 (by kernel_rfl)))
          refine Kd.R_lit_step (Kd.int .i64) _ 3 ?hg (N := 13) ?hd (xs := ([t232, t234, 1000000, 1000001, (-1), 9999] : List Int)) (inner := [.int .i64 t232, .int .i64 t234, .int .i64 1000000, .int .i64 1000001, .int .i64 (-1), .int .i64 9999]) (ok := fun _ => True) (okp := fun _ => True) ?hr ?hp (fun _ hk => hk) trivial (Below.refl _ _) (Nat.le_refl _) (by simp) ?_; (case hd => rfl); (case hg => rfl); (case hr => first | (go_simp; done) | (go_simp; rfl)); (case hp => exact (Reps.one (show Kd.M (Kd.int .i64) _ _ _ t232 [.int .i64 t232] from rfl) (Reps.one (show Kd.M (Kd.int .i64) _ _ _ t234 [.int .i64 t234] from rfl) (Reps.one (show Kd.M (Kd.int .i64) _ _ _ 1000000 [.int .i64 1000000] from rfl) (Reps.one (show Kd.M (Kd.int .i64) _ _ _ 1000001 [.int .i64 1000001] from rfl) (Reps.one (show Kd.M (Kd.int .i64) _ _ _ (-1) [.int .i64 (-1)] from rfl) (Reps.one (show Kd.M (Kd.int .i64) _ _ _ 9999 [.int .i64 9999] from rfl) (Reps.none _ _))))))))
          intro v237 w16 ho17 hb hg_ hnew_
          clear hg_ hnew_
          (first | rw [← Ny236.out] at ho17 | (simp only [Int.reduceToNat] at ho17; rw [← Ny236.out] at ho17))
          have n0_ := Aside0.mk (Kd.R_elder' (by (with_reducible repeat (first | apply Kd.R_alloc | apply Kd.R_drewN | apply Kd.R_drew)); exact HO228.out) (Kd.R_base ho17) hb)
          have n1_ := Aside0.mk (Kd.R_lower (Kd.R_new' ho17 (Kd.R_lt (by (with_reducible repeat (first | apply Kd.R_alloc | apply Kd.R_drewN | apply Kd.R_drew)); exact HO228.out))) (below_size (by repeat (first | (with_reducible first | exact HB.out | apply below_alloc | apply pw_below_drewN | apply below_drew1 | refine below_set ?_ GE222.out) | exact HB.out))))
          have n4_ := Aside0.mk (below_step (by repeat (first | (with_reducible first | exact HB.out | apply below_alloc | apply pw_below_drewN | apply below_drew1 | refine below_set ?_ GE222.out) | exact HB.out)) hb)
          have z_BK222 := fun (h0_ : b 11 = false) => (show w16.heap[gb222]? = some (.cells #[.slice none 0 0, .int .i64 0, .int .i64 0] 27 (0, 0)) from by first | exact (blk_below (g := gb222) (o := .cells #[.slice none 0 0, .int .i64 0, .int .i64 0] 27 (0, 0)) (by (with_reducible repeat (first | refine blk_drewN ?_ _ | refine blk_drew ?_ | refine blk_alloc ?_ _)); exact (Q_BK222 h0_)) hb))
          have z_HI225_e5 := fun (h0_ : b 5 = true) (h1_ : b 8 = false) => (show IsS62 w w16 g225 t223 t235 from by first | exact (IsS62.below (by repeat (first | (with_reducible first | exact (Q_HI225_e5 h0_ h1_) | apply IsS62.alloc | apply IsS62.drewN | apply IsS62.drew | apply IsS62.set_1 | refine IsS62.far ?_ NB225_222.out _) | exact (Q_HI225_e5 h0_ h1_))) hb))
          have z_HI225_e8 := fun (h0_ : b 8 = true) => (show IsS62 w w16 g225 t223 t240 from by first | exact (IsS62.below (by repeat (first | (with_reducible first | exact (Q_HI225_e8 h0_) | apply IsS62.alloc | apply IsS62.drewN | apply IsS62.drew | apply IsS62.set_1 | refine IsS62.far ?_ NB225_222.out _) | exact (Q_HI225_e8 h0_))) hb))
          have z_BK222_e11 := fun (h0_ : b 11 = true) => (show w16.heap[gb222]? = some (.cells #[v227, .int .i64 t229, .int .i64 t230] 27 (0, 0)) from by first | exact (blk_below (g := gb222) (o := .cells #[v227, .int .i64 t229, .int .i64 t230] 27 (0, 0)) (by (with_reducible repeat (first | refine blk_drewN ?_ _ | refine blk_drew ?_ | refine blk_alloc ?_ _)); exact (Q_BK222_e11 h0_)) hb))
          clear HO228
          clear HB
          have HO228 := n0_
          have HO238 := n1_
          have HB := n4_
          clear n0_ n1_ n4_
          clear hb ho17
          obtain ⟨Ao18, co18, eo18⟩ := Kd.R_slice HO238.out
          subst eo18
          obtain ⟨ado18, fo18, _⟩ := Kd.at_int (Kd.R_reads' HO238.out).2.2 0 (by decide) (by rw [Ny236.out]; simp)
          cases fo18
          refine hK.out _ _ ⟨v227, .slice (some ado18) y236.length co18, ado18, m1_, m9_, (by rw [ha.out]; exact putSel_upk 3 hb_ rfl rfl rfl), z_BK222, fun h0_ => absurd ((hon 1 (by kernel_rfl)).symm.trans h0_) (by decide), (by repeat (first | (with_reducible first | exact HB.out | apply below_alloc | apply pw_below_drewN | apply below_drew1 | refine below_set ?_ GE222.out) | exact HB.out)), fun _ => (by (with_reducible repeat (first | apply Kd.R_alloc | apply Kd.R_drewN | apply Kd.R_drew)); first | exact Kd.R_mono HO228.out (fun _ hk => hk.2) | exact Kd.R_mono HO228.out (fun _ _ => trivial)), fun _ h1_ => absurd ((hon 3 (by kernel_rfl)).symm.trans h1_) (by decide), fun _ h1_ => absurd ((hon 5 (by kernel_rfl)).symm.trans h1_) (by decide), z_HI225_e5, fun _ => (by (with_reducible repeat (first | apply Kd.R_alloc | apply Kd.R_drewN | apply Kd.R_drew)); first | exact Kd.R_mono HO238.out (fun _ hk => hk.2) | exact Kd.R_mono HO238.out (fun _ _ => trivial)), fun _ => ⟨_, rfl⟩, z_HI225_e8, z_BK222_e11, Q_X1_, fun h0_ => absurd ((hoff 9 (by kernel_rfl)).symm.trans h0_) (by decide)⟩
        refine steps_cons ?_ ?_
        · rintro b a w' ⟨v227, v237, adz_v237, m1_, m9_, ha, Q_BK222, Q_HI225, Q_HB, Q_HO228, Q_HI225_e1, Q_HI225_e3, Q_HI225_e5, Q_HO238, Q_HA_HO238, Q_HI225_e8, Q_BK222_e11, Q_X1_, Q_X9_⟩ hb_ hon hoff
          refine ⟨_, rfl, fun K hK => ?_⟩
          have e14 : a.tmps[14]? = some (.pointer (some ⟨g225, 0, none⟩)) := by rw [ha]; exact (putSel_off rfl).trans rfl
          replace ha := Aside0.mk ha
          have BK222 := Aside0.mk (Q_BK222 (hoff 11 (by kernel_rfl)))
          have HB := Aside0.mk Q_HB
          have HO228 := Aside0.mk (Q_HO228 (hon 1 (by kernel_rfl)))
          have HI225 := Aside0.mk (Q_HI225_e5 (hon 5 (by kernel_rfl)) hb_)
          refine goes_ Try.func49 (by kernel_rfl) rfl #[.pointer (some ⟨g225, 0, none⟩), .int .i64 6] (by rfl) rfl rfl (by first | (simp only [List.map_toArray, List.map_cons, List.map_nil, Act.eval, Array.getD_eq_getD_getElem?, Option.getD_some, e14]; done) | (simp only [List.map_toArray, List.map_cons, List.map_nil, Act.eval, Array.getD_eq_getD_getElem?, Option.getD_some, e14]; rfl)) ?_
          with_reducible refine (spec_l6Rd_pick.calls k g225 t223 t235 6 t239 t240 w _ ?side1 ?side2 A6.out).mono ?_
          (case side1 => repeat (first | (with_reducible first | exact HI225.out | apply IsS62.alloc | apply IsS62.drewN | apply IsS62.drew | apply IsS62.set_1 | refine IsS62.far ?_ NB225_222.out _) | exact HI225.out))
          (case side2 => repeat (first | (with_reducible first | exact HB.out | apply below_alloc | apply pw_below_drewN | apply below_drew1 | refine below_set ?_ (IsS62.ge HI225.out) | refine below_set ?_ GE222.out) | exact HB.out))
          rintro e w16 ⟨rfl, hi, hb, hk⟩
          refine ⟨_, rfl, ?_⟩
          have n0_ := Aside0.mk (KeepBut.blk hk (g' := gb222) (o := .cells #[.slice none 0 0, .int .i64 0, .int .i64 0] 27 (0, 0)) (by (with_reducible repeat (first | refine blk_drewN ?_ _ | refine blk_drew ?_ | refine blk_alloc ?_ _)); exact BK222.out) NB222_225.out (by simp))
          have n1_ := Aside0.mk (Kd.R_mono (Kd.R_keep (IsS62.apart (show IsS62 w _ g225 t223 t235 from by repeat (first | (with_reducible first | exact HI225.out | apply IsS62.alloc | apply IsS62.drewN | apply IsS62.drew | apply IsS62.set_1 | refine IsS62.far ?_ NB225_222.out _) | exact HI225.out)) (by (with_reducible repeat (first | apply Kd.R_alloc | apply Kd.R_drewN | apply Kd.R_drew)); exact HO228.out) (by decide)) hk (fun _ h => h.2)) (fun _ h => h.1))
          have n2_ := Aside0.mk (hb)
          have n3_ := Aside0.mk (hi)
          have z_HO238 := fun (h0_ : b 6 = true) => (show Kd.R (Kd.int .i64) 3 w16 w.heap.size (fun _ => True) v237 y236 from by first | exact (Kd.R_mono (Kd.R_keep (IsS62.apart (show IsS62 w _ g225 t223 t235 from by repeat (first | (with_reducible first | exact HI225.out | apply IsS62.alloc | apply IsS62.drewN | apply IsS62.drew | apply IsS62.set_1 | refine IsS62.far ?_ NB225_222.out _) | exact HI225.out)) (by (with_reducible repeat (first | apply Kd.R_alloc | apply Kd.R_drewN | apply Kd.R_drew)); exact (Q_HO238 h0_)) (by decide)) hk (fun _ h => h.2)) (fun _ h => h.1)) | exact Kd.R_mono (Kd.R_mono (Kd.R_keep (IsS62.apart (show IsS62 w _ g225 t223 t235 from by repeat (first | (with_reducible first | exact HI225.out | apply IsS62.alloc | apply IsS62.drewN | apply IsS62.drew | apply IsS62.set_1 | refine IsS62.far ?_ NB225_222.out _) | exact HI225.out)) (by (with_reducible repeat (first | apply Kd.R_alloc | apply Kd.R_drewN | apply Kd.R_drew)); exact (Q_HO238 h0_)) (by decide)) hk (fun _ h => h.2)) (fun _ h => h.1)) (fun _ h_ => by first | trivial | exact h_ | exact h_.1))
          clear BK222
          clear HO228
          clear HB
          clear HI225
          have BK222 := n0_
          have HO228 := n1_
          have HB := n2_
          have HI225 := n3_
          clear n0_ n1_ n2_ n3_
          (try clear hb)
          (try clear hb2)
          (try clear hk)
          (try clear hi)
          refine hK.out _ _ ⟨v227, v237, adz_v237, m1_, m9_, (by rw [ha.out]; exact putSel_upk 4 hb_ rfl rfl rfl), fun _ => (by (with_reducible repeat (first | refine blk_drewN ?_ _ | refine blk_drew ?_ | refine blk_alloc ?_ _)); exact BK222.out), fun h0_ => absurd ((hon 1 (by kernel_rfl)).symm.trans h0_) (by decide), (by repeat (first | (with_reducible first | exact HB.out | apply below_alloc | apply pw_below_drewN | apply below_drew1 | refine below_set ?_ (IsS62.ge HI225.out) | refine below_set ?_ GE222.out) | exact HB.out)), fun _ => (by (with_reducible repeat (first | apply Kd.R_alloc | apply Kd.R_drewN | apply Kd.R_drew)); exact HO228.out), fun _ h1_ => absurd ((hon 3 (by kernel_rfl)).symm.trans h1_) (by decide), fun _ h1_ => absurd ((hon 5 (by kernel_rfl)).symm.trans h1_) (by decide), fun _ h1_ => absurd ((up_self b 8).symm.trans h1_) (by decide), z_HO238, Q_HA_HO238, fun _ => (by repeat (first | (with_reducible first | exact HI225.out | apply IsS62.alloc | apply IsS62.drewN | apply IsS62.drew | apply IsS62.set_1 | refine IsS62.far ?_ NB225_222.out _) | exact HI225.out)), fun h0_ => absurd ((hoff 11 (by kernel_rfl)).symm.trans h0_) (by decide), Q_X1_, fun h0_ => absurd ((hoff 9 (by kernel_rfl)).symm.trans h0_) (by decide)⟩
        refine steps_cons ?_ ?_
        · rintro b a w' ⟨v227, v237, adz_v237, m1_, m9_, ha, Q_BK222, Q_HI225, Q_HB, Q_HO228, Q_HI225_e1, Q_HI225_e3, Q_HI225_e5, Q_HO238, Q_HA_HO238, Q_HI225_e8, Q_BK222_e11, Q_X1_, Q_X9_⟩ hb_ hon hoff
          refine ⟨_, rfl, fun K hK => ?_⟩
          have e13 : a.tmps[13]? = some (v237) := by rw [ha]; exact putSel_on (e := (6, 13, v237)) 3 rfl rfl (hon 6 (by kernel_rfl)) rfl
          have e15 : a.tmps[15]? = some (.int .i64 t239) := by rw [ha]; exact putSel_on (e := (8, 15, .int .i64 t239)) 4 rfl rfl (hon 8 (by kernel_rfl)) rfl
          replace ha := Aside0.mk ha
          have HB := Aside0.mk Q_HB
          have HO228 := Aside0.mk (Q_HO228 (hon 1 (by kernel_rfl)))
          have HO238 := Aside0.mk (Q_HO238 (hon 6 (by kernel_rfl)))
          have HA_HO238 := Aside0.mk (Q_HA_HO238 (hon 6 (by kernel_rfl)))
          have HI225 := Aside0.mk (Q_HI225_e8 (hon 8 (by kernel_rfl)))
          obtain ⟨c_, hv_⟩ := HA_HO238.out
          rw [hv_] at e13
          refine value_ (w1 := w') (v := .pointer (some (adz_v237.add (t239).toNat))) (by rfl) rfl ?_ ?_
          · go_simp
            (try simp only [i64_w])
            try rfl
          refine hK.out _ _ ⟨v227, v237, adz_v237, m1_, (.pointer (some (adz_v237.add (t239).toNat))), (by rw [ha.out]; exact putSel_upk 5 hb_ rfl rfl rfl), Q_BK222, fun h0_ => absurd ((hon 1 (by kernel_rfl)).symm.trans h0_) (by decide), Q_HB, Q_HO228, fun _ h1_ => absurd ((hon 3 (by kernel_rfl)).symm.trans h1_) (by decide), fun _ h1_ => absurd ((hon 5 (by kernel_rfl)).symm.trans h1_) (by decide), fun _ h1_ => absurd ((hon 8 (by kernel_rfl)).symm.trans h1_) (by decide), Q_HO238, Q_HA_HO238, Q_HI225_e8, Q_BK222_e11, Q_X1_, fun _ => rfl⟩
        refine steps_cons ?_ ?_
        · rintro b a w' ⟨v227, v237, adz_v237, m1_, m9_, ha, Q_BK222, Q_HI225, Q_HB, Q_HO228, Q_HI225_e1, Q_HI225_e3, Q_HI225_e5, Q_HO238, Q_HA_HO238, Q_HI225_e8, Q_BK222_e11, Q_X1_, Q_X9_⟩ hb_ hon hoff
          refine ⟨_, rfl, fun K hK => ?_⟩
          have e16 : a.tmps[16]? = some (m9_) := by rw [ha]; exact putSel_on (e := (9, 16, m9_)) 5 rfl rfl (hon 9 (by kernel_rfl)) rfl
          rw [Q_X9_ (hon 9 (by kernel_rfl))] at e16
          replace ha := Aside0.mk ha
          have HB := Aside0.mk Q_HB
          have HO228 := Aside0.mk (Q_HO228 (hon 1 (by kernel_rfl)))
          have HO238 := Aside0.mk (Q_HO238 (hon 6 (by kernel_rfl)))
          have HA_HO238 := Aside0.mk (Q_HA_HO238 (hon 6 (by kernel_rfl)))
          have HI225 := Aside0.mk (Q_HI225_e8 (hon 8 (by kernel_rfl)))
          obtain ⟨c_, hv_⟩ := HA_HO238.out
          have hF_ := HO238.out
          rw [hv_] at hF_
          obtain ⟨ad_, ea_, hx_⟩ := Kd.at_int (Kd.R_reads' hF_).2.2 t239 (of_eq_true pi241) (of_eq_true qi241)
          cases ea_
          refine value_ (w1 := w') (v := .int .i64 (rd y236 t239)) (by rfl) rfl ?_ ?_
          · go_simp
            (try simp only [i64_w])
            try rfl
          refine hK.out _ _ ⟨v227, v237, adz_v237, m1_, m9_, (by rw [ha.out]; exact putSel_upk 6 hb_ rfl rfl rfl), Q_BK222, fun h0_ => absurd ((hon 1 (by kernel_rfl)).symm.trans h0_) (by decide), Q_HB, Q_HO228, fun _ h1_ => absurd ((hon 3 (by kernel_rfl)).symm.trans h1_) (by decide), fun _ h1_ => absurd ((hon 5 (by kernel_rfl)).symm.trans h1_) (by decide), fun _ h1_ => absurd ((hon 8 (by kernel_rfl)).symm.trans h1_) (by decide), Q_HO238, Q_HA_HO238, Q_HI225_e8, Q_BK222_e11, Q_X1_, Q_X9_⟩
        refine steps_cons ?_ ?_
        · rintro b a w' ⟨v227, v237, adz_v237, m1_, m9_, ha, Q_BK222, Q_HI225, Q_HB, Q_HO228, Q_HI225_e1, Q_HI225_e3, Q_HI225_e5, Q_HO238, Q_HA_HO238, Q_HI225_e8, Q_BK222_e11, Q_X1_, Q_X9_⟩ hb_ hon hoff
          refine ⟨_, rfl, fun K hK => ?_⟩
          have e2 : a.tmps[2]? = some (.pointer (some ⟨gb222, 0, none⟩)) := by rw [ha]; exact (putSel_off rfl).trans rfl
          have e8 : a.tmps[8]? = some (m1_) := by rw [ha]; exact putSel_on (e := (1, 8, m1_)) 0 rfl rfl (hon 1 (by kernel_rfl)) rfl
          rw [Q_X1_ (hon 1 (by kernel_rfl))] at e8
          replace ha := Aside0.mk ha
          have BK222 := Aside0.mk (Q_BK222 hb_)
          have HB := Aside0.mk Q_HB
          have HO228 := Aside0.mk (Q_HO228 (hon 1 (by kernel_rfl)))
          have HI225 := Aside0.mk (Q_HI225_e8 (hon 8 (by kernel_rfl)))
          obtain ⟨Ao17, co17, eo17⟩ := Kd.R_slice HO228.out
          (first | subst eo17 | (injection eo17 with f1_ f2_ f3_; have f4_ := f1_.symm; have f5_ := f3_.symm; clear f1_ f2_ f3_; subst f4_; subst f5_))
          have hs18 : w'.cell? ⟨gb222, 0, none⟩ = some (.slice none 0 0) := (blk_cell BK222.out 0).trans rfl
          have hfs18 := blk_frozen BK222.out 0
          have hs19 : w'.cell? ⟨gb222, 1, none⟩ = some (.int .i64 0) := (blk_cell BK222.out 1).trans rfl
          have hfs19 := blk_frozen BK222.out 1
          have hs20 : w'.cell? ⟨gb222, 2, none⟩ = some (.int .i64 0) := (blk_cell BK222.out 2).trans rfl
          have hfs20 := blk_frozen BK222.out 2
          refine skip_ (w1 := ?_) (by rfl) rfl ?_ ?_
          rotate_left
          · go_simp
            rfl
          refine hK.out _ _ ⟨.slice Ao17 t226.length co17, v237, adz_v237, m1_, m9_, (by rw [ha.out]; exact putSel_none (v := undef) rfl), fun h0_ => absurd ((up_self b 11).symm.trans h0_) (by decide), fun h0_ => absurd ((hon 1 (by kernel_rfl)).symm.trans h0_) (by decide), (by repeat (first | (with_reducible first | exact HB.out | apply below_alloc | apply pw_below_drewN | apply below_drew1 | refine below_set ?_ (IsS62.ge HI225.out) | refine below_set ?_ GE222.out) | exact HB.out)), fun _ => (by (with_reducible repeat (first | apply Kd.R_alloc | apply Kd.R_drewN | apply Kd.R_drew)); exact Kd.R_mono (Kd.R_far (p := ⟨gb222, 2, none⟩) (Kd.R_far (p := ⟨gb222, 1, none⟩) (Kd.R_far (p := ⟨gb222, 0, none⟩) (Kd.R_types HO228.out BK222.out (by decide)) (fun _ hk => hk.2) (.slice Ao17 t226.length co17)) (fun _ hk => hk.2) (.int .i64 t229)) (fun _ hk => hk.2) (.int .i64 t230)) (fun _ hk => trivial)), fun _ h1_ => absurd ((hon 3 (by kernel_rfl)).symm.trans h1_) (by decide), fun _ h1_ => absurd ((hon 5 (by kernel_rfl)).symm.trans h1_) (by decide), fun _ h1_ => absurd ((hon 8 (by kernel_rfl)).symm.trans h1_) (by decide), fun h0_ => (by (with_reducible repeat (first | apply Kd.R_alloc | apply Kd.R_drewN | apply Kd.R_drew)); exact Kd.R_mono (Kd.R_far (p := ⟨gb222, 2, none⟩) (Kd.R_far (p := ⟨gb222, 1, none⟩) (Kd.R_far (p := ⟨gb222, 0, none⟩) (Kd.R_types (Q_HO238 h0_) BK222.out (by decide)) (fun _ hk => hk.2) (.slice Ao17 t226.length co17)) (fun _ hk => hk.2) (.int .i64 t229)) (fun _ hk => hk.2) (.int .i64 t230)) (fun _ hk => hk.1)), Q_HA_HO238, fun _ => (by repeat (first | (with_reducible first | exact HI225.out | apply IsS62.alloc | apply IsS62.drewN | apply IsS62.drew | apply IsS62.set_1 | refine IsS62.far ?_ NB225_222.out _) | exact HI225.out)), fun _ => (by (with_reducible repeat (first | refine blk_drewN ?_ _ | refine blk_drew ?_ | refine blk_alloc ?_ _)); refine blk_put (cs := #[.slice Ao17 t226.length co17, .int .i64 t229, .int .i64 0]) ?_ 2 _ rfl; (with_reducible repeat (first | refine blk_drewN ?_ _ | refine blk_drew ?_ | refine blk_alloc ?_ _)); refine blk_put (cs := #[.slice Ao17 t226.length co17, .int .i64 0, .int .i64 0]) ?_ 1 _ rfl; (with_reducible repeat (first | refine blk_drewN ?_ _ | refine blk_drew ?_ | refine blk_alloc ?_ _)); refine blk_put (cs := #[.slice none 0 0, .int .i64 0, .int .i64 0]) ?_ 0 _ rfl; (with_reducible repeat (first | refine blk_drewN ?_ _ | refine blk_drew ?_ | refine blk_alloc ?_ _)); exact BK222.out), Q_X1_, Q_X9_⟩
        refine steps_cons ?_ ?_
        · rintro b a w' ⟨v227, v237, adz_v237, m1_, m9_, ha, Q_BK222, Q_HI225, Q_HB, Q_HO228, Q_HI225_e1, Q_HI225_e3, Q_HI225_e5, Q_HO238, Q_HA_HO238, Q_HI225_e8, Q_BK222_e11, Q_X1_, Q_X9_⟩ hb_ hon hoff
          refine ⟨_, rfl, fun K hK => ?_⟩
          have e17 : a.tmps[17]? = some (.int .i64 (rd y236 t239)) := by rw [ha]; exact putSel_on (e := (10, 17, .int .i64 (rd y236 t239))) 6 rfl rfl (hon 10 (by kernel_rfl)) rfl
          replace ha := Aside0.mk ha
          have HB := Aside0.mk Q_HB
          have HO228 := Aside0.mk (Q_HO228 (hon 1 (by kernel_rfl)))
          have HO238 := Aside0.mk (Q_HO238 (hon 6 (by kernel_rfl)))
          have HA_HO238 := Aside0.mk (Q_HA_HO238 (hon 6 (by kernel_rfl)))
          have HI225 := Aside0.mk (Q_HI225_e8 (hon 8 (by kernel_rfl)))
          have BK222 := Aside0.mk (Q_BK222_e11 (hon 11 (by kernel_rfl)))
          refine value_ (w1 := w') (v := .int .i64 (rd y236 t239)) (by rfl) rfl ?_ ?_
          · go_simp
            (try simp only [i64_w])
            try rfl
          refine hK.out _ _ ⟨v227, v237, adz_v237, m1_, m9_, (by rw [ha.out]; exact putSel_upk 7 hb_ rfl rfl rfl), fun h0_ => absurd ((hon 11 (by kernel_rfl)).symm.trans h0_) (by decide), fun h0_ => absurd ((hon 1 (by kernel_rfl)).symm.trans h0_) (by decide), Q_HB, Q_HO228, fun _ h1_ => absurd ((hon 3 (by kernel_rfl)).symm.trans h1_) (by decide), fun _ h1_ => absurd ((hon 5 (by kernel_rfl)).symm.trans h1_) (by decide), fun _ h1_ => absurd ((hon 8 (by kernel_rfl)).symm.trans h1_) (by decide), Q_HO238, Q_HA_HO238, Q_HI225_e8, Q_BK222_e11, Q_X1_, Q_X9_⟩
        exact steps_nil
      rintro b a w23 hall ⟨v227, v237, adz_v237, m1_, m9_, ha, Q_BK222, Q_HI225, Q_HB, Q_HO228, Q_HI225_e1, Q_HI225_e3, Q_HI225_e5, Q_HO238, Q_HA_HO238, Q_HI225_e8, Q_BK222_e11, Q_X1_, Q_X9_⟩
      clear BK222 HB HI225
      have hb1_ := hall 1 (by kernel_rfl)
      have hb3_ := hall 3 (by kernel_rfl)
      have hb5_ := hall 5 (by kernel_rfl)
      have hb6_ := hall 6 (by kernel_rfl)
      have hb8_ := hall 8 (by kernel_rfl)
      have hb9_ := hall 9 (by kernel_rfl)
      have hb10_ := hall 10 (by kernel_rfl)
      have hb11_ := hall 11 (by kernel_rfl)
      have hb12_ := hall 12 (by kernel_rfl)
      subst ha
      obtain rfl := Q_X1_ hb1_
      obtain rfl := Q_X9_ hb9_
      simp only [putSel, hb1_, hb3_, hb5_, hb6_, hb8_, hb9_, hb10_, hb11_, hb12_, if_true, Act.put, List.setIfInBounds_toArray, List.set_cons_zero, List.set_cons_succ]
      clear Q_BK222
      clear Q_HI225
      have HB := Aside0.mk Q_HB
      clear Q_HB
      have HO228 := Aside0.mk (Q_HO228 hb1_)
      clear Q_HO228
      clear Q_HI225_e1
      clear Q_HI225_e3
      clear Q_HI225_e5
      have HO238 := Aside0.mk (Q_HO238 hb6_)
      clear Q_HO238
      have HA_HO238 := Aside0.mk (Q_HA_HO238 hb6_)
      clear Q_HA_HO238
      have HI225 := Aside0.mk (Q_HI225_e8 hb8_)
      clear Q_HI225_e8
      have BK222 := Aside0.mk (Q_BK222_e11 hb11_)
      clear Q_BK222_e11
      clear hall hb1_ hb3_ hb5_ hb6_ hb8_ hb9_ hb10_ hb11_ hb12_
      obtain ⟨co24, eo24⟩ := HA_HO238.out
      clear HA_HO238
      subst eo24
      try go_wp2
      refine bodyPost_ret (results_ct rfl _ _ gb222 27 #[v227, .int .i64 t229, .int .i64 t230] (0, 0) _ rfl (by (with_reducible repeat (first | refine blk_drewN ?_ _ | refine blk_drew ?_ | refine blk_alloc ?_ _)); exact BK222.out) Try.underlying27 rfl (by kernel_rfl)) rfl ?_
      exact ⟨_, by first | rfl | (simp [errW_none, errW_some] <;> rfl) | (simp [*, errW_none, errW_some] <;> rfl), by (with_reducible repeat (first | apply Kd.R_alloc | apply Kd.R_drewN | apply Kd.R_drew)); exact Kd.R_mono HO228.out (fun _ hk => trivial), by repeat (first | (with_reducible first | exact HB.out | apply below_alloc | apply pw_below_drewN | apply below_drew1 | refine below_set ?_ (IsS62.ge HI225.out) | refine below_set ?_ GE222.out) | exact HB.out)⟩
    · rw [if_neg c8] at H
      exact absurd H (by simp)
  · rw [if_neg c7] at H
    exact absurd H (by simp)

end Go.Proofs.Ytdbkpmhdjdebhaa.G
