-- Made by gprint.py (the kit's print with contracts of this session's own among its functions).
import Derived.Test.YthmhmmgackgaaaaG0
import Derived.Test.YthmhmmgackgaaaaG5
import Derived.Test.YthmhmmgackgaaaaG6
namespace Go.Proofs.Ythmhmmgackgaaaa.G
open Go.RowKit Go.Proofs.YthmhmmgackgaaaaW.PrintWords Go.Proofs.YthmhmmgackgaaaaW.PrintLast Go.Proofs.YthmhmmgackgaaaaW.PrintMore
attribute [local go_sem] max2_int min2_int max_two min_two max_three min_three max_four min_four   -- for this text's walks alone
set_option linter.unusedVariables false
set_option linter.unusedSimpArgs false

/-! ### spec_DrawRowsHas: function 27 -/
def spec_DrawRowsHas.f (k : Nat) (l0 : List Int) : Option ((List (List Int)) × Int) := (spec_l6Open.f l0).bind fun bt357 => ((spec_l91Rows.f k bt357.1 bt357.2).bind fun bt360 => ((spec_l6Rd_pick.f k bt357.1 bt360.2 60).bind fun bt364 => ((spec_l6Rd_pick.f k bt357.1 bt364.2 200).bind fun bt366 => ((some (([bt364.1, bt366.1, 10000, 10001, (-1)] : List Int) : List Int)).bind fun y368 => ((spec_l6Rd_pick.f k bt357.1 bt366.2 5).bind fun bt371 => (if 0 ≤ bt371.1 then (if bt371.1 < (y368.length : Int) then (some (bt360.1, rd y368 bt371.1)) else (none)) else (none)))))))
theorem spec_DrawRowsHas.mono : ∀ a0 k, LeO (spec_DrawRowsHas.f k a0) (spec_DrawRowsHas.f (k + 1) a0) := by
  intro a0 k
  unfold spec_DrawRowsHas.f
  repeat' first
      | (with_reducible exact spec_l6Rd_pick.mono _ _ _ _)
      | (with_reducible exact spec_l91Rows.mono _ _ _)
      | (with_reducible exact LeO.refl _)
      | (with_reducible exact LeO.none _)
      | (with_reducible refine LeO.ite ?_ ?_)
      | (with_reducible refine LeO.bind ?_ (fun _ => ?_))
      | exact spec_l6Rd_pick.mono _ _ _ _
      | exact spec_l91Rows.mono _ _ _
      | exact LeO.none _
      | refine LeO.ite ?_ ?_
      | refine LeO.bind ?_ (fun _ => ?_)
def spec_DrawRowsHas.T2 : Bool × List (List Nat × List Nat) := (true, [([], []), ([0], [0]), ([], []), ([2, 1], [2]), ([], []), ([4, 3], [4]), ([3, 5], [3, 5]), ([], []), ([7, 5], [7]), ([6, 8], [6, 8]), ([9], [9]), ([1, 8, 0, 1], [1]), ([10, 11, 0, 1, 2, 3, 4, 5, 6, 7, 8, 9, 10, 11], [10])])
def spec_DrawRowsHas.B2 : List Nat := [0, 1, 0, 7, 0, 31, 63, 0, 191, 511, 1023, 447, 4095]
theorem spec_DrawRowsHas.tab2 : rtab .any (opsOf Try.f27 2) = spec_DrawRowsHas.T2 := by kernel_rfl
theorem spec_DrawRowsHas.bits2 : waitsOk spec_DrawRowsHas.T2.2 spec_DrawRowsHas.B2 = true := by kernel_rfl
set_option maxHeartbeats 8000000 in
set_option maxRecDepth 100000 in
theorem spec_DrawRowsHas.calls (k : Nat) (A0 : Option Addr) (c0 : Nat) (l0 : List Int) (r1 : List (List Int)) (r2 : Int) (w : World) (hr0 : Kd.C (Kd.int .u8) w A0 l0.length l0) (hc0 : l0.length ≤ c0) (h : spec_DrawRowsHas.f k l0 = some (r1, r2)) :
    Calls Try.prog 27 #[.slice A0 l0.length c0] w fun e w' => ∃ v0_ : Value, e = .returned (.tuple #[v0_, .int .i64 r2]) ∧ Kd.N (Kd.slice 3 (Kd.int .i64)) 32 w' w.heap.size (fun k_ => (w.heap.size ≤ k_)) v0_ r1 ∧ Below w.heap.size w w' := by
  have HR0 := Aside0.mk hr0
  have HC0 := Aside0.mk hc0
  clear hr0 hc0
  have HB := Aside0.mk (Below.refl w.heap.size w)
  have H : ((spec_l6Open.f l0).bind fun bt357 => ((spec_l91Rows.f k bt357.1 bt357.2).bind fun bt360 => ((spec_l6Rd_pick.f k bt357.1 bt360.2 60).bind fun bt364 => ((spec_l6Rd_pick.f k bt357.1 bt364.2 200).bind fun bt366 => ((some (([bt364.1, bt366.1, 10000, 10001, (-1)] : List Int) : List Int)).bind fun y368 => ((spec_l6Rd_pick.f k bt357.1 bt366.2 5).bind fun bt371 => (if 0 ≤ bt371.1 then (if bt371.1 < (y368.length : Int) then (some (bt360.1, rd y368 bt371.1)) else (none)) else (none)))))))) = some (r1, r2) := h
  clear h
  replace H := Option.bind_eq_some_iff.mp H
  obtain ⟨⟨t357, t358⟩, A20, H⟩ := H
  replace H : ((spec_l91Rows.f k t357 t358).bind fun bt360 => ((spec_l6Rd_pick.f k t357 bt360.2 60).bind fun bt364 => ((spec_l6Rd_pick.f k t357 bt364.2 200).bind fun bt366 => ((some (([bt364.1, bt366.1, 10000, 10001, (-1)] : List Int) : List Int)).bind fun y368 => ((spec_l6Rd_pick.f k t357 bt366.2 5).bind fun bt371 => (if 0 ≤ bt371.1 then (if bt371.1 < (y368.length : Int) then (some (bt360.1, rd y368 bt371.1)) else (none)) else (none))))))) = some (r1, r2) := H
  have A2 := Aside0.mk A20
  clear A20
  replace H := Option.bind_eq_some_iff.mp H
  obtain ⟨⟨t360, t363⟩, A30, H⟩ := H
  replace H : ((spec_l6Rd_pick.f k t357 t363 60).bind fun bt364 => ((spec_l6Rd_pick.f k t357 bt364.2 200).bind fun bt366 => ((some (([bt364.1, bt366.1, 10000, 10001, (-1)] : List Int) : List Int)).bind fun y368 => ((spec_l6Rd_pick.f k t357 bt366.2 5).bind fun bt371 => (if 0 ≤ bt371.1 then (if bt371.1 < (y368.length : Int) then (some (t360, rd y368 bt371.1)) else (none)) else (none)))))) = some (r1, r2) := H
  have A3 := Aside0.mk A30
  clear A30
  replace H := Option.bind_eq_some_iff.mp H
  obtain ⟨⟨t364, t365⟩, A40, H⟩ := H
  replace H : ((spec_l6Rd_pick.f k t357 t365 200).bind fun bt366 => ((some (([t364, bt366.1, 10000, 10001, (-1)] : List Int) : List Int)).bind fun y368 => ((spec_l6Rd_pick.f k t357 bt366.2 5).bind fun bt371 => (if 0 ≤ bt371.1 then (if bt371.1 < (y368.length : Int) then (some (t360, rd y368 bt371.1)) else (none)) else (none))))) = some (r1, r2) := H
  have A4 := Aside0.mk A40
  clear A40
  replace H := Option.bind_eq_some_iff.mp H
  obtain ⟨⟨t366, t367⟩, A50, H⟩ := H
  replace H : ((some (([t364, t366, 10000, 10001, (-1)] : List Int) : List Int)).bind fun y368 => ((spec_l6Rd_pick.f k t357 t367 5).bind fun bt371 => (if 0 ≤ bt371.1 then (if bt371.1 < (y368.length : Int) then (some (t360, rd y368 bt371.1)) else (none)) else (none)))) = some (r1, r2) := H
  have A5 := Aside0.mk A50
  clear A50
  obtain ⟨y368, hy368⟩ : ∃ y_ : List Int, y_ = (([t364, t366, 10000, 10001, (-1)] : List Int)) := ⟨_, rfl⟩
  replace H : ((spec_l6Rd_pick.f k t357 t367 5).bind fun bt371 => (if 0 ≤ bt371.1 then (if bt371.1 < (y368.length : Int) then (some (t360, rd y368 bt371.1)) else (none)) else (none))) = some (r1, r2) := by first | (rw [hy368]; with_reducible exact H) | (have H2_ := (Option.bind_some _ _).symm.trans H; rw [hy368]; with_reducible exact H2_) | (have H2_ := (Option.bind_some _ _).symm.trans H; with_reducible exact H2_) | with_reducible exact H | (rw [hy368]; exact H) | exact H
  have Ny368 := Aside0.mk hy368
  clear hy368
  replace H := Option.bind_eq_some_iff.mp H
  obtain ⟨⟨t371, t372⟩, A60, H⟩ := H
  replace H : (if 0 ≤ t371 then (if t371 < (y368.length : Int) then (some (t360, rd y368 t371)) else (none)) else (none)) = some (r1, r2) := H
  have A6 := Aside0.mk A60
  clear A60
  by_cases c7 : 0 ≤ t371
  · rw [if_pos c7] at H
    have c7b0 : decide (0 ≤ t371) = true := decide_eq_true c7
    clear c7
    by_cases c8 : t371 < (y368.length : Int)
    · rw [if_pos c8] at H
      have c8b0 : decide (t371 < (y368.length : Int)) = true := decide_eq_true c8
      clear c8
      simp only [Option.some.injEq, Prod.mk.injEq] at H
      obtain ⟨rfl, rfl⟩ := H
      go_enter Try.func27, Try.ntmps27
      try go_wp2_with (first | ((with_reducible refine gate_callee (f := 43) rfl ?_); refine goesL_ (some 6) rfl rfl Try.func43 (by kernel_rfl) rfl #[.slice A0 l0.length c0] rfl (by (try simp only [List.map_toArray, List.map_cons, List.map_nil]); first | done | rfl | (simp only [List.length_drop, List.length_take]; rfl)) ?_; (with_reducible refine (spec_l6Open.calls _ _ l0 t357 t358 w _ ?side1 ?side2 ?side3 A2.out).mono ?_); (case side1 => repeat (first | (with_reducible first | exact HB.out | apply below_alloc | apply pw_below_drewN | apply below_drew1) | exact HB.out)); (case side2 => exact HR0.out); (case side3 => exact HC0.out); rintro e w9 ⟨g359, rfl, hi, hb, hb2⟩; refine ⟨_, rfl, ?_⟩; have n0_ := Aside0.mk (hb); have n1_ := Aside0.mk (hi); clear HB; have HB := n0_; have HI359 := n1_; clear n0_ n1_; (try clear hb); (try clear hb2); (try clear hk); (try clear hi)))
      have pi373 : (0 ≤ (t371 : Int)) = True := eq_true (of_decide_eq_true (by first | (with_reducible assumption) | assumption))
      have qi373 : (t371 < (y368.length : Int)) = True := eq_true (of_decide_eq_true (by first | (with_reducible assumption) | assumption))
      have n0_ := Aside0.mk (IsS68.drew HI359.out)
      have n1_ := Aside0.mk (below_drew1 HB.out)
      clear HI359
      clear HB
      have HI359 := n0_
      have HB := n1_
      clear n0_ n1_
      refine start_ (n := 13) (S := fun w' => True) (ds := []) #[false, false, false, false, false, false, false, false, false, false, false, false, false] (by kernel_rfl) rfl rfl trivial (fun hHeld => ?_); refine with_tabW spec_DrawRowsHas.tab2 spec_DrawRowsHas.bits2 (fun HT_ HW_ => ?_)
      generalize w9.drew = w10 at HI359 HB hHeld ⊢
      refine pure_ (i := 0) (N := some 7) (v := ?_) (a' := ?_) #[true, false, false, false, false, false, false, false, false, false, false, false, false] rfl rfl (any_of HT_.out (by kernel_rfl)) (fun _ _ _ h => h) (Or.inl ⟨by rfl, ?_⟩) ?_ ?_
      rotate_left
      · intro w'
        go_simp
        with_reducible rfl
      rotate_left
      · simp only [Act.put, List.setIfInBounds_toArray, List.set_cons_zero, List.set_cons_succ, i64_w, i32_w]
        rfl
      refine pure_ (i := 2) (N := some 9) (v := ?_) (a' := ?_) #[true, false, true, false, false, false, false, false, false, false, false, false, false] rfl rfl (any_of HT_.out (by kernel_rfl)) (fun _ _ _ h => h) (Or.inl ⟨by rfl, ?_⟩) ?_ ?_
      rotate_left
      · intro w'
        go_simp
        with_reducible rfl
      rotate_left
      · simp only [Act.put, List.setIfInBounds_toArray, List.set_cons_zero, List.set_cons_succ, i64_w, i32_w]
        rfl
      refine pure_ (i := 4) (N := some 11) (v := ?_) (a' := ?_) #[true, false, true, false, true, false, false, false, false, false, false, false, false] rfl rfl (any_of HT_.out (by kernel_rfl)) (fun _ _ _ h => h) (Or.inl ⟨by rfl, ?_⟩) ?_ ?_
      rotate_left
      · intro w'
        go_simp
        with_reducible rfl
      rotate_left
      · simp only [Act.put, List.setIfInBounds_toArray, List.set_cons_zero, List.set_cons_succ, i64_w, i32_w]
        rfl
      refine pure_ (i := 7) (N := some 14) (v := ?_) (a' := ?_) #[true, false, true, false, true, false, false, true, false, false, false, false, false] rfl rfl (any_of HT_.out (by kernel_rfl)) (fun _ _ _ h => h) (Or.inl ⟨by rfl, ?_⟩) ?_ ?_
      rotate_left
      · intro w'
        go_simp
        with_reducible rfl
      rotate_left
      · simp only [Act.put, List.setIfInBounds_toArray, List.set_cons_zero, List.set_cons_succ, i64_w, i32_w]
        rfl
      refine inv_at [1, 3, 5, 6, 8, 9, 10, 11, 12] (fun a0_ b a w' => ∃ (v361 : Value) (v369 : Value) (adz_v369 : Addr) (m9_ : Value) (m11_ : Value), a = putSel a0_ b [(1, 8, v361), (3, 10, .int .i64 t364), (5, 12, .int .i64 t366), (6, 13, v369), (8, 15, .int .i64 t371), (9, 16, m9_), (10, 17, .int .i64 (rd y368 t371)), (11, 2, m11_), (12, 3, .int .i64 (rd y368 t371))] ∧ (b 1 = false → IsS68 w w' g359 t357 t358) ∧ (Below w.heap.size w w') ∧ (b 1 = true → Kd.N (Kd.slice 3 (Kd.int .i64)) 32 w' w.heap.size (fun k_ => (w.heap.size ≤ k_) ∧ k_ ≠ g359) v361 t360) ∧ (b 1 = true → b 3 = false → IsS68 w w' g359 t357 t363) ∧ (b 3 = true → b 5 = false → IsS68 w w' g359 t357 t365) ∧ (b 5 = true → b 8 = false → IsS68 w w' g359 t357 t367) ∧ (b 6 = true → Kd.R (Kd.int .i64) 3 w' w.heap.size (fun k_ => (w.heap.size ≤ k_)) v369 y368) ∧ (b 6 = true → ∃ c_, (v369 : Value) = .slice (some adz_v369) y368.length c_) ∧ (b 8 = true → IsS68 w w' g359 t357 t372) ∧ (b 9 = true → (m9_ : Value) = .pointer (some (adz_v369.add (t371).toNat))) ∧ (b 11 = true → (m11_ : Value) = v361)) HT_.out HW_.out (by kernel_rfl) (by kernel_rfl) ?_ ?_ ?_
      · exact ⟨.bool false, .bool false, ⟨0, 0, none⟩, .bool false, .bool false, by simp only [putSel, Bool.false_eq_true, if_false], fun _ => HI359.out, HB.out, fun h_ => absurd h_ (by decide), fun h_ => absurd h_ (by decide), fun h_ => absurd h_ (by decide), fun h_ => absurd h_ (by decide), fun h_ => absurd h_ (by decide), fun h_ => absurd h_ (by decide), fun h_ => absurd h_ (by decide), fun h_ => absurd h_ (by decide), fun h_ => absurd h_ (by decide)⟩
      · skip
        clear HB HI359
        refine steps_cons ?_ ?_
        · rintro b a w' ⟨v361, v369, adz_v369, m9_, m11_, ha, Q_HI359, Q_HB, Q_HO362, Q_HI359_e1, Q_HI359_e3, Q_HI359_e5, Q_HO370, Q_HA_HO370, Q_HI359_e8, Q_X9_, Q_X11_⟩ hb_ hon hoff
          refine ⟨_, rfl, fun K hK => ?_⟩
          have e7 : a.tmps[7]? = some (.pointer (some ⟨g359, 0, none⟩)) := by rw [ha]; exact (putSel_off rfl).trans rfl
          replace ha := Aside0.mk ha
          have HI359 := Aside0.mk (Q_HI359 hb_)
          have HB := Aside0.mk Q_HB
          refine goes_ Try.func44 (by kernel_rfl) rfl #[.pointer (some ⟨g359, 0, none⟩)] (by rfl) rfl rfl (by first | (simp only [List.map_toArray, List.map_cons, List.map_nil, Act.eval, Array.getD_eq_getD_getElem?, Option.getD_some, e7]; done) | (simp only [List.map_toArray, List.map_cons, List.map_nil, Act.eval, Array.getD_eq_getD_getElem?, Option.getD_some, e7]; rfl)) ?_
          with_reducible refine (spec_l91Rows.calls k g359 t357 t358 t360 t363 w _ ?side1 ?side2 A3.out).mono ?_
          (case side1 => repeat (first | (with_reducible first | exact HI359.out | apply IsS68.alloc | apply IsS68.drewN | apply IsS68.drew | apply IsS68.set_1) | exact HI359.out))
          (case side2 => repeat (first | (with_reducible first | exact HB.out | apply below_alloc | apply pw_below_drewN | apply below_drew1 | refine below_set ?_ (IsS68.ge HI359.out)) | exact HB.out))
          rintro e w11 ⟨v361, rfl, ho0, hi, hb, hk⟩
          refine ⟨_, rfl, ?_⟩
          have n0_ := Aside0.mk (Kd.N_lower (Kd.N_mono (ok' := fun k_ => (w.heap.size ≤ k_) ∧ k_ ≠ g359) ho0 (fun k_ hk_ => ⟨(Nat.le_trans (below_size (by repeat (first | (with_reducible first | exact HB.out | apply below_alloc | apply pw_below_drewN | apply below_drew1 | refine below_set ?_ (IsS68.ge HI359.out)) | exact HB.out))) hk_), (IsS68.fresh (by repeat (first | (with_reducible first | exact HI359.out | apply IsS68.alloc | apply IsS68.drewN | apply IsS68.drew | apply IsS68.set_1) | exact HI359.out)) k_ hk_)⟩)) (below_size (by repeat (first | (with_reducible first | exact HB.out | apply below_alloc | apply pw_below_drewN | apply below_drew1 | refine below_set ?_ (IsS68.ge HI359.out)) | exact HB.out))))
          have n1_ := Aside0.mk (hb)
          have n2_ := Aside0.mk (hi)
          clear HB
          clear HI359
          have HO362 := n0_
          have HB := n1_
          have HI359 := n2_
          clear n0_ n1_ n2_
          (try clear hb)
          (try clear hb2)
          (try clear hk)
          (try clear hi)
          (try clear ho0)
          refine hK.out _ _ ⟨v361, v369, adz_v369, m9_, m11_, (by rw [ha.out]; exact putSel_upk 0 hb_ rfl rfl rfl), fun h0_ => absurd ((up_self b 1).symm.trans h0_) (by decide), (by repeat (first | (with_reducible first | exact HB.out | apply below_alloc | apply pw_below_drewN | apply below_drew1 | refine below_set ?_ (IsS68.ge HI359.out)) | exact HB.out)), fun _ => (by (with_reducible repeat (first | apply Kd.N_alloc | apply Kd.N_drewN | apply Kd.N_drew)); exact HO362.out), fun _ _ => (by repeat (first | (with_reducible first | exact HI359.out | apply IsS68.alloc | apply IsS68.drewN | apply IsS68.drew | apply IsS68.set_1) | exact HI359.out)), fun h0_ _ => absurd ((hoff 3 (by kernel_rfl)).symm.trans h0_) (by decide), fun h0_ _ => absurd ((hoff 5 (by kernel_rfl)).symm.trans h0_) (by decide), fun h0_ => absurd ((hoff 6 (by kernel_rfl)).symm.trans h0_) (by decide), fun h0_ => absurd ((hoff 6 (by kernel_rfl)).symm.trans h0_) (by decide), fun h0_ => absurd ((hoff 8 (by kernel_rfl)).symm.trans h0_) (by decide), fun h0_ => absurd ((hoff 9 (by kernel_rfl)).symm.trans h0_) (by decide), fun h0_ => absurd ((hoff 11 (by kernel_rfl)).symm.trans h0_) (by decide)⟩
        refine steps_cons ?_ ?_
        · rintro b a w' ⟨v361, v369, adz_v369, m9_, m11_, ha, Q_HI359, Q_HB, Q_HO362, Q_HI359_e1, Q_HI359_e3, Q_HI359_e5, Q_HO370, Q_HA_HO370, Q_HI359_e8, Q_X9_, Q_X11_⟩ hb_ hon hoff
          refine ⟨_, rfl, fun K hK => ?_⟩
          have e9 : a.tmps[9]? = some (.pointer (some ⟨g359, 0, none⟩)) := by rw [ha]; exact (putSel_off rfl).trans rfl
          replace ha := Aside0.mk ha
          have HB := Aside0.mk Q_HB
          have HO362 := Aside0.mk (Q_HO362 (hon 1 (by kernel_rfl)))
          have HI359 := Aside0.mk (Q_HI359_e1 (hon 1 (by kernel_rfl)) hb_)
          refine goes_ Try.func51 (by kernel_rfl) rfl #[.pointer (some ⟨g359, 0, none⟩), .int .i64 60] (by rfl) rfl rfl (by first | (simp only [List.map_toArray, List.map_cons, List.map_nil, Act.eval, Array.getD_eq_getD_getElem?, Option.getD_some, e9]; done) | (simp only [List.map_toArray, List.map_cons, List.map_nil, Act.eval, Array.getD_eq_getD_getElem?, Option.getD_some, e9]; rfl)) ?_
          with_reducible refine (spec_l6Rd_pick.calls k g359 t357 t363 60 t364 t365 w _ ?side1 ?side2 A4.out).mono ?_
          (case side1 => repeat (first | (with_reducible first | exact HI359.out | apply IsS68.alloc | apply IsS68.drewN | apply IsS68.drew | apply IsS68.set_1) | exact HI359.out))
          (case side2 => repeat (first | (with_reducible first | exact HB.out | apply below_alloc | apply pw_below_drewN | apply below_drew1 | refine below_set ?_ (IsS68.ge HI359.out)) | exact HB.out))
          rintro e w13 ⟨rfl, hi, hb, hk⟩
          refine ⟨_, rfl, ?_⟩
          have n0_ := Aside0.mk (Kd.N_mono (Kd.N_keep (Kd.N_mono (ok := fun k_ => (((w.heap.size ≤ k_)) ∧ k_ ≠ g359)) (by (with_reducible repeat (first | apply Kd.N_alloc | apply Kd.N_drewN | apply Kd.N_drew)); exact HO362.out) (fun k_ hk_ => (⟨hk_, hk_.2⟩ : _ ∧ k_ ≠ g359))) hk (fun _ h => h.2)) (fun _ h => h.1))
          have n1_ := Aside0.mk (hb)
          have n2_ := Aside0.mk (hi)
          clear HO362
          clear HB
          clear HI359
          have HO362 := n0_
          have HB := n1_
          have HI359 := n2_
          clear n0_ n1_ n2_
          (try clear hb)
          (try clear hb2)
          (try clear hk)
          (try clear hi)
          refine hK.out _ _ ⟨v361, v369, adz_v369, m9_, m11_, (by rw [ha.out]; exact putSel_upk 1 hb_ rfl rfl rfl), fun h0_ => absurd ((hon 1 (by kernel_rfl)).symm.trans h0_) (by decide), (by repeat (first | (with_reducible first | exact HB.out | apply below_alloc | apply pw_below_drewN | apply below_drew1 | refine below_set ?_ (IsS68.ge HI359.out)) | exact HB.out)), fun _ => (by (with_reducible repeat (first | apply Kd.N_alloc | apply Kd.N_drewN | apply Kd.N_drew)); exact HO362.out), fun _ h1_ => absurd ((up_self b 3).symm.trans h1_) (by decide), fun _ _ => (by repeat (first | (with_reducible first | exact HI359.out | apply IsS68.alloc | apply IsS68.drewN | apply IsS68.drew | apply IsS68.set_1) | exact HI359.out)), fun h0_ _ => absurd ((hoff 5 (by kernel_rfl)).symm.trans h0_) (by decide), fun h0_ => absurd ((hoff 6 (by kernel_rfl)).symm.trans h0_) (by decide), fun h0_ => absurd ((hoff 6 (by kernel_rfl)).symm.trans h0_) (by decide), fun h0_ => absurd ((hoff 8 (by kernel_rfl)).symm.trans h0_) (by decide), fun h0_ => absurd ((hoff 9 (by kernel_rfl)).symm.trans h0_) (by decide), fun h0_ => absurd ((hoff 11 (by kernel_rfl)).symm.trans h0_) (by decide)⟩
        refine steps_cons ?_ ?_
        · rintro b a w' ⟨v361, v369, adz_v369, m9_, m11_, ha, Q_HI359, Q_HB, Q_HO362, Q_HI359_e1, Q_HI359_e3, Q_HI359_e5, Q_HO370, Q_HA_HO370, Q_HI359_e8, Q_X9_, Q_X11_⟩ hb_ hon hoff
          refine ⟨_, rfl, fun K hK => ?_⟩
          have e11 : a.tmps[11]? = some (.pointer (some ⟨g359, 0, none⟩)) := by rw [ha]; exact (putSel_off rfl).trans rfl
          replace ha := Aside0.mk ha
          have HB := Aside0.mk Q_HB
          have HO362 := Aside0.mk (Q_HO362 (hon 1 (by kernel_rfl)))
          have HI359 := Aside0.mk (Q_HI359_e3 (hon 3 (by kernel_rfl)) hb_)
          refine goes_ Try.func51 (by kernel_rfl) rfl #[.pointer (some ⟨g359, 0, none⟩), .int .i64 200] (by rfl) rfl rfl (by first | (simp only [List.map_toArray, List.map_cons, List.map_nil, Act.eval, Array.getD_eq_getD_getElem?, Option.getD_some, e11]; done) | (simp only [List.map_toArray, List.map_cons, List.map_nil, Act.eval, Array.getD_eq_getD_getElem?, Option.getD_some, e11]; rfl)) ?_
          with_reducible refine (spec_l6Rd_pick.calls k g359 t357 t365 200 t366 t367 w _ ?side1 ?side2 A5.out).mono ?_
          (case side1 => repeat (first | (with_reducible first | exact HI359.out | apply IsS68.alloc | apply IsS68.drewN | apply IsS68.drew | apply IsS68.set_1) | exact HI359.out))
          (case side2 => repeat (first | (with_reducible first | exact HB.out | apply below_alloc | apply pw_below_drewN | apply below_drew1 | refine below_set ?_ (IsS68.ge HI359.out)) | exact HB.out))
          rintro e w14 ⟨rfl, hi, hb, hk⟩
          refine ⟨_, rfl, ?_⟩
          have n0_ := Aside0.mk (Kd.N_mono (Kd.N_keep (Kd.N_mono (ok := fun k_ => (((w.heap.size ≤ k_)) ∧ k_ ≠ g359)) (by (with_reducible repeat (first | apply Kd.N_alloc | apply Kd.N_drewN | apply Kd.N_drew)); exact HO362.out) (fun k_ hk_ => (⟨hk_, hk_.2⟩ : _ ∧ k_ ≠ g359))) hk (fun _ h => h.2)) (fun _ h => h.1))
          have n1_ := Aside0.mk (hb)
          have n2_ := Aside0.mk (hi)
          clear HO362
          clear HB
          clear HI359
          have HO362 := n0_
          have HB := n1_
          have HI359 := n2_
          clear n0_ n1_ n2_
          (try clear hb)
          (try clear hb2)
          (try clear hk)
          (try clear hi)
          refine hK.out _ _ ⟨v361, v369, adz_v369, m9_, m11_, (by rw [ha.out]; exact putSel_upk 2 hb_ rfl rfl rfl), fun h0_ => absurd ((hon 1 (by kernel_rfl)).symm.trans h0_) (by decide), (by repeat (first | (with_reducible first | exact HB.out | apply below_alloc | apply pw_below_drewN | apply below_drew1 | refine below_set ?_ (IsS68.ge HI359.out)) | exact HB.out)), fun _ => (by (with_reducible repeat (first | apply Kd.N_alloc | apply Kd.N_drewN | apply Kd.N_drew)); exact HO362.out), fun _ h1_ => absurd ((hon 3 (by kernel_rfl)).symm.trans h1_) (by decide), fun _ h1_ => absurd ((up_self b 5).symm.trans h1_) (by decide), fun _ _ => (by repeat (first | (with_reducible first | exact HI359.out | apply IsS68.alloc | apply IsS68.drewN | apply IsS68.drew | apply IsS68.set_1) | exact HI359.out)), fun h0_ => absurd ((hoff 6 (by kernel_rfl)).symm.trans h0_) (by decide), fun h0_ => absurd ((hoff 6 (by kernel_rfl)).symm.trans h0_) (by decide), fun h0_ => absurd ((hoff 8 (by kernel_rfl)).symm.trans h0_) (by decide), fun h0_ => absurd ((hoff 9 (by kernel_rfl)).symm.trans h0_) (by decide), fun h0_ => absurd ((hoff 11 (by kernel_rfl)).symm.trans h0_) (by decide)⟩
        refine steps_cons ?_ ?_
        · rintro b a w' ⟨v361, v369, adz_v369, m9_, m11_, ha, Q_HI359, Q_HB, Q_HO362, Q_HI359_e1, Q_HI359_e3, Q_HI359_e5, Q_HO370, Q_HA_HO370, Q_HI359_e8, Q_X9_, Q_X11_⟩ hb_ hon hoff
          refine ⟨_, rfl, fun K hK => ?_⟩
          have e10 : a.tmps[10]? = some (.int .i64 t364) := by rw [ha]; exact putSel_on (e := (3, 10, .int .i64 t364)) 1 rfl rfl (hon 3 (by kernel_rfl)) rfl
          have e12 : a.tmps[12]? = some (.int .i64 t366) := by rw [ha]; exact putSel_on (e := (5, 12, .int .i64 t366)) 2 rfl rfl (hon 5 (by kernel_rfl)) rfl
          replace ha := Aside0.mk ha
          have HB := Aside0.mk Q_HB
          have HO362 := Aside0.mk (Q_HO362 (hon 1 (by kernel_rfl)))
          refine Kd.R_lit_step (Kd.int .i64) _ 3 ?hg (N := 13) ?hd (xs := ([t364, t366, 10000, 10001, (-1)] : List Int)) (inner := [.int .i64 t364, .int .i64 t366, .int .i64 10000, .int .i64 10001, .int .i64 (-1)]) (ok := fun _ => True) (okp := fun _ => True) ?hr ?hp (fun _ hk => hk) trivial (Below.refl _ _) (Nat.le_refl _) (by simp) ?_; (case hd => rfl); (case hg => rfl); (case hr => first | (go_simp; done) | (go_simp; rfl)); (case hp => exact (Reps.one (show Kd.M (Kd.int .i64) _ _ _ t364 [.int .i64 t364] from rfl) (Reps.one (show Kd.M (Kd.int .i64) _ _ _ t366 [.int .i64 t366] from rfl) (Reps.one (show Kd.M (Kd.int .i64) _ _ _ 10000 [.int .i64 10000] from rfl) (Reps.one (show Kd.M (Kd.int .i64) _ _ _ 10001 [.int .i64 10001] from rfl) (Reps.one (show Kd.M (Kd.int .i64) _ _ _ (-1) [.int .i64 (-1)] from rfl) (Reps.none _ _)))))))
          intro v369 w15 ho16 hb hg_ hnew_
          clear hg_ hnew_
          (first | rw [← Ny368.out] at ho16 | (simp only [Int.reduceToNat] at ho16; rw [← Ny368.out] at ho16))
          have n0_ := Aside0.mk (Kd.N_elder' (by (with_reducible repeat (first | apply Kd.N_alloc | apply Kd.N_drewN | apply Kd.N_drew)); exact HO362.out) (Kd.R_base ho16) hb)
          have n1_ := Aside0.mk (Kd.R_lower (Kd.R_newM (M := fun k_ => (w.heap.size ≤ k_)) ho16 (below_size (by repeat (first | (with_reducible first | exact HB.out | apply below_alloc | apply pw_below_drewN | apply below_drew1) | exact HB.out))) (fun k_ h_ => h_)) (below_size (by repeat (first | (with_reducible first | exact HB.out | apply below_alloc | apply pw_below_drewN | apply below_drew1) | exact HB.out))))
          have n3_ := Aside0.mk (below_step (by repeat (first | (with_reducible first | exact HB.out | apply below_alloc | apply pw_below_drewN | apply below_drew1) | exact HB.out)) hb)
          have z_HI359_e5 := fun (h0_ : b 5 = true) (h1_ : b 8 = false) => (show IsS68 w w15 g359 t357 t367 from by first | exact (IsS68.below (by repeat (first | (with_reducible first | exact (Q_HI359_e5 h0_ h1_) | apply IsS68.alloc | apply IsS68.drewN | apply IsS68.drew | apply IsS68.set_1) | exact (Q_HI359_e5 h0_ h1_))) hb))
          have z_HI359_e8 := fun (h0_ : b 8 = true) => (show IsS68 w w15 g359 t357 t372 from by first | exact (IsS68.below (by repeat (first | (with_reducible first | exact (Q_HI359_e8 h0_) | apply IsS68.alloc | apply IsS68.drewN | apply IsS68.drew | apply IsS68.set_1) | exact (Q_HI359_e8 h0_))) hb))
          clear HO362
          clear HB
          have HO362 := n0_
          have HO370 := n1_
          have HB := n3_
          clear n0_ n1_ n3_
          clear hb ho16
          obtain ⟨Ao17, co17, eo17⟩ := Kd.R_slice HO370.out
          subst eo17
          obtain ⟨ado17, fo17, _⟩ := Kd.at_int (Kd.R_reads' HO370.out).2.2 0 (by decide) (by rw [Ny368.out]; simp)
          cases fo17
          refine hK.out _ _ ⟨v361, .slice (some ado17) y368.length co17, ado17, m9_, m11_, (by rw [ha.out]; exact putSel_upk 3 hb_ rfl rfl rfl), fun h0_ => absurd ((hon 1 (by kernel_rfl)).symm.trans h0_) (by decide), (by repeat (first | (with_reducible first | exact HB.out | apply below_alloc | apply pw_below_drewN | apply below_drew1) | exact HB.out)), fun _ => (by (with_reducible repeat (first | apply Kd.N_alloc | apply Kd.N_drewN | apply Kd.N_drew)); exact Kd.N_mono HO362.out (fun _ hk => by first | exact ⟨hk.1.1, ⟨hk.2, hk.1.2⟩⟩ | (simp_all; done) | grind)), fun _ h1_ => absurd ((hon 3 (by kernel_rfl)).symm.trans h1_) (by decide), fun _ h1_ => absurd ((hon 5 (by kernel_rfl)).symm.trans h1_) (by decide), z_HI359_e5, fun _ => (by (with_reducible repeat (first | apply Kd.R_alloc | apply Kd.R_drewN | apply Kd.R_drew)); exact Kd.R_mono HO370.out (fun _ hk => hk.1)), fun _ => ⟨_, rfl⟩, z_HI359_e8, fun h0_ => absurd ((hoff 9 (by kernel_rfl)).symm.trans h0_) (by decide), Q_X11_⟩
        refine steps_cons ?_ ?_
        · rintro b a w' ⟨v361, v369, adz_v369, m9_, m11_, ha, Q_HI359, Q_HB, Q_HO362, Q_HI359_e1, Q_HI359_e3, Q_HI359_e5, Q_HO370, Q_HA_HO370, Q_HI359_e8, Q_X9_, Q_X11_⟩ hb_ hon hoff
          refine ⟨_, rfl, fun K hK => ?_⟩
          have e14 : a.tmps[14]? = some (.pointer (some ⟨g359, 0, none⟩)) := by rw [ha]; exact (putSel_off rfl).trans rfl
          replace ha := Aside0.mk ha
          have HB := Aside0.mk Q_HB
          have HO362 := Aside0.mk (Q_HO362 (hon 1 (by kernel_rfl)))
          have HI359 := Aside0.mk (Q_HI359_e5 (hon 5 (by kernel_rfl)) hb_)
          refine goes_ Try.func51 (by kernel_rfl) rfl #[.pointer (some ⟨g359, 0, none⟩), .int .i64 5] (by rfl) rfl rfl (by first | (simp only [List.map_toArray, List.map_cons, List.map_nil, Act.eval, Array.getD_eq_getD_getElem?, Option.getD_some, e14]; done) | (simp only [List.map_toArray, List.map_cons, List.map_nil, Act.eval, Array.getD_eq_getD_getElem?, Option.getD_some, e14]; rfl)) ?_
          with_reducible refine (spec_l6Rd_pick.calls k g359 t357 t367 5 t371 t372 w _ ?side1 ?side2 A6.out).mono ?_
          (case side1 => repeat (first | (with_reducible first | exact HI359.out | apply IsS68.alloc | apply IsS68.drewN | apply IsS68.drew | apply IsS68.set_1) | exact HI359.out))
          (case side2 => repeat (first | (with_reducible first | exact HB.out | apply below_alloc | apply pw_below_drewN | apply below_drew1 | refine below_set ?_ (IsS68.ge HI359.out)) | exact HB.out))
          rintro e w15 ⟨rfl, hi, hb, hk⟩
          refine ⟨_, rfl, ?_⟩
          have n0_ := Aside0.mk (Kd.N_mono (Kd.N_keep (Kd.N_mono (ok := fun k_ => (((w.heap.size ≤ k_)) ∧ k_ ≠ g359)) (by (with_reducible repeat (first | apply Kd.N_alloc | apply Kd.N_drewN | apply Kd.N_drew)); exact HO362.out) (fun k_ hk_ => (⟨hk_, hk_.2⟩ : _ ∧ k_ ≠ g359))) hk (fun _ h => h.2)) (fun _ h => h.1))
          have n1_ := Aside0.mk (hb)
          have n2_ := Aside0.mk (hi)
          have z_HO370 := fun (h0_ : b 6 = true) => (show Kd.R (Kd.int .i64) 3 w15 w.heap.size (fun k_ => (w.heap.size ≤ k_)) v369 y368 from by first | exact (Kd.R_mono (Kd.R_keep (IsS68.apart (show IsS68 w _ g359 t357 t367 from by repeat (first | (with_reducible first | exact HI359.out | apply IsS68.alloc | apply IsS68.drewN | apply IsS68.drew | apply IsS68.set_1) | exact HI359.out)) (by (with_reducible repeat (first | apply Kd.R_alloc | apply Kd.R_drewN | apply Kd.R_drew)); exact (Q_HO370 h0_)) (by decide)) hk (fun _ h => h.2)) (fun _ h => h.1)) | exact Kd.R_mono (Kd.R_mono (Kd.R_keep (IsS68.apart (show IsS68 w _ g359 t357 t367 from by repeat (first | (with_reducible first | exact HI359.out | apply IsS68.alloc | apply IsS68.drewN | apply IsS68.drew | apply IsS68.set_1) | exact HI359.out)) (by (with_reducible repeat (first | apply Kd.R_alloc | apply Kd.R_drewN | apply Kd.R_drew)); exact (Q_HO370 h0_)) (by decide)) hk (fun _ h => h.2)) (fun _ h => h.1)) (fun _ h_ => by first | trivial | exact h_ | exact h_.1))
          clear HO362
          clear HB
          clear HI359
          have HO362 := n0_
          have HB := n1_
          have HI359 := n2_
          clear n0_ n1_ n2_
          (try clear hb)
          (try clear hb2)
          (try clear hk)
          (try clear hi)
          refine hK.out _ _ ⟨v361, v369, adz_v369, m9_, m11_, (by rw [ha.out]; exact putSel_upk 4 hb_ rfl rfl rfl), fun h0_ => absurd ((hon 1 (by kernel_rfl)).symm.trans h0_) (by decide), (by repeat (first | (with_reducible first | exact HB.out | apply below_alloc | apply pw_below_drewN | apply below_drew1 | refine below_set ?_ (IsS68.ge HI359.out)) | exact HB.out)), fun _ => (by (with_reducible repeat (first | apply Kd.N_alloc | apply Kd.N_drewN | apply Kd.N_drew)); exact HO362.out), fun _ h1_ => absurd ((hon 3 (by kernel_rfl)).symm.trans h1_) (by decide), fun _ h1_ => absurd ((hon 5 (by kernel_rfl)).symm.trans h1_) (by decide), fun _ h1_ => absurd ((up_self b 8).symm.trans h1_) (by decide), z_HO370, Q_HA_HO370, fun _ => (by repeat (first | (with_reducible first | exact HI359.out | apply IsS68.alloc | apply IsS68.drewN | apply IsS68.drew | apply IsS68.set_1) | exact HI359.out)), fun h0_ => absurd ((hoff 9 (by kernel_rfl)).symm.trans h0_) (by decide), fun h0_ => absurd ((hoff 11 (by kernel_rfl)).symm.trans h0_) (by decide)⟩
        refine steps_cons ?_ ?_
        · rintro b a w' ⟨v361, v369, adz_v369, m9_, m11_, ha, Q_HI359, Q_HB, Q_HO362, Q_HI359_e1, Q_HI359_e3, Q_HI359_e5, Q_HO370, Q_HA_HO370, Q_HI359_e8, Q_X9_, Q_X11_⟩ hb_ hon hoff
          refine ⟨_, rfl, fun K hK => ?_⟩
          have e13 : a.tmps[13]? = some (v369) := by rw [ha]; exact putSel_on (e := (6, 13, v369)) 3 rfl rfl (hon 6 (by kernel_rfl)) rfl
          have e15 : a.tmps[15]? = some (.int .i64 t371) := by rw [ha]; exact putSel_on (e := (8, 15, .int .i64 t371)) 4 rfl rfl (hon 8 (by kernel_rfl)) rfl
          replace ha := Aside0.mk ha
          have HB := Aside0.mk Q_HB
          have HO362 := Aside0.mk (Q_HO362 (hon 1 (by kernel_rfl)))
          have HO370 := Aside0.mk (Q_HO370 (hon 6 (by kernel_rfl)))
          have HA_HO370 := Aside0.mk (Q_HA_HO370 (hon 6 (by kernel_rfl)))
          have HI359 := Aside0.mk (Q_HI359_e8 (hon 8 (by kernel_rfl)))
          obtain ⟨c_, hv_⟩ := HA_HO370.out
          rw [hv_] at e13
          refine value_ (w1 := w') (v := .pointer (some (adz_v369.add (t371).toNat))) (by rfl) rfl ?_ ?_
          · go_simp
            (try simp only [i64_w])
            try rfl
          refine hK.out _ _ ⟨v361, v369, adz_v369, (.pointer (some (adz_v369.add (t371).toNat))), m11_, (by rw [ha.out]; exact putSel_upk 5 hb_ rfl rfl rfl), fun h0_ => absurd ((hon 1 (by kernel_rfl)).symm.trans h0_) (by decide), Q_HB, Q_HO362, fun _ h1_ => absurd ((hon 3 (by kernel_rfl)).symm.trans h1_) (by decide), fun _ h1_ => absurd ((hon 5 (by kernel_rfl)).symm.trans h1_) (by decide), fun _ h1_ => absurd ((hon 8 (by kernel_rfl)).symm.trans h1_) (by decide), Q_HO370, Q_HA_HO370, Q_HI359_e8, fun _ => rfl, Q_X11_⟩
        refine steps_cons ?_ ?_
        · rintro b a w' ⟨v361, v369, adz_v369, m9_, m11_, ha, Q_HI359, Q_HB, Q_HO362, Q_HI359_e1, Q_HI359_e3, Q_HI359_e5, Q_HO370, Q_HA_HO370, Q_HI359_e8, Q_X9_, Q_X11_⟩ hb_ hon hoff
          refine ⟨_, rfl, fun K hK => ?_⟩
          have e16 : a.tmps[16]? = some (m9_) := by rw [ha]; exact putSel_on (e := (9, 16, m9_)) 5 rfl rfl (hon 9 (by kernel_rfl)) rfl
          rw [Q_X9_ (hon 9 (by kernel_rfl))] at e16
          replace ha := Aside0.mk ha
          have HB := Aside0.mk Q_HB
          have HO362 := Aside0.mk (Q_HO362 (hon 1 (by kernel_rfl)))
          have HO370 := Aside0.mk (Q_HO370 (hon 6 (by kernel_rfl)))
          have HA_HO370 := Aside0.mk (Q_HA_HO370 (hon 6 (by kernel_rfl)))
          have HI359 := Aside0.mk (Q_HI359_e8 (hon 8 (by kernel_rfl)))
          obtain ⟨c_, hv_⟩ := HA_HO370.out
          have hF_ := HO370.out
          rw [hv_] at hF_
          obtain ⟨ad_, ea_, hx_⟩ := Kd.at_int (Kd.R_reads' hF_).2.2 t371 (of_eq_true pi373) (of_eq_true qi373)
          cases ea_
          refine value_ (w1 := w') (v := .int .i64 (rd y368 t371)) (by rfl) rfl ?_ ?_
          · go_simp
            (try simp only [i64_w])
            try rfl
          refine hK.out _ _ ⟨v361, v369, adz_v369, m9_, m11_, (by rw [ha.out]; exact putSel_upk 6 hb_ rfl rfl rfl), fun h0_ => absurd ((hon 1 (by kernel_rfl)).symm.trans h0_) (by decide), Q_HB, Q_HO362, fun _ h1_ => absurd ((hon 3 (by kernel_rfl)).symm.trans h1_) (by decide), fun _ h1_ => absurd ((hon 5 (by kernel_rfl)).symm.trans h1_) (by decide), fun _ h1_ => absurd ((hon 8 (by kernel_rfl)).symm.trans h1_) (by decide), Q_HO370, Q_HA_HO370, Q_HI359_e8, Q_X9_, Q_X11_⟩
        refine steps_cons ?_ ?_
        · rintro b a w' ⟨v361, v369, adz_v369, m9_, m11_, ha, Q_HI359, Q_HB, Q_HO362, Q_HI359_e1, Q_HI359_e3, Q_HI359_e5, Q_HO370, Q_HA_HO370, Q_HI359_e8, Q_X9_, Q_X11_⟩ hb_ hon hoff
          refine ⟨_, rfl, fun K hK => ?_⟩
          have e8 : a.tmps[8]? = some (v361) := by rw [ha]; exact putSel_on (e := (1, 8, v361)) 0 rfl rfl (hon 1 (by kernel_rfl)) rfl
          replace ha := Aside0.mk ha
          have HB := Aside0.mk Q_HB
          have HO362 := Aside0.mk (Q_HO362 (hon 1 (by kernel_rfl)))
          have HI359 := Aside0.mk (Q_HI359_e8 (hon 8 (by kernel_rfl)))
          refine value_ (w1 := w') (v := v361) (by rfl) rfl ?_ ?_
          · go_simp
            (try simp only [i64_w])
            try rfl
          refine hK.out _ _ ⟨v361, v369, adz_v369, m9_, (v361), (by rw [ha.out]; exact putSel_upk 7 hb_ rfl rfl rfl), fun h0_ => absurd ((hon 1 (by kernel_rfl)).symm.trans h0_) (by decide), Q_HB, Q_HO362, fun _ h1_ => absurd ((hon 3 (by kernel_rfl)).symm.trans h1_) (by decide), fun _ h1_ => absurd ((hon 5 (by kernel_rfl)).symm.trans h1_) (by decide), fun _ h1_ => absurd ((hon 8 (by kernel_rfl)).symm.trans h1_) (by decide), Q_HO370, Q_HA_HO370, Q_HI359_e8, Q_X9_, fun _ => rfl⟩
        refine steps_cons ?_ ?_
        · rintro b a w' ⟨v361, v369, adz_v369, m9_, m11_, ha, Q_HI359, Q_HB, Q_HO362, Q_HI359_e1, Q_HI359_e3, Q_HI359_e5, Q_HO370, Q_HA_HO370, Q_HI359_e8, Q_X9_, Q_X11_⟩ hb_ hon hoff
          refine ⟨_, rfl, fun K hK => ?_⟩
          have e17 : a.tmps[17]? = some (.int .i64 (rd y368 t371)) := by rw [ha]; exact putSel_on (e := (10, 17, .int .i64 (rd y368 t371))) 6 rfl rfl (hon 10 (by kernel_rfl)) rfl
          replace ha := Aside0.mk ha
          have HB := Aside0.mk Q_HB
          have HO362 := Aside0.mk (Q_HO362 (hon 1 (by kernel_rfl)))
          have HO370 := Aside0.mk (Q_HO370 (hon 6 (by kernel_rfl)))
          have HA_HO370 := Aside0.mk (Q_HA_HO370 (hon 6 (by kernel_rfl)))
          have HI359 := Aside0.mk (Q_HI359_e8 (hon 8 (by kernel_rfl)))
          refine value_ (w1 := w') (v := .int .i64 (rd y368 t371)) (by rfl) rfl ?_ ?_
          · go_simp
            (try simp only [i64_w])
            try rfl
          refine hK.out _ _ ⟨v361, v369, adz_v369, m9_, m11_, (by rw [ha.out]; exact putSel_upk 8 hb_ rfl rfl rfl), fun h0_ => absurd ((hon 1 (by kernel_rfl)).symm.trans h0_) (by decide), Q_HB, Q_HO362, fun _ h1_ => absurd ((hon 3 (by kernel_rfl)).symm.trans h1_) (by decide), fun _ h1_ => absurd ((hon 5 (by kernel_rfl)).symm.trans h1_) (by decide), fun _ h1_ => absurd ((hon 8 (by kernel_rfl)).symm.trans h1_) (by decide), Q_HO370, Q_HA_HO370, Q_HI359_e8, Q_X9_, Q_X11_⟩
        exact steps_nil
      rintro b a w18 hall ⟨v361, v369, adz_v369, m9_, m11_, ha, Q_HI359, Q_HB, Q_HO362, Q_HI359_e1, Q_HI359_e3, Q_HI359_e5, Q_HO370, Q_HA_HO370, Q_HI359_e8, Q_X9_, Q_X11_⟩
      clear HB HI359
      have hb1_ := hall 1 (by kernel_rfl)
      have hb3_ := hall 3 (by kernel_rfl)
      have hb5_ := hall 5 (by kernel_rfl)
      have hb6_ := hall 6 (by kernel_rfl)
      have hb8_ := hall 8 (by kernel_rfl)
      have hb9_ := hall 9 (by kernel_rfl)
      have hb10_ := hall 10 (by kernel_rfl)
      have hb11_ := hall 11 (by kernel_rfl)
      have hb12_ := hall 12 (by kernel_rfl)
      subst ha
      obtain rfl := Q_X9_ hb9_
      obtain rfl := Q_X11_ hb11_
      simp only [putSel, hb1_, hb3_, hb5_, hb6_, hb8_, hb9_, hb10_, hb11_, hb12_, if_true, Act.put, List.setIfInBounds_toArray, List.set_cons_zero, List.set_cons_succ]
      clear Q_HI359
      have HB := Aside0.mk Q_HB
      clear Q_HB
      have HO362 := Aside0.mk (Q_HO362 hb1_)
      clear Q_HO362
      clear Q_HI359_e1
      clear Q_HI359_e3
      clear Q_HI359_e5
      have HO370 := Aside0.mk (Q_HO370 hb6_)
      clear Q_HO370
      have HA_HO370 := Aside0.mk (Q_HA_HO370 hb6_)
      clear Q_HA_HO370
      have HI359 := Aside0.mk (Q_HI359_e8 hb8_)
      clear Q_HI359_e8
      clear hall hb1_ hb3_ hb5_ hb6_ hb8_ hb9_ hb10_ hb11_ hb12_
      obtain ⟨co19, eo19⟩ := HA_HO370.out
      clear HA_HO370
      subst eo19
      try go_wp2
      go_ret2
      exact ⟨_, by first | rfl | (simp [errW_none, errW_some] <;> rfl) | (simp [*, errW_none, errW_some] <;> rfl), by (with_reducible repeat (first | apply Kd.N_alloc | apply Kd.N_drewN | apply Kd.N_drew)); exact Kd.N_mono HO362.out (fun _ hk => hk.1), by repeat (first | (with_reducible first | exact HB.out | apply below_alloc | apply pw_below_drewN | apply below_drew1 | refine below_set ?_ (IsS68.ge HI359.out)) | exact HB.out)⟩
    · rw [if_neg c8] at H
      exact absurd H (by simp)
  · rw [if_neg c7] at H
    exact absurd H (by simp)

end Go.Proofs.Ythmhmmgackgaaaa.G
