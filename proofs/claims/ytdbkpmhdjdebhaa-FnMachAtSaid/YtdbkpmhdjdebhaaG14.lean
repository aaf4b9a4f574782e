-- Made by gprint.py (the kit's print with contracts of this session's own among its functions).
import Derived.Test.YtdbkpmhdjdebhaaG0
import Derived.Test.YtdbkpmhdjdebhaaG8
import Derived.Test.YtdbkpmhdjdebhaaG10
import Derived.Test.YtdbkpmhdjdebhaaG13
namespace Go.Proofs.Ytdbkpmhdjdebhaa.G
open Go.RowKit Go.Proofs.YtdbkpmhdjdebhaaW.PrintWords Go.Proofs.YtdbkpmhdjdebhaaW.PrintLast Go.Proofs.YtdbkpmhdjdebhaaW.PrintMore
attribute [local go_sem] max2_int min2_int max_two min_two max_three min_three max_four min_four   -- for this text's walks alone
set_option linter.unusedVariables false
set_option linter.unusedSimpArgs false

/-! ### laws_FnMachAt: function 5 -/
mutual
def laws_FnMachAt.j0 : Nat → Int → Int → Bool → Bool → List Int → Int → Int → Option (Bool)
  | 0, _, _, _, _, _, _, _ => none
  | k + 1, x4, x5, x6, x9, x276000, x276001, x276002 => if x9 = true then (laws_FnMachAt.j1 k x4 x5 x9 (!x6) x276000 x276001 x276002) else (laws_FnMachAt.j1 k x4 x5 x9 true x276000 x276001 x276002)
def laws_FnMachAt.j1 : Nat → Int → Int → Bool → Bool → List Int → Int → Int → Option (Bool)
  | 0, _, _, _, _, _, _, _ => none
  | k + 1, x4, x5, x9, x47, x276000, x276001, x276002 => if x47 = true then (some x9) else ((impl_MachAt.f k x276000 x276001 x276002 (wrap64 (x4 + 1))).bind fun bt280 => (laws_FnMachAt.l0 k x4 x5 bt280.1 bt280.2 0 0 x276000 x276001 x276002))
def laws_FnMachAt.l0 : Nat → Int → Int → Int → Bool → Int → Int → List Int → Int → Int → Option (Bool)
  | 0, _, _, _, _, _, _, _, _, _ => none
  | k + 1, x4, x5, x10, x11, x12, x13, x276000, x276001, x276002 => if x13 < (x276000.length : Int) then (if 0 ≤ x13 then (if (Int.tmod (shr .i64 x5 x13) 2) = 1 then (laws_FnMachAt.l0 k x4 x5 x10 x11 (Go.bits .or .i64 x12 (rd x276000 x13)) (wrap64 (x13 + 1)) x276000 x276001 x276002) else (laws_FnMachAt.l0 k x4 x5 x10 x11 x12 (wrap64 (x13 + 1)) x276000 x276001 x276002)) else (none)) else (if x11 = true then (if x10 = x12 then (if x4 > 0 then (some true) else (some (x5 == x276001))) else (some false)) else (if x4 > 0 then (some true) else (some (x5 == x276001))))
end
def laws_FnMachAt.f (k : Nat) (l0 : List Int) : Option (Bool) := if (l0.length : Int) > 1048576 then (some true) else ((spec_DrawMachAt.f k l0).bind fun bt269 => ((impl_MachAt.f k bt269.1 bt269.2.1 bt269.2.2.1 bt269.2.2.2).bind fun bt276 => ((spec_MachAt.f k bt269.1 bt269.2.1 bt269.2.2.1 bt269.2.2.2).bind fun bt278 => (if bt276.1 = bt278.1 then (laws_FnMachAt.j0 k bt269.2.2.2 bt276.1 bt276.2 (bt276.2 == bt278.2) bt269.1 bt269.2.1 bt269.2.2.1) else (laws_FnMachAt.j0 k bt269.2.2.2 bt276.1 bt276.2 false bt269.1 bt269.2.1 bt269.2.2.1)))))
theorem laws_FnMachAt.mono_l : ∀ k, (∀ y0 y1 y2 y3 y4 y5 y6, LeO (laws_FnMachAt.j0 k y0 y1 y2 y3 y4 y5 y6) (laws_FnMachAt.j0 (k + 1) y0 y1 y2 y3 y4 y5 y6)) ∧ (∀ y0 y1 y2 y3 y4 y5 y6, LeO (laws_FnMachAt.j1 k y0 y1 y2 y3 y4 y5 y6) (laws_FnMachAt.j1 (k + 1) y0 y1 y2 y3 y4 y5 y6)) ∧ (∀ y0 y1 y2 y3 y4 y5 y6 y7 y8, LeO (laws_FnMachAt.l0 k y0 y1 y2 y3 y4 y5 y6 y7 y8) (laws_FnMachAt.l0 (k + 1) y0 y1 y2 y3 y4 y5 y6 y7 y8))
  | 0 => ⟨fun _ _ _ _ _ _ _ r h => by simp [laws_FnMachAt.j0] at h, fun _ _ _ _ _ _ _ r h => by simp [laws_FnMachAt.j1] at h, fun _ _ _ _ _ _ _ _ _ r h => by simp [laws_FnMachAt.l0] at h⟩
  | k + 1 => by
    obtain ⟨ih0, ih1, ih2⟩ := laws_FnMachAt.mono_l k
    refine ⟨?_, ?_, ?_⟩
    · intro y0 y1 y2 y3 y4 y5 y6
      unfold laws_FnMachAt.j0
      repeat' first
      | (with_reducible exact ih0 _ _ _ _ _ _ _)
      | (with_reducible exact ih1 _ _ _ _ _ _ _)
      | (with_reducible exact ih2 _ _ _ _ _ _ _ _ _)
      | (with_reducible exact impl_MachAt.mono _ _ _ _ _)
      | (with_reducible exact spec_DrawMachAt.mono _ _)
      | (with_reducible exact spec_MachAt.mono _ _ _ _ _)
      | (with_reducible exact LeO.refl _)
      | (with_reducible exact LeO.none _)
      | (with_reducible refine LeO.ite ?_ ?_)
      | (with_reducible refine LeO.bind ?_ (fun _ => ?_))
      | exact ih0 _ _ _ _ _ _ _
      | exact ih1 _ _ _ _ _ _ _
      | exact ih2 _ _ _ _ _ _ _ _ _
      | exact impl_MachAt.mono _ _ _ _ _
      | exact spec_DrawMachAt.mono _ _
      | exact spec_MachAt.mono _ _ _ _ _
      | exact LeO.none _
      | refine LeO.ite ?_ ?_
      | refine LeO.bind ?_ (fun _ => ?_)
    · intro y0 y1 y2 y3 y4 y5 y6
      unfold laws_FnMachAt.j1
      repeat' first
      | (with_reducible exact ih0 _ _ _ _ _ _ _)
      | (with_reducible exact ih1 _ _ _ _ _ _ _)
      | (with_reducible exact ih2 _ _ _ _ _ _ _ _ _)
      | (with_reducible exact impl_MachAt.mono _ _ _ _ _)
      | (with_reducible exact spec_DrawMachAt.mono _ _)
      | (with_reducible exact spec_MachAt.mono _ _ _ _ _)
      | (with_reducible exact LeO.refl _)
      | (with_reducible exact LeO.none _)
      | (with_reducible refine LeO.ite ?_ ?_)
      | (with_reducible refine LeO.bind ?_ (fun _ => ?_))
      | exact ih0 _ _ _ _ _ _ _
      | exact ih1 _ _ _ _ _ _ _
      | exact ih2 _ _ _ _ _ _ _ _ _
      | exact impl_MachAt.mono _ _ _ _ _
      | exact spec_DrawMachAt.mono _ _
      | exact spec_MachAt.mono _ _ _ _ _
      | exact LeO.none _
      | refine LeO.ite ?_ ?_
      | refine LeO.bind ?_ (fun _ => ?_)
    · intro y0 y1 y2 y3 y4 y5 y6 y7 y8
      unfold laws_FnMachAt.l0
      repeat' first
      | (with_reducible exact ih0 _ _ _ _ _ _ _)
      | (with_reducible exact ih1 _ _ _ _ _ _ _)
      | (with_reducible exact ih2 _ _ _ _ _ _ _ _ _)
      | (with_reducible exact impl_MachAt.mono _ _ _ _ _)
      | (with_reducible exact spec_DrawMachAt.mono _ _)
      | (with_reducible exact spec_MachAt.mono _ _ _ _ _)
      | (with_reducible exact LeO.refl _)
      | (with_reducible exact LeO.none _)
      | (with_reducible refine LeO.ite ?_ ?_)
      | (with_reducible refine LeO.bind ?_ (fun _ => ?_))
      | exact ih0 _ _ _ _ _ _ _
      | exact ih1 _ _ _ _ _ _ _
      | exact ih2 _ _ _ _ _ _ _ _ _
      | exact impl_MachAt.mono _ _ _ _ _
      | exact spec_DrawMachAt.mono _ _
      | exact spec_MachAt.mono _ _ _ _ _
      | exact LeO.none _
      | refine LeO.ite ?_ ?_
      | refine LeO.bind ?_ (fun _ => ?_)
theorem laws_FnMachAt.mono : ∀ a0 k, LeO (laws_FnMachAt.f k a0) (laws_FnMachAt.f (k + 1) a0) := by
  intro a0 k
  obtain ⟨ih0, ih1, ih2⟩ := laws_FnMachAt.mono_l k
  unfold laws_FnMachAt.f
  repeat' first
      | (with_reducible exact ih0 _ _ _ _ _ _ _)
      | (with_reducible exact ih1 _ _ _ _ _ _ _)
      | (with_reducible exact ih2 _ _ _ _ _ _ _ _ _)
      | (with_reducible exact impl_MachAt.mono _ _ _ _ _)
      | (with_reducible exact spec_DrawMachAt.mono _ _)
      | (with_reducible exact spec_MachAt.mono _ _ _ _ _)
      | (with_reducible exact LeO.refl _)
      | (with_reducible exact LeO.none _)
      | (with_reducible refine LeO.ite ?_ ?_)
      | (with_reducible refine LeO.bind ?_ (fun _ => ?_))
      | exact ih0 _ _ _ _ _ _ _
      | exact ih1 _ _ _ _ _ _ _
      | exact ih2 _ _ _ _ _ _ _ _ _
      | exact impl_MachAt.mono _ _ _ _ _
      | exact spec_DrawMachAt.mono _ _
      | exact spec_MachAt.mono _ _ _ _ _
      | exact LeO.none _
      | refine LeO.ite ?_ ?_
      | refine LeO.bind ?_ (fun _ => ?_)
set_option maxHeartbeats 8000000 in
set_option maxRecDepth 100000 in
theorem laws_FnMachAt.calls (k : Nat) (A0 : Option Addr) (c0 : Nat) (l0 : List Int) (r : Bool) (w : World) (hr0 : Kd.C (Kd.int .u8) w A0 l0.length l0) (hc0 : l0.length ≤ c0) (h : laws_FnMachAt.f k l0 = some r) :
    Calls Try.prog 5 #[.slice A0 l0.length c0] w fun e w' => e = .returned (.bool r) ∧ Below w.heap.size w w' := by
  have hu27 := Try.underlying27
  have HR0 := Aside0.mk hr0
  have HC0 := Aside0.mk hc0
  clear hr0 hc0
  have HB := Aside0.mk (Below.refl w.heap.size w)
  have H : (if (l0.length : Int) > 1048576 then (some true) else ((spec_DrawMachAt.f k l0).bind fun bt269 => ((impl_MachAt.f k bt269.1 bt269.2.1 bt269.2.2.1 bt269.2.2.2).bind fun bt276 => ((spec_MachAt.f k bt269.1 bt269.2.1 bt269.2.2.1 bt269.2.2.2).bind fun bt278 => (if bt276.1 = bt278.1 then (laws_FnMachAt.j0 k bt269.2.2.2 bt276.1 bt276.2 (bt276.2 == bt278.2) bt269.1 bt269.2.1 bt269.2.2.1) else (laws_FnMachAt.j0 k bt269.2.2.2 bt276.1 bt276.2 false bt269.1 bt269.2.1 bt269.2.2.1)))))) = some r := h
  clear h
  by_cases c2 : (l0.length : Int) > 1048576
  · rw [if_pos c2] at H
    have c2b0 : decide (1048576 < (l0.length : Int)) = true := decide_eq_true c2
    have c2b1 : decide (1048576 < l0.length) = true := decide_eq_true (by omega)
    clear c2
    obtain rfl := Option.some.inj H
    go_enter Try.func5, Try.ntmps5
    go_wp2
    go_ret
    exact ⟨by first | rfl | (simp [errW_none, errW_some] <;> rfl) | (simp [*, errW_none, errW_some] <;> rfl), by repeat (first | (with_reducible first | exact HB.out | apply below_alloc | apply pw_below_drewN | apply below_drew1) | exact HB.out)⟩
  · rw [if_neg c2] at H
    have c2b0 : decide (1048576 < (l0.length : Int)) = false := decide_eq_false c2
    have c2b1 : decide (1048576 < l0.length) = false := decide_eq_false (by omega)
    clear c2
    replace H := Option.bind_eq_some_iff.mp H
    obtain ⟨⟨t269, t272, t273, t274⟩, A30, H⟩ := H
    replace H : ((impl_MachAt.f k t269 t272 t273 t274).bind fun bt276 => ((spec_MachAt.f k t269 t272 t273 t274).bind fun bt278 => (if bt276.1 = bt278.1 then (laws_FnMachAt.j0 k t274 bt276.1 bt276.2 (bt276.2 == bt278.2) t269 t272 t273) else (laws_FnMachAt.j0 k t274 bt276.1 bt276.2 false t269 t272 t273)))) = some r := H
    have A3 := Aside0.mk A30
    clear A30
    replace H := Option.bind_eq_some_iff.mp H
    obtain ⟨⟨t276, t277⟩, A40, H⟩ := H
    replace H : ((spec_MachAt.f k t269 t272 t273 t274).bind fun bt278 => (if t276 = bt278.1 then (laws_FnMachAt.j0 k t274 t276 t277 (t277 == bt278.2) t269 t272 t273) else (laws_FnMachAt.j0 k t274 t276 t277 false t269 t272 t273))) = some r := H
    have A4 := Aside0.mk A40
    clear A40
    replace H := Option.bind_eq_some_iff.mp H
    obtain ⟨⟨t278, t279⟩, A50, H⟩ := H
    replace H : (if t276 = t278 then (laws_FnMachAt.j0 k t274 t276 t277 (t277 == t279) t269 t272 t273) else (laws_FnMachAt.j0 k t274 t276 t277 false t269 t272 t273)) = some r := H
    have A5 := Aside0.mk A50
    clear A50
    have HC6 := Aside0.mk H
    clear H
    go_enter Try.func5, Try.ntmps5
    go_upto_region 6 with (first | ((with_reducible refine gate_callee (f := 22) rfl ?_); refine goesL_ (some 19) rfl rfl Try.func22 (by kernel_rfl) rfl #[.slice A0 l0.length c0] rfl (by (try simp only [List.map_toArray, List.map_cons, List.map_nil]); first | done | rfl | (simp only [List.length_drop, List.length_take]; rfl)) ?_; (with_reducible refine (spec_DrawMachAt.calls k _ _ l0 t269 t272 t273 t274 _ ?side1 ?side2 A3.out).mono ?_); (case side1 => repeat (first | exact HR0.out | (with_reducible refine Kd.C_alloc ?_ _) | (with_reducible refine Kd.C_drewN ?_ _) | (with_reducible refine Kd.C_drew ?_))); (case side2 => exact HC0.out); rintro e w7 ⟨v270, rfl, ho0, hb⟩; refine ⟨_, rfl, ?_⟩; have n0_ := Aside0.mk (Kd.R_lower ho0 (below_size (by repeat (first | (with_reducible first | exact HB.out | apply below_alloc | apply pw_below_drewN | apply below_drew1) | exact HB.out)))); have n1_ := Aside0.mk (below_step (by repeat (first | (with_reducible first | exact HB.out | apply below_alloc | apply pw_below_drewN | apply below_drew1) | exact HB.out)) hb); clear HB; have HO271 := n0_; have HB := n1_; clear n0_ n1_; (try clear hb); (try clear hb2); (try clear hk); (try clear hi); (try clear ho0)) | ((with_reducible refine gate_dst (N := 3) rfl ?_); refine box_event ?hg (N := 3) ?hd (cs := #[.slice none 0 0, .int .i64 0, .int .i64 0]) (t := 27) ?hr ?_; (case hd => rfl); (case hg => rfl); (case hr => first | (go_simp; done) | (go_simp; rfl)); intro gb275 hg w8 hbox hb; have n0_ := Aside0.mk (Kd.R_below (by (with_reducible repeat (first | apply Kd.R_alloc | apply Kd.R_drewN | apply Kd.R_drew)); exact HO271.out) hb); have n1_ := Aside0.mk (below_step (by repeat (first | (with_reducible first | exact HB.out | apply below_alloc | apply pw_below_drewN | apply below_drew1) | exact HB.out)) hb); have n2_ := Aside0.mk (hbox); have n3_ := Aside0.mk ((by rw [hg]; exact (below_size (by repeat (first | (with_reducible first | exact HB.out | apply below_alloc | apply pw_below_drewN | apply below_drew1) | exact HB.out))) : w.heap.size ≤ gb275)); have n4_ := Aside0.mk ((by rw [hg]; exact (below_size (by repeat (first | (with_reducible first | exact HB.out | apply below_alloc | apply pw_below_drewN | apply below_drew1) | exact HB.out))) : w.heap.size ≤ gb275)); clear HO271; clear HB; have HO271 := n0_; have HB := n1_; have BK275 := n2_; have GW275 := n3_; have GE275 := n4_; clear n0_ n1_ n2_ n3_ n4_; clear hb hbox hg; obtain ⟨Ao9, co9, eo9⟩ := Kd.R_slice HO271.out; subst eo9; have hcz10_0 : w8.cell? ⟨gb275, 0, none⟩ = some (.slice none 0 0) := (blk_cell BK275.out 0).trans rfl; have hcz10_1 : w8.cell? ⟨gb275, 1, none⟩ = some (.int .i64 0) := (blk_cell BK275.out 1).trans rfl; have hcz10_2 : w8.cell? ⟨gb275, 2, none⟩ = some (.int .i64 0) := (blk_cell BK275.out 2).trans rfl; have hfz10_0 := blk_frozen BK275.out 0; have hfz10_1 := blk_frozen BK275.out 1; have hfz10_2 := blk_frozen BK275.out 2) | ((with_reducible refine gate_callee (f := 21) rfl ?_); refine goesL_ (some 25) rfl rfl Try.func21 (by kernel_rfl) rfl #[.agg #[.slice Ao9 t269.length co9, .int .i64 t272, .int .i64 t273], .int .i64 t274] rfl (by (try simp only [List.map_toArray, List.map_cons, List.map_nil]); first | done | rfl | (simp only [List.length_drop, List.length_take]; rfl)) ?_; (with_reducible refine (impl_MachAt.calls k _ _ t269 t272 t273 t274 t276 t277 _ ?side1 ?side2 A4.out).mono ?_); (case side1 => refine (Kd.R_reads' (e := 3) (base := w.heap.size) (ok := fun k_ => True) (n := t269.length) (c := co9) ?_).2.2; exact (by (with_reducible repeat (first | apply Kd.R_alloc | apply Kd.R_drewN | apply Kd.R_drew)); exact (Kd.R_mono (Kd.R_far (p := ⟨gb275, 2, none⟩) (Kd.R_far (p := ⟨gb275, 1, none⟩) (Kd.R_far (p := ⟨gb275, 0, none⟩) (Kd.R_types HO271.out BK275.out (by decide)) (fun _ hk => hk.2) (.slice Ao9 t269.length co9)) (fun _ hk => hk.2) (.int .i64 t272)) (fun _ hk => hk.2) (.int .i64 t273)) (fun _ h_ => h_.1)))); (case side2 => exact (Kd.R_reads' HO271.out).2.1); rintro e w11 ⟨rfl, hb⟩; refine ⟨_, rfl, ?_⟩; have n0_ := Aside0.mk (Kd.R_below (by (with_reducible repeat (first | apply Kd.R_alloc | apply Kd.R_drewN | apply Kd.R_drew)); exact (Kd.R_mono (Kd.R_far (p := ⟨gb275, 2, none⟩) (Kd.R_far (p := ⟨gb275, 1, none⟩) (Kd.R_far (p := ⟨gb275, 0, none⟩) (Kd.R_types HO271.out BK275.out (by decide)) (fun _ hk => hk.2) (.slice Ao9 t269.length co9)) (fun _ hk => hk.2) (.int .i64 t272)) (fun _ hk => hk.2) (.int .i64 t273)) (fun _ h_ => h_.1))) hb); have n1_ := Aside0.mk (blk_below (g := gb275) (o := .cells #[.slice Ao9 t269.length co9, .int .i64 t272, .int .i64 t273] 27 (0, 0)) (by (with_reducible repeat (first | refine blk_drewN ?_ _ | refine blk_drew ?_ | refine blk_alloc ?_ _)); refine blk_put (cs := #[.slice Ao9 t269.length co9, .int .i64 t272, .int .i64 0]) ?_ 2 _ rfl; (with_reducible repeat (first | refine blk_drewN ?_ _ | refine blk_drew ?_ | refine blk_alloc ?_ _)); refine blk_put (cs := #[.slice Ao9 t269.length co9, .int .i64 0, .int .i64 0]) ?_ 1 _ rfl; (with_reducible repeat (first | refine blk_drewN ?_ _ | refine blk_drew ?_ | refine blk_alloc ?_ _)); refine blk_put (cs := #[.slice none 0 0, .int .i64 0, .int .i64 0]) ?_ 0 _ rfl; (with_reducible repeat (first | refine blk_drewN ?_ _ | refine blk_drew ?_ | refine blk_alloc ?_ _)); exact BK275.out) hb); have n2_ := Aside0.mk (below_step (by repeat (first | (with_reducible first | exact HB.out | apply below_alloc | apply pw_below_drewN | apply below_drew1 | refine below_set ?_ GE275.out) | exact HB.out)) hb); clear HO271; clear BK275; clear HB; have HO271 := n0_; have BK275 := n1_; have HB := n2_; clear n0_ n1_ n2_; (try clear hb); (try clear hb2); (try clear hk); (try clear hi); have hcz12_0 : w11.cell? ⟨gb275, 0, none⟩ = some (.slice Ao9 t269.length co9) := (blk_cell BK275.out 0).trans rfl; have hcz12_1 : w11.cell? ⟨gb275, 1, none⟩ = some (.int .i64 t272) := (blk_cell BK275.out 1).trans rfl; have hcz12_2 : w11.cell? ⟨gb275, 2, none⟩ = some (.int .i64 t273) := (blk_cell BK275.out 2).trans rfl; have hfz12_0 := blk_frozen BK275.out 0; have hfz12_1 := blk_frozen BK275.out 1; have hfz12_2 := blk_frozen BK275.out 2) | ((with_reducible refine gate_callee (f := 23) rfl ?_); refine goesL_ (some 31) rfl rfl Try.func23 (by kernel_rfl) rfl #[.agg #[.slice Ao9 t269.length co9, .int .i64 t272, .int .i64 t273], .int .i64 t274] rfl (by (try simp only [List.map_toArray, List.map_cons, List.map_nil]); first | done | rfl | (simp only [List.length_drop, List.length_take]; rfl)) ?_; (with_reducible refine (spec_MachAt.calls k _ _ t269 t272 t273 t274 t278 t279 _ ?side1 ?side2 A5.out).mono ?_); (case side1 => repeat (first | exact (Kd.R_reads' HO271.out).2.2 | (with_reducible refine Kd.C_alloc ?_ _) | (with_reducible refine Kd.C_drewN ?_ _) | (with_reducible refine Kd.C_drew ?_))); (case side2 => exact (Kd.R_reads' HO271.out).2.1); rintro e w13 ⟨rfl, hb⟩; refine ⟨_, rfl, ?_⟩; have n0_ := Aside0.mk (Kd.R_below (by (with_reducible repeat (first | apply Kd.R_alloc | apply Kd.R_drewN | apply Kd.R_drew)); exact HO271.out) hb); have n1_ := Aside0.mk (blk_below (g := gb275) (o := .cells #[.slice Ao9 t269.length co9, .int .i64 t272, .int .i64 t273] 27 (0, 0)) (by (with_reducible repeat (first | refine blk_drewN ?_ _ | refine blk_drew ?_ | refine blk_alloc ?_ _)); exact BK275.out) hb); have n2_ := Aside0.mk (below_step (by repeat (first | (with_reducible first | exact HB.out | apply below_alloc | apply pw_below_drewN | apply below_drew1 | refine below_set ?_ GE275.out) | exact HB.out)) hb); clear HO271; clear BK275; clear HB; have HO271 := n0_; have BK275 := n1_; have HB := n2_; clear n0_ n1_ n2_; (try clear hb); (try clear hb2); (try clear hk); (try clear hi)))
    (try simp only [Act.put, List.setIfInBounds_toArray, List.set_cons_zero, List.set_cons_succ])
    go_cut [9] (fun v9 wc => ∃ (kq : Nat) (x9_5 : Bool), v9 = .bool x9_5 ∧ Aside0 (laws_FnMachAt.j0 kq t274 t276 t277 x9_5 t269 t272 t273 = some r) ∧ Aside0 (kq ≤ k) ∧ Aside0 (Kd.R (Kd.int .i64) 3 wc w.heap.size (fun _ => True) (.slice Ao9 t269.length co9) t269) ∧ Aside0 (wc.heap[gb275]? = some (.cells #[(.slice Ao9 t269.length co9), .int .i64 t272, .int .i64 t273] 27 (0, 0))) ∧ Aside0 (Below w.heap.size w wc))
    case first =>
      have H := HC6.out
      clear HC6
      by_cases c14 : t276 = t278
      · rw [if_pos c14] at H
        have c14b0 : (t276 == t278) = true := beq_iff_eq.mpr c14
        have c14b1 : (t276 != t278) = false := bne_eq_false_iff_eq.mpr c14
        clear c14
        (first | rw [c14b0] | (simp only [i64_w, i32_w]; rw [c14b0]) | skip)
        have H' := Aside0.mk H
        clear H
        go_wp2
        go_meet
        case rel => exact ⟨_, ((t277 == t279)), (by first | rfl | (simp; done) | (simp [*]; done) | (simp only [IntKind.wrap_i64, wrap64]; done)), H', ⟨by first | omega | exact Nat.le_refl _⟩, ⟨by (with_reducible repeat (first | apply Kd.R_alloc | apply Kd.R_drewN | apply Kd.R_drew)); exact HO271.out⟩, ⟨by (with_reducible repeat (first | refine blk_drewN ?_ _ | refine blk_drew ?_ | refine blk_alloc ?_ _)); exact BK275.out⟩, ⟨by repeat (first | (with_reducible first | exact HB.out | apply below_alloc | apply pw_below_drewN | apply below_drew1 | refine below_set ?_ GE275.out) | exact HB.out)⟩⟩
      · rw [if_neg c14] at H
        have c14b0 : (t276 == t278) = false := beq_eq_false_iff_ne.mpr c14
        have c14b1 : (t276 != t278) = true := bne_iff_ne.mpr c14
        (first | rw [c14b0] | (simp only [i64_w, i32_w]; rw [c14b0]) | skip)
        have H' := Aside0.mk H
        clear H
        go_wp2
        go_meet
        case rel => exact ⟨_, (false), (by first | rfl | (simp; done) | (simp [*]; done) | (simp only [IntKind.wrap_i64, wrap64]; done)), H', ⟨by first | omega | exact Nat.le_refl _⟩, ⟨by (with_reducible repeat (first | apply Kd.R_alloc | apply Kd.R_drewN | apply Kd.R_drew)); exact HO271.out⟩, ⟨by (with_reducible repeat (first | refine blk_drewN ?_ _ | refine blk_drew ?_ | refine blk_alloc ?_ _)); exact BK275.out⟩, ⟨by repeat (first | (with_reducible first | exact HB.out | apply below_alloc | apply pw_below_drewN | apply below_drew1 | refine below_set ?_ GE275.out) | exact HB.out)⟩⟩
    case rest =>
      clear HC6
      try clear c1
      try clear c2
      try clear c2b0
      try clear c2b1
      try clear p2
      try clear c5
      try clear c14
      try clear c14b0
      try clear c14b1
      try clear hcz10_0
      try clear hcz10_1
      try clear hcz10_2
      try clear hcz12_0
      try clear hcz12_1
      try clear hcz12_2
      try clear hfz10_0
      try clear hfz10_1
      try clear hfz10_2
      try clear hfz12_0
      try clear hfz12_1
      try clear hfz12_2
      obtain ⟨kq, x9_5, rfl, HA, HJ5, HO_276000, BK275, HB⟩ := hcut
      cases kq with
      | zero => exact absurd HA.out (by simp [laws_FnMachAt.j0])
      | succ kj5 =>
        have H := HA.out
        clear HA
        simp only [laws_FnMachAt.j0] at H
        have HC15 := Aside0.mk H
        clear H
        go_upto_region 7 with (fail)
        go_cut [47] (fun v47 wc => ∃ (kq : Nat) (x47_14 : Bool), v47 = .bool x47_14 ∧ Aside0 (laws_FnMachAt.j1 kq t274 t276 x9_5 x47_14 t269 t272 t273 = some r) ∧ Aside0 (kq ≤ kj5) ∧ Aside0 (Kd.R (Kd.int .i64) 3 wc w.heap.size (fun _ => True) (.slice Ao9 t269.length co9) t269) ∧ Aside0 (wc.heap[gb275]? = some (.cells #[(.slice Ao9 t269.length co9), .int .i64 t272, .int .i64 t273] 27 (0, 0))) ∧ Aside0 (Below w.heap.size w wc))
        case first =>
          have H := HC15.out
          clear HC15
          by_cases c16 : x9_5 = true
          · subst c16
            have H1 : (laws_FnMachAt.j1 kj5 t274 t276 true (!t277) t269 t272 t273) = some r := by rw [if_pos rfl] at H; exact H
            clear H
            have H := H1
            clear H1
            have H' := Aside0.mk H
            clear H
            go_wp2
            go_meet
            case rel => exact ⟨_, (!t277), (by first | rfl | (simp; done) | (simp [*]; done) | (simp only [IntKind.wrap_i64, wrap64]; done)), H', ⟨by have := HJ5.out; first | omega | exact Nat.le_refl _⟩, ⟨by (with_reducible repeat (first | apply Kd.R_alloc | apply Kd.R_drewN | apply Kd.R_drew)); exact HO_276000.out⟩, ⟨by (with_reducible repeat (first | refine blk_drewN ?_ _ | refine blk_drew ?_ | refine blk_alloc ?_ _)); exact BK275.out⟩, ⟨by repeat (first | (with_reducible first | exact HB.out | apply below_alloc | apply pw_below_drewN | apply below_drew1 | refine below_set ?_ GE275.out) | exact HB.out)⟩⟩
          · replace c16 := Bool.eq_false_iff.mpr c16
            subst c16
            have H1 : (laws_FnMachAt.j1 kj5 t274 t276 false true t269 t272 t273) = some r := by rw [if_neg (show ¬ (false = true) by decide)] at H; exact H
            clear H
            have H := H1
            clear H1
            have H' := Aside0.mk H
            clear H
            go_wp2
            go_meet
            case rel => exact ⟨_, (true), (by first | rfl | (simp; done) | (simp [*]; done) | (simp only [IntKind.wrap_i64, wrap64]; done)), H', ⟨by have := HJ5.out; first | omega | exact Nat.le_refl _⟩, ⟨by (with_reducible repeat (first | apply Kd.R_alloc | apply Kd.R_drewN | apply Kd.R_drew)); exact HO_276000.out⟩, ⟨by (with_reducible repeat (first | refine blk_drewN ?_ _ | refine blk_drew ?_ | refine blk_alloc ?_ _)); exact BK275.out⟩, ⟨by repeat (first | (with_reducible first | exact HB.out | apply below_alloc | apply pw_below_drewN | apply below_drew1 | refine below_set ?_ GE275.out) | exact HB.out)⟩⟩
        case rest =>
          clear HC15
          try clear c1
          try clear c2
          try clear c2b0
          try clear c2b1
          try clear p2
          try clear c5
          try clear c14
          try clear c14b0
          try clear c14b1
          try clear c16
          try clear hcz10_0
          try clear hcz10_1
          try clear hcz10_2
          try clear hcz12_0
          try clear hcz12_1
          try clear hcz12_2
          try clear hfz10_0
          try clear hfz10_1
          try clear hfz10_2
          try clear hfz12_0
          try clear hfz12_1
          try clear hfz12_2
          try clear p2
          obtain ⟨kq, x47_14, rfl, HA, HJ14, HO_276000, BK275, HB⟩ := hcut
          cases kq with
          | zero => exact absurd HA.out (by simp [laws_FnMachAt.j1])
          | succ kj14 =>
            have H := HA.out
            clear HA
            simp only [laws_FnMachAt.j1] at H
            by_cases c17 : x47_14 = true
            · subst c17
              have H1 : (some x9_5) = some r := by rw [if_pos rfl] at H; exact H
              clear H
              have H := H1
              clear H1
              obtain rfl := Option.some.inj H
              go_wp2
              go_ret
              exact ⟨by first | rfl | (simp [errW_none, errW_some] <;> rfl) | (simp [*, errW_none, errW_some] <;> rfl), by repeat (first | (with_reducible first | exact HB.out | apply below_alloc | apply pw_below_drewN | apply below_drew1 | refine below_set ?_ GE275.out) | exact HB.out)⟩
            · replace c17 := Bool.eq_false_iff.mpr c17
              subst c17
              have H1 : ((impl_MachAt.f kj14 t269 t272 t273 (wrap64 (t274 + 1))).bind fun bt280 => (laws_FnMachAt.l0 kj14 t274 t276 bt280.1 bt280.2 0 0 t269 t272 t273)) = some r := by rw [if_neg (show ¬ (false = true) by decide)] at H; exact H
              clear H
              have H := H1
              clear H1
              replace H := Option.bind_eq_some_iff.mp H
              obtain ⟨⟨t280, t281⟩, A180, H⟩ := H
              replace H : (laws_FnMachAt.l0 kj14 t274 t276 t280 t281 0 0 t269 t272 t273) = some r := H
              have A18 := Aside0.mk A180
              clear A180
              have H' := Aside0.mk H
              clear H
              have hcz19_0 : wc.cell? ⟨gb275, 0, none⟩ = some (.slice Ao9 t269.length co9) := (blk_cell BK275.out 0).trans rfl
              have hcz19_1 : wc.cell? ⟨gb275, 1, none⟩ = some (.int .i64 t272) := (blk_cell BK275.out 1).trans rfl
              have hcz19_2 : wc.cell? ⟨gb275, 2, none⟩ = some (.int .i64 t273) := (blk_cell BK275.out 2).trans rfl
              have hfz19_0 := blk_frozen BK275.out 0
              have hfz19_1 := blk_frozen BK275.out 1
              have hfz19_2 := blk_frozen BK275.out 2
              go_wp2_with (first | ((with_reducible refine gate_callee (f := 21) rfl ?_); refine goesL_ (some 53) rfl rfl Try.func21 (by kernel_rfl) rfl #[.agg #[.slice Ao9 t269.length co9, .int .i64 t272, .int .i64 t273], .int .i64 (wrap64 (t274 + 1))] rfl (by (try simp only [List.map_toArray, List.map_cons, List.map_nil]); first | done | rfl | (simp only [List.length_drop, List.length_take]; rfl)) ?_; (with_reducible refine (impl_MachAt.calls kj14 _ _ t269 t272 t273 (wrap64 (t274 + 1)) t280 t281 _ ?side1 ?side2 A18.out).mono ?_); (case side1 => repeat (first | exact (Kd.R_reads' HO_276000.out).2.2 | (with_reducible refine Kd.C_alloc ?_ _) | (with_reducible refine Kd.C_drewN ?_ _) | (with_reducible refine Kd.C_drew ?_))); (case side2 => exact (Kd.R_reads' HO_276000.out).2.1); rintro e w20 ⟨rfl, hb⟩; refine ⟨_, rfl, ?_⟩; have n0_ := Aside0.mk (Kd.R_below (by (with_reducible repeat (first | apply Kd.R_alloc | apply Kd.R_drewN | apply Kd.R_drew)); exact HO_276000.out) hb); have n1_ := Aside0.mk (blk_below (g := gb275) (o := .cells #[.slice Ao9 t269.length co9, .int .i64 t272, .int .i64 t273] 27 (0, 0)) (by (with_reducible repeat (first | refine blk_drewN ?_ _ | refine blk_drew ?_ | refine blk_alloc ?_ _)); exact BK275.out) hb); have n2_ := Aside0.mk (below_step (by repeat (first | (with_reducible first | exact HB.out | apply below_alloc | apply pw_below_drewN | apply below_drew1 | refine below_set ?_ GE275.out) | exact HB.out)) hb); clear HO_276000; clear BK275; clear HB; have HO_276000 := n0_; have BK275 := n1_; have HB := n2_; clear n0_ n1_ n2_; (try clear hb); (try clear hb2); (try clear hk); (try clear hi)))
              go_loopg [12, 13] kj14 (fun kq v12 v13 w' => ∃ (x12_3 : Int) (x13_3 : Int), v12 = .int .i64 x12_3 ∧ v13 = .int .i64 x13_3 ∧ Aside0 (laws_FnMachAt.l0 kq t274 t276 t280 t281 x12_3 x13_3 t269 t272 t273 = some r) ∧ Aside0 (kq ≤ kj14) ∧ Aside0 (Kd.R (Kd.int .i64) 3 w' w.heap.size (fun _ => True) (.slice Ao9 t269.length co9) t269) ∧ Aside0 (w'.heap[gb275]? = some (.cells #[(.slice Ao9 t269.length co9), .int .i64 t272, .int .i64 t273] 27 (0, 0))) ∧ Aside0 (Below w.heap.size w w'))
              case atStart => exact ⟨(0), (0), (by first | rfl | (simp; done) | (simp [*]; done) | (simp only [IntKind.wrap_i64, wrap64]; done)), (by first | rfl | (simp; done) | (simp [*]; done) | (simp only [IntKind.wrap_i64, wrap64]; done)), H', ⟨Nat.le_refl _⟩, ⟨by (with_reducible repeat (first | apply Kd.R_alloc | apply Kd.R_drewN | apply Kd.R_drew)); exact HO_276000.out⟩, ⟨by (with_reducible repeat (first | refine blk_drewN ?_ _ | refine blk_drew ?_ | refine blk_alloc ?_ _)); exact BK275.out⟩, ⟨by repeat (first | (with_reducible first | exact HB.out | apply below_alloc | apply pw_below_drewN | apply below_drew1 | refine below_set ?_ GE275.out) | exact HB.out)⟩⟩
              case round =>
                clear H'
                try clear c1
                try clear c2
                try clear c2b0
                try clear c2b1
                try clear p2
                try clear c5
                try clear p6
                try clear c14
                try clear c14b0
                try clear c14b1
                try clear c16
                try clear c17
                try clear hcz10_0
                try clear hcz10_1
                try clear hcz10_2
                try clear hcz12_0
                try clear hcz12_1
                try clear hcz12_2
                try clear hcz19_0
                try clear hcz19_1
                try clear hcz19_2
                try clear hfz10_0
                try clear hfz10_1
                try clear hfz10_2
                try clear hfz12_0
                try clear hfz12_1
                try clear hfz12_2
                try clear hfz19_0
                try clear hfz19_1
                try clear hfz19_2
                try clear p2
                obtain ⟨x12_3, x13_3, rfl, rfl, HA, HK3, HO_276000, BK275, HB⟩ := hrel
                cases gk with
                | zero => exact absurd HA.out (by simp [laws_FnMachAt.l0])
                | succ k3 =>
                  have H := HA.out
                  clear HA
                  simp only [laws_FnMachAt.l0] at H
                  by_cases c21 : x13_3 < (t269.length : Int)
                  · rw [if_pos c21] at H
                    have c21b0 : decide (x13_3 < (t269.length : Int)) = true := decide_eq_true c21
                    clear c21
                    by_cases c22 : 0 ≤ x13_3
                    · rw [if_pos c22] at H
                      have c22b0 := eq_true c22
                      have c22b1 : decide (0 ≤ x13_3) = true := decide_eq_true c22
                      clear c22
                      obtain ⟨ji23, hji23⟩ : ∃ j_ : Int, (shr .i64 t276 x13_3) = j_ := ⟨_, rfl⟩
                      replace H : (if (Int.tmod (ji23) 2) = 1 then (laws_FnMachAt.l0 k3 t274 t276 t280 t281 (Go.bits .or .i64 x12_3 (rd t269 x13_3)) (wrap64 (x13_3 + 1)) t269 t272 t273) else (laws_FnMachAt.l0 k3 t274 t276 t280 t281 x12_3 (wrap64 (x13_3 + 1)) t269 t272 t273)) = some r := by first | (rw [hji23] at H; exact H) | (simp only [hji23] at H ⊢; exact H)
                      have hji23_ : (t276 / 2 ^ min x13_3.toNat 64) = ji23 := hji23
                      have hji23z : x13_3 ≤ 64 → (t276 / 2 ^ x13_3.toNat) = ji23 := shr_small hji23
                      by_cases c24 : (Int.tmod (ji23) 2) = 1
                      · rw [if_pos c24] at H
                        have c24b0 : ((Int.tmod (ji23) 2) == 1) = true := beq_iff_eq.mpr c24
                        have c24b1 : ((Int.tmod (ji23) 2) != 1) = false := bne_eq_false_iff_eq.mpr c24
                        clear c24
                        have H' := Aside0.mk H
                        clear H
                        have hcz25_0 : wr.cell? ⟨gb275, 0, none⟩ = some (.slice Ao9 t269.length co9) := (blk_cell BK275.out 0).trans rfl
                        have hcz25_1 : wr.cell? ⟨gb275, 1, none⟩ = some (.int .i64 t272) := (blk_cell BK275.out 1).trans rfl
                        have hcz25_2 : wr.cell? ⟨gb275, 2, none⟩ = some (.int .i64 t273) := (blk_cell BK275.out 2).trans rfl
                        have hfz25_0 := blk_frozen BK275.out 0
                        have hfz25_1 := blk_frozen BK275.out 1
                        have hfz25_2 := blk_frozen BK275.out 2
                        have p282 : 0 ≤ (x13_3 : Int) := of_decide_eq_true (by first | (with_reducible assumption) | assumption)
                        have q282 : x13_3 < (t269.length : Int) := of_decide_eq_true (by first | (with_reducible assumption) | assumption)
                        obtain ⟨ad282, e282, hx282_0⟩ := Kd.at_int (Kd.R_reads' HO_276000.out).2.2 x13_3 p282 q282
                        cases e282
                        replace p282 := eq_true p282
                        replace q282 := eq_true q282
                        go_wp2
                        go_roundg k3
                        case measure => have := HJ5.out; have := HJ14.out; have := HK3.out; omega
                        case rel => exact ⟨(Go.bits .or .i64 x12_3 (rd t269 x13_3)), (wrap64 (x13_3 + 1)), (by first | rfl | (simp; done) | (simp [*]; done) | (simp only [IntKind.wrap_i64, wrap64]; done)), (by first | rfl | (simp; done) | (simp [*]; done) | (simp only [IntKind.wrap_i64, wrap64]; done)), H', ⟨by have := HJ5.out; have := HJ14.out; have := HK3.out; omega⟩, ⟨by (with_reducible repeat (first | apply Kd.R_alloc | apply Kd.R_drewN | apply Kd.R_drew)); exact HO_276000.out⟩, ⟨by (with_reducible repeat (first | refine blk_drewN ?_ _ | refine blk_drew ?_ | refine blk_alloc ?_ _)); exact BK275.out⟩, ⟨by repeat (first | (with_reducible first | exact HB.out | apply below_alloc | apply pw_below_drewN | apply below_drew1 | refine below_set ?_ GE275.out) | exact HB.out)⟩⟩
                      · rw [if_neg c24] at H
                        have c24b0 : ((Int.tmod (ji23) 2) == 1) = false := beq_eq_false_iff_ne.mpr c24
                        have c24b1 : ((Int.tmod (ji23) 2) != 1) = true := bne_iff_ne.mpr c24
                        have H' := Aside0.mk H
                        clear H
                        have hcz26_0 : wr.cell? ⟨gb275, 0, none⟩ = some (.slice Ao9 t269.length co9) := (blk_cell BK275.out 0).trans rfl
                        have hcz26_1 : wr.cell? ⟨gb275, 1, none⟩ = some (.int .i64 t272) := (blk_cell BK275.out 1).trans rfl
                        have hcz26_2 : wr.cell? ⟨gb275, 2, none⟩ = some (.int .i64 t273) := (blk_cell BK275.out 2).trans rfl
                        have hfz26_0 := blk_frozen BK275.out 0
                        have hfz26_1 := blk_frozen BK275.out 1
                        have hfz26_2 := blk_frozen BK275.out 2
                        go_wp2
                        go_roundg k3
                        case measure => have := HJ5.out; have := HJ14.out; have := HK3.out; omega
                        case rel => exact ⟨(x12_3), (wrap64 (x13_3 + 1)), (by first | rfl | (simp; done) | (simp [*]; done) | (simp only [IntKind.wrap_i64, wrap64]; done)), (by first | rfl | (simp; done) | (simp [*]; done) | (simp only [IntKind.wrap_i64, wrap64]; done)), H', ⟨by have := HJ5.out; have := HJ14.out; have := HK3.out; omega⟩, ⟨by (with_reducible repeat (first | apply Kd.R_alloc | apply Kd.R_drewN | apply Kd.R_drew)); exact HO_276000.out⟩, ⟨by (with_reducible repeat (first | refine blk_drewN ?_ _ | refine blk_drew ?_ | refine blk_alloc ?_ _)); exact BK275.out⟩, ⟨by repeat (first | (with_reducible first | exact HB.out | apply below_alloc | apply pw_below_drewN | apply below_drew1 | refine below_set ?_ GE275.out) | exact HB.out)⟩⟩
                    · rw [if_neg c22] at H
                      exact absurd H (by simp)
                  · rw [if_neg c21] at H
                    have c21b0 : decide (x13_3 < (t269.length : Int)) = false := decide_eq_false c21
                    clear c21
                    by_cases c27 : t281 = true
                    · subst c27
                      have H1 : (if t280 = x12_3 then (if t274 > 0 then (some true) else (some (t276 == t272))) else (some false)) = some r := by rw [if_pos rfl] at H; exact H
                      clear H
                      have H := H1
                      clear H1
                      by_cases c28 : t280 = x12_3
                      · rw [if_pos c28] at H
                        have c28b0 : (t280 == x12_3) = true := beq_iff_eq.mpr c28
                        have c28b1 : (t280 != x12_3) = false := bne_eq_false_iff_eq.mpr c28
                        clear c28
                        by_cases c29 : t274 > 0
                        · rw [if_pos c29] at H
                          have c29b0 : decide (0 < t274) = true := decide_eq_true c29
                          clear c29
                          obtain rfl := Option.some.inj H
                          have hcz30_0 : wr.cell? ⟨gb275, 0, none⟩ = some (.slice Ao9 t269.length co9) := (blk_cell BK275.out 0).trans rfl
                          have hcz30_1 : wr.cell? ⟨gb275, 1, none⟩ = some (.int .i64 t272) := (blk_cell BK275.out 1).trans rfl
                          have hcz30_2 : wr.cell? ⟨gb275, 2, none⟩ = some (.int .i64 t273) := (blk_cell BK275.out 2).trans rfl
                          have hfz30_0 := blk_frozen BK275.out 0
                          have hfz30_1 := blk_frozen BK275.out 1
                          have hfz30_2 := blk_frozen BK275.out 2
                          go_wp2
                          go_ret
                          exact ⟨by first | rfl | (simp [errW_none, errW_some] <;> rfl) | (simp [*, errW_none, errW_some] <;> rfl), by repeat (first | (with_reducible first | exact HB.out | apply below_alloc | apply pw_below_drewN | apply below_drew1 | refine below_set ?_ GE275.out) | exact HB.out)⟩
                        · rw [if_neg c29] at H
                          have c29b0 : decide (0 < t274) = false := decide_eq_false c29
                          clear c29
                          obtain rfl := Option.some.inj H
                          have hcz31_0 : wr.cell? ⟨gb275, 0, none⟩ = some (.slice Ao9 t269.length co9) := (blk_cell BK275.out 0).trans rfl
                          have hcz31_1 : wr.cell? ⟨gb275, 1, none⟩ = some (.int .i64 t272) := (blk_cell BK275.out 1).trans rfl
                          have hcz31_2 : wr.cell? ⟨gb275, 2, none⟩ = some (.int .i64 t273) := (blk_cell BK275.out 2).trans rfl
                          have hfz31_0 := blk_frozen BK275.out 0
                          have hfz31_1 := blk_frozen BK275.out 1
                          have hfz31_2 := blk_frozen BK275.out 2
                          go_wp2
                          go_ret
                          exact ⟨by first | rfl | (simp [errW_none, errW_some] <;> rfl) | (simp [*, errW_none, errW_some] <;> rfl), by repeat (first | (with_reducible first | exact HB.out | apply below_alloc | apply pw_below_drewN | apply below_drew1 | refine below_set ?_ GE275.out) | exact HB.out)⟩
                      · rw [if_neg c28] at H
                        have c28b0 : (t280 == x12_3) = false := beq_eq_false_iff_ne.mpr c28
                        have c28b1 : (t280 != x12_3) = true := bne_iff_ne.mpr c28
                        obtain rfl := Option.some.inj H
                        have hcz32_0 : wr.cell? ⟨gb275, 0, none⟩ = some (.slice Ao9 t269.length co9) := (blk_cell BK275.out 0).trans rfl
                        have hcz32_1 : wr.cell? ⟨gb275, 1, none⟩ = some (.int .i64 t272) := (blk_cell BK275.out 1).trans rfl
                        have hcz32_2 : wr.cell? ⟨gb275, 2, none⟩ = some (.int .i64 t273) := (blk_cell BK275.out 2).trans rfl
                        have hfz32_0 := blk_frozen BK275.out 0
                        have hfz32_1 := blk_frozen BK275.out 1
                        have hfz32_2 := blk_frozen BK275.out 2
                        go_wp2
                        go_ret
                        exact ⟨by first | rfl | (simp [errW_none, errW_some] <;> rfl) | (simp [*, errW_none, errW_some] <;> rfl), by repeat (first | (with_reducible first | exact HB.out | apply below_alloc | apply pw_below_drewN | apply below_drew1 | refine below_set ?_ GE275.out) | exact HB.out)⟩
                    · replace c27 := Bool.eq_false_iff.mpr c27
                      subst c27
                      have H1 : (if t274 > 0 then (some true) else (some (t276 == t272))) = some r := by rw [if_neg (show ¬ (false = true) by decide)] at H; exact H
                      clear H
                      have H := H1
                      clear H1
                      by_cases c33 : t274 > 0
                      · rw [if_pos c33] at H
                        have c33b0 : decide (0 < t274) = true := decide_eq_true c33
                        clear c33
                        obtain rfl := Option.some.inj H
                        have hcz34_0 : wr.cell? ⟨gb275, 0, none⟩ = some (.slice Ao9 t269.length co9) := (blk_cell BK275.out 0).trans rfl
                        have hcz34_1 : wr.cell? ⟨gb275, 1, none⟩ = some (.int .i64 t272) := (blk_cell BK275.out 1).trans rfl
                        have hcz34_2 : wr.cell? ⟨gb275, 2, none⟩ = some (.int .i64 t273) := (blk_cell BK275.out 2).trans rfl
                        have hfz34_0 := blk_frozen BK275.out 0
                        have hfz34_1 := blk_frozen BK275.out 1
                        have hfz34_2 := blk_frozen BK275.out 2
                        go_wp2
                        go_ret
                        exact ⟨by first | rfl | (simp [errW_none, errW_some] <;> rfl) | (simp [*, errW_none, errW_some] <;> rfl), by repeat (first | (with_reducible first | exact HB.out | apply below_alloc | apply pw_below_drewN | apply below_drew1 | refine below_set ?_ GE275.out) | exact HB.out)⟩
                      · rw [if_neg c33] at H
                        have c33b0 : decide (0 < t274) = false := decide_eq_false c33
                        clear c33
                        obtain rfl := Option.some.inj H
                        have hcz35_0 : wr.cell? ⟨gb275, 0, none⟩ = some (.slice Ao9 t269.length co9) := (blk_cell BK275.out 0).trans rfl
                        have hcz35_1 : wr.cell? ⟨gb275, 1, none⟩ = some (.int .i64 t272) := (blk_cell BK275.out 1).trans rfl
                        have hcz35_2 : wr.cell? ⟨gb275, 2, none⟩ = some (.int .i64 t273) := (blk_cell BK275.out 2).trans rfl
                        have hfz35_0 := blk_frozen BK275.out 0
                        have hfz35_1 := blk_frozen BK275.out 1
                        have hfz35_2 := blk_frozen BK275.out 2
                        go_wp2
                        go_ret
                        exact ⟨by first | rfl | (simp [errW_none, errW_some] <;> rfl) | (simp [*, errW_none, errW_some] <;> rfl), by repeat (first | (with_reducible first | exact HB.out | apply below_alloc | apply pw_below_drewN | apply below_drew1 | refine below_set ?_ GE275.out) | exact HB.out)⟩

/-- THE ONE PURE STATEMENT of laws_FnMachAt: yours. -/
def laws_FnMachAt.Pure : Prop := ∀ (l0 : List Int), l0.length ≤ maxLen → l0.length * 1 ≤ 140737488351232 → (∀ x ∈ l0, (Lit.int .u8 x).wf = true) → ∃ k, laws_FnMachAt.f k l0 = some true
theorem laws_FnMachAt.walk (P : laws_FnMachAt.Pure) (a0 : Option Addr) (len0 cap0 : Nat) (z0 : List Int) (w : World) (w0 : (a0 = none ∧ len0 = 0 ∧ cap0 = 0 ∧ z0 = []) ∨ ∃ x, a0 = some x ∧ len0 ≤ cap0 ∧ cap0 ≤ maxLen ∧ z0.length = cap0 ∧ (∀ i, i < z0.length → w.cell? (x.add i) = some (.int .u8 (z0.getD i 0))) ∧ ∀ n ∈ z0, (Lit.int .u8 n).wf = true) (y0 : len0 * 1 ≤ 140737488351232) :
    Calls Try.prog 5 #[.slice a0 len0 cap0] w fun e w' => e = .returned (.bool true) ∧ Below w.heap.size w w' := by
  obtain ⟨l0, rfl, hr0, hm0, hw0, hc0⟩ := ReadsInt.ofRowC w0
  obtain ⟨k, h⟩ := P l0 hm0 y0 hw0
  refine (laws_FnMachAt.calls k _ _ l0 true w (Kd.C_of_reads (d := (0 : Int)) (h1 := fun _ => rfl) hr0) hc0 h).mono ?_
  rintro e w' ⟨rfl, hd⟩
  exact ⟨rfl, hd⟩

end Go.Proofs.Ytdbkpmhdjdebhaa.G
