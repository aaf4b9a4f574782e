-- Made by gprint.py (the kit's print with contracts of this session's own among its functions).
import Derived.Test.YtdbkpmhdjdebhaaG0
import Derived.Test.YtdbkpmhdjdebhaaG16
import Derived.Test.YtdbkpmhdjdebhaaG21
import Derived.Test.YtdbkpmhdjdebhaaG22
import Derived.Test.YtdbkpmhdjdebhaaG27
import Derived.Test.YtdbkpmhdjdebhaaG28
namespace Go.Proofs.Ytdbkpmhdjdebhaa.G
open Go.RowKit Go.Proofs.YtdbkpmhdjdebhaaW.PrintWords Go.Proofs.YtdbkpmhdjdebhaaW.PrintLast Go.Proofs.YtdbkpmhdjdebhaaW.PrintMore
attribute [local go_sem] max2_int min2_int max_two min_two max_three min_three max_four min_four   -- for this text's walks alone
set_option linter.unusedVariables false
set_option linter.unusedSimpArgs false

/-! ### laws_FnMachTurn: function 11 -/
mutual
def laws_FnMachTurn.j0 : Nat → Bool → Bool → List Int → Int → Int → List Int → Int → Int → Option (Bool)
 | 0, _, _, _, _, _, _, _, _ => none
 | k + 1, x5, x8, x493000, x493001, x493002, x500000, x500001, x500002 => if x8 = true then (laws_FnMachTurn.j1 k x8 (!x5) x493000 x493001 x493002 x500000 x500001 x500002) else (laws_FnMachTurn.j1 k x8 true x493000 x493001 x493002 x500000 x500001 x500002)
def laws_FnMachTurn.j1 : Nat → Bool → Bool → List Int → Int → Int → List Int → Int → Int → Option (Bool)
 | 0, _, _, _, _, _, _, _, _ => none
 | k + 1, x8, x40, x493000, x493001, x493002, x500000, x500001, x500002 => if x40 = true then (some x8) else (laws_FnMachTurn.l0 k 0 x493000 x493001 x493002 x500000 x500001 x500002)
def laws_FnMachTurn.l0 : Nat → Int → List Int → Int → Int → List Int → Int → Int → Option (Bool)
 | 0, _, _, _, _, _, _, _ => none
 | k + 1, x9, x493000, x493001, x493002, x500000, x500001, x500002 => if x9 ≤ 60 then ((impl_MachTakes.f k x500000 x500001 x500002 x9).bind fun t516 => ((impl_MachTakes.f k x493000 x493001 x493002 x9).bind fun t517 => (if (t516 != t517) = true then (some false) else (laws_FnMachTurn.l0 k (wrap64 (x9 + 1)) x493000 x493001 x493002 x500000 x500001 x500002)))) else ((impl_MachTurn.f k x500000 x500001 x500002).bind fun bt508 => (if bt508.2.2.2 = true then ((laws_sameMachine.f k bt508.1 bt508.2.1 bt508.2.2.1 x493000 x493001 x493002).bind fun t515 => (some t515)) else (some false)))
end
def laws_FnMachTurn.f (k : Nat) (l0 : List Int) : Option (Bool) := if (l0.length : Int) > 1048576 then (some true) else ((spec_DrawMachTurn.f k l0).bind fun bt487 => ((impl_MachTurn.f k bt487.1 bt487.2.1 bt487.2.2).bind fun bt493 => ((spec_MachTurn.f k bt487.1 bt487.2.1 bt487.2.2).bind fun bt500 => ((laws_sameMachine.f k bt493.1 bt493.2.1 bt493.2.2.1 bt500.1 bt500.2.1 bt500.2.2.1).bind fun t507 => (if t507 = true then (laws_FnMachTurn.j0 k bt493.2.2.2 (bt493.2.2.2 == bt500.2.2.2) bt487.1 bt487.2.1 bt487.2.2 bt493.1 bt493.2.1 bt493.2.2.1) else (laws_FnMachTurn.j0 k bt493.2.2.2 false bt487.1 bt487.2.1 bt487.2.2 bt493.1 bt493.2.1 bt493.2.2.1))))))
theorem laws_FnMachTurn.mono_l : ∀ k, (∀ y0 y1 y2 y3 y4 y5 y6 y7, LeO (laws_FnMachTurn.j0 k y0 y1 y2 y3 y4 y5 y6 y7) (laws_FnMachTurn.j0 (k + 1) y0 y1 y2 y3 y4 y5 y6 y7)) ∧ (∀ y0 y1 y2 y3 y4 y5 y6 y7, LeO (laws_FnMachTurn.j1 k y0 y1 y2 y3 y4 y5 y6 y7) (laws_FnMachTurn.j1 (k + 1) y0 y1 y2 y3 y4 y5 y6 y7)) ∧ (∀ y0 y1 y2 y3 y4 y5 y6, LeO (laws_FnMachTurn.l0 k y0 y1 y2 y3 y4 y5 y6) (laws_FnMachTurn.l0 (k + 1) y0 y1 y2 y3 y4 y5 y6))
 | 0 => ⟨fun _ _ _ _ _ _ _ _ r h => by simp [laws_FnMachTurn.j0] at h, fun _ _ _ _ _ _ _ _ r h => by simp [laws_FnMachTurn.j1] at h, fun _ _ _ _ _ _ _ r h => by simp [laws_FnMachTurn.l0] at h⟩
 | k + 1 => by
  obtain ⟨ih0, ih1, ih2⟩ := laws_FnMachTurn.mono_l k
  refine ⟨?_, ?_, ?_⟩
  ·intro y0 y1 y2 y3 y4 y5 y6 y7
   unfold laws_FnMachTurn.j0
   repeat' first
   | (with_reducible exact ih0 _ _ _ _ _ _ _ _)
   | (with_reducible exact ih1 _ _ _ _ _ _ _ _)
   | (with_reducible exact ih2 _ _ _ _ _ _ _)
   | (with_reducible exact impl_MachTakes.mono _ _ _ _ _)
   | (with_reducible exact impl_MachTurn.mono _ _ _ _)
   | (with_reducible exact laws_sameMachine.mono _ _ _ _ _ _ _)
   | (with_reducible exact spec_DrawMachTurn.mono _ _)
   | (with_reducible exact spec_MachTurn.mono _ _ _ _)
   | (with_reducible exact LeO.refl _)
   | (with_reducible exact LeO.none _)
   | (with_reducible refine LeO.ite ?_ ?_)
   | (with_reducible refine LeO.bind ?_ (fun _ => ?_))
   | exact ih0 _ _ _ _ _ _ _ _
   | exact ih1 _ _ _ _ _ _ _ _
   | exact ih2 _ _ _ _ _ _ _
   | exact impl_MachTakes.mono _ _ _ _ _
   | exact impl_MachTurn.mono _ _ _ _
   | exact laws_sameMachine.mono _ _ _ _ _ _ _
   | exact spec_DrawMachTurn.mono _ _
   | exact spec_MachTurn.mono _ _ _ _
   | exact LeO.none _
   | refine LeO.ite ?_ ?_
   | refine LeO.bind ?_ (fun _ => ?_)
  ·intro y0 y1 y2 y3 y4 y5 y6 y7
   unfold laws_FnMachTurn.j1
   repeat' first
   | (with_reducible exact ih0 _ _ _ _ _ _ _ _)
   | (with_reducible exact ih1 _ _ _ _ _ _ _ _)
   | (with_reducible exact ih2 _ _ _ _ _ _ _)
   | (with_reducible exact impl_MachTakes.mono _ _ _ _ _)
   | (with_reducible exact impl_MachTurn.mono _ _ _ _)
   | (with_reducible exact laws_sameMachine.mono _ _ _ _ _ _ _)
   | (with_reducible exact spec_DrawMachTurn.mono _ _)
   | (with_reducible exact spec_MachTurn.mono _ _ _ _)
   | (with_reducible exact LeO.refl _)
   | (with_reducible exact LeO.none _)
   | (with_reducible refine LeO.ite ?_ ?_)
   | (with_reducible refine LeO.bind ?_ (fun _ => ?_))
   | exact ih0 _ _ _ _ _ _ _ _
   | exact ih1 _ _ _ _ _ _ _ _
   | exact ih2 _ _ _ _ _ _ _
   | exact impl_MachTakes.mono _ _ _ _ _
   | exact impl_MachTurn.mono _ _ _ _
   | exact laws_sameMachine.mono _ _ _ _ _ _ _
   | exact spec_DrawMachTurn.mono _ _
   | exact spec_MachTurn.mono _ _ _ _
   | exact LeO.none _
   | refine LeO.ite ?_ ?_
   | refine LeO.bind ?_ (fun _ => ?_)
  ·intro y0 y1 y2 y3 y4 y5 y6
   unfold laws_FnMachTurn.l0
   repeat' first
   | (with_reducible exact ih0 _ _ _ _ _ _ _ _)
   | (with_reducible exact ih1 _ _ _ _ _ _ _ _)
   | (with_reducible exact ih2 _ _ _ _ _ _ _)
   | (with_reducible exact impl_MachTakes.mono _ _ _ _ _)
   | (with_reducible exact impl_MachTurn.mono _ _ _ _)
   | (with_reducible exact laws_sameMachine.mono _ _ _ _ _ _ _)
   | (with_reducible exact spec_DrawMachTurn.mono _ _)
   | (with_reducible exact spec_MachTurn.mono _ _ _ _)
   | (with_reducible exact LeO.refl _)
   | (with_reducible exact LeO.none _)
   | (with_reducible refine LeO.ite ?_ ?_)
   | (with_reducible refine LeO.bind ?_ (fun _ => ?_))
   | exact ih0 _ _ _ _ _ _ _ _
   | exact ih1 _ _ _ _ _ _ _ _
   | exact ih2 _ _ _ _ _ _ _
   | exact impl_MachTakes.mono _ _ _ _ _
   | exact impl_MachTurn.mono _ _ _ _
   | exact laws_sameMachine.mono _ _ _ _ _ _ _
   | exact spec_DrawMachTurn.mono _ _
   | exact spec_MachTurn.mono _ _ _ _
   | exact LeO.none _
   | refine LeO.ite ?_ ?_
   | refine LeO.bind ?_ (fun _ => ?_)
theorem laws_FnMachTurn.mono : ∀ a0 k, LeO (laws_FnMachTurn.f k a0) (laws_FnMachTurn.f (k + 1) a0) := by
 intro a0 k
 obtain ⟨ih0, ih1, ih2⟩ := laws_FnMachTurn.mono_l k
 unfold laws_FnMachTurn.f
 repeat' first
   | (with_reducible exact ih0 _ _ _ _ _ _ _ _)
   | (with_reducible exact ih1 _ _ _ _ _ _ _ _)
   | (with_reducible exact ih2 _ _ _ _ _ _ _)
   | (with_reducible exact impl_MachTakes.mono _ _ _ _ _)
   | (with_reducible exact impl_MachTurn.mono _ _ _ _)
   | (with_reducible exact laws_sameMachine.mono _ _ _ _ _ _ _)
   | (with_reducible exact spec_DrawMachTurn.mono _ _)
   | (with_reducible exact spec_MachTurn.mono _ _ _ _)
   | (with_reducible exact LeO.refl _)
   | (with_reducible exact LeO.none _)
   | (with_reducible refine LeO.ite ?_ ?_)
   | (with_reducible refine LeO.bind ?_ (fun _ => ?_))
   | exact ih0 _ _ _ _ _ _ _ _
   | exact ih1 _ _ _ _ _ _ _ _
   | exact ih2 _ _ _ _ _ _ _
   | exact impl_MachTakes.mono _ _ _ _ _
   | exact impl_MachTurn.mono _ _ _ _
   | exact laws_sameMachine.mono _ _ _ _ _ _ _
   | exact spec_DrawMachTurn.mono _ _
   | exact spec_MachTurn.mono _ _ _ _
   | exact LeO.none _
   | refine LeO.ite ?_ ?_
   | refine LeO.bind ?_ (fun _ => ?_)
set_option maxHeartbeats 8000000 in
set_option maxRecDepth 100000 in
theorem laws_FnMachTurn.calls (k : Nat) (A0 : Option Addr) (c0 : Nat) (l0 : List Int) (r : Bool) (w : World) (hr0 : Kd.C (Kd.int .u8) w A0 l0.length l0) (hc0 : l0.length ≤ c0) (h : laws_FnMachTurn.f k l0 = some r) :
  Calls Try.prog 11 #[.slice A0 l0.length c0] w fun e w' => e = .returned (.bool r) ∧ Below w.heap.size w w' := by
 have hu27 := Try.underlying27
 have HR0 := Aside0.mk hr0
 have HC0 := Aside0.mk hc0
 clear hr0 hc0
 have HB := Aside0.mk (Below.refl w.heap.size w)
 have H : (if (l0.length : Int) > 1048576 then (some true) else ((spec_DrawMachTurn.f k l0).bind fun bt487 => ((impl_MachTurn.f k bt487.1 bt487.2.1 bt487.2.2).bind fun bt493 => ((spec_MachTurn.f k bt487.1 bt487.2.1 bt487.2.2).bind fun bt500 => ((laws_sameMachine.f k bt493.1 bt493.2.1 bt493.2.2.1 bt500.1 bt500.2.1 bt500.2.2.1).bind fun t507 => (if t507 = true then (laws_FnMachTurn.j0 k bt493.2.2.2 (bt493.2.2.2 == bt500.2.2.2) bt487.1 bt487.2.1 bt487.2.2 bt493.1 bt493.2.1 bt493.2.2.1) else (laws_FnMachTurn.j0 k bt493.2.2.2 false bt487.1 bt487.2.1 bt487.2.2 bt493.1 bt493.2.1 bt493.2.2.1))))))) = some r := h
 clear h
 by_cases c2 : (l0.length : Int) > 1048576
 ·rw [if_pos c2] at H
  have c2b0 : decide (1048576 < (l0.length : Int)) = true := decide_eq_true c2
  have c2b1 : decide (1048576 < l0.length) = true := decide_eq_true (by omega)
  clear c2
  obtain rfl := Option.some.inj H
  go_enter Try.func11, Try.ntmps11
  go_wp2
  go_ret
  exact ⟨by first | rfl | (simp [errW_none, errW_some] <;> rfl) | (simp [*, errW_none, errW_some] <;> rfl), by repeat (first | (with_reducible first | exact HB.out | apply below_alloc | apply pw_below_drewN | apply below_drew1) | exact HB.out)⟩
 ·rw [if_neg c2] at H
  have c2b0 : decide (1048576 < (l0.length : Int)) = false := decide_eq_false c2
  have c2b1 : decide (1048576 < l0.length) = false := decide_eq_false (by omega)
  clear c2
  replace H := Option.bind_eq_some_iff.mp H
  obtain ⟨⟨t487, t490, t491⟩, A30, H⟩ := H
  replace H : ((impl_MachTurn.f k t487 t490 t491).bind fun bt493 => ((spec_MachTurn.f k t487 t490 t491).bind fun bt500 => ((laws_sameMachine.f k bt493.1 bt493.2.1 bt493.2.2.1 bt500.1 bt500.2.1 bt500.2.2.1).bind fun t507 => (if t507 = true then (laws_FnMachTurn.j0 k bt493.2.2.2 (bt493.2.2.2 == bt500.2.2.2) t487 t490 t491 bt493.1 bt493.2.1 bt493.2.2.1) else (laws_FnMachTurn.j0 k bt493.2.2.2 false t487 t490 t491 bt493.1 bt493.2.1 bt493.2.2.1))))) = some r := H
  have A3 := Aside0.mk A30
  clear A30
  replace H := Option.bind_eq_some_iff.mp H
  obtain ⟨⟨t493, t496, t497, t498⟩, A40, H⟩ := H
  replace H : ((spec_MachTurn.f k t487 t490 t491).bind fun bt500 => ((laws_sameMachine.f k t493 t496 t497 bt500.1 bt500.2.1 bt500.2.2.1).bind fun t507 => (if t507 = true then (laws_FnMachTurn.j0 k t498 (t498 == bt500.2.2.2) t487 t490 t491 t493 t496 t497) else (laws_FnMachTurn.j0 k t498 false t487 t490 t491 t493 t496 t497)))) = some r := H
  have A4 := Aside0.mk A40
  clear A40
  replace H := Option.bind_eq_some_iff.mp H
  obtain ⟨⟨t500, t503, t504, t505⟩, A50, H⟩ := H
  replace H : ((laws_sameMachine.f k t493 t496 t497 t500 t503 t504).bind fun t507 => (if t507 = true then (laws_FnMachTurn.j0 k t498 (t498 == t505) t487 t490 t491 t493 t496 t497) else (laws_FnMachTurn.j0 k t498 false t487 t490 t491 t493 t496 t497))) = some r := H
  have A5 := Aside0.mk A50
  clear A50
  have HC6 := Aside0.mk H
  clear H
  go_enter Try.func11, Try.ntmps11
  go_upto_region 6 with (first | ((with_reducible refine gate_callee (f := 33) rfl ?_); refine goesL_ (some 16) rfl rfl Try.func33 (by kernel_rfl) rfl #[.slice A0 l0.length c0] rfl (by (try simp only [List.map_toArray, List.map_cons, List.map_nil]); first | done | rfl | (simp only [List.length_drop, List.length_take]; rfl)) ?_; (with_reducible refine (spec_DrawMachTurn.calls k _ _ l0 t487 t490 t491 _ ?side1 ?side2 A3.out).mono ?_); (case side1 => repeat (first | exact HR0.out | (with_reducible refine Kd.C_alloc ?_ _) | (with_reducible refine Kd.C_drewN ?_ _) | (with_reducible refine Kd.C_drew ?_))); (case side2 => exact HC0.out); rintro e w7 ⟨v488, rfl, ho0, hb⟩; refine ⟨_, rfl, ?_⟩; have n0_ := Aside0.mk (Kd.R_lower ho0 (below_size (by repeat (first | (with_reducible first | exact HB.out | apply below_alloc | apply pw_below_drewN | apply below_drew1) | exact HB.out)))); have n1_ := Aside0.mk (below_step (by repeat (first | (with_reducible first | exact HB.out | apply below_alloc | apply pw_below_drewN | apply below_drew1) | exact HB.out)) hb); clear HB; have HO489 := n0_; have HB := n1_; clear n0_ n1_; (try clear hb); (try clear hb2); (try clear hk); (try clear hi); (try clear ho0)) | ((with_reducible refine gate_dst (N := 3) rfl ?_); refine box_event ?hg (N := 3) ?hd (cs := #[.slice none 0 0, .int .i64 0, .int .i64 0]) (t := 27) ?hr ?_; (case hd => rfl); (case hg => rfl); (case hr => first | (go_simp; done) | (go_simp; rfl)); intro gb492 hg w8 hbox hb; have n0_ := Aside0.mk (Kd.R_below (by (with_reducible repeat (first | apply Kd.R_alloc | apply Kd.R_drewN | apply Kd.R_drew)); exact HO489.out) hb); have n1_ := Aside0.mk (below_step (by repeat (first | (with_reducible first | exact HB.out | apply below_alloc | apply pw_below_drewN | apply below_drew1) | exact HB.out)) hb); have n2_ := Aside0.mk (hbox); have n3_ := Aside0.mk ((by rw [hg]; exact (below_size (by repeat (first | (with_reducible first | exact HB.out | apply below_alloc | apply pw_below_drewN | apply below_drew1) | exact HB.out))) : w.heap.size ≤ gb492)); have n4_ := Aside0.mk ((by rw [hg]; exact (below_size (by repeat (first | (with_reducible first | exact HB.out | apply below_alloc | apply pw_below_drewN | apply below_drew1) | exact HB.out))) : w.heap.size ≤ gb492)); clear HO489; clear HB; have HO489 := n0_; have HB := n1_; have BK492 := n2_; have GW492 := n3_; have GE492 := n4_; clear n0_ n1_ n2_ n3_ n4_; clear hb hbox hg; obtain ⟨Ao9, co9, eo9⟩ := Kd.R_slice HO489.out; subst eo9; have hcz10_0 : w8.cell? ⟨gb492, 0, none⟩ = some (.slice none 0 0) := (blk_cell BK492.out 0).trans rfl; have hcz10_1 : w8.cell? ⟨gb492, 1, none⟩ = some (.int .i64 0) := (blk_cell BK492.out 1).trans rfl; have hcz10_2 : w8.cell? ⟨gb492, 2, none⟩ = some (.int .i64 0) := (blk_cell BK492.out 2).trans rfl; have hfz10_0 := blk_frozen BK492.out 0; have hfz10_1 := blk_frozen BK492.out 1; have hfz10_2 := blk_frozen BK492.out 2) | ((with_reducible refine gate_callee (f := 28) rfl ?_); refine goesL_ (some 19) rfl rfl Try.func28 (by kernel_rfl) rfl #[.agg #[.slice Ao9 t487.length co9, .int .i64 t490, .int .i64 t491]] rfl (by (try simp only [List.map_toArray, List.map_cons, List.map_nil]); first | done | rfl | (simp only [List.length_drop, List.length_take]; rfl)) ?_; (with_reducible refine (impl_MachTurn.calls k _ _ t487 t490 t491 t493 t496 t497 t498 _ ?side1 ?side2 A4.out).mono ?_); (case side1 => refine (Kd.R_reads' (e := 3) (base := w.heap.size) (ok := fun k_ => True) (n := t487.length) (c := co9) ?_).2.2; exact (by (with_reducible repeat (first | apply Kd.R_alloc | apply Kd.R_drewN | apply Kd.R_drew)); exact (Kd.R_mono (Kd.R_far (p := ⟨gb492, 2, none⟩) (Kd.R_far (p := ⟨gb492, 1, none⟩) (Kd.R_far (p := ⟨gb492, 0, none⟩) (Kd.R_types HO489.out BK492.out (by decide)) (fun _ hk => hk.2) (.slice Ao9 t487.length co9)) (fun _ hk => hk.2) (.int .i64 t490)) (fun _ hk => hk.2) (.int .i64 t491)) (fun _ h_ => h_.1)))); (case side2 => exact (Kd.R_reads' HO489.out).2.1); rintro e w11 ⟨v494, rfl, ho0, hb⟩; refine ⟨_, rfl, ?_⟩; have n0_ := Aside0.mk (Kd.R_elder' (by (with_reducible repeat (first | apply Kd.R_alloc | apply Kd.R_drewN | apply Kd.R_drew)); exact (Kd.R_mono (Kd.R_far (p := ⟨gb492, 2, none⟩) (Kd.R_far (p := ⟨gb492, 1, none⟩) (Kd.R_far (p := ⟨gb492, 0, none⟩) (Kd.R_types HO489.out BK492.out (by decide)) (fun _ hk => hk.2) (.slice Ao9 t487.length co9)) (fun _ hk => hk.2) (.int .i64 t490)) (fun _ hk => hk.2) (.int .i64 t491)) (fun _ h_ => h_.1))) (Kd.R_base ho0) hb); have n1_ := Aside0.mk (Kd.R_lower (Kd.R_new' ho0 (Kd.R_lt (by (with_reducible repeat (first | apply Kd.R_alloc | apply Kd.R_drewN | apply Kd.R_drew)); exact (Kd.R_mono (Kd.R_far (p := ⟨gb492, 2, none⟩) (Kd.R_far (p := ⟨gb492, 1, none⟩) (Kd.R_far (p := ⟨gb492, 0, none⟩) (Kd.R_types HO489.out BK492.out (by decide)) (fun _ hk => hk.2) (.slice Ao9 t487.length co9)) (fun _ hk => hk.2) (.int .i64 t490)) (fun _ hk => hk.2) (.int .i64 t491)) (fun _ h_ => h_.1))))) (below_size (by repeat (first | (with_reducible first | exact HB.out | apply below_alloc | apply pw_below_drewN | apply below_drew1 | refine below_set ?_ GE492.out) | exact HB.out)))); have n2_ := Aside0.mk (blk_below (g := gb492) (o := .cells #[.slice Ao9 t487.length co9, .int .i64 t490, .int .i64 t491] 27 (0, 0)) (by (with_reducible repeat (first | refine blk_drewN ?_ _ | refine blk_drew ?_ | refine blk_alloc ?_ _)); refine blk_put (cs := #[.slice Ao9 t487.length co9, .int .i64 t490, .int .i64 0]) ?_ 2 _ rfl; (with_reducible repeat (first | refine blk_drewN ?_ _ | refine blk_drew ?_ | refine blk_alloc ?_ _)); refine blk_put (cs := #[.slice Ao9 t487.length co9, .int .i64 0, .int .i64 0]) ?_ 1 _ rfl; (with_reducible repeat (first | refine blk_drewN ?_ _ | refine blk_drew ?_ | refine blk_alloc ?_ _)); refine blk_put (cs := #[.slice none 0 0, .int .i64 0, .int .i64 0]) ?_ 0 _ rfl; (with_reducible repeat (first | refine blk_drewN ?_ _ | refine blk_drew ?_ | refine blk_alloc ?_ _)); exact BK492.out) hb); have n3_ := Aside0.mk (below_step (by repeat (first | (with_reducible first | exact HB.out | apply below_alloc | apply pw_below_drewN | apply below_drew1 | refine below_set ?_ GE492.out) | exact HB.out)) hb); clear HO489; clear BK492; clear HB; have HO489 := n0_; have HO495 := n1_; have BK492 := n2_; have HB := n3_; clear n0_ n1_ n2_ n3_; (try clear hb); (try clear hb2); (try clear hk); (try clear hi); (try clear ho0)) | ((with_reducible refine gate_dst (N := 4) rfl ?_); refine box_event ?hg (N := 4) ?hd (cs := #[.slice none 0 0, .int .i64 0, .int .i64 0]) (t := 27) ?hr ?_; (case hd => rfl); (case hg => rfl); (case hr => first | (go_simp; done) | (go_simp; rfl)); intro gb499 hg w12 hbox hb; have n0_ := Aside0.mk (Kd.R_below (by (with_reducible repeat (first | apply Kd.R_alloc | apply Kd.R_drewN | apply Kd.R_drew)); exact HO489.out) hb); have n1_ := Aside0.mk (Kd.R_below (by (with_reducible repeat (first | apply Kd.R_alloc | apply Kd.R_drewN | apply Kd.R_drew)); exact HO495.out) hb); have n2_ := Aside0.mk (blk_below (g := gb492) (o := .cells #[.slice Ao9 t487.length co9, .int .i64 t490, .int .i64 t491] 27 (0, 0)) (by (with_reducible repeat (first | refine blk_drewN ?_ _ | refine blk_drew ?_ | refine blk_alloc ?_ _)); exact BK492.out) hb); have n3_ := Aside0.mk (below_step (by repeat (first | (with_reducible first | exact HB.out | apply below_alloc | apply pw_below_drewN | apply below_drew1 | refine below_set ?_ GE492.out) | exact HB.out)) hb); have n4_ := Aside0.mk (hbox); have n5_ := Aside0.mk ((by rw [hg]; exact (below_size (by repeat (first | (with_reducible first | exact HB.out | apply below_alloc | apply pw_below_drewN | apply below_drew1 | refine below_set ?_ GE492.out) | exact HB.out))) : w.heap.size ≤ gb499)); have n6_ := Aside0.mk ((by rw [hg]; exact (below_size (by repeat (first | (with_reducible first | exact HB.out | apply below_alloc | apply pw_below_drewN | apply below_drew1 | refine below_set ?_ GE492.out) | exact HB.out))) : w.heap.size ≤ gb499)); have n7_ := Aside0.mk ((by rw [hg]; exact Nat.ne_of_lt (blk_lt (g := gb492) (o := .cells #[.slice Ao9 t487.length co9, .int .i64 t490, .int .i64 t491] 27 (0, 0)) (by (with_reducible repeat (first | refine blk_drewN ?_ _ | refine blk_drew ?_ | refine blk_alloc ?_ _)); exact BK492.out)) : gb492 ≠ gb499)); have n8_ := Aside0.mk ((by rw [hg]; exact Nat.ne_of_gt (blk_lt (g := gb492) (o := .cells #[.slice Ao9 t487.length co9, .int .i64 t490, .int .i64 t491] 27 (0, 0)) (by (with_reducible repeat (first | refine blk_drewN ?_ _ | refine blk_drew ?_ | refine blk_alloc ?_ _)); exact BK492.out)) : gb499 ≠ gb492)); clear HO489; clear HO495; clear BK492; clear HB; have HO489 := n0_; have HO495 := n1_; have BK492 := n2_; have HB := n3_; have BK499 := n4_; have GW499 := n5_; have GE499 := n6_; have NB492_499 := n7_; have NB499_492 := n8_; clear n0_ n1_ n2_ n3_ n4_ n5_ n6_ n7_ n8_; clear hb hbox hg; obtain ⟨Ao13, co13, eo13⟩ := Kd.R_slice HO495.out; subst eo13; have hnb14 := NB499_492.out; have hnc14 := NB492_499.out; have hcz15_0 : w12.cell? ⟨gb499, 0, none⟩ = some (.slice none 0 0) := (blk_cell BK499.out 0).trans rfl; have hcz15_1 : w12.cell? ⟨gb499, 1, none⟩ = some (.int .i64 0) := (blk_cell BK499.out 1).trans rfl; have hcz15_2 : w12.cell? ⟨gb499, 2, none⟩ = some (.int .i64 0) := (blk_cell BK499.out 2).trans rfl; have hfz15_0 := blk_frozen BK499.out 0; have hfz15_1 := blk_frozen BK499.out 1; have hfz15_2 := blk_frozen BK499.out 2; have hcz16_0 : w12.cell? ⟨gb492, 0, none⟩ = some (.slice Ao9 t487.length co9) := (blk_cell BK492.out 0).trans rfl; have hcz16_1 : w12.cell? ⟨gb492, 1, none⟩ = some (.int .i64 t490) := (blk_cell BK492.out 1).trans rfl; have hcz16_2 : w12.cell? ⟨gb492, 2, none⟩ = some (.int .i64 t491) := (blk_cell BK492.out 2).trans rfl; have hfz16_0 := blk_frozen BK492.out 0; have hfz16_1 := blk_frozen BK492.out 1; have hfz16_2 := blk_frozen BK492.out 2) | ((with_reducible refine gate_callee (f := 27) rfl ?_); refine goesL_ (some 24) rfl rfl Try.func27 (by kernel_rfl) rfl #[.agg #[.slice Ao9 t487.length co9, .int .i64 t490, .int .i64 t491]] rfl (by (try simp only [List.map_toArray, List.map_cons, List.map_nil]); first | done | rfl | (simp only [List.length_drop, List.length_take]; rfl)) ?_; (with_reducible refine (spec_MachTurn.calls k _ _ t487 t490 t491 t500 t503 t504 t505 _ ?side1 ?side2 A5.out).mono ?_); (case side1 => refine (Kd.R_reads' (e := 3) (base := w.heap.size) (ok := fun k_ => (True ∧ some k_ ≠ (.slice Ao13 t493.length co13 : Value).ownBlock)) (n := t487.length) (c := co9) ?_).2.2; exact (by (with_reducible repeat (first | apply Kd.R_alloc | apply Kd.R_drewN | apply Kd.R_drew)); exact (Kd.R_mono (Kd.R_far (p := ⟨gb499, 2, none⟩) (Kd.R_far (p := ⟨gb499, 1, none⟩) (Kd.R_far (p := ⟨gb499, 0, none⟩) (Kd.R_types HO489.out BK499.out (by decide)) (fun _ hk => hk.2) (.slice Ao13 t493.length co13)) (fun _ hk => hk.2) (.int .i64 t496)) (fun _ hk => hk.2) (.int .i64 t497)) (fun _ h_ => h_.1)))); (case side2 => exact (Kd.R_reads' HO489.out).2.1); rintro e w17 ⟨v501, rfl, ho0, hb⟩; refine ⟨_, rfl, ?_⟩; have n0_ := Aside0.mk (Kd.R_elder' (by (with_reducible repeat (first | apply Kd.R_alloc | apply Kd.R_drewN | apply Kd.R_drew)); exact (Kd.R_mono (Kd.R_far (p := ⟨gb499, 2, none⟩) (Kd.R_far (p := ⟨gb499, 1, none⟩) (Kd.R_far (p := ⟨gb499, 0, none⟩) (Kd.R_types HO489.out BK499.out (by decide)) (fun _ hk => hk.2) (.slice Ao13 t493.length co13)) (fun _ hk => hk.2) (.int .i64 t496)) (fun _ hk => hk.2) (.int .i64 t497)) (fun _ h_ => h_.1))) (Kd.R_base ho0) hb); have n1_ := Aside0.mk (Kd.R_elder' (by (with_reducible repeat (first | apply Kd.R_alloc | apply Kd.R_drewN | apply Kd.R_drew)); exact (Kd.R_mono (Kd.R_far (p := ⟨gb499, 2, none⟩) (Kd.R_far (p := ⟨gb499, 1, none⟩) (Kd.R_far (p := ⟨gb499, 0, none⟩) (Kd.R_types HO495.out BK499.out (by decide)) (fun _ hk => hk.2) (.slice Ao13 t493.length co13)) (fun _ hk => hk.2) (.int .i64 t496)) (fun _ hk => hk.2) (.int .i64 t497)) (fun _ h_ => h_.1))) (Kd.R_base ho0) hb); have n2_ := Aside0.mk (Kd.R_lower (Kd.R_new' (Kd.R_new' ho0 (Kd.R_lt (by (with_reducible repeat (first | apply Kd.R_alloc | apply Kd.R_drewN | apply Kd.R_drew)); exact (Kd.R_mono (Kd.R_far (p := ⟨gb499, 2, none⟩) (Kd.R_far (p := ⟨gb499, 1, none⟩) (Kd.R_far (p := ⟨gb499, 0, none⟩) (Kd.R_types HO489.out BK499.out (by decide)) (fun _ hk => hk.2) (.slice Ao13 t493.length co13)) (fun _ hk => hk.2) (.int .i64 t496)) (fun _ hk => hk.2) (.int .i64 t497)) (fun _ h_ => h_.1))))) (Kd.R_lt (by (with_reducible repeat (first | apply Kd.R_alloc | apply Kd.R_drewN | apply Kd.R_drew)); exact (Kd.R_mono (Kd.R_far (p := ⟨gb499, 2, none⟩) (Kd.R_far (p := ⟨gb499, 1, none⟩) (Kd.R_far (p := ⟨gb499, 0, none⟩) (Kd.R_types HO495.out BK499.out (by decide)) (fun _ hk => hk.2) (.slice Ao13 t493.length co13)) (fun _ hk => hk.2) (.int .i64 t496)) (fun _ hk => hk.2) (.int .i64 t497)) (fun _ h_ => h_.1))))) (below_size (by repeat (first | (with_reducible first | exact HB.out | apply below_alloc | apply pw_below_drewN | apply below_drew1 | refine below_set ?_ GE492.out | refine below_set ?_ GE499.out) | exact HB.out)))); have n3_ := Aside0.mk (blk_below (g := gb492) (o := .cells #[.slice Ao9 t487.length co9, .int .i64 t490, .int .i64 t491] 27 (0, 0)) (by (with_reducible repeat (first | refine blk_drewN ?_ _ | refine blk_drew ?_ | refine blk_alloc ?_ _)); refine blk_far ?_ NB492_499.out _; (with_reducible repeat (first | refine blk_drewN ?_ _ | refine blk_drew ?_ | refine blk_alloc ?_ _)); refine blk_far ?_ NB492_499.out _; (with_reducible repeat (first | refine blk_drewN ?_ _ | refine blk_drew ?_ | refine blk_alloc ?_ _)); refine blk_far ?_ NB492_499.out _; (with_reducible repeat (first | refine blk_drewN ?_ _ | refine blk_drew ?_ | refine blk_alloc ?_ _)); exact BK492.out) hb); have n4_ := Aside0.mk (blk_below (g := gb499) (o := .cells #[.slice Ao13 t493.length co13, .int .i64 t496, .int .i64 t497] 27 (0, 0)) (by (with_reducible repeat (first | refine blk_drewN ?_ _ | refine blk_drew ?_ | refine blk_alloc ?_ _)); refine blk_put (cs := #[.slice Ao13 t493.length co13, .int .i64 t496, .int .i64 0]) ?_ 2 _ rfl; (with_reducible repeat (first | refine blk_drewN ?_ _ | refine blk_drew ?_ | refine blk_alloc ?_ _)); refine blk_put (cs := #[.slice Ao13 t493.length co13, .int .i64 0, .int .i64 0]) ?_ 1 _ rfl; (with_reducible repeat (first | refine blk_drewN ?_ _ | refine blk_drew ?_ | refine blk_alloc ?_ _)); refine blk_put (cs := #[.slice none 0 0, .int .i64 0, .int .i64 0]) ?_ 0 _ rfl; (with_reducible repeat (first | refine blk_drewN ?_ _ | refine blk_drew ?_ | refine blk_alloc ?_ _)); exact BK499.out) hb); have n5_ := Aside0.mk (below_step (by repeat (first | (with_reducible first | exact HB.out | apply below_alloc | apply pw_below_drewN | apply below_drew1 | refine below_set ?_ GE492.out | refine below_set ?_ GE499.out) | exact HB.out)) hb); clear HO489; clear HO495; clear BK492; clear BK499; clear HB; have HO489 := n0_; have HO495 := n1_; have HO502 := n2_; have BK492 := n3_; have BK499 := n4_; have HB := n5_; clear n0_ n1_ n2_ n3_ n4_ n5_; (try clear hb); (try clear hb2); (try clear hk); (try clear hi); (try clear ho0)) | ((with_reducible refine gate_dst (N := 6) rfl ?_); refine box_event ?hg (N := 6) ?hd (cs := #[.slice none 0 0, .int .i64 0, .int .i64 0]) (t := 27) ?hr ?_; (case hd => rfl); (case hg => rfl); (case hr => first | (go_simp; done) | (go_simp; rfl)); intro gb506 hg w18 hbox hb; have n0_ := Aside0.mk (Kd.R_below (by (with_reducible repeat (first | apply Kd.R_alloc | apply Kd.R_drewN | apply Kd.R_drew)); exact HO489.out) hb); have n1_ := Aside0.mk (Kd.R_below (by (with_reducible repeat (first | apply Kd.R_alloc | apply Kd.R_drewN | apply Kd.R_drew)); exact HO495.out) hb); have n2_ := Aside0.mk (Kd.R_below (by (with_reducible repeat (first | apply Kd.R_alloc | apply Kd.R_drewN | apply Kd.R_drew)); exact HO502.out) hb); have n3_ := Aside0.mk (blk_below (g := gb492) (o := .cells #[.slice Ao9 t487.length co9, .int .i64 t490, .int .i64 t491] 27 (0, 0)) (by (with_reducible repeat (first | refine blk_drewN ?_ _ | refine blk_drew ?_ | refine blk_alloc ?_ _)); exact BK492.out) hb); have n4_ := Aside0.mk (blk_below (g := gb499) (o := .cells #[.slice Ao13 t493.length co13, .int .i64 t496, .int .i64 t497] 27 (0, 0)) (by (with_reducible repeat (first | refine blk_drewN ?_ _ | refine blk_drew ?_ | refine blk_alloc ?_ _)); exact BK499.out) hb); have n5_ := Aside0.mk (below_step (by repeat (first | (with_reducible first | exact HB.out | apply below_alloc | apply pw_below_drewN | apply below_drew1 | refine below_set ?_ GE492.out | refine below_set ?_ GE499.out) | exact HB.out)) hb); have n6_ := Aside0.mk (hbox); have n7_ := Aside0.mk ((by rw [hg]; exact (below_size (by repeat (first | (with_reducible first | exact HB.out | apply below_alloc | apply pw_below_drewN | apply below_drew1 | refine below_set ?_ GE492.out | refine below_set ?_ GE499.out) | exact HB.out))) : w.heap.size ≤ gb506)); have n8_ := Aside0.mk ((by rw [hg]; exact (below_size (by repeat (first | (with_reducible first | exact HB.out | apply below_alloc | apply pw_below_drewN | apply below_drew1 | refine below_set ?_ GE492.out | refine below_set ?_ GE499.out) | exact HB.out))) : w.heap.size ≤ gb506)); have n9_ := Aside0.mk ((by rw [hg]; exact Nat.ne_of_lt (blk_lt (g := gb492) (o := .cells #[.slice Ao9 t487.length co9, .int .i64 t490, .int .i64 t491] 27 (0, 0)) (by (with_reducible repeat (first | refine blk_drewN ?_ _ | refine blk_drew ?_ | refine blk_alloc ?_ _)); exact BK492.out)) : gb492 ≠ gb506)); have n10_ := Aside0.mk ((by rw [hg]; exact Nat.ne_of_gt (blk_lt (g := gb492) (o := .cells #[.slice Ao9 t487.length co9, .int .i64 t490, .int .i64 t491] 27 (0, 0)) (by (with_reducible repeat (first | refine blk_drewN ?_ _ | refine blk_drew ?_ | refine blk_alloc ?_ _)); exact BK492.out)) : gb506 ≠ gb492)); have n11_ := Aside0.mk ((by rw [hg]; exact Nat.ne_of_lt (blk_lt (g := gb499) (o := .cells #[.slice Ao13 t493.length co13, .int .i64 t496, .int .i64 t497] 27 (0, 0)) (by (with_reducible repeat (first | refine blk_drewN ?_ _ | refine blk_drew ?_ | refine blk_alloc ?_ _)); exact BK499.out)) : gb499 ≠ gb506)); have n12_ := Aside0.mk ((by rw [hg]; exact Nat.ne_of_gt (blk_lt (g := gb499) (o := .cells #[.slice Ao13 t493.length co13, .int .i64 t496, .int .i64 t497] 27 (0, 0)) (by (with_reducible repeat (first | refine blk_drewN ?_ _ | refine blk_drew ?_ | refine blk_alloc ?_ _)); exact BK499.out)) : gb506 ≠ gb499)); clear HO489; clear HO495; clear HO502; clear BK492; clear BK499; clear HB; have HO489 := n0_; have HO495 := n1_; have HO502 := n2_; have BK492 := n3_; have BK499 := n4_; have HB := n5_; have BK506 := n6_; have GW506 := n7_; have GE506 := n8_; have NB492_506 := n9_; have NB506_492 := n10_; have NB499_506 := n11_; have NB506_499 := n12_; clear n0_ n1_ n2_ n3_ n4_ n5_ n6_ n7_ n8_ n9_ n10_ n11_ n12_; clear hb hbox hg; obtain ⟨Ao19, co19, eo19⟩ := Kd.R_slice HO502.out; subst eo19; have hnb20 := NB506_492.out; have hnc20 := NB492_506.out; have hnb21 := NB506_499.out; have hnc21 := NB499_506.out; have hcz22_0 : w18.cell? ⟨gb506, 0, none⟩ = some (.slice none 0 0) := (blk_cell BK506.out 0).trans rfl; have hcz22_1 : w18.cell? ⟨gb506, 1, none⟩ = some (.int .i64 0) := (blk_cell BK506.out 1).trans rfl; have hcz22_2 : w18.cell? ⟨gb506, 2, none⟩ = some (.int .i64 0) := (blk_cell BK506.out 2).trans rfl; have hfz22_0 := blk_frozen BK506.out 0; have hfz22_1 := blk_frozen BK506.out 1; have hfz22_2 := blk_frozen BK506.out 2))
  (try simp only [Act.put, List.setIfInBounds_toArray, List.set_cons_zero, List.set_cons_succ])
  go_cut [8] (fun v8 wc => ∃ (kq : Nat) (x8_5 : Bool), v8 = .bool x8_5 ∧ Aside0 (laws_FnMachTurn.j0 kq t498 x8_5 t487 t490 t491 t493 t496 t497 = some r) ∧ Aside0 (kq ≤ k) ∧ Aside0 (Kd.R (Kd.int .i64) 3 wc w.heap.size (fun k_ => some k_ ≠ ((.slice Ao13 t493.length co13) : Value).ownBlock ∧ some k_ ≠ ((.slice Ao19 t500.length co19) : Value).ownBlock) (.slice Ao9 t487.length co9) t487) ∧ Aside0 (Kd.R (Kd.int .i64) 3 wc w.heap.size (fun k_ => some k_ ≠ ((.slice Ao9 t487.length co9) : Value).ownBlock ∧ some k_ ≠ ((.slice Ao19 t500.length co19) : Value).ownBlock) (.slice Ao13 t493.length co13) t493) ∧ Aside0 (Kd.R (Kd.int .i64) 3 wc w.heap.size (fun k_ => some k_ ≠ ((.slice Ao9 t487.length co9) : Value).ownBlock ∧ some k_ ≠ ((.slice Ao13 t493.length co13) : Value).ownBlock) (.slice Ao19 t500.length co19) t500) ∧ Aside0 (wc.heap[gb492]? = some (.cells #[(.slice Ao9 t487.length co9), .int .i64 t490, .int .i64 t491] 27 (0, 0))) ∧ Aside0 (wc.heap[gb499]? = some (.cells #[(.slice Ao13 t493.length co13), .int .i64 t496, .int .i64 t497] 27 (0, 0))) ∧ Aside0 (wc.heap[gb506]? = some (.cells #[(.slice Ao19 t500.length co19), .int .i64 t503, .int .i64 t504] 27 (0, 0))) ∧ Aside0 (Below w.heap.size w wc))
  case first =>
   have H := HC6.out
   clear HC6
   replace H := Option.bind_eq_some_iff.mp H
   obtain ⟨t507, A230, H⟩ := H
   replace H : (if t507 = true then (laws_FnMachTurn.j0 k t498 (t498 == t505) t487 t490 t491 t493 t496 t497) else (laws_FnMachTurn.j0 k t498 false t487 t490 t491 t493 t496 t497)) = some r := H
   have A23 := Aside0.mk A230
   clear A230
   by_cases c24 : t507 = true
   ·subst c24
    have H1 : (laws_FnMachTurn.j0 k t498 (t498 == t505) t487 t490 t491 t493 t496 t497) = some r := by rw [if_pos rfl] at H; exact H
    clear H
    have H := H1
    clear H1
    have H' := Aside0.mk H
    clear H
    have hnb25 := NB499_492.out
    have hnc25 := NB492_499.out
    have hnb26 := NB499_506.out
    have hnc26 := NB506_499.out
    have hcz27_0 : w18.cell? ⟨gb499, 0, none⟩ = some (.slice Ao13 t493.length co13) := (blk_cell BK499.out 0).trans rfl
    have hcz27_1 : w18.cell? ⟨gb499, 1, none⟩ = some (.int .i64 t496) := (blk_cell BK499.out 1).trans rfl
    have hcz27_2 : w18.cell? ⟨gb499, 2, none⟩ = some (.int .i64 t497) := (blk_cell BK499.out 2).trans rfl
    have hfz27_0 := blk_frozen BK499.out 0
    have hfz27_1 := blk_frozen BK499.out 1
    have hfz27_2 := blk_frozen BK499.out 2
    have hnb28 := NB506_492.out
    have hnc28 := NB492_506.out
    have hcz29_0 : w18.cell? ⟨gb506, 0, none⟩ = some (.slice none 0 0) := (blk_cell BK506.out 0).trans rfl
    have hcz29_1 : w18.cell? ⟨gb506, 1, none⟩ = some (.int .i64 0) := (blk_cell BK506.out 1).trans rfl
    have hcz29_2 : w18.cell? ⟨gb506, 2, none⟩ = some (.int .i64 0) := (blk_cell BK506.out 2).trans rfl
    have hfz29_0 := blk_frozen BK506.out 0
    have hfz29_1 := blk_frozen BK506.out 1
    have hfz29_2 := blk_frozen BK506.out 2
    go_wp2_with (first | ((with_reducible refine gate_callee (f := 34) rfl ?_); refine goesL_ (some 29) rfl rfl Try.func34 (by kernel_rfl) rfl #[.agg #[.slice Ao13 t493.length co13, .int .i64 t496, .int .i64 t497], .agg #[.slice Ao19 t500.length co19, .int .i64 t503, .int .i64 t504]] rfl (by (try simp only [List.map_toArray, List.map_cons, List.map_nil]); first | done | rfl | (simp only [List.length_drop, List.length_take]; rfl)) ?_; (with_reducible refine (laws_sameMachine.calls k _ _ t493 t496 t497 _ _ t500 t503 t504 true _ ?side1 ?side2 ?side3 ?side4 A23.out).mono ?_); (case side1 => refine (Kd.R_reads' (e := 3) (base := w.heap.size) (ok := fun k_ => ((True ∧ some k_ ≠ (.slice Ao9 t487.length co9 : Value).ownBlock) ∧ some k_ ≠ (.slice Ao19 t500.length co19 : Value).ownBlock)) (n := t493.length) (c := co13) ?_).2.2; exact (by (with_reducible repeat (first | apply Kd.R_alloc | apply Kd.R_drewN | apply Kd.R_drew)); exact (Kd.R_mono (Kd.R_far (p := ⟨gb506, 2, none⟩) (Kd.R_far (p := ⟨gb506, 1, none⟩) (Kd.R_far (p := ⟨gb506, 0, none⟩) (Kd.R_types HO495.out BK506.out (by decide)) (fun _ hk => hk.2) (.slice Ao19 t500.length co19)) (fun _ hk => hk.2) (.int .i64 t503)) (fun _ hk => hk.2) (.int .i64 t504)) (fun _ h_ => h_.1)))); (case side2 => exact (Kd.R_reads' HO495.out).2.1); (case side3 => refine (Kd.R_reads' (e := 3) (base := w.heap.size) (ok := fun k_ => ((True ∧ some k_ ≠ (.slice Ao9 t487.length co9 : Value).ownBlock) ∧ some k_ ≠ (.slice Ao13 t493.length co13 : Value).ownBlock)) (n := t500.length) (c := co19) ?_).2.2; exact (by (with_reducible repeat (first | apply Kd.R_alloc | apply Kd.R_drewN | apply Kd.R_drew)); exact (Kd.R_mono (Kd.R_far (p := ⟨gb506, 2, none⟩) (Kd.R_far (p := ⟨gb506, 1, none⟩) (Kd.R_far (p := ⟨gb506, 0, none⟩) (Kd.R_types HO502.out BK506.out (by decide)) (fun _ hk => hk.2) (.slice Ao19 t500.length co19)) (fun _ hk => hk.2) (.int .i64 t503)) (fun _ hk => hk.2) (.int .i64 t504)) (fun _ h_ => h_.1)))); (case side4 => exact (Kd.R_reads' HO502.out).2.1); rintro e w30 ⟨rfl, hb⟩; refine ⟨_, rfl, ?_⟩; have n0_ := Aside0.mk (Kd.R_below (by (with_reducible repeat (first | apply Kd.R_alloc | apply Kd.R_drewN | apply Kd.R_drew)); exact (Kd.R_mono (Kd.R_far (p := ⟨gb506, 2, none⟩) (Kd.R_far (p := ⟨gb506, 1, none⟩) (Kd.R_far (p := ⟨gb506, 0, none⟩) (Kd.R_types HO489.out BK506.out (by decide)) (fun _ hk => hk.2) (.slice Ao19 t500.length co19)) (fun _ hk => hk.2) (.int .i64 t503)) (fun _ hk => hk.2) (.int .i64 t504)) (fun _ h_ => h_.1))) hb); have n1_ := Aside0.mk (Kd.R_below (by (with_reducible repeat (first | apply Kd.R_alloc | apply Kd.R_drewN | apply Kd.R_drew)); exact (Kd.R_mono (Kd.R_far (p := ⟨gb506, 2, none⟩) (Kd.R_far (p := ⟨gb506, 1, none⟩) (Kd.R_far (p := ⟨gb506, 0, none⟩) (Kd.R_types HO495.out BK506.out (by decide)) (fun _ hk => hk.2) (.slice Ao19 t500.length co19)) (fun _ hk => hk.2) (.int .i64 t503)) (fun _ hk => hk.2) (.int .i64 t504)) (fun _ h_ => h_.1))) hb); have n2_ := Aside0.mk (Kd.R_below (by (with_reducible repeat (first | apply Kd.R_alloc | apply Kd.R_drewN | apply Kd.R_drew)); exact (Kd.R_mono (Kd.R_far (p := ⟨gb506, 2, none⟩) (Kd.R_far (p := ⟨gb506, 1, none⟩) (Kd.R_far (p := ⟨gb506, 0, none⟩) (Kd.R_types HO502.out BK506.out (by decide)) (fun _ hk => hk.2) (.slice Ao19 t500.length co19)) (fun _ hk => hk.2) (.int .i64 t503)) (fun _ hk => hk.2) (.int .i64 t504)) (fun _ h_ => h_.1))) hb); have n3_ := Aside0.mk (blk_below (g := gb492) (o := .cells #[.slice Ao9 t487.length co9, .int .i64 t490, .int .i64 t491] 27 (0, 0)) (by (with_reducible repeat (first | refine blk_drewN ?_ _ | refine blk_drew ?_ | refine blk_alloc ?_ _)); refine blk_far ?_ NB492_506.out _; (with_reducible repeat (first | refine blk_drewN ?_ _ | refine blk_drew ?_ | refine blk_alloc ?_ _)); refine blk_far ?_ NB492_506.out _; (with_reducible repeat (first | refine blk_drewN ?_ _ | refine blk_drew ?_ | refine blk_alloc ?_ _)); refine blk_far ?_ NB492_506.out _; (with_reducible repeat (first | refine blk_drewN ?_ _ | refine blk_drew ?_ | refine blk_alloc ?_ _)); exact BK492.out) hb); have n4_ := Aside0.mk (blk_below (g := gb499) (o := .cells #[.slice Ao13 t493.length co13, .int .i64 t496, .int .i64 t497] 27 (0, 0)) (by (with_reducible repeat (first | refine blk_drewN ?_ _ | refine blk_drew ?_ | refine blk_alloc ?_ _)); refine blk_far ?_ NB499_506.out _; (with_reducible repeat (first | refine blk_drewN ?_ _ | refine blk_drew ?_ | refine blk_alloc ?_ _)); refine blk_far ?_ NB499_506.out _; (with_reducible repeat (first | refine blk_drewN ?_ _ | refine blk_drew ?_ | refine blk_alloc ?_ _)); refine blk_far ?_ NB499_506.out _; (with_reducible repeat (first | refine blk_drewN ?_ _ | refine blk_drew ?_ | refine blk_alloc ?_ _)); exact BK499.out) hb); have n5_ := Aside0.mk (blk_below (g := gb506) (o := .cells #[.slice Ao19 t500.length co19, .int .i64 t503, .int .i64 t504] 27 (0, 0)) (by (with_reducible repeat (first | refine blk_drewN ?_ _ | refine blk_drew ?_ | refine blk_alloc ?_ _)); refine blk_put (cs := #[.slice Ao19 t500.length co19, .int .i64 t503, .int .i64 0]) ?_ 2 _ rfl; (with_reducible repeat (first | refine blk_drewN ?_ _ | refine blk_drew ?_ | refine blk_alloc ?_ _)); refine blk_put (cs := #[.slice Ao19 t500.length co19, .int .i64 0, .int .i64 0]) ?_ 1 _ rfl; (with_reducible repeat (first | refine blk_drewN ?_ _ | refine blk_drew ?_ | refine blk_alloc ?_ _)); refine blk_put (cs := #[.slice none 0 0, .int .i64 0, .int .i64 0]) ?_ 0 _ rfl; (with_reducible repeat (first | refine blk_drewN ?_ _ | refine blk_drew ?_ | refine blk_alloc ?_ _)); exact BK506.out) hb); have n6_ := Aside0.mk (below_step (by repeat (first | (with_reducible first | exact HB.out | apply below_alloc | apply pw_below_drewN | apply below_drew1 | refine below_set ?_ GE492.out | refine below_set ?_ GE499.out | refine below_set ?_ GE506.out) | exact HB.out)) hb); clear HO489; clear HO495; clear HO502; clear BK492; clear BK499; clear BK506; clear HB; have HO489 := n0_; have HO495 := n1_; have HO502 := n2_; have BK492 := n3_; have BK499 := n4_; have BK506 := n5_; have HB := n6_; clear n0_ n1_ n2_ n3_ n4_ n5_ n6_; (try clear hb); (try clear hb2); (try clear hk); (try clear hi)))
    go_meet
    case rel => exact ⟨_, ((t498 == t505)), (by first | rfl | (simp; done) | (simp [*]; done) | (simp only [IntKind.wrap_i64, wrap64]; done)), H', ⟨by first | omega | exact Nat.le_refl _⟩, ⟨by (with_reducible repeat (first | apply Kd.R_alloc | apply Kd.R_drewN | apply Kd.R_drew)); exact Kd.R_mono HO489.out (fun _ hk => ⟨hk.1.2, hk.2⟩)⟩, ⟨by (with_reducible repeat (first | apply Kd.R_alloc | apply Kd.R_drewN | apply Kd.R_drew)); exact Kd.R_mono HO495.out (fun _ hk => ⟨hk.1.2, hk.2⟩)⟩, ⟨by (with_reducible repeat (first | apply Kd.R_alloc | apply Kd.R_drewN | apply Kd.R_drew)); exact Kd.R_mono HO502.out (fun _ hk => ⟨hk.1.2, hk.2⟩)⟩, ⟨by (with_reducible repeat (first | refine blk_drewN ?_ _ | refine blk_drew ?_ | refine blk_alloc ?_ _)); exact BK492.out⟩, ⟨by (with_reducible repeat (first | refine blk_drewN ?_ _ | refine blk_drew ?_ | refine blk_alloc ?_ _)); exact BK499.out⟩, ⟨by (with_reducible repeat (first | refine blk_drewN ?_ _ | refine blk_drew ?_ | refine blk_alloc ?_ _)); exact BK506.out⟩, ⟨by repeat (first | (with_reducible first | exact HB.out | apply below_alloc | apply pw_below_drewN | apply below_drew1 | refine below_set ?_ GE492.out | refine below_set ?_ GE499.out | refine below_set ?_ GE506.out) | exact HB.out)⟩⟩
   ·replace c24 := Bool.eq_false_iff.mpr c24
    subst c24
    have H1 : (laws_FnMachTurn.j0 k t498 false t487 t490 t491 t493 t496 t497) = some r := by rw [if_neg (show ¬ (false = true) by decide)] at H; exact H
    clear H
    have H := H1
    clear H1
    have H' := Aside0.mk H
    clear H
    have hnb31 := NB499_492.out
    have hnc31 := NB492_499.out
    have hnb32 := NB499_506.out
    have hnc32 := NB506_499.out
    have hcz33_0 : w18.cell? ⟨gb499, 0, none⟩ = some (.slice Ao13 t493.length co13) := (blk_cell BK499.out 0).trans rfl
    have hcz33_1 : w18.cell? ⟨gb499, 1, none⟩ = some (.int .i64 t496) := (blk_cell BK499.out 1).trans rfl
    have hcz33_2 : w18.cell? ⟨gb499, 2, none⟩ = some (.int .i64 t497) := (blk_cell BK499.out 2).trans rfl
    have hfz33_0 := blk_frozen BK499.out 0
    have hfz33_1 := blk_frozen BK499.out 1
    have hfz33_2 := blk_frozen BK499.out 2
    have hnb34 := NB506_492.out
    have hnc34 := NB492_506.out
    have hcz35_0 : w18.cell? ⟨gb506, 0, none⟩ = some (.slice none 0 0) := (blk_cell BK506.out 0).trans rfl
    have hcz35_1 : w18.cell? ⟨gb506, 1, none⟩ = some (.int .i64 0) := (blk_cell BK506.out 1).trans rfl
    have hcz35_2 : w18.cell? ⟨gb506, 2, none⟩ = some (.int .i64 0) := (blk_cell BK506.out 2).trans rfl
    have hfz35_0 := blk_frozen BK506.out 0
    have hfz35_1 := blk_frozen BK506.out 1
    have hfz35_2 := blk_frozen BK506.out 2
    go_wp2_with (first | ((with_reducible refine gate_callee (f := 34) rfl ?_); refine goesL_ (some 29) rfl rfl Try.func34 (by kernel_rfl) rfl #[.agg #[.slice Ao13 t493.length co13, .int .i64 t496, .int .i64 t497], .agg #[.slice Ao19 t500.length co19, .int .i64 t503, .int .i64 t504]] rfl (by (try simp only [List.map_toArray, List.map_cons, List.map_nil]); first | done | rfl | (simp only [List.length_drop, List.length_take]; rfl)) ?_; (with_reducible refine (laws_sameMachine.calls k _ _ t493 t496 t497 _ _ t500 t503 t504 false _ ?side1 ?side2 ?side3 ?side4 A23.out).mono ?_); (case side1 => refine (Kd.R_reads' (e := 3) (base := w.heap.size) (ok := fun k_ => ((True ∧ some k_ ≠ (.slice Ao9 t487.length co9 : Value).ownBlock) ∧ some k_ ≠ (.slice Ao19 t500.length co19 : Value).ownBlock)) (n := t493.length) (c := co13) ?_).2.2; exact (by (with_reducible repeat (first | apply Kd.R_alloc | apply Kd.R_drewN | apply Kd.R_drew)); exact (Kd.R_mono (Kd.R_far (p := ⟨gb506, 2, none⟩) (Kd.R_far (p := ⟨gb506, 1, none⟩) (Kd.R_far (p := ⟨gb506, 0, none⟩) (Kd.R_types HO495.out BK506.out (by decide)) (fun _ hk => hk.2) (.slice Ao19 t500.length co19)) (fun _ hk => hk.2) (.int .i64 t503)) (fun _ hk => hk.2) (.int .i64 t504)) (fun _ h_ => h_.1)))); (case side2 => exact (Kd.R_reads' HO495.out).2.1); (case side3 => refine (Kd.R_reads' (e := 3) (base := w.heap.size) (ok := fun k_ => ((True ∧ some k_ ≠ (.slice Ao9 t487.length co9 : Value).ownBlock) ∧ some k_ ≠ (.slice Ao13 t493.length co13 : Value).ownBlock)) (n := t500.length) (c := co19) ?_).2.2; exact (by (with_reducible repeat (first | apply Kd.R_alloc | apply Kd.R_drewN | apply Kd.R_drew)); exact (Kd.R_mono (Kd.R_far (p := ⟨gb506, 2, none⟩) (Kd.R_far (p := ⟨gb506, 1, none⟩) (Kd.R_far (p := ⟨gb506, 0, none⟩) (Kd.R_types HO502.out BK506.out (by decide)) (fun _ hk => hk.2) (.slice Ao19 t500.length co19)) (fun _ hk => hk.2) (.int .i64 t503)) (fun _ hk => hk.2) (.int .i64 t504)) (fun _ h_ => h_.1)))); (case side4 => exact (Kd.R_reads' HO502.out).2.1); rintro e w36 ⟨rfl, hb⟩; refine ⟨_, rfl, ?_⟩; have n0_ := Aside0.mk (Kd.R_below (by (with_reducible repeat (first | apply Kd.R_alloc | apply Kd.R_drewN | apply Kd.R_drew)); exact (Kd.R_mono (Kd.R_far (p := ⟨gb506, 2, none⟩) (Kd.R_far (p := ⟨gb506, 1, none⟩) (Kd.R_far (p := ⟨gb506, 0, none⟩) (Kd.R_types HO489.out BK506.out (by decide)) (fun _ hk => hk.2) (.slice Ao19 t500.length co19)) (fun _ hk => hk.2) (.int .i64 t503)) (fun _ hk => hk.2) (.int .i64 t504)) (fun _ h_ => h_.1))) hb); have n1_ := Aside0.mk (Kd.R_below (by (with_reducible repeat (first | apply Kd.R_alloc | apply Kd.R_drewN | apply Kd.R_drew)); exact (Kd.R_mono (Kd.R_far (p := ⟨gb506, 2, none⟩) (Kd.R_far (p := ⟨gb506, 1, none⟩) (Kd.R_far (p := ⟨gb506, 0, none⟩) (Kd.R_types HO495.out BK506.out (by decide)) (fun _ hk => hk.2) (.slice Ao19 t500.length co19)) (fun _ hk => hk.2) (.int .i64 t503)) (fun _ hk => hk.2) (.int .i64 t504)) (fun _ h_ => h_.1))) hb); have n2_ := Aside0.mk (Kd.R_below (by (with_reducible repeat (first | apply Kd.R_alloc | apply Kd.R_drewN | apply Kd.R_drew)); exact (Kd.R_mono (Kd.R_far (p := ⟨gb506, 2, none⟩) (Kd.R_far (p := ⟨gb506, 1, none⟩) (Kd.R_far (p := ⟨gb506, 0, none⟩) (Kd.R_types HO502.out BK506.out (by decide)) (fun _ hk => hk.2) (.slice Ao19 t500.length co19)) (fun _ hk => hk.2) (.int .i64 t503)) (fun _ hk => hk.2) (.int .i64 t504)) (fun _ h_ => h_.1))) hb); have n3_ := Aside0.mk (blk_below (g := gb492) (o := .cells #[.slice Ao9 t487.length co9, .int .i64 t490, .int .i64 t491] 27 (0, 0)) (by (with_reducible repeat (first | refine blk_drewN ?_ _ | refine blk_drew ?_ | refine blk_alloc ?_ _)); refine blk_far ?_ NB492_506.out _; (with_reducible repeat (first | refine blk_drewN ?_ _ | refine blk_drew ?_ | refine blk_alloc ?_ _)); refine blk_far ?_ NB492_506.out _; (with_reducible repeat (first | refine blk_drewN ?_ _ | refine blk_drew ?_ | refine blk_alloc ?_ _)); refine blk_far ?_ NB492_506.out _; (with_reducible repeat (first | refine blk_drewN ?_ _ | refine blk_drew ?_ | refine blk_alloc ?_ _)); exact BK492.out) hb); have n4_ := Aside0.mk (blk_below (g := gb499) (o := .cells #[.slice Ao13 t493.length co13, .int .i64 t496, .int .i64 t497] 27 (0, 0)) (by (with_reducible repeat (first | refine blk_drewN ?_ _ | refine blk_drew ?_ | refine blk_alloc ?_ _)); refine blk_far ?_ NB499_506.out _; (with_reducible repeat (first | refine blk_drewN ?_ _ | refine blk_drew ?_ | refine blk_alloc ?_ _)); refine blk_far ?_ NB499_506.out _; (with_reducible repeat (first | refine blk_drewN ?_ _ | refine blk_drew ?_ | refine blk_alloc ?_ _)); refine blk_far ?_ NB499_506.out _; (with_reducible repeat (first | refine blk_drewN ?_ _ | refine blk_drew ?_ | refine blk_alloc ?_ _)); exact BK499.out) hb); have n5_ := Aside0.mk (blk_below (g := gb506) (o := .cells #[.slice Ao19 t500.length co19, .int .i64 t503, .int .i64 t504] 27 (0, 0)) (by (with_reducible repeat (first | refine blk_drewN ?_ _ | refine blk_drew ?_ | refine blk_alloc ?_ _)); refine blk_put (cs := #[.slice Ao19 t500.length co19, .int .i64 t503, .int .i64 0]) ?_ 2 _ rfl; (with_reducible repeat (first | refine blk_drewN ?_ _ | refine blk_drew ?_ | refine blk_alloc ?_ _)); refine blk_put (cs := #[.slice Ao19 t500.length co19, .int .i64 0, .int .i64 0]) ?_ 1 _ rfl; (with_reducible repeat (first | refine blk_drewN ?_ _ | refine blk_drew ?_ | refine blk_alloc ?_ _)); refine blk_put (cs := #[.slice none 0 0, .int .i64 0, .int .i64 0]) ?_ 0 _ rfl; (with_reducible repeat (first | refine blk_drewN ?_ _ | refine blk_drew ?_ | refine blk_alloc ?_ _)); exact BK506.out) hb); have n6_ := Aside0.mk (below_step (by repeat (first | (with_reducible first | exact HB.out | apply below_alloc | apply pw_below_drewN | apply below_drew1 | refine below_set ?_ GE492.out | refine below_set ?_ GE499.out | refine below_set ?_ GE506.out) | exact HB.out)) hb); clear HO489; clear HO495; clear HO502; clear BK492; clear BK499; clear BK506; clear HB; have HO489 := n0_; have HO495 := n1_; have HO502 := n2_; have BK492 := n3_; have BK499 := n4_; have BK506 := n5_; have HB := n6_; clear n0_ n1_ n2_ n3_ n4_ n5_ n6_; (try clear hb); (try clear hb2); (try clear hk); (try clear hi)))
    go_meet
    case rel => exact ⟨_, (false), (by first | rfl | (simp; done) | (simp [*]; done) | (simp only [IntKind.wrap_i64, wrap64]; done)), H', ⟨by first | omega | exact Nat.le_refl _⟩, ⟨by (with_reducible repeat (first | apply Kd.R_alloc | apply Kd.R_drewN | apply Kd.R_drew)); exact Kd.R_mono HO489.out (fun _ hk => ⟨hk.1.2, hk.2⟩)⟩, ⟨by (with_reducible repeat (first | apply Kd.R_alloc | apply Kd.R_drewN | apply Kd.R_drew)); exact Kd.R_mono HO495.out (fun _ hk => ⟨hk.1.2, hk.2⟩)⟩, ⟨by (with_reducible repeat (first | apply Kd.R_alloc | apply Kd.R_drewN | apply Kd.R_drew)); exact Kd.R_mono HO502.out (fun _ hk => ⟨hk.1.2, hk.2⟩)⟩, ⟨by (with_reducible repeat (first | refine blk_drewN ?_ _ | refine blk_drew ?_ | refine blk_alloc ?_ _)); exact BK492.out⟩, ⟨by (with_reducible repeat (first | refine blk_drewN ?_ _ | refine blk_drew ?_ | refine blk_alloc ?_ _)); exact BK499.out⟩, ⟨by (with_reducible repeat (first | refine blk_drewN ?_ _ | refine blk_drew ?_ | refine blk_alloc ?_ _)); exact BK506.out⟩, ⟨by repeat (first | (with_reducible first | exact HB.out | apply below_alloc | apply pw_below_drewN | apply below_drew1 | refine below_set ?_ GE492.out | refine below_set ?_ GE499.out | refine below_set ?_ GE506.out) | exact HB.out)⟩⟩
  case rest =>
   clear HC6
   try clear c1
   try clear c2
   try clear c2b0
   try clear c2b1
   try clear p2
   try clear c3
   try clear c11
   try clear c14
   try clear c20
   try clear c21
   try clear c24
   try clear c25
   try clear c26
   try clear c27
   try clear c28
   try clear c31
   try clear c32
   try clear c33
   try clear c34
   try clear hcz10_0
   try clear hcz10_1
   try clear hcz10_2
   try clear hcz15_0
   try clear hcz15_1
   try clear hcz15_2
   try clear hcz16_0
   try clear hcz16_1
   try clear hcz16_2
   try clear hcz22_0
   try clear hcz22_1
   try clear hcz22_2
   try clear hcz27_0
   try clear hcz27_1
   try clear hcz27_2
   try clear hcz29_0
   try clear hcz29_1
   try clear hcz29_2
   try clear hcz33_0
   try clear hcz33_1
   try clear hcz33_2
   try clear hcz35_0
   try clear hcz35_1
   try clear hcz35_2
   try clear hfz10_0
   try clear hfz10_1
   try clear hfz10_2
   try clear hfz15_0
   try clear hfz15_1
   try clear hfz15_2
   try clear hfz16_0
   try clear hfz16_1
   try clear hfz16_2
   try clear hfz22_0
   try clear hfz22_1
   try clear hfz22_2
   try clear hfz27_0
   try clear hfz27_1
   try clear hfz27_2
   try clear hfz29_0
   try clear hfz29_1
   try clear hfz29_2
   try clear hfz33_0
   try clear hfz33_1
   try clear hfz33_2
   try clear hfz35_0
   try clear hfz35_1
   try clear hfz35_2
   obtain ⟨kq, x8_5, rfl, HA, HJ5, HO_493000, HO_500000, HO_507000, BK492, BK499, BK506, HB⟩ := hcut
   cases kq with
   | zero => exact absurd HA.out (by simp [laws_FnMachTurn.j0])
   | succ kj5 =>
    have H := HA.out
    clear HA
    simp only [laws_FnMachTurn.j0] at H
    have HC37 := Aside0.mk H
    clear H
    go_upto_region 7 with (fail)
    go_cut [40] (fun v40 wc => ∃ (kq : Nat) (x40_36 : Bool), v40 = .bool x40_36 ∧ Aside0 (laws_FnMachTurn.j1 kq x8_5 x40_36 t487 t490 t491 t493 t496 t497 = some r) ∧ Aside0 (kq ≤ kj5) ∧ Aside0 (Kd.R (Kd.int .i64) 3 wc w.heap.size (fun k_ => some k_ ≠ ((.slice Ao13 t493.length co13) : Value).ownBlock ∧ some k_ ≠ ((.slice Ao19 t500.length co19) : Value).ownBlock) (.slice Ao9 t487.length co9) t487) ∧ Aside0 (Kd.R (Kd.int .i64) 3 wc w.heap.size (fun k_ => some k_ ≠ ((.slice Ao9 t487.length co9) : Value).ownBlock ∧ some k_ ≠ ((.slice Ao19 t500.length co19) : Value).ownBlock) (.slice Ao13 t493.length co13) t493) ∧ Aside0 (Kd.R (Kd.int .i64) 3 wc w.heap.size (fun k_ => some k_ ≠ ((.slice Ao9 t487.length co9) : Value).ownBlock ∧ some k_ ≠ ((.slice Ao13 t493.length co13) : Value).ownBlock) (.slice Ao19 t500.length co19) t500) ∧ Aside0 (wc.heap[gb492]? = some (.cells #[(.slice Ao9 t487.length co9), .int .i64 t490, .int .i64 t491] 27 (0, 0))) ∧ Aside0 (wc.heap[gb499]? = some (.cells #[(.slice Ao13 t493.length co13), .int .i64 t496, .int .i64 t497] 27 (0, 0))) ∧ Aside0 (wc.heap[gb506]? = some (.cells #[(.slice Ao19 t500.length co19), .int .i64 t503, .int .i64 t504] 27 (0, 0))) ∧ Aside0 (Below w.heap.size w wc))
    case first =>
     have H := HC37.out
     clear HC37
     by_cases c38 : x8_5 = true
     ·subst c38
      have H1 : (laws_FnMachTurn.j1 kj5 true (!t498) t487 t490 t491 t493 t496 t497) = some r := by rw [if_pos rfl] at H; exact H
      clear H
      have H := H1
      clear H1
      have H' := Aside0.mk H
      clear H
      go_wp2
      go_meet
      case rel => exact ⟨_, (!t498), (by first | rfl | (simp; done) | (simp [*]; done) | (simp only [IntKind.wrap_i64, wrap64]; done)), H', ⟨by have := HJ5.out; first | omega | exact Nat.le_refl _⟩, ⟨by (with_reducible repeat (first | apply Kd.R_alloc | apply Kd.R_drewN | apply Kd.R_drew)); exact HO_493000.out⟩, ⟨by (with_reducible repeat (first | apply Kd.R_alloc | apply Kd.R_drewN | apply Kd.R_drew)); exact HO_500000.out⟩, ⟨by (with_reducible repeat (first | apply Kd.R_alloc | apply Kd.R_drewN | apply Kd.R_drew)); exact HO_507000.out⟩, ⟨by (with_reducible repeat (first | refine blk_drewN ?_ _ | refine blk_drew ?_ | refine blk_alloc ?_ _)); exact BK492.out⟩, ⟨by (with_reducible repeat (first | refine blk_drewN ?_ _ | refine blk_drew ?_ | refine blk_alloc ?_ _)); exact BK499.out⟩, ⟨by (with_reducible repeat (first | refine blk_drewN ?_ _ | refine blk_drew ?_ | refine blk_alloc ?_ _)); exact BK506.out⟩, ⟨by repeat (first | (with_reducible first | exact HB.out | apply below_alloc | apply pw_below_drewN | apply below_drew1 | refine below_set ?_ GE492.out | refine below_set ?_ GE499.out | refine below_set ?_ GE506.out) | exact HB.out)⟩⟩
     ·replace c38 := Bool.eq_false_iff.mpr c38
      subst c38
      have H1 : (laws_FnMachTurn.j1 kj5 false true t487 t490 t491 t493 t496 t497) = some r := by rw [if_neg (show ¬ (false = true) by decide)] at H; exact H
      clear H
      have H := H1
      clear H1
      have H' := Aside0.mk H
      clear H
      go_wp2
      go_meet
      case rel => exact ⟨_, (true), (by first | rfl | (simp; done) | (simp [*]; done) | (simp only [IntKind.wrap_i64, wrap64]; done)), H', ⟨by have := HJ5.out; first | omega | exact Nat.le_refl _⟩, ⟨by (with_reducible repeat (first | apply Kd.R_alloc | apply Kd.R_drewN | apply Kd.R_drew)); exact HO_493000.out⟩, ⟨by (with_reducible repeat (first | apply Kd.R_alloc | apply Kd.R_drewN | apply Kd.R_drew)); exact HO_500000.out⟩, ⟨by (with_reducible repeat (first | apply Kd.R_alloc | apply Kd.R_drewN | apply Kd.R_drew)); exact HO_507000.out⟩, ⟨by (with_reducible repeat (first | refine blk_drewN ?_ _ | refine blk_drew ?_ | refine blk_alloc ?_ _)); exact BK492.out⟩, ⟨by (with_reducible repeat (first | refine blk_drewN ?_ _ | refine blk_drew ?_ | refine blk_alloc ?_ _)); exact BK499.out⟩, ⟨by (with_reducible repeat (first | refine blk_drewN ?_ _ | refine blk_drew ?_ | refine blk_alloc ?_ _)); exact BK506.out⟩, ⟨by repeat (first | (with_reducible first | exact HB.out | apply below_alloc | apply pw_below_drewN | apply below_drew1 | refine below_set ?_ GE492.out | refine below_set ?_ GE499.out | refine below_set ?_ GE506.out) | exact HB.out)⟩⟩
    case rest =>
     clear HC37
     try clear c1
     try clear c2
     try clear c2b0
     try clear c2b1
     try clear p2
     try clear c3
     try clear c11
     try clear c14
     try clear c20
     try clear c21
     try clear c24
     try clear c25
     try clear c26
     try clear c27
     try clear c28
     try clear c31
     try clear c32
     try clear c33
     try clear c34
     try clear c38
     try clear hcz10_0
     try clear hcz10_1
     try clear hcz10_2
     try clear hcz15_0
     try clear hcz15_1
     try clear hcz15_2
     try clear hcz16_0
     try clear hcz16_1
     try clear hcz16_2
     try clear hcz22_0
     try clear hcz22_1
     try clear hcz22_2
     try clear hcz27_0
     try clear hcz27_1
     try clear hcz27_2
     try clear hcz29_0
     try clear hcz29_1
     try clear hcz29_2
     try clear hcz33_0
     try clear hcz33_1
     try clear hcz33_2
     try clear hcz35_0
     try clear hcz35_1
     try clear hcz35_2
     try clear hfz10_0
     try clear hfz10_1
     try clear hfz10_2
     try clear hfz15_0
     try clear hfz15_1
     try clear hfz15_2
     try clear hfz16_0
     try clear hfz16_1
     try clear hfz16_2
     try clear hfz22_0
     try clear hfz22_1
     try clear hfz22_2
     try clear hfz27_0
     try clear hfz27_1
     try clear hfz27_2
     try clear hfz29_0
     try clear hfz29_1
     try clear hfz29_2
     try clear hfz33_0
     try clear hfz33_1
     try clear hfz33_2
     try clear hfz35_0
     try clear hfz35_1
     try clear hfz35_2
     try clear p2
     obtain ⟨kq, x40_36, rfl, HA, HJ36, HO_493000, HO_500000, HO_507000, BK492, BK499, BK506, HB⟩ := hcut
     cases kq with
     | zero => exact absurd HA.out (by simp [laws_FnMachTurn.j1])
     | succ kj36 =>
      have H := HA.out
      clear HA
      simp only [laws_FnMachTurn.j1] at H
      by_cases c39 : x40_36 = true
      ·subst c39
       have H1 : (some x8_5) = some r := by rw [if_pos rfl] at H; exact H
       clear H
       have H := H1
       clear H1
       obtain rfl := Option.some.inj H
       go_wp2
       go_ret
       exact ⟨by first | rfl | (simp [errW_none, errW_some] <;> rfl) | (simp [*, errW_none, errW_some] <;> rfl), by repeat (first | (with_reducible first | exact HB.out | apply below_alloc | apply pw_below_drewN | apply below_drew1 | refine below_set ?_ GE492.out | refine below_set ?_ GE499.out | refine below_set ?_ GE506.out) | exact HB.out)⟩
      ·replace c39 := Bool.eq_false_iff.mpr c39
       subst c39
       have H1 : (laws_FnMachTurn.l0 kj36 0 t487 t490 t491 t493 t496 t497) = some r := by rw [if_neg (show ¬ (false = true) by decide)] at H; exact H
       clear H
       have H := H1
       clear H1
       have H' := Aside0.mk H
       clear H
       go_wp2
       go_loopg [9] kj36 (fun kq v9 w' => ∃ (x9_3 : Int), v9 = .int .i64 x9_3 ∧ Aside0 (laws_FnMachTurn.l0 kq x9_3 t487 t490 t491 t493 t496 t497 = some r) ∧ Aside0 (kq ≤ kj36) ∧ Aside0 (Kd.R (Kd.int .i64) 3 w' w.heap.size (fun k_ => some k_ ≠ ((.slice Ao13 t493.length co13) : Value).ownBlock ∧ some k_ ≠ ((.slice Ao19 t500.length co19) : Value).ownBlock) (.slice Ao9 t487.length co9) t487) ∧ Aside0 (Kd.R (Kd.int .i64) 3 w' w.heap.size (fun k_ => some k_ ≠ ((.slice Ao9 t487.length co9) : Value).ownBlock ∧ some k_ ≠ ((.slice Ao19 t500.length co19) : Value).ownBlock) (.slice Ao13 t493.length co13) t493) ∧ Aside0 (Kd.R (Kd.int .i64) 3 w' w.heap.size (fun k_ => some k_ ≠ ((.slice Ao9 t487.length co9) : Value).ownBlock ∧ some k_ ≠ ((.slice Ao13 t493.length co13) : Value).ownBlock) (.slice Ao19 t500.length co19) t500) ∧ Aside0 (w'.heap[gb492]? = some (.cells #[(.slice Ao9 t487.length co9), .int .i64 t490, .int .i64 t491] 27 (0, 0))) ∧ Aside0 (w'.heap[gb499]? = some (.cells #[(.slice Ao13 t493.length co13), .int .i64 t496, .int .i64 t497] 27 (0, 0))) ∧ Aside0 (w'.heap[gb506]? = some (.cells #[(.slice Ao19 t500.length co19), .int .i64 t503, .int .i64 t504] 27 (0, 0))) ∧ Aside0 (Below w.heap.size w w'))
       case atStart => exact ⟨(0), (by first | rfl | (simp; done) | (simp [*]; done) | (simp only [IntKind.wrap_i64, wrap64]; done)), H', ⟨Nat.le_refl _⟩, ⟨by (with_reducible repeat (first | apply Kd.R_alloc | apply Kd.R_drewN | apply Kd.R_drew)); exact HO_493000.out⟩, ⟨by (with_reducible repeat (first | apply Kd.R_alloc | apply Kd.R_drewN | apply Kd.R_drew)); exact HO_500000.out⟩, ⟨by (with_reducible repeat (first | apply Kd.R_alloc | apply Kd.R_drewN | apply Kd.R_drew)); exact HO_507000.out⟩, ⟨by (with_reducible repeat (first | refine blk_drewN ?_ _ | refine blk_drew ?_ | refine blk_alloc ?_ _)); exact BK492.out⟩, ⟨by (with_reducible repeat (first | refine blk_drewN ?_ _ | refine blk_drew ?_ | refine blk_alloc ?_ _)); exact BK499.out⟩, ⟨by (with_reducible repeat (first | refine blk_drewN ?_ _ | refine blk_drew ?_ | refine blk_alloc ?_ _)); exact BK506.out⟩, ⟨by repeat (first | (with_reducible first | exact HB.out | apply below_alloc | apply pw_below_drewN | apply below_drew1 | refine below_set ?_ GE492.out | refine below_set ?_ GE499.out | refine below_set ?_ GE506.out) | exact HB.out)⟩⟩
       case round =>
        clear H'
        try clear c1
        try clear c2
        try clear c2b0
        try clear c2b1
        try clear p2
        try clear c3
        try clear c11
        try clear c14
        try clear c20
        try clear c21
        try clear c24
        try clear c25
        try clear c26
        try clear c27
        try clear c28
        try clear c31
        try clear c32
        try clear c33
        try clear c34
        try clear c38
        try clear c39
        try clear hcz10_0
        try clear hcz10_1
        try clear hcz10_2
        try clear hcz15_0
        try clear hcz15_1
        try clear hcz15_2
        try clear hcz16_0
        try clear hcz16_1
        try clear hcz16_2
        try clear hcz22_0
        try clear hcz22_1
        try clear hcz22_2
        try clear hcz27_0
        try clear hcz27_1
        try clear hcz27_2
        try clear hcz29_0
        try clear hcz29_1
        try clear hcz29_2
        try clear hcz33_0
        try clear hcz33_1
        try clear hcz33_2
        try clear hcz35_0
        try clear hcz35_1
        try clear hcz35_2
        try clear hfz10_0
        try clear hfz10_1
        try clear hfz10_2
        try clear hfz15_0
        try clear hfz15_1
        try clear hfz15_2
        try clear hfz16_0
        try clear hfz16_1
        try clear hfz16_2
        try clear hfz22_0
        try clear hfz22_1
        try clear hfz22_2
        try clear hfz27_0
        try clear hfz27_1
        try clear hfz27_2
        try clear hfz29_0
        try clear hfz29_1
        try clear hfz29_2
        try clear hfz33_0
        try clear hfz33_1
        try clear hfz33_2
        try clear hfz35_0
        try clear hfz35_1
        try clear hfz35_2
        try clear p2
        obtain ⟨x9_3, rfl, HA, HK3, HO_493000, HO_500000, HO_507000, BK492, BK499, BK506, HB⟩ := hrel
        cases gk with
        | zero => exact absurd HA.out (by simp [laws_FnMachTurn.l0])
        | succ k3 =>
         have H := HA.out
         clear HA
         simp only [laws_FnMachTurn.l0] at H
         by_cases c40 : x9_3 ≤ 60
         ·rw [if_pos c40] at H
          have c40b0 : decide (x9_3 ≤ 60) = true := decide_eq_true c40
          clear c40
          replace H := Option.bind_eq_some_iff.mp H
          obtain ⟨t516, A410, H⟩ := H
          replace H : ((impl_MachTakes.f k3 t487 t490 t491 x9_3).bind fun t517 => (if (t516 != t517) = true then (some false) else (laws_FnMachTurn.l0 k3 (wrap64 (x9_3 + 1)) t487 t490 t491 t493 t496 t497))) = some r := H
          have A41 := Aside0.mk A410
          clear A410
          replace H := Option.bind_eq_some_iff.mp H
          obtain ⟨t517, A420, H⟩ := H
          replace H : (if (t516 != t517) = true then (some false) else (laws_FnMachTurn.l0 k3 (wrap64 (x9_3 + 1)) t487 t490 t491 t493 t496 t497)) = some r := H
          have A42 := Aside0.mk A420
          clear A420
          by_cases c43 : (t516 != t517) = true
          ·rw [if_pos c43] at H
           have c43b0 : (t516 != t517) = true := c43
           (try (have c43b1 : decide (t516 = t517) = false := by simpa using c43))
           (try (have c43b2 : (t516 == t517) = false := by simpa using c43))
           (try (have c43b3 : ¬ (t516 = t517) := by simpa using c43))
           clear c43
           obtain rfl := Option.some.inj H
           try go_wp2
           have n0_ := Aside0.mk (Kd.R_drew HO_493000.out)
           have n1_ := Aside0.mk (Kd.R_drew HO_500000.out)
           have n2_ := Aside0.mk (Kd.R_drew HO_507000.out)
           have n3_ := Aside0.mk (blk_drew BK492.out)
           have n4_ := Aside0.mk (blk_drew BK499.out)
           have n5_ := Aside0.mk (blk_drew BK506.out)
           have n6_ := Aside0.mk (below_drew1 HB.out)
           clear HO_493000
           clear HO_500000
           clear HO_507000
           clear BK492
           clear BK499
           clear BK506
           clear HB
           have HO_493000 := n0_
           have HO_500000 := n1_
           have HO_507000 := n2_
           have BK492 := n3_
           have BK499 := n4_
           have BK506 := n5_
           have HB := n6_
           clear n0_ n1_ n2_ n3_ n4_ n5_ n6_
           refine start_ (n := 7) (S := fun w' => w'.cell? ⟨gb499, 0, none⟩ = some (.slice Ao13 t493.length co13) ∧ w'.cell? ⟨gb499, 1, none⟩ = some (.int .i64 t496) ∧ w'.cell? ⟨gb499, 2, none⟩ = some (.int .i64 t497) ∧ w'.cell? ⟨gb492, 0, none⟩ = some (.slice Ao9 t487.length co9) ∧ w'.cell? ⟨gb492, 1, none⟩ = some (.int .i64 t490) ∧ w'.cell? ⟨gb492, 2, none⟩ = some (.int .i64 t491)) (ds := []) #[false, false, false, false, false, false, false] (by kernel_rfl) rfl rfl ⟨(blk_cell BK499.out 0).trans rfl, (blk_cell BK499.out 1).trans rfl, (blk_cell BK499.out 2).trans rfl, (blk_cell BK492.out 0).trans rfl, (blk_cell BK492.out 1).trans rfl, (blk_cell BK492.out 2).trans rfl⟩ (fun hHeld => ?_)
           generalize wr.drew = w44 at HO_493000 HO_500000 HO_507000 BK492 BK499 BK506 HB hHeld ⊢
           refine pure_ (i := 1) (N := some 47) (v := ?_) (a' := ?_) #[false, true, false, false, false, false, false] rfl rfl (by kernel_rfl) (fun _ _ _ h => h) (Or.inl ⟨by rfl, ?_⟩) ?_ ?_
           rotate_left
           ·intro w'
            go_simp
            with_reducible rfl
           rotate_left
           ·simp only [Act.put, List.setIfInBounds_toArray, List.set_cons_zero, List.set_cons_succ, i64_w, i32_w]
            rfl
           refine pure_ (i := 4) (N := some 50) (v := ?_) (a' := ?_) #[false, true, false, false, true, false, false] rfl rfl (by kernel_rfl) (fun _ _ _ h => h) (Or.inl ⟨by rfl, ?_⟩) ?_ ?_
           rotate_left
           ·intro w'
            go_simp
            with_reducible rfl
           rotate_left
           ·simp only [Act.put, List.setIfInBounds_toArray, List.set_cons_zero, List.set_cons_succ, i64_w, i32_w]
            rfl
           refine take_ (i := 0) (N := some 46) (v := ?_) (a' := ?_) #[true, true, false, false, true, false, false] rfl rfl (by kernel_rfl) (fun _ _ _ h => h) (Or.inl ⟨by rfl, ?_⟩) hHeld ?_ ?_
           rotate_left
           ·rintro w' ⟨s0, s1, s2, s3, s4, s5⟩
            go_simp
            with_reducible rfl
           rotate_left
           ·simp only [Act.put, List.setIfInBounds_toArray, List.set_cons_zero, List.set_cons_succ, i64_w, i32_w]
            rfl
           refine take_ (i := 3) (N := some 49) (v := ?_) (a' := ?_) #[true, true, false, true, true, false, false] rfl rfl (by kernel_rfl) (fun _ _ _ h => h) (Or.inl ⟨by rfl, ?_⟩) hHeld ?_ ?_
           rotate_left
           ·rintro w' ⟨s0, s1, s2, s3, s4, s5⟩
            go_simp
            with_reducible rfl
           rotate_left
           ·simp only [Act.put, List.setIfInBounds_toArray, List.set_cons_zero, List.set_cons_succ, i64_w, i32_w]
            rfl
           refine one_ (i := 2) (N := some 48) #[true, true, true, true, true, false, false] rfl rfl (by kernel_rfl) (by decide) (fun K hK => ?_)
           refine goes_ Try.func25 (by kernel_rfl) rfl #[.agg #[.slice Ao13 t493.length co13, .int .i64 t496, .int .i64 t497], .int .i64 x9_3] (by rfl) rfl rfl (by (try simp only [List.map_toArray, List.map_cons, List.map_nil]); first | done | rfl | (simp only [List.length_drop, List.length_take]; rfl)) ?_
           with_reducible refine (impl_MachTakes.calls k3 _ _ t493 t496 t497 x9_3 t516 _ ?side1 ?side2 A41.out).mono ?_
           (case side1 => repeat (first | exact (Kd.R_reads' HO_500000.out).2.2 | (with_reducible refine Kd.C_alloc ?_ _) | (with_reducible refine Kd.C_drewN ?_ _) | (with_reducible refine Kd.C_drew ?_)))
           (case side2 => exact (Kd.R_reads' HO_500000.out).2.1)
           rintro e w45 ⟨rfl, hb⟩
           refine ⟨_, rfl, ?_⟩
           have n0_ := Aside0.mk (Kd.R_below (by (with_reducible repeat (first | apply Kd.R_alloc | apply Kd.R_drewN | apply Kd.R_drew)); exact HO_493000.out) hb)
           have n1_ := Aside0.mk (Kd.R_below (by (with_reducible repeat (first | apply Kd.R_alloc | apply Kd.R_drewN | apply Kd.R_drew)); exact HO_500000.out) hb)
           have n2_ := Aside0.mk (Kd.R_below (by (with_reducible repeat (first | apply Kd.R_alloc | apply Kd.R_drewN | apply Kd.R_drew)); exact HO_507000.out) hb)
           have n3_ := Aside0.mk (blk_below (g := gb492) (o := .cells #[.slice Ao9 t487.length co9, .int .i64 t490, .int .i64 t491] 27 (0, 0)) (by (with_reducible repeat (first | refine blk_drewN ?_ _ | refine blk_drew ?_ | refine blk_alloc ?_ _)); exact BK492.out) hb)
           have n4_ := Aside0.mk (blk_below (g := gb499) (o := .cells #[.slice Ao13 t493.length co13, .int .i64 t496, .int .i64 t497] 27 (0, 0)) (by (with_reducible repeat (first | refine blk_drewN ?_ _ | refine blk_drew ?_ | refine blk_alloc ?_ _)); exact BK499.out) hb)
           have n5_ := Aside0.mk (blk_below (g := gb506) (o := .cells #[.slice Ao19 t500.length co19, .int .i64 t503, .int .i64 t504] 27 (0, 0)) (by (with_reducible repeat (first | refine blk_drewN ?_ _ | refine blk_drew ?_ | refine blk_alloc ?_ _)); exact BK506.out) hb)
           have n6_ := Aside0.mk (below_step (by repeat (first | (with_reducible first | exact HB.out | apply below_alloc | apply pw_below_drewN | apply below_drew1 | refine below_set ?_ GE492.out | refine below_set ?_ GE499.out | refine below_set ?_ GE506.out) | exact HB.out)) hb)
           clear HO_493000
           clear HO_500000
           clear HO_507000
           clear BK492
           clear BK499
           clear BK506
           clear HB
           have HO_493000 := n0_
           have HO_500000 := n1_
           have HO_507000 := n2_
           have BK492 := n3_
           have BK499 := n4_
           have BK506 := n5_
           have HB := n6_
           clear n0_ n1_ n2_ n3_ n4_ n5_ n6_
           (try clear hb)
           (try clear hb2)
           (try clear hk)
           (try clear hi)
           refine hK.out _ _ ⟨(blk_cell BK499.out 0).trans rfl, (blk_cell BK499.out 1).trans rfl, (blk_cell BK499.out 2).trans rfl, (blk_cell BK492.out 0).trans rfl, (blk_cell BK492.out 1).trans rfl, (blk_cell BK492.out 2).trans rfl⟩ (fun hHeld => ?_)
           clear hK K
           refine norm_ (a' := ?_) ?_ ?_
           rotate_left
           ·show Act.put _ (some 48) _ = _
            simp only [Act.put, List.setIfInBounds_toArray, List.set_cons_zero, List.set_cons_succ, i64_w, i32_w]
            rfl
           refine one_ (i := 5) (N := some 51) #[true, true, true, true, true, true, false] rfl rfl (by kernel_rfl) (by decide) (fun K hK => ?_)
           refine goes_ Try.func25 (by kernel_rfl) rfl #[.agg #[.slice Ao9 t487.length co9, .int .i64 t490, .int .i64 t491], .int .i64 x9_3] (by rfl) rfl rfl (by (try simp only [List.map_toArray, List.map_cons, List.map_nil]); first | done | rfl | (simp only [List.length_drop, List.length_take]; rfl)) ?_
           with_reducible refine (impl_MachTakes.calls k3 _ _ t487 t490 t491 x9_3 t517 _ ?side1 ?side2 A42.out).mono ?_
           (case side1 => repeat (first | exact (Kd.R_reads' HO_493000.out).2.2 | (with_reducible refine Kd.C_alloc ?_ _) | (with_reducible refine Kd.C_drewN ?_ _) | (with_reducible refine Kd.C_drew ?_)))
           (case side2 => exact (Kd.R_reads' HO_493000.out).2.1)
           rintro e w46 ⟨rfl, hb⟩
           refine ⟨_, rfl, ?_⟩
           have n0_ := Aside0.mk (Kd.R_below (by (with_reducible repeat (first | apply Kd.R_alloc | apply Kd.R_drewN | apply Kd.R_drew)); exact HO_493000.out) hb)
           have n1_ := Aside0.mk (Kd.R_below (by (with_reducible repeat (first | apply Kd.R_alloc | apply Kd.R_drewN | apply Kd.R_drew)); exact HO_500000.out) hb)
           have n2_ := Aside0.mk (Kd.R_below (by (with_reducible repeat (first | apply Kd.R_alloc | apply Kd.R_drewN | apply Kd.R_drew)); exact HO_507000.out) hb)
           have n3_ := Aside0.mk (blk_below (g := gb492) (o := .cells #[.slice Ao9 t487.length co9, .int .i64 t490, .int .i64 t491] 27 (0, 0)) (by (with_reducible repeat (first | refine blk_drewN ?_ _ | refine blk_drew ?_ | refine blk_alloc ?_ _)); exact BK492.out) hb)
           have n4_ := Aside0.mk (blk_below (g := gb499) (o := .cells #[.slice Ao13 t493.length co13, .int .i64 t496, .int .i64 t497] 27 (0, 0)) (by (with_reducible repeat (first | refine blk_drewN ?_ _ | refine blk_drew ?_ | refine blk_alloc ?_ _)); exact BK499.out) hb)
           have n5_ := Aside0.mk (blk_below (g := gb506) (o := .cells #[.slice Ao19 t500.length co19, .int .i64 t503, .int .i64 t504] 27 (0, 0)) (by (with_reducible repeat (first | refine blk_drewN ?_ _ | refine blk_drew ?_ | refine blk_alloc ?_ _)); exact BK506.out) hb)
           have n6_ := Aside0.mk (below_step (by repeat (first | (with_reducible first | exact HB.out | apply below_alloc | apply pw_below_drewN | apply below_drew1 | refine below_set ?_ GE492.out | refine below_set ?_ GE499.out | refine below_set ?_ GE506.out) | exact HB.out)) hb)
           clear HO_493000
           clear HO_500000
           clear HO_507000
           clear BK492
           clear BK499
           clear BK506
           clear HB
           have HO_493000 := n0_
           have HO_500000 := n1_
           have HO_507000 := n2_
           have BK492 := n3_
           have BK499 := n4_
           have BK506 := n5_
           have HB := n6_
           clear n0_ n1_ n2_ n3_ n4_ n5_ n6_
           (try clear hb)
           (try clear hb2)
           (try clear hk)
           (try clear hi)
           refine hK.out _ _ ⟨(blk_cell BK499.out 0).trans rfl, (blk_cell BK499.out 1).trans rfl, (blk_cell BK499.out 2).trans rfl, (blk_cell BK492.out 0).trans rfl, (blk_cell BK492.out 1).trans rfl, (blk_cell BK492.out 2).trans rfl⟩ (fun hHeld => ?_)
           clear hK K
           refine norm_ (a' := ?_) ?_ ?_
           rotate_left
           ·show Act.put _ (some 51) _ = _
            simp only [Act.put, List.setIfInBounds_toArray, List.set_cons_zero, List.set_cons_succ, i64_w, i32_w]
            rfl
           refine pure_ (i := 6) (N := some 52) (v := ?_) (a' := ?_) #[true, true, true, true, true, true, true] rfl rfl (by kernel_rfl) (fun _ _ _ h => h) (Or.inl ⟨by rfl, ?_⟩) ?_ ?_
           rotate_left
           ·intro w'
            go_simp
            with_reducible rfl
           rotate_left
           ·simp only [Act.put, List.setIfInBounds_toArray, List.set_cons_zero, List.set_cons_succ, i64_w, i32_w]
            rfl
           refine done_ (by kernel_rfl) ?_
           try go_wp2
           go_ret
           exact ⟨by first | rfl | (simp [errW_none, errW_some] <;> rfl) | (simp [*, errW_none, errW_some] <;> rfl), by repeat (first | (with_reducible first | exact HB.out | apply below_alloc | apply pw_below_drewN | apply below_drew1 | refine below_set ?_ GE492.out | refine below_set ?_ GE499.out | refine below_set ?_ GE506.out) | exact HB.out)⟩
          ·rw [if_neg c43] at H
           have c43b0 : (t516 != t517) = false := by simpa using c43
           (try (have c43b1 : decide (t516 = t517) = true := by simpa using c43))
           (try (have c43b2 : (t516 == t517) = true := by simpa using c43))
           clear c43
           have H' := Aside0.mk H
           clear H
           try go_wp2
           have n0_ := Aside0.mk (Kd.R_drew HO_493000.out)
           have n1_ := Aside0.mk (Kd.R_drew HO_500000.out)
           have n2_ := Aside0.mk (Kd.R_drew HO_507000.out)
           have n3_ := Aside0.mk (blk_drew BK492.out)
           have n4_ := Aside0.mk (blk_drew BK499.out)
           have n5_ := Aside0.mk (blk_drew BK506.out)
           have n6_ := Aside0.mk (below_drew1 HB.out)
           clear HO_493000
           clear HO_500000
           clear HO_507000
           clear BK492
           clear BK499
           clear BK506
           clear HB
           have HO_493000 := n0_
           have HO_500000 := n1_
           have HO_507000 := n2_
           have BK492 := n3_
           have BK499 := n4_
           have BK506 := n5_
           have HB := n6_
           clear n0_ n1_ n2_ n3_ n4_ n5_ n6_
           refine start_ (n := 7) (S := fun w' => w'.cell? ⟨gb499, 0, none⟩ = some (.slice Ao13 t493.length co13) ∧ w'.cell? ⟨gb499, 1, none⟩ = some (.int .i64 t496) ∧ w'.cell? ⟨gb499, 2, none⟩ = some (.int .i64 t497) ∧ w'.cell? ⟨gb492, 0, none⟩ = some (.slice Ao9 t487.length co9) ∧ w'.cell? ⟨gb492, 1, none⟩ = some (.int .i64 t490) ∧ w'.cell? ⟨gb492, 2, none⟩ = some (.int .i64 t491)) (ds := []) #[false, false, false, false, false, false, false] (by kernel_rfl) rfl rfl ⟨(blk_cell BK499.out 0).trans rfl, (blk_cell BK499.out 1).trans rfl, (blk_cell BK499.out 2).trans rfl, (blk_cell BK492.out 0).trans rfl, (blk_cell BK492.out 1).trans rfl, (blk_cell BK492.out 2).trans rfl⟩ (fun hHeld => ?_)
           generalize wr.drew = w47 at HO_493000 HO_500000 HO_507000 BK492 BK499 BK506 HB hHeld ⊢
           refine pure_ (i := 1) (N := some 47) (v := ?_) (a' := ?_) #[false, true, false, false, false, false, false] rfl rfl (by kernel_rfl) (fun _ _ _ h => h) (Or.inl ⟨by rfl, ?_⟩) ?_ ?_
           rotate_left
           ·intro w'
            go_simp
            with_reducible rfl
           rotate_left
           ·simp only [Act.put, List.setIfInBounds_toArray, List.set_cons_zero, List.set_cons_succ, i64_w, i32_w]
            rfl
           refine pure_ (i := 4) (N := some 50) (v := ?_) (a' := ?_) #[false, true, false, false, true, false, false] rfl rfl (by kernel_rfl) (fun _ _ _ h => h) (Or.inl ⟨by rfl, ?_⟩) ?_ ?_
           rotate_left
           ·intro w'
            go_simp
            with_reducible rfl
           rotate_left
           ·simp only [Act.put, List.setIfInBounds_toArray, List.set_cons_zero, List.set_cons_succ, i64_w, i32_w]
            rfl
           refine take_ (i := 0) (N := some 46) (v := ?_) (a' := ?_) #[true, true, false, false, true, false, false] rfl rfl (by kernel_rfl) (fun _ _ _ h => h) (Or.inl ⟨by rfl, ?_⟩) hHeld ?_ ?_
           rotate_left
           ·rintro w' ⟨s0, s1, s2, s3, s4, s5⟩
            go_simp
            with_reducible rfl
           rotate_left
           ·simp only [Act.put, List.setIfInBounds_toArray, List.set_cons_zero, List.set_cons_succ, i64_w, i32_w]
            rfl
           refine take_ (i := 3) (N := some 49) (v := ?_) (a' := ?_) #[true, true, false, true, true, false, false] rfl rfl (by kernel_rfl) (fun _ _ _ h => h) (Or.inl ⟨by rfl, ?_⟩) hHeld ?_ ?_
           rotate_left
           ·rintro w' ⟨s0, s1, s2, s3, s4, s5⟩
            go_simp
            with_reducible rfl
           rotate_left
           ·simp only [Act.put, List.setIfInBounds_toArray, List.set_cons_zero, List.set_cons_succ, i64_w, i32_w]
            rfl
           refine one_ (i := 2) (N := some 48) #[true, true, true, true, true, false, false] rfl rfl (by kernel_rfl) (by decide) (fun K hK => ?_)
           refine goes_ Try.func25 (by kernel_rfl) rfl #[.agg #[.slice Ao13 t493.length co13, .int .i64 t496, .int .i64 t497], .int .i64 x9_3] (by rfl) rfl rfl (by (try simp only [List.map_toArray, List.map_cons, List.map_nil]); first | done | rfl | (simp only [List.length_drop, List.length_take]; rfl)) ?_
           with_reducible refine (impl_MachTakes.calls k3 _ _ t493 t496 t497 x9_3 t516 _ ?side1 ?side2 A41.out).mono ?_
           (case side1 => repeat (first | exact (Kd.R_reads' HO_500000.out).2.2 | (with_reducible refine Kd.C_alloc ?_ _) | (with_reducible refine Kd.C_drewN ?_ _) | (with_reducible refine Kd.C_drew ?_)))
           (case side2 => exact (Kd.R_reads' HO_500000.out).2.1)
           rintro e w48 ⟨rfl, hb⟩
           refine ⟨_, rfl, ?_⟩
           have n0_ := Aside0.mk (Kd.R_below (by (with_reducible repeat (first | apply Kd.R_alloc | apply Kd.R_drewN | apply Kd.R_drew)); exact HO_493000.out) hb)
           have n1_ := Aside0.mk (Kd.R_below (by (with_reducible repeat (first | apply Kd.R_alloc | apply Kd.R_drewN | apply Kd.R_drew)); exact HO_500000.out) hb)
           have n2_ := Aside0.mk (Kd.R_below (by (with_reducible repeat (first | apply Kd.R_alloc | apply Kd.R_drewN | apply Kd.R_drew)); exact HO_507000.out) hb)
           have n3_ := Aside0.mk (blk_below (g := gb492) (o := .cells #[.slice Ao9 t487.length co9, .int .i64 t490, .int .i64 t491] 27 (0, 0)) (by (with_reducible repeat (first | refine blk_drewN ?_ _ | refine blk_drew ?_ | refine blk_alloc ?_ _)); exact BK492.out) hb)
           have n4_ := Aside0.mk (blk_below (g := gb499) (o := .cells #[.slice Ao13 t493.length co13, .int .i64 t496, .int .i64 t497] 27 (0, 0)) (by (with_reducible repeat (first | refine blk_drewN ?_ _ | refine blk_drew ?_ | refine blk_alloc ?_ _)); exact BK499.out) hb)
           have n5_ := Aside0.mk (blk_below (g := gb506) (o := .cells #[.slice Ao19 t500.length co19, .int .i64 t503, .int .i64 t504] 27 (0, 0)) (by (with_reducible repeat (first | refine blk_drewN ?_ _ | refine blk_drew ?_ | refine blk_alloc ?_ _)); exact BK506.out) hb)
           have n6_ := Aside0.mk (below_step (by repeat (first | (with_reducible first | exact HB.out | apply below_alloc | apply pw_below_drewN | apply below_drew1 | refine below_set ?_ GE492.out | refine below_set ?_ GE499.out | refine below_set ?_ GE506.out) | exact HB.out)) hb)
           clear HO_493000
           clear HO_500000
           clear HO_507000
           clear BK492
           clear BK499
           clear BK506
           clear HB
           have HO_493000 := n0_
           have HO_500000 := n1_
           have HO_507000 := n2_
           have BK492 := n3_
           have BK499 := n4_
           have BK506 := n5_
           have HB := n6_
           clear n0_ n1_ n2_ n3_ n4_ n5_ n6_
           (try clear hb)
           (try clear hb2)
           (try clear hk)
           (try clear hi)
           refine hK.out _ _ ⟨(blk_cell BK499.out 0).trans rfl, (blk_cell BK499.out 1).trans rfl, (blk_cell BK499.out 2).trans rfl, (blk_cell BK492.out 0).trans rfl, (blk_cell BK492.out 1).trans rfl, (blk_cell BK492.out 2).trans rfl⟩ (fun hHeld => ?_)
           clear hK K
           refine norm_ (a' := ?_) ?_ ?_
           rotate_left
           ·show Act.put _ (some 48) _ = _
            simp only [Act.put, List.setIfInBounds_toArray, List.set_cons_zero, List.set_cons_succ, i64_w, i32_w]
            rfl
           refine one_ (i := 5) (N := some 51) #[true, true, true, true, true, true, false] rfl rfl (by kernel_rfl) (by decide) (fun K hK => ?_)
           refine goes_ Try.func25 (by kernel_rfl) rfl #[.agg #[.slice Ao9 t487.length co9, .int .i64 t490, .int .i64 t491], .int .i64 x9_3] (by rfl) rfl rfl (by (try simp only [List.map_toArray, List.map_cons, List.map_nil]); first | done | rfl | (simp only [List.length_drop, List.length_take]; rfl)) ?_
           with_reducible refine (impl_MachTakes.calls k3 _ _ t487 t490 t491 x9_3 t517 _ ?side1 ?side2 A42.out).mono ?_
           (case side1 => repeat (first | exact (Kd.R_reads' HO_493000.out).2.2 | (with_reducible refine Kd.C_alloc ?_ _) | (with_reducible refine Kd.C_drewN ?_ _) | (with_reducible refine Kd.C_drew ?_)))
           (case side2 => exact (Kd.R_reads' HO_493000.out).2.1)
           rintro e w49 ⟨rfl, hb⟩
           refine ⟨_, rfl, ?_⟩
           have n0_ := Aside0.mk (Kd.R_below (by (with_reducible repeat (first | apply Kd.R_alloc | apply Kd.R_drewN | apply Kd.R_drew)); exact HO_493000.out) hb)
           have n1_ := Aside0.mk (Kd.R_below (by (with_reducible repeat (first | apply Kd.R_alloc | apply Kd.R_drewN | apply Kd.R_drew)); exact HO_500000.out) hb)
           have n2_ := Aside0.mk (Kd.R_below (by (with_reducible repeat (first | apply Kd.R_alloc | apply Kd.R_drewN | apply Kd.R_drew)); exact HO_507000.out) hb)
           have n3_ := Aside0.mk (blk_below (g := gb492) (o := .cells #[.slice Ao9 t487.length co9, .int .i64 t490, .int .i64 t491] 27 (0, 0)) (by (with_reducible repeat (first | refine blk_drewN ?_ _ | refine blk_drew ?_ | refine blk_alloc ?_ _)); exact BK492.out) hb)
           have n4_ := Aside0.mk (blk_below (g := gb499) (o := .cells #[.slice Ao13 t493.length co13, .int .i64 t496, .int .i64 t497] 27 (0, 0)) (by (with_reducible repeat (first | refine blk_drewN ?_ _ | refine blk_drew ?_ | refine blk_alloc ?_ _)); exact BK499.out) hb)
           have n5_ := Aside0.mk (blk_below (g := gb506) (o := .cells #[.slice Ao19 t500.length co19, .int .i64 t503, .int .i64 t504] 27 (0, 0)) (by (with_reducible repeat (first | refine blk_drewN ?_ _ | refine blk_drew ?_ | refine blk_alloc ?_ _)); exact BK506.out) hb)
           have n6_ := Aside0.mk (below_step (by repeat (first | (with_reducible first | exact HB.out | apply below_alloc | apply pw_below_drewN | apply below_drew1 | refine below_set ?_ GE492.out | refine below_set ?_ GE499.out | refine below_set ?_ GE506.out) | exact HB.out)) hb)
           clear HO_493000
           clear HO_500000
           clear HO_507000
           clear BK492
           clear BK499
           clear BK506
           clear HB
           have HO_493000 := n0_
           have HO_500000 := n1_
           have HO_507000 := n2_
           have BK492 := n3_
           have BK499 := n4_
           have BK506 := n5_
           have HB := n6_
           clear n0_ n1_ n2_ n3_ n4_ n5_ n6_
           (try clear hb)
           (try clear hb2)
           (try clear hk)
           (try clear hi)
           refine hK.out _ _ ⟨(blk_cell BK499.out 0).trans rfl, (blk_cell BK499.out 1).trans rfl, (blk_cell BK499.out 2).trans rfl, (blk_cell BK492.out 0).trans rfl, (blk_cell BK492.out 1).trans rfl, (blk_cell BK492.out 2).trans rfl⟩ (fun hHeld => ?_)
           clear hK K
           refine norm_ (a' := ?_) ?_ ?_
           rotate_left
           ·show Act.put _ (some 51) _ = _
            simp only [Act.put, List.setIfInBounds_toArray, List.set_cons_zero, List.set_cons_succ, i64_w, i32_w]
            rfl
           refine pure_ (i := 6) (N := some 52) (v := ?_) (a' := ?_) #[true, true, true, true, true, true, true] rfl rfl (by kernel_rfl) (fun _ _ _ h => h) (Or.inl ⟨by rfl, ?_⟩) ?_ ?_
           rotate_left
           ·intro w'
            go_simp
            with_reducible rfl
           rotate_left
           ·simp only [Act.put, List.setIfInBounds_toArray, List.set_cons_zero, List.set_cons_succ, i64_w, i32_w]
            rfl
           refine done_ (by kernel_rfl) ?_
           try go_wp2
           go_roundg k3
           case measure => have := HJ5.out; have := HJ36.out; have := HK3.out; omega
           case rel => exact ⟨(wrap64 (x9_3 + 1)), (by first | rfl | (simp; done) | (simp [*]; done) | (simp only [IntKind.wrap_i64, wrap64]; done)), H', ⟨by have := HJ5.out; have := HJ36.out; have := HK3.out; omega⟩, ⟨by (with_reducible repeat (first | apply Kd.R_alloc | apply Kd.R_drewN | apply Kd.R_drew)); exact HO_493000.out⟩, ⟨by (with_reducible repeat (first | apply Kd.R_alloc | apply Kd.R_drewN | apply Kd.R_drew)); exact HO_500000.out⟩, ⟨by (with_reducible repeat (first | apply Kd.R_alloc | apply Kd.R_drewN | apply Kd.R_drew)); exact HO_507000.out⟩, ⟨by (with_reducible repeat (first | refine blk_drewN ?_ _ | refine blk_drew ?_ | refine blk_alloc ?_ _)); exact BK492.out⟩, ⟨by (with_reducible repeat (first | refine blk_drewN ?_ _ | refine blk_drew ?_ | refine blk_alloc ?_ _)); exact BK499.out⟩, ⟨by (with_reducible repeat (first | refine blk_drewN ?_ _ | refine blk_drew ?_ | refine blk_alloc ?_ _)); exact BK506.out⟩, ⟨by repeat (first | (with_reducible first | exact HB.out | apply below_alloc | apply pw_below_drewN | apply below_drew1 | refine below_set ?_ GE492.out | refine below_set ?_ GE499.out | refine below_set ?_ GE506.out) | exact HB.out)⟩⟩
         ·rw [if_neg c40] at H
          have c40b0 : decide (x9_3 ≤ 60) = false := decide_eq_false c40
          clear c40
          replace H := Option.bind_eq_some_iff.mp H
          obtain ⟨⟨t508, t511, t512, t513⟩, A500, H⟩ := H
          replace H : (if t513 = true then ((laws_sameMachine.f k3 t508 t511 t512 t487 t490 t491).bind fun t515 => (some t515)) else (some false)) = some r := H
          have A50 := Aside0.mk A500
          clear A500
          by_cases c51 : t513 = true
          ·subst c51
           have H1 : ((laws_sameMachine.f k3 t508 t511 t512 t487 t490 t491).bind fun t515 => (some t515)) = some r := by rw [if_pos rfl] at H; exact H
           clear H
           have H := H1
           clear H1
           replace H := Option.bind_eq_some_iff.mp H
           obtain ⟨t515, A520, H⟩ := H
           replace H : (some t515) = some r := H
           have A52 := Aside0.mk A520
           clear A520
           obtain rfl := Option.some.inj H
           have hnb53 := NB499_492.out
           have hnc53 := NB492_499.out
           have hnb54 := NB499_506.out
           have hnc54 := NB506_499.out
           have hcz55_0 : wr.cell? ⟨gb499, 0, none⟩ = some (.slice Ao13 t493.length co13) := (blk_cell BK499.out 0).trans rfl
           have hcz55_1 : wr.cell? ⟨gb499, 1, none⟩ = some (.int .i64 t496) := (blk_cell BK499.out 1).trans rfl
           have hcz55_2 : wr.cell? ⟨gb499, 2, none⟩ = some (.int .i64 t497) := (blk_cell BK499.out 2).trans rfl
           have hfz55_0 := blk_frozen BK499.out 0
           have hfz55_1 := blk_frozen BK499.out 1
           have hfz55_2 := blk_frozen BK499.out 2
           go_wp2_with (first | ((with_reducible refine gate_callee (f := 28) rfl ?_); refine goesL_ (some 55) rfl rfl Try.func28 (by kernel_rfl) rfl #[.agg #[.slice Ao13 t493.length co13, .int .i64 t496, .int .i64 t497]] rfl (by (try simp only [List.map_toArray, List.map_cons, List.map_nil]); first | done | rfl | (simp only [List.length_drop, List.length_take]; rfl)) ?_; (with_reducible refine (impl_MachTurn.calls k3 _ _ t493 t496 t497 t508 t511 t512 true _ ?side1 ?side2 A50.out).mono ?_); (case side1 => repeat (first | exact (Kd.R_reads' HO_500000.out).2.2 | (with_reducible refine Kd.C_alloc ?_ _) | (with_reducible refine Kd.C_drewN ?_ _) | (with_reducible refine Kd.C_drew ?_))); (case side2 => exact (Kd.R_reads' HO_500000.out).2.1); rintro e w56 ⟨v509, rfl, ho0, hb⟩; refine ⟨_, rfl, ?_⟩; have n0_ := Aside0.mk (Kd.R_elder' (by (with_reducible repeat (first | apply Kd.R_alloc | apply Kd.R_drewN | apply Kd.R_drew)); exact HO_493000.out) (Kd.R_base ho0) hb); have n1_ := Aside0.mk (Kd.R_elder' (by (with_reducible repeat (first | apply Kd.R_alloc | apply Kd.R_drewN | apply Kd.R_drew)); exact HO_500000.out) (Kd.R_base ho0) hb); have n2_ := Aside0.mk (Kd.R_elder' (by (with_reducible repeat (first | apply Kd.R_alloc | apply Kd.R_drewN | apply Kd.R_drew)); exact HO_507000.out) (Kd.R_base ho0) hb); have n3_ := Aside0.mk (Kd.R_lower (Kd.R_new' (Kd.R_new' (Kd.R_new' ho0 (Kd.R_lt (by (with_reducible repeat (first | apply Kd.R_alloc | apply Kd.R_drewN | apply Kd.R_drew)); exact HO_493000.out))) (Kd.R_lt (by (with_reducible repeat (first | apply Kd.R_alloc | apply Kd.R_drewN | apply Kd.R_drew)); exact HO_500000.out))) (Kd.R_lt (by (with_reducible repeat (first | apply Kd.R_alloc | apply Kd.R_drewN | apply Kd.R_drew)); exact HO_507000.out))) (below_size (by repeat (first | (with_reducible first | exact HB.out | apply below_alloc | apply pw_below_drewN | apply below_drew1 | refine below_set ?_ GE492.out | refine below_set ?_ GE499.out | refine below_set ?_ GE506.out) | exact HB.out)))); have n4_ := Aside0.mk (blk_below (g := gb492) (o := .cells #[.slice Ao9 t487.length co9, .int .i64 t490, .int .i64 t491] 27 (0, 0)) (by (with_reducible repeat (first | refine blk_drewN ?_ _ | refine blk_drew ?_ | refine blk_alloc ?_ _)); exact BK492.out) hb); have n5_ := Aside0.mk (blk_below (g := gb499) (o := .cells #[.slice Ao13 t493.length co13, .int .i64 t496, .int .i64 t497] 27 (0, 0)) (by (with_reducible repeat (first | refine blk_drewN ?_ _ | refine blk_drew ?_ | refine blk_alloc ?_ _)); exact BK499.out) hb); have n6_ := Aside0.mk (blk_below (g := gb506) (o := .cells #[.slice Ao19 t500.length co19, .int .i64 t503, .int .i64 t504] 27 (0, 0)) (by (with_reducible repeat (first | refine blk_drewN ?_ _ | refine blk_drew ?_ | refine blk_alloc ?_ _)); exact BK506.out) hb); have n7_ := Aside0.mk (below_step (by repeat (first | (with_reducible first | exact HB.out | apply below_alloc | apply pw_below_drewN | apply below_drew1 | refine below_set ?_ GE492.out | refine below_set ?_ GE499.out | refine below_set ?_ GE506.out) | exact HB.out)) hb); clear HO_493000; clear HO_500000; clear HO_507000; clear BK492; clear BK499; clear BK506; clear HB; have HO_493000 := n0_; have HO_500000 := n1_; have HO_507000 := n2_; have HO510 := n3_; have BK492 := n4_; have BK499 := n5_; have BK506 := n6_; have HB := n7_; clear n0_ n1_ n2_ n3_ n4_ n5_ n6_ n7_; (try clear hb); (try clear hb2); (try clear hk); (try clear hi); (try clear ho0)) | ((with_reducible refine gate_dst (N := 10) rfl ?_); refine box_event ?hg (N := 10) ?hd (cs := #[.slice none 0 0, .int .i64 0, .int .i64 0]) (t := 27) ?hr ?_; (case hd => rfl); (case hg => rfl); (case hr => first | (go_simp; done) | (go_simp; rfl)); intro gb514 hg w57 hbox hb; have n0_ := Aside0.mk (Kd.R_below (by (with_reducible repeat (first | apply Kd.R_alloc | apply Kd.R_drewN | apply Kd.R_drew)); exact HO_493000.out) hb); have n1_ := Aside0.mk (Kd.R_below (by (with_reducible repeat (first | apply Kd.R_alloc | apply Kd.R_drewN | apply Kd.R_drew)); exact HO_500000.out) hb); have n2_ := Aside0.mk (Kd.R_below (by (with_reducible repeat (first | apply Kd.R_alloc | apply Kd.R_drewN | apply Kd.R_drew)); exact HO_507000.out) hb); have n3_ := Aside0.mk (Kd.R_below (by (with_reducible repeat (first | apply Kd.R_alloc | apply Kd.R_drewN | apply Kd.R_drew)); exact HO510.out) hb); have n4_ := Aside0.mk (blk_below (g := gb492) (o := .cells #[.slice Ao9 t487.length co9, .int .i64 t490, .int .i64 t491] 27 (0, 0)) (by (with_reducible repeat (first | refine blk_drewN ?_ _ | refine blk_drew ?_ | refine blk_alloc ?_ _)); exact BK492.out) hb); have n5_ := Aside0.mk (blk_below (g := gb499) (o := .cells #[.slice Ao13 t493.length co13, .int .i64 t496, .int .i64 t497] 27 (0, 0)) (by (with_reducible repeat (first | refine blk_drewN ?_ _ | refine blk_drew ?_ | refine blk_alloc ?_ _)); exact BK499.out) hb); have n6_ := Aside0.mk (blk_below (g := gb506) (o := .cells #[.slice Ao19 t500.length co19, .int .i64 t503, .int .i64 t504] 27 (0, 0)) (by (with_reducible repeat (first | refine blk_drewN ?_ _ | refine blk_drew ?_ | refine blk_alloc ?_ _)); exact BK506.out) hb); have n7_ := Aside0.mk (below_step (by repeat (first | (with_reducible first | exact HB.out | apply below_alloc | apply pw_below_drewN | apply below_drew1 | refine below_set ?_ GE492.out | refine below_set ?_ GE499.out | refine below_set ?_ GE506.out) | exact HB.out)) hb); have n8_ := Aside0.mk (hbox); have n9_ := Aside0.mk ((by rw [hg]; exact (below_size (by repeat (first | (with_reducible first | exact HB.out | apply below_alloc | apply pw_below_drewN | apply below_drew1 | refine below_set ?_ GE492.out | refine below_set ?_ GE499.out | refine below_set ?_ GE506.out) | exact HB.out))) : w.heap.size ≤ gb514)); have n10_ := Aside0.mk ((by rw [hg]; exact (below_size (by repeat (first | (with_reducible first | exact HB.out | apply below_alloc | apply pw_below_drewN | apply below_drew1 | refine below_set ?_ GE492.out | refine below_set ?_ GE499.out | refine below_set ?_ GE506.out) | exact HB.out))) : w.heap.size ≤ gb514)); have n11_ := Aside0.mk ((by rw [hg]; exact Nat.ne_of_lt (blk_lt (g := gb492) (o := .cells #[.slice Ao9 t487.length co9, .int .i64 t490, .int .i64 t491] 27 (0, 0)) (by (with_reducible repeat (first | refine blk_drewN ?_ _ | refine blk_drew ?_ | refine blk_alloc ?_ _)); exact BK492.out)) : gb492 ≠ gb514)); have n12_ := Aside0.mk ((by rw [hg]; exact Nat.ne_of_gt (blk_lt (g := gb492) (o := .cells #[.slice Ao9 t487.length co9, .int .i64 t490, .int .i64 t491] 27 (0, 0)) (by (with_reducible repeat (first | refine blk_drewN ?_ _ | refine blk_drew ?_ | refine blk_alloc ?_ _)); exact BK492.out)) : gb514 ≠ gb492)); have n13_ := Aside0.mk ((by rw [hg]; exact Nat.ne_of_lt (blk_lt (g := gb499) (o := .cells #[.slice Ao13 t493.length co13, .int .i64 t496, .int .i64 t497] 27 (0, 0)) (by (with_reducible repeat (first | refine blk_drewN ?_ _ | refine blk_drew ?_ | refine blk_alloc ?_ _)); exact BK499.out)) : gb499 ≠ gb514)); have n14_ := Aside0.mk ((by rw [hg]; exact Nat.ne_of_gt (blk_lt (g := gb499) (o := .cells #[.slice Ao13 t493.length co13, .int .i64 t496, .int .i64 t497] 27 (0, 0)) (by (with_reducible repeat (first | refine blk_drewN ?_ _ | refine blk_drew ?_ | refine blk_alloc ?_ _)); exact BK499.out)) : gb514 ≠ gb499)); have n15_ := Aside0.mk ((by rw [hg]; exact Nat.ne_of_lt (blk_lt (g := gb506) (o := .cells #[.slice Ao19 t500.length co19, .int .i64 t503, .int .i64 t504] 27 (0, 0)) (by (with_reducible repeat (first | refine blk_drewN ?_ _ | refine blk_drew ?_ | refine blk_alloc ?_ _)); exact BK506.out)) : gb506 ≠ gb514)); have n16_ := Aside0.mk ((by rw [hg]; exact Nat.ne_of_gt (blk_lt (g := gb506) (o := .cells #[.slice Ao19 t500.length co19, .int .i64 t503, .int .i64 t504] 27 (0, 0)) (by (with_reducible repeat (first | refine blk_drewN ?_ _ | refine blk_drew ?_ | refine blk_alloc ?_ _)); exact BK506.out)) : gb514 ≠ gb506)); clear HO_493000; clear HO_500000; clear HO_507000; clear HO510; clear BK492; clear BK499; clear BK506; clear HB; have HO_493000 := n0_; have HO_500000 := n1_; have HO_507000 := n2_; have HO510 := n3_; have BK492 := n4_; have BK499 := n5_; have BK506 := n6_; have HB := n7_; have BK514 := n8_; have GW514 := n9_; have GE514 := n10_; have NB492_514 := n11_; have NB514_492 := n12_; have NB499_514 := n13_; have NB514_499 := n14_; have NB506_514 := n15_; have NB514_506 := n16_; clear n0_ n1_ n2_ n3_ n4_ n5_ n6_ n7_ n8_ n9_ n10_ n11_ n12_ n13_ n14_ n15_ n16_; clear hb hbox hg; obtain ⟨Ao58, co58, eo58⟩ := Kd.R_slice HO510.out; subst eo58; have hnb59 := NB514_492.out; have hnc59 := NB492_514.out; have hnb60 := NB514_499.out; have hnc60 := NB499_514.out; have hnb61 := NB514_506.out; have hnc61 := NB506_514.out; have hcz62_0 : w57.cell? ⟨gb514, 0, none⟩ = some (.slice none 0 0) := (blk_cell BK514.out 0).trans rfl; have hcz62_1 : w57.cell? ⟨gb514, 1, none⟩ = some (.int .i64 0) := (blk_cell BK514.out 1).trans rfl; have hcz62_2 : w57.cell? ⟨gb514, 2, none⟩ = some (.int .i64 0) := (blk_cell BK514.out 2).trans rfl; have hfz62_0 := blk_frozen BK514.out 0; have hfz62_1 := blk_frozen BK514.out 1; have hfz62_2 := blk_frozen BK514.out 2; have hnb63 := NB492_506.out; have hnc63 := NB506_492.out; have hcz64_0 : w57.cell? ⟨gb492, 0, none⟩ = some (.slice Ao9 t487.length co9) := (blk_cell BK492.out 0).trans rfl; have hcz64_1 : w57.cell? ⟨gb492, 1, none⟩ = some (.int .i64 t490) := (blk_cell BK492.out 1).trans rfl; have hcz64_2 : w57.cell? ⟨gb492, 2, none⟩ = some (.int .i64 t491) := (blk_cell BK492.out 2).trans rfl; have hfz64_0 := blk_frozen BK492.out 0; have hfz64_1 := blk_frozen BK492.out 1; have hfz64_2 := blk_frozen BK492.out 2) | (go_at_call 34; (with_reducible refine (laws_sameMachine.calls k3 _ _ t508 t511 t512 _ _ t487 t490 t491 t515 _ ?side1 ?side2 ?side3 ?side4 A52.out).mono ?_); (case side1 => refine (Kd.R_reads' (e := 3) (base := w.heap.size) (ok := fun k_ => (((True ∧ some k_ ≠ (.slice Ao9 t487.length co9 : Value).ownBlock) ∧ some k_ ≠ (.slice Ao13 t493.length co13 : Value).ownBlock) ∧ some k_ ≠ (.slice Ao19 t500.length co19 : Value).ownBlock)) (n := t508.length) (c := co58) ?_).2.2; exact (by (with_reducible repeat (first | apply Kd.R_alloc | apply Kd.R_drewN | apply Kd.R_drew)); exact (Kd.R_mono (Kd.R_far (p := ⟨gb514, 2, none⟩) (Kd.R_far (p := ⟨gb514, 1, none⟩) (Kd.R_far (p := ⟨gb514, 0, none⟩) (Kd.R_types HO510.out BK514.out (by decide)) (fun _ hk => hk.2) (.slice Ao58 t508.length co58)) (fun _ hk => hk.2) (.int .i64 t511)) (fun _ hk => hk.2) (.int .i64 t512)) (fun _ h_ => h_.1)))); (case side2 => exact (Kd.R_reads' HO510.out).2.1); (case side3 => refine (Kd.R_reads' (e := 3) (base := w.heap.size) (ok := fun k_ => ((some k_ ≠ (.slice Ao13 t493.length co13 : Value).ownBlock ∧ some k_ ≠ (.slice Ao19 t500.length co19 : Value).ownBlock) ∧ some k_ ≠ (.slice Ao58 t508.length co58 : Value).ownBlock)) (n := t487.length) (c := co9) ?_).2.2; exact (by (with_reducible repeat (first | apply Kd.R_alloc | apply Kd.R_drewN | apply Kd.R_drew)); exact (Kd.R_mono (Kd.R_far (p := ⟨gb514, 2, none⟩) (Kd.R_far (p := ⟨gb514, 1, none⟩) (Kd.R_far (p := ⟨gb514, 0, none⟩) (Kd.R_types HO_493000.out BK514.out (by decide)) (fun _ hk => hk.2) (.slice Ao58 t508.length co58)) (fun _ hk => hk.2) (.int .i64 t511)) (fun _ hk => hk.2) (.int .i64 t512)) (fun _ h_ => h_.1)))); (case side4 => exact (Kd.R_reads' HO_493000.out).2.1); rintro e w65 ⟨rfl, hb⟩; have n0_ := Aside0.mk (Kd.R_below (by (with_reducible repeat (first | apply Kd.R_alloc | apply Kd.R_drewN | apply Kd.R_drew)); exact (Kd.R_mono (Kd.R_far (p := ⟨gb514, 2, none⟩) (Kd.R_far (p := ⟨gb514, 1, none⟩) (Kd.R_far (p := ⟨gb514, 0, none⟩) (Kd.R_types HO_493000.out BK514.out (by decide)) (fun _ hk => hk.2) (.slice Ao58 t508.length co58)) (fun _ hk => hk.2) (.int .i64 t511)) (fun _ hk => hk.2) (.int .i64 t512)) (fun _ h_ => h_.1))) hb); have n1_ := Aside0.mk (Kd.R_below (by (with_reducible repeat (first | apply Kd.R_alloc | apply Kd.R_drewN | apply Kd.R_drew)); exact (Kd.R_mono (Kd.R_far (p := ⟨gb514, 2, none⟩) (Kd.R_far (p := ⟨gb514, 1, none⟩) (Kd.R_far (p := ⟨gb514, 0, none⟩) (Kd.R_types HO_500000.out BK514.out (by decide)) (fun _ hk => hk.2) (.slice Ao58 t508.length co58)) (fun _ hk => hk.2) (.int .i64 t511)) (fun _ hk => hk.2) (.int .i64 t512)) (fun _ h_ => h_.1))) hb); have n2_ := Aside0.mk (Kd.R_below (by (with_reducible repeat (first | apply Kd.R_alloc | apply Kd.R_drewN | apply Kd.R_drew)); exact (Kd.R_mono (Kd.R_far (p := ⟨gb514, 2, none⟩) (Kd.R_far (p := ⟨gb514, 1, none⟩) (Kd.R_far (p := ⟨gb514, 0, none⟩) (Kd.R_types HO_507000.out BK514.out (by decide)) (fun _ hk => hk.2) (.slice Ao58 t508.length co58)) (fun _ hk => hk.2) (.int .i64 t511)) (fun _ hk => hk.2) (.int .i64 t512)) (fun _ h_ => h_.1))) hb); have n3_ := Aside0.mk (Kd.R_below (by (with_reducible repeat (first | apply Kd.R_alloc | apply Kd.R_drewN | apply Kd.R_drew)); exact (Kd.R_mono (Kd.R_far (p := ⟨gb514, 2, none⟩) (Kd.R_far (p := ⟨gb514, 1, none⟩) (Kd.R_far (p := ⟨gb514, 0, none⟩) (Kd.R_types HO510.out BK514.out (by decide)) (fun _ hk => hk.2) (.slice Ao58 t508.length co58)) (fun _ hk => hk.2) (.int .i64 t511)) (fun _ hk => hk.2) (.int .i64 t512)) (fun _ h_ => h_.1))) hb); have n4_ := Aside0.mk (blk_below (g := gb492) (o := .cells #[.slice Ao9 t487.length co9, .int .i64 t490, .int .i64 t491] 27 (0, 0)) (by (with_reducible repeat (first | refine blk_drewN ?_ _ | refine blk_drew ?_ | refine blk_alloc ?_ _)); refine blk_far ?_ NB492_514.out _; (with_reducible repeat (first | refine blk_drewN ?_ _ | refine blk_drew ?_ | refine blk_alloc ?_ _)); refine blk_far ?_ NB492_514.out _; (with_reducible repeat (first | refine blk_drewN ?_ _ | refine blk_drew ?_ | refine blk_alloc ?_ _)); refine blk_far ?_ NB492_514.out _; (with_reducible repeat (first | refine blk_drewN ?_ _ | refine blk_drew ?_ | refine blk_alloc ?_ _)); exact BK492.out) hb); have n5_ := Aside0.mk (blk_below (g := gb499) (o := .cells #[.slice Ao13 t493.length co13, .int .i64 t496, .int .i64 t497] 27 (0, 0)) (by (with_reducible repeat (first | refine blk_drewN ?_ _ | refine blk_drew ?_ | refine blk_alloc ?_ _)); refine blk_far ?_ NB499_514.out _; (with_reducible repeat (first | refine blk_drewN ?_ _ | refine blk_drew ?_ | refine blk_alloc ?_ _)); refine blk_far ?_ NB499_514.out _; (with_reducible repeat (first | refine blk_drewN ?_ _ | refine blk_drew ?_ | refine blk_alloc ?_ _)); refine blk_far ?_ NB499_514.out _; (with_reducible repeat (first | refine blk_drewN ?_ _ | refine blk_drew ?_ | refine blk_alloc ?_ _)); exact BK499.out) hb); have n6_ := Aside0.mk (blk_below (g := gb506) (o := .cells #[.slice Ao19 t500.length co19, .int .i64 t503, .int .i64 t504] 27 (0, 0)) (by (with_reducible repeat (first | refine blk_drewN ?_ _ | refine blk_drew ?_ | refine blk_alloc ?_ _)); refine blk_far ?_ NB506_514.out _; (with_reducible repeat (first | refine blk_drewN ?_ _ | refine blk_drew ?_ | refine blk_alloc ?_ _)); refine blk_far ?_ NB506_514.out _; (with_reducible repeat (first | refine blk_drewN ?_ _ | refine blk_drew ?_ | refine blk_alloc ?_ _)); refine blk_far ?_ NB506_514.out _; (with_reducible repeat (first | refine blk_drewN ?_ _ | refine blk_drew ?_ | refine blk_alloc ?_ _)); exact BK506.out) hb); have n7_ := Aside0.mk (blk_below (g := gb514) (o := .cells #[.slice Ao58 t508.length co58, .int .i64 t511, .int .i64 t512] 27 (0, 0)) (by (with_reducible repeat (first | refine blk_drewN ?_ _ | refine blk_drew ?_ | refine blk_alloc ?_ _)); refine blk_put (cs := #[.slice Ao58 t508.length co58, .int .i64 t511, .int .i64 0]) ?_ 2 _ rfl; (with_reducible repeat (first | refine blk_drewN ?_ _ | refine blk_drew ?_ | refine blk_alloc ?_ _)); refine blk_put (cs := #[.slice Ao58 t508.length co58, .int .i64 0, .int .i64 0]) ?_ 1 _ rfl; (with_reducible repeat (first | refine blk_drewN ?_ _ | refine blk_drew ?_ | refine blk_alloc ?_ _)); refine blk_put (cs := #[.slice none 0 0, .int .i64 0, .int .i64 0]) ?_ 0 _ rfl; (with_reducible repeat (first | refine blk_drewN ?_ _ | refine blk_drew ?_ | refine blk_alloc ?_ _)); exact BK514.out) hb); have n8_ := Aside0.mk (below_step (by repeat (first | (with_reducible first | exact HB.out | apply below_alloc | apply pw_below_drewN | apply below_drew1 | refine below_set ?_ GE492.out | refine below_set ?_ GE499.out | refine below_set ?_ GE506.out | refine below_set ?_ GE514.out) | exact HB.out)) hb); clear HO_493000; clear HO_500000; clear HO_507000; clear HO510; clear BK492; clear BK499; clear BK506; clear BK514; clear HB; have HO_493000 := n0_; have HO_500000 := n1_; have HO_507000 := n2_; have HO510 := n3_; have BK492 := n4_; have BK499 := n5_; have BK506 := n6_; have BK514 := n7_; have HB := n8_; clear n0_ n1_ n2_ n3_ n4_ n5_ n6_ n7_ n8_; (try clear hb); (try clear hb2); (try clear hk); (try clear hi)))
           go_ret
           exact ⟨by first | rfl | (simp [errW_none, errW_some] <;> rfl) | (simp [*, errW_none, errW_some] <;> rfl), by repeat (first | (with_reducible first | exact HB.out | apply below_alloc | apply pw_below_drewN | apply below_drew1 | refine below_set ?_ GE492.out | refine below_set ?_ GE499.out | refine below_set ?_ GE506.out | refine below_set ?_ GE514.out) | exact HB.out)⟩
          ·replace c51 := Bool.eq_false_iff.mpr c51
           subst c51
           have H1 : (some false) = some r := by rw [if_neg (show ¬ (false = true) by decide)] at H; exact H
           clear H
           have H := H1
           clear H1
           obtain rfl := Option.some.inj H
           have hnb66 := NB499_492.out
           have hnc66 := NB492_499.out
           have hnb67 := NB499_506.out
           have hnc67 := NB506_499.out
           have hcz68_0 : wr.cell? ⟨gb499, 0, none⟩ = some (.slice Ao13 t493.length co13) := (blk_cell BK499.out 0).trans rfl
           have hcz68_1 : wr.cell? ⟨gb499, 1, none⟩ = some (.int .i64 t496) := (blk_cell BK499.out 1).trans rfl
           have hcz68_2 : wr.cell? ⟨gb499, 2, none⟩ = some (.int .i64 t497) := (blk_cell BK499.out 2).trans rfl
           have hfz68_0 := blk_frozen BK499.out 0
           have hfz68_1 := blk_frozen BK499.out 1
           have hfz68_2 := blk_frozen BK499.out 2
           go_wp2_with (first | ((with_reducible refine gate_callee (f := 28) rfl ?_); refine goesL_ (some 55) rfl rfl Try.func28 (by kernel_rfl) rfl #[.agg #[.slice Ao13 t493.length co13, .int .i64 t496, .int .i64 t497]] rfl (by (try simp only [List.map_toArray, List.map_cons, List.map_nil]); first | done | rfl | (simp only [List.length_drop, List.length_take]; rfl)) ?_; (with_reducible refine (impl_MachTurn.calls k3 _ _ t493 t496 t497 t508 t511 t512 false _ ?side1 ?side2 A50.out).mono ?_); (case side1 => repeat (first | exact (Kd.R_reads' HO_500000.out).2.2 | (with_reducible refine Kd.C_alloc ?_ _) | (with_reducible refine Kd.C_drewN ?_ _) | (with_reducible refine Kd.C_drew ?_))); (case side2 => exact (Kd.R_reads' HO_500000.out).2.1); rintro e w69 ⟨v509, rfl, ho0, hb⟩; refine ⟨_, rfl, ?_⟩; have n0_ := Aside0.mk (Kd.R_elder' (by (with_reducible repeat (first | apply Kd.R_alloc | apply Kd.R_drewN | apply Kd.R_drew)); exact HO_493000.out) (Kd.R_base ho0) hb); have n1_ := Aside0.mk (Kd.R_elder' (by (with_reducible repeat (first | apply Kd.R_alloc | apply Kd.R_drewN | apply Kd.R_drew)); exact HO_500000.out) (Kd.R_base ho0) hb); have n2_ := Aside0.mk (Kd.R_elder' (by (with_reducible repeat (first | apply Kd.R_alloc | apply Kd.R_drewN | apply Kd.R_drew)); exact HO_507000.out) (Kd.R_base ho0) hb); have n3_ := Aside0.mk (Kd.R_lower (Kd.R_new' (Kd.R_new' (Kd.R_new' ho0 (Kd.R_lt (by (with_reducible repeat (first | apply Kd.R_alloc | apply Kd.R_drewN | apply Kd.R_drew)); exact HO_493000.out))) (Kd.R_lt (by (with_reducible repeat (first | apply Kd.R_alloc | apply Kd.R_drewN | apply Kd.R_drew)); exact HO_500000.out))) (Kd.R_lt (by (with_reducible repeat (first | apply Kd.R_alloc | apply Kd.R_drewN | apply Kd.R_drew)); exact HO_507000.out))) (below_size (by repeat (first | (with_reducible first | exact HB.out | apply below_alloc | apply pw_below_drewN | apply below_drew1 | refine below_set ?_ GE492.out | refine below_set ?_ GE499.out | refine below_set ?_ GE506.out) | exact HB.out)))); have n4_ := Aside0.mk (blk_below (g := gb492) (o := .cells #[.slice Ao9 t487.length co9, .int .i64 t490, .int .i64 t491] 27 (0, 0)) (by (with_reducible repeat (first | refine blk_drewN ?_ _ | refine blk_drew ?_ | refine blk_alloc ?_ _)); exact BK492.out) hb); have n5_ := Aside0.mk (blk_below (g := gb499) (o := .cells #[.slice Ao13 t493.length co13, .int .i64 t496, .int .i64 t497] 27 (0, 0)) (by (with_reducible repeat (first | refine blk_drewN ?_ _ | refine blk_drew ?_ | refine blk_alloc ?_ _)); exact BK499.out) hb); have n6_ := Aside0.mk (blk_below (g := gb506) (o := .cells #[.slice Ao19 t500.length co19, .int .i64 t503, .int .i64 t504] 27 (0, 0)) (by (with_reducible repeat (first | refine blk_drewN ?_ _ | refine blk_drew ?_ | refine blk_alloc ?_ _)); exact BK506.out) hb); have n7_ := Aside0.mk (below_step (by repeat (first | (with_reducible first | exact HB.out | apply below_alloc | apply pw_below_drewN | apply below_drew1 | refine below_set ?_ GE492.out | refine below_set ?_ GE499.out | refine below_set ?_ GE506.out) | exact HB.out)) hb); clear HO_493000; clear HO_500000; clear HO_507000; clear BK492; clear BK499; clear BK506; clear HB; have HO_493000 := n0_; have HO_500000 := n1_; have HO_507000 := n2_; have HO510 := n3_; have BK492 := n4_; have BK499 := n5_; have BK506 := n6_; have HB := n7_; clear n0_ n1_ n2_ n3_ n4_ n5_ n6_ n7_; (try clear hb); (try clear hb2); (try clear hk); (try clear hi); (try clear ho0)) | ((with_reducible refine gate_dst (N := 10) rfl ?_); refine box_event ?hg (N := 10) ?hd (cs := #[.slice none 0 0, .int .i64 0, .int .i64 0]) (t := 27) ?hr ?_; (case hd => rfl); (case hg => rfl); (case hr => first | (go_simp; done) | (go_simp; rfl)); intro gb514 hg w70 hbox hb; have n0_ := Aside0.mk (Kd.R_below (by (with_reducible repeat (first | apply Kd.R_alloc | apply Kd.R_drewN | apply Kd.R_drew)); exact HO_493000.out) hb); have n1_ := Aside0.mk (Kd.R_below (by (with_reducible repeat (first | apply Kd.R_alloc | apply Kd.R_drewN | apply Kd.R_drew)); exact HO_500000.out) hb); have n2_ := Aside0.mk (Kd.R_below (by (with_reducible repeat (first | apply Kd.R_alloc | apply Kd.R_drewN | apply Kd.R_drew)); exact HO_507000.out) hb); have n3_ := Aside0.mk (Kd.R_below (by (with_reducible repeat (first | apply Kd.R_alloc | apply Kd.R_drewN | apply Kd.R_drew)); exact HO510.out) hb); have n4_ := Aside0.mk (blk_below (g := gb492) (o := .cells #[.slice Ao9 t487.length co9, .int .i64 t490, .int .i64 t491] 27 (0, 0)) (by (with_reducible repeat (first | refine blk_drewN ?_ _ | refine blk_drew ?_ | refine blk_alloc ?_ _)); exact BK492.out) hb); have n5_ := Aside0.mk (blk_below (g := gb499) (o := .cells #[.slice Ao13 t493.length co13, .int .i64 t496, .int .i64 t497] 27 (0, 0)) (by (with_reducible repeat (first | refine blk_drewN ?_ _ | refine blk_drew ?_ | refine blk_alloc ?_ _)); exact BK499.out) hb); have n6_ := Aside0.mk (blk_below (g := gb506) (o := .cells #[.slice Ao19 t500.length co19, .int .i64 t503, .int .i64 t504] 27 (0, 0)) (by (with_reducible repeat (first | refine blk_drewN ?_ _ | refine blk_drew ?_ | refine blk_alloc ?_ _)); exact BK506.out) hb); have n7_ := Aside0.mk (below_step (by repeat (first | (with_reducible first | exact HB.out | apply below_alloc | apply pw_below_drewN | apply below_drew1 | refine below_set ?_ GE492.out | refine below_set ?_ GE499.out | refine below_set ?_ GE506.out) | exact HB.out)) hb); have n8_ := Aside0.mk (hbox); have n9_ := Aside0.mk ((by rw [hg]; exact (below_size (by repeat (first | (with_reducible first | exact HB.out | apply below_alloc | apply pw_below_drewN | apply below_drew1 | refine below_set ?_ GE492.out | refine below_set ?_ GE499.out | refine below_set ?_ GE506.out) | exact HB.out))) : w.heap.size ≤ gb514)); have n10_ := Aside0.mk ((by rw [hg]; exact (below_size (by repeat (first | (with_reducible first | exact HB.out | apply below_alloc | apply pw_below_drewN | apply below_drew1 | refine below_set ?_ GE492.out | refine below_set ?_ GE499.out | refine below_set ?_ GE506.out) | exact HB.out))) : w.heap.size ≤ gb514)); have n11_ := Aside0.mk ((by rw [hg]; exact Nat.ne_of_lt (blk_lt (g := gb492) (o := .cells #[.slice Ao9 t487.length co9, .int .i64 t490, .int .i64 t491] 27 (0, 0)) (by (with_reducible repeat (first | refine blk_drewN ?_ _ | refine blk_drew ?_ | refine blk_alloc ?_ _)); exact BK492.out)) : gb492 ≠ gb514)); have n12_ := Aside0.mk ((by rw [hg]; exact Nat.ne_of_gt (blk_lt (g := gb492) (o := .cells #[.slice Ao9 t487.length co9, .int .i64 t490, .int .i64 t491] 27 (0, 0)) (by (with_reducible repeat (first | refine blk_drewN ?_ _ | refine blk_drew ?_ | refine blk_alloc ?_ _)); exact BK492.out)) : gb514 ≠ gb492)); have n13_ := Aside0.mk ((by rw [hg]; exact Nat.ne_of_lt (blk_lt (g := gb499) (o := .cells #[.slice Ao13 t493.length co13, .int .i64 t496, .int .i64 t497] 27 (0, 0)) (by (with_reducible repeat (first | refine blk_drewN ?_ _ | refine blk_drew ?_ | refine blk_alloc ?_ _)); exact BK499.out)) : gb499 ≠ gb514)); have n14_ := Aside0.mk ((by rw [hg]; exact Nat.ne_of_gt (blk_lt (g := gb499) (o := .cells #[.slice Ao13 t493.length co13, .int .i64 t496, .int .i64 t497] 27 (0, 0)) (by (with_reducible repeat (first | refine blk_drewN ?_ _ | refine blk_drew ?_ | refine blk_alloc ?_ _)); exact BK499.out)) : gb514 ≠ gb499)); have n15_ := Aside0.mk ((by rw [hg]; exact Nat.ne_of_lt (blk_lt (g := gb506) (o := .cells #[.slice Ao19 t500.length co19, .int .i64 t503, .int .i64 t504] 27 (0, 0)) (by (with_reducible repeat (first | refine blk_drewN ?_ _ | refine blk_drew ?_ | refine blk_alloc ?_ _)); exact BK506.out)) : gb506 ≠ gb514)); have n16_ := Aside0.mk ((by rw [hg]; exact Nat.ne_of_gt (blk_lt (g := gb506) (o := .cells #[.slice Ao19 t500.length co19, .int .i64 t503, .int .i64 t504] 27 (0, 0)) (by (with_reducible repeat (first | refine blk_drewN ?_ _ | refine blk_drew ?_ | refine blk_alloc ?_ _)); exact BK506.out)) : gb514 ≠ gb506)); clear HO_493000; clear HO_500000; clear HO_507000; clear HO510; clear BK492; clear BK499; clear BK506; clear HB; have HO_493000 := n0_; have HO_500000 := n1_; have HO_507000 := n2_; have HO510 := n3_; have BK492 := n4_; have BK499 := n5_; have BK506 := n6_; have HB := n7_; have BK514 := n8_; have GW514 := n9_; have GE514 := n10_; have NB492_514 := n11_; have NB514_492 := n12_; have NB499_514 := n13_; have NB514_499 := n14_; have NB506_514 := n15_; have NB514_506 := n16_; clear n0_ n1_ n2_ n3_ n4_ n5_ n6_ n7_ n8_ n9_ n10_ n11_ n12_ n13_ n14_ n15_ n16_; clear hb hbox hg; obtain ⟨Ao71, co71, eo71⟩ := Kd.R_slice HO510.out; subst eo71; have hnb72 := NB514_492.out; have hnc72 := NB492_514.out; have hnb73 := NB514_499.out; have hnc73 := NB499_514.out; have hnb74 := NB514_506.out; have hnc74 := NB506_514.out; have hcz75_0 : w70.cell? ⟨gb514, 0, none⟩ = some (.slice none 0 0) := (blk_cell BK514.out 0).trans rfl; have hcz75_1 : w70.cell? ⟨gb514, 1, none⟩ = some (.int .i64 0) := (blk_cell BK514.out 1).trans rfl; have hcz75_2 : w70.cell? ⟨gb514, 2, none⟩ = some (.int .i64 0) := (blk_cell BK514.out 2).trans rfl; have hfz75_0 := blk_frozen BK514.out 0; have hfz75_1 := blk_frozen BK514.out 1; have hfz75_2 := blk_frozen BK514.out 2))
           go_ret
           exact ⟨by first | rfl | (simp [errW_none, errW_some] <;> rfl) | (simp [*, errW_none, errW_some] <;> rfl), by repeat (first | (with_reducible first | exact HB.out | apply below_alloc | apply pw_below_drewN | apply below_drew1 | refine below_set ?_ GE492.out | refine below_set ?_ GE499.out | refine below_set ?_ GE506.out | refine below_set ?_ GE514.out) | exact HB.out)⟩

/-- THE ONE PURE STATEMENT of laws_FnMachTurn: yours. -/
def laws_FnMachTurn.Pure : Prop := ∀ (l0 : List Int), l0.length ≤ maxLen → l0.length * 1 ≤ 140737488351232 → (∀ x ∈ l0, (Lit.int .u8 x).wf = true) → ∃ k, laws_FnMachTurn.f k l0 = some true
theorem laws_FnMachTurn.walk (P : laws_FnMachTurn.Pure) (a0 : Option Addr) (len0 cap0 : Nat) (z0 : List Int) (w : World) (w0 : (a0 = none ∧ len0 = 0 ∧ cap0 = 0 ∧ z0 = []) ∨ ∃ x, a0 = some x ∧ len0 ≤ cap0 ∧ cap0 ≤ maxLen ∧ z0.length = cap0 ∧ (∀ i, i < z0.length → w.cell? (x.add i) = some (.int .u8 (z0.getD i 0))) ∧ ∀ n ∈ z0, (Lit.int .u8 n).wf = true) (y0 : len0 * 1 ≤ 140737488351232) :
  Calls Try.prog 11 #[.slice a0 len0 cap0] w fun e w' => e = .returned (.bool true) ∧ Below w.heap.size w w' := by
 obtain ⟨l0, rfl, hr0, hm0, hw0, hc0⟩ := ReadsInt.ofRowC w0
 obtain ⟨k, h⟩ := P l0 hm0 y0 hw0
 refine (laws_FnMachTurn.calls k _ _ l0 true w (Kd.C_of_reads (d := (0 : Int)) (h1 := fun _ => rfl) hr0) hc0 h).mono ?_
 rintro e w' ⟨rfl, hd⟩
 exact ⟨rfl, hd⟩

end Go.Proofs.Ytdbkpmhdjdebhaa.G
