-- Made by gprint.py (the kit's print with contracts of this session's own among its functions).
import Derived.Test.YtdbkpmhdjdebhaaG0
import Derived.Test.YtdbkpmhdjdebhaaG1
import Derived.Test.YtdbkpmhdjdebhaaG3
import Derived.Test.YtdbkpmhdjdebhaaG21
import Derived.Test.YtdbkpmhdjdebhaaG22
import Derived.Test.YtdbkpmhdjdebhaaG23
namespace Go.Proofs.Ytdbkpmhdjdebhaa.G
open Go.RowKit Go.Proofs.YtdbkpmhdjdebhaaW.PrintWords Go.Proofs.YtdbkpmhdjdebhaaW.PrintLast Go.Proofs.YtdbkpmhdjdebhaaW.PrintMore
attribute [local go_sem] max2_int min2_int max_two min_two max_three min_three max_four min_four   -- for this text's walks alone
set_option linter.unusedVariables false
set_option linter.unusedSimpArgs false

/-! ### laws_FnExactMachTurn: function 9 -/
mutual
def laws_FnExactMachTurn.j0 : Nat → Bool → Bool → Bool → List Int → Int → Int → List Int → Int → Int → List Int → Int → Int → List Int → Int → Int → Option (Bool)
  | 0, _, _, _, _, _, _, _, _, _, _, _, _, _, _, _ => none
  | k + 1, x5, x8, x40, x393000, x393001, x393002, x406000, x406001, x406002, x412000, x412001, x412002, x419000, x419001, x419002 => if x40 = true then (some false) else ((laws_toMachine.f k x393000 x393001 x393002).bind fun bt420 => ((laws_eqMachine.f k x412000 x412001 x412002 bt420.1 bt420.2.1 bt420.2.2).bind fun t425 => (if t425 = true then ((laws_markMachine.f k x412000 x412001 x412002 1).bind fun bt426 => (if bt426.1 < 0 then (laws_FnExactMachTurn.j1 k x5 true x393000 x393001 x393002 x406000 x406001 x406002 x419000 x419001 x419002) else ((laws_eqMachine.f k x419000 x419001 x419002 x406000 x406001 x406002).bind fun t428 => (if t428 = true then (laws_FnExactMachTurn.j1 k x5 (x8 != x5) x393000 x393001 x393002 x406000 x406001 x406002 x419000 x419001 x419002) else (laws_FnExactMachTurn.j1 k x5 true x393000 x393001 x393002 x406000 x406001 x406002 x419000 x419001 x419002))))) else (some false))))
def laws_FnExactMachTurn.j1 : Nat → Bool → Bool → List Int → Int → Int → List Int → Int → Int → List Int → Int → Int → Option (Bool)
  | 0, _, _, _, _, _, _, _, _, _, _, _ => none
  | k + 1, x5, x61, x393000, x393001, x393002, x406000, x406001, x406002, x419000, x419001, x419002 => if x61 = true then (some false) else ((laws_markMachine.f k x419000 x419001 x419002 1).bind fun bt429 => ((laws_heldMachine.f k bt429.2 x419001 x419002 1).bind fun t431 => (if t431 < 0 then (some false) else (if t431 = bt429.1 then ((laws_toMachine.f k x393000 x393001 x393002).bind fun bt432 => ((impl_MachTurn.f k bt432.1 bt432.2.1 bt432.2.2).bind fun bt437 => ((laws_eqMachine.f k bt437.1 bt437.2.1 bt437.2.2.1 x406000 x406001 x406002).bind fun t444 => (if t444 = true then (laws_FnExactMachTurn.j2 k bt429.1 (bt437.2.2.2 != x5) bt429.2 x419001 x419002) else (laws_FnExactMachTurn.j2 k bt429.1 true bt429.2 x419001 x419002))))) else (some false)))))
def laws_FnExactMachTurn.j2 : Nat → Int → Bool → List Int → Int → Int → Option (Bool)
  | 0, _, _, _, _, _ => none
  | k + 1, x10, x87, x419000, x419001, x419002 => if x87 = true then (some false) else ((laws_heldMachine.f k x419000 x419001 x419002 1).bind fun t445 => (if t445 < 0 then (some false) else (if t445 = x10 then (some true) else (some false))))
end
def laws_FnExactMachTurn.f (k : Nat) (l0_0 : List Int) (a0_1 : Int) (a0_2 : Int) : Option (Bool) := (laws_szMachine.f l0_0 a0_1 a0_2 1048576).bind fun t393 => (if t393 < 0 then (some true) else ((laws_toMachine.f k l0_0 a0_1 a0_2).bind fun bt394 => ((spec_MachTurn.f k bt394.1 bt394.2.1 bt394.2.2).bind fun bt399 => ((laws_toMachine.f k l0_0 a0_1 a0_2).bind fun bt406 => ((impl_MachTurn.f k bt406.1 bt406.2.1 bt406.2.2).bind fun bt412 => ((laws_eqMachine.f k bt412.1 bt412.2.1 bt412.2.2.1 bt399.1 bt399.2.1 bt399.2.2.1).bind fun t419 => (if t419 = true then (laws_FnExactMachTurn.j0 k bt399.2.2.2 bt412.2.2.2 (bt412.2.2.2 != bt399.2.2.2) l0_0 a0_1 a0_2 bt399.1 bt399.2.1 bt399.2.2.1 bt406.1 bt406.2.1 bt406.2.2 bt412.1 bt412.2.1 bt412.2.2.1) else (laws_FnExactMachTurn.j0 k bt399.2.2.2 bt412.2.2.2 true l0_0 a0_1 a0_2 bt399.1 bt399.2.1 bt399.2.2.1 bt406.1 bt406.2.1 bt406.2.2 bt412.1 bt412.2.1 bt412.2.2.1))))))))
theorem laws_FnExactMachTurn.mono_l : ∀ k, (∀ y0 y1 y2 y3 y4 y5 y6 y7 y8 y9 y10 y11 y12 y13 y14, LeO (laws_FnExactMachTurn.j0 k y0 y1 y2 y3 y4 y5 y6 y7 y8 y9 y10 y11 y12 y13 y14) (laws_FnExactMachTurn.j0 (k + 1) y0 y1 y2 y3 y4 y5 y6 y7 y8 y9 y10 y11 y12 y13 y14)) ∧ (∀ y0 y1 y2 y3 y4 y5 y6 y7 y8 y9 y10, LeO (laws_FnExactMachTurn.j1 k y0 y1 y2 y3 y4 y5 y6 y7 y8 y9 y10) (laws_FnExactMachTurn.j1 (k + 1) y0 y1 y2 y3 y4 y5 y6 y7 y8 y9 y10)) ∧ (∀ y0 y1 y2 y3 y4, LeO (laws_FnExactMachTurn.j2 k y0 y1 y2 y3 y4) (laws_FnExactMachTurn.j2 (k + 1) y0 y1 y2 y3 y4))
  | 0 => ⟨fun _ _ _ _ _ _ _ _ _ _ _ _ _ _ _ r h => by simp [laws_FnExactMachTurn.j0] at h, fun _ _ _ _ _ _ _ _ _ _ _ r h => by simp [laws_FnExactMachTurn.j1] at h, fun _ _ _ _ _ r h => by simp [laws_FnExactMachTurn.j2] at h⟩
  | k + 1 => by
    obtain ⟨ih0, ih1, ih2⟩ := laws_FnExactMachTurn.mono_l k
    refine ⟨?_, ?_, ?_⟩
    · intro y0 y1 y2 y3 y4 y5 y6 y7 y8 y9 y10 y11 y12 y13 y14
      unfold laws_FnExactMachTurn.j0
      repeat' first
      | (with_reducible exact ih0 _ _ _ _ _ _ _ _ _ _ _ _ _ _ _)
      | (with_reducible exact ih1 _ _ _ _ _ _ _ _ _ _ _)
      | (with_reducible exact ih2 _ _ _ _ _)
      | (with_reducible exact impl_MachTurn.mono _ _ _ _)
      | (with_reducible exact laws_eqMachine.mono _ _ _ _ _ _ _)
      | (with_reducible exact laws_heldMachine.mono _ _ _ _ _)
      | (with_reducible exact laws_markMachine.mono _ _ _ _ _)
      | (with_reducible exact laws_toMachine.mono _ _ _ _)
      | (with_reducible exact spec_MachTurn.mono _ _ _ _)
      | (with_reducible exact LeO.refl _)
      | (with_reducible exact LeO.none _)
      | (with_reducible refine LeO.ite ?_ ?_)
      | (with_reducible refine LeO.bind ?_ (fun _ => ?_))
      | exact ih0 _ _ _ _ _ _ _ _ _ _ _ _ _ _ _
      | exact ih1 _ _ _ _ _ _ _ _ _ _ _
      | exact ih2 _ _ _ _ _
      | exact impl_MachTurn.mono _ _ _ _
      | exact laws_eqMachine.mono _ _ _ _ _ _ _
      | exact laws_heldMachine.mono _ _ _ _ _
      | exact laws_markMachine.mono _ _ _ _ _
      | exact laws_toMachine.mono _ _ _ _
      | exact spec_MachTurn.mono _ _ _ _
      | exact LeO.none _
      | refine LeO.ite ?_ ?_
      | refine LeO.bind ?_ (fun _ => ?_)
    · intro y0 y1 y2 y3 y4 y5 y6 y7 y8 y9 y10
      unfold laws_FnExactMachTurn.j1
      repeat' first
      | (with_reducible exact ih0 _ _ _ _ _ _ _ _ _ _ _ _ _ _ _)
      | (with_reducible exact ih1 _ _ _ _ _ _ _ _ _ _ _)
      | (with_reducible exact ih2 _ _ _ _ _)
      | (with_reducible exact impl_MachTurn.mono _ _ _ _)
      | (with_reducible exact laws_eqMachine.mono _ _ _ _ _ _ _)
      | (with_reducible exact laws_heldMachine.mono _ _ _ _ _)
      | (with_reducible exact laws_markMachine.mono _ _ _ _ _)
      | (with_reducible exact laws_toMachine.mono _ _ _ _)
      | (with_reducible exact spec_MachTurn.mono _ _ _ _)
      | (with_reducible exact LeO.refl _)
      | (with_reducible exact LeO.none _)
      | (with_reducible refine LeO.ite ?_ ?_)
      | (with_reducible refine LeO.bind ?_ (fun _ => ?_))
      | exact ih0 _ _ _ _ _ _ _ _ _ _ _ _ _ _ _
      | exact ih1 _ _ _ _ _ _ _ _ _ _ _
      | exact ih2 _ _ _ _ _
      | exact impl_MachTurn.mono _ _ _ _
      | exact laws_eqMachine.mono _ _ _ _ _ _ _
      | exact laws_heldMachine.mono _ _ _ _ _
      | exact laws_markMachine.mono _ _ _ _ _
      | exact laws_toMachine.mono _ _ _ _
      | exact spec_MachTurn.mono _ _ _ _
      | exact LeO.none _
      | refine LeO.ite ?_ ?_
      | refine LeO.bind ?_ (fun _ => ?_)
    · intro y0 y1 y2 y3 y4
      unfold laws_FnExactMachTurn.j2
      repeat' first
      | (with_reducible exact ih0 _ _ _ _ _ _ _ _ _ _ _ _ _ _ _)
      | (with_reducible exact ih1 _ _ _ _ _ _ _ _ _ _ _)
      | (with_reducible exact ih2 _ _ _ _ _)
      | (with_reducible exact impl_MachTurn.mono _ _ _ _)
      | (with_reducible exact laws_eqMachine.mono _ _ _ _ _ _ _)
      | (with_reducible exact laws_heldMachine.mono _ _ _ _ _)
      | (with_reducible exact laws_markMachine.mono _ _ _ _ _)
      | (with_reducible exact laws_toMachine.mono _ _ _ _)
      | (with_reducible exact spec_MachTurn.mono _ _ _ _)
      | (with_reducible exact LeO.refl _)
      | (with_reducible exact LeO.none _)
      | (with_reducible refine LeO.ite ?_ ?_)
      | (with_reducible refine LeO.bind ?_ (fun _ => ?_))
      | exact ih0 _ _ _ _ _ _ _ _ _ _ _ _ _ _ _
      | exact ih1 _ _ _ _ _ _ _ _ _ _ _
      | exact ih2 _ _ _ _ _
      | exact impl_MachTurn.mono _ _ _ _
      | exact laws_eqMachine.mono _ _ _ _ _ _ _
      | exact laws_heldMachine.mono _ _ _ _ _
      | exact laws_markMachine.mono _ _ _ _ _
      | exact laws_toMachine.mono _ _ _ _
      | exact spec_MachTurn.mono _ _ _ _
      | exact LeO.none _
      | refine LeO.ite ?_ ?_
      | refine LeO.bind ?_ (fun _ => ?_)
theorem laws_FnExactMachTurn.mono : ∀ a0 a1 a2 k, LeO (laws_FnExactMachTurn.f k a0 a1 a2) (laws_FnExactMachTurn.f (k + 1) a0 a1 a2) := by
  intro a0 a1 a2 k
  obtain ⟨ih0, ih1, ih2⟩ := laws_FnExactMachTurn.mono_l k
  unfold laws_FnExactMachTurn.f
  repeat' first
      | (with_reducible exact ih0 _ _ _ _ _ _ _ _ _ _ _ _ _ _ _)
      | (with_reducible exact ih1 _ _ _ _ _ _ _ _ _ _ _)
      | (with_reducible exact ih2 _ _ _ _ _)
      | (with_reducible exact impl_MachTurn.mono _ _ _ _)
      | (with_reducible exact laws_eqMachine.mono _ _ _ _ _ _ _)
      | (with_reducible exact laws_heldMachine.mono _ _ _ _ _)
      | (with_reducible exact laws_markMachine.mono _ _ _ _ _)
      | (with_reducible exact laws_toMachine.mono _ _ _ _)
      | (with_reducible exact spec_MachTurn.mono _ _ _ _)
      | (with_reducible exact LeO.refl _)
      | (with_reducible exact LeO.none _)
      | (with_reducible refine LeO.ite ?_ ?_)
      | (with_reducible refine LeO.bind ?_ (fun _ => ?_))
      | exact ih0 _ _ _ _ _ _ _ _ _ _ _ _ _ _ _
      | exact ih1 _ _ _ _ _ _ _ _ _ _ _
      | exact ih2 _ _ _ _ _
      | exact impl_MachTurn.mono _ _ _ _
      | exact laws_eqMachine.mono _ _ _ _ _ _ _
      | exact laws_heldMachine.mono _ _ _ _ _
      | exact laws_markMachine.mono _ _ _ _ _
      | exact laws_toMachine.mono _ _ _ _
      | exact spec_MachTurn.mono _ _ _ _
      | exact LeO.none _
      | refine LeO.ite ?_ ?_
      | refine LeO.bind ?_ (fun _ => ?_)
set_option maxHeartbeats 8000000 in
set_option maxRecDepth 100000 in
theorem laws_FnExactMachTurn.calls (k : Nat) (A0_0 : Option Addr) (c0_0 : Nat) (l0_0 : List Int) (a0_1 : Int) (a0_2 : Int) (r : Bool) (w : World) (hr0_0 : Kd.C (Kd.int .i64) w A0_0 l0_0.length l0_0) (hc0_0 : l0_0.length ≤ c0_0) (h : laws_FnExactMachTurn.f k l0_0 a0_1 a0_2 = some r) :
    Calls Try.prog 9 #[.agg #[.slice A0_0 l0_0.length c0_0, .int .i64 a0_1, .int .i64 a0_2]] w fun e w' => e = .returned (.bool r) ∧ Below w.heap.size w w' := by
  have hu24 := Try.underlying24
  have hu27 := Try.underlying27
  have HR0_0 := Aside0.mk hr0_0
  have HC0_0 := Aside0.mk hc0_0
  clear hr0_0 hc0_0
  have HB := Aside0.mk (Below.refl w.heap.size w)
  have H : ((laws_szMachine.f l0_0 a0_1 a0_2 1048576).bind fun t393 => (if t393 < 0 then (some true) else ((laws_toMachine.f k l0_0 a0_1 a0_2).bind fun bt394 => ((spec_MachTurn.f k bt394.1 bt394.2.1 bt394.2.2).bind fun bt399 => ((laws_toMachine.f k l0_0 a0_1 a0_2).bind fun bt406 => ((impl_MachTurn.f k bt406.1 bt406.2.1 bt406.2.2).bind fun bt412 => ((laws_eqMachine.f k bt412.1 bt412.2.1 bt412.2.2.1 bt399.1 bt399.2.1 bt399.2.2.1).bind fun t419 => (if t419 = true then (laws_FnExactMachTurn.j0 k bt399.2.2.2 bt412.2.2.2 (bt412.2.2.2 != bt399.2.2.2) l0_0 a0_1 a0_2 bt399.1 bt399.2.1 bt399.2.2.1 bt406.1 bt406.2.1 bt406.2.2 bt412.1 bt412.2.1 bt412.2.2.1) else (laws_FnExactMachTurn.j0 k bt399.2.2.2 bt412.2.2.2 true l0_0 a0_1 a0_2 bt399.1 bt399.2.1 bt399.2.2.1 bt406.1 bt406.2.1 bt406.2.2 bt412.1 bt412.2.1 bt412.2.2.1))))))))) = some r := h
  clear h
  replace H := Option.bind_eq_some_iff.mp H
  obtain ⟨t393, A20, H⟩ := H
  replace H : (if t393 < 0 then (some true) else ((laws_toMachine.f k l0_0 a0_1 a0_2).bind fun bt394 => ((spec_MachTurn.f k bt394.1 bt394.2.1 bt394.2.2).bind fun bt399 => ((laws_toMachine.f k l0_0 a0_1 a0_2).bind fun bt406 => ((impl_MachTurn.f k bt406.1 bt406.2.1 bt406.2.2).bind fun bt412 => ((laws_eqMachine.f k bt412.1 bt412.2.1 bt412.2.2.1 bt399.1 bt399.2.1 bt399.2.2.1).bind fun t419 => (if t419 = true then (laws_FnExactMachTurn.j0 k bt399.2.2.2 bt412.2.2.2 (bt412.2.2.2 != bt399.2.2.2) l0_0 a0_1 a0_2 bt399.1 bt399.2.1 bt399.2.2.1 bt406.1 bt406.2.1 bt406.2.2 bt412.1 bt412.2.1 bt412.2.2.1) else (laws_FnExactMachTurn.j0 k bt399.2.2.2 bt412.2.2.2 true l0_0 a0_1 a0_2 bt399.1 bt399.2.1 bt399.2.2.1 bt406.1 bt406.2.1 bt406.2.2 bt412.1 bt412.2.1 bt412.2.2.1)))))))) = some r := H
  have A2 := Aside0.mk A20
  clear A20
  by_cases c3 : t393 < 0
  · rw [if_pos c3] at H
    have c3b0 : decide (t393 < 0) = true := decide_eq_true c3
    clear c3
    obtain rfl := Option.some.inj H
    go_enter Try.func9, Try.ntmps9
    go_wp2_with (first | ((with_reducible refine gate_dst (N := 1) rfl ?_); refine box_event ?hg (N := 1) ?hd (cs := #[.slice A0_0 l0_0.length c0_0, .int .i64 a0_1, .int .i64 a0_2]) (t := 24) ?hr ?_; (case hd => rfl); (case hg => rfl); (case hr => first | (go_simp; done) | (go_simp; rfl)); intro gb392 hg w4 hbox hb; have n0_ := Aside0.mk (below_step (by repeat (first | (with_reducible first | exact HB.out | apply below_alloc | apply pw_below_drewN | apply below_drew1) | exact HB.out)) hb); have n1_ := Aside0.mk (hbox); have n2_ := Aside0.mk ((by rw [hg]; exact (below_size (by repeat (first | (with_reducible first | exact HB.out | apply below_alloc | apply pw_below_drewN | apply below_drew1) | exact HB.out))) : w.heap.size ≤ gb392)); have n3_ := Aside0.mk ((by rw [hg]; exact (below_size (by repeat (first | (with_reducible first | exact HB.out | apply below_alloc | apply pw_below_drewN | apply below_drew1) | exact HB.out))) : w.heap.size ≤ gb392)); clear HB; have HB := n0_; have BK392 := n1_; have GW392 := n2_; have GE392 := n3_; clear n0_ n1_ n2_ n3_; clear hb hbox hg; have hcz5_0 : w4.cell? ⟨gb392, 0, none⟩ = some (.slice A0_0 l0_0.length c0_0) := (blk_cell BK392.out 0).trans rfl; have hcz5_1 : w4.cell? ⟨gb392, 1, none⟩ = some (.int .i64 a0_1) := (blk_cell BK392.out 1).trans rfl; have hcz5_2 : w4.cell? ⟨gb392, 2, none⟩ = some (.int .i64 a0_2) := (blk_cell BK392.out 2).trans rfl; have hfz5_0 := blk_frozen BK392.out 0; have hfz5_1 := blk_frozen BK392.out 1; have hfz5_2 := blk_frozen BK392.out 2) | ((with_reducible refine gate_callee (f := 15) rfl ?_); refine goesL_ (some 16) rfl rfl Try.func15 (by kernel_rfl) rfl #[.agg #[.slice A0_0 l0_0.length c0_0, .int .i64 a0_1, .int .i64 a0_2], .int .i64 1048576] rfl (by (try simp only [List.map_toArray, List.map_cons, List.map_nil]); first | done | rfl | (simp only [List.length_drop, List.length_take]; rfl)) ?_; (with_reducible refine (laws_szMachine.calls _ _ l0_0 a0_1 a0_2 1048576 t393 _ ?side1 ?side2 A2.out).mono ?_); (case side1 => repeat (first | exact (Kd.C_below HR0_0.out HB.out) | (with_reducible refine Kd.C_alloc ?_ _) | (with_reducible refine Kd.C_drewN ?_ _) | (with_reducible refine Kd.C_drew ?_))); (case side2 => exact HC0_0.out); rintro e w6 ⟨rfl, hb⟩; refine ⟨_, rfl, ?_⟩; have n0_ := Aside0.mk (blk_below (g := gb392) (o := .cells #[.slice A0_0 l0_0.length c0_0, .int .i64 a0_1, .int .i64 a0_2] 24 (0, 0)) (by (with_reducible repeat (first | refine blk_drewN ?_ _ | refine blk_drew ?_ | refine blk_alloc ?_ _)); exact BK392.out) hb); have n1_ := Aside0.mk (below_step (by repeat (first | (with_reducible first | exact HB.out | apply below_alloc | apply pw_below_drewN | apply below_drew1 | refine below_set ?_ GE392.out) | exact HB.out)) hb); clear BK392; clear HB; have BK392 := n0_; have HB := n1_; clear n0_ n1_; (try clear hb); (try clear hb2); (try clear hk); (try clear hi)))
    go_ret
    exact ⟨by first | rfl | (simp [errW_none, errW_some] <;> rfl) | (simp [*, errW_none, errW_some] <;> rfl), by repeat (first | (with_reducible first | exact HB.out | apply below_alloc | apply pw_below_drewN | apply below_drew1 | refine below_set ?_ GE392.out) | exact HB.out)⟩
  · rw [if_neg c3] at H
    have c3b0 : decide (t393 < 0) = false := decide_eq_false c3
    clear c3
    replace H := Option.bind_eq_some_iff.mp H
    obtain ⟨⟨t394, t397, t398⟩, A70, H⟩ := H
    replace H : ((spec_MachTurn.f k t394 t397 t398).bind fun bt399 => ((laws_toMachine.f k l0_0 a0_1 a0_2).bind fun bt406 => ((impl_MachTurn.f k bt406.1 bt406.2.1 bt406.2.2).bind fun bt412 => ((laws_eqMachine.f k bt412.1 bt412.2.1 bt412.2.2.1 bt399.1 bt399.2.1 bt399.2.2.1).bind fun t419 => (if t419 = true then (laws_FnExactMachTurn.j0 k bt399.2.2.2 bt412.2.2.2 (bt412.2.2.2 != bt399.2.2.2) l0_0 a0_1 a0_2 bt399.1 bt399.2.1 bt399.2.2.1 bt406.1 bt406.2.1 bt406.2.2 bt412.1 bt412.2.1 bt412.2.2.1) else (laws_FnExactMachTurn.j0 k bt399.2.2.2 bt412.2.2.2 true l0_0 a0_1 a0_2 bt399.1 bt399.2.1 bt399.2.2.1 bt406.1 bt406.2.1 bt406.2.2 bt412.1 bt412.2.1 bt412.2.2.1)))))) = some r := H
    have A7 := Aside0.mk A70
    clear A70
    replace H := Option.bind_eq_some_iff.mp H
    obtain ⟨⟨t399, t402, t403, t404⟩, A80, H⟩ := H
    replace H : ((laws_toMachine.f k l0_0 a0_1 a0_2).bind fun bt406 => ((impl_MachTurn.f k bt406.1 bt406.2.1 bt406.2.2).bind fun bt412 => ((laws_eqMachine.f k bt412.1 bt412.2.1 bt412.2.2.1 t399 t402 t403).bind fun t419 => (if t419 = true then (laws_FnExactMachTurn.j0 k t404 bt412.2.2.2 (bt412.2.2.2 != t404) l0_0 a0_1 a0_2 t399 t402 t403 bt406.1 bt406.2.1 bt406.2.2 bt412.1 bt412.2.1 bt412.2.2.1) else (laws_FnExactMachTurn.j0 k t404 bt412.2.2.2 true l0_0 a0_1 a0_2 t399 t402 t403 bt406.1 bt406.2.1 bt406.2.2 bt412.1 bt412.2.1 bt412.2.2.1))))) = some r := H
    have A8 := Aside0.mk A80
    clear A80
    replace H := Option.bind_eq_some_iff.mp H
    obtain ⟨⟨t406, t409, t410⟩, A90, H⟩ := H
    replace H : ((impl_MachTurn.f k t406 t409 t410).bind fun bt412 => ((laws_eqMachine.f k bt412.1 bt412.2.1 bt412.2.2.1 t399 t402 t403).bind fun t419 => (if t419 = true then (laws_FnExactMachTurn.j0 k t404 bt412.2.2.2 (bt412.2.2.2 != t404) l0_0 a0_1 a0_2 t399 t402 t403 t406 t409 t410 bt412.1 bt412.2.1 bt412.2.2.1) else (laws_FnExactMachTurn.j0 k t404 bt412.2.2.2 true l0_0 a0_1 a0_2 t399 t402 t403 t406 t409 t410 bt412.1 bt412.2.1 bt412.2.2.1)))) = some r := H
    have A9 := Aside0.mk A90
    clear A90
    replace H := Option.bind_eq_some_iff.mp H
    obtain ⟨⟨t412, t415, t416, t417⟩, A100, H⟩ := H
    replace H : ((laws_eqMachine.f k t412 t415 t416 t399 t402 t403).bind fun t419 => (if t419 = true then (laws_FnExactMachTurn.j0 k t404 t417 (t417 != t404) l0_0 a0_1 a0_2 t399 t402 t403 t406 t409 t410 t412 t415 t416) else (laws_FnExactMachTurn.j0 k t404 t417 true l0_0 a0_1 a0_2 t399 t402 t403 t406 t409 t410 t412 t415 t416))) = some r := H
    have A10 := Aside0.mk A100
    clear A100
    have HC11 := Aside0.mk H
    clear H
    go_enter Try.func9, Try.ntmps9
    go_upto_region 8 with (first | ((with_reducible refine gate_dst (N := 1) rfl ?_); refine box_event ?hg (N := 1) ?hd (cs := #[.slice A0_0 l0_0.length c0_0, .int .i64 a0_1, .int .i64 a0_2]) (t := 24) ?hr ?_; (case hd => rfl); (case hg => rfl); (case hr => first | (go_simp; done) | (go_simp; rfl)); intro gb392 hg w12 hbox hb; have n0_ := Aside0.mk (below_step (by repeat (first | (with_reducible first | exact HB.out | apply below_alloc | apply pw_below_drewN | apply below_drew1) | exact HB.out)) hb); have n1_ := Aside0.mk (hbox); have n2_ := Aside0.mk ((by rw [hg]; exact (below_size (by repeat (first | (with_reducible first | exact HB.out | apply below_alloc | apply pw_below_drewN | apply below_drew1) | exact HB.out))) : w.heap.size ≤ gb392)); have n3_ := Aside0.mk ((by rw [hg]; exact (below_size (by repeat (first | (with_reducible first | exact HB.out | apply below_alloc | apply pw_below_drewN | apply below_drew1) | exact HB.out))) : w.heap.size ≤ gb392)); clear HB; have HB := n0_; have BK392 := n1_; have GW392 := n2_; have GE392 := n3_; clear n0_ n1_ n2_ n3_; clear hb hbox hg; have hcz13_0 : w12.cell? ⟨gb392, 0, none⟩ = some (.slice A0_0 l0_0.length c0_0) := (blk_cell BK392.out 0).trans rfl; have hcz13_1 : w12.cell? ⟨gb392, 1, none⟩ = some (.int .i64 a0_1) := (blk_cell BK392.out 1).trans rfl; have hcz13_2 : w12.cell? ⟨gb392, 2, none⟩ = some (.int .i64 a0_2) := (blk_cell BK392.out 2).trans rfl; have hfz13_0 := blk_frozen BK392.out 0; have hfz13_1 := blk_frozen BK392.out 1; have hfz13_2 := blk_frozen BK392.out 2) | ((with_reducible refine gate_callee (f := 15) rfl ?_); refine goesL_ (some 16) rfl rfl Try.func15 (by kernel_rfl) rfl #[.agg #[.slice A0_0 l0_0.length c0_0, .int .i64 a0_1, .int .i64 a0_2], .int .i64 1048576] rfl (by (try simp only [List.map_toArray, List.map_cons, List.map_nil]); first | done | rfl | (simp only [List.length_drop, List.length_take]; rfl)) ?_; (with_reducible refine (laws_szMachine.calls _ _ l0_0 a0_1 a0_2 1048576 t393 _ ?side1 ?side2 A2.out).mono ?_); (case side1 => repeat (first | exact (Kd.C_below HR0_0.out HB.out) | (with_reducible refine Kd.C_alloc ?_ _) | (with_reducible refine Kd.C_drewN ?_ _) | (with_reducible refine Kd.C_drew ?_))); (case side2 => exact HC0_0.out); rintro e w14 ⟨rfl, hb⟩; refine ⟨_, rfl, ?_⟩; have n0_ := Aside0.mk (blk_below (g := gb392) (o := .cells #[.slice A0_0 l0_0.length c0_0, .int .i64 a0_1, .int .i64 a0_2] 24 (0, 0)) (by (with_reducible repeat (first | refine blk_drewN ?_ _ | refine blk_drew ?_ | refine blk_alloc ?_ _)); exact BK392.out) hb); have n1_ := Aside0.mk (below_step (by repeat (first | (with_reducible first | exact HB.out | apply below_alloc | apply pw_below_drewN | apply below_drew1 | refine below_set ?_ GE392.out) | exact HB.out)) hb); clear BK392; clear HB; have BK392 := n0_; have HB := n1_; clear n0_ n1_; (try clear hb); (try clear hb2); (try clear hk); (try clear hi); have hcz15_0 : w14.cell? ⟨gb392, 0, none⟩ = some (.slice A0_0 l0_0.length c0_0) := (blk_cell BK392.out 0).trans rfl; have hcz15_1 : w14.cell? ⟨gb392, 1, none⟩ = some (.int .i64 a0_1) := (blk_cell BK392.out 1).trans rfl; have hcz15_2 : w14.cell? ⟨gb392, 2, none⟩ = some (.int .i64 a0_2) := (blk_cell BK392.out 2).trans rfl; have hfz15_0 := blk_frozen BK392.out 0; have hfz15_1 := blk_frozen BK392.out 1; have hfz15_2 := blk_frozen BK392.out 2) | ((with_reducible refine gate_callee (f := 17) rfl ?_); refine goesL_ (some 21) rfl rfl Try.func17 (by kernel_rfl) rfl #[.agg #[.slice A0_0 l0_0.length c0_0, .int .i64 a0_1, .int .i64 a0_2]] rfl (by (try simp only [List.map_toArray, List.map_cons, List.map_nil]); first | done | rfl | (simp only [List.length_drop, List.length_take]; rfl)) ?_; (with_reducible refine (laws_toMachine.calls k _ _ l0_0 a0_1 a0_2 t394 t397 t398 _ ?side1 ?side2 A7.out).mono ?_); (case side1 => repeat (first | exact (Kd.C_below HR0_0.out HB.out) | (with_reducible refine Kd.C_alloc ?_ _) | (with_reducible refine Kd.C_drewN ?_ _) | (with_reducible refine Kd.C_drew ?_))); (case side2 => exact HC0_0.out); rintro e w16 ⟨v395, rfl, ho0, hb⟩; refine ⟨_, rfl, ?_⟩; have n0_ := Aside0.mk (Kd.R_lower ho0 (below_size (by repeat (first | (with_reducible first | exact HB.out | apply below_alloc | apply pw_below_drewN | apply below_drew1 | refine below_set ?_ GE392.out) | exact HB.out)))); have n1_ := Aside0.mk (blk_below (g := gb392) (o := .cells #[.slice A0_0 l0_0.length c0_0, .int .i64 a0_1, .int .i64 a0_2] 24 (0, 0)) (by (with_reducible repeat (first | refine blk_drewN ?_ _ | refine blk_drew ?_ | refine blk_alloc ?_ _)); exact BK392.out) hb); have n2_ := Aside0.mk (below_step (by repeat (first | (with_reducible first | exact HB.out | apply below_alloc | apply pw_below_drewN | apply below_drew1 | refine below_set ?_ GE392.out) | exact HB.out)) hb); clear BK392; clear HB; have HO396 := n0_; have BK392 := n1_; have HB := n2_; clear n0_ n1_ n2_; (try clear hb); (try clear hb2); (try clear hk); (try clear hi); (try clear ho0); obtain ⟨Ao17, co17, eo17⟩ := Kd.R_slice HO396.out; subst eo17) | ((with_reducible refine gate_callee (f := 27) rfl ?_); refine goesL_ (some 22) rfl rfl Try.func27 (by kernel_rfl) rfl #[.agg #[.slice Ao17 t394.length co17, .int .i64 t397, .int .i64 t398]] rfl (by (try simp only [List.map_toArray, List.map_cons, List.map_nil]); first | done | rfl | (simp only [List.length_drop, List.length_take]; rfl)) ?_; (with_reducible refine (spec_MachTurn.calls k _ _ t394 t397 t398 t399 t402 t403 t404 _ ?side1 ?side2 A8.out).mono ?_); (case side1 => repeat (first | exact (Kd.R_reads' HO396.out).2.2 | (with_reducible refine Kd.C_alloc ?_ _) | (with_reducible refine Kd.C_drewN ?_ _) | (with_reducible refine Kd.C_drew ?_))); (case side2 => exact (Kd.R_reads' HO396.out).2.1); rintro e w18 ⟨v400, rfl, ho0, hb⟩; refine ⟨_, rfl, ?_⟩; have n0_ := Aside0.mk (Kd.R_elder' (by (with_reducible repeat (first | apply Kd.R_alloc | apply Kd.R_drewN | apply Kd.R_drew)); exact HO396.out) (Kd.R_base ho0) hb); have n1_ := Aside0.mk (Kd.R_lower (Kd.R_new' ho0 (Kd.R_lt (by (with_reducible repeat (first | apply Kd.R_alloc | apply Kd.R_drewN | apply Kd.R_drew)); exact HO396.out))) (below_size (by repeat (first | (with_reducible first | exact HB.out | apply below_alloc | apply pw_below_drewN | apply below_drew1 | refine below_set ?_ GE392.out) | exact HB.out)))); have n2_ := Aside0.mk (blk_below (g := gb392) (o := .cells #[.slice A0_0 l0_0.length c0_0, .int .i64 a0_1, .int .i64 a0_2] 24 (0, 0)) (by (with_reducible repeat (first | refine blk_drewN ?_ _ | refine blk_drew ?_ | refine blk_alloc ?_ _)); exact BK392.out) hb); have n3_ := Aside0.mk (below_step (by repeat (first | (with_reducible first | exact HB.out | apply below_alloc | apply pw_below_drewN | apply below_drew1 | refine below_set ?_ GE392.out) | exact HB.out)) hb); clear HO396; clear BK392; clear HB; have HO396 := n0_; have HO401 := n1_; have BK392 := n2_; have HB := n3_; clear n0_ n1_ n2_ n3_; (try clear hb); (try clear hb2); (try clear hk); (try clear hi); (try clear ho0)) | ((with_reducible refine gate_dst (N := 4) rfl ?_); refine box_event ?hg (N := 4) ?hd (cs := #[.slice none 0 0, .int .i64 0, .int .i64 0]) (t := 27) ?hr ?_; (case hd => rfl); (case hg => rfl); (case hr => first | (go_simp; done) | (go_simp; rfl)); intro gb405 hg w19 hbox hb; have n0_ := Aside0.mk (Kd.R_below (by (with_reducible repeat (first | apply Kd.R_alloc | apply Kd.R_drewN | apply Kd.R_drew)); exact HO396.out) hb); have n1_ := Aside0.mk (Kd.R_below (by (with_reducible repeat (first | apply Kd.R_alloc | apply Kd.R_drewN | apply Kd.R_drew)); exact HO401.out) hb); have n2_ := Aside0.mk (blk_below (g := gb392) (o := .cells #[.slice A0_0 l0_0.length c0_0, .int .i64 a0_1, .int .i64 a0_2] 24 (0, 0)) (by (with_reducible repeat (first | refine blk_drewN ?_ _ | refine blk_drew ?_ | refine blk_alloc ?_ _)); exact BK392.out) hb); have n3_ := Aside0.mk (below_step (by repeat (first | (with_reducible first | exact HB.out | apply below_alloc | apply pw_below_drewN | apply below_drew1 | refine below_set ?_ GE392.out) | exact HB.out)) hb); have n4_ := Aside0.mk (hbox); have n5_ := Aside0.mk ((by rw [hg]; exact (below_size (by repeat (first | (with_reducible first | exact HB.out | apply below_alloc | apply pw_below_drewN | apply below_drew1 | refine below_set ?_ GE392.out) | exact HB.out))) : w.heap.size ≤ gb405)); have n6_ := Aside0.mk ((by rw [hg]; exact (below_size (by repeat (first | (with_reducible first | exact HB.out | apply below_alloc | apply pw_below_drewN | apply below_drew1 | refine below_set ?_ GE392.out) | exact HB.out))) : w.heap.size ≤ gb405)); have n7_ := Aside0.mk ((by rw [hg]; exact Nat.ne_of_lt (blk_lt (g := gb392) (o := .cells #[.slice A0_0 l0_0.length c0_0, .int .i64 a0_1, .int .i64 a0_2] 24 (0, 0)) (by (with_reducible repeat (first | refine blk_drewN ?_ _ | refine blk_drew ?_ | refine blk_alloc ?_ _)); exact BK392.out)) : gb392 ≠ gb405)); have n8_ := Aside0.mk ((by rw [hg]; exact Nat.ne_of_gt (blk_lt (g := gb392) (o := .cells #[.slice A0_0 l0_0.length c0_0, .int .i64 a0_1, .int .i64 a0_2] 24 (0, 0)) (by (with_reducible repeat (first | refine blk_drewN ?_ _ | refine blk_drew ?_ | refine blk_alloc ?_ _)); exact BK392.out)) : gb405 ≠ gb392)); clear HO396; clear HO401; clear BK392; clear HB; have HO396 := n0_; have HO401 := n1_; have BK392 := n2_; have HB := n3_; have BK405 := n4_; have GW405 := n5_; have GE405 := n6_; have NB392_405 := n7_; have NB405_392 := n8_; clear n0_ n1_ n2_ n3_ n4_ n5_ n6_ n7_ n8_; clear hb hbox hg; obtain ⟨Ao20, co20, eo20⟩ := Kd.R_slice HO401.out; subst eo20; have hnb21 := NB405_392.out; have hnc21 := NB392_405.out; have hcz22_0 : w19.cell? ⟨gb405, 0, none⟩ = some (.slice none 0 0) := (blk_cell BK405.out 0).trans rfl; have hcz22_1 : w19.cell? ⟨gb405, 1, none⟩ = some (.int .i64 0) := (blk_cell BK405.out 1).trans rfl; have hcz22_2 : w19.cell? ⟨gb405, 2, none⟩ = some (.int .i64 0) := (blk_cell BK405.out 2).trans rfl; have hfz22_0 := blk_frozen BK405.out 0; have hfz22_1 := blk_frozen BK405.out 1; have hfz22_2 := blk_frozen BK405.out 2; have hcz23_0 : w19.cell? ⟨gb392, 0, none⟩ = some (.slice A0_0 l0_0.length c0_0) := (blk_cell BK392.out 0).trans rfl; have hcz23_1 : w19.cell? ⟨gb392, 1, none⟩ = some (.int .i64 a0_1) := (blk_cell BK392.out 1).trans rfl; have hcz23_2 : w19.cell? ⟨gb392, 2, none⟩ = some (.int .i64 a0_2) := (blk_cell BK392.out 2).trans rfl; have hfz23_0 := blk_frozen BK392.out 0; have hfz23_1 := blk_frozen BK392.out 1; have hfz23_2 := blk_frozen BK392.out 2) | ((with_reducible refine gate_callee (f := 17) rfl ?_); refine goesL_ (some 26) rfl rfl Try.func17 (by kernel_rfl) rfl #[.agg #[.slice A0_0 l0_0.length c0_0, .int .i64 a0_1, .int .i64 a0_2]] rfl (by (try simp only [List.map_toArray, List.map_cons, List.map_nil]); first | done | rfl | (simp only [List.length_drop, List.length_take]; rfl)) ?_; (with_reducible refine (laws_toMachine.calls k _ _ l0_0 a0_1 a0_2 t406 t409 t410 _ ?side1 ?side2 A9.out).mono ?_); (case side1 => exact Kd.C_below HR0_0.out (by repeat (first | (with_reducible first | exact HB.out | apply below_alloc | apply pw_below_drewN | apply below_drew1 | refine below_set ?_ GE392.out | refine below_set ?_ GE405.out) | exact HB.out))); (case side2 => exact HC0_0.out); rintro e w24 ⟨v407, rfl, ho0, hb⟩; refine ⟨_, rfl, ?_⟩; have n0_ := Aside0.mk (Kd.R_elder' (by (with_reducible repeat (first | apply Kd.R_alloc | apply Kd.R_drewN | apply Kd.R_drew)); exact (Kd.R_mono (Kd.R_far (p := ⟨gb405, 2, none⟩) (Kd.R_far (p := ⟨gb405, 1, none⟩) (Kd.R_far (p := ⟨gb405, 0, none⟩) (Kd.R_types HO396.out BK405.out (by decide)) (fun _ hk => hk.2) (.slice Ao20 t399.length co20)) (fun _ hk => hk.2) (.int .i64 t402)) (fun _ hk => hk.2) (.int .i64 t403)) (fun _ h_ => h_.1))) (Kd.R_base ho0) hb); have n1_ := Aside0.mk (Kd.R_elder' (by (with_reducible repeat (first | apply Kd.R_alloc | apply Kd.R_drewN | apply Kd.R_drew)); exact (Kd.R_mono (Kd.R_far (p := ⟨gb405, 2, none⟩) (Kd.R_far (p := ⟨gb405, 1, none⟩) (Kd.R_far (p := ⟨gb405, 0, none⟩) (Kd.R_types HO401.out BK405.out (by decide)) (fun _ hk => hk.2) (.slice Ao20 t399.length co20)) (fun _ hk => hk.2) (.int .i64 t402)) (fun _ hk => hk.2) (.int .i64 t403)) (fun _ h_ => h_.1))) (Kd.R_base ho0) hb); have n2_ := Aside0.mk (Kd.R_lower (Kd.R_new' (Kd.R_new' ho0 (Kd.R_lt (by (with_reducible repeat (first | apply Kd.R_alloc | apply Kd.R_drewN | apply Kd.R_drew)); exact (Kd.R_mono (Kd.R_far (p := ⟨gb405, 2, none⟩) (Kd.R_far (p := ⟨gb405, 1, none⟩) (Kd.R_far (p := ⟨gb405, 0, none⟩) (Kd.R_types HO396.out BK405.out (by decide)) (fun _ hk => hk.2) (.slice Ao20 t399.length co20)) (fun _ hk => hk.2) (.int .i64 t402)) (fun _ hk => hk.2) (.int .i64 t403)) (fun _ h_ => h_.1))))) (Kd.R_lt (by (with_reducible repeat (first | apply Kd.R_alloc | apply Kd.R_drewN | apply Kd.R_drew)); exact (Kd.R_mono (Kd.R_far (p := ⟨gb405, 2, none⟩) (Kd.R_far (p := ⟨gb405, 1, none⟩) (Kd.R_far (p := ⟨gb405, 0, none⟩) (Kd.R_types HO401.out BK405.out (by decide)) (fun _ hk => hk.2) (.slice Ao20 t399.length co20)) (fun _ hk => hk.2) (.int .i64 t402)) (fun _ hk => hk.2) (.int .i64 t403)) (fun _ h_ => h_.1))))) (below_size (by repeat (first | (with_reducible first | exact HB.out | apply below_alloc | apply pw_below_drewN | apply below_drew1 | refine below_set ?_ GE392.out | refine below_set ?_ GE405.out) | exact HB.out)))); have n3_ := Aside0.mk (blk_below (g := gb392) (o := .cells #[.slice A0_0 l0_0.length c0_0, .int .i64 a0_1, .int .i64 a0_2] 24 (0, 0)) (by (with_reducible repeat (first | refine blk_drewN ?_ _ | refine blk_drew ?_ | refine blk_alloc ?_ _)); refine blk_far ?_ NB392_405.out _; (with_reducible repeat (first | refine blk_drewN ?_ _ | refine blk_drew ?_ | refine blk_alloc ?_ _)); refine blk_far ?_ NB392_405.out _; (with_reducible repeat (first | refine blk_drewN ?_ _ | refine blk_drew ?_ | refine blk_alloc ?_ _)); refine blk_far ?_ NB392_405.out _; (with_reducible repeat (first | refine blk_drewN ?_ _ | refine blk_drew ?_ | refine blk_alloc ?_ _)); exact BK392.out) hb); have n4_ := Aside0.mk (blk_below (g := gb405) (o := .cells #[.slice Ao20 t399.length co20, .int .i64 t402, .int .i64 t403] 27 (0, 0)) (by (with_reducible repeat (first | refine blk_drewN ?_ _ | refine blk_drew ?_ | refine blk_alloc ?_ _)); refine blk_put (cs := #[.slice Ao20 t399.length co20, .int .i64 t402, .int .i64 0]) ?_ 2 _ rfl; (with_reducible repeat (first | refine blk_drewN ?_ _ | refine blk_drew ?_ | refine blk_alloc ?_ _)); refine blk_put (cs := #[.slice Ao20 t399.length co20, .int .i64 0, .int .i64 0]) ?_ 1 _ rfl; (with_reducible repeat (first | refine blk_drewN ?_ _ | refine blk_drew ?_ | refine blk_alloc ?_ _)); refine blk_put (cs := #[.slice none 0 0, .int .i64 0, .int .i64 0]) ?_ 0 _ rfl; (with_reducible repeat (first | refine blk_drewN ?_ _ | refine blk_drew ?_ | refine blk_alloc ?_ _)); exact BK405.out) hb); have n5_ := Aside0.mk (below_step (by repeat (first | (with_reducible first | exact HB.out | apply below_alloc | apply pw_below_drewN | apply below_drew1 | refine below_set ?_ GE392.out | refine below_set ?_ GE405.out) | exact HB.out)) hb); clear HO396; clear HO401; clear BK392; clear BK405; clear HB; have HO396 := n0_; have HO401 := n1_; have HO408 := n2_; have BK392 := n3_; have BK405 := n4_; have HB := n5_; clear n0_ n1_ n2_ n3_ n4_ n5_; (try clear hb); (try clear hb2); (try clear hk); (try clear hi); (try clear ho0)) | ((with_reducible refine gate_dst (N := 6) rfl ?_); refine box_event ?hg (N := 6) ?hd (cs := #[.slice none 0 0, .int .i64 0, .int .i64 0]) (t := 27) ?hr ?_; (case hd => rfl); (case hg => rfl); (case hr => first | (go_simp; done) | (go_simp; rfl)); intro gb411 hg w25 hbox hb; have n0_ := Aside0.mk (Kd.R_below (by (with_reducible repeat (first | apply Kd.R_alloc | apply Kd.R_drewN | apply Kd.R_drew)); exact HO396.out) hb); have n1_ := Aside0.mk (Kd.R_below (by (with_reducible repeat (first | apply Kd.R_alloc | apply Kd.R_drewN | apply Kd.R_drew)); exact HO401.out) hb); have n2_ := Aside0.mk (Kd.R_below (by (with_reducible repeat (first | apply Kd.R_alloc | apply Kd.R_drewN | apply Kd.R_drew)); exact HO408.out) hb); have n3_ := Aside0.mk (blk_below (g := gb392) (o := .cells #[.slice A0_0 l0_0.length c0_0, .int .i64 a0_1, .int .i64 a0_2] 24 (0, 0)) (by (with_reducible repeat (first | refine blk_drewN ?_ _ | refine blk_drew ?_ | refine blk_alloc ?_ _)); exact BK392.out) hb); have n4_ := Aside0.mk (blk_below (g := gb405) (o := .cells #[.slice Ao20 t399.length co20, .int .i64 t402, .int .i64 t403] 27 (0, 0)) (by (with_reducible repeat (first | refine blk_drewN ?_ _ | refine blk_drew ?_ | refine blk_alloc ?_ _)); exact BK405.out) hb); have n5_ := Aside0.mk (below_step (by repeat (first | (with_reducible first | exact HB.out | apply below_alloc | apply pw_below_drewN | apply below_drew1 | refine below_set ?_ GE392.out | refine below_set ?_ GE405.out) | exact HB.out)) hb); have n6_ := Aside0.mk (hbox); have n7_ := Aside0.mk ((by rw [hg]; exact (below_size (by repeat (first | (with_reducible first | exact HB.out | apply below_alloc | apply pw_below_drewN | apply below_drew1 | refine below_set ?_ GE392.out | refine below_set ?_ GE405.out) | exact HB.out))) : w.heap.size ≤ gb411)); have n8_ := Aside0.mk ((by rw [hg]; exact (below_size (by repeat (first | (with_reducible first | exact HB.out | apply below_alloc | apply pw_below_drewN | apply below_drew1 | refine below_set ?_ GE392.out | refine below_set ?_ GE405.out) | exact HB.out))) : w.heap.size ≤ gb411)); have n9_ := Aside0.mk ((by rw [hg]; exact Nat.ne_of_lt (blk_lt (g := gb392) (o := .cells #[.slice A0_0 l0_0.length c0_0, .int .i64 a0_1, .int .i64 a0_2] 24 (0, 0)) (by (with_reducible repeat (first | refine blk_drewN ?_ _ | refine blk_drew ?_ | refine blk_alloc ?_ _)); exact BK392.out)) : gb392 ≠ gb411)); have n10_ := Aside0.mk ((by rw [hg]; exact Nat.ne_of_gt (blk_lt (g := gb392) (o := .cells #[.slice A0_0 l0_0.length c0_0, .int .i64 a0_1, .int .i64 a0_2] 24 (0, 0)) (by (with_reducible repeat (first | refine blk_drewN ?_ _ | refine blk_drew ?_ | refine blk_alloc ?_ _)); exact BK392.out)) : gb411 ≠ gb392)); have n11_ := Aside0.mk ((by rw [hg]; exact Nat.ne_of_lt (blk_lt (g := gb405) (o := .cells #[.slice Ao20 t399.length co20, .int .i64 t402, .int .i64 t403] 27 (0, 0)) (by (with_reducible repeat (first | refine blk_drewN ?_ _ | refine blk_drew ?_ | refine blk_alloc ?_ _)); exact BK405.out)) : gb405 ≠ gb411)); have n12_ := Aside0.mk ((by rw [hg]; exact Nat.ne_of_gt (blk_lt (g := gb405) (o := .cells #[.slice Ao20 t399.length co20, .int .i64 t402, .int .i64 t403] 27 (0, 0)) (by (with_reducible repeat (first | refine blk_drewN ?_ _ | refine blk_drew ?_ | refine blk_alloc ?_ _)); exact BK405.out)) : gb411 ≠ gb405)); clear HO396; clear HO401; clear HO408; clear BK392; clear BK405; clear HB; have HO396 := n0_; have HO401 := n1_; have HO408 := n2_; have BK392 := n3_; have BK405 := n4_; have HB := n5_; have BK411 := n6_; have GW411 := n7_; have GE411 := n8_; have NB392_411 := n9_; have NB411_392 := n10_; have NB405_411 := n11_; have NB411_405 := n12_; clear n0_ n1_ n2_ n3_ n4_ n5_ n6_ n7_ n8_ n9_ n10_ n11_ n12_; clear hb hbox hg; obtain ⟨Ao26, co26, eo26⟩ := Kd.R_slice HO408.out; subst eo26; have hnb27 := NB411_392.out; have hnc27 := NB392_411.out; have hnb28 := NB411_405.out; have hnc28 := NB405_411.out; have hcz29_0 : w25.cell? ⟨gb411, 0, none⟩ = some (.slice none 0 0) := (blk_cell BK411.out 0).trans rfl; have hcz29_1 : w25.cell? ⟨gb411, 1, none⟩ = some (.int .i64 0) := (blk_cell BK411.out 1).trans rfl; have hcz29_2 : w25.cell? ⟨gb411, 2, none⟩ = some (.int .i64 0) := (blk_cell BK411.out 2).trans rfl; have hfz29_0 := blk_frozen BK411.out 0; have hfz29_1 := blk_frozen BK411.out 1; have hfz29_2 := blk_frozen BK411.out 2) | ((with_reducible refine gate_callee (f := 28) rfl ?_); refine goesL_ (some 29) rfl rfl Try.func28 (by kernel_rfl) rfl #[.agg #[.slice Ao26 t406.length co26, .int .i64 t409, .int .i64 t410]] rfl (by (try simp only [List.map_toArray, List.map_cons, List.map_nil]); first | done | rfl | (simp only [List.length_drop, List.length_take]; rfl)) ?_; (with_reducible refine (impl_MachTurn.calls k _ _ t406 t409 t410 t412 t415 t416 t417 _ ?side1 ?side2 A10.out).mono ?_); (case side1 => refine (Kd.R_reads' (e := 3) (base := w.heap.size) (ok := fun k_ => ((True ∧ some k_ ≠ (.slice Ao17 t394.length co17 : Value).ownBlock) ∧ some k_ ≠ (.slice Ao20 t399.length co20 : Value).ownBlock)) (n := t406.length) (c := co26) ?_).2.2; exact (by (with_reducible repeat (first | apply Kd.R_alloc | apply Kd.R_drewN | apply Kd.R_drew)); exact (Kd.R_mono (Kd.R_far (p := ⟨gb411, 2, none⟩) (Kd.R_far (p := ⟨gb411, 1, none⟩) (Kd.R_far (p := ⟨gb411, 0, none⟩) (Kd.R_types HO408.out BK411.out (by decide)) (fun _ hk => hk.2) (.slice Ao26 t406.length co26)) (fun _ hk => hk.2) (.int .i64 t409)) (fun _ hk => hk.2) (.int .i64 t410)) (fun _ h_ => h_.1)))); (case side2 => exact (Kd.R_reads' HO408.out).2.1); rintro e w30 ⟨v413, rfl, ho0, hb⟩; refine ⟨_, rfl, ?_⟩; have n0_ := Aside0.mk (Kd.R_elder' (by (with_reducible repeat (first | apply Kd.R_alloc | apply Kd.R_drewN | apply Kd.R_drew)); exact (Kd.R_mono (Kd.R_far (p := ⟨gb411, 2, none⟩) (Kd.R_far (p := ⟨gb411, 1, none⟩) (Kd.R_far (p := ⟨gb411, 0, none⟩) (Kd.R_types HO396.out BK411.out (by decide)) (fun _ hk => hk.2) (.slice Ao26 t406.length co26)) (fun _ hk => hk.2) (.int .i64 t409)) (fun _ hk => hk.2) (.int .i64 t410)) (fun _ h_ => h_.1))) (Kd.R_base ho0) hb); have n1_ := Aside0.mk (Kd.R_elder' (by (with_reducible repeat (first | apply Kd.R_alloc | apply Kd.R_drewN | apply Kd.R_drew)); exact (Kd.R_mono (Kd.R_far (p := ⟨gb411, 2, none⟩) (Kd.R_far (p := ⟨gb411, 1, none⟩) (Kd.R_far (p := ⟨gb411, 0, none⟩) (Kd.R_types HO401.out BK411.out (by decide)) (fun _ hk => hk.2) (.slice Ao26 t406.length co26)) (fun _ hk => hk.2) (.int .i64 t409)) (fun _ hk => hk.2) (.int .i64 t410)) (fun _ h_ => h_.1))) (Kd.R_base ho0) hb); have n2_ := Aside0.mk (Kd.R_elder' (by (with_reducible repeat (first | apply Kd.R_alloc | apply Kd.R_drewN | apply Kd.R_drew)); exact (Kd.R_mono (Kd.R_far (p := ⟨gb411, 2, none⟩) (Kd.R_far (p := ⟨gb411, 1, none⟩) (Kd.R_far (p := ⟨gb411, 0, none⟩) (Kd.R_types HO408.out BK411.out (by decide)) (fun _ hk => hk.2) (.slice Ao26 t406.length co26)) (fun _ hk => hk.2) (.int .i64 t409)) (fun _ hk => hk.2) (.int .i64 t410)) (fun _ h_ => h_.1))) (Kd.R_base ho0) hb); have n3_ := Aside0.mk (Kd.R_lower (Kd.R_new' (Kd.R_new' (Kd.R_new' ho0 (Kd.R_lt (by (with_reducible repeat (first | apply Kd.R_alloc | apply Kd.R_drewN | apply Kd.R_drew)); exact (Kd.R_mono (Kd.R_far (p := ⟨gb411, 2, none⟩) (Kd.R_far (p := ⟨gb411, 1, none⟩) (Kd.R_far (p := ⟨gb411, 0, none⟩) (Kd.R_types HO396.out BK411.out (by decide)) (fun _ hk => hk.2) (.slice Ao26 t406.length co26)) (fun _ hk => hk.2) (.int .i64 t409)) (fun _ hk => hk.2) (.int .i64 t410)) (fun _ h_ => h_.1))))) (Kd.R_lt (by (with_reducible repeat (first | apply Kd.R_alloc | apply Kd.R_drewN | apply Kd.R_drew)); exact (Kd.R_mono (Kd.R_far (p := ⟨gb411, 2, none⟩) (Kd.R_far (p := ⟨gb411, 1, none⟩) (Kd.R_far (p := ⟨gb411, 0, none⟩) (Kd.R_types HO401.out BK411.out (by decide)) (fun _ hk => hk.2) (.slice Ao26 t406.length co26)) (fun _ hk => hk.2) (.int .i64 t409)) (fun _ hk => hk.2) (.int .i64 t410)) (fun _ h_ => h_.1))))) (Kd.R_lt (by (with_reducible repeat (first | apply Kd.R_alloc | apply Kd.R_drewN | apply Kd.R_drew)); exact (Kd.R_mono (Kd.R_far (p := ⟨gb411, 2, none⟩) (Kd.R_far (p := ⟨gb411, 1, none⟩) (Kd.R_far (p := ⟨gb411, 0, none⟩) (Kd.R_types HO408.out BK411.out (by decide)) (fun _ hk => hk.2) (.slice Ao26 t406.length co26)) (fun _ hk => hk.2) (.int .i64 t409)) (fun _ hk => hk.2) (.int .i64 t410)) (fun _ h_ => h_.1))))) (below_size (by repeat (first | (with_reducible first | exact HB.out | apply below_alloc | apply pw_below_drewN | apply below_drew1 | refine below_set ?_ GE392.out | refine below_set ?_ GE405.out | refine below_set ?_ GE411.out) | exact HB.out)))); have n4_ := Aside0.mk (blk_below (g := gb392) (o := .cells #[.slice A0_0 l0_0.length c0_0, .int .i64 a0_1, .int .i64 a0_2] 24 (0, 0)) (by (with_reducible repeat (first | refine blk_drewN ?_ _ | refine blk_drew ?_ | refine blk_alloc ?_ _)); refine blk_far ?_ NB392_411.out _; (with_reducible repeat (first | refine blk_drewN ?_ _ | refine blk_drew ?_ | refine blk_alloc ?_ _)); refine blk_far ?_ NB392_411.out _; (with_reducible repeat (first | refine blk_drewN ?_ _ | refine blk_drew ?_ | refine blk_alloc ?_ _)); refine blk_far ?_ NB392_411.out _; (with_reducible repeat (first | refine blk_drewN ?_ _ | refine blk_drew ?_ | refine blk_alloc ?_ _)); exact BK392.out) hb); have n5_ := Aside0.mk (blk_below (g := gb405) (o := .cells #[.slice Ao20 t399.length co20, .int .i64 t402, .int .i64 t403] 27 (0, 0)) (by (with_reducible repeat (first | refine blk_drewN ?_ _ | refine blk_drew ?_ | refine blk_alloc ?_ _)); refine blk_far ?_ NB405_411.out _; (with_reducible repeat (first | refine blk_drewN ?_ _ | refine blk_drew ?_ | refine blk_alloc ?_ _)); refine blk_far ?_ NB405_411.out _; (with_reducible repeat (first | refine blk_drewN ?_ _ | refine blk_drew ?_ | refine blk_alloc ?_ _)); refine blk_far ?_ NB405_411.out _; (with_reducible repeat (first | refine blk_drewN ?_ _ | refine blk_drew ?_ | refine blk_alloc ?_ _)); exact BK405.out) hb); have n6_ := Aside0.mk (blk_below (g := gb411) (o := .cells #[.slice Ao26 t406.length co26, .int .i64 t409, .int .i64 t410] 27 (0, 0)) (by (with_reducible repeat (first | refine blk_drewN ?_ _ | refine blk_drew ?_ | refine blk_alloc ?_ _)); refine blk_put (cs := #[.slice Ao26 t406.length co26, .int .i64 t409, .int .i64 0]) ?_ 2 _ rfl; (with_reducible repeat (first | refine blk_drewN ?_ _ | refine blk_drew ?_ | refine blk_alloc ?_ _)); refine blk_put (cs := #[.slice Ao26 t406.length co26, .int .i64 0, .int .i64 0]) ?_ 1 _ rfl; (with_reducible repeat (first | refine blk_drewN ?_ _ | refine blk_drew ?_ | refine blk_alloc ?_ _)); refine blk_put (cs := #[.slice none 0 0, .int .i64 0, .int .i64 0]) ?_ 0 _ rfl; (with_reducible repeat (first | refine blk_drewN ?_ _ | refine blk_drew ?_ | refine blk_alloc ?_ _)); exact BK411.out) hb); have n7_ := Aside0.mk (below_step (by repeat (first | (with_reducible first | exact HB.out | apply below_alloc | apply pw_below_drewN | apply below_drew1 | refine below_set ?_ GE392.out | refine below_set ?_ GE405.out | refine below_set ?_ GE411.out) | exact HB.out)) hb); clear HO396; clear HO401; clear HO408; clear BK392; clear BK405; clear BK411; clear HB; have HO396 := n0_; have HO401 := n1_; have HO408 := n2_; have HO414 := n3_; have BK392 := n4_; have BK405 := n5_; have BK411 := n6_; have HB := n7_; clear n0_ n1_ n2_ n3_ n4_ n5_ n6_ n7_; (try clear hb); (try clear hb2); (try clear hk); (try clear hi); (try clear ho0)) | ((with_reducible refine gate_dst (N := 7) rfl ?_); refine box_event ?hg (N := 7) ?hd (cs := #[.slice none 0 0, .int .i64 0, .int .i64 0]) (t := 27) ?hr ?_; (case hd => rfl); (case hg => rfl); (case hr => first | (go_simp; done) | (go_simp; rfl)); intro gb418 hg w31 hbox hb; have n0_ := Aside0.mk (Kd.R_below (by (with_reducible repeat (first | apply Kd.R_alloc | apply Kd.R_drewN | apply Kd.R_drew)); exact HO396.out) hb); have n1_ := Aside0.mk (Kd.R_below (by (with_reducible repeat (first | apply Kd.R_alloc | apply Kd.R_drewN | apply Kd.R_drew)); exact HO401.out) hb); have n2_ := Aside0.mk (Kd.R_below (by (with_reducible repeat (first | apply Kd.R_alloc | apply Kd.R_drewN | apply Kd.R_drew)); exact HO408.out) hb); have n3_ := Aside0.mk (Kd.R_below (by (with_reducible repeat (first | apply Kd.R_alloc | apply Kd.R_drewN | apply Kd.R_drew)); exact HO414.out) hb); have n4_ := Aside0.mk (blk_below (g := gb392) (o := .cells #[.slice A0_0 l0_0.length c0_0, .int .i64 a0_1, .int .i64 a0_2] 24 (0, 0)) (by (with_reducible repeat (first | refine blk_drewN ?_ _ | refine blk_drew ?_ | refine blk_alloc ?_ _)); exact BK392.out) hb); have n5_ := Aside0.mk (blk_below (g := gb405) (o := .cells #[.slice Ao20 t399.length co20, .int .i64 t402, .int .i64 t403] 27 (0, 0)) (by (with_reducible repeat (first | refine blk_drewN ?_ _ | refine blk_drew ?_ | refine blk_alloc ?_ _)); exact BK405.out) hb); have n6_ := Aside0.mk (blk_below (g := gb411) (o := .cells #[.slice Ao26 t406.length co26, .int .i64 t409, .int .i64 t410] 27 (0, 0)) (by (with_reducible repeat (first | refine blk_drewN ?_ _ | refine blk_drew ?_ | refine blk_alloc ?_ _)); exact BK411.out) hb); have n7_ := Aside0.mk (below_step (by repeat (first | (with_reducible first | exact HB.out | apply below_alloc | apply pw_below_drewN | apply below_drew1 | refine below_set ?_ GE392.out | refine below_set ?_ GE405.out | refine below_set ?_ GE411.out) | exact HB.out)) hb); have n8_ := Aside0.mk (hbox); have n9_ := Aside0.mk ((by rw [hg]; exact (below_size (by repeat (first | (with_reducible first | exact HB.out | apply below_alloc | apply pw_below_drewN | apply below_drew1 | refine below_set ?_ GE392.out | refine below_set ?_ GE405.out | refine below_set ?_ GE411.out) | exact HB.out))) : w.heap.size ≤ gb418)); have n10_ := Aside0.mk ((by rw [hg]; exact (below_size (by repeat (first | (with_reducible first | exact HB.out | apply below_alloc | apply pw_below_drewN | apply below_drew1 | refine below_set ?_ GE392.out | refine below_set ?_ GE405.out | refine below_set ?_ GE411.out) | exact HB.out))) : w.heap.size ≤ gb418)); have n11_ := Aside0.mk ((by rw [hg]; exact Nat.ne_of_lt (blk_lt (g := gb392) (o := .cells #[.slice A0_0 l0_0.length c0_0, .int .i64 a0_1, .int .i64 a0_2] 24 (0, 0)) (by (with_reducible repeat (first | refine blk_drewN ?_ _ | refine blk_drew ?_ | refine blk_alloc ?_ _)); exact BK392.out)) : gb392 ≠ gb418)); have n12_ := Aside0.mk ((by rw [hg]; exact Nat.ne_of_gt (blk_lt (g := gb392) (o := .cells #[.slice A0_0 l0_0.length c0_0, .int .i64 a0_1, .int .i64 a0_2] 24 (0, 0)) (by (with_reducible repeat (first | refine blk_drewN ?_ _ | refine blk_drew ?_ | refine blk_alloc ?_ _)); exact BK392.out)) : gb418 ≠ gb392)); have n13_ := Aside0.mk ((by rw [hg]; exact Nat.ne_of_lt (blk_lt (g := gb405) (o := .cells #[.slice Ao20 t399.length co20, .int .i64 t402, .int .i64 t403] 27 (0, 0)) (by (with_reducible repeat (first | refine blk_drewN ?_ _ | refine blk_drew ?_ | refine blk_alloc ?_ _)); exact BK405.out)) : gb405 ≠ gb418)); have n14_ := Aside0.mk ((by rw [hg]; exact Nat.ne_of_gt (blk_lt (g := gb405) (o := .cells #[.slice Ao20 t399.length co20, .int .i64 t402, .int .i64 t403] 27 (0, 0)) (by (with_reducible repeat (first | refine blk_drewN ?_ _ | refine blk_drew ?_ | refine blk_alloc ?_ _)); exact BK405.out)) : gb418 ≠ gb405)); have n15_ := Aside0.mk ((by rw [hg]; exact Nat.ne_of_lt (blk_lt (g := gb411) (o := .cells #[.slice Ao26 t406.length co26, .int .i64 t409, .int .i64 t410] 27 (0, 0)) (by (with_reducible repeat (first | refine blk_drewN ?_ _ | refine blk_drew ?_ | refine blk_alloc ?_ _)); exact BK411.out)) : gb411 ≠ gb418)); have n16_ := Aside0.mk ((by rw [hg]; exact Nat.ne_of_gt (blk_lt (g := gb411) (o := .cells #[.slice Ao26 t406.length co26, .int .i64 t409, .int .i64 t410] 27 (0, 0)) (by (with_reducible repeat (first | refine blk_drewN ?_ _ | refine blk_drew ?_ | refine blk_alloc ?_ _)); exact BK411.out)) : gb418 ≠ gb411)); clear HO396; clear HO401; clear HO408; clear HO414; clear BK392; clear BK405; clear BK411; clear HB; have HO396 := n0_; have HO401 := n1_; have HO408 := n2_; have HO414 := n3_; have BK392 := n4_; have BK405 := n5_; have BK411 := n6_; have HB := n7_; have BK418 := n8_; have GW418 := n9_; have GE418 := n10_; have NB392_418 := n11_; have NB418_392 := n12_; have NB405_418 := n13_; have NB418_405 := n14_; have NB411_418 := n15_; have NB418_411 := n16_; clear n0_ n1_ n2_ n3_ n4_ n5_ n6_ n7_ n8_ n9_ n10_ n11_ n12_ n13_ n14_ n15_ n16_; clear hb hbox hg; obtain ⟨Ao32, co32, eo32⟩ := Kd.R_slice HO414.out; subst eo32; have hnb33 := NB418_392.out; have hnc33 := NB392_418.out; have hnb34 := NB418_405.out; have hnc34 := NB405_418.out; have hnb35 := NB418_411.out; have hnc35 := NB411_418.out; have hcz36_0 : w31.cell? ⟨gb418, 0, none⟩ = some (.slice none 0 0) := (blk_cell BK418.out 0).trans rfl; have hcz36_1 : w31.cell? ⟨gb418, 1, none⟩ = some (.int .i64 0) := (blk_cell BK418.out 1).trans rfl; have hcz36_2 : w31.cell? ⟨gb418, 2, none⟩ = some (.int .i64 0) := (blk_cell BK418.out 2).trans rfl; have hfz36_0 := blk_frozen BK418.out 0; have hfz36_1 := blk_frozen BK418.out 1; have hfz36_2 := blk_frozen BK418.out 2))
    (try simp only [Act.put, List.setIfInBounds_toArray, List.set_cons_zero, List.set_cons_succ])
    go_cut [40] (fun v40 wc => ∃ (kq : Nat) (x40_10 : Bool), v40 = .bool x40_10 ∧ Aside0 (laws_FnExactMachTurn.j0 kq t404 t417 x40_10 l0_0 a0_1 a0_2 t399 t402 t403 t406 t409 t410 t412 t415 t416 = some r) ∧ Aside0 (kq ≤ k) ∧ Aside0 (Kd.R (Kd.int .i64) 3 wc w.heap.size (fun k_ => some k_ ≠ ((.slice Ao26 t406.length co26) : Value).ownBlock ∧ some k_ ≠ ((.slice Ao32 t412.length co32) : Value).ownBlock) (.slice Ao20 t399.length co20) t399) ∧ Aside0 (Kd.R (Kd.int .i64) 3 wc w.heap.size (fun k_ => some k_ ≠ ((.slice Ao20 t399.length co20) : Value).ownBlock ∧ some k_ ≠ ((.slice Ao32 t412.length co32) : Value).ownBlock) (.slice Ao26 t406.length co26) t406) ∧ Aside0 (Kd.R (Kd.int .i64) 3 wc w.heap.size (fun k_ => some k_ ≠ ((.slice Ao20 t399.length co20) : Value).ownBlock ∧ some k_ ≠ ((.slice Ao26 t406.length co26) : Value).ownBlock) (.slice Ao32 t412.length co32) t412) ∧ Aside0 (wc.heap[gb392]? = some (.cells #[(.slice A0_0 l0_0.length c0_0), .int .i64 a0_1, .int .i64 a0_2] 24 (0, 0))) ∧ Aside0 (wc.heap[gb405]? = some (.cells #[(.slice Ao20 t399.length co20), .int .i64 t402, .int .i64 t403] 27 (0, 0))) ∧ Aside0 (wc.heap[gb411]? = some (.cells #[(.slice Ao26 t406.length co26), .int .i64 t409, .int .i64 t410] 27 (0, 0))) ∧ Aside0 (wc.heap[gb418]? = some (.cells #[(.slice Ao32 t412.length co32), .int .i64 t415, .int .i64 t416] 27 (0, 0))) ∧ Aside0 (Below w.heap.size w wc))
    case first =>
      have H := HC11.out
      clear HC11
      replace H := Option.bind_eq_some_iff.mp H
      obtain ⟨t419, A370, H⟩ := H
      replace H : (if t419 = true then (laws_FnExactMachTurn.j0 k t404 t417 (t417 != t404) l0_0 a0_1 a0_2 t399 t402 t403 t406 t409 t410 t412 t415 t416) else (laws_FnExactMachTurn.j0 k t404 t417 true l0_0 a0_1 a0_2 t399 t402 t403 t406 t409 t410 t412 t415 t416)) = some r := H
      have A37 := Aside0.mk A370
      clear A370
      by_cases c38 : t419 = true
      · subst c38
        have H1 : (laws_FnExactMachTurn.j0 k t404 t417 (t417 != t404) l0_0 a0_1 a0_2 t399 t402 t403 t406 t409 t410 t412 t415 t416) = some r := by rw [if_pos rfl] at H; exact H
        clear H
        have H := H1
        clear H1
        have H' := Aside0.mk H
        clear H
        have hnb39 := NB418_392.out
        have hnc39 := NB392_418.out
        have hnb40 := NB418_405.out
        have hnc40 := NB405_418.out
        have hnb41 := NB418_411.out
        have hnc41 := NB411_418.out
        have hcz42_0 : w31.cell? ⟨gb418, 0, none⟩ = some (.slice none 0 0) := (blk_cell BK418.out 0).trans rfl
        have hcz42_1 : w31.cell? ⟨gb418, 1, none⟩ = some (.int .i64 0) := (blk_cell BK418.out 1).trans rfl
        have hcz42_2 : w31.cell? ⟨gb418, 2, none⟩ = some (.int .i64 0) := (blk_cell BK418.out 2).trans rfl
        have hfz42_0 := blk_frozen BK418.out 0
        have hfz42_1 := blk_frozen BK418.out 1
        have hfz42_2 := blk_frozen BK418.out 2
        have hnb43 := NB405_392.out
        have hnc43 := NB392_405.out
        have hnb44 := NB405_411.out
        have hnc44 := NB411_405.out
        have hcz45_0 : w31.cell? ⟨gb405, 0, none⟩ = some (.slice Ao20 t399.length co20) := (blk_cell BK405.out 0).trans rfl
        have hcz45_1 : w31.cell? ⟨gb405, 1, none⟩ = some (.int .i64 t402) := (blk_cell BK405.out 1).trans rfl
        have hcz45_2 : w31.cell? ⟨gb405, 2, none⟩ = some (.int .i64 t403) := (blk_cell BK405.out 2).trans rfl
        have hfz45_0 := blk_frozen BK405.out 0
        have hfz45_1 := blk_frozen BK405.out 1
        have hfz45_2 := blk_frozen BK405.out 2
        go_wp2_with (first | ((with_reducible refine gate_callee (f := 19) rfl ?_); refine goesL_ (some 34) rfl rfl Try.func19 (by kernel_rfl) rfl #[.agg #[.slice Ao32 t412.length co32, .int .i64 t415, .int .i64 t416], .agg #[.slice Ao20 t399.length co20, .int .i64 t402, .int .i64 t403]] rfl (by (try simp only [List.map_toArray, List.map_cons, List.map_nil]); first | done | rfl | (simp only [List.length_drop, List.length_take]; rfl)) ?_; (with_reducible refine (laws_eqMachine.calls k _ _ t412 t415 t416 _ _ t399 t402 t403 true _ ?side1 ?side2 ?side3 ?side4 A37.out).mono ?_); (case side1 => refine (Kd.R_reads' (e := 3) (base := w.heap.size) (ok := fun k_ => (((True ∧ some k_ ≠ (.slice Ao17 t394.length co17 : Value).ownBlock) ∧ some k_ ≠ (.slice Ao20 t399.length co20 : Value).ownBlock) ∧ some k_ ≠ (.slice Ao26 t406.length co26 : Value).ownBlock)) (n := t412.length) (c := co32) ?_).2.2; exact (by (with_reducible repeat (first | apply Kd.R_alloc | apply Kd.R_drewN | apply Kd.R_drew)); exact (Kd.R_mono (Kd.R_far (p := ⟨gb418, 2, none⟩) (Kd.R_far (p := ⟨gb418, 1, none⟩) (Kd.R_far (p := ⟨gb418, 0, none⟩) (Kd.R_types HO414.out BK418.out (by decide)) (fun _ hk => hk.2) (.slice Ao32 t412.length co32)) (fun _ hk => hk.2) (.int .i64 t415)) (fun _ hk => hk.2) (.int .i64 t416)) (fun _ h_ => h_.1)))); (case side2 => exact (Kd.R_reads' HO414.out).2.1); (case side3 => refine (Kd.R_reads' (e := 3) (base := w.heap.size) (ok := fun k_ => (((True ∧ some k_ ≠ (.slice Ao17 t394.length co17 : Value).ownBlock) ∧ some k_ ≠ (.slice Ao26 t406.length co26 : Value).ownBlock) ∧ some k_ ≠ (.slice Ao32 t412.length co32 : Value).ownBlock)) (n := t399.length) (c := co20) ?_).2.2; exact (by (with_reducible repeat (first | apply Kd.R_alloc | apply Kd.R_drewN | apply Kd.R_drew)); exact (Kd.R_mono (Kd.R_far (p := ⟨gb418, 2, none⟩) (Kd.R_far (p := ⟨gb418, 1, none⟩) (Kd.R_far (p := ⟨gb418, 0, none⟩) (Kd.R_types HO401.out BK418.out (by decide)) (fun _ hk => hk.2) (.slice Ao32 t412.length co32)) (fun _ hk => hk.2) (.int .i64 t415)) (fun _ hk => hk.2) (.int .i64 t416)) (fun _ h_ => h_.1)))); (case side4 => exact (Kd.R_reads' HO401.out).2.1); rintro e w46 ⟨rfl, hb⟩; refine ⟨_, rfl, ?_⟩; have n0_ := Aside0.mk (Kd.R_below (by (with_reducible repeat (first | apply Kd.R_alloc | apply Kd.R_drewN | apply Kd.R_drew)); exact (Kd.R_mono (Kd.R_far (p := ⟨gb418, 2, none⟩) (Kd.R_far (p := ⟨gb418, 1, none⟩) (Kd.R_far (p := ⟨gb418, 0, none⟩) (Kd.R_types HO396.out BK418.out (by decide)) (fun _ hk => hk.2) (.slice Ao32 t412.length co32)) (fun _ hk => hk.2) (.int .i64 t415)) (fun _ hk => hk.2) (.int .i64 t416)) (fun _ h_ => h_.1))) hb); have n1_ := Aside0.mk (Kd.R_below (by (with_reducible repeat (first | apply Kd.R_alloc | apply Kd.R_drewN | apply Kd.R_drew)); exact (Kd.R_mono (Kd.R_far (p := ⟨gb418, 2, none⟩) (Kd.R_far (p := ⟨gb418, 1, none⟩) (Kd.R_far (p := ⟨gb418, 0, none⟩) (Kd.R_types HO401.out BK418.out (by decide)) (fun _ hk => hk.2) (.slice Ao32 t412.length co32)) (fun _ hk => hk.2) (.int .i64 t415)) (fun _ hk => hk.2) (.int .i64 t416)) (fun _ h_ => h_.1))) hb); have n2_ := Aside0.mk (Kd.R_below (by (with_reducible repeat (first | apply Kd.R_alloc | apply Kd.R_drewN | apply Kd.R_drew)); exact (Kd.R_mono (Kd.R_far (p := ⟨gb418, 2, none⟩) (Kd.R_far (p := ⟨gb418, 1, none⟩) (Kd.R_far (p := ⟨gb418, 0, none⟩) (Kd.R_types HO408.out BK418.out (by decide)) (fun _ hk => hk.2) (.slice Ao32 t412.length co32)) (fun _ hk => hk.2) (.int .i64 t415)) (fun _ hk => hk.2) (.int .i64 t416)) (fun _ h_ => h_.1))) hb); have n3_ := Aside0.mk (Kd.R_below (by (with_reducible repeat (first | apply Kd.R_alloc | apply Kd.R_drewN | apply Kd.R_drew)); exact (Kd.R_mono (Kd.R_far (p := ⟨gb418, 2, none⟩) (Kd.R_far (p := ⟨gb418, 1, none⟩) (Kd.R_far (p := ⟨gb418, 0, none⟩) (Kd.R_types HO414.out BK418.out (by decide)) (fun _ hk => hk.2) (.slice Ao32 t412.length co32)) (fun _ hk => hk.2) (.int .i64 t415)) (fun _ hk => hk.2) (.int .i64 t416)) (fun _ h_ => h_.1))) hb); have n4_ := Aside0.mk (blk_below (g := gb392) (o := .cells #[.slice A0_0 l0_0.length c0_0, .int .i64 a0_1, .int .i64 a0_2] 24 (0, 0)) (by (with_reducible repeat (first | refine blk_drewN ?_ _ | refine blk_drew ?_ | refine blk_alloc ?_ _)); refine blk_far ?_ NB392_418.out _; (with_reducible repeat (first | refine blk_drewN ?_ _ | refine blk_drew ?_ | refine blk_alloc ?_ _)); refine blk_far ?_ NB392_418.out _; (with_reducible repeat (first | refine blk_drewN ?_ _ | refine blk_drew ?_ | refine blk_alloc ?_ _)); refine blk_far ?_ NB392_418.out _; (with_reducible repeat (first | refine blk_drewN ?_ _ | refine blk_drew ?_ | refine blk_alloc ?_ _)); exact BK392.out) hb); have n5_ := Aside0.mk (blk_below (g := gb405) (o := .cells #[.slice Ao20 t399.length co20, .int .i64 t402, .int .i64 t403] 27 (0, 0)) (by (with_reducible repeat (first | refine blk_drewN ?_ _ | refine blk_drew ?_ | refine blk_alloc ?_ _)); refine blk_far ?_ NB405_418.out _; (with_reducible repeat (first | refine blk_drewN ?_ _ | refine blk_drew ?_ | refine blk_alloc ?_ _)); refine blk_far ?_ NB405_418.out _; (with_reducible repeat (first | refine blk_drewN ?_ _ | refine blk_drew ?_ | refine blk_alloc ?_ _)); refine blk_far ?_ NB405_418.out _; (with_reducible repeat (first | refine blk_drewN ?_ _ | refine blk_drew ?_ | refine blk_alloc ?_ _)); exact BK405.out) hb); have n6_ := Aside0.mk (blk_below (g := gb411) (o := .cells #[.slice Ao26 t406.length co26, .int .i64 t409, .int .i64 t410] 27 (0, 0)) (by (with_reducible repeat (first | refine blk_drewN ?_ _ | refine blk_drew ?_ | refine blk_alloc ?_ _)); refine blk_far ?_ NB411_418.out _; (with_reducible repeat (first | refine blk_drewN ?_ _ | refine blk_drew ?_ | refine blk_alloc ?_ _)); refine blk_far ?_ NB411_418.out _; (with_reducible repeat (first | refine blk_drewN ?_ _ | refine blk_drew ?_ | refine blk_alloc ?_ _)); refine blk_far ?_ NB411_418.out _; (with_reducible repeat (first | refine blk_drewN ?_ _ | refine blk_drew ?_ | refine blk_alloc ?_ _)); exact BK411.out) hb); have n7_ := Aside0.mk (blk_below (g := gb418) (o := .cells #[.slice Ao32 t412.length co32, .int .i64 t415, .int .i64 t416] 27 (0, 0)) (by (with_reducible repeat (first | refine blk_drewN ?_ _ | refine blk_drew ?_ | refine blk_alloc ?_ _)); refine blk_put (cs := #[.slice Ao32 t412.length co32, .int .i64 t415, .int .i64 0]) ?_ 2 _ rfl; (with_reducible repeat (first | refine blk_drewN ?_ _ | refine blk_drew ?_ | refine blk_alloc ?_ _)); refine blk_put (cs := #[.slice Ao32 t412.length co32, .int .i64 0, .int .i64 0]) ?_ 1 _ rfl; (with_reducible repeat (first | refine blk_drewN ?_ _ | refine blk_drew ?_ | refine blk_alloc ?_ _)); refine blk_put (cs := #[.slice none 0 0, .int .i64 0, .int .i64 0]) ?_ 0 _ rfl; (with_reducible repeat (first | refine blk_drewN ?_ _ | refine blk_drew ?_ | refine blk_alloc ?_ _)); exact BK418.out) hb); have n8_ := Aside0.mk (below_step (by repeat (first | (with_reducible first | exact HB.out | apply below_alloc | apply pw_below_drewN | apply below_drew1 | refine below_set ?_ GE392.out | refine below_set ?_ GE405.out | refine below_set ?_ GE411.out | refine below_set ?_ GE418.out) | exact HB.out)) hb); clear HO396; clear HO401; clear HO408; clear HO414; clear BK392; clear BK405; clear BK411; clear BK418; clear HB; have HO396 := n0_; have HO401 := n1_; have HO408 := n2_; have HO414 := n3_; have BK392 := n4_; have BK405 := n5_; have BK411 := n6_; have BK418 := n7_; have HB := n8_; clear n0_ n1_ n2_ n3_ n4_ n5_ n6_ n7_ n8_; (try clear hb); (try clear hb2); (try clear hk); (try clear hi)))
        go_meet
        case rel => exact ⟨_, ((t417 != t404)), (by first | rfl | (simp; done) | (simp [*]; done) | (simp only [IntKind.wrap_i64, wrap64]; done)), H', ⟨by first | omega | exact Nat.le_refl _⟩, ⟨by (with_reducible repeat (first | apply Kd.R_alloc | apply Kd.R_drewN | apply Kd.R_drew)); exact Kd.R_mono HO401.out (fun _ hk => ⟨hk.1.2, hk.2⟩)⟩, ⟨by (with_reducible repeat (first | apply Kd.R_alloc | apply Kd.R_drewN | apply Kd.R_drew)); exact Kd.R_mono HO408.out (fun _ hk => ⟨hk.1.2, hk.2⟩)⟩, ⟨by (with_reducible repeat (first | apply Kd.R_alloc | apply Kd.R_drewN | apply Kd.R_drew)); exact Kd.R_mono HO414.out (fun _ hk => ⟨hk.1.2, hk.2⟩)⟩, ⟨by (with_reducible repeat (first | refine blk_drewN ?_ _ | refine blk_drew ?_ | refine blk_alloc ?_ _)); exact BK392.out⟩, ⟨by (with_reducible repeat (first | refine blk_drewN ?_ _ | refine blk_drew ?_ | refine blk_alloc ?_ _)); exact BK405.out⟩, ⟨by (with_reducible repeat (first | refine blk_drewN ?_ _ | refine blk_drew ?_ | refine blk_alloc ?_ _)); exact BK411.out⟩, ⟨by (with_reducible repeat (first | refine blk_drewN ?_ _ | refine blk_drew ?_ | refine blk_alloc ?_ _)); exact BK418.out⟩, ⟨by repeat (first | (with_reducible first | exact HB.out | apply below_alloc | apply pw_below_drewN | apply below_drew1 | refine below_set ?_ GE392.out | refine below_set ?_ GE405.out | refine below_set ?_ GE411.out | refine below_set ?_ GE418.out) | exact HB.out)⟩⟩
      · replace c38 := Bool.eq_false_iff.mpr c38
        subst c38
        have H1 : (laws_FnExactMachTurn.j0 k t404 t417 true l0_0 a0_1 a0_2 t399 t402 t403 t406 t409 t410 t412 t415 t416) = some r := by rw [if_neg (show ¬ (false = true) by decide)] at H; exact H
        clear H
        have H := H1
        clear H1
        have H' := Aside0.mk H
        clear H
        have hnb47 := NB418_392.out
        have hnc47 := NB392_418.out
        have hnb48 := NB418_405.out
        have hnc48 := NB405_418.out
        have hnb49 := NB418_411.out
        have hnc49 := NB411_418.out
        have hcz50_0 : w31.cell? ⟨gb418, 0, none⟩ = some (.slice none 0 0) := (blk_cell BK418.out 0).trans rfl
        have hcz50_1 : w31.cell? ⟨gb418, 1, none⟩ = some (.int .i64 0) := (blk_cell BK418.out 1).trans rfl
        have hcz50_2 : w31.cell? ⟨gb418, 2, none⟩ = some (.int .i64 0) := (blk_cell BK418.out 2).trans rfl
        have hfz50_0 := blk_frozen BK418.out 0
        have hfz50_1 := blk_frozen BK418.out 1
        have hfz50_2 := blk_frozen BK418.out 2
        have hnb51 := NB405_392.out
        have hnc51 := NB392_405.out
        have hnb52 := NB405_411.out
        have hnc52 := NB411_405.out
        have hcz53_0 : w31.cell? ⟨gb405, 0, none⟩ = some (.slice Ao20 t399.length co20) := (blk_cell BK405.out 0).trans rfl
        have hcz53_1 : w31.cell? ⟨gb405, 1, none⟩ = some (.int .i64 t402) := (blk_cell BK405.out 1).trans rfl
        have hcz53_2 : w31.cell? ⟨gb405, 2, none⟩ = some (.int .i64 t403) := (blk_cell BK405.out 2).trans rfl
        have hfz53_0 := blk_frozen BK405.out 0
        have hfz53_1 := blk_frozen BK405.out 1
        have hfz53_2 := blk_frozen BK405.out 2
        go_wp2_with (first | ((with_reducible refine gate_callee (f := 19) rfl ?_); refine goesL_ (some 34) rfl rfl Try.func19 (by kernel_rfl) rfl #[.agg #[.slice Ao32 t412.length co32, .int .i64 t415, .int .i64 t416], .agg #[.slice Ao20 t399.length co20, .int .i64 t402, .int .i64 t403]] rfl (by (try simp only [List.map_toArray, List.map_cons, List.map_nil]); first | done | rfl | (simp only [List.length_drop, List.length_take]; rfl)) ?_; (with_reducible refine (laws_eqMachine.calls k _ _ t412 t415 t416 _ _ t399 t402 t403 false _ ?side1 ?side2 ?side3 ?side4 A37.out).mono ?_); (case side1 => refine (Kd.R_reads' (e := 3) (base := w.heap.size) (ok := fun k_ => (((True ∧ some k_ ≠ (.slice Ao17 t394.length co17 : Value).ownBlock) ∧ some k_ ≠ (.slice Ao20 t399.length co20 : Value).ownBlock) ∧ some k_ ≠ (.slice Ao26 t406.length co26 : Value).ownBlock)) (n := t412.length) (c := co32) ?_).2.2; exact (by (with_reducible repeat (first | apply Kd.R_alloc | apply Kd.R_drewN | apply Kd.R_drew)); exact (Kd.R_mono (Kd.R_far (p := ⟨gb418, 2, none⟩) (Kd.R_far (p := ⟨gb418, 1, none⟩) (Kd.R_far (p := ⟨gb418, 0, none⟩) (Kd.R_types HO414.out BK418.out (by decide)) (fun _ hk => hk.2) (.slice Ao32 t412.length co32)) (fun _ hk => hk.2) (.int .i64 t415)) (fun _ hk => hk.2) (.int .i64 t416)) (fun _ h_ => h_.1)))); (case side2 => exact (Kd.R_reads' HO414.out).2.1); (case side3 => refine (Kd.R_reads' (e := 3) (base := w.heap.size) (ok := fun k_ => (((True ∧ some k_ ≠ (.slice Ao17 t394.length co17 : Value).ownBlock) ∧ some k_ ≠ (.slice Ao26 t406.length co26 : Value).ownBlock) ∧ some k_ ≠ (.slice Ao32 t412.length co32 : Value).ownBlock)) (n := t399.length) (c := co20) ?_).2.2; exact (by (with_reducible repeat (first | apply Kd.R_alloc | apply Kd.R_drewN | apply Kd.R_drew)); exact (Kd.R_mono (Kd.R_far (p := ⟨gb418, 2, none⟩) (Kd.R_far (p := ⟨gb418, 1, none⟩) (Kd.R_far (p := ⟨gb418, 0, none⟩) (Kd.R_types HO401.out BK418.out (by decide)) (fun _ hk => hk.2) (.slice Ao32 t412.length co32)) (fun _ hk => hk.2) (.int .i64 t415)) (fun _ hk => hk.2) (.int .i64 t416)) (fun _ h_ => h_.1)))); (case side4 => exact (Kd.R_reads' HO401.out).2.1); rintro e w54 ⟨rfl, hb⟩; refine ⟨_, rfl, ?_⟩; have n0_ := Aside0.mk (Kd.R_below (by (with_reducible repeat (first | apply Kd.R_alloc | apply Kd.R_drewN | apply Kd.R_drew)); exact (Kd.R_mono (Kd.R_far (p := ⟨gb418, 2, none⟩) (Kd.R_far (p := ⟨gb418, 1, none⟩) (Kd.R_far (p := ⟨gb418, 0, none⟩) (Kd.R_types HO396.out BK418.out (by decide)) (fun _ hk => hk.2) (.slice Ao32 t412.length co32)) (fun _ hk => hk.2) (.int .i64 t415)) (fun _ hk => hk.2) (.int .i64 t416)) (fun _ h_ => h_.1))) hb); have n1_ := Aside0.mk (Kd.R_below (by (with_reducible repeat (first | apply Kd.R_alloc | apply Kd.R_drewN | apply Kd.R_drew)); exact (Kd.R_mono (Kd.R_far (p := ⟨gb418, 2, none⟩) (Kd.R_far (p := ⟨gb418, 1, none⟩) (Kd.R_far (p := ⟨gb418, 0, none⟩) (Kd.R_types HO401.out BK418.out (by decide)) (fun _ hk => hk.2) (.slice Ao32 t412.length co32)) (fun _ hk => hk.2) (.int .i64 t415)) (fun _ hk => hk.2) (.int .i64 t416)) (fun _ h_ => h_.1))) hb); have n2_ := Aside0.mk (Kd.R_below (by (with_reducible repeat (first | apply Kd.R_alloc | apply Kd.R_drewN | apply Kd.R_drew)); exact (Kd.R_mono (Kd.R_far (p := ⟨gb418, 2, none⟩) (Kd.R_far (p := ⟨gb418, 1, none⟩) (Kd.R_far (p := ⟨gb418, 0, none⟩) (Kd.R_types HO408.out BK418.out (by decide)) (fun _ hk => hk.2) (.slice Ao32 t412.length co32)) (fun _ hk => hk.2) (.int .i64 t415)) (fun _ hk => hk.2) (.int .i64 t416)) (fun _ h_ => h_.1))) hb); have n3_ := Aside0.mk (Kd.R_below (by (with_reducible repeat (first | apply Kd.R_alloc | apply Kd.R_drewN | apply Kd.R_drew)); exact (Kd.R_mono (Kd.R_far (p := ⟨gb418, 2, none⟩) (Kd.R_far (p := ⟨gb418, 1, none⟩) (Kd.R_far (p := ⟨gb418, 0, none⟩) (Kd.R_types HO414.out BK418.out (by decide)) (fun _ hk => hk.2) (.slice Ao32 t412.length co32)) (fun _ hk => hk.2) (.int .i64 t415)) (fun _ hk => hk.2) (.int .i64 t416)) (fun _ h_ => h_.1))) hb); have n4_ := Aside0.mk (blk_below (g := gb392) (o := .cells #[.slice A0_0 l0_0.length c0_0, .int .i64 a0_1, .int .i64 a0_2] 24 (0, 0)) (by (with_reducible repeat (first | refine blk_drewN ?_ _ | refine blk_drew ?_ | refine blk_alloc ?_ _)); refine blk_far ?_ NB392_418.out _; (with_reducible repeat (first | refine blk_drewN ?_ _ | refine blk_drew ?_ | refine blk_alloc ?_ _)); refine blk_far ?_ NB392_418.out _; (with_reducible repeat (first | refine blk_drewN ?_ _ | refine blk_drew ?_ | refine blk_alloc ?_ _)); refine blk_far ?_ NB392_418.out _; (with_reducible repeat (first | refine blk_drewN ?_ _ | refine blk_drew ?_ | refine blk_alloc ?_ _)); exact BK392.out) hb); have n5_ := Aside0.mk (blk_below (g := gb405) (o := .cells #[.slice Ao20 t399.length co20, .int .i64 t402, .int .i64 t403] 27 (0, 0)) (by (with_reducible repeat (first | refine blk_drewN ?_ _ | refine blk_drew ?_ | refine blk_alloc ?_ _)); refine blk_far ?_ NB405_418.out _; (with_reducible repeat (first | refine blk_drewN ?_ _ | refine blk_drew ?_ | refine blk_alloc ?_ _)); refine blk_far ?_ NB405_418.out _; (with_reducible repeat (first | refine blk_drewN ?_ _ | refine blk_drew ?_ | refine blk_alloc ?_ _)); refine blk_far ?_ NB405_418.out _; (with_reducible repeat (first | refine blk_drewN ?_ _ | refine blk_drew ?_ | refine blk_alloc ?_ _)); exact BK405.out) hb); have n6_ := Aside0.mk (blk_below (g := gb411) (o := .cells #[.slice Ao26 t406.length co26, .int .i64 t409, .int .i64 t410] 27 (0, 0)) (by (with_reducible repeat (first | refine blk_drewN ?_ _ | refine blk_drew ?_ | refine blk_alloc ?_ _)); refine blk_far ?_ NB411_418.out _; (with_reducible repeat (first | refine blk_drewN ?_ _ | refine blk_drew ?_ | refine blk_alloc ?_ _)); refine blk_far ?_ NB411_418.out _; (with_reducible repeat (first | refine blk_drewN ?_ _ | refine blk_drew ?_ | refine blk_alloc ?_ _)); refine blk_far ?_ NB411_418.out _; (with_reducible repeat (first | refine blk_drewN ?_ _ | refine blk_drew ?_ | refine blk_alloc ?_ _)); exact BK411.out) hb); have n7_ := Aside0.mk (blk_below (g := gb418) (o := .cells #[.slice Ao32 t412.length co32, .int .i64 t415, .int .i64 t416] 27 (0, 0)) (by (with_reducible repeat (first | refine blk_drewN ?_ _ | refine blk_drew ?_ | refine blk_alloc ?_ _)); refine blk_put (cs := #[.slice Ao32 t412.length co32, .int .i64 t415, .int .i64 0]) ?_ 2 _ rfl; (with_reducible repeat (first | refine blk_drewN ?_ _ | refine blk_drew ?_ | refine blk_alloc ?_ _)); refine blk_put (cs := #[.slice Ao32 t412.length co32, .int .i64 0, .int .i64 0]) ?_ 1 _ rfl; (with_reducible repeat (first | refine blk_drewN ?_ _ | refine blk_drew ?_ | refine blk_alloc ?_ _)); refine blk_put (cs := #[.slice none 0 0, .int .i64 0, .int .i64 0]) ?_ 0 _ rfl; (with_reducible repeat (first | refine blk_drewN ?_ _ | refine blk_drew ?_ | refine blk_alloc ?_ _)); exact BK418.out) hb); have n8_ := Aside0.mk (below_step (by repeat (first | (with_reducible first | exact HB.out | apply below_alloc | apply pw_below_drewN | apply below_drew1 | refine below_set ?_ GE392.out | refine below_set ?_ GE405.out | refine below_set ?_ GE411.out | refine below_set ?_ GE418.out) | exact HB.out)) hb); clear HO396; clear HO401; clear HO408; clear HO414; clear BK392; clear BK405; clear BK411; clear BK418; clear HB; have HO396 := n0_; have HO401 := n1_; have HO408 := n2_; have HO414 := n3_; have BK392 := n4_; have BK405 := n5_; have BK411 := n6_; have BK418 := n7_; have HB := n8_; clear n0_ n1_ n2_ n3_ n4_ n5_ n6_ n7_ n8_; (try clear hb); (try clear hb2); (try clear hk); (try clear hi)))
        go_meet
        case rel => exact ⟨_, (true), (by first | rfl | (simp; done) | (simp [*]; done) | (simp only [IntKind.wrap_i64, wrap64]; done)), H', ⟨by first | omega | exact Nat.le_refl _⟩, ⟨by (with_reducible repeat (first | apply Kd.R_alloc | apply Kd.R_drewN | apply Kd.R_drew)); exact Kd.R_mono HO401.out (fun _ hk => ⟨hk.1.2, hk.2⟩)⟩, ⟨by (with_reducible repeat (first | apply Kd.R_alloc | apply Kd.R_drewN | apply Kd.R_drew)); exact Kd.R_mono HO408.out (fun _ hk => ⟨hk.1.2, hk.2⟩)⟩, ⟨by (with_reducible repeat (first | apply Kd.R_alloc | apply Kd.R_drewN | apply Kd.R_drew)); exact Kd.R_mono HO414.out (fun _ hk => ⟨hk.1.2, hk.2⟩)⟩, ⟨by (with_reducible repeat (first | refine blk_drewN ?_ _ | refine blk_drew ?_ | refine blk_alloc ?_ _)); exact BK392.out⟩, ⟨by (with_reducible repeat (first | refine blk_drewN ?_ _ | refine blk_drew ?_ | refine blk_alloc ?_ _)); exact BK405.out⟩, ⟨by (with_reducible repeat (first | refine blk_drewN ?_ _ | refine blk_drew ?_ | refine blk_alloc ?_ _)); exact BK411.out⟩, ⟨by (with_reducible repeat (first | refine blk_drewN ?_ _ | refine blk_drew ?_ | refine blk_alloc ?_ _)); exact BK418.out⟩, ⟨by repeat (first | (with_reducible first | exact HB.out | apply below_alloc | apply pw_below_drewN | apply below_drew1 | refine below_set ?_ GE392.out | refine below_set ?_ GE405.out | refine below_set ?_ GE411.out | refine below_set ?_ GE418.out) | exact HB.out)⟩⟩
    case rest =>
      clear HC11
      try clear c1
      try clear c2
      try clear p2
      try clear c3
      try clear c3b0
      try clear c4
      try clear c5
      try clear c9
      try clear c15
      try clear c17
      try clear c19
      try clear c21
      try clear c27
      try clear c28
      try clear c33
      try clear c34
      try clear c35
      try clear c38
      try clear c39
      try clear c40
      try clear c41
      try clear c43
      try clear c44
      try clear c47
      try clear c48
      try clear c49
      try clear c51
      try clear c52
      try clear hcz13_0
      try clear hcz13_1
      try clear hcz13_2
      try clear hcz15_0
      try clear hcz15_1
      try clear hcz15_2
      try clear hcz22_0
      try clear hcz22_1
      try clear hcz22_2
      try clear hcz23_0
      try clear hcz23_1
      try clear hcz23_2
      try clear hcz29_0
      try clear hcz29_1
      try clear hcz29_2
      try clear hcz36_0
      try clear hcz36_1
      try clear hcz36_2
      try clear hcz42_0
      try clear hcz42_1
      try clear hcz42_2
      try clear hcz45_0
      try clear hcz45_1
      try clear hcz45_2
      try clear hcz50_0
      try clear hcz50_1
      try clear hcz50_2
      try clear hcz53_0
      try clear hcz53_1
      try clear hcz53_2
      try clear hcz5_0
      try clear hcz5_1
      try clear hcz5_2
      try clear hfz13_0
      try clear hfz13_1
      try clear hfz13_2
      try clear hfz15_0
      try clear hfz15_1
      try clear hfz15_2
      try clear hfz22_0
      try clear hfz22_1
      try clear hfz22_2
      try clear hfz23_0
      try clear hfz23_1
      try clear hfz23_2
      try clear hfz29_0
      try clear hfz29_1
      try clear hfz29_2
      try clear hfz36_0
      try clear hfz36_1
      try clear hfz36_2
      try clear hfz42_0
      try clear hfz42_1
      try clear hfz42_2
      try clear hfz45_0
      try clear hfz45_1
      try clear hfz45_2
      try clear hfz50_0
      try clear hfz50_1
      try clear hfz50_2
      try clear hfz53_0
      try clear hfz53_1
      try clear hfz53_2
      try clear hfz5_0
      try clear hfz5_1
      try clear hfz5_2
      obtain ⟨kq, x40_10, rfl, HA, HJ10, HO_406000, HO_412000, HO_419000, BK392, BK405, BK411, BK418, HB⟩ := hcut
      cases kq with
      | zero => exact absurd HA.out (by simp [laws_FnExactMachTurn.j0])
      | succ kj10 =>
        have H := HA.out
        clear HA
        simp only [laws_FnExactMachTurn.j0] at H
        by_cases c55 : x40_10 = true
        · subst c55
          have H1 : (some false) = some r := by rw [if_pos rfl] at H; exact H
          clear H
          have H := H1
          clear H1
          obtain rfl := Option.some.inj H
          go_wp2
          go_ret
          exact ⟨by first | rfl | (simp [errW_none, errW_some] <;> rfl) | (simp [*, errW_none, errW_some] <;> rfl), by repeat (first | (with_reducible first | exact HB.out | apply below_alloc | apply pw_below_drewN | apply below_drew1 | refine below_set ?_ GE392.out | refine below_set ?_ GE405.out | refine below_set ?_ GE411.out | refine below_set ?_ GE418.out) | exact HB.out)⟩
        · replace c55 := Bool.eq_false_iff.mpr c55
          subst c55
          have H1 : ((laws_toMachine.f kj10 l0_0 a0_1 a0_2).bind fun bt420 => ((laws_eqMachine.f kj10 t406 t409 t410 bt420.1 bt420.2.1 bt420.2.2).bind fun t425 => (if t425 = true then ((laws_markMachine.f kj10 t406 t409 t410 1).bind fun bt426 => (if bt426.1 < 0 then (laws_FnExactMachTurn.j1 kj10 t404 true l0_0 a0_1 a0_2 t399 t402 t403 t412 t415 t416) else ((laws_eqMachine.f kj10 t412 t415 t416 t399 t402 t403).bind fun t428 => (if t428 = true then (laws_FnExactMachTurn.j1 kj10 t404 (t417 != t404) l0_0 a0_1 a0_2 t399 t402 t403 t412 t415 t416) else (laws_FnExactMachTurn.j1 kj10 t404 true l0_0 a0_1 a0_2 t399 t402 t403 t412 t415 t416))))) else (some false)))) = some r := by rw [if_neg (show ¬ (false = true) by decide)] at H; exact H
          clear H
          have H := H1
          clear H1
          replace H := Option.bind_eq_some_iff.mp H
          obtain ⟨⟨t420, t423, t424⟩, A560, H⟩ := H
          replace H : ((laws_eqMachine.f kj10 t406 t409 t410 t420 t423 t424).bind fun t425 => (if t425 = true then ((laws_markMachine.f kj10 t406 t409 t410 1).bind fun bt426 => (if bt426.1 < 0 then (laws_FnExactMachTurn.j1 kj10 t404 true l0_0 a0_1 a0_2 t399 t402 t403 t412 t415 t416) else ((laws_eqMachine.f kj10 t412 t415 t416 t399 t402 t403).bind fun t428 => (if t428 = true then (laws_FnExactMachTurn.j1 kj10 t404 (t417 != t404) l0_0 a0_1 a0_2 t399 t402 t403 t412 t415 t416) else (laws_FnExactMachTurn.j1 kj10 t404 true l0_0 a0_1 a0_2 t399 t402 t403 t412 t415 t416))))) else (some false))) = some r := H
          have A56 := Aside0.mk A560
          clear A560
          replace H := Option.bind_eq_some_iff.mp H
          obtain ⟨t425, A570, H⟩ := H
          replace H : (if t425 = true then ((laws_markMachine.f kj10 t406 t409 t410 1).bind fun bt426 => (if bt426.1 < 0 then (laws_FnExactMachTurn.j1 kj10 t404 true l0_0 a0_1 a0_2 t399 t402 t403 t412 t415 t416) else ((laws_eqMachine.f kj10 t412 t415 t416 t399 t402 t403).bind fun t428 => (if t428 = true then (laws_FnExactMachTurn.j1 kj10 t404 (t417 != t404) l0_0 a0_1 a0_2 t399 t402 t403 t412 t415 t416) else (laws_FnExactMachTurn.j1 kj10 t404 true l0_0 a0_1 a0_2 t399 t402 t403 t412 t415 t416))))) else (some false)) = some r := H
          have A57 := Aside0.mk A570
          clear A570
          by_cases c58 : t425 = true
          · subst c58
            have H1 : ((laws_markMachine.f kj10 t406 t409 t410 1).bind fun bt426 => (if bt426.1 < 0 then (laws_FnExactMachTurn.j1 kj10 t404 true l0_0 a0_1 a0_2 t399 t402 t403 t412 t415 t416) else ((laws_eqMachine.f kj10 t412 t415 t416 t399 t402 t403).bind fun t428 => (if t428 = true then (laws_FnExactMachTurn.j1 kj10 t404 (t417 != t404) l0_0 a0_1 a0_2 t399 t402 t403 t412 t415 t416) else (laws_FnExactMachTurn.j1 kj10 t404 true l0_0 a0_1 a0_2 t399 t402 t403 t412 t415 t416))))) = some r := by rw [if_pos rfl] at H; exact H
            clear H
            have H := H1
            clear H1
            replace H := Option.bind_eq_some_iff.mp H
            obtain ⟨⟨t426, t427⟩, A590, H⟩ := H
            replace H : (if t426 < 0 then (laws_FnExactMachTurn.j1 kj10 t404 true l0_0 a0_1 a0_2 t399 t402 t403 t412 t415 t416) else ((laws_eqMachine.f kj10 t412 t415 t416 t399 t402 t403).bind fun t428 => (if t428 = true then (laws_FnExactMachTurn.j1 kj10 t404 (t417 != t404) l0_0 a0_1 a0_2 t399 t402 t403 t412 t415 t416) else (laws_FnExactMachTurn.j1 kj10 t404 true l0_0 a0_1 a0_2 t399 t402 t403 t412 t415 t416)))) = some r := H
            have A59 := Aside0.mk A590
            clear A590
            have HC60 := Aside0.mk H
            clear H
            try go_wp2
            have n0_ := Aside0.mk (Kd.R_drew HO_406000.out)
            have n1_ := Aside0.mk (Kd.R_drew HO_412000.out)
            have n2_ := Aside0.mk (Kd.R_drew HO_419000.out)
            have n3_ := Aside0.mk (blk_drew BK392.out)
            have n4_ := Aside0.mk (blk_drew BK405.out)
            have n5_ := Aside0.mk (blk_drew BK411.out)
            have n6_ := Aside0.mk (blk_drew BK418.out)
            have n7_ := Aside0.mk (below_drew1 HB.out)
            clear HO_406000
            clear HO_412000
            clear HO_419000
            clear BK392
            clear BK405
            clear BK411
            clear BK418
            clear HB
            have HO_406000 := n0_
            have HO_412000 := n1_
            have HO_419000 := n2_
            have BK392 := n3_
            have BK405 := n4_
            have BK411 := n5_
            have BK418 := n6_
            have HB := n7_
            clear n0_ n1_ n2_ n3_ n4_ n5_ n6_ n7_
            refine start_ (n := 5) (S := fun w' => w'.cell? ⟨gb411, 0, none⟩ = some (.slice Ao26 t406.length co26) ∧ w'.cell? ⟨gb411, 1, none⟩ = some (.int .i64 t409) ∧ w'.cell? ⟨gb411, 2, none⟩ = some (.int .i64 t410) ∧ w'.cell? ⟨gb392, 0, none⟩ = some (.slice A0_0 l0_0.length c0_0) ∧ w'.cell? ⟨gb392, 1, none⟩ = some (.int .i64 a0_1) ∧ w'.cell? ⟨gb392, 2, none⟩ = some (.int .i64 a0_2)) (ds := []) #[false, false, false, false, false] (by kernel_rfl) rfl rfl ⟨(blk_cell BK411.out 0).trans rfl, (blk_cell BK411.out 1).trans rfl, (blk_cell BK411.out 2).trans rfl, (blk_cell BK392.out 0).trans rfl, (blk_cell BK392.out 1).trans rfl, (blk_cell BK392.out 2).trans rfl⟩ (fun hHeld => ?_)
            generalize wc.drew = w61 at HO_406000 HO_412000 HO_419000 BK392 BK405 BK411 BK418 HB hHeld ⊢
            refine take_ (i := 0) (N := some 41) (v := ?_) (a' := ?_) #[true, false, false, false, false] rfl rfl (by kernel_rfl) (fun _ _ _ h => h) (Or.inl ⟨by rfl, ?_⟩) hHeld ?_ ?_
            rotate_left
            · rintro w' ⟨s0, s1, s2, s3, s4, s5⟩
              go_simp
              with_reducible rfl
            rotate_left
            · simp only [Act.put, List.setIfInBounds_toArray, List.set_cons_zero, List.set_cons_succ, i64_w, i32_w]
              rfl
            refine take_ (i := 1) (N := some 42) (v := ?_) (a' := ?_) #[true, true, false, false, false] rfl rfl (by kernel_rfl) (fun _ _ _ h => h) (Or.inl ⟨by rfl, ?_⟩) hHeld ?_ ?_
            rotate_left
            · rintro w' ⟨s0, s1, s2, s3, s4, s5⟩
              go_simp
              with_reducible rfl
            rotate_left
            · simp only [Act.put, List.setIfInBounds_toArray, List.set_cons_zero, List.set_cons_succ, i64_w, i32_w]
              rfl
            refine one_ (i := 2) (N := some 43) #[true, true, true, false, false] rfl rfl (by kernel_rfl) (by decide) (fun K hK => ?_)
            refine goes_ Try.func17 (by kernel_rfl) rfl #[.agg #[.slice A0_0 l0_0.length c0_0, .int .i64 a0_1, .int .i64 a0_2]] (by rfl) rfl rfl (by (try simp only [List.map_toArray, List.map_cons, List.map_nil]); first | done | rfl | (simp only [List.length_drop, List.length_take]; rfl)) ?_
            with_reducible refine (laws_toMachine.calls kj10 _ _ l0_0 a0_1 a0_2 t420 t423 t424 _ ?side1 ?side2 A56.out).mono ?_
            (case side1 => repeat (first | exact (Kd.C_below HR0_0.out HB.out) | (with_reducible refine Kd.C_alloc ?_ _) | (with_reducible refine Kd.C_drewN ?_ _) | (with_reducible refine Kd.C_drew ?_)))
            (case side2 => exact HC0_0.out)
            rintro e w62 ⟨v421, rfl, ho0, hb⟩
            refine ⟨_, rfl, ?_⟩
            have n0_ := Aside0.mk (Kd.R_elder' (by (with_reducible repeat (first | apply Kd.R_alloc | apply Kd.R_drewN | apply Kd.R_drew)); exact HO_406000.out) (Kd.R_base ho0) hb)
            have n1_ := Aside0.mk (Kd.R_elder' (by (with_reducible repeat (first | apply Kd.R_alloc | apply Kd.R_drewN | apply Kd.R_drew)); exact HO_412000.out) (Kd.R_base ho0) hb)
            have n2_ := Aside0.mk (Kd.R_elder' (by (with_reducible repeat (first | apply Kd.R_alloc | apply Kd.R_drewN | apply Kd.R_drew)); exact HO_419000.out) (Kd.R_base ho0) hb)
            have n3_ := Aside0.mk (Kd.R_lower (Kd.R_new' (Kd.R_new' (Kd.R_new' ho0 (Kd.R_lt (by (with_reducible repeat (first | apply Kd.R_alloc | apply Kd.R_drewN | apply Kd.R_drew)); exact HO_406000.out))) (Kd.R_lt (by (with_reducible repeat (first | apply Kd.R_alloc | apply Kd.R_drewN | apply Kd.R_drew)); exact HO_412000.out))) (Kd.R_lt (by (with_reducible repeat (first | apply Kd.R_alloc | apply Kd.R_drewN | apply Kd.R_drew)); exact HO_419000.out))) (below_size (by repeat (first | (with_reducible first | exact HB.out | apply below_alloc | apply pw_below_drewN | apply below_drew1 | refine below_set ?_ GE392.out | refine below_set ?_ GE405.out | refine below_set ?_ GE411.out | refine below_set ?_ GE418.out) | exact HB.out))))
            have n4_ := Aside0.mk (blk_below (g := gb392) (o := .cells #[.slice A0_0 l0_0.length c0_0, .int .i64 a0_1, .int .i64 a0_2] 24 (0, 0)) (by (with_reducible repeat (first | refine blk_drewN ?_ _ | refine blk_drew ?_ | refine blk_alloc ?_ _)); exact BK392.out) hb)
            have n5_ := Aside0.mk (blk_below (g := gb405) (o := .cells #[.slice Ao20 t399.length co20, .int .i64 t402, .int .i64 t403] 27 (0, 0)) (by (with_reducible repeat (first | refine blk_drewN ?_ _ | refine blk_drew ?_ | refine blk_alloc ?_ _)); exact BK405.out) hb)
            have n6_ := Aside0.mk (blk_below (g := gb411) (o := .cells #[.slice Ao26 t406.length co26, .int .i64 t409, .int .i64 t410] 27 (0, 0)) (by (with_reducible repeat (first | refine blk_drewN ?_ _ | refine blk_drew ?_ | refine blk_alloc ?_ _)); exact BK411.out) hb)
            have n7_ := Aside0.mk (blk_below (g := gb418) (o := .cells #[.slice Ao32 t412.length co32, .int .i64 t415, .int .i64 t416] 27 (0, 0)) (by (with_reducible repeat (first | refine blk_drewN ?_ _ | refine blk_drew ?_ | refine blk_alloc ?_ _)); exact BK418.out) hb)
            have n8_ := Aside0.mk (below_step (by repeat (first | (with_reducible first | exact HB.out | apply below_alloc | apply pw_below_drewN | apply below_drew1 | refine below_set ?_ GE392.out | refine below_set ?_ GE405.out | refine below_set ?_ GE411.out | refine below_set ?_ GE418.out) | exact HB.out)) hb)
            clear HO_406000
            clear HO_412000
            clear HO_419000
            clear BK392
            clear BK405
            clear BK411
            clear BK418
            clear HB
            have HO_406000 := n0_
            have HO_412000 := n1_
            have HO_419000 := n2_
            have HO422 := n3_
            have BK392 := n4_
            have BK405 := n5_
            have BK411 := n6_
            have BK418 := n7_
            have HB := n8_
            clear n0_ n1_ n2_ n3_ n4_ n5_ n6_ n7_ n8_
            (try clear hb)
            (try clear hb2)
            (try clear hk)
            (try clear hi)
            (try clear ho0)
            obtain ⟨Ao63, co63, eo63⟩ := Kd.R_slice HO422.out
            (first | subst eo63 | (injection eo63 with f1_ f2_ f3_; have f4_ := f1_.symm; have f5_ := f3_.symm; clear f1_ f2_ f3_; subst f4_; subst f5_))
            refine hK.out _ _ ⟨(blk_cell BK411.out 0).trans rfl, (blk_cell BK411.out 1).trans rfl, (blk_cell BK411.out 2).trans rfl, (blk_cell BK392.out 0).trans rfl, (blk_cell BK392.out 1).trans rfl, (blk_cell BK392.out 2).trans rfl⟩ (fun hHeld => ?_)
            clear hK K
            refine norm_ (a' := ?_) ?_ ?_
            rotate_left
            · show Act.put _ (some 43) _ = _
              simp only [Act.put, List.setIfInBounds_toArray, List.set_cons_zero, List.set_cons_succ, i64_w, i32_w]
              rfl
            refine one_ (i := 3) (N := some 44) #[true, true, true, true, false] rfl rfl (by kernel_rfl) (by decide) (fun K hK => ?_)
            refine goes_ Try.func19 (by kernel_rfl) rfl #[.agg #[.slice Ao26 t406.length co26, .int .i64 t409, .int .i64 t410], .agg #[.slice Ao63 t420.length co63, .int .i64 t423, .int .i64 t424]] (by rfl) rfl rfl (by (try simp only [List.map_toArray, List.map_cons, List.map_nil]); first | done | rfl | (simp only [List.length_drop, List.length_take]; rfl)) ?_
            with_reducible refine (laws_eqMachine.calls kj10 _ _ t406 t409 t410 _ _ t420 t423 t424 true _ ?side1 ?side2 ?side3 ?side4 A57.out).mono ?_
            (case side1 => repeat (first | exact (Kd.R_reads' HO_412000.out).2.2 | (with_reducible refine Kd.C_alloc ?_ _) | (with_reducible refine Kd.C_drewN ?_ _) | (with_reducible refine Kd.C_drew ?_)))
            (case side2 => exact (Kd.R_reads' HO_412000.out).2.1)
            (case side3 => repeat (first | exact (Kd.R_reads' HO422.out).2.2 | (with_reducible refine Kd.C_alloc ?_ _) | (with_reducible refine Kd.C_drewN ?_ _) | (with_reducible refine Kd.C_drew ?_)))
            (case side4 => exact (Kd.R_reads' HO422.out).2.1)
            rintro e w64 ⟨rfl, hb⟩
            refine ⟨_, rfl, ?_⟩
            have n0_ := Aside0.mk (Kd.R_below (by (with_reducible repeat (first | apply Kd.R_alloc | apply Kd.R_drewN | apply Kd.R_drew)); exact HO_406000.out) hb)
            have n1_ := Aside0.mk (Kd.R_below (by (with_reducible repeat (first | apply Kd.R_alloc | apply Kd.R_drewN | apply Kd.R_drew)); exact HO_412000.out) hb)
            have n2_ := Aside0.mk (Kd.R_below (by (with_reducible repeat (first | apply Kd.R_alloc | apply Kd.R_drewN | apply Kd.R_drew)); exact HO_419000.out) hb)
            have n3_ := Aside0.mk (Kd.R_below (by (with_reducible repeat (first | apply Kd.R_alloc | apply Kd.R_drewN | apply Kd.R_drew)); exact HO422.out) hb)
            have n4_ := Aside0.mk (blk_below (g := gb392) (o := .cells #[.slice A0_0 l0_0.length c0_0, .int .i64 a0_1, .int .i64 a0_2] 24 (0, 0)) (by (with_reducible repeat (first | refine blk_drewN ?_ _ | refine blk_drew ?_ | refine blk_alloc ?_ _)); exact BK392.out) hb)
            have n5_ := Aside0.mk (blk_below (g := gb405) (o := .cells #[.slice Ao20 t399.length co20, .int .i64 t402, .int .i64 t403] 27 (0, 0)) (by (with_reducible repeat (first | refine blk_drewN ?_ _ | refine blk_drew ?_ | refine blk_alloc ?_ _)); exact BK405.out) hb)
            have n6_ := Aside0.mk (blk_below (g := gb411) (o := .cells #[.slice Ao26 t406.length co26, .int .i64 t409, .int .i64 t410] 27 (0, 0)) (by (with_reducible repeat (first | refine blk_drewN ?_ _ | refine blk_drew ?_ | refine blk_alloc ?_ _)); exact BK411.out) hb)
            have n7_ := Aside0.mk (blk_below (g := gb418) (o := .cells #[.slice Ao32 t412.length co32, .int .i64 t415, .int .i64 t416] 27 (0, 0)) (by (with_reducible repeat (first | refine blk_drewN ?_ _ | refine blk_drew ?_ | refine blk_alloc ?_ _)); exact BK418.out) hb)
            have n8_ := Aside0.mk (below_step (by repeat (first | (with_reducible first | exact HB.out | apply below_alloc | apply pw_below_drewN | apply below_drew1 | refine below_set ?_ GE392.out | refine below_set ?_ GE405.out | refine below_set ?_ GE411.out | refine below_set ?_ GE418.out) | exact HB.out)) hb)
            clear HO_406000
            clear HO_412000
            clear HO_419000
            clear HO422
            clear BK392
            clear BK405
            clear BK411
            clear BK418
            clear HB
            have HO_406000 := n0_
            have HO_412000 := n1_
            have HO_419000 := n2_
            have HO422 := n3_
            have BK392 := n4_
            have BK405 := n5_
            have BK411 := n6_
            have BK418 := n7_
            have HB := n8_
            clear n0_ n1_ n2_ n3_ n4_ n5_ n6_ n7_ n8_
            (try clear hb)
            (try clear hb2)
            (try clear hk)
            (try clear hi)
            refine hK.out _ _ ⟨(blk_cell BK411.out 0).trans rfl, (blk_cell BK411.out 1).trans rfl, (blk_cell BK411.out 2).trans rfl, (blk_cell BK392.out 0).trans rfl, (blk_cell BK392.out 1).trans rfl, (blk_cell BK392.out 2).trans rfl⟩ (fun hHeld => ?_)
            clear hK K
            refine norm_ (a' := ?_) ?_ ?_
            rotate_left
            · show Act.put _ (some 44) _ = _
              simp only [Act.put, List.setIfInBounds_toArray, List.set_cons_zero, List.set_cons_succ, i64_w, i32_w]
              rfl
            refine pure_ (i := 4) (N := some 45) (v := ?_) (a' := ?_) #[true, true, true, true, true] rfl rfl (by kernel_rfl) (fun _ _ _ h => h) (Or.inl ⟨by rfl, ?_⟩) ?_ ?_
            rotate_left
            · intro w'
              go_simp
              with_reducible rfl
            rotate_left
            · simp only [Act.put, List.setIfInBounds_toArray, List.set_cons_zero, List.set_cons_succ, i64_w, i32_w]
              rfl
            refine done_ (by kernel_rfl) ?_
            have hnb65 := NB411_392.out
            have hnc65 := NB392_411.out
            have hnb66 := NB411_405.out
            have hnc66 := NB405_411.out
            have hnb67 := NB411_418.out
            have hnc67 := NB418_411.out
            have hcz68_0 : w64.cell? ⟨gb411, 0, none⟩ = some (.slice Ao26 t406.length co26) := (blk_cell BK411.out 0).trans rfl
            have hcz68_1 : w64.cell? ⟨gb411, 1, none⟩ = some (.int .i64 t409) := (blk_cell BK411.out 1).trans rfl
            have hcz68_2 : w64.cell? ⟨gb411, 2, none⟩ = some (.int .i64 t410) := (blk_cell BK411.out 2).trans rfl
            have hfz68_0 := blk_frozen BK411.out 0
            have hfz68_1 := blk_frozen BK411.out 1
            have hfz68_2 := blk_frozen BK411.out 2
            go_upto_region 14 with (first | ((with_reducible refine gate_callee (f := 29) rfl ?_); refine goesL_ (some 48) rfl rfl Try.func29 (by kernel_rfl) rfl #[.agg #[.slice Ao26 t406.length co26, .int .i64 t409, .int .i64 t410], .int .i64 1] rfl (by (try simp only [List.map_toArray, List.map_cons, List.map_nil]); first | done | rfl | (simp only [List.length_drop, List.length_take]; rfl)) ?_; (with_reducible refine (laws_markMachine.calls kj10 (fun k_ => some k_ = (.slice Ao26 t406.length co26 : Value).ownBlock) (.slice Ao26 t406.length co26) t406 t409 t410 1 t426 t427 w _ ?side1 ?side2 A59.out).mono ?_); (case side1 => repeat (first | (with_reducible first | exact HB.out | apply below_alloc | apply pw_below_drewN | apply below_drew1 | refine below_set ?_ GE392.out | refine below_set ?_ GE405.out | refine below_set ?_ GE411.out | refine below_set ?_ GE418.out) | exact HB.out)); (case side2 => exact Kd.R_tight rfl HO_412000.out); rintro e w69 ⟨rfl, hy0, hb, hkp⟩; refine ⟨_, rfl, ?_⟩; have n0_ := Aside0.mk (Kd.R_mono (ok' := fun k_ => some k_ ≠ (.slice Ao26 t406.length co26 : Value).ownBlock ∧ some k_ ≠ (.slice Ao32 t412.length co32 : Value).ownBlock ∧ some k_ ≠ (.slice Ao63 t420.length co63 : Value).ownBlock) (Kd.R_keptB (HO_406000.out) hkp (fun k_ hk_ hs_ => (hk_.1.1) hs_)) (fun k_ hk_ => ⟨hk_.1.1.1, hk_.1.1.2, hk_.1.2⟩)); have n1_ := Aside0.mk (Kd.R_reok rfl hy0 (fun k_ e_ => HO_412000.out.1 k_ e_)); have n2_ := Aside0.mk (Kd.R_mono (ok' := fun k_ => some k_ ≠ (.slice Ao20 t399.length co20 : Value).ownBlock ∧ some k_ ≠ (.slice Ao26 t406.length co26 : Value).ownBlock ∧ some k_ ≠ (.slice Ao63 t420.length co63 : Value).ownBlock) (Kd.R_keptB (HO_419000.out) hkp (fun k_ hk_ hs_ => (hk_.1.2) hs_)) (fun k_ hk_ => ⟨hk_.1.1.1, hk_.1.1.2, hk_.1.2⟩)); have n3_ := Aside0.mk (blk_kept (by (with_reducible repeat (first | refine blk_drewN ?_ _ | refine blk_drew ?_ | refine blk_alloc ?_ _)); exact BK392.out) hkp (fun hs_ => (fun e_ => (Kd.R_ne HO_412000.out BK392.out (by decide)) e_) hs_)); have n4_ := Aside0.mk (blk_kept (by (with_reducible repeat (first | refine blk_drewN ?_ _ | refine blk_drew ?_ | refine blk_alloc ?_ _)); exact BK405.out) hkp (fun hs_ => (fun e_ => (Kd.R_ne HO_412000.out BK405.out (by decide)) e_) hs_)); have n5_ := Aside0.mk (blk_kept (by (with_reducible repeat (first | refine blk_drewN ?_ _ | refine blk_drew ?_ | refine blk_alloc ?_ _)); exact BK411.out) hkp (fun hs_ => (fun e_ => (Kd.R_ne HO_412000.out BK411.out (by decide)) e_) hs_)); have n6_ := Aside0.mk (blk_kept (by (with_reducible repeat (first | refine blk_drewN ?_ _ | refine blk_drew ?_ | refine blk_alloc ?_ _)); exact BK418.out) hkp (fun hs_ => (fun e_ => (Kd.R_ne HO_412000.out BK418.out (by decide)) e_) hs_)); have n7_ := Aside0.mk (Kd.R_mono (ok' := fun k_ => some k_ ≠ (.slice Ao20 t399.length co20 : Value).ownBlock ∧ some k_ ≠ (.slice Ao26 t406.length co26 : Value).ownBlock ∧ some k_ ≠ (.slice Ao32 t412.length co32 : Value).ownBlock) (Kd.R_keptB (HO422.out) hkp (fun k_ hk_ hs_ => (hk_.1.2) hs_)) (fun k_ hk_ => ⟨hk_.1.1.1.2, hk_.1.1.2, hk_.1.2⟩)); have n8_ := Aside0.mk (hb); clear HO_406000; clear HO_412000; clear HO_419000; clear BK392; clear BK405; clear BK411; clear BK418; clear HO422; clear HB; have HO_406000 := n0_; have HO_412000 := n1_; have HO_419000 := n2_; have BK392 := n3_; have BK405 := n4_; have BK411 := n5_; have BK418 := n6_; have HO422 := n7_; have HB := n8_; clear n0_ n1_ n2_ n3_ n4_ n5_ n6_ n7_ n8_; (try clear hb); (try clear hkp); (try clear hy0)))
            (try simp only [Act.put, List.setIfInBounds_toArray, List.set_cons_zero, List.set_cons_succ])
            go_cut [61] (fun v61 wc => ∃ (kq : Nat) (x61_59 : Bool), v61 = .bool x61_59 ∧ Aside0 (laws_FnExactMachTurn.j1 kq t404 x61_59 l0_0 a0_1 a0_2 t399 t402 t403 t412 t415 t416 = some r) ∧ Aside0 (kq ≤ kj10) ∧ Aside0 (Kd.R (Kd.int .i64) 3 wc w.heap.size (fun k_ => some k_ ≠ ((.slice Ao26 t406.length co26) : Value).ownBlock ∧ some k_ ≠ ((.slice Ao32 t412.length co32) : Value).ownBlock) (.slice Ao20 t399.length co20) t399) ∧ Aside0 (Kd.R (Kd.int .i64) 3 wc w.heap.size (fun k_ => some k_ ≠ ((.slice Ao20 t399.length co20) : Value).ownBlock ∧ some k_ ≠ ((.slice Ao32 t412.length co32) : Value).ownBlock) (.slice Ao26 t406.length co26) t427) ∧ Aside0 (Kd.R (Kd.int .i64) 3 wc w.heap.size (fun k_ => some k_ ≠ ((.slice Ao20 t399.length co20) : Value).ownBlock ∧ some k_ ≠ ((.slice Ao26 t406.length co26) : Value).ownBlock) (.slice Ao32 t412.length co32) t412) ∧ Aside0 (wc.heap[gb392]? = some (.cells #[(.slice A0_0 l0_0.length c0_0), .int .i64 a0_1, .int .i64 a0_2] 24 (0, 0))) ∧ Aside0 (wc.heap[gb405]? = some (.cells #[(.slice Ao20 t399.length co20), .int .i64 t402, .int .i64 t403] 27 (0, 0))) ∧ Aside0 (wc.heap[gb411]? = some (.cells #[(.slice Ao26 t406.length co26), .int .i64 t409, .int .i64 t410] 27 (0, 0))) ∧ Aside0 (wc.heap[gb418]? = some (.cells #[(.slice Ao32 t412.length co32), .int .i64 t415, .int .i64 t416] 27 (0, 0))) ∧ Aside0 (Below w.heap.size w wc))
            case first =>
              have H := HC60.out
              clear HC60
              by_cases c70 : t426 < 0
              · rw [if_pos c70] at H
                have c70b0 : decide (t426 < 0) = true := decide_eq_true c70
                clear c70
                (first | rw [c70b0] | (simp only [i64_w, i32_w]; rw [c70b0]) | skip)
                have H' := Aside0.mk H
                clear H
                go_wp2
                go_meet
                case rel => exact ⟨_, (true), (by first | rfl | (simp; done) | (simp [*]; done) | (simp only [IntKind.wrap_i64, wrap64]; done)), H', ⟨by have := HJ10.out; first | omega | exact Nat.le_refl _⟩, ⟨by (with_reducible repeat (first | apply Kd.R_alloc | apply Kd.R_drewN | apply Kd.R_drew)); exact Kd.R_mono HO_406000.out (fun _ hk => ⟨hk.1, hk.2.1⟩)⟩, ⟨by (with_reducible repeat (first | apply Kd.R_alloc | apply Kd.R_drewN | apply Kd.R_drew)); exact Kd.R_mono HO_412000.out (fun _ hk => ⟨hk.1.1, hk.1.2⟩)⟩, ⟨by (with_reducible repeat (first | apply Kd.R_alloc | apply Kd.R_drewN | apply Kd.R_drew)); exact Kd.R_mono HO_419000.out (fun _ hk => ⟨hk.1, hk.2.1⟩)⟩, ⟨by (with_reducible repeat (first | refine blk_drewN ?_ _ | refine blk_drew ?_ | refine blk_alloc ?_ _)); exact BK392.out⟩, ⟨by (with_reducible repeat (first | refine blk_drewN ?_ _ | refine blk_drew ?_ | refine blk_alloc ?_ _)); exact BK405.out⟩, ⟨by (with_reducible repeat (first | refine blk_drewN ?_ _ | refine blk_drew ?_ | refine blk_alloc ?_ _)); exact BK411.out⟩, ⟨by (with_reducible repeat (first | refine blk_drewN ?_ _ | refine blk_drew ?_ | refine blk_alloc ?_ _)); exact BK418.out⟩, ⟨by repeat (first | (with_reducible first | exact HB.out | apply below_alloc | apply pw_below_drewN | apply below_drew1 | refine below_set ?_ GE392.out | refine below_set ?_ GE405.out | refine below_set ?_ GE411.out | refine below_set ?_ GE418.out) | exact HB.out)⟩⟩
              · rw [if_neg c70] at H
                have c70b0 : decide (t426 < 0) = false := decide_eq_false c70
                clear c70
                (first | rw [c70b0] | (simp only [i64_w, i32_w]; rw [c70b0]) | skip)
                replace H := Option.bind_eq_some_iff.mp H
                obtain ⟨t428, A710, H⟩ := H
                replace H : (if t428 = true then (laws_FnExactMachTurn.j1 kj10 t404 (t417 != t404) l0_0 a0_1 a0_2 t399 t402 t403 t412 t415 t416) else (laws_FnExactMachTurn.j1 kj10 t404 true l0_0 a0_1 a0_2 t399 t402 t403 t412 t415 t416)) = some r := H
                have A71 := Aside0.mk A710
                clear A710
                by_cases c72 : t428 = true
                · subst c72
                  have H1 : (laws_FnExactMachTurn.j1 kj10 t404 (t417 != t404) l0_0 a0_1 a0_2 t399 t402 t403 t412 t415 t416) = some r := by rw [if_pos rfl] at H; exact H
                  clear H
                  have H := H1
                  clear H1
                  have H' := Aside0.mk H
                  clear H
                  have hnb73 := NB418_392.out
                  have hnc73 := NB392_418.out
                  have hnb74 := NB418_405.out
                  have hnc74 := NB405_418.out
                  have hnb75 := NB418_411.out
                  have hnc75 := NB411_418.out
                  have hcz76_0 : w69.cell? ⟨gb418, 0, none⟩ = some (.slice Ao32 t412.length co32) := (blk_cell BK418.out 0).trans rfl
                  have hcz76_1 : w69.cell? ⟨gb418, 1, none⟩ = some (.int .i64 t415) := (blk_cell BK418.out 1).trans rfl
                  have hcz76_2 : w69.cell? ⟨gb418, 2, none⟩ = some (.int .i64 t416) := (blk_cell BK418.out 2).trans rfl
                  have hfz76_0 := blk_frozen BK418.out 0
                  have hfz76_1 := blk_frozen BK418.out 1
                  have hfz76_2 := blk_frozen BK418.out 2
                  have hnb77 := NB405_392.out
                  have hnc77 := NB392_405.out
                  have hnb78 := NB405_411.out
                  have hnc78 := NB411_405.out
                  have hcz79_0 : w69.cell? ⟨gb405, 0, none⟩ = some (.slice Ao20 t399.length co20) := (blk_cell BK405.out 0).trans rfl
                  have hcz79_1 : w69.cell? ⟨gb405, 1, none⟩ = some (.int .i64 t402) := (blk_cell BK405.out 1).trans rfl
                  have hcz79_2 : w69.cell? ⟨gb405, 2, none⟩ = some (.int .i64 t403) := (blk_cell BK405.out 2).trans rfl
                  have hfz79_0 := blk_frozen BK405.out 0
                  have hfz79_1 := blk_frozen BK405.out 1
                  have hfz79_2 := blk_frozen BK405.out 2
                  go_wp2_with (first | (go_at_call 19; (with_reducible refine (laws_eqMachine.calls kj10 _ _ t412 t415 t416 _ _ t399 t402 t403 true _ ?side1 ?side2 ?side3 ?side4 A71.out).mono ?_); (case side1 => repeat (first | exact (Kd.R_reads' HO_419000.out).2.2 | (with_reducible refine Kd.C_alloc ?_ _) | (with_reducible refine Kd.C_drewN ?_ _) | (with_reducible refine Kd.C_drew ?_))); (case side2 => exact (Kd.R_reads' HO_419000.out).2.1); (case side3 => repeat (first | exact (Kd.R_reads' HO_406000.out).2.2 | (with_reducible refine Kd.C_alloc ?_ _) | (with_reducible refine Kd.C_drewN ?_ _) | (with_reducible refine Kd.C_drew ?_))); (case side4 => exact (Kd.R_reads' HO_406000.out).2.1); rintro e w80 ⟨rfl, hb⟩; have n0_ := Aside0.mk (Kd.R_below (by (with_reducible repeat (first | apply Kd.R_alloc | apply Kd.R_drewN | apply Kd.R_drew)); exact HO_406000.out) hb); have n1_ := Aside0.mk (Kd.R_below (by (with_reducible repeat (first | apply Kd.R_alloc | apply Kd.R_drewN | apply Kd.R_drew)); exact HO_412000.out) hb); have n2_ := Aside0.mk (Kd.R_below (by (with_reducible repeat (first | apply Kd.R_alloc | apply Kd.R_drewN | apply Kd.R_drew)); exact HO_419000.out) hb); have n3_ := Aside0.mk (Kd.R_below (by (with_reducible repeat (first | apply Kd.R_alloc | apply Kd.R_drewN | apply Kd.R_drew)); exact HO422.out) hb); have n4_ := Aside0.mk (blk_below (g := gb392) (o := .cells #[.slice A0_0 l0_0.length c0_0, .int .i64 a0_1, .int .i64 a0_2] 24 (0, 0)) (by (with_reducible repeat (first | refine blk_drewN ?_ _ | refine blk_drew ?_ | refine blk_alloc ?_ _)); exact BK392.out) hb); have n5_ := Aside0.mk (blk_below (g := gb405) (o := .cells #[.slice Ao20 t399.length co20, .int .i64 t402, .int .i64 t403] 27 (0, 0)) (by (with_reducible repeat (first | refine blk_drewN ?_ _ | refine blk_drew ?_ | refine blk_alloc ?_ _)); exact BK405.out) hb); have n6_ := Aside0.mk (blk_below (g := gb411) (o := .cells #[.slice Ao26 t406.length co26, .int .i64 t409, .int .i64 t410] 27 (0, 0)) (by (with_reducible repeat (first | refine blk_drewN ?_ _ | refine blk_drew ?_ | refine blk_alloc ?_ _)); exact BK411.out) hb); have n7_ := Aside0.mk (blk_below (g := gb418) (o := .cells #[.slice Ao32 t412.length co32, .int .i64 t415, .int .i64 t416] 27 (0, 0)) (by (with_reducible repeat (first | refine blk_drewN ?_ _ | refine blk_drew ?_ | refine blk_alloc ?_ _)); exact BK418.out) hb); have n8_ := Aside0.mk (below_step (by repeat (first | (with_reducible first | exact HB.out | apply below_alloc | apply pw_below_drewN | apply below_drew1 | refine below_set ?_ GE392.out | refine below_set ?_ GE405.out | refine below_set ?_ GE411.out | refine below_set ?_ GE418.out) | exact HB.out)) hb); clear HO_406000; clear HO_412000; clear HO_419000; clear HO422; clear BK392; clear BK405; clear BK411; clear BK418; clear HB; have HO_406000 := n0_; have HO_412000 := n1_; have HO_419000 := n2_; have HO422 := n3_; have BK392 := n4_; have BK405 := n5_; have BK411 := n6_; have BK418 := n7_; have HB := n8_; clear n0_ n1_ n2_ n3_ n4_ n5_ n6_ n7_ n8_; (try clear hb); (try clear hb2); (try clear hk); (try clear hi)))
                  go_meet
                  case rel => exact ⟨_, ((t417 != t404)), (by first | rfl | (simp; done) | (simp [*]; done) | (simp only [IntKind.wrap_i64, wrap64]; done)), H', ⟨by have := HJ10.out; first | omega | exact Nat.le_refl _⟩, ⟨by (with_reducible repeat (first | apply Kd.R_alloc | apply Kd.R_drewN | apply Kd.R_drew)); exact Kd.R_mono HO_406000.out (fun _ hk => ⟨hk.1, hk.2.1⟩)⟩, ⟨by (with_reducible repeat (first | apply Kd.R_alloc | apply Kd.R_drewN | apply Kd.R_drew)); exact Kd.R_mono HO_412000.out (fun _ hk => ⟨hk.1.1, hk.1.2⟩)⟩, ⟨by (with_reducible repeat (first | apply Kd.R_alloc | apply Kd.R_drewN | apply Kd.R_drew)); exact Kd.R_mono HO_419000.out (fun _ hk => ⟨hk.1, hk.2.1⟩)⟩, ⟨by (with_reducible repeat (first | refine blk_drewN ?_ _ | refine blk_drew ?_ | refine blk_alloc ?_ _)); exact BK392.out⟩, ⟨by (with_reducible repeat (first | refine blk_drewN ?_ _ | refine blk_drew ?_ | refine blk_alloc ?_ _)); exact BK405.out⟩, ⟨by (with_reducible repeat (first | refine blk_drewN ?_ _ | refine blk_drew ?_ | refine blk_alloc ?_ _)); exact BK411.out⟩, ⟨by (with_reducible repeat (first | refine blk_drewN ?_ _ | refine blk_drew ?_ | refine blk_alloc ?_ _)); exact BK418.out⟩, ⟨by repeat (first | (with_reducible first | exact HB.out | apply below_alloc | apply pw_below_drewN | apply below_drew1 | refine below_set ?_ GE392.out | refine below_set ?_ GE405.out | refine below_set ?_ GE411.out | refine below_set ?_ GE418.out) | exact HB.out)⟩⟩
                · replace c72 := Bool.eq_false_iff.mpr c72
                  subst c72
                  have H1 : (laws_FnExactMachTurn.j1 kj10 t404 true l0_0 a0_1 a0_2 t399 t402 t403 t412 t415 t416) = some r := by rw [if_neg (show ¬ (false = true) by decide)] at H; exact H
                  clear H
                  have H := H1
                  clear H1
                  have H' := Aside0.mk H
                  clear H
                  have hnb81 := NB418_392.out
                  have hnc81 := NB392_418.out
                  have hnb82 := NB418_405.out
                  have hnc82 := NB405_418.out
                  have hnb83 := NB418_411.out
                  have hnc83 := NB411_418.out
                  have hcz84_0 : w69.cell? ⟨gb418, 0, none⟩ = some (.slice Ao32 t412.length co32) := (blk_cell BK418.out 0).trans rfl
                  have hcz84_1 : w69.cell? ⟨gb418, 1, none⟩ = some (.int .i64 t415) := (blk_cell BK418.out 1).trans rfl
                  have hcz84_2 : w69.cell? ⟨gb418, 2, none⟩ = some (.int .i64 t416) := (blk_cell BK418.out 2).trans rfl
                  have hfz84_0 := blk_frozen BK418.out 0
                  have hfz84_1 := blk_frozen BK418.out 1
                  have hfz84_2 := blk_frozen BK418.out 2
                  have hnb85 := NB405_392.out
                  have hnc85 := NB392_405.out
                  have hnb86 := NB405_411.out
                  have hnc86 := NB411_405.out
                  have hcz87_0 : w69.cell? ⟨gb405, 0, none⟩ = some (.slice Ao20 t399.length co20) := (blk_cell BK405.out 0).trans rfl
                  have hcz87_1 : w69.cell? ⟨gb405, 1, none⟩ = some (.int .i64 t402) := (blk_cell BK405.out 1).trans rfl
                  have hcz87_2 : w69.cell? ⟨gb405, 2, none⟩ = some (.int .i64 t403) := (blk_cell BK405.out 2).trans rfl
                  have hfz87_0 := blk_frozen BK405.out 0
                  have hfz87_1 := blk_frozen BK405.out 1
                  have hfz87_2 := blk_frozen BK405.out 2
                  go_wp2_with (first | (go_at_call 19; (with_reducible refine (laws_eqMachine.calls kj10 _ _ t412 t415 t416 _ _ t399 t402 t403 false _ ?side1 ?side2 ?side3 ?side4 A71.out).mono ?_); (case side1 => repeat (first | exact (Kd.R_reads' HO_419000.out).2.2 | (with_reducible refine Kd.C_alloc ?_ _) | (with_reducible refine Kd.C_drewN ?_ _) | (with_reducible refine Kd.C_drew ?_))); (case side2 => exact (Kd.R_reads' HO_419000.out).2.1); (case side3 => repeat (first | exact (Kd.R_reads' HO_406000.out).2.2 | (with_reducible refine Kd.C_alloc ?_ _) | (with_reducible refine Kd.C_drewN ?_ _) | (with_reducible refine Kd.C_drew ?_))); (case side4 => exact (Kd.R_reads' HO_406000.out).2.1); rintro e w88 ⟨rfl, hb⟩; have n0_ := Aside0.mk (Kd.R_below (by (with_reducible repeat (first | apply Kd.R_alloc | apply Kd.R_drewN | apply Kd.R_drew)); exact HO_406000.out) hb); have n1_ := Aside0.mk (Kd.R_below (by (with_reducible repeat (first | apply Kd.R_alloc | apply Kd.R_drewN | apply Kd.R_drew)); exact HO_412000.out) hb); have n2_ := Aside0.mk (Kd.R_below (by (with_reducible repeat (first | apply Kd.R_alloc | apply Kd.R_drewN | apply Kd.R_drew)); exact HO_419000.out) hb); have n3_ := Aside0.mk (Kd.R_below (by (with_reducible repeat (first | apply Kd.R_alloc | apply Kd.R_drewN | apply Kd.R_drew)); exact HO422.out) hb); have n4_ := Aside0.mk (blk_below (g := gb392) (o := .cells #[.slice A0_0 l0_0.length c0_0, .int .i64 a0_1, .int .i64 a0_2] 24 (0, 0)) (by (with_reducible repeat (first | refine blk_drewN ?_ _ | refine blk_drew ?_ | refine blk_alloc ?_ _)); exact BK392.out) hb); have n5_ := Aside0.mk (blk_below (g := gb405) (o := .cells #[.slice Ao20 t399.length co20, .int .i64 t402, .int .i64 t403] 27 (0, 0)) (by (with_reducible repeat (first | refine blk_drewN ?_ _ | refine blk_drew ?_ | refine blk_alloc ?_ _)); exact BK405.out) hb); have n6_ := Aside0.mk (blk_below (g := gb411) (o := .cells #[.slice Ao26 t406.length co26, .int .i64 t409, .int .i64 t410] 27 (0, 0)) (by (with_reducible repeat (first | refine blk_drewN ?_ _ | refine blk_drew ?_ | refine blk_alloc ?_ _)); exact BK411.out) hb); have n7_ := Aside0.mk (blk_below (g := gb418) (o := .cells #[.slice Ao32 t412.length co32, .int .i64 t415, .int .i64 t416] 27 (0, 0)) (by (with_reducible repeat (first | refine blk_drewN ?_ _ | refine blk_drew ?_ | refine blk_alloc ?_ _)); exact BK418.out) hb); have n8_ := Aside0.mk (below_step (by repeat (first | (with_reducible first | exact HB.out | apply below_alloc | apply pw_below_drewN | apply below_drew1 | refine below_set ?_ GE392.out | refine below_set ?_ GE405.out | refine below_set ?_ GE411.out | refine below_set ?_ GE418.out) | exact HB.out)) hb); clear HO_406000; clear HO_412000; clear HO_419000; clear HO422; clear BK392; clear BK405; clear BK411; clear BK418; clear HB; have HO_406000 := n0_; have HO_412000 := n1_; have HO_419000 := n2_; have HO422 := n3_; have BK392 := n4_; have BK405 := n5_; have BK411 := n6_; have BK418 := n7_; have HB := n8_; clear n0_ n1_ n2_ n3_ n4_ n5_ n6_ n7_ n8_; (try clear hb); (try clear hb2); (try clear hk); (try clear hi)))
                  go_meet
                  case rel => exact ⟨_, (true), (by first | rfl | (simp; done) | (simp [*]; done) | (simp only [IntKind.wrap_i64, wrap64]; done)), H', ⟨by have := HJ10.out; first | omega | exact Nat.le_refl _⟩, ⟨by (with_reducible repeat (first | apply Kd.R_alloc | apply Kd.R_drewN | apply Kd.R_drew)); exact Kd.R_mono HO_406000.out (fun _ hk => ⟨hk.1, hk.2.1⟩)⟩, ⟨by (with_reducible repeat (first | apply Kd.R_alloc | apply Kd.R_drewN | apply Kd.R_drew)); exact Kd.R_mono HO_412000.out (fun _ hk => ⟨hk.1.1, hk.1.2⟩)⟩, ⟨by (with_reducible repeat (first | apply Kd.R_alloc | apply Kd.R_drewN | apply Kd.R_drew)); exact Kd.R_mono HO_419000.out (fun _ hk => ⟨hk.1, hk.2.1⟩)⟩, ⟨by (with_reducible repeat (first | refine blk_drewN ?_ _ | refine blk_drew ?_ | refine blk_alloc ?_ _)); exact BK392.out⟩, ⟨by (with_reducible repeat (first | refine blk_drewN ?_ _ | refine blk_drew ?_ | refine blk_alloc ?_ _)); exact BK405.out⟩, ⟨by (with_reducible repeat (first | refine blk_drewN ?_ _ | refine blk_drew ?_ | refine blk_alloc ?_ _)); exact BK411.out⟩, ⟨by (with_reducible repeat (first | refine blk_drewN ?_ _ | refine blk_drew ?_ | refine blk_alloc ?_ _)); exact BK418.out⟩, ⟨by repeat (first | (with_reducible first | exact HB.out | apply below_alloc | apply pw_below_drewN | apply below_drew1 | refine below_set ?_ GE392.out | refine below_set ?_ GE405.out | refine below_set ?_ GE411.out | refine below_set ?_ GE418.out) | exact HB.out)⟩⟩
            case rest =>
              clear HC60
              try clear c1
              try clear c2
              try clear p2
              try clear c3
              try clear c3b0
              try clear c4
              try clear c5
              try clear c6
              try clear c7
              try clear c8
              try clear c9
              try clear c15
              try clear c17
              try clear c19
              try clear c21
              try clear c27
              try clear c28
              try clear c29
              try clear c33
              try clear c34
              try clear c35
              try clear c38
              try clear c39
              try clear c40
              try clear c41
              try clear c43
              try clear c44
              try clear c47
              try clear c48
              try clear c49
              try clear c51
              try clear c52
              try clear c55
              try clear c58
              try clear c65
              try clear c66
              try clear c67
              try clear c70
              try clear c70b0
              try clear c72
              try clear c73
              try clear c74
              try clear c75
              try clear c77
              try clear c78
              try clear c81
              try clear c82
              try clear c83
              try clear c85
              try clear c86
              try clear hcz13_0
              try clear hcz13_1
              try clear hcz13_2
              try clear hcz15_0
              try clear hcz15_1
              try clear hcz15_2
              try clear hcz22_0
              try clear hcz22_1
              try clear hcz22_2
              try clear hcz23_0
              try clear hcz23_1
              try clear hcz23_2
              try clear hcz29_0
              try clear hcz29_1
              try clear hcz29_2
              try clear hcz36_0
              try clear hcz36_1
              try clear hcz36_2
              try clear hcz42_0
              try clear hcz42_1
              try clear hcz42_2
              try clear hcz45_0
              try clear hcz45_1
              try clear hcz45_2
              try clear hcz50_0
              try clear hcz50_1
              try clear hcz50_2
              try clear hcz53_0
              try clear hcz53_1
              try clear hcz53_2
              try clear hcz5_0
              try clear hcz5_1
              try clear hcz5_2
              try clear hcz68_0
              try clear hcz68_1
              try clear hcz68_2
              try clear hcz76_0
              try clear hcz76_1
              try clear hcz76_2
              try clear hcz79_0
              try clear hcz79_1
              try clear hcz79_2
              try clear hcz84_0
              try clear hcz84_1
              try clear hcz84_2
              try clear hcz87_0
              try clear hcz87_1
              try clear hcz87_2
              try clear hfz13_0
              try clear hfz13_1
              try clear hfz13_2
              try clear hfz15_0
              try clear hfz15_1
              try clear hfz15_2
              try clear hfz22_0
              try clear hfz22_1
              try clear hfz22_2
              try clear hfz23_0
              try clear hfz23_1
              try clear hfz23_2
              try clear hfz29_0
              try clear hfz29_1
              try clear hfz29_2
              try clear hfz36_0
              try clear hfz36_1
              try clear hfz36_2
              try clear hfz42_0
              try clear hfz42_1
              try clear hfz42_2
              try clear hfz45_0
              try clear hfz45_1
              try clear hfz45_2
              try clear hfz50_0
              try clear hfz50_1
              try clear hfz50_2
              try clear hfz53_0
              try clear hfz53_1
              try clear hfz53_2
              try clear hfz5_0
              try clear hfz5_1
              try clear hfz5_2
              try clear hfz68_0
              try clear hfz68_1
              try clear hfz68_2
              try clear hfz76_0
              try clear hfz76_1
              try clear hfz76_2
              try clear hfz79_0
              try clear hfz79_1
              try clear hfz79_2
              try clear hfz84_0
              try clear hfz84_1
              try clear hfz84_2
              try clear hfz87_0
              try clear hfz87_1
              try clear hfz87_2
              try clear p2
              obtain ⟨kq, x61_59, rfl, HA, HJ59, HO_406000, HO_412000, HO_419000, BK392, BK405, BK411, BK418, HB⟩ := hcut
              have hl412000_59 := (Kd.R_reads' HO_412000.out).1
              rw [hl412000_59] at HO_412000
              (try simp only [hl412000_59])
              (try simp only [hl412000_59] at BK392)
              (try simp only [hl412000_59] at BK405)
              (try simp only [hl412000_59] at BK411)
              (try simp only [hl412000_59] at BK418)
              (try simp only [hl412000_59] at HO_406000)
              (try simp only [hl412000_59] at HO_419000)
              cases kq with
              | zero => exact absurd HA.out (by simp [laws_FnExactMachTurn.j1])
              | succ kj59 =>
                have H := HA.out
                clear HA
                simp only [laws_FnExactMachTurn.j1] at H
                by_cases c89 : x61_59 = true
                · subst c89
                  have H1 : (some false) = some r := by rw [if_pos rfl] at H; exact H
                  clear H
                  have H := H1
                  clear H1
                  obtain rfl := Option.some.inj H
                  go_wp2
                  go_ret
                  exact ⟨by first | rfl | (simp [errW_none, errW_some] <;> rfl) | (simp [*, errW_none, errW_some] <;> rfl), by repeat (first | (with_reducible first | exact HB.out | apply below_alloc | apply pw_below_drewN | apply below_drew1 | refine below_set ?_ GE392.out | refine below_set ?_ GE405.out | refine below_set ?_ GE411.out | refine below_set ?_ GE418.out) | exact HB.out)⟩
                · replace c89 := Bool.eq_false_iff.mpr c89
                  subst c89
                  have H1 : ((laws_markMachine.f kj59 t412 t415 t416 1).bind fun bt429 => ((laws_heldMachine.f kj59 bt429.2 t415 t416 1).bind fun t431 => (if t431 < 0 then (some false) else (if t431 = bt429.1 then ((laws_toMachine.f kj59 l0_0 a0_1 a0_2).bind fun bt432 => ((impl_MachTurn.f kj59 bt432.1 bt432.2.1 bt432.2.2).bind fun bt437 => ((laws_eqMachine.f kj59 bt437.1 bt437.2.1 bt437.2.2.1 t399 t402 t403).bind fun t444 => (if t444 = true then (laws_FnExactMachTurn.j2 kj59 bt429.1 (bt437.2.2.2 != t404) bt429.2 t415 t416) else (laws_FnExactMachTurn.j2 kj59 bt429.1 true bt429.2 t415 t416))))) else (some false))))) = some r := by rw [if_neg (show ¬ (false = true) by decide)] at H; exact H
                  clear H
                  have H := H1
                  clear H1
                  replace H := Option.bind_eq_some_iff.mp H
                  obtain ⟨⟨t429, t430⟩, A900, H⟩ := H
                  replace H : ((laws_heldMachine.f kj59 t430 t415 t416 1).bind fun t431 => (if t431 < 0 then (some false) else (if t431 = t429 then ((laws_toMachine.f kj59 l0_0 a0_1 a0_2).bind fun bt432 => ((impl_MachTurn.f kj59 bt432.1 bt432.2.1 bt432.2.2).bind fun bt437 => ((laws_eqMachine.f kj59 bt437.1 bt437.2.1 bt437.2.2.1 t399 t402 t403).bind fun t444 => (if t444 = true then (laws_FnExactMachTurn.j2 kj59 t429 (bt437.2.2.2 != t404) t430 t415 t416) else (laws_FnExactMachTurn.j2 kj59 t429 true t430 t415 t416))))) else (some false)))) = some r := H
                  have A90 := Aside0.mk A900
                  clear A900
                  replace H := Option.bind_eq_some_iff.mp H
                  obtain ⟨t431, A910, H⟩ := H
                  replace H : (if t431 < 0 then (some false) else (if t431 = t429 then ((laws_toMachine.f kj59 l0_0 a0_1 a0_2).bind fun bt432 => ((impl_MachTurn.f kj59 bt432.1 bt432.2.1 bt432.2.2).bind fun bt437 => ((laws_eqMachine.f kj59 bt437.1 bt437.2.1 bt437.2.2.1 t399 t402 t403).bind fun t444 => (if t444 = true then (laws_FnExactMachTurn.j2 kj59 t429 (bt437.2.2.2 != t404) t430 t415 t416) else (laws_FnExactMachTurn.j2 kj59 t429 true t430 t415 t416))))) else (some false))) = some r := H
                  have A91 := Aside0.mk A910
                  clear A910
                  by_cases c92 : t431 < 0
                  · rw [if_pos c92] at H
                    have c92b0 : decide (t431 < 0) = true := decide_eq_true c92
                    clear c92
                    obtain rfl := Option.some.inj H
                    have hnb93 := NB418_392.out
                    have hnc93 := NB392_418.out
                    have hnb94 := NB418_405.out
                    have hnc94 := NB405_418.out
                    have hnb95 := NB418_411.out
                    have hnc95 := NB411_418.out
                    have hcz96_0 : wc.cell? ⟨gb418, 0, none⟩ = some (.slice Ao32 t412.length co32) := (blk_cell BK418.out 0).trans rfl
                    have hcz96_1 : wc.cell? ⟨gb418, 1, none⟩ = some (.int .i64 t415) := (blk_cell BK418.out 1).trans rfl
                    have hcz96_2 : wc.cell? ⟨gb418, 2, none⟩ = some (.int .i64 t416) := (blk_cell BK418.out 2).trans rfl
                    have hfz96_0 := blk_frozen BK418.out 0
                    have hfz96_1 := blk_frozen BK418.out 1
                    have hfz96_2 := blk_frozen BK418.out 2
                    go_wp2_with (first | ((with_reducible refine gate_callee (f := 29) rfl ?_); refine goesL_ (some 64) rfl rfl Try.func29 (by kernel_rfl) rfl #[.agg #[.slice Ao32 t412.length co32, .int .i64 t415, .int .i64 t416], .int .i64 1] rfl (by (try simp only [List.map_toArray, List.map_cons, List.map_nil]); first | done | rfl | (simp only [List.length_drop, List.length_take]; rfl)) ?_; (with_reducible refine (laws_markMachine.calls kj59 (fun k_ => some k_ = (.slice Ao32 t412.length co32 : Value).ownBlock) (.slice Ao32 t412.length co32) t412 t415 t416 1 t429 t430 w _ ?side1 ?side2 A90.out).mono ?_); (case side1 => repeat (first | (with_reducible first | exact HB.out | apply below_alloc | apply pw_below_drewN | apply below_drew1 | refine below_set ?_ GE392.out | refine below_set ?_ GE405.out | refine below_set ?_ GE411.out | refine below_set ?_ GE418.out) | exact HB.out)); (case side2 => exact Kd.R_tight rfl HO_419000.out); rintro e w97 ⟨rfl, hy0, hb, hkp⟩; refine ⟨_, rfl, ?_⟩; have n0_ := Aside0.mk (Kd.R_mono (ok' := fun k_ => some k_ ≠ (.slice Ao26 t427.length co26 : Value).ownBlock ∧ some k_ ≠ (.slice Ao32 t412.length co32 : Value).ownBlock) (Kd.R_keptB (HO_406000.out) hkp (fun k_ hk_ hs_ => (hk_.2) hs_)) (fun k_ hk_ => ⟨hk_.1.1, hk_.1.2⟩)); have n1_ := Aside0.mk (Kd.R_mono (ok' := fun k_ => some k_ ≠ (.slice Ao20 t399.length co20 : Value).ownBlock ∧ some k_ ≠ (.slice Ao32 t412.length co32 : Value).ownBlock) (Kd.R_keptB (HO_412000.out) hkp (fun k_ hk_ hs_ => (hk_.2) hs_)) (fun k_ hk_ => ⟨hk_.1.1, hk_.1.2⟩)); have n2_ := Aside0.mk (Kd.R_reok rfl hy0 (fun k_ e_ => HO_419000.out.1 k_ e_)); have n3_ := Aside0.mk (blk_kept (by (with_reducible repeat (first | refine blk_drewN ?_ _ | refine blk_drew ?_ | refine blk_alloc ?_ _)); exact BK392.out) hkp (fun hs_ => (fun e_ => (Kd.R_ne HO_419000.out BK392.out (by decide)) e_) hs_)); have n4_ := Aside0.mk (blk_kept (by (with_reducible repeat (first | refine blk_drewN ?_ _ | refine blk_drew ?_ | refine blk_alloc ?_ _)); exact BK405.out) hkp (fun hs_ => (fun e_ => (Kd.R_ne HO_419000.out BK405.out (by decide)) e_) hs_)); have n5_ := Aside0.mk (blk_kept (by (with_reducible repeat (first | refine blk_drewN ?_ _ | refine blk_drew ?_ | refine blk_alloc ?_ _)); exact BK411.out) hkp (fun hs_ => (fun e_ => (Kd.R_ne HO_419000.out BK411.out (by decide)) e_) hs_)); have n6_ := Aside0.mk (blk_kept (by (with_reducible repeat (first | refine blk_drewN ?_ _ | refine blk_drew ?_ | refine blk_alloc ?_ _)); exact BK418.out) hkp (fun hs_ => (fun e_ => (Kd.R_ne HO_419000.out BK418.out (by decide)) e_) hs_)); have n7_ := Aside0.mk (hb); clear HO_406000; clear HO_412000; clear HO_419000; clear BK392; clear BK405; clear BK411; clear BK418; clear HB; have HO_406000 := n0_; have HO_412000 := n1_; have HO_419000 := n2_; have BK392 := n3_; have BK405 := n4_; have BK411 := n5_; have BK418 := n6_; have HB := n7_; clear n0_ n1_ n2_ n3_ n4_ n5_ n6_ n7_; (try clear hb); (try clear hkp); (try clear hy0); have hcz98_0 : w97.cell? ⟨gb418, 0, none⟩ = some (.slice Ao32 t412.length co32) := (blk_cell BK418.out 0).trans rfl; have hcz98_1 : w97.cell? ⟨gb418, 1, none⟩ = some (.int .i64 t415) := (blk_cell BK418.out 1).trans rfl; have hcz98_2 : w97.cell? ⟨gb418, 2, none⟩ = some (.int .i64 t416) := (blk_cell BK418.out 2).trans rfl; have hfz98_0 := blk_frozen BK418.out 0; have hfz98_1 := blk_frozen BK418.out 1; have hfz98_2 := blk_frozen BK418.out 2) | ((with_reducible refine gate_callee (f := 30) rfl ?_); refine goesL_ (some 67) rfl rfl Try.func30 (by kernel_rfl) rfl #[.agg #[.slice Ao32 t430.length co32, .int .i64 t415, .int .i64 t416], .int .i64 1] rfl (by (try simp only [List.map_toArray, List.map_cons, List.map_nil]); first | done | (rw [show t430.length = t412.length from (Kd.R_reads' HO_419000.out).1.symm] <;> rfl) | rfl | (simp only [List.length_drop, List.length_take]; rfl)) ?_; (with_reducible refine (laws_heldMachine.calls kj59 _ _ t430 t415 t416 1 t431 _ ?side1 ?side2 A91.out).mono ?_); (case side1 => repeat (first | exact (Kd.R_reads' HO_419000.out).2.2 | (with_reducible refine Kd.C_alloc ?_ _) | (with_reducible refine Kd.C_drewN ?_ _) | (with_reducible refine Kd.C_drew ?_))); (case side2 => rw [show t430.length = t412.length from (Kd.R_reads' HO_419000.out).1.symm]; exact (Kd.R_reads' HO_419000.out).2.1); rintro e w99 ⟨rfl, hb⟩; refine ⟨_, rfl, ?_⟩; have n0_ := Aside0.mk (Kd.R_below (by (with_reducible repeat (first | apply Kd.R_alloc | apply Kd.R_drewN | apply Kd.R_drew)); exact HO_406000.out) hb); have n1_ := Aside0.mk (Kd.R_below (by (with_reducible repeat (first | apply Kd.R_alloc | apply Kd.R_drewN | apply Kd.R_drew)); exact HO_412000.out) hb); have n2_ := Aside0.mk (Kd.R_below (by (with_reducible repeat (first | apply Kd.R_alloc | apply Kd.R_drewN | apply Kd.R_drew)); exact HO_419000.out) hb); have n3_ := Aside0.mk (blk_below (g := gb392) (o := .cells #[.slice A0_0 l0_0.length c0_0, .int .i64 a0_1, .int .i64 a0_2] 24 (0, 0)) (by (with_reducible repeat (first | refine blk_drewN ?_ _ | refine blk_drew ?_ | refine blk_alloc ?_ _)); exact BK392.out) hb); have n4_ := Aside0.mk (blk_below (g := gb405) (o := .cells #[.slice Ao20 t399.length co20, .int .i64 t402, .int .i64 t403] 27 (0, 0)) (by (with_reducible repeat (first | refine blk_drewN ?_ _ | refine blk_drew ?_ | refine blk_alloc ?_ _)); exact BK405.out) hb); have n5_ := Aside0.mk (blk_below (g := gb411) (o := .cells #[.slice Ao26 t427.length co26, .int .i64 t409, .int .i64 t410] 27 (0, 0)) (by (with_reducible repeat (first | refine blk_drewN ?_ _ | refine blk_drew ?_ | refine blk_alloc ?_ _)); exact BK411.out) hb); have n6_ := Aside0.mk (blk_below (g := gb418) (o := .cells #[.slice Ao32 t412.length co32, .int .i64 t415, .int .i64 t416] 27 (0, 0)) (by (with_reducible repeat (first | refine blk_drewN ?_ _ | refine blk_drew ?_ | refine blk_alloc ?_ _)); exact BK418.out) hb); have n7_ := Aside0.mk (below_step (by repeat (first | (with_reducible first | exact HB.out | apply below_alloc | apply pw_below_drewN | apply below_drew1 | refine below_set ?_ GE392.out | refine below_set ?_ GE405.out | refine below_set ?_ GE411.out | refine below_set ?_ GE418.out) | exact HB.out)) hb); clear HO_406000; clear HO_412000; clear HO_419000; clear BK392; clear BK405; clear BK411; clear BK418; clear HB; have HO_406000 := n0_; have HO_412000 := n1_; have HO_419000 := n2_; have BK392 := n3_; have BK405 := n4_; have BK411 := n5_; have BK418 := n6_; have HB := n7_; clear n0_ n1_ n2_ n3_ n4_ n5_ n6_ n7_; (try clear hb); (try clear hb2); (try clear hk); (try clear hi)))
                    go_ret
                    exact ⟨by first | rfl | (simp [errW_none, errW_some] <;> rfl) | (simp [*, errW_none, errW_some] <;> rfl), by repeat (first | (with_reducible first | exact HB.out | apply below_alloc | apply pw_below_drewN | apply below_drew1 | refine below_set ?_ GE392.out | refine below_set ?_ GE405.out | refine below_set ?_ GE411.out | refine below_set ?_ GE418.out) | exact HB.out)⟩
                  · rw [if_neg c92] at H
                    have c92b0 : decide (t431 < 0) = false := decide_eq_false c92
                    clear c92
                    by_cases c100 : t431 = t429
                    · rw [if_pos c100] at H
                      have c100b0 : (t431 == t429) = true := beq_iff_eq.mpr c100
                      have c100b1 : (t431 != t429) = false := bne_eq_false_iff_eq.mpr c100
                      clear c100
                      replace H := Option.bind_eq_some_iff.mp H
                      obtain ⟨⟨t432, t435, t436⟩, A1010, H⟩ := H
                      replace H : ((impl_MachTurn.f kj59 t432 t435 t436).bind fun bt437 => ((laws_eqMachine.f kj59 bt437.1 bt437.2.1 bt437.2.2.1 t399 t402 t403).bind fun t444 => (if t444 = true then (laws_FnExactMachTurn.j2 kj59 t429 (bt437.2.2.2 != t404) t430 t415 t416) else (laws_FnExactMachTurn.j2 kj59 t429 true t430 t415 t416)))) = some r := H
                      have A101 := Aside0.mk A1010
                      clear A1010
                      replace H := Option.bind_eq_some_iff.mp H
                      obtain ⟨⟨t437, t440, t441, t442⟩, A1020, H⟩ := H
                      replace H : ((laws_eqMachine.f kj59 t437 t440 t441 t399 t402 t403).bind fun t444 => (if t444 = true then (laws_FnExactMachTurn.j2 kj59 t429 (t442 != t404) t430 t415 t416) else (laws_FnExactMachTurn.j2 kj59 t429 true t430 t415 t416))) = some r := H
                      have A102 := Aside0.mk A1020
                      clear A1020
                      have HC103 := Aside0.mk H
                      clear H
                      have hnb104 := NB418_392.out
                      have hnc104 := NB392_418.out
                      have hnb105 := NB418_405.out
                      have hnc105 := NB405_418.out
                      have hnb106 := NB418_411.out
                      have hnc106 := NB411_418.out
                      have hcz107_0 : wc.cell? ⟨gb418, 0, none⟩ = some (.slice Ao32 t412.length co32) := (blk_cell BK418.out 0).trans rfl
                      have hcz107_1 : wc.cell? ⟨gb418, 1, none⟩ = some (.int .i64 t415) := (blk_cell BK418.out 1).trans rfl
                      have hcz107_2 : wc.cell? ⟨gb418, 2, none⟩ = some (.int .i64 t416) := (blk_cell BK418.out 2).trans rfl
                      have hfz107_0 := blk_frozen BK418.out 0
                      have hfz107_1 := blk_frozen BK418.out 1
                      have hfz107_2 := blk_frozen BK418.out 2
                      go_upto_region 25 with (first | ((with_reducible refine gate_callee (f := 29) rfl ?_); refine goesL_ (some 64) rfl rfl Try.func29 (by kernel_rfl) rfl #[.agg #[.slice Ao32 t412.length co32, .int .i64 t415, .int .i64 t416], .int .i64 1] rfl (by (try simp only [List.map_toArray, List.map_cons, List.map_nil]); first | done | rfl | (simp only [List.length_drop, List.length_take]; rfl)) ?_; (with_reducible refine (laws_markMachine.calls kj59 (fun k_ => some k_ = (.slice Ao32 t412.length co32 : Value).ownBlock) (.slice Ao32 t412.length co32) t412 t415 t416 1 t429 t430 w _ ?side1 ?side2 A90.out).mono ?_); (case side1 => repeat (first | (with_reducible first | exact HB.out | apply below_alloc | apply pw_below_drewN | apply below_drew1 | refine below_set ?_ GE392.out | refine below_set ?_ GE405.out | refine below_set ?_ GE411.out | refine below_set ?_ GE418.out) | exact HB.out)); (case side2 => exact Kd.R_tight rfl HO_419000.out); rintro e w108 ⟨rfl, hy0, hb, hkp⟩; refine ⟨_, rfl, ?_⟩; have n0_ := Aside0.mk (Kd.R_mono (ok' := fun k_ => some k_ ≠ (.slice Ao26 t427.length co26 : Value).ownBlock ∧ some k_ ≠ (.slice Ao32 t412.length co32 : Value).ownBlock) (Kd.R_keptB (HO_406000.out) hkp (fun k_ hk_ hs_ => (hk_.2) hs_)) (fun k_ hk_ => ⟨hk_.1.1, hk_.1.2⟩)); have n1_ := Aside0.mk (Kd.R_mono (ok' := fun k_ => some k_ ≠ (.slice Ao20 t399.length co20 : Value).ownBlock ∧ some k_ ≠ (.slice Ao32 t412.length co32 : Value).ownBlock) (Kd.R_keptB (HO_412000.out) hkp (fun k_ hk_ hs_ => (hk_.2) hs_)) (fun k_ hk_ => ⟨hk_.1.1, hk_.1.2⟩)); have n2_ := Aside0.mk (Kd.R_reok rfl hy0 (fun k_ e_ => HO_419000.out.1 k_ e_)); have n3_ := Aside0.mk (blk_kept (by (with_reducible repeat (first | refine blk_drewN ?_ _ | refine blk_drew ?_ | refine blk_alloc ?_ _)); exact BK392.out) hkp (fun hs_ => (fun e_ => (Kd.R_ne HO_419000.out BK392.out (by decide)) e_) hs_)); have n4_ := Aside0.mk (blk_kept (by (with_reducible repeat (first | refine blk_drewN ?_ _ | refine blk_drew ?_ | refine blk_alloc ?_ _)); exact BK405.out) hkp (fun hs_ => (fun e_ => (Kd.R_ne HO_419000.out BK405.out (by decide)) e_) hs_)); have n5_ := Aside0.mk (blk_kept (by (with_reducible repeat (first | refine blk_drewN ?_ _ | refine blk_drew ?_ | refine blk_alloc ?_ _)); exact BK411.out) hkp (fun hs_ => (fun e_ => (Kd.R_ne HO_419000.out BK411.out (by decide)) e_) hs_)); have n6_ := Aside0.mk (blk_kept (by (with_reducible repeat (first | refine blk_drewN ?_ _ | refine blk_drew ?_ | refine blk_alloc ?_ _)); exact BK418.out) hkp (fun hs_ => (fun e_ => (Kd.R_ne HO_419000.out BK418.out (by decide)) e_) hs_)); have n7_ := Aside0.mk (hb); clear HO_406000; clear HO_412000; clear HO_419000; clear BK392; clear BK405; clear BK411; clear BK418; clear HB; have HO_406000 := n0_; have HO_412000 := n1_; have HO_419000 := n2_; have BK392 := n3_; have BK405 := n4_; have BK411 := n5_; have BK418 := n6_; have HB := n7_; clear n0_ n1_ n2_ n3_ n4_ n5_ n6_ n7_; (try clear hb); (try clear hkp); (try clear hy0); have hcz109_0 : w108.cell? ⟨gb418, 0, none⟩ = some (.slice Ao32 t412.length co32) := (blk_cell BK418.out 0).trans rfl; have hcz109_1 : w108.cell? ⟨gb418, 1, none⟩ = some (.int .i64 t415) := (blk_cell BK418.out 1).trans rfl; have hcz109_2 : w108.cell? ⟨gb418, 2, none⟩ = some (.int .i64 t416) := (blk_cell BK418.out 2).trans rfl; have hfz109_0 := blk_frozen BK418.out 0; have hfz109_1 := blk_frozen BK418.out 1; have hfz109_2 := blk_frozen BK418.out 2) | ((with_reducible refine gate_callee (f := 30) rfl ?_); refine goesL_ (some 67) rfl rfl Try.func30 (by kernel_rfl) rfl #[.agg #[.slice Ao32 t430.length co32, .int .i64 t415, .int .i64 t416], .int .i64 1] rfl (by (try simp only [List.map_toArray, List.map_cons, List.map_nil]); first | done | (rw [show t430.length = t412.length from (Kd.R_reads' HO_419000.out).1.symm] <;> rfl) | rfl | (simp only [List.length_drop, List.length_take]; rfl)) ?_; (with_reducible refine (laws_heldMachine.calls kj59 _ _ t430 t415 t416 1 t431 _ ?side1 ?side2 A91.out).mono ?_); (case side1 => repeat (first | exact (Kd.R_reads' HO_419000.out).2.2 | (with_reducible refine Kd.C_alloc ?_ _) | (with_reducible refine Kd.C_drewN ?_ _) | (with_reducible refine Kd.C_drew ?_))); (case side2 => rw [show t430.length = t412.length from (Kd.R_reads' HO_419000.out).1.symm]; exact (Kd.R_reads' HO_419000.out).2.1); rintro e w110 ⟨rfl, hb⟩; refine ⟨_, rfl, ?_⟩; have n0_ := Aside0.mk (Kd.R_below (by (with_reducible repeat (first | apply Kd.R_alloc | apply Kd.R_drewN | apply Kd.R_drew)); exact HO_406000.out) hb); have n1_ := Aside0.mk (Kd.R_below (by (with_reducible repeat (first | apply Kd.R_alloc | apply Kd.R_drewN | apply Kd.R_drew)); exact HO_412000.out) hb); have n2_ := Aside0.mk (Kd.R_below (by (with_reducible repeat (first | apply Kd.R_alloc | apply Kd.R_drewN | apply Kd.R_drew)); exact HO_419000.out) hb); have n3_ := Aside0.mk (blk_below (g := gb392) (o := .cells #[.slice A0_0 l0_0.length c0_0, .int .i64 a0_1, .int .i64 a0_2] 24 (0, 0)) (by (with_reducible repeat (first | refine blk_drewN ?_ _ | refine blk_drew ?_ | refine blk_alloc ?_ _)); exact BK392.out) hb); have n4_ := Aside0.mk (blk_below (g := gb405) (o := .cells #[.slice Ao20 t399.length co20, .int .i64 t402, .int .i64 t403] 27 (0, 0)) (by (with_reducible repeat (first | refine blk_drewN ?_ _ | refine blk_drew ?_ | refine blk_alloc ?_ _)); exact BK405.out) hb); have n5_ := Aside0.mk (blk_below (g := gb411) (o := .cells #[.slice Ao26 t427.length co26, .int .i64 t409, .int .i64 t410] 27 (0, 0)) (by (with_reducible repeat (first | refine blk_drewN ?_ _ | refine blk_drew ?_ | refine blk_alloc ?_ _)); exact BK411.out) hb); have n6_ := Aside0.mk (blk_below (g := gb418) (o := .cells #[.slice Ao32 t412.length co32, .int .i64 t415, .int .i64 t416] 27 (0, 0)) (by (with_reducible repeat (first | refine blk_drewN ?_ _ | refine blk_drew ?_ | refine blk_alloc ?_ _)); exact BK418.out) hb); have n7_ := Aside0.mk (below_step (by repeat (first | (with_reducible first | exact HB.out | apply below_alloc | apply pw_below_drewN | apply below_drew1 | refine below_set ?_ GE392.out | refine below_set ?_ GE405.out | refine below_set ?_ GE411.out | refine below_set ?_ GE418.out) | exact HB.out)) hb); clear HO_406000; clear HO_412000; clear HO_419000; clear BK392; clear BK405; clear BK411; clear BK418; clear HB; have HO_406000 := n0_; have HO_412000 := n1_; have HO_419000 := n2_; have BK392 := n3_; have BK405 := n4_; have BK411 := n5_; have BK418 := n6_; have HB := n7_; clear n0_ n1_ n2_ n3_ n4_ n5_ n6_ n7_; (try clear hb); (try clear hb2); (try clear hk); (try clear hi); have hnb111 := NB392_405.out; have hnc111 := NB405_392.out; have hnb112 := NB392_411.out; have hnc112 := NB411_392.out; have hcz113_0 : w110.cell? ⟨gb392, 0, none⟩ = some (.slice A0_0 l0_0.length c0_0) := (blk_cell BK392.out 0).trans rfl; have hcz113_1 : w110.cell? ⟨gb392, 1, none⟩ = some (.int .i64 a0_1) := (blk_cell BK392.out 1).trans rfl; have hcz113_2 : w110.cell? ⟨gb392, 2, none⟩ = some (.int .i64 a0_2) := (blk_cell BK392.out 2).trans rfl; have hfz113_0 := blk_frozen BK392.out 0; have hfz113_1 := blk_frozen BK392.out 1; have hfz113_2 := blk_frozen BK392.out 2) | ((with_reducible refine gate_callee (f := 17) rfl ?_); refine goesL_ (some 75) rfl rfl Try.func17 (by kernel_rfl) rfl #[.agg #[.slice A0_0 l0_0.length c0_0, .int .i64 a0_1, .int .i64 a0_2]] rfl (by (try simp only [List.map_toArray, List.map_cons, List.map_nil]); first | done | rfl | (simp only [List.length_drop, List.length_take]; rfl)) ?_; (with_reducible refine (laws_toMachine.calls kj59 _ _ l0_0 a0_1 a0_2 t432 t435 t436 _ ?side1 ?side2 A101.out).mono ?_); (case side1 => repeat (first | exact (Kd.C_below HR0_0.out HB.out) | (with_reducible refine Kd.C_alloc ?_ _) | (with_reducible refine Kd.C_drewN ?_ _) | (with_reducible refine Kd.C_drew ?_))); (case side2 => exact HC0_0.out); rintro e w114 ⟨v433, rfl, ho0, hb⟩; refine ⟨_, rfl, ?_⟩; have n0_ := Aside0.mk (Kd.R_elder' (by (with_reducible repeat (first | apply Kd.R_alloc | apply Kd.R_drewN | apply Kd.R_drew)); exact HO_406000.out) (Kd.R_base ho0) hb); have n1_ := Aside0.mk (Kd.R_elder' (by (with_reducible repeat (first | apply Kd.R_alloc | apply Kd.R_drewN | apply Kd.R_drew)); exact HO_412000.out) (Kd.R_base ho0) hb); have n2_ := Aside0.mk (Kd.R_elder' (by (with_reducible repeat (first | apply Kd.R_alloc | apply Kd.R_drewN | apply Kd.R_drew)); exact HO_419000.out) (Kd.R_base ho0) hb); have n3_ := Aside0.mk (Kd.R_lower (Kd.R_new' (Kd.R_new' (Kd.R_new' ho0 (Kd.R_lt (by (with_reducible repeat (first | apply Kd.R_alloc | apply Kd.R_drewN | apply Kd.R_drew)); exact HO_406000.out))) (Kd.R_lt (by (with_reducible repeat (first | apply Kd.R_alloc | apply Kd.R_drewN | apply Kd.R_drew)); exact HO_412000.out))) (Kd.R_lt (by (with_reducible repeat (first | apply Kd.R_alloc | apply Kd.R_drewN | apply Kd.R_drew)); exact HO_419000.out))) (below_size (by repeat (first | (with_reducible first | exact HB.out | apply below_alloc | apply pw_below_drewN | apply below_drew1 | refine below_set ?_ GE392.out | refine below_set ?_ GE405.out | refine below_set ?_ GE411.out | refine below_set ?_ GE418.out) | exact HB.out)))); have n4_ := Aside0.mk (blk_below (g := gb392) (o := .cells #[.slice A0_0 l0_0.length c0_0, .int .i64 a0_1, .int .i64 a0_2] 24 (0, 0)) (by (with_reducible repeat (first | refine blk_drewN ?_ _ | refine blk_drew ?_ | refine blk_alloc ?_ _)); exact BK392.out) hb); have n5_ := Aside0.mk (blk_below (g := gb405) (o := .cells #[.slice Ao20 t399.length co20, .int .i64 t402, .int .i64 t403] 27 (0, 0)) (by (with_reducible repeat (first | refine blk_drewN ?_ _ | refine blk_drew ?_ | refine blk_alloc ?_ _)); exact BK405.out) hb); have n6_ := Aside0.mk (blk_below (g := gb411) (o := .cells #[.slice Ao26 t427.length co26, .int .i64 t409, .int .i64 t410] 27 (0, 0)) (by (with_reducible repeat (first | refine blk_drewN ?_ _ | refine blk_drew ?_ | refine blk_alloc ?_ _)); exact BK411.out) hb); have n7_ := Aside0.mk (blk_below (g := gb418) (o := .cells #[.slice Ao32 t412.length co32, .int .i64 t415, .int .i64 t416] 27 (0, 0)) (by (with_reducible repeat (first | refine blk_drewN ?_ _ | refine blk_drew ?_ | refine blk_alloc ?_ _)); exact BK418.out) hb); have n8_ := Aside0.mk (below_step (by repeat (first | (with_reducible first | exact HB.out | apply below_alloc | apply pw_below_drewN | apply below_drew1 | refine below_set ?_ GE392.out | refine below_set ?_ GE405.out | refine below_set ?_ GE411.out | refine below_set ?_ GE418.out) | exact HB.out)) hb); clear HO_406000; clear HO_412000; clear HO_419000; clear BK392; clear BK405; clear BK411; clear BK418; clear HB; have HO_406000 := n0_; have HO_412000 := n1_; have HO_419000 := n2_; have HO434 := n3_; have BK392 := n4_; have BK405 := n5_; have BK411 := n6_; have BK418 := n7_; have HB := n8_; clear n0_ n1_ n2_ n3_ n4_ n5_ n6_ n7_ n8_; (try clear hb); (try clear hb2); (try clear hk); (try clear hi); (try clear ho0); obtain ⟨Ao115, co115, eo115⟩ := Kd.R_slice HO434.out; subst eo115) | ((with_reducible refine gate_callee (f := 28) rfl ?_); refine goesL_ (some 76) rfl rfl Try.func28 (by kernel_rfl) rfl #[.agg #[.slice Ao115 t432.length co115, .int .i64 t435, .int .i64 t436]] rfl (by (try simp only [List.map_toArray, List.map_cons, List.map_nil]); first | done | rfl | (simp only [List.length_drop, List.length_take]; rfl)) ?_; (with_reducible refine (impl_MachTurn.calls kj59 _ _ t432 t435 t436 t437 t440 t441 t442 _ ?side1 ?side2 A102.out).mono ?_); (case side1 => repeat (first | exact (Kd.R_reads' HO434.out).2.2 | (with_reducible refine Kd.C_alloc ?_ _) | (with_reducible refine Kd.C_drewN ?_ _) | (with_reducible refine Kd.C_drew ?_))); (case side2 => exact (Kd.R_reads' HO434.out).2.1); rintro e w116 ⟨v438, rfl, ho0, hb⟩; refine ⟨_, rfl, ?_⟩; have n0_ := Aside0.mk (Kd.R_elder' (by (with_reducible repeat (first | apply Kd.R_alloc | apply Kd.R_drewN | apply Kd.R_drew)); exact HO_406000.out) (Kd.R_base ho0) hb); have n1_ := Aside0.mk (Kd.R_elder' (by (with_reducible repeat (first | apply Kd.R_alloc | apply Kd.R_drewN | apply Kd.R_drew)); exact HO_412000.out) (Kd.R_base ho0) hb); have n2_ := Aside0.mk (Kd.R_elder' (by (with_reducible repeat (first | apply Kd.R_alloc | apply Kd.R_drewN | apply Kd.R_drew)); exact HO_419000.out) (Kd.R_base ho0) hb); have n3_ := Aside0.mk (Kd.R_elder' (by (with_reducible repeat (first | apply Kd.R_alloc | apply Kd.R_drewN | apply Kd.R_drew)); exact HO434.out) (Kd.R_base ho0) hb); have n4_ := Aside0.mk (Kd.R_lower (Kd.R_new' (Kd.R_new' (Kd.R_new' (Kd.R_new' ho0 (Kd.R_lt (by (with_reducible repeat (first | apply Kd.R_alloc | apply Kd.R_drewN | apply Kd.R_drew)); exact HO_406000.out))) (Kd.R_lt (by (with_reducible repeat (first | apply Kd.R_alloc | apply Kd.R_drewN | apply Kd.R_drew)); exact HO_412000.out))) (Kd.R_lt (by (with_reducible repeat (first | apply Kd.R_alloc | apply Kd.R_drewN | apply Kd.R_drew)); exact HO_419000.out))) (Kd.R_lt (by (with_reducible repeat (first | apply Kd.R_alloc | apply Kd.R_drewN | apply Kd.R_drew)); exact HO434.out))) (below_size (by repeat (first | (with_reducible first | exact HB.out | apply below_alloc | apply pw_below_drewN | apply below_drew1 | refine below_set ?_ GE392.out | refine below_set ?_ GE405.out | refine below_set ?_ GE411.out | refine below_set ?_ GE418.out) | exact HB.out)))); have n5_ := Aside0.mk (blk_below (g := gb392) (o := .cells #[.slice A0_0 l0_0.length c0_0, .int .i64 a0_1, .int .i64 a0_2] 24 (0, 0)) (by (with_reducible repeat (first | refine blk_drewN ?_ _ | refine blk_drew ?_ | refine blk_alloc ?_ _)); exact BK392.out) hb); have n6_ := Aside0.mk (blk_below (g := gb405) (o := .cells #[.slice Ao20 t399.length co20, .int .i64 t402, .int .i64 t403] 27 (0, 0)) (by (with_reducible repeat (first | refine blk_drewN ?_ _ | refine blk_drew ?_ | refine blk_alloc ?_ _)); exact BK405.out) hb); have n7_ := Aside0.mk (blk_below (g := gb411) (o := .cells #[.slice Ao26 t427.length co26, .int .i64 t409, .int .i64 t410] 27 (0, 0)) (by (with_reducible repeat (first | refine blk_drewN ?_ _ | refine blk_drew ?_ | refine blk_alloc ?_ _)); exact BK411.out) hb); have n8_ := Aside0.mk (blk_below (g := gb418) (o := .cells #[.slice Ao32 t412.length co32, .int .i64 t415, .int .i64 t416] 27 (0, 0)) (by (with_reducible repeat (first | refine blk_drewN ?_ _ | refine blk_drew ?_ | refine blk_alloc ?_ _)); exact BK418.out) hb); have n9_ := Aside0.mk (below_step (by repeat (first | (with_reducible first | exact HB.out | apply below_alloc | apply pw_below_drewN | apply below_drew1 | refine below_set ?_ GE392.out | refine below_set ?_ GE405.out | refine below_set ?_ GE411.out | refine below_set ?_ GE418.out) | exact HB.out)) hb); clear HO_406000; clear HO_412000; clear HO_419000; clear HO434; clear BK392; clear BK405; clear BK411; clear BK418; clear HB; have HO_406000 := n0_; have HO_412000 := n1_; have HO_419000 := n2_; have HO434 := n3_; have HO439 := n4_; have BK392 := n5_; have BK405 := n6_; have BK411 := n7_; have BK418 := n8_; have HB := n9_; clear n0_ n1_ n2_ n3_ n4_ n5_ n6_ n7_ n8_ n9_; (try clear hb); (try clear hb2); (try clear hk); (try clear hi); (try clear ho0)) | ((with_reducible refine gate_dst (N := 12) rfl ?_); refine box_event ?hg (N := 12) ?hd (cs := #[.slice none 0 0, .int .i64 0, .int .i64 0]) (t := 27) ?hr ?_; (case hd => rfl); (case hg => rfl); (case hr => first | (go_simp; done) | (go_simp; rfl)); intro gb443 hg w117 hbox hb; have n0_ := Aside0.mk (Kd.R_below (by (with_reducible repeat (first | apply Kd.R_alloc | apply Kd.R_drewN | apply Kd.R_drew)); exact HO_406000.out) hb); have n1_ := Aside0.mk (Kd.R_below (by (with_reducible repeat (first | apply Kd.R_alloc | apply Kd.R_drewN | apply Kd.R_drew)); exact HO_412000.out) hb); have n2_ := Aside0.mk (Kd.R_below (by (with_reducible repeat (first | apply Kd.R_alloc | apply Kd.R_drewN | apply Kd.R_drew)); exact HO_419000.out) hb); have n3_ := Aside0.mk (Kd.R_below (by (with_reducible repeat (first | apply Kd.R_alloc | apply Kd.R_drewN | apply Kd.R_drew)); exact HO434.out) hb); have n4_ := Aside0.mk (Kd.R_below (by (with_reducible repeat (first | apply Kd.R_alloc | apply Kd.R_drewN | apply Kd.R_drew)); exact HO439.out) hb); have n5_ := Aside0.mk (blk_below (g := gb392) (o := .cells #[.slice A0_0 l0_0.length c0_0, .int .i64 a0_1, .int .i64 a0_2] 24 (0, 0)) (by (with_reducible repeat (first | refine blk_drewN ?_ _ | refine blk_drew ?_ | refine blk_alloc ?_ _)); exact BK392.out) hb); have n6_ := Aside0.mk (blk_below (g := gb405) (o := .cells #[.slice Ao20 t399.length co20, .int .i64 t402, .int .i64 t403] 27 (0, 0)) (by (with_reducible repeat (first | refine blk_drewN ?_ _ | refine blk_drew ?_ | refine blk_alloc ?_ _)); exact BK405.out) hb); have n7_ := Aside0.mk (blk_below (g := gb411) (o := .cells #[.slice Ao26 t427.length co26, .int .i64 t409, .int .i64 t410] 27 (0, 0)) (by (with_reducible repeat (first | refine blk_drewN ?_ _ | refine blk_drew ?_ | refine blk_alloc ?_ _)); exact BK411.out) hb); have n8_ := Aside0.mk (blk_below (g := gb418) (o := .cells #[.slice Ao32 t412.length co32, .int .i64 t415, .int .i64 t416] 27 (0, 0)) (by (with_reducible repeat (first | refine blk_drewN ?_ _ | refine blk_drew ?_ | refine blk_alloc ?_ _)); exact BK418.out) hb); have n9_ := Aside0.mk (below_step (by repeat (first | (with_reducible first | exact HB.out | apply below_alloc | apply pw_below_drewN | apply below_drew1 | refine below_set ?_ GE392.out | refine below_set ?_ GE405.out | refine below_set ?_ GE411.out | refine below_set ?_ GE418.out) | exact HB.out)) hb); have n10_ := Aside0.mk (hbox); have n11_ := Aside0.mk ((by rw [hg]; exact (below_size (by repeat (first | (with_reducible first | exact HB.out | apply below_alloc | apply pw_below_drewN | apply below_drew1 | refine below_set ?_ GE392.out | refine below_set ?_ GE405.out | refine below_set ?_ GE411.out | refine below_set ?_ GE418.out) | exact HB.out))) : w.heap.size ≤ gb443)); have n12_ := Aside0.mk ((by rw [hg]; exact (below_size (by repeat (first | (with_reducible first | exact HB.out | apply below_alloc | apply pw_below_drewN | apply below_drew1 | refine below_set ?_ GE392.out | refine below_set ?_ GE405.out | refine below_set ?_ GE411.out | refine below_set ?_ GE418.out) | exact HB.out))) : w.heap.size ≤ gb443)); have n13_ := Aside0.mk ((by rw [hg]; exact Nat.ne_of_lt (blk_lt (g := gb392) (o := .cells #[.slice A0_0 l0_0.length c0_0, .int .i64 a0_1, .int .i64 a0_2] 24 (0, 0)) (by (with_reducible repeat (first | refine blk_drewN ?_ _ | refine blk_drew ?_ | refine blk_alloc ?_ _)); exact BK392.out)) : gb392 ≠ gb443)); have n14_ := Aside0.mk ((by rw [hg]; exact Nat.ne_of_gt (blk_lt (g := gb392) (o := .cells #[.slice A0_0 l0_0.length c0_0, .int .i64 a0_1, .int .i64 a0_2] 24 (0, 0)) (by (with_reducible repeat (first | refine blk_drewN ?_ _ | refine blk_drew ?_ | refine blk_alloc ?_ _)); exact BK392.out)) : gb443 ≠ gb392)); have n15_ := Aside0.mk ((by rw [hg]; exact Nat.ne_of_lt (blk_lt (g := gb405) (o := .cells #[.slice Ao20 t399.length co20, .int .i64 t402, .int .i64 t403] 27 (0, 0)) (by (with_reducible repeat (first | refine blk_drewN ?_ _ | refine blk_drew ?_ | refine blk_alloc ?_ _)); exact BK405.out)) : gb405 ≠ gb443)); have n16_ := Aside0.mk ((by rw [hg]; exact Nat.ne_of_gt (blk_lt (g := gb405) (o := .cells #[.slice Ao20 t399.length co20, .int .i64 t402, .int .i64 t403] 27 (0, 0)) (by (with_reducible repeat (first | refine blk_drewN ?_ _ | refine blk_drew ?_ | refine blk_alloc ?_ _)); exact BK405.out)) : gb443 ≠ gb405)); have n17_ := Aside0.mk ((by rw [hg]; exact Nat.ne_of_lt (blk_lt (g := gb411) (o := .cells #[.slice Ao26 t427.length co26, .int .i64 t409, .int .i64 t410] 27 (0, 0)) (by (with_reducible repeat (first | refine blk_drewN ?_ _ | refine blk_drew ?_ | refine blk_alloc ?_ _)); exact BK411.out)) : gb411 ≠ gb443)); have n18_ := Aside0.mk ((by rw [hg]; exact Nat.ne_of_gt (blk_lt (g := gb411) (o := .cells #[.slice Ao26 t427.length co26, .int .i64 t409, .int .i64 t410] 27 (0, 0)) (by (with_reducible repeat (first | refine blk_drewN ?_ _ | refine blk_drew ?_ | refine blk_alloc ?_ _)); exact BK411.out)) : gb443 ≠ gb411)); have n19_ := Aside0.mk ((by rw [hg]; exact Nat.ne_of_lt (blk_lt (g := gb418) (o := .cells #[.slice Ao32 t412.length co32, .int .i64 t415, .int .i64 t416] 27 (0, 0)) (by (with_reducible repeat (first | refine blk_drewN ?_ _ | refine blk_drew ?_ | refine blk_alloc ?_ _)); exact BK418.out)) : gb418 ≠ gb443)); have n20_ := Aside0.mk ((by rw [hg]; exact Nat.ne_of_gt (blk_lt (g := gb418) (o := .cells #[.slice Ao32 t412.length co32, .int .i64 t415, .int .i64 t416] 27 (0, 0)) (by (with_reducible repeat (first | refine blk_drewN ?_ _ | refine blk_drew ?_ | refine blk_alloc ?_ _)); exact BK418.out)) : gb443 ≠ gb418)); clear HO_406000; clear HO_412000; clear HO_419000; clear HO434; clear HO439; clear BK392; clear BK405; clear BK411; clear BK418; clear HB; have HO_406000 := n0_; have HO_412000 := n1_; have HO_419000 := n2_; have HO434 := n3_; have HO439 := n4_; have BK392 := n5_; have BK405 := n6_; have BK411 := n7_; have BK418 := n8_; have HB := n9_; have BK443 := n10_; have GW443 := n11_; have GE443 := n12_; have NB392_443 := n13_; have NB443_392 := n14_; have NB405_443 := n15_; have NB443_405 := n16_; have NB411_443 := n17_; have NB443_411 := n18_; have NB418_443 := n19_; have NB443_418 := n20_; clear n0_ n1_ n2_ n3_ n4_ n5_ n6_ n7_ n8_ n9_ n10_ n11_ n12_ n13_ n14_ n15_ n16_ n17_ n18_ n19_ n20_; clear hb hbox hg; obtain ⟨Ao118, co118, eo118⟩ := Kd.R_slice HO439.out; subst eo118; have hnb119 := NB443_392.out; have hnc119 := NB392_443.out; have hnb120 := NB443_405.out; have hnc120 := NB405_443.out; have hnb121 := NB443_411.out; have hnc121 := NB411_443.out; have hnb122 := NB443_418.out; have hnc122 := NB418_443.out; have hcz123_0 : w117.cell? ⟨gb443, 0, none⟩ = some (.slice none 0 0) := (blk_cell BK443.out 0).trans rfl; have hcz123_1 : w117.cell? ⟨gb443, 1, none⟩ = some (.int .i64 0) := (blk_cell BK443.out 1).trans rfl; have hcz123_2 : w117.cell? ⟨gb443, 2, none⟩ = some (.int .i64 0) := (blk_cell BK443.out 2).trans rfl; have hfz123_0 := blk_frozen BK443.out 0; have hfz123_1 := blk_frozen BK443.out 1; have hfz123_2 := blk_frozen BK443.out 2))
                      (try simp only [Act.put, List.setIfInBounds_toArray, List.set_cons_zero, List.set_cons_succ])
                      go_cut [87] (fun v87 wc => ∃ (kq : Nat) (x87_102 : Bool), v87 = .bool x87_102 ∧ Aside0 (laws_FnExactMachTurn.j2 kq t429 x87_102 t430 t415 t416 = some r) ∧ Aside0 (kq ≤ kj59) ∧ Aside0 (Kd.R (Kd.int .i64) 3 wc w.heap.size (fun k_ => some k_ ≠ ((.slice Ao26 t427.length co26) : Value).ownBlock ∧ some k_ ≠ ((.slice Ao32 t412.length co32) : Value).ownBlock ∧ some k_ ≠ ((.slice Ao118 t437.length co118) : Value).ownBlock) (.slice Ao20 t399.length co20) t399) ∧ Aside0 (Kd.R (Kd.int .i64) 3 wc w.heap.size (fun k_ => some k_ ≠ ((.slice Ao20 t399.length co20) : Value).ownBlock ∧ some k_ ≠ ((.slice Ao32 t412.length co32) : Value).ownBlock ∧ some k_ ≠ ((.slice Ao118 t437.length co118) : Value).ownBlock) (.slice Ao26 t427.length co26) t427) ∧ Aside0 (Kd.R (Kd.int .i64) 3 wc w.heap.size (fun k_ => some k_ ≠ ((.slice Ao20 t399.length co20) : Value).ownBlock ∧ some k_ ≠ ((.slice Ao26 t427.length co26) : Value).ownBlock ∧ some k_ ≠ ((.slice Ao118 t437.length co118) : Value).ownBlock) (.slice Ao32 t412.length co32) t430) ∧ Aside0 (Kd.R (Kd.int .i64) 3 wc w.heap.size (fun k_ => some k_ ≠ ((.slice Ao20 t399.length co20) : Value).ownBlock ∧ some k_ ≠ ((.slice Ao26 t427.length co26) : Value).ownBlock ∧ some k_ ≠ ((.slice Ao32 t412.length co32) : Value).ownBlock) (.slice Ao118 t437.length co118) t437) ∧ Aside0 (wc.heap[gb392]? = some (.cells #[(.slice A0_0 l0_0.length c0_0), .int .i64 a0_1, .int .i64 a0_2] 24 (0, 0))) ∧ Aside0 (wc.heap[gb405]? = some (.cells #[(.slice Ao20 t399.length co20), .int .i64 t402, .int .i64 t403] 27 (0, 0))) ∧ Aside0 (wc.heap[gb411]? = some (.cells #[(.slice Ao26 t427.length co26), .int .i64 t409, .int .i64 t410] 27 (0, 0))) ∧ Aside0 (wc.heap[gb418]? = some (.cells #[(.slice Ao32 t412.length co32), .int .i64 t415, .int .i64 t416] 27 (0, 0))) ∧ Aside0 (wc.heap[gb443]? = some (.cells #[(.slice Ao118 t437.length co118), .int .i64 t440, .int .i64 t441] 27 (0, 0))) ∧ Aside0 (Below w.heap.size w wc))
                      case first =>
                        have H := HC103.out
                        clear HC103
                        replace H := Option.bind_eq_some_iff.mp H
                        obtain ⟨t444, A1240, H⟩ := H
                        replace H : (if t444 = true then (laws_FnExactMachTurn.j2 kj59 t429 (t442 != t404) t430 t415 t416) else (laws_FnExactMachTurn.j2 kj59 t429 true t430 t415 t416)) = some r := H
                        have A124 := Aside0.mk A1240
                        clear A1240
                        by_cases c125 : t444 = true
                        · subst c125
                          have H1 : (laws_FnExactMachTurn.j2 kj59 t429 (t442 != t404) t430 t415 t416) = some r := by rw [if_pos rfl] at H; exact H
                          clear H
                          have H := H1
                          clear H1
                          have H' := Aside0.mk H
                          clear H
                          have hnb126 := NB443_392.out
                          have hnc126 := NB392_443.out
                          have hnb127 := NB443_405.out
                          have hnc127 := NB405_443.out
                          have hnb128 := NB443_411.out
                          have hnc128 := NB411_443.out
                          have hnb129 := NB443_418.out
                          have hnc129 := NB418_443.out
                          have hcz130_0 : w117.cell? ⟨gb443, 0, none⟩ = some (.slice none 0 0) := (blk_cell BK443.out 0).trans rfl
                          have hcz130_1 : w117.cell? ⟨gb443, 1, none⟩ = some (.int .i64 0) := (blk_cell BK443.out 1).trans rfl
                          have hcz130_2 : w117.cell? ⟨gb443, 2, none⟩ = some (.int .i64 0) := (blk_cell BK443.out 2).trans rfl
                          have hfz130_0 := blk_frozen BK443.out 0
                          have hfz130_1 := blk_frozen BK443.out 1
                          have hfz130_2 := blk_frozen BK443.out 2
                          have hnb131 := NB405_392.out
                          have hnc131 := NB392_405.out
                          have hnb132 := NB405_411.out
                          have hnc132 := NB411_405.out
                          have hnb133 := NB405_418.out
                          have hnc133 := NB418_405.out
                          have hcz134_0 : w117.cell? ⟨gb405, 0, none⟩ = some (.slice Ao20 t399.length co20) := (blk_cell BK405.out 0).trans rfl
                          have hcz134_1 : w117.cell? ⟨gb405, 1, none⟩ = some (.int .i64 t402) := (blk_cell BK405.out 1).trans rfl
                          have hcz134_2 : w117.cell? ⟨gb405, 2, none⟩ = some (.int .i64 t403) := (blk_cell BK405.out 2).trans rfl
                          have hfz134_0 := blk_frozen BK405.out 0
                          have hfz134_1 := blk_frozen BK405.out 1
                          have hfz134_2 := blk_frozen BK405.out 2
                          go_wp2_with (first | ((with_reducible refine gate_callee (f := 19) rfl ?_); refine goesL_ (some 81) rfl rfl Try.func19 (by kernel_rfl) rfl #[.agg #[.slice Ao118 t437.length co118, .int .i64 t440, .int .i64 t441], .agg #[.slice Ao20 t399.length co20, .int .i64 t402, .int .i64 t403]] rfl (by (try simp only [List.map_toArray, List.map_cons, List.map_nil]); first | done | rfl | (simp only [List.length_drop, List.length_take]; rfl)) ?_; (with_reducible refine (laws_eqMachine.calls kj59 _ _ t437 t440 t441 _ _ t399 t402 t403 true _ ?side1 ?side2 ?side3 ?side4 A124.out).mono ?_); (case side1 => refine (Kd.R_reads' (e := 3) (base := w.heap.size) (ok := fun k_ => ((((True ∧ some k_ ≠ (.slice Ao20 t399.length co20 : Value).ownBlock) ∧ some k_ ≠ (.slice Ao26 t427.length co26 : Value).ownBlock) ∧ some k_ ≠ (.slice Ao32 t412.length co32 : Value).ownBlock) ∧ some k_ ≠ (.slice Ao115 t432.length co115 : Value).ownBlock)) (n := t437.length) (c := co118) ?_).2.2; exact (by (with_reducible repeat (first | apply Kd.R_alloc | apply Kd.R_drewN | apply Kd.R_drew)); exact (Kd.R_mono (Kd.R_far (p := ⟨gb443, 2, none⟩) (Kd.R_far (p := ⟨gb443, 1, none⟩) (Kd.R_far (p := ⟨gb443, 0, none⟩) (Kd.R_types HO439.out BK443.out (by decide)) (fun _ hk => hk.2) (.slice Ao118 t437.length co118)) (fun _ hk => hk.2) (.int .i64 t440)) (fun _ hk => hk.2) (.int .i64 t441)) (fun _ h_ => h_.1)))); (case side2 => exact (Kd.R_reads' HO439.out).2.1); (case side3 => refine (Kd.R_reads' (e := 3) (base := w.heap.size) (ok := fun k_ => (((some k_ ≠ (.slice Ao26 t427.length co26 : Value).ownBlock ∧ some k_ ≠ (.slice Ao32 t412.length co32 : Value).ownBlock) ∧ some k_ ≠ (.slice Ao115 t432.length co115 : Value).ownBlock) ∧ some k_ ≠ (.slice Ao118 t437.length co118 : Value).ownBlock)) (n := t399.length) (c := co20) ?_).2.2; exact (by (with_reducible repeat (first | apply Kd.R_alloc | apply Kd.R_drewN | apply Kd.R_drew)); exact (Kd.R_mono (Kd.R_far (p := ⟨gb443, 2, none⟩) (Kd.R_far (p := ⟨gb443, 1, none⟩) (Kd.R_far (p := ⟨gb443, 0, none⟩) (Kd.R_types HO_406000.out BK443.out (by decide)) (fun _ hk => hk.2) (.slice Ao118 t437.length co118)) (fun _ hk => hk.2) (.int .i64 t440)) (fun _ hk => hk.2) (.int .i64 t441)) (fun _ h_ => h_.1)))); (case side4 => exact (Kd.R_reads' HO_406000.out).2.1); rintro e w135 ⟨rfl, hb⟩; refine ⟨_, rfl, ?_⟩; have n0_ := Aside0.mk (Kd.R_below (by (with_reducible repeat (first | apply Kd.R_alloc | apply Kd.R_drewN | apply Kd.R_drew)); exact (Kd.R_mono (Kd.R_far (p := ⟨gb443, 2, none⟩) (Kd.R_far (p := ⟨gb443, 1, none⟩) (Kd.R_far (p := ⟨gb443, 0, none⟩) (Kd.R_types HO_406000.out BK443.out (by decide)) (fun _ hk => hk.2) (.slice Ao118 t437.length co118)) (fun _ hk => hk.2) (.int .i64 t440)) (fun _ hk => hk.2) (.int .i64 t441)) (fun _ h_ => h_.1))) hb); have n1_ := Aside0.mk (Kd.R_below (by (with_reducible repeat (first | apply Kd.R_alloc | apply Kd.R_drewN | apply Kd.R_drew)); exact (Kd.R_mono (Kd.R_far (p := ⟨gb443, 2, none⟩) (Kd.R_far (p := ⟨gb443, 1, none⟩) (Kd.R_far (p := ⟨gb443, 0, none⟩) (Kd.R_types HO_412000.out BK443.out (by decide)) (fun _ hk => hk.2) (.slice Ao118 t437.length co118)) (fun _ hk => hk.2) (.int .i64 t440)) (fun _ hk => hk.2) (.int .i64 t441)) (fun _ h_ => h_.1))) hb); have n2_ := Aside0.mk (Kd.R_below (by (with_reducible repeat (first | apply Kd.R_alloc | apply Kd.R_drewN | apply Kd.R_drew)); exact (Kd.R_mono (Kd.R_far (p := ⟨gb443, 2, none⟩) (Kd.R_far (p := ⟨gb443, 1, none⟩) (Kd.R_far (p := ⟨gb443, 0, none⟩) (Kd.R_types HO_419000.out BK443.out (by decide)) (fun _ hk => hk.2) (.slice Ao118 t437.length co118)) (fun _ hk => hk.2) (.int .i64 t440)) (fun _ hk => hk.2) (.int .i64 t441)) (fun _ h_ => h_.1))) hb); have n3_ := Aside0.mk (Kd.R_below (by (with_reducible repeat (first | apply Kd.R_alloc | apply Kd.R_drewN | apply Kd.R_drew)); exact (Kd.R_mono (Kd.R_far (p := ⟨gb443, 2, none⟩) (Kd.R_far (p := ⟨gb443, 1, none⟩) (Kd.R_far (p := ⟨gb443, 0, none⟩) (Kd.R_types HO434.out BK443.out (by decide)) (fun _ hk => hk.2) (.slice Ao118 t437.length co118)) (fun _ hk => hk.2) (.int .i64 t440)) (fun _ hk => hk.2) (.int .i64 t441)) (fun _ h_ => h_.1))) hb); have n4_ := Aside0.mk (Kd.R_below (by (with_reducible repeat (first | apply Kd.R_alloc | apply Kd.R_drewN | apply Kd.R_drew)); exact (Kd.R_mono (Kd.R_far (p := ⟨gb443, 2, none⟩) (Kd.R_far (p := ⟨gb443, 1, none⟩) (Kd.R_far (p := ⟨gb443, 0, none⟩) (Kd.R_types HO439.out BK443.out (by decide)) (fun _ hk => hk.2) (.slice Ao118 t437.length co118)) (fun _ hk => hk.2) (.int .i64 t440)) (fun _ hk => hk.2) (.int .i64 t441)) (fun _ h_ => h_.1))) hb); have n5_ := Aside0.mk (blk_below (g := gb392) (o := .cells #[.slice A0_0 l0_0.length c0_0, .int .i64 a0_1, .int .i64 a0_2] 24 (0, 0)) (by (with_reducible repeat (first | refine blk_drewN ?_ _ | refine blk_drew ?_ | refine blk_alloc ?_ _)); refine blk_far ?_ NB392_443.out _; (with_reducible repeat (first | refine blk_drewN ?_ _ | refine blk_drew ?_ | refine blk_alloc ?_ _)); refine blk_far ?_ NB392_443.out _; (with_reducible repeat (first | refine blk_drewN ?_ _ | refine blk_drew ?_ | refine blk_alloc ?_ _)); refine blk_far ?_ NB392_443.out _; (with_reducible repeat (first | refine blk_drewN ?_ _ | refine blk_drew ?_ | refine blk_alloc ?_ _)); exact BK392.out) hb); have n6_ := Aside0.mk (blk_below (g := gb405) (o := .cells #[.slice Ao20 t399.length co20, .int .i64 t402, .int .i64 t403] 27 (0, 0)) (by (with_reducible repeat (first | refine blk_drewN ?_ _ | refine blk_drew ?_ | refine blk_alloc ?_ _)); refine blk_far ?_ NB405_443.out _; (with_reducible repeat (first | refine blk_drewN ?_ _ | refine blk_drew ?_ | refine blk_alloc ?_ _)); refine blk_far ?_ NB405_443.out _; (with_reducible repeat (first | refine blk_drewN ?_ _ | refine blk_drew ?_ | refine blk_alloc ?_ _)); refine blk_far ?_ NB405_443.out _; (with_reducible repeat (first | refine blk_drewN ?_ _ | refine blk_drew ?_ | refine blk_alloc ?_ _)); exact BK405.out) hb); have n7_ := Aside0.mk (blk_below (g := gb411) (o := .cells #[.slice Ao26 t427.length co26, .int .i64 t409, .int .i64 t410] 27 (0, 0)) (by (with_reducible repeat (first | refine blk_drewN ?_ _ | refine blk_drew ?_ | refine blk_alloc ?_ _)); refine blk_far ?_ NB411_443.out _; (with_reducible repeat (first | refine blk_drewN ?_ _ | refine blk_drew ?_ | refine blk_alloc ?_ _)); refine blk_far ?_ NB411_443.out _; (with_reducible repeat (first | refine blk_drewN ?_ _ | refine blk_drew ?_ | refine blk_alloc ?_ _)); refine blk_far ?_ NB411_443.out _; (with_reducible repeat (first | refine blk_drewN ?_ _ | refine blk_drew ?_ | refine blk_alloc ?_ _)); exact BK411.out) hb); have n8_ := Aside0.mk (blk_below (g := gb418) (o := .cells #[.slice Ao32 t412.length co32, .int .i64 t415, .int .i64 t416] 27 (0, 0)) (by (with_reducible repeat (first | refine blk_drewN ?_ _ | refine blk_drew ?_ | refine blk_alloc ?_ _)); refine blk_far ?_ NB418_443.out _; (with_reducible repeat (first | refine blk_drewN ?_ _ | refine blk_drew ?_ | refine blk_alloc ?_ _)); refine blk_far ?_ NB418_443.out _; (with_reducible repeat (first | refine blk_drewN ?_ _ | refine blk_drew ?_ | refine blk_alloc ?_ _)); refine blk_far ?_ NB418_443.out _; (with_reducible repeat (first | refine blk_drewN ?_ _ | refine blk_drew ?_ | refine blk_alloc ?_ _)); exact BK418.out) hb); have n9_ := Aside0.mk (blk_below (g := gb443) (o := .cells #[.slice Ao118 t437.length co118, .int .i64 t440, .int .i64 t441] 27 (0, 0)) (by (with_reducible repeat (first | refine blk_drewN ?_ _ | refine blk_drew ?_ | refine blk_alloc ?_ _)); refine blk_put (cs := #[.slice Ao118 t437.length co118, .int .i64 t440, .int .i64 0]) ?_ 2 _ rfl; (with_reducible repeat (first | refine blk_drewN ?_ _ | refine blk_drew ?_ | refine blk_alloc ?_ _)); refine blk_put (cs := #[.slice Ao118 t437.length co118, .int .i64 0, .int .i64 0]) ?_ 1 _ rfl; (with_reducible repeat (first | refine blk_drewN ?_ _ | refine blk_drew ?_ | refine blk_alloc ?_ _)); refine blk_put (cs := #[.slice none 0 0, .int .i64 0, .int .i64 0]) ?_ 0 _ rfl; (with_reducible repeat (first | refine blk_drewN ?_ _ | refine blk_drew ?_ | refine blk_alloc ?_ _)); exact BK443.out) hb); have n10_ := Aside0.mk (below_step (by repeat (first | (with_reducible first | exact HB.out | apply below_alloc | apply pw_below_drewN | apply below_drew1 | refine below_set ?_ GE392.out | refine below_set ?_ GE405.out | refine below_set ?_ GE411.out | refine below_set ?_ GE418.out | refine below_set ?_ GE443.out) | exact HB.out)) hb); clear HO_406000; clear HO_412000; clear HO_419000; clear HO434; clear HO439; clear BK392; clear BK405; clear BK411; clear BK418; clear BK443; clear HB; have HO_406000 := n0_; have HO_412000 := n1_; have HO_419000 := n2_; have HO434 := n3_; have HO439 := n4_; have BK392 := n5_; have BK405 := n6_; have BK411 := n7_; have BK418 := n8_; have BK443 := n9_; have HB := n10_; clear n0_ n1_ n2_ n3_ n4_ n5_ n6_ n7_ n8_ n9_ n10_; (try clear hb); (try clear hb2); (try clear hk); (try clear hi)))
                          go_meet
                          case rel => exact ⟨_, ((t442 != t404)), (by first | rfl | (simp; done) | (simp [*]; done) | (simp only [IntKind.wrap_i64, wrap64]; done)), H', ⟨by have := HJ10.out; have := HJ59.out; first | omega | exact Nat.le_refl _⟩, ⟨by (try simp only [hl412000_59]); (with_reducible repeat (first | apply Kd.R_alloc | apply Kd.R_drewN | apply Kd.R_drew)); exact Kd.R_mono HO_406000.out (fun _ hk => ⟨hk.1.1.1, ⟨hk.1.1.2, hk.2⟩⟩)⟩, ⟨by (try simp only [hl412000_59]); (with_reducible repeat (first | apply Kd.R_alloc | apply Kd.R_drewN | apply Kd.R_drew)); exact Kd.R_mono HO_412000.out (fun _ hk => ⟨hk.1.1.1, ⟨hk.1.1.2, hk.2⟩⟩)⟩, ⟨by (try simp only [hl412000_59]); (with_reducible repeat (first | apply Kd.R_alloc | apply Kd.R_drewN | apply Kd.R_drew)); exact Kd.R_mono HO_419000.out (fun _ hk => ⟨hk.1.1.1, ⟨hk.1.1.2, hk.2⟩⟩)⟩, ⟨by (try simp only [hl412000_59]); (with_reducible repeat (first | apply Kd.R_alloc | apply Kd.R_drewN | apply Kd.R_drew)); exact Kd.R_mono HO439.out (fun _ hk => ⟨hk.1.1.1.2, ⟨hk.1.1.2, hk.1.2⟩⟩)⟩, ⟨by (try simp only [hl412000_59]); (with_reducible repeat (first | refine blk_drewN ?_ _ | refine blk_drew ?_ | refine blk_alloc ?_ _)); exact BK392.out⟩, ⟨by (try simp only [hl412000_59]); (with_reducible repeat (first | refine blk_drewN ?_ _ | refine blk_drew ?_ | refine blk_alloc ?_ _)); exact BK405.out⟩, ⟨by (try simp only [hl412000_59]); (with_reducible repeat (first | refine blk_drewN ?_ _ | refine blk_drew ?_ | refine blk_alloc ?_ _)); exact BK411.out⟩, ⟨by (try simp only [hl412000_59]); (with_reducible repeat (first | refine blk_drewN ?_ _ | refine blk_drew ?_ | refine blk_alloc ?_ _)); exact BK418.out⟩, ⟨by (try simp only [hl412000_59]); (with_reducible repeat (first | refine blk_drewN ?_ _ | refine blk_drew ?_ | refine blk_alloc ?_ _)); exact BK443.out⟩, ⟨by repeat (first | (with_reducible first | exact HB.out | apply below_alloc | apply pw_below_drewN | apply below_drew1 | refine below_set ?_ GE392.out | refine below_set ?_ GE405.out | refine below_set ?_ GE411.out | refine below_set ?_ GE418.out | refine below_set ?_ GE443.out) | exact HB.out)⟩⟩
                        · replace c125 := Bool.eq_false_iff.mpr c125
                          subst c125
                          have H1 : (laws_FnExactMachTurn.j2 kj59 t429 true t430 t415 t416) = some r := by rw [if_neg (show ¬ (false = true) by decide)] at H; exact H
                          clear H
                          have H := H1
                          clear H1
                          have H' := Aside0.mk H
                          clear H
                          have hnb136 := NB443_392.out
                          have hnc136 := NB392_443.out
                          have hnb137 := NB443_405.out
                          have hnc137 := NB405_443.out
                          have hnb138 := NB443_411.out
                          have hnc138 := NB411_443.out
                          have hnb139 := NB443_418.out
                          have hnc139 := NB418_443.out
                          have hcz140_0 : w117.cell? ⟨gb443, 0, none⟩ = some (.slice none 0 0) := (blk_cell BK443.out 0).trans rfl
                          have hcz140_1 : w117.cell? ⟨gb443, 1, none⟩ = some (.int .i64 0) := (blk_cell BK443.out 1).trans rfl
                          have hcz140_2 : w117.cell? ⟨gb443, 2, none⟩ = some (.int .i64 0) := (blk_cell BK443.out 2).trans rfl
                          have hfz140_0 := blk_frozen BK443.out 0
                          have hfz140_1 := blk_frozen BK443.out 1
                          have hfz140_2 := blk_frozen BK443.out 2
                          have hnb141 := NB405_392.out
                          have hnc141 := NB392_405.out
                          have hnb142 := NB405_411.out
                          have hnc142 := NB411_405.out
                          have hnb143 := NB405_418.out
                          have hnc143 := NB418_405.out
                          have hcz144_0 : w117.cell? ⟨gb405, 0, none⟩ = some (.slice Ao20 t399.length co20) := (blk_cell BK405.out 0).trans rfl
                          have hcz144_1 : w117.cell? ⟨gb405, 1, none⟩ = some (.int .i64 t402) := (blk_cell BK405.out 1).trans rfl
                          have hcz144_2 : w117.cell? ⟨gb405, 2, none⟩ = some (.int .i64 t403) := (blk_cell BK405.out 2).trans rfl
                          have hfz144_0 := blk_frozen BK405.out 0
                          have hfz144_1 := blk_frozen BK405.out 1
                          have hfz144_2 := blk_frozen BK405.out 2
                          go_wp2_with (first | ((with_reducible refine gate_callee (f := 19) rfl ?_); refine goesL_ (some 81) rfl rfl Try.func19 (by kernel_rfl) rfl #[.agg #[.slice Ao118 t437.length co118, .int .i64 t440, .int .i64 t441], .agg #[.slice Ao20 t399.length co20, .int .i64 t402, .int .i64 t403]] rfl (by (try simp only [List.map_toArray, List.map_cons, List.map_nil]); first | done | rfl | (simp only [List.length_drop, List.length_take]; rfl)) ?_; (with_reducible refine (laws_eqMachine.calls kj59 _ _ t437 t440 t441 _ _ t399 t402 t403 false _ ?side1 ?side2 ?side3 ?side4 A124.out).mono ?_); (case side1 => refine (Kd.R_reads' (e := 3) (base := w.heap.size) (ok := fun k_ => ((((True ∧ some k_ ≠ (.slice Ao20 t399.length co20 : Value).ownBlock) ∧ some k_ ≠ (.slice Ao26 t427.length co26 : Value).ownBlock) ∧ some k_ ≠ (.slice Ao32 t412.length co32 : Value).ownBlock) ∧ some k_ ≠ (.slice Ao115 t432.length co115 : Value).ownBlock)) (n := t437.length) (c := co118) ?_).2.2; exact (by (with_reducible repeat (first | apply Kd.R_alloc | apply Kd.R_drewN | apply Kd.R_drew)); exact (Kd.R_mono (Kd.R_far (p := ⟨gb443, 2, none⟩) (Kd.R_far (p := ⟨gb443, 1, none⟩) (Kd.R_far (p := ⟨gb443, 0, none⟩) (Kd.R_types HO439.out BK443.out (by decide)) (fun _ hk => hk.2) (.slice Ao118 t437.length co118)) (fun _ hk => hk.2) (.int .i64 t440)) (fun _ hk => hk.2) (.int .i64 t441)) (fun _ h_ => h_.1)))); (case side2 => exact (Kd.R_reads' HO439.out).2.1); (case side3 => refine (Kd.R_reads' (e := 3) (base := w.heap.size) (ok := fun k_ => (((some k_ ≠ (.slice Ao26 t427.length co26 : Value).ownBlock ∧ some k_ ≠ (.slice Ao32 t412.length co32 : Value).ownBlock) ∧ some k_ ≠ (.slice Ao115 t432.length co115 : Value).ownBlock) ∧ some k_ ≠ (.slice Ao118 t437.length co118 : Value).ownBlock)) (n := t399.length) (c := co20) ?_).2.2; exact (by (with_reducible repeat (first | apply Kd.R_alloc | apply Kd.R_drewN | apply Kd.R_drew)); exact (Kd.R_mono (Kd.R_far (p := ⟨gb443, 2, none⟩) (Kd.R_far (p := ⟨gb443, 1, none⟩) (Kd.R_far (p := ⟨gb443, 0, none⟩) (Kd.R_types HO_406000.out BK443.out (by decide)) (fun _ hk => hk.2) (.slice Ao118 t437.length co118)) (fun _ hk => hk.2) (.int .i64 t440)) (fun _ hk => hk.2) (.int .i64 t441)) (fun _ h_ => h_.1)))); (case side4 => exact (Kd.R_reads' HO_406000.out).2.1); rintro e w145 ⟨rfl, hb⟩; refine ⟨_, rfl, ?_⟩; have n0_ := Aside0.mk (Kd.R_below (by (with_reducible repeat (first | apply Kd.R_alloc | apply Kd.R_drewN | apply Kd.R_drew)); exact (Kd.R_mono (Kd.R_far (p := ⟨gb443, 2, none⟩) (Kd.R_far (p := ⟨gb443, 1, none⟩) (Kd.R_far (p := ⟨gb443, 0, none⟩) (Kd.R_types HO_406000.out BK443.out (by decide)) (fun _ hk => hk.2) (.slice Ao118 t437.length co118)) (fun _ hk => hk.2) (.int .i64 t440)) (fun _ hk => hk.2) (.int .i64 t441)) (fun _ h_ => h_.1))) hb); have n1_ := Aside0.mk (Kd.R_below (by (with_reducible repeat (first | apply Kd.R_alloc | apply Kd.R_drewN | apply Kd.R_drew)); exact (Kd.R_mono (Kd.R_far (p := ⟨gb443, 2, none⟩) (Kd.R_far (p := ⟨gb443, 1, none⟩) (Kd.R_far (p := ⟨gb443, 0, none⟩) (Kd.R_types HO_412000.out BK443.out (by decide)) (fun _ hk => hk.2) (.slice Ao118 t437.length co118)) (fun _ hk => hk.2) (.int .i64 t440)) (fun _ hk => hk.2) (.int .i64 t441)) (fun _ h_ => h_.1))) hb); have n2_ := Aside0.mk (Kd.R_below (by (with_reducible repeat (first | apply Kd.R_alloc | apply Kd.R_drewN | apply Kd.R_drew)); exact (Kd.R_mono (Kd.R_far (p := ⟨gb443, 2, none⟩) (Kd.R_far (p := ⟨gb443, 1, none⟩) (Kd.R_far (p := ⟨gb443, 0, none⟩) (Kd.R_types HO_419000.out BK443.out (by decide)) (fun _ hk => hk.2) (.slice Ao118 t437.length co118)) (fun _ hk => hk.2) (.int .i64 t440)) (fun _ hk => hk.2) (.int .i64 t441)) (fun _ h_ => h_.1))) hb); have n3_ := Aside0.mk (Kd.R_below (by (with_reducible repeat (first | apply Kd.R_alloc | apply Kd.R_drewN | apply Kd.R_drew)); exact (Kd.R_mono (Kd.R_far (p := ⟨gb443, 2, none⟩) (Kd.R_far (p := ⟨gb443, 1, none⟩) (Kd.R_far (p := ⟨gb443, 0, none⟩) (Kd.R_types HO434.out BK443.out (by decide)) (fun _ hk => hk.2) (.slice Ao118 t437.length co118)) (fun _ hk => hk.2) (.int .i64 t440)) (fun _ hk => hk.2) (.int .i64 t441)) (fun _ h_ => h_.1))) hb); have n4_ := Aside0.mk (Kd.R_below (by (with_reducible repeat (first | apply Kd.R_alloc | apply Kd.R_drewN | apply Kd.R_drew)); exact (Kd.R_mono (Kd.R_far (p := ⟨gb443, 2, none⟩) (Kd.R_far (p := ⟨gb443, 1, none⟩) (Kd.R_far (p := ⟨gb443, 0, none⟩) (Kd.R_types HO439.out BK443.out (by decide)) (fun _ hk => hk.2) (.slice Ao118 t437.length co118)) (fun _ hk => hk.2) (.int .i64 t440)) (fun _ hk => hk.2) (.int .i64 t441)) (fun _ h_ => h_.1))) hb); have n5_ := Aside0.mk (blk_below (g := gb392) (o := .cells #[.slice A0_0 l0_0.length c0_0, .int .i64 a0_1, .int .i64 a0_2] 24 (0, 0)) (by (with_reducible repeat (first | refine blk_drewN ?_ _ | refine blk_drew ?_ | refine blk_alloc ?_ _)); refine blk_far ?_ NB392_443.out _; (with_reducible repeat (first | refine blk_drewN ?_ _ | refine blk_drew ?_ | refine blk_alloc ?_ _)); refine blk_far ?_ NB392_443.out _; (with_reducible repeat (first | refine blk_drewN ?_ _ | refine blk_drew ?_ | refine blk_alloc ?_ _)); refine blk_far ?_ NB392_443.out _; (with_reducible repeat (first | refine blk_drewN ?_ _ | refine blk_drew ?_ | refine blk_alloc ?_ _)); exact BK392.out) hb); have n6_ := Aside0.mk (blk_below (g := gb405) (o := .cells #[.slice Ao20 t399.length co20, .int .i64 t402, .int .i64 t403] 27 (0, 0)) (by (with_reducible repeat (first | refine blk_drewN ?_ _ | refine blk_drew ?_ | refine blk_alloc ?_ _)); refine blk_far ?_ NB405_443.out _; (with_reducible repeat (first | refine blk_drewN ?_ _ | refine blk_drew ?_ | refine blk_alloc ?_ _)); refine blk_far ?_ NB405_443.out _; (with_reducible repeat (first | refine blk_drewN ?_ _ | refine blk_drew ?_ | refine blk_alloc ?_ _)); refine blk_far ?_ NB405_443.out _; (with_reducible repeat (first | refine blk_drewN ?_ _ | refine blk_drew ?_ | refine blk_alloc ?_ _)); exact BK405.out) hb); have n7_ := Aside0.mk (blk_below (g := gb411) (o := .cells #[.slice Ao26 t427.length co26, .int .i64 t409, .int .i64 t410] 27 (0, 0)) (by (with_reducible repeat (first | refine blk_drewN ?_ _ | refine blk_drew ?_ | refine blk_alloc ?_ _)); refine blk_far ?_ NB411_443.out _; (with_reducible repeat (first | refine blk_drewN ?_ _ | refine blk_drew ?_ | refine blk_alloc ?_ _)); refine blk_far ?_ NB411_443.out _; (with_reducible repeat (first | refine blk_drewN ?_ _ | refine blk_drew ?_ | refine blk_alloc ?_ _)); refine blk_far ?_ NB411_443.out _; (with_reducible repeat (first | refine blk_drewN ?_ _ | refine blk_drew ?_ | refine blk_alloc ?_ _)); exact BK411.out) hb); have n8_ := Aside0.mk (blk_below (g := gb418) (o := .cells #[.slice Ao32 t412.length co32, .int .i64 t415, .int .i64 t416] 27 (0, 0)) (by (with_reducible repeat (first | refine blk_drewN ?_ _ | refine blk_drew ?_ | refine blk_alloc ?_ _)); refine blk_far ?_ NB418_443.out _; (with_reducible repeat (first | refine blk_drewN ?_ _ | refine blk_drew ?_ | refine blk_alloc ?_ _)); refine blk_far ?_ NB418_443.out _; (with_reducible repeat (first | refine blk_drewN ?_ _ | refine blk_drew ?_ | refine blk_alloc ?_ _)); refine blk_far ?_ NB418_443.out _; (with_reducible repeat (first | refine blk_drewN ?_ _ | refine blk_drew ?_ | refine blk_alloc ?_ _)); exact BK418.out) hb); have n9_ := Aside0.mk (blk_below (g := gb443) (o := .cells #[.slice Ao118 t437.length co118, .int .i64 t440, .int .i64 t441] 27 (0, 0)) (by (with_reducible repeat (first | refine blk_drewN ?_ _ | refine blk_drew ?_ | refine blk_alloc ?_ _)); refine blk_put (cs := #[.slice Ao118 t437.length co118, .int .i64 t440, .int .i64 0]) ?_ 2 _ rfl; (with_reducible repeat (first | refine blk_drewN ?_ _ | refine blk_drew ?_ | refine blk_alloc ?_ _)); refine blk_put (cs := #[.slice Ao118 t437.length co118, .int .i64 0, .int .i64 0]) ?_ 1 _ rfl; (with_reducible repeat (first | refine blk_drewN ?_ _ | refine blk_drew ?_ | refine blk_alloc ?_ _)); refine blk_put (cs := #[.slice none 0 0, .int .i64 0, .int .i64 0]) ?_ 0 _ rfl; (with_reducible repeat (first | refine blk_drewN ?_ _ | refine blk_drew ?_ | refine blk_alloc ?_ _)); exact BK443.out) hb); have n10_ := Aside0.mk (below_step (by repeat (first | (with_reducible first | exact HB.out | apply below_alloc | apply pw_below_drewN | apply below_drew1 | refine below_set ?_ GE392.out | refine below_set ?_ GE405.out | refine below_set ?_ GE411.out | refine below_set ?_ GE418.out | refine below_set ?_ GE443.out) | exact HB.out)) hb); clear HO_406000; clear HO_412000; clear HO_419000; clear HO434; clear HO439; clear BK392; clear BK405; clear BK411; clear BK418; clear BK443; clear HB; have HO_406000 := n0_; have HO_412000 := n1_; have HO_419000 := n2_; have HO434 := n3_; have HO439 := n4_; have BK392 := n5_; have BK405 := n6_; have BK411 := n7_; have BK418 := n8_; have BK443 := n9_; have HB := n10_; clear n0_ n1_ n2_ n3_ n4_ n5_ n6_ n7_ n8_ n9_ n10_; (try clear hb); (try clear hb2); (try clear hk); (try clear hi)))
                          go_meet
                          case rel => exact ⟨_, (true), (by first | rfl | (simp; done) | (simp [*]; done) | (simp only [IntKind.wrap_i64, wrap64]; done)), H', ⟨by have := HJ10.out; have := HJ59.out; first | omega | exact Nat.le_refl _⟩, ⟨by (try simp only [hl412000_59]); (with_reducible repeat (first | apply Kd.R_alloc | apply Kd.R_drewN | apply Kd.R_drew)); exact Kd.R_mono HO_406000.out (fun _ hk => ⟨hk.1.1.1, ⟨hk.1.1.2, hk.2⟩⟩)⟩, ⟨by (try simp only [hl412000_59]); (with_reducible repeat (first | apply Kd.R_alloc | apply Kd.R_drewN | apply Kd.R_drew)); exact Kd.R_mono HO_412000.out (fun _ hk => ⟨hk.1.1.1, ⟨hk.1.1.2, hk.2⟩⟩)⟩, ⟨by (try simp only [hl412000_59]); (with_reducible repeat (first | apply Kd.R_alloc | apply Kd.R_drewN | apply Kd.R_drew)); exact Kd.R_mono HO_419000.out (fun _ hk => ⟨hk.1.1.1, ⟨hk.1.1.2, hk.2⟩⟩)⟩, ⟨by (try simp only [hl412000_59]); (with_reducible repeat (first | apply Kd.R_alloc | apply Kd.R_drewN | apply Kd.R_drew)); exact Kd.R_mono HO439.out (fun _ hk => ⟨hk.1.1.1.2, ⟨hk.1.1.2, hk.1.2⟩⟩)⟩, ⟨by (try simp only [hl412000_59]); (with_reducible repeat (first | refine blk_drewN ?_ _ | refine blk_drew ?_ | refine blk_alloc ?_ _)); exact BK392.out⟩, ⟨by (try simp only [hl412000_59]); (with_reducible repeat (first | refine blk_drewN ?_ _ | refine blk_drew ?_ | refine blk_alloc ?_ _)); exact BK405.out⟩, ⟨by (try simp only [hl412000_59]); (with_reducible repeat (first | refine blk_drewN ?_ _ | refine blk_drew ?_ | refine blk_alloc ?_ _)); exact BK411.out⟩, ⟨by (try simp only [hl412000_59]); (with_reducible repeat (first | refine blk_drewN ?_ _ | refine blk_drew ?_ | refine blk_alloc ?_ _)); exact BK418.out⟩, ⟨by (try simp only [hl412000_59]); (with_reducible repeat (first | refine blk_drewN ?_ _ | refine blk_drew ?_ | refine blk_alloc ?_ _)); exact BK443.out⟩, ⟨by repeat (first | (with_reducible first | exact HB.out | apply below_alloc | apply pw_below_drewN | apply below_drew1 | refine below_set ?_ GE392.out | refine below_set ?_ GE405.out | refine below_set ?_ GE411.out | refine below_set ?_ GE418.out | refine below_set ?_ GE443.out) | exact HB.out)⟩⟩
                      case rest =>
                        clear HC103
                        try clear c1
                        try clear c2
                        try clear p2
                        try clear c3
                        try clear c3b0
                        try clear c4
                        try clear c5
                        try clear c6
                        try clear c7
                        try clear c8
                        try clear c9
                        try clear c10
                        try clear c11
                        try clear c12
                        try clear c13
                        try clear c14
                        try clear c15
                        try clear c17
                        try clear c19
                        try clear c21
                        try clear c27
                        try clear c28
                        try clear c29
                        try clear c30
                        try clear c33
                        try clear c34
                        try clear c35
                        try clear c38
                        try clear c39
                        try clear c40
                        try clear c41
                        try clear c43
                        try clear c44
                        try clear c47
                        try clear c48
                        try clear c49
                        try clear c51
                        try clear c52
                        try clear c55
                        try clear c58
                        try clear c65
                        try clear c66
                        try clear c67
                        try clear c70
                        try clear c70b0
                        try clear c72
                        try clear c73
                        try clear c74
                        try clear c75
                        try clear c77
                        try clear c78
                        try clear c81
                        try clear c82
                        try clear c83
                        try clear c85
                        try clear c86
                        try clear c89
                        try clear c92
                        try clear c92b0
                        try clear c93
                        try clear c94
                        try clear c95
                        try clear c100
                        try clear c100b0
                        try clear c100b1
                        try clear c104
                        try clear c105
                        try clear c106
                        try clear c111
                        try clear c112
                        try clear c119
                        try clear c120
                        try clear c121
                        try clear c122
                        try clear c125
                        try clear c126
                        try clear c127
                        try clear c128
                        try clear c129
                        try clear c131
                        try clear c132
                        try clear c133
                        try clear c136
                        try clear c137
                        try clear c138
                        try clear c139
                        try clear c141
                        try clear c142
                        try clear c143
                        try clear hcz107_0
                        try clear hcz107_1
                        try clear hcz107_2
                        try clear hcz109_0
                        try clear hcz109_1
                        try clear hcz109_2
                        try clear hcz113_0
                        try clear hcz113_1
                        try clear hcz113_2
                        try clear hcz123_0
                        try clear hcz123_1
                        try clear hcz123_2
                        try clear hcz130_0
                        try clear hcz130_1
                        try clear hcz130_2
                        try clear hcz134_0
                        try clear hcz134_1
                        try clear hcz134_2
                        try clear hcz13_0
                        try clear hcz13_1
                        try clear hcz13_2
                        try clear hcz140_0
                        try clear hcz140_1
                        try clear hcz140_2
                        try clear hcz144_0
                        try clear hcz144_1
                        try clear hcz144_2
                        try clear hcz15_0
                        try clear hcz15_1
                        try clear hcz15_2
                        try clear hcz22_0
                        try clear hcz22_1
                        try clear hcz22_2
                        try clear hcz23_0
                        try clear hcz23_1
                        try clear hcz23_2
                        try clear hcz29_0
                        try clear hcz29_1
                        try clear hcz29_2
                        try clear hcz36_0
                        try clear hcz36_1
                        try clear hcz36_2
                        try clear hcz42_0
                        try clear hcz42_1
                        try clear hcz42_2
                        try clear hcz45_0
                        try clear hcz45_1
                        try clear hcz45_2
                        try clear hcz50_0
                        try clear hcz50_1
                        try clear hcz50_2
                        try clear hcz53_0
                        try clear hcz53_1
                        try clear hcz53_2
                        try clear hcz5_0
                        try clear hcz5_1
                        try clear hcz5_2
                        try clear hcz68_0
                        try clear hcz68_1
                        try clear hcz68_2
                        try clear hcz76_0
                        try clear hcz76_1
                        try clear hcz76_2
                        try clear hcz79_0
                        try clear hcz79_1
                        try clear hcz79_2
                        try clear hcz84_0
                        try clear hcz84_1
                        try clear hcz84_2
                        try clear hcz87_0
                        try clear hcz87_1
                        try clear hcz87_2
                        try clear hcz96_0
                        try clear hcz96_1
                        try clear hcz96_2
                        try clear hcz98_0
                        try clear hcz98_1
                        try clear hcz98_2
                        try clear hfz107_0
                        try clear hfz107_1
                        try clear hfz107_2
                        try clear hfz109_0
                        try clear hfz109_1
                        try clear hfz109_2
                        try clear hfz113_0
                        try clear hfz113_1
                        try clear hfz113_2
                        try clear hfz123_0
                        try clear hfz123_1
                        try clear hfz123_2
                        try clear hfz130_0
                        try clear hfz130_1
                        try clear hfz130_2
                        try clear hfz134_0
                        try clear hfz134_1
                        try clear hfz134_2
                        try clear hfz13_0
                        try clear hfz13_1
                        try clear hfz13_2
                        try clear hfz140_0
                        try clear hfz140_1
                        try clear hfz140_2
                        try clear hfz144_0
                        try clear hfz144_1
                        try clear hfz144_2
                        try clear hfz15_0
                        try clear hfz15_1
                        try clear hfz15_2
                        try clear hfz22_0
                        try clear hfz22_1
                        try clear hfz22_2
                        try clear hfz23_0
                        try clear hfz23_1
                        try clear hfz23_2
                        try clear hfz29_0
                        try clear hfz29_1
                        try clear hfz29_2
                        try clear hfz36_0
                        try clear hfz36_1
                        try clear hfz36_2
                        try clear hfz42_0
                        try clear hfz42_1
                        try clear hfz42_2
                        try clear hfz45_0
                        try clear hfz45_1
                        try clear hfz45_2
                        try clear hfz50_0
                        try clear hfz50_1
                        try clear hfz50_2
                        try clear hfz53_0
                        try clear hfz53_1
                        try clear hfz53_2
                        try clear hfz5_0
                        try clear hfz5_1
                        try clear hfz5_2
                        try clear hfz68_0
                        try clear hfz68_1
                        try clear hfz68_2
                        try clear hfz76_0
                        try clear hfz76_1
                        try clear hfz76_2
                        try clear hfz79_0
                        try clear hfz79_1
                        try clear hfz79_2
                        try clear hfz84_0
                        try clear hfz84_1
                        try clear hfz84_2
                        try clear hfz87_0
                        try clear hfz87_1
                        try clear hfz87_2
                        try clear hfz96_0
                        try clear hfz96_1
                        try clear hfz96_2
                        try clear hfz98_0
                        try clear hfz98_1
                        try clear hfz98_2
                        try clear p2
                        obtain ⟨kq, x87_102, rfl, HA, HJ102, HO_406000, HO_412000, HO_419000, HO_444000, BK392, BK405, BK411, BK418, BK443, HB⟩ := hcut
                        have hl419000_102 := (Kd.R_reads' HO_419000.out).1
                        rw [hl419000_102] at HO_419000
                        (try simp only [hl419000_102])
                        (try simp only [hl419000_102] at BK392)
                        (try simp only [hl419000_102] at BK405)
                        (try simp only [hl419000_102] at BK411)
                        (try simp only [hl419000_102] at BK418)
                        (try simp only [hl419000_102] at BK443)
                        (try simp only [hl419000_102] at HO_406000)
                        (try simp only [hl419000_102] at HO_412000)
                        (try simp only [hl419000_102] at HO_444000)
                        cases kq with
                        | zero => exact absurd HA.out (by simp [laws_FnExactMachTurn.j2])
                        | succ kj102 =>
                          have H := HA.out
                          clear HA
                          simp only [laws_FnExactMachTurn.j2] at H
                          by_cases c146 : x87_102 = true
                          · subst c146
                            have H1 : (some false) = some r := by rw [if_pos rfl] at H; exact H
                            clear H
                            have H := H1
                            clear H1
                            obtain rfl := Option.some.inj H
                            go_wp2
                            go_ret
                            exact ⟨by first | rfl | (simp [errW_none, errW_some] <;> rfl) | (simp [*, errW_none, errW_some] <;> rfl), by repeat (first | (with_reducible first | exact HB.out | apply below_alloc | apply pw_below_drewN | apply below_drew1 | refine below_set ?_ GE392.out | refine below_set ?_ GE405.out | refine below_set ?_ GE411.out | refine below_set ?_ GE418.out | refine below_set ?_ GE443.out) | exact HB.out)⟩
                          · replace c146 := Bool.eq_false_iff.mpr c146
                            subst c146
                            have H1 : ((laws_heldMachine.f kj102 t430 t415 t416 1).bind fun t445 => (if t445 < 0 then (some false) else (if t445 = t429 then (some true) else (some false)))) = some r := by rw [if_neg (show ¬ (false = true) by decide)] at H; exact H
                            clear H
                            have H := H1
                            clear H1
                            replace H := Option.bind_eq_some_iff.mp H
                            obtain ⟨t445, A1470, H⟩ := H
                            replace H : (if t445 < 0 then (some false) else (if t445 = t429 then (some true) else (some false))) = some r := H
                            have A147 := Aside0.mk A1470
                            clear A1470
                            by_cases c148 : t445 < 0
                            · rw [if_pos c148] at H
                              have c148b0 : decide (t445 < 0) = true := decide_eq_true c148
                              clear c148
                              obtain rfl := Option.some.inj H
                              have hnb149 := NB418_392.out
                              have hnc149 := NB392_418.out
                              have hnb150 := NB418_405.out
                              have hnc150 := NB405_418.out
                              have hnb151 := NB418_411.out
                              have hnc151 := NB411_418.out
                              have hnb152 := NB418_443.out
                              have hnc152 := NB443_418.out
                              have hcz153_0 : wc.cell? ⟨gb418, 0, none⟩ = some (.slice Ao32 t430.length co32) := (blk_cell BK418.out 0).trans rfl
                              have hcz153_1 : wc.cell? ⟨gb418, 1, none⟩ = some (.int .i64 t415) := (blk_cell BK418.out 1).trans rfl
                              have hcz153_2 : wc.cell? ⟨gb418, 2, none⟩ = some (.int .i64 t416) := (blk_cell BK418.out 2).trans rfl
                              have hfz153_0 := blk_frozen BK418.out 0
                              have hfz153_1 := blk_frozen BK418.out 1
                              have hfz153_2 := blk_frozen BK418.out 2
                              go_wp2_with (first | ((with_reducible refine gate_callee (f := 30) rfl ?_); refine goesL_ (some 90) rfl rfl Try.func30 (by kernel_rfl) rfl #[.agg #[.slice Ao32 t430.length co32, .int .i64 t415, .int .i64 t416], .int .i64 1] rfl (by (try simp only [List.map_toArray, List.map_cons, List.map_nil]); first | done | rfl | (simp only [List.length_drop, List.length_take]; rfl)) ?_; (with_reducible refine (laws_heldMachine.calls kj102 _ _ t430 t415 t416 1 t445 _ ?side1 ?side2 A147.out).mono ?_); (case side1 => repeat (first | exact (Kd.R_reads' HO_419000.out).2.2 | (with_reducible refine Kd.C_alloc ?_ _) | (with_reducible refine Kd.C_drewN ?_ _) | (with_reducible refine Kd.C_drew ?_))); (case side2 => exact (Kd.R_reads' HO_419000.out).2.1); rintro e w154 ⟨rfl, hb⟩; refine ⟨_, rfl, ?_⟩; have n0_ := Aside0.mk (Kd.R_below (by (with_reducible repeat (first | apply Kd.R_alloc | apply Kd.R_drewN | apply Kd.R_drew)); exact HO_406000.out) hb); have n1_ := Aside0.mk (Kd.R_below (by (with_reducible repeat (first | apply Kd.R_alloc | apply Kd.R_drewN | apply Kd.R_drew)); exact HO_412000.out) hb); have n2_ := Aside0.mk (Kd.R_below (by (with_reducible repeat (first | apply Kd.R_alloc | apply Kd.R_drewN | apply Kd.R_drew)); exact HO_419000.out) hb); have n3_ := Aside0.mk (Kd.R_below (by (with_reducible repeat (first | apply Kd.R_alloc | apply Kd.R_drewN | apply Kd.R_drew)); exact HO_444000.out) hb); have n4_ := Aside0.mk (blk_below (g := gb392) (o := .cells #[.slice A0_0 l0_0.length c0_0, .int .i64 a0_1, .int .i64 a0_2] 24 (0, 0)) (by (with_reducible repeat (first | refine blk_drewN ?_ _ | refine blk_drew ?_ | refine blk_alloc ?_ _)); exact BK392.out) hb); have n5_ := Aside0.mk (blk_below (g := gb405) (o := .cells #[.slice Ao20 t399.length co20, .int .i64 t402, .int .i64 t403] 27 (0, 0)) (by (with_reducible repeat (first | refine blk_drewN ?_ _ | refine blk_drew ?_ | refine blk_alloc ?_ _)); exact BK405.out) hb); have n6_ := Aside0.mk (blk_below (g := gb411) (o := .cells #[.slice Ao26 t427.length co26, .int .i64 t409, .int .i64 t410] 27 (0, 0)) (by (with_reducible repeat (first | refine blk_drewN ?_ _ | refine blk_drew ?_ | refine blk_alloc ?_ _)); exact BK411.out) hb); have n7_ := Aside0.mk (blk_below (g := gb418) (o := .cells #[.slice Ao32 t430.length co32, .int .i64 t415, .int .i64 t416] 27 (0, 0)) (by (with_reducible repeat (first | refine blk_drewN ?_ _ | refine blk_drew ?_ | refine blk_alloc ?_ _)); exact BK418.out) hb); have n8_ := Aside0.mk (blk_below (g := gb443) (o := .cells #[.slice Ao118 t437.length co118, .int .i64 t440, .int .i64 t441] 27 (0, 0)) (by (with_reducible repeat (first | refine blk_drewN ?_ _ | refine blk_drew ?_ | refine blk_alloc ?_ _)); exact BK443.out) hb); have n9_ := Aside0.mk (below_step (by repeat (first | (with_reducible first | exact HB.out | apply below_alloc | apply pw_below_drewN | apply below_drew1 | refine below_set ?_ GE392.out | refine below_set ?_ GE405.out | refine below_set ?_ GE411.out | refine below_set ?_ GE418.out | refine below_set ?_ GE443.out) | exact HB.out)) hb); clear HO_406000; clear HO_412000; clear HO_419000; clear HO_444000; clear BK392; clear BK405; clear BK411; clear BK418; clear BK443; clear HB; have HO_406000 := n0_; have HO_412000 := n1_; have HO_419000 := n2_; have HO_444000 := n3_; have BK392 := n4_; have BK405 := n5_; have BK411 := n6_; have BK418 := n7_; have BK443 := n8_; have HB := n9_; clear n0_ n1_ n2_ n3_ n4_ n5_ n6_ n7_ n8_ n9_; (try clear hb); (try clear hb2); (try clear hk); (try clear hi)))
                              go_ret
                              exact ⟨by first | rfl | (simp [errW_none, errW_some] <;> rfl) | (simp [*, errW_none, errW_some] <;> rfl), by repeat (first | (with_reducible first | exact HB.out | apply below_alloc | apply pw_below_drewN | apply below_drew1 | refine below_set ?_ GE392.out | refine below_set ?_ GE405.out | refine below_set ?_ GE411.out | refine below_set ?_ GE418.out | refine below_set ?_ GE443.out) | exact HB.out)⟩
                            · rw [if_neg c148] at H
                              have c148b0 : decide (t445 < 0) = false := decide_eq_false c148
                              clear c148
                              by_cases c155 : t445 = t429
                              · rw [if_pos c155] at H
                                have c155b0 : (t445 == t429) = true := beq_iff_eq.mpr c155
                                have c155b1 : (t445 != t429) = false := bne_eq_false_iff_eq.mpr c155
                                clear c155
                                obtain rfl := Option.some.inj H
                                have hnb156 := NB418_392.out
                                have hnc156 := NB392_418.out
                                have hnb157 := NB418_405.out
                                have hnc157 := NB405_418.out
                                have hnb158 := NB418_411.out
                                have hnc158 := NB411_418.out
                                have hnb159 := NB418_443.out
                                have hnc159 := NB443_418.out
                                have hcz160_0 : wc.cell? ⟨gb418, 0, none⟩ = some (.slice Ao32 t430.length co32) := (blk_cell BK418.out 0).trans rfl
                                have hcz160_1 : wc.cell? ⟨gb418, 1, none⟩ = some (.int .i64 t415) := (blk_cell BK418.out 1).trans rfl
                                have hcz160_2 : wc.cell? ⟨gb418, 2, none⟩ = some (.int .i64 t416) := (blk_cell BK418.out 2).trans rfl
                                have hfz160_0 := blk_frozen BK418.out 0
                                have hfz160_1 := blk_frozen BK418.out 1
                                have hfz160_2 := blk_frozen BK418.out 2
                                go_wp2_with (first | ((with_reducible refine gate_callee (f := 30) rfl ?_); refine goesL_ (some 90) rfl rfl Try.func30 (by kernel_rfl) rfl #[.agg #[.slice Ao32 t430.length co32, .int .i64 t415, .int .i64 t416], .int .i64 1] rfl (by (try simp only [List.map_toArray, List.map_cons, List.map_nil]); first | done | rfl | (simp only [List.length_drop, List.length_take]; rfl)) ?_; (with_reducible refine (laws_heldMachine.calls kj102 _ _ t430 t415 t416 1 t445 _ ?side1 ?side2 A147.out).mono ?_); (case side1 => repeat (first | exact (Kd.R_reads' HO_419000.out).2.2 | (with_reducible refine Kd.C_alloc ?_ _) | (with_reducible refine Kd.C_drewN ?_ _) | (with_reducible refine Kd.C_drew ?_))); (case side2 => exact (Kd.R_reads' HO_419000.out).2.1); rintro e w161 ⟨rfl, hb⟩; refine ⟨_, rfl, ?_⟩; have n0_ := Aside0.mk (Kd.R_below (by (with_reducible repeat (first | apply Kd.R_alloc | apply Kd.R_drewN | apply Kd.R_drew)); exact HO_406000.out) hb); have n1_ := Aside0.mk (Kd.R_below (by (with_reducible repeat (first | apply Kd.R_alloc | apply Kd.R_drewN | apply Kd.R_drew)); exact HO_412000.out) hb); have n2_ := Aside0.mk (Kd.R_below (by (with_reducible repeat (first | apply Kd.R_alloc | apply Kd.R_drewN | apply Kd.R_drew)); exact HO_419000.out) hb); have n3_ := Aside0.mk (Kd.R_below (by (with_reducible repeat (first | apply Kd.R_alloc | apply Kd.R_drewN | apply Kd.R_drew)); exact HO_444000.out) hb); have n4_ := Aside0.mk (blk_below (g := gb392) (o := .cells #[.slice A0_0 l0_0.length c0_0, .int .i64 a0_1, .int .i64 a0_2] 24 (0, 0)) (by (with_reducible repeat (first | refine blk_drewN ?_ _ | refine blk_drew ?_ | refine blk_alloc ?_ _)); exact BK392.out) hb); have n5_ := Aside0.mk (blk_below (g := gb405) (o := .cells #[.slice Ao20 t399.length co20, .int .i64 t402, .int .i64 t403] 27 (0, 0)) (by (with_reducible repeat (first | refine blk_drewN ?_ _ | refine blk_drew ?_ | refine blk_alloc ?_ _)); exact BK405.out) hb); have n6_ := Aside0.mk (blk_below (g := gb411) (o := .cells #[.slice Ao26 t427.length co26, .int .i64 t409, .int .i64 t410] 27 (0, 0)) (by (with_reducible repeat (first | refine blk_drewN ?_ _ | refine blk_drew ?_ | refine blk_alloc ?_ _)); exact BK411.out) hb); have n7_ := Aside0.mk (blk_below (g := gb418) (o := .cells #[.slice Ao32 t430.length co32, .int .i64 t415, .int .i64 t416] 27 (0, 0)) (by (with_reducible repeat (first | refine blk_drewN ?_ _ | refine blk_drew ?_ | refine blk_alloc ?_ _)); exact BK418.out) hb); have n8_ := Aside0.mk (blk_below (g := gb443) (o := .cells #[.slice Ao118 t437.length co118, .int .i64 t440, .int .i64 t441] 27 (0, 0)) (by (with_reducible repeat (first | refine blk_drewN ?_ _ | refine blk_drew ?_ | refine blk_alloc ?_ _)); exact BK443.out) hb); have n9_ := Aside0.mk (below_step (by repeat (first | (with_reducible first | exact HB.out | apply below_alloc | apply pw_below_drewN | apply below_drew1 | refine below_set ?_ GE392.out | refine below_set ?_ GE405.out | refine below_set ?_ GE411.out | refine below_set ?_ GE418.out | refine below_set ?_ GE443.out) | exact HB.out)) hb); clear HO_406000; clear HO_412000; clear HO_419000; clear HO_444000; clear BK392; clear BK405; clear BK411; clear BK418; clear BK443; clear HB; have HO_406000 := n0_; have HO_412000 := n1_; have HO_419000 := n2_; have HO_444000 := n3_; have BK392 := n4_; have BK405 := n5_; have BK411 := n6_; have BK418 := n7_; have BK443 := n8_; have HB := n9_; clear n0_ n1_ n2_ n3_ n4_ n5_ n6_ n7_ n8_ n9_; (try clear hb); (try clear hb2); (try clear hk); (try clear hi)))
                                go_ret
                                exact ⟨by first | rfl | (simp [errW_none, errW_some] <;> rfl) | (simp [*, errW_none, errW_some] <;> rfl), by repeat (first | (with_reducible first | exact HB.out | apply below_alloc | apply pw_below_drewN | apply below_drew1 | refine below_set ?_ GE392.out | refine below_set ?_ GE405.out | refine below_set ?_ GE411.out | refine below_set ?_ GE418.out | refine below_set ?_ GE443.out) | exact HB.out)⟩
                              · rw [if_neg c155] at H
                                have c155b0 : (t445 == t429) = false := beq_eq_false_iff_ne.mpr c155
                                have c155b1 : (t445 != t429) = true := bne_iff_ne.mpr c155
                                obtain rfl := Option.some.inj H
                                have hnb162 := NB418_392.out
                                have hnc162 := NB392_418.out
                                have hnb163 := NB418_405.out
                                have hnc163 := NB405_418.out
                                have hnb164 := NB418_411.out
                                have hnc164 := NB411_418.out
                                have hnb165 := NB418_443.out
                                have hnc165 := NB443_418.out
                                have hcz166_0 : wc.cell? ⟨gb418, 0, none⟩ = some (.slice Ao32 t430.length co32) := (blk_cell BK418.out 0).trans rfl
                                have hcz166_1 : wc.cell? ⟨gb418, 1, none⟩ = some (.int .i64 t415) := (blk_cell BK418.out 1).trans rfl
                                have hcz166_2 : wc.cell? ⟨gb418, 2, none⟩ = some (.int .i64 t416) := (blk_cell BK418.out 2).trans rfl
                                have hfz166_0 := blk_frozen BK418.out 0
                                have hfz166_1 := blk_frozen BK418.out 1
                                have hfz166_2 := blk_frozen BK418.out 2
                                go_wp2_with (first | ((with_reducible refine gate_callee (f := 30) rfl ?_); refine goesL_ (some 90) rfl rfl Try.func30 (by kernel_rfl) rfl #[.agg #[.slice Ao32 t430.length co32, .int .i64 t415, .int .i64 t416], .int .i64 1] rfl (by (try simp only [List.map_toArray, List.map_cons, List.map_nil]); first | done | rfl | (simp only [List.length_drop, List.length_take]; rfl)) ?_; (with_reducible refine (laws_heldMachine.calls kj102 _ _ t430 t415 t416 1 t445 _ ?side1 ?side2 A147.out).mono ?_); (case side1 => repeat (first | exact (Kd.R_reads' HO_419000.out).2.2 | (with_reducible refine Kd.C_alloc ?_ _) | (with_reducible refine Kd.C_drewN ?_ _) | (with_reducible refine Kd.C_drew ?_))); (case side2 => exact (Kd.R_reads' HO_419000.out).2.1); rintro e w167 ⟨rfl, hb⟩; refine ⟨_, rfl, ?_⟩; have n0_ := Aside0.mk (Kd.R_below (by (with_reducible repeat (first | apply Kd.R_alloc | apply Kd.R_drewN | apply Kd.R_drew)); exact HO_406000.out) hb); have n1_ := Aside0.mk (Kd.R_below (by (with_reducible repeat (first | apply Kd.R_alloc | apply Kd.R_drewN | apply Kd.R_drew)); exact HO_412000.out) hb); have n2_ := Aside0.mk (Kd.R_below (by (with_reducible repeat (first | apply Kd.R_alloc | apply Kd.R_drewN | apply Kd.R_drew)); exact HO_419000.out) hb); have n3_ := Aside0.mk (Kd.R_below (by (with_reducible repeat (first | apply Kd.R_alloc | apply Kd.R_drewN | apply Kd.R_drew)); exact HO_444000.out) hb); have n4_ := Aside0.mk (blk_below (g := gb392) (o := .cells #[.slice A0_0 l0_0.length c0_0, .int .i64 a0_1, .int .i64 a0_2] 24 (0, 0)) (by (with_reducible repeat (first | refine blk_drewN ?_ _ | refine blk_drew ?_ | refine blk_alloc ?_ _)); exact BK392.out) hb); have n5_ := Aside0.mk (blk_below (g := gb405) (o := .cells #[.slice Ao20 t399.length co20, .int .i64 t402, .int .i64 t403] 27 (0, 0)) (by (with_reducible repeat (first | refine blk_drewN ?_ _ | refine blk_drew ?_ | refine blk_alloc ?_ _)); exact BK405.out) hb); have n6_ := Aside0.mk (blk_below (g := gb411) (o := .cells #[.slice Ao26 t427.length co26, .int .i64 t409, .int .i64 t410] 27 (0, 0)) (by (with_reducible repeat (first | refine blk_drewN ?_ _ | refine blk_drew ?_ | refine blk_alloc ?_ _)); exact BK411.out) hb); have n7_ := Aside0.mk (blk_below (g := gb418) (o := .cells #[.slice Ao32 t430.length co32, .int .i64 t415, .int .i64 t416] 27 (0, 0)) (by (with_reducible repeat (first | refine blk_drewN ?_ _ | refine blk_drew ?_ | refine blk_alloc ?_ _)); exact BK418.out) hb); have n8_ := Aside0.mk (blk_below (g := gb443) (o := .cells #[.slice Ao118 t437.length co118, .int .i64 t440, .int .i64 t441] 27 (0, 0)) (by (with_reducible repeat (first | refine blk_drewN ?_ _ | refine blk_drew ?_ | refine blk_alloc ?_ _)); exact BK443.out) hb); have n9_ := Aside0.mk (below_step (by repeat (first | (with_reducible first | exact HB.out | apply below_alloc | apply pw_below_drewN | apply below_drew1 | refine below_set ?_ GE392.out | refine below_set ?_ GE405.out | refine below_set ?_ GE411.out | refine below_set ?_ GE418.out | refine below_set ?_ GE443.out) | exact HB.out)) hb); clear HO_406000; clear HO_412000; clear HO_419000; clear HO_444000; clear BK392; clear BK405; clear BK411; clear BK418; clear BK443; clear HB; have HO_406000 := n0_; have HO_412000 := n1_; have HO_419000 := n2_; have HO_444000 := n3_; have BK392 := n4_; have BK405 := n5_; have BK411 := n6_; have BK418 := n7_; have BK443 := n8_; have HB := n9_; clear n0_ n1_ n2_ n3_ n4_ n5_ n6_ n7_ n8_ n9_; (try clear hb); (try clear hb2); (try clear hk); (try clear hi)))
                                go_ret
                                exact ⟨by first | rfl | (simp [errW_none, errW_some] <;> rfl) | (simp [*, errW_none, errW_some] <;> rfl), by repeat (first | (with_reducible first | exact HB.out | apply below_alloc | apply pw_below_drewN | apply below_drew1 | refine below_set ?_ GE392.out | refine below_set ?_ GE405.out | refine below_set ?_ GE411.out | refine below_set ?_ GE418.out | refine below_set ?_ GE443.out) | exact HB.out)⟩
                    · rw [if_neg c100] at H
                      have c100b0 : (t431 == t429) = false := beq_eq_false_iff_ne.mpr c100
                      have c100b1 : (t431 != t429) = true := bne_iff_ne.mpr c100
                      obtain rfl := Option.some.inj H
                      have hnb168 := NB418_392.out
                      have hnc168 := NB392_418.out
                      have hnb169 := NB418_405.out
                      have hnc169 := NB405_418.out
                      have hnb170 := NB418_411.out
                      have hnc170 := NB411_418.out
                      have hcz171_0 : wc.cell? ⟨gb418, 0, none⟩ = some (.slice Ao32 t412.length co32) := (blk_cell BK418.out 0).trans rfl
                      have hcz171_1 : wc.cell? ⟨gb418, 1, none⟩ = some (.int .i64 t415) := (blk_cell BK418.out 1).trans rfl
                      have hcz171_2 : wc.cell? ⟨gb418, 2, none⟩ = some (.int .i64 t416) := (blk_cell BK418.out 2).trans rfl
                      have hfz171_0 := blk_frozen BK418.out 0
                      have hfz171_1 := blk_frozen BK418.out 1
                      have hfz171_2 := blk_frozen BK418.out 2
                      go_wp2_with (first | ((with_reducible refine gate_callee (f := 29) rfl ?_); refine goesL_ (some 64) rfl rfl Try.func29 (by kernel_rfl) rfl #[.agg #[.slice Ao32 t412.length co32, .int .i64 t415, .int .i64 t416], .int .i64 1] rfl (by (try simp only [List.map_toArray, List.map_cons, List.map_nil]); first | done | rfl | (simp only [List.length_drop, List.length_take]; rfl)) ?_; (with_reducible refine (laws_markMachine.calls kj59 (fun k_ => some k_ = (.slice Ao32 t412.length co32 : Value).ownBlock) (.slice Ao32 t412.length co32) t412 t415 t416 1 t429 t430 w _ ?side1 ?side2 A90.out).mono ?_); (case side1 => repeat (first | (with_reducible first | exact HB.out | apply below_alloc | apply pw_below_drewN | apply below_drew1 | refine below_set ?_ GE392.out | refine below_set ?_ GE405.out | refine below_set ?_ GE411.out | refine below_set ?_ GE418.out) | exact HB.out)); (case side2 => exact Kd.R_tight rfl HO_419000.out); rintro e w172 ⟨rfl, hy0, hb, hkp⟩; refine ⟨_, rfl, ?_⟩; have n0_ := Aside0.mk (Kd.R_mono (ok' := fun k_ => some k_ ≠ (.slice Ao26 t427.length co26 : Value).ownBlock ∧ some k_ ≠ (.slice Ao32 t412.length co32 : Value).ownBlock) (Kd.R_keptB (HO_406000.out) hkp (fun k_ hk_ hs_ => (hk_.2) hs_)) (fun k_ hk_ => ⟨hk_.1.1, hk_.1.2⟩)); have n1_ := Aside0.mk (Kd.R_mono (ok' := fun k_ => some k_ ≠ (.slice Ao20 t399.length co20 : Value).ownBlock ∧ some k_ ≠ (.slice Ao32 t412.length co32 : Value).ownBlock) (Kd.R_keptB (HO_412000.out) hkp (fun k_ hk_ hs_ => (hk_.2) hs_)) (fun k_ hk_ => ⟨hk_.1.1, hk_.1.2⟩)); have n2_ := Aside0.mk (Kd.R_reok rfl hy0 (fun k_ e_ => HO_419000.out.1 k_ e_)); have n3_ := Aside0.mk (blk_kept (by (with_reducible repeat (first | refine blk_drewN ?_ _ | refine blk_drew ?_ | refine blk_alloc ?_ _)); exact BK392.out) hkp (fun hs_ => (fun e_ => (Kd.R_ne HO_419000.out BK392.out (by decide)) e_) hs_)); have n4_ := Aside0.mk (blk_kept (by (with_reducible repeat (first | refine blk_drewN ?_ _ | refine blk_drew ?_ | refine blk_alloc ?_ _)); exact BK405.out) hkp (fun hs_ => (fun e_ => (Kd.R_ne HO_419000.out BK405.out (by decide)) e_) hs_)); have n5_ := Aside0.mk (blk_kept (by (with_reducible repeat (first | refine blk_drewN ?_ _ | refine blk_drew ?_ | refine blk_alloc ?_ _)); exact BK411.out) hkp (fun hs_ => (fun e_ => (Kd.R_ne HO_419000.out BK411.out (by decide)) e_) hs_)); have n6_ := Aside0.mk (blk_kept (by (with_reducible repeat (first | refine blk_drewN ?_ _ | refine blk_drew ?_ | refine blk_alloc ?_ _)); exact BK418.out) hkp (fun hs_ => (fun e_ => (Kd.R_ne HO_419000.out BK418.out (by decide)) e_) hs_)); have n7_ := Aside0.mk (hb); clear HO_406000; clear HO_412000; clear HO_419000; clear BK392; clear BK405; clear BK411; clear BK418; clear HB; have HO_406000 := n0_; have HO_412000 := n1_; have HO_419000 := n2_; have BK392 := n3_; have BK405 := n4_; have BK411 := n5_; have BK418 := n6_; have HB := n7_; clear n0_ n1_ n2_ n3_ n4_ n5_ n6_ n7_; (try clear hb); (try clear hkp); (try clear hy0); have hcz173_0 : w172.cell? ⟨gb418, 0, none⟩ = some (.slice Ao32 t412.length co32) := (blk_cell BK418.out 0).trans rfl; have hcz173_1 : w172.cell? ⟨gb418, 1, none⟩ = some (.int .i64 t415) := (blk_cell BK418.out 1).trans rfl; have hcz173_2 : w172.cell? ⟨gb418, 2, none⟩ = some (.int .i64 t416) := (blk_cell BK418.out 2).trans rfl; have hfz173_0 := blk_frozen BK418.out 0; have hfz173_1 := blk_frozen BK418.out 1; have hfz173_2 := blk_frozen BK418.out 2) | ((with_reducible refine gate_callee (f := 30) rfl ?_); refine goesL_ (some 67) rfl rfl Try.func30 (by kernel_rfl) rfl #[.agg #[.slice Ao32 t430.length co32, .int .i64 t415, .int .i64 t416], .int .i64 1] rfl (by (try simp only [List.map_toArray, List.map_cons, List.map_nil]); first | done | (rw [show t430.length = t412.length from (Kd.R_reads' HO_419000.out).1.symm] <;> rfl) | rfl | (simp only [List.length_drop, List.length_take]; rfl)) ?_; (with_reducible refine (laws_heldMachine.calls kj59 _ _ t430 t415 t416 1 t431 _ ?side1 ?side2 A91.out).mono ?_); (case side1 => repeat (first | exact (Kd.R_reads' HO_419000.out).2.2 | (with_reducible refine Kd.C_alloc ?_ _) | (with_reducible refine Kd.C_drewN ?_ _) | (with_reducible refine Kd.C_drew ?_))); (case side2 => rw [show t430.length = t412.length from (Kd.R_reads' HO_419000.out).1.symm]; exact (Kd.R_reads' HO_419000.out).2.1); rintro e w174 ⟨rfl, hb⟩; refine ⟨_, rfl, ?_⟩; have n0_ := Aside0.mk (Kd.R_below (by (with_reducible repeat (first | apply Kd.R_alloc | apply Kd.R_drewN | apply Kd.R_drew)); exact HO_406000.out) hb); have n1_ := Aside0.mk (Kd.R_below (by (with_reducible repeat (first | apply Kd.R_alloc | apply Kd.R_drewN | apply Kd.R_drew)); exact HO_412000.out) hb); have n2_ := Aside0.mk (Kd.R_below (by (with_reducible repeat (first | apply Kd.R_alloc | apply Kd.R_drewN | apply Kd.R_drew)); exact HO_419000.out) hb); have n3_ := Aside0.mk (blk_below (g := gb392) (o := .cells #[.slice A0_0 l0_0.length c0_0, .int .i64 a0_1, .int .i64 a0_2] 24 (0, 0)) (by (with_reducible repeat (first | refine blk_drewN ?_ _ | refine blk_drew ?_ | refine blk_alloc ?_ _)); exact BK392.out) hb); have n4_ := Aside0.mk (blk_below (g := gb405) (o := .cells #[.slice Ao20 t399.length co20, .int .i64 t402, .int .i64 t403] 27 (0, 0)) (by (with_reducible repeat (first | refine blk_drewN ?_ _ | refine blk_drew ?_ | refine blk_alloc ?_ _)); exact BK405.out) hb); have n5_ := Aside0.mk (blk_below (g := gb411) (o := .cells #[.slice Ao26 t427.length co26, .int .i64 t409, .int .i64 t410] 27 (0, 0)) (by (with_reducible repeat (first | refine blk_drewN ?_ _ | refine blk_drew ?_ | refine blk_alloc ?_ _)); exact BK411.out) hb); have n6_ := Aside0.mk (blk_below (g := gb418) (o := .cells #[.slice Ao32 t412.length co32, .int .i64 t415, .int .i64 t416] 27 (0, 0)) (by (with_reducible repeat (first | refine blk_drewN ?_ _ | refine blk_drew ?_ | refine blk_alloc ?_ _)); exact BK418.out) hb); have n7_ := Aside0.mk (below_step (by repeat (first | (with_reducible first | exact HB.out | apply below_alloc | apply pw_below_drewN | apply below_drew1 | refine below_set ?_ GE392.out | refine below_set ?_ GE405.out | refine below_set ?_ GE411.out | refine below_set ?_ GE418.out) | exact HB.out)) hb); clear HO_406000; clear HO_412000; clear HO_419000; clear BK392; clear BK405; clear BK411; clear BK418; clear HB; have HO_406000 := n0_; have HO_412000 := n1_; have HO_419000 := n2_; have BK392 := n3_; have BK405 := n4_; have BK411 := n5_; have BK418 := n6_; have HB := n7_; clear n0_ n1_ n2_ n3_ n4_ n5_ n6_ n7_; (try clear hb); (try clear hb2); (try clear hk); (try clear hi)))
                      go_ret
                      exact ⟨by first | rfl | (simp [errW_none, errW_some] <;> rfl) | (simp [*, errW_none, errW_some] <;> rfl), by repeat (first | (with_reducible first | exact HB.out | apply below_alloc | apply pw_below_drewN | apply below_drew1 | refine below_set ?_ GE392.out | refine below_set ?_ GE405.out | refine below_set ?_ GE411.out | refine below_set ?_ GE418.out) | exact HB.out)⟩
          · replace c58 := Bool.eq_false_iff.mpr c58
            subst c58
            have H1 : (some false) = some r := by rw [if_neg (show ¬ (false = true) by decide)] at H; exact H
            clear H
            have H := H1
            clear H1
            obtain rfl := Option.some.inj H
            try go_wp2
            have n0_ := Aside0.mk (Kd.R_drew HO_406000.out)
            have n1_ := Aside0.mk (Kd.R_drew HO_412000.out)
            have n2_ := Aside0.mk (Kd.R_drew HO_419000.out)
            have n3_ := Aside0.mk (blk_drew BK392.out)
            have n4_ := Aside0.mk (blk_drew BK405.out)
            have n5_ := Aside0.mk (blk_drew BK411.out)
            have n6_ := Aside0.mk (blk_drew BK418.out)
            have n7_ := Aside0.mk (below_drew1 HB.out)
            clear HO_406000
            clear HO_412000
            clear HO_419000
            clear BK392
            clear BK405
            clear BK411
            clear BK418
            clear HB
            have HO_406000 := n0_
            have HO_412000 := n1_
            have HO_419000 := n2_
            have BK392 := n3_
            have BK405 := n4_
            have BK411 := n5_
            have BK418 := n6_
            have HB := n7_
            clear n0_ n1_ n2_ n3_ n4_ n5_ n6_ n7_
            refine start_ (n := 5) (S := fun w' => w'.cell? ⟨gb411, 0, none⟩ = some (.slice Ao26 t406.length co26) ∧ w'.cell? ⟨gb411, 1, none⟩ = some (.int .i64 t409) ∧ w'.cell? ⟨gb411, 2, none⟩ = some (.int .i64 t410) ∧ w'.cell? ⟨gb392, 0, none⟩ = some (.slice A0_0 l0_0.length c0_0) ∧ w'.cell? ⟨gb392, 1, none⟩ = some (.int .i64 a0_1) ∧ w'.cell? ⟨gb392, 2, none⟩ = some (.int .i64 a0_2)) (ds := []) #[false, false, false, false, false] (by kernel_rfl) rfl rfl ⟨(blk_cell BK411.out 0).trans rfl, (blk_cell BK411.out 1).trans rfl, (blk_cell BK411.out 2).trans rfl, (blk_cell BK392.out 0).trans rfl, (blk_cell BK392.out 1).trans rfl, (blk_cell BK392.out 2).trans rfl⟩ (fun hHeld => ?_)
            generalize wc.drew = w175 at HO_406000 HO_412000 HO_419000 BK392 BK405 BK411 BK418 HB hHeld ⊢
            refine take_ (i := 0) (N := some 41) (v := ?_) (a' := ?_) #[true, false, false, false, false] rfl rfl (by kernel_rfl) (fun _ _ _ h => h) (Or.inl ⟨by rfl, ?_⟩) hHeld ?_ ?_
            rotate_left
            · rintro w' ⟨s0, s1, s2, s3, s4, s5⟩
              go_simp
              with_reducible rfl
            rotate_left
            · simp only [Act.put, List.setIfInBounds_toArray, List.set_cons_zero, List.set_cons_succ, i64_w, i32_w]
              rfl
            refine take_ (i := 1) (N := some 42) (v := ?_) (a' := ?_) #[true, true, false, false, false] rfl rfl (by kernel_rfl) (fun _ _ _ h => h) (Or.inl ⟨by rfl, ?_⟩) hHeld ?_ ?_
            rotate_left
            · rintro w' ⟨s0, s1, s2, s3, s4, s5⟩
              go_simp
              with_reducible rfl
            rotate_left
            · simp only [Act.put, List.setIfInBounds_toArray, List.set_cons_zero, List.set_cons_succ, i64_w, i32_w]
              rfl
            refine one_ (i := 2) (N := some 43) #[true, true, true, false, false] rfl rfl (by kernel_rfl) (by decide) (fun K hK => ?_)
            refine goes_ Try.func17 (by kernel_rfl) rfl #[.agg #[.slice A0_0 l0_0.length c0_0, .int .i64 a0_1, .int .i64 a0_2]] (by rfl) rfl rfl (by (try simp only [List.map_toArray, List.map_cons, List.map_nil]); first | done | rfl | (simp only [List.length_drop, List.length_take]; rfl)) ?_
            with_reducible refine (laws_toMachine.calls kj10 _ _ l0_0 a0_1 a0_2 t420 t423 t424 _ ?side1 ?side2 A56.out).mono ?_
            (case side1 => repeat (first | exact (Kd.C_below HR0_0.out HB.out) | (with_reducible refine Kd.C_alloc ?_ _) | (with_reducible refine Kd.C_drewN ?_ _) | (with_reducible refine Kd.C_drew ?_)))
            (case side2 => exact HC0_0.out)
            rintro e w176 ⟨v421, rfl, ho0, hb⟩
            refine ⟨_, rfl, ?_⟩
            have n0_ := Aside0.mk (Kd.R_elder' (by (with_reducible repeat (first | apply Kd.R_alloc | apply Kd.R_drewN | apply Kd.R_drew)); exact HO_406000.out) (Kd.R_base ho0) hb)
            have n1_ := Aside0.mk (Kd.R_elder' (by (with_reducible repeat (first | apply Kd.R_alloc | apply Kd.R_drewN | apply Kd.R_drew)); exact HO_412000.out) (Kd.R_base ho0) hb)
            have n2_ := Aside0.mk (Kd.R_elder' (by (with_reducible repeat (first | apply Kd.R_alloc | apply Kd.R_drewN | apply Kd.R_drew)); exact HO_419000.out) (Kd.R_base ho0) hb)
            have n3_ := Aside0.mk (Kd.R_lower (Kd.R_new' (Kd.R_new' (Kd.R_new' ho0 (Kd.R_lt (by (with_reducible repeat (first | apply Kd.R_alloc | apply Kd.R_drewN | apply Kd.R_drew)); exact HO_406000.out))) (Kd.R_lt (by (with_reducible repeat (first | apply Kd.R_alloc | apply Kd.R_drewN | apply Kd.R_drew)); exact HO_412000.out))) (Kd.R_lt (by (with_reducible repeat (first | apply Kd.R_alloc | apply Kd.R_drewN | apply Kd.R_drew)); exact HO_419000.out))) (below_size (by repeat (first | (with_reducible first | exact HB.out | apply below_alloc | apply pw_below_drewN | apply below_drew1 | refine below_set ?_ GE392.out | refine below_set ?_ GE405.out | refine below_set ?_ GE411.out | refine below_set ?_ GE418.out) | exact HB.out))))
            have n4_ := Aside0.mk (blk_below (g := gb392) (o := .cells #[.slice A0_0 l0_0.length c0_0, .int .i64 a0_1, .int .i64 a0_2] 24 (0, 0)) (by (with_reducible repeat (first | refine blk_drewN ?_ _ | refine blk_drew ?_ | refine blk_alloc ?_ _)); exact BK392.out) hb)
            have n5_ := Aside0.mk (blk_below (g := gb405) (o := .cells #[.slice Ao20 t399.length co20, .int .i64 t402, .int .i64 t403] 27 (0, 0)) (by (with_reducible repeat (first | refine blk_drewN ?_ _ | refine blk_drew ?_ | refine blk_alloc ?_ _)); exact BK405.out) hb)
            have n6_ := Aside0.mk (blk_below (g := gb411) (o := .cells #[.slice Ao26 t406.length co26, .int .i64 t409, .int .i64 t410] 27 (0, 0)) (by (with_reducible repeat (first | refine blk_drewN ?_ _ | refine blk_drew ?_ | refine blk_alloc ?_ _)); exact BK411.out) hb)
            have n7_ := Aside0.mk (blk_below (g := gb418) (o := .cells #[.slice Ao32 t412.length co32, .int .i64 t415, .int .i64 t416] 27 (0, 0)) (by (with_reducible repeat (first | refine blk_drewN ?_ _ | refine blk_drew ?_ | refine blk_alloc ?_ _)); exact BK418.out) hb)
            have n8_ := Aside0.mk (below_step (by repeat (first | (with_reducible first | exact HB.out | apply below_alloc | apply pw_below_drewN | apply below_drew1 | refine below_set ?_ GE392.out | refine below_set ?_ GE405.out | refine below_set ?_ GE411.out | refine below_set ?_ GE418.out) | exact HB.out)) hb)
            clear HO_406000
            clear HO_412000
            clear HO_419000
            clear BK392
            clear BK405
            clear BK411
            clear BK418
            clear HB
            have HO_406000 := n0_
            have HO_412000 := n1_
            have HO_419000 := n2_
            have HO422 := n3_
            have BK392 := n4_
            have BK405 := n5_
            have BK411 := n6_
            have BK418 := n7_
            have HB := n8_
            clear n0_ n1_ n2_ n3_ n4_ n5_ n6_ n7_ n8_
            (try clear hb)
            (try clear hb2)
            (try clear hk)
            (try clear hi)
            (try clear ho0)
            obtain ⟨Ao177, co177, eo177⟩ := Kd.R_slice HO422.out
            (first | subst eo177 | (injection eo177 with f1_ f2_ f3_; have f4_ := f1_.symm; have f5_ := f3_.symm; clear f1_ f2_ f3_; subst f4_; subst f5_))
            refine hK.out _ _ ⟨(blk_cell BK411.out 0).trans rfl, (blk_cell BK411.out 1).trans rfl, (blk_cell BK411.out 2).trans rfl, (blk_cell BK392.out 0).trans rfl, (blk_cell BK392.out 1).trans rfl, (blk_cell BK392.out 2).trans rfl⟩ (fun hHeld => ?_)
            clear hK K
            refine norm_ (a' := ?_) ?_ ?_
            rotate_left
            · show Act.put _ (some 43) _ = _
              simp only [Act.put, List.setIfInBounds_toArray, List.set_cons_zero, List.set_cons_succ, i64_w, i32_w]
              rfl
            refine one_ (i := 3) (N := some 44) #[true, true, true, true, false] rfl rfl (by kernel_rfl) (by decide) (fun K hK => ?_)
            refine goes_ Try.func19 (by kernel_rfl) rfl #[.agg #[.slice Ao26 t406.length co26, .int .i64 t409, .int .i64 t410], .agg #[.slice Ao177 t420.length co177, .int .i64 t423, .int .i64 t424]] (by rfl) rfl rfl (by (try simp only [List.map_toArray, List.map_cons, List.map_nil]); first | done | rfl | (simp only [List.length_drop, List.length_take]; rfl)) ?_
            with_reducible refine (laws_eqMachine.calls kj10 _ _ t406 t409 t410 _ _ t420 t423 t424 false _ ?side1 ?side2 ?side3 ?side4 A57.out).mono ?_
            (case side1 => repeat (first | exact (Kd.R_reads' HO_412000.out).2.2 | (with_reducible refine Kd.C_alloc ?_ _) | (with_reducible refine Kd.C_drewN ?_ _) | (with_reducible refine Kd.C_drew ?_)))
            (case side2 => exact (Kd.R_reads' HO_412000.out).2.1)
            (case side3 => repeat (first | exact (Kd.R_reads' HO422.out).2.2 | (with_reducible refine Kd.C_alloc ?_ _) | (with_reducible refine Kd.C_drewN ?_ _) | (with_reducible refine Kd.C_drew ?_)))
            (case side4 => exact (Kd.R_reads' HO422.out).2.1)
            rintro e w178 ⟨rfl, hb⟩
            refine ⟨_, rfl, ?_⟩
            have n0_ := Aside0.mk (Kd.R_below (by (with_reducible repeat (first | apply Kd.R_alloc | apply Kd.R_drewN | apply Kd.R_drew)); exact HO_406000.out) hb)
            have n1_ := Aside0.mk (Kd.R_below (by (with_reducible repeat (first | apply Kd.R_alloc | apply Kd.R_drewN | apply Kd.R_drew)); exact HO_412000.out) hb)
            have n2_ := Aside0.mk (Kd.R_below (by (with_reducible repeat (first | apply Kd.R_alloc | apply Kd.R_drewN | apply Kd.R_drew)); exact HO_419000.out) hb)
            have n3_ := Aside0.mk (Kd.R_below (by (with_reducible repeat (first | apply Kd.R_alloc | apply Kd.R_drewN | apply Kd.R_drew)); exact HO422.out) hb)
            have n4_ := Aside0.mk (blk_below (g := gb392) (o := .cells #[.slice A0_0 l0_0.length c0_0, .int .i64 a0_1, .int .i64 a0_2] 24 (0, 0)) (by (with_reducible repeat (first | refine blk_drewN ?_ _ | refine blk_drew ?_ | refine blk_alloc ?_ _)); exact BK392.out) hb)
            have n5_ := Aside0.mk (blk_below (g := gb405) (o := .cells #[.slice Ao20 t399.length co20, .int .i64 t402, .int .i64 t403] 27 (0, 0)) (by (with_reducible repeat (first | refine blk_drewN ?_ _ | refine blk_drew ?_ | refine blk_alloc ?_ _)); exact BK405.out) hb)
            have n6_ := Aside0.mk (blk_below (g := gb411) (o := .cells #[.slice Ao26 t406.length co26, .int .i64 t409, .int .i64 t410] 27 (0, 0)) (by (with_reducible repeat (first | refine blk_drewN ?_ _ | refine blk_drew ?_ | refine blk_alloc ?_ _)); exact BK411.out) hb)
            have n7_ := Aside0.mk (blk_below (g := gb418) (o := .cells #[.slice Ao32 t412.length co32, .int .i64 t415, .int .i64 t416] 27 (0, 0)) (by (with_reducible repeat (first | refine blk_drewN ?_ _ | refine blk_drew ?_ | refine blk_alloc ?_ _)); exact BK418.out) hb)
            have n8_ := Aside0.mk (below_step (by repeat (first | (with_reducible first | exact HB.out | apply below_alloc | apply pw_below_drewN | apply below_drew1 | refine below_set ?_ GE392.out | refine below_set ?_ GE405.out | refine below_set ?_ GE411.out | refine below_set ?_ GE418.out) | exact HB.out)) hb)
            clear HO_406000
            clear HO_412000
            clear HO_419000
            clear HO422
            clear BK392
            clear BK405
            clear BK411
            clear BK418
            clear HB
            have HO_406000 := n0_
            have HO_412000 := n1_
            have HO_419000 := n2_
            have HO422 := n3_
            have BK392 := n4_
            have BK405 := n5_
            have BK411 := n6_
            have BK418 := n7_
            have HB := n8_
            clear n0_ n1_ n2_ n3_ n4_ n5_ n6_ n7_ n8_
            (try clear hb)
            (try clear hb2)
            (try clear hk)
            (try clear hi)
            refine hK.out _ _ ⟨(blk_cell BK411.out 0).trans rfl, (blk_cell BK411.out 1).trans rfl, (blk_cell BK411.out 2).trans rfl, (blk_cell BK392.out 0).trans rfl, (blk_cell BK392.out 1).trans rfl, (blk_cell BK392.out 2).trans rfl⟩ (fun hHeld => ?_)
            clear hK K
            refine norm_ (a' := ?_) ?_ ?_
            rotate_left
            · show Act.put _ (some 44) _ = _
              simp only [Act.put, List.setIfInBounds_toArray, List.set_cons_zero, List.set_cons_succ, i64_w, i32_w]
              rfl
            refine pure_ (i := 4) (N := some 45) (v := ?_) (a' := ?_) #[true, true, true, true, true] rfl rfl (by kernel_rfl) (fun _ _ _ h => h) (Or.inl ⟨by rfl, ?_⟩) ?_ ?_
            rotate_left
            · intro w'
              go_simp
              with_reducible rfl
            rotate_left
            · simp only [Act.put, List.setIfInBounds_toArray, List.set_cons_zero, List.set_cons_succ, i64_w, i32_w]
              rfl
            refine done_ (by kernel_rfl) ?_
            try go_wp2
            go_ret
            exact ⟨by first | rfl | (simp [errW_none, errW_some] <;> rfl) | (simp [*, errW_none, errW_some] <;> rfl), by repeat (first | (with_reducible first | exact HB.out | apply below_alloc | apply pw_below_drewN | apply below_drew1 | refine below_set ?_ GE392.out | refine below_set ?_ GE405.out | refine below_set ?_ GE411.out | refine below_set ?_ GE418.out) | exact HB.out)⟩

end Go.Proofs.Ytdbkpmhdjdebhaa.G
