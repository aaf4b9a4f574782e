-- Made by gprint.py (the kit's print with contracts of this session's own among its functions).
import Derived.Test.YtdbkpmhdjdebhaaG0
import Derived.Test.YtdbkpmhdjdebhaaG8
import Derived.Test.YtdbkpmhdjdebhaaG25
import Derived.Test.YtdbkpmhdjdebhaaG34
namespace Go.Proofs.Ytdbkpmhdjdebhaa.G
open Go.RowKit Go.Proofs.YtdbkpmhdjdebhaaW.PrintWords Go.Proofs.YtdbkpmhdjdebhaaW.PrintLast Go.Proofs.YtdbkpmhdjdebhaaW.PrintMore
attribute [local go_sem] max2_int min2_int max_two min_two max_three min_three max_four min_four   -- for this text's walks alone
set_option linter.unusedVariables false
set_option linter.unusedSimpArgs false

/-! ### laws_FnMachSingle: function 13 -/
mutual
def laws_FnMachSingle.j0 : Nat → Bool → Bool → List Int → Int → Int → Option (Bool)
  | 0, _, _, _, _, _ => none
  | k + 1, x6, x27, x642000, x642001, x642002 => if x27 = true then (some x6) else (laws_FnMachSingle.l0 k 0 x642000 x642001 x642002)
def laws_FnMachSingle.l0 : Nat → Int → List Int → Int → Int → Option (Bool)
  | 0, _, _, _, _ => none
  | k + 1, x7, x642000, x642001, x642002 => if x7 ≤ 40 then ((impl_MachAt.f k x642000 x642001 x642002 x7).bind fun bt644 => (if bt644.2 = true then (if bt644.1 = 0 then (some false) else (if (Go.bits .and .i64 bt644.1 (wrap64 (bt644.1 - 1))) = 0 then (laws_FnMachSingle.l0 k (wrap64 (x7 + 1)) x642000 x642001 x642002) else (some false))) else (some false))) else (some true)
end
def laws_FnMachSingle.f (k : Nat) (l0 : List Int) : Option (Bool) := if (l0.length : Int) > 1048576 then (some true) else ((spec_DrawMachSingle.f k l0).bind fun bt636 => ((impl_MachSingle.f bt636.1 bt636.2.1 bt636.2.2).bind fun t642 => ((spec_MachSingle.f k bt636.1 bt636.2.1 bt636.2.2).bind fun t643 => (if ((t642 == t643) = true) then (laws_FnMachSingle.j0 k (t642 == t643) (!t642) bt636.1 bt636.2.1 bt636.2.2) else (laws_FnMachSingle.j0 k (t642 == t643) true bt636.1 bt636.2.1 bt636.2.2)))))
theorem laws_FnMachSingle.mono_l : ∀ k, (∀ y0 y1 y2 y3 y4, LeO (laws_FnMachSingle.j0 k y0 y1 y2 y3 y4) (laws_FnMachSingle.j0 (k + 1) y0 y1 y2 y3 y4)) ∧ (∀ y0 y1 y2 y3, LeO (laws_FnMachSingle.l0 k y0 y1 y2 y3) (laws_FnMachSingle.l0 (k + 1) y0 y1 y2 y3))
  | 0 => ⟨fun _ _ _ _ _ r h => by simp [laws_FnMachSingle.j0] at h, fun _ _ _ _ r h => by simp [laws_FnMachSingle.l0] at h⟩
  | k + 1 => by
    obtain ⟨ih0, ih1⟩ := laws_FnMachSingle.mono_l k
    refine ⟨?_, ?_⟩
    · intro y0 y1 y2 y3 y4
      unfold laws_FnMachSingle.j0
      repeat' first
      | (with_reducible exact ih0 _ _ _ _ _)
      | (with_reducible exact ih1 _ _ _ _)
      | (with_reducible exact impl_MachAt.mono _ _ _ _ _)
      | (with_reducible exact spec_DrawMachSingle.mono _ _)
      | (with_reducible exact spec_MachSingle.mono _ _ _ _)
      | (with_reducible exact LeO.refl _)
      | (with_reducible exact LeO.none _)
      | (with_reducible refine LeO.ite ?_ ?_)
      | (with_reducible refine LeO.bind ?_ (fun _ => ?_))
      | exact ih0 _ _ _ _ _
      | exact ih1 _ _ _ _
      | exact impl_MachAt.mono _ _ _ _ _
      | exact spec_DrawMachSingle.mono _ _
      | exact spec_MachSingle.mono _ _ _ _
      | exact LeO.none _
      | refine LeO.ite ?_ ?_
      | refine LeO.bind ?_ (fun _ => ?_)
    · intro y0 y1 y2 y3
      unfold laws_FnMachSingle.l0
      repeat' first
      | (with_reducible exact ih0 _ _ _ _ _)
      | (with_reducible exact ih1 _ _ _ _)
      | (with_reducible exact impl_MachAt.mono _ _ _ _ _)
      | (with_reducible exact spec_DrawMachSingle.mono _ _)
      | (with_reducible exact spec_MachSingle.mono _ _ _ _)
      | (with_reducible exact LeO.refl _)
      | (with_reducible exact LeO.none _)
      | (with_reducible refine LeO.ite ?_ ?_)
      | (with_reducible refine LeO.bind ?_ (fun _ => ?_))
      | exact ih0 _ _ _ _ _
      | exact ih1 _ _ _ _
      | exact impl_MachAt.mono _ _ _ _ _
      | exact spec_DrawMachSingle.mono _ _
      | exact spec_MachSingle.mono _ _ _ _
      | exact LeO.none _
      | refine LeO.ite ?_ ?_
      | refine LeO.bind ?_ (fun _ => ?_)
theorem laws_FnMachSingle.mono : ∀ a0 k, LeO (laws_FnMachSingle.f k a0) (laws_FnMachSingle.f (k + 1) a0) := by
  intro a0 k
  obtain ⟨ih0, ih1⟩ := laws_FnMachSingle.mono_l k
  unfold laws_FnMachSingle.f
  repeat' first
      | (with_reducible exact ih0 _ _ _ _ _)
      | (with_reducible exact ih1 _ _ _ _)
      | (with_reducible exact impl_MachAt.mono _ _ _ _ _)
      | (with_reducible exact spec_DrawMachSingle.mono _ _)
      | (with_reducible exact spec_MachSingle.mono _ _ _ _)
      | (with_reducible exact LeO.refl _)
      | (with_reducible exact LeO.none _)
      | (with_reducible refine LeO.ite ?_ ?_)
      | (with_reducible refine LeO.bind ?_ (fun _ => ?_))
      | exact ih0 _ _ _ _ _
      | exact ih1 _ _ _ _
      | exact impl_MachAt.mono _ _ _ _ _
      | exact spec_DrawMachSingle.mono _ _
      | exact spec_MachSingle.mono _ _ _ _
      | exact LeO.none _
      | refine LeO.ite ?_ ?_
      | refine LeO.bind ?_ (fun _ => ?_)
set_option maxHeartbeats 8000000 in
set_option maxRecDepth 100000 in
theorem laws_FnMachSingle.calls (k : Nat) (A0 : Option Addr) (c0 : Nat) (l0 : List Int) (r : Bool) (w : World) (hr0 : Kd.C (Kd.int .u8) w A0 l0.length l0) (hc0 : l0.length ≤ c0) (h : laws_FnMachSingle.f k l0 = some r) :
    Calls Try.prog 13 #[.slice A0 l0.length c0] w fun e w' => e = .returned (.bool r) ∧ Below w.heap.size w w' := by
  have hu27 := Try.underlying27
  have HR0 := Aside0.mk hr0
  have HC0 := Aside0.mk hc0
  clear hr0 hc0
  have HB := Aside0.mk (Below.refl w.heap.size w)
  have H : (if (l0.length : Int) > 1048576 then (some true) else ((spec_DrawMachSingle.f k l0).bind fun bt636 => ((impl_MachSingle.f bt636.1 bt636.2.1 bt636.2.2).bind fun t642 => ((spec_MachSingle.f k bt636.1 bt636.2.1 bt636.2.2).bind fun t643 => (if ((t642 == t643) = true) then (laws_FnMachSingle.j0 k (t642 == t643) (!t642) bt636.1 bt636.2.1 bt636.2.2) else (laws_FnMachSingle.j0 k (t642 == t643) true bt636.1 bt636.2.1 bt636.2.2)))))) = some r := h
  clear h
  by_cases c2 : (l0.length : Int) > 1048576
  · rw [if_pos c2] at H
    have c2b0 : decide (1048576 < (l0.length : Int)) = true := decide_eq_true c2
    have c2b1 : decide (1048576 < l0.length) = true := decide_eq_true (by omega)
    clear c2
    obtain rfl := Option.some.inj H
    go_enter Try.func13, Try.ntmps13
    go_wp2
    go_ret
    exact ⟨by first | rfl | (simp [errW_none, errW_some] <;> rfl) | (simp [*, errW_none, errW_some] <;> rfl), by repeat (first | (with_reducible first | exact HB.out | apply below_alloc | apply pw_below_drewN | apply below_drew1) | exact HB.out)⟩
  · rw [if_neg c2] at H
    have c2b0 : decide (1048576 < (l0.length : Int)) = false := decide_eq_false c2
    have c2b1 : decide (1048576 < l0.length) = false := decide_eq_false (by omega)
    clear c2
    replace H := Option.bind_eq_some_iff.mp H
    obtain ⟨⟨t636, t639, t640⟩, A30, H⟩ := H
    replace H : ((impl_MachSingle.f t636 t639 t640).bind fun t642 => ((spec_MachSingle.f k t636 t639 t640).bind fun t643 => (if ((t642 == t643) = true) then (laws_FnMachSingle.j0 k (t642 == t643) (!t642) t636 t639 t640) else (laws_FnMachSingle.j0 k (t642 == t643) true t636 t639 t640)))) = some r := H
    have A3 := Aside0.mk A30
    clear A30
    replace H := Option.bind_eq_some_iff.mp H
    obtain ⟨t642, A40, H⟩ := H
    replace H : ((spec_MachSingle.f k t636 t639 t640).bind fun t643 => (if ((t642 == t643) = true) then (laws_FnMachSingle.j0 k (t642 == t643) (!t642) t636 t639 t640) else (laws_FnMachSingle.j0 k (t642 == t643) true t636 t639 t640))) = some r := H
    have A4 := Aside0.mk A40
    clear A40
    replace H := Option.bind_eq_some_iff.mp H
    obtain ⟨t643, A50, H⟩ := H
    replace H : (if ((t642 == t643) = true) then (laws_FnMachSingle.j0 k (t642 == t643) (!t642) t636 t639 t640) else (laws_FnMachSingle.j0 k (t642 == t643) true t636 t639 t640)) = some r := H
    have A5 := Aside0.mk A50
    clear A50
    obtain ⟨bq6, hbq6⟩ : ∃ b_ : Bool, b_ = (t642 == t643) := ⟨_, rfl⟩
    replace H : (if (bq6 = true) then (laws_FnMachSingle.j0 k bq6 (!t642) t636 t639 t640) else (laws_FnMachSingle.j0 k bq6 true t636 t639 t640)) = some r := by rw [← hbq6] at H; exact H
    have Nbq6 := Aside0.mk hbq6
    clear hbq6
    have HC7 := Aside0.mk H
    clear H
    go_enter Try.func13, Try.ntmps13
    go_upto_region 7 with (first | ((with_reducible refine gate_callee (f := 37) rfl ?_); refine goesL_ (some 14) rfl rfl Try.func37 (by kernel_rfl) rfl #[.slice A0 l0.length c0] rfl (by (try simp only [List.map_toArray, List.map_cons, List.map_nil]); first | done | rfl | (simp only [List.length_drop, List.length_take]; rfl)) ?_; (with_reducible refine (spec_DrawMachSingle.calls k _ _ l0 t636 t639 t640 _ ?side1 ?side2 A3.out).mono ?_); (case side1 => repeat (first | exact HR0.out | (with_reducible refine Kd.C_alloc ?_ _) | (with_reducible refine Kd.C_drewN ?_ _) | (with_reducible refine Kd.C_drew ?_))); (case side2 => exact HC0.out); rintro e w8 ⟨v637, rfl, ho0, hb⟩; refine ⟨_, rfl, ?_⟩; have n0_ := Aside0.mk (Kd.R_lower ho0 (below_size (by repeat (first | (with_reducible first | exact HB.out | apply below_alloc | apply pw_below_drewN | apply below_drew1) | exact HB.out)))); have n1_ := Aside0.mk (below_step (by repeat (first | (with_reducible first | exact HB.out | apply below_alloc | apply pw_below_drewN | apply below_drew1) | exact HB.out)) hb); clear HB; have HO638 := n0_; have HB := n1_; clear n0_ n1_; (try clear hb); (try clear hb2); (try clear hk); (try clear hi); (try clear ho0)) | ((with_reducible refine gate_dst (N := 3) rfl ?_); refine box_event ?hg (N := 3) ?hd (cs := #[.slice none 0 0, .int .i64 0, .int .i64 0]) (t := 27) ?hr ?_; (case hd => rfl); (case hg => rfl); (case hr => first | (go_simp; done) | (go_simp; rfl)); intro gb641 hg w9 hbox hb; have n0_ := Aside0.mk (Kd.R_below (by (with_reducible repeat (first | apply Kd.R_alloc | apply Kd.R_drewN | apply Kd.R_drew)); exact HO638.out) hb); have n1_ := Aside0.mk (below_step (by repeat (first | (with_reducible first | exact HB.out | apply below_alloc | apply pw_below_drewN | apply below_drew1) | exact HB.out)) hb); have n2_ := Aside0.mk (hbox); have n3_ := Aside0.mk ((by rw [hg]; exact (below_size (by repeat (first | (with_reducible first | exact HB.out | apply below_alloc | apply pw_below_drewN | apply below_drew1) | exact HB.out))) : w.heap.size ≤ gb641)); have n4_ := Aside0.mk ((by rw [hg]; exact (below_size (by repeat (first | (with_reducible first | exact HB.out | apply below_alloc | apply pw_below_drewN | apply below_drew1) | exact HB.out))) : w.heap.size ≤ gb641)); clear HO638; clear HB; have HO638 := n0_; have HB := n1_; have BK641 := n2_; have GW641 := n3_; have GE641 := n4_; clear n0_ n1_ n2_ n3_ n4_; clear hb hbox hg; obtain ⟨Ao10, co10, eo10⟩ := Kd.R_slice HO638.out; subst eo10; have hcz11_0 : w9.cell? ⟨gb641, 0, none⟩ = some (.slice none 0 0) := (blk_cell BK641.out 0).trans rfl; have hcz11_1 : w9.cell? ⟨gb641, 1, none⟩ = some (.int .i64 0) := (blk_cell BK641.out 1).trans rfl; have hcz11_2 : w9.cell? ⟨gb641, 2, none⟩ = some (.int .i64 0) := (blk_cell BK641.out 2).trans rfl; have hfz11_0 := blk_frozen BK641.out 0; have hfz11_1 := blk_frozen BK641.out 1; have hfz11_2 := blk_frozen BK641.out 2) | ((with_reducible refine gate_callee (f := 32) rfl ?_); refine goesL_ (some 16) rfl rfl Try.func32 (by kernel_rfl) rfl #[.agg #[.slice Ao10 t636.length co10, .int .i64 t639, .int .i64 t640]] rfl (by (try simp only [List.map_toArray, List.map_cons, List.map_nil]); first | done | rfl | (simp only [List.length_drop, List.length_take]; rfl)) ?_; (with_reducible refine (impl_MachSingle.calls _ _ t636 t639 t640 t642 _ ?side1 ?side2 A4.out).mono ?_); (case side1 => refine (Kd.R_reads' (e := 3) (base := w.heap.size) (ok := fun k_ => True) (n := t636.length) (c := co10) ?_).2.2; exact (by (with_reducible repeat (first | apply Kd.R_alloc | apply Kd.R_drewN | apply Kd.R_drew)); exact (Kd.R_mono (Kd.R_far (p := ⟨gb641, 2, none⟩) (Kd.R_far (p := ⟨gb641, 1, none⟩) (Kd.R_far (p := ⟨gb641, 0, none⟩) (Kd.R_types HO638.out BK641.out (by decide)) (fun _ hk => hk.2) (.slice Ao10 t636.length co10)) (fun _ hk => hk.2) (.int .i64 t639)) (fun _ hk => hk.2) (.int .i64 t640)) (fun _ h_ => h_.1)))); (case side2 => exact (Kd.R_reads' HO638.out).2.1); rintro e w12 ⟨rfl, hb⟩; refine ⟨_, rfl, ?_⟩; have n0_ := Aside0.mk (Kd.R_below (by (with_reducible repeat (first | apply Kd.R_alloc | apply Kd.R_drewN | apply Kd.R_drew)); exact (Kd.R_mono (Kd.R_far (p := ⟨gb641, 2, none⟩) (Kd.R_far (p := ⟨gb641, 1, none⟩) (Kd.R_far (p := ⟨gb641, 0, none⟩) (Kd.R_types HO638.out BK641.out (by decide)) (fun _ hk => hk.2) (.slice Ao10 t636.length co10)) (fun _ hk => hk.2) (.int .i64 t639)) (fun _ hk => hk.2) (.int .i64 t640)) (fun _ h_ => h_.1))) hb); have n1_ := Aside0.mk (blk_below (g := gb641) (o := .cells #[.slice Ao10 t636.length co10, .int .i64 t639, .int .i64 t640] 27 (0, 0)) (by (with_reducible repeat (first | refine blk_drewN ?_ _ | refine blk_drew ?_ | refine blk_alloc ?_ _)); refine blk_put (cs := #[.slice Ao10 t636.length co10, .int .i64 t639, .int .i64 0]) ?_ 2 _ rfl; (with_reducible repeat (first | refine blk_drewN ?_ _ | refine blk_drew ?_ | refine blk_alloc ?_ _)); refine blk_put (cs := #[.slice Ao10 t636.length co10, .int .i64 0, .int .i64 0]) ?_ 1 _ rfl; (with_reducible repeat (first | refine blk_drewN ?_ _ | refine blk_drew ?_ | refine blk_alloc ?_ _)); refine blk_put (cs := #[.slice none 0 0, .int .i64 0, .int .i64 0]) ?_ 0 _ rfl; (with_reducible repeat (first | refine blk_drewN ?_ _ | refine blk_drew ?_ | refine blk_alloc ?_ _)); exact BK641.out) hb); have n2_ := Aside0.mk (below_step (by repeat (first | (with_reducible first | exact HB.out | apply below_alloc | apply pw_below_drewN | apply below_drew1 | refine below_set ?_ GE641.out) | exact HB.out)) hb); clear HO638; clear BK641; clear HB; have HO638 := n0_; have BK641 := n1_; have HB := n2_; clear n0_ n1_ n2_; (try clear hb); (try clear hb2); (try clear hk); (try clear hi); have hcz13_0 : w12.cell? ⟨gb641, 0, none⟩ = some (.slice Ao10 t636.length co10) := (blk_cell BK641.out 0).trans rfl; have hcz13_1 : w12.cell? ⟨gb641, 1, none⟩ = some (.int .i64 t639) := (blk_cell BK641.out 1).trans rfl; have hcz13_2 : w12.cell? ⟨gb641, 2, none⟩ = some (.int .i64 t640) := (blk_cell BK641.out 2).trans rfl; have hfz13_0 := blk_frozen BK641.out 0; have hfz13_1 := blk_frozen BK641.out 1; have hfz13_2 := blk_frozen BK641.out 2) | ((with_reducible refine gate_callee (f := 31) rfl ?_); refine goesL_ (some 18) rfl rfl Try.func31 (by kernel_rfl) rfl #[.agg #[.slice Ao10 t636.length co10, .int .i64 t639, .int .i64 t640]] rfl (by (try simp only [List.map_toArray, List.map_cons, List.map_nil]); first | done | rfl | (simp only [List.length_drop, List.length_take]; rfl)) ?_; (with_reducible refine (spec_MachSingle.calls k _ _ t636 t639 t640 t643 _ ?side1 ?side2 A5.out).mono ?_); (case side1 => repeat (first | exact (Kd.R_reads' HO638.out).2.2 | (with_reducible refine Kd.C_alloc ?_ _) | (with_reducible refine Kd.C_drewN ?_ _) | (with_reducible refine Kd.C_drew ?_))); (case side2 => exact (Kd.R_reads' HO638.out).2.1); rintro e w14 ⟨rfl, hb⟩; refine ⟨_, rfl, ?_⟩; have n0_ := Aside0.mk (Kd.R_below (by (with_reducible repeat (first | apply Kd.R_alloc | apply Kd.R_drewN | apply Kd.R_drew)); exact HO638.out) hb); have n1_ := Aside0.mk (blk_below (g := gb641) (o := .cells #[.slice Ao10 t636.length co10, .int .i64 t639, .int .i64 t640] 27 (0, 0)) (by (with_reducible repeat (first | refine blk_drewN ?_ _ | refine blk_drew ?_ | refine blk_alloc ?_ _)); exact BK641.out) hb); have n2_ := Aside0.mk (below_step (by repeat (first | (with_reducible first | exact HB.out | apply below_alloc | apply pw_below_drewN | apply below_drew1 | refine below_set ?_ GE641.out) | exact HB.out)) hb); clear HO638; clear BK641; clear HB; have HO638 := n0_; have BK641 := n1_; have HB := n2_; clear n0_ n1_ n2_; (try clear hb); (try clear hb2); (try clear hk); (try clear hi)))
    (try rw [← Nbq6.out])
    (try simp only [Act.put, List.setIfInBounds_toArray, List.set_cons_zero, List.set_cons_succ])
    go_cut [27] (fun v27 wc => ∃ (kq : Nat) (x27_6 : Bool), v27 = .bool x27_6 ∧ Aside0 (laws_FnMachSingle.j0 kq bq6 x27_6 t636 t639 t640 = some r) ∧ Aside0 (kq ≤ k) ∧ Aside0 (Kd.R (Kd.int .i64) 3 wc w.heap.size (fun _ => True) (.slice Ao10 t636.length co10) t636) ∧ Aside0 (wc.heap[gb641]? = some (.cells #[(.slice Ao10 t636.length co10), .int .i64 t639, .int .i64 t640] 27 (0, 0))) ∧ Aside0 (Below w.heap.size w wc))
    case first =>
      have H := HC7.out
      clear HC7
      by_cases c15 : (bq6 = true)
      · subst c15
        have H1 : (laws_FnMachSingle.j0 k true (!t642) t636 t639 t640) = some r := by rw [if_pos rfl] at H; exact H
        clear H
        have H := H1
        clear H1
        have H' := Aside0.mk H
        clear H
        go_wp2
        go_meet
        case rel => exact ⟨_, (!t642), (by first | rfl | (simp; done) | (simp [*]; done) | (simp only [IntKind.wrap_i64, wrap64]; done)), H', ⟨by first | omega | exact Nat.le_refl _⟩, ⟨by (with_reducible repeat (first | apply Kd.R_alloc | apply Kd.R_drewN | apply Kd.R_drew)); exact HO638.out⟩, ⟨by (with_reducible repeat (first | refine blk_drewN ?_ _ | refine blk_drew ?_ | refine blk_alloc ?_ _)); exact BK641.out⟩, ⟨by repeat (first | (with_reducible first | exact HB.out | apply below_alloc | apply pw_below_drewN | apply below_drew1 | refine below_set ?_ GE641.out) | exact HB.out)⟩⟩
      · replace c15 := Bool.eq_false_iff.mpr c15
        subst c15
        have H1 : (laws_FnMachSingle.j0 k false true t636 t639 t640) = some r := by rw [if_neg (show ¬ (false = true) by decide)] at H; exact H
        clear H
        have H := H1
        clear H1
        have H' := Aside0.mk H
        clear H
        go_wp2
        go_meet
        case rel => exact ⟨_, (true), (by first | rfl | (simp; done) | (simp [*]; done) | (simp only [IntKind.wrap_i64, wrap64]; done)), H', ⟨by first | omega | exact Nat.le_refl _⟩, ⟨by (with_reducible repeat (first | apply Kd.R_alloc | apply Kd.R_drewN | apply Kd.R_drew)); exact HO638.out⟩, ⟨by (with_reducible repeat (first | refine blk_drewN ?_ _ | refine blk_drew ?_ | refine blk_alloc ?_ _)); exact BK641.out⟩, ⟨by repeat (first | (with_reducible first | exact HB.out | apply below_alloc | apply pw_below_drewN | apply below_drew1 | refine below_set ?_ GE641.out) | exact HB.out)⟩⟩
    case rest =>
      clear HC7
      try clear c1
      try clear c2
      try clear c2b0
      try clear c2b1
      try clear p2
      try clear c3
      try clear q6
      try clear c13
      try clear c15
      try clear hcz11_0
      try clear hcz11_1
      try clear hcz11_2
      try clear hcz13_0
      try clear hcz13_1
      try clear hcz13_2
      try clear hfz11_0
      try clear hfz11_1
      try clear hfz11_2
      try clear hfz13_0
      try clear hfz13_1
      try clear hfz13_2
      obtain ⟨kq, x27_6, rfl, HA, HJ6, HO_642000, BK641, HB⟩ := hcut
      cases kq with
      | zero => exact absurd HA.out (by simp [laws_FnMachSingle.j0])
      | succ kj6 =>
        have H := HA.out
        clear HA
        simp only [laws_FnMachSingle.j0] at H
        by_cases c16 : x27_6 = true
        · subst c16
          have H1 : (some bq6) = some r := by rw [if_pos rfl] at H; exact H
          clear H
          have H := H1
          clear H1
          obtain rfl := Option.some.inj H
          go_wp2
          go_ret
          exact ⟨by first | rfl | (simp [errW_none, errW_some] <;> rfl) | (simp [*, errW_none, errW_some] <;> rfl), by repeat (first | (with_reducible first | exact HB.out | apply below_alloc | apply pw_below_drewN | apply below_drew1 | refine below_set ?_ GE641.out) | exact HB.out)⟩
        · replace c16 := Bool.eq_false_iff.mpr c16
          subst c16
          have H1 : (laws_FnMachSingle.l0 kj6 0 t636 t639 t640) = some r := by rw [if_neg (show ¬ (false = true) by decide)] at H; exact H
          clear H
          have H := H1
          clear H1
          have H' := Aside0.mk H
          clear H
          go_wp2
          (try rw [← Nbq6.out])
          go_loopg [7] kj6 (fun kq v7 w' => ∃ (x7_2 : Int), v7 = .int .i64 x7_2 ∧ Aside0 (laws_FnMachSingle.l0 kq x7_2 t636 t639 t640 = some r) ∧ Aside0 (kq ≤ kj6) ∧ Aside0 (Kd.R (Kd.int .i64) 3 w' w.heap.size (fun _ => True) (.slice Ao10 t636.length co10) t636) ∧ Aside0 (w'.heap[gb641]? = some (.cells #[(.slice Ao10 t636.length co10), .int .i64 t639, .int .i64 t640] 27 (0, 0))) ∧ Aside0 (Below w.heap.size w w'))
          case atStart => exact ⟨(0), (by first | rfl | (simp; done) | (simp [*]; done) | (simp only [IntKind.wrap_i64, wrap64]; done)), H', ⟨Nat.le_refl _⟩, ⟨by (with_reducible repeat (first | apply Kd.R_alloc | apply Kd.R_drewN | apply Kd.R_drew)); exact HO_642000.out⟩, ⟨by (with_reducible repeat (first | refine blk_drewN ?_ _ | refine blk_drew ?_ | refine blk_alloc ?_ _)); exact BK641.out⟩, ⟨by repeat (first | (with_reducible first | exact HB.out | apply below_alloc | apply pw_below_drewN | apply below_drew1 | refine below_set ?_ GE641.out) | exact HB.out)⟩⟩
          case round =>
            clear H'
            try clear c1
            try clear c2
            try clear c2b0
            try clear c2b1
            try clear p2
            try clear c3
            try clear q6
            try clear c13
            try clear c15
            try clear c16
            try clear hcz11_0
            try clear hcz11_1
            try clear hcz11_2
            try clear hcz13_0
            try clear hcz13_1
            try clear hcz13_2
            try clear hfz11_0
            try clear hfz11_1
            try clear hfz11_2
            try clear hfz13_0
            try clear hfz13_1
            try clear hfz13_2
            try clear p2
            try clear q6
            obtain ⟨x7_2, rfl, HA, HK2, HO_642000, BK641, HB⟩ := hrel
            cases gk with
            | zero => exact absurd HA.out (by simp [laws_FnMachSingle.l0])
            | succ k2 =>
              have H := HA.out
              clear HA
              simp only [laws_FnMachSingle.l0] at H
              by_cases c17 : x7_2 ≤ 40
              · rw [if_pos c17] at H
                have c17b0 : decide (x7_2 ≤ 40) = true := decide_eq_true c17
                clear c17
                replace H := Option.bind_eq_some_iff.mp H
                obtain ⟨⟨t644, t645⟩, A180, H⟩ := H
                replace H : (if t645 = true then (if t644 = 0 then (some false) else (if (Go.bits .and .i64 t644 (wrap64 (t644 - 1))) = 0 then (laws_FnMachSingle.l0 k2 (wrap64 (x7_2 + 1)) t636 t639 t640) else (some false))) else (some false)) = some r := H
                have A18 := Aside0.mk A180
                clear A180
                by_cases c19 : t645 = true
                · subst c19
                  have H1 : (if t644 = 0 then (some false) else (if (Go.bits .and .i64 t644 (wrap64 (t644 - 1))) = 0 then (laws_FnMachSingle.l0 k2 (wrap64 (x7_2 + 1)) t636 t639 t640) else (some false))) = some r := by rw [if_pos rfl] at H; exact H
                  clear H
                  have H := H1
                  clear H1
                  by_cases c20 : t644 = 0
                  · rw [if_pos c20] at H
                    have c20b0 : (t644 == 0) = true := beq_iff_eq.mpr c20
                    have c20b1 : (t644 != 0) = false := bne_eq_false_iff_eq.mpr c20
                    clear c20
                    obtain rfl := Option.some.inj H
                    have hcz21_0 : wr.cell? ⟨gb641, 0, none⟩ = some (.slice Ao10 t636.length co10) := (blk_cell BK641.out 0).trans rfl
                    have hcz21_1 : wr.cell? ⟨gb641, 1, none⟩ = some (.int .i64 t639) := (blk_cell BK641.out 1).trans rfl
                    have hcz21_2 : wr.cell? ⟨gb641, 2, none⟩ = some (.int .i64 t640) := (blk_cell BK641.out 2).trans rfl
                    have hfz21_0 := blk_frozen BK641.out 0
                    have hfz21_1 := blk_frozen BK641.out 1
                    have hfz21_2 := blk_frozen BK641.out 2
                    go_wp2_with (first | ((with_reducible refine gate_callee (f := 21) rfl ?_); refine goesL_ (some 36) rfl rfl Try.func21 (by kernel_rfl) rfl #[.agg #[.slice Ao10 t636.length co10, .int .i64 t639, .int .i64 t640], .int .i64 x7_2] rfl (by (try simp only [List.map_toArray, List.map_cons, List.map_nil]); first | done | rfl | (simp only [List.length_drop, List.length_take]; rfl)) ?_; (with_reducible refine (impl_MachAt.calls k2 _ _ t636 t639 t640 x7_2 t644 true _ ?side1 ?side2 A18.out).mono ?_); (case side1 => repeat (first | exact (Kd.R_reads' HO_642000.out).2.2 | (with_reducible refine Kd.C_alloc ?_ _) | (with_reducible refine Kd.C_drewN ?_ _) | (with_reducible refine Kd.C_drew ?_))); (case side2 => exact (Kd.R_reads' HO_642000.out).2.1); rintro e w22 ⟨rfl, hb⟩; refine ⟨_, rfl, ?_⟩; have n0_ := Aside0.mk (Kd.R_below (by (with_reducible repeat (first | apply Kd.R_alloc | apply Kd.R_drewN | apply Kd.R_drew)); exact HO_642000.out) hb); have n1_ := Aside0.mk (blk_below (g := gb641) (o := .cells #[.slice Ao10 t636.length co10, .int .i64 t639, .int .i64 t640] 27 (0, 0)) (by (with_reducible repeat (first | refine blk_drewN ?_ _ | refine blk_drew ?_ | refine blk_alloc ?_ _)); exact BK641.out) hb); have n2_ := Aside0.mk (below_step (by repeat (first | (with_reducible first | exact HB.out | apply below_alloc | apply pw_below_drewN | apply below_drew1 | refine below_set ?_ GE641.out) | exact HB.out)) hb); clear HO_642000; clear BK641; clear HB; have HO_642000 := n0_; have BK641 := n1_; have HB := n2_; clear n0_ n1_ n2_; (try clear hb); (try clear hb2); (try clear hk); (try clear hi)))
                    go_ret
                    exact ⟨by first | rfl | (simp [errW_none, errW_some] <;> rfl) | (simp [*, errW_none, errW_some] <;> rfl), by repeat (first | (with_reducible first | exact HB.out | apply below_alloc | apply pw_below_drewN | apply below_drew1 | refine below_set ?_ GE641.out) | exact HB.out)⟩
                  · rw [if_neg c20] at H
                    have c20b0 : (t644 == 0) = false := beq_eq_false_iff_ne.mpr c20
                    have c20b1 : (t644 != 0) = true := bne_iff_ne.mpr c20
                    by_cases c23 : (Go.bits .and .i64 t644 (wrap64 (t644 - 1))) = 0
                    · rw [if_pos c23] at H
                      have c23b0 : ((Go.bits .and .i64 t644 (wrap64 (t644 - 1))) == 0) = true := beq_iff_eq.mpr c23
                      have c23b1 : ((Go.bits .and .i64 t644 (wrap64 (t644 - 1))) != 0) = false := bne_eq_false_iff_eq.mpr c23
                      clear c23
                      have H' := Aside0.mk H
                      clear H
                      have hcz24_0 : wr.cell? ⟨gb641, 0, none⟩ = some (.slice Ao10 t636.length co10) := (blk_cell BK641.out 0).trans rfl
                      have hcz24_1 : wr.cell? ⟨gb641, 1, none⟩ = some (.int .i64 t639) := (blk_cell BK641.out 1).trans rfl
                      have hcz24_2 : wr.cell? ⟨gb641, 2, none⟩ = some (.int .i64 t640) := (blk_cell BK641.out 2).trans rfl
                      have hfz24_0 := blk_frozen BK641.out 0
                      have hfz24_1 := blk_frozen BK641.out 1
                      have hfz24_2 := blk_frozen BK641.out 2
                      go_wp2_with (first | ((with_reducible refine gate_callee (f := 21) rfl ?_); refine goesL_ (some 36) rfl rfl Try.func21 (by kernel_rfl) rfl #[.agg #[.slice Ao10 t636.length co10, .int .i64 t639, .int .i64 t640], .int .i64 x7_2] rfl (by (try simp only [List.map_toArray, List.map_cons, List.map_nil]); first | done | rfl | (simp only [List.length_drop, List.length_take]; rfl)) ?_; (with_reducible refine (impl_MachAt.calls k2 _ _ t636 t639 t640 x7_2 t644 true _ ?side1 ?side2 A18.out).mono ?_); (case side1 => repeat (first | exact (Kd.R_reads' HO_642000.out).2.2 | (with_reducible refine Kd.C_alloc ?_ _) | (with_reducible refine Kd.C_drewN ?_ _) | (with_reducible refine Kd.C_drew ?_))); (case side2 => exact (Kd.R_reads' HO_642000.out).2.1); rintro e w25 ⟨rfl, hb⟩; refine ⟨_, rfl, ?_⟩; have n0_ := Aside0.mk (Kd.R_below (by (with_reducible repeat (first | apply Kd.R_alloc | apply Kd.R_drewN | apply Kd.R_drew)); exact HO_642000.out) hb); have n1_ := Aside0.mk (blk_below (g := gb641) (o := .cells #[.slice Ao10 t636.length co10, .int .i64 t639, .int .i64 t640] 27 (0, 0)) (by (with_reducible repeat (first | refine blk_drewN ?_ _ | refine blk_drew ?_ | refine blk_alloc ?_ _)); exact BK641.out) hb); have n2_ := Aside0.mk (below_step (by repeat (first | (with_reducible first | exact HB.out | apply below_alloc | apply pw_below_drewN | apply below_drew1 | refine below_set ?_ GE641.out) | exact HB.out)) hb); clear HO_642000; clear BK641; clear HB; have HO_642000 := n0_; have BK641 := n1_; have HB := n2_; clear n0_ n1_ n2_; (try clear hb); (try clear hb2); (try clear hk); (try clear hi)))
                      go_roundg k2
                      case measure => have := HJ6.out; have := HK2.out; omega
                      case rel => exact ⟨(wrap64 (x7_2 + 1)), (by first | rfl | (simp; done) | (simp [*]; done) | (simp only [IntKind.wrap_i64, wrap64]; done)), H', ⟨by have := HJ6.out; have := HK2.out; omega⟩, ⟨by (with_reducible repeat (first | apply Kd.R_alloc | apply Kd.R_drewN | apply Kd.R_drew)); exact HO_642000.out⟩, ⟨by (with_reducible repeat (first | refine blk_drewN ?_ _ | refine blk_drew ?_ | refine blk_alloc ?_ _)); exact BK641.out⟩, ⟨by repeat (first | (with_reducible first | exact HB.out | apply below_alloc | apply pw_below_drewN | apply below_drew1 | refine below_set ?_ GE641.out) | exact HB.out)⟩⟩
                    · rw [if_neg c23] at H
                      have c23b0 : ((Go.bits .and .i64 t644 (wrap64 (t644 - 1))) == 0) = false := beq_eq_false_iff_ne.mpr c23
                      have c23b1 : ((Go.bits .and .i64 t644 (wrap64 (t644 - 1))) != 0) = true := bne_iff_ne.mpr c23
                      obtain rfl := Option.some.inj H
                      have hcz26_0 : wr.cell? ⟨gb641, 0, none⟩ = some (.slice Ao10 t636.length co10) := (blk_cell BK641.out 0).trans rfl
                      have hcz26_1 : wr.cell? ⟨gb641, 1, none⟩ = some (.int .i64 t639) := (blk_cell BK641.out 1).trans rfl
                      have hcz26_2 : wr.cell? ⟨gb641, 2, none⟩ = some (.int .i64 t640) := (blk_cell BK641.out 2).trans rfl
                      have hfz26_0 := blk_frozen BK641.out 0
                      have hfz26_1 := blk_frozen BK641.out 1
                      have hfz26_2 := blk_frozen BK641.out 2
                      go_wp2_with (first | ((with_reducible refine gate_callee (f := 21) rfl ?_); refine goesL_ (some 36) rfl rfl Try.func21 (by kernel_rfl) rfl #[.agg #[.slice Ao10 t636.length co10, .int .i64 t639, .int .i64 t640], .int .i64 x7_2] rfl (by (try simp only [List.map_toArray, List.map_cons, List.map_nil]); first | done | rfl | (simp only [List.length_drop, List.length_take]; rfl)) ?_; (with_reducible refine (impl_MachAt.calls k2 _ _ t636 t639 t640 x7_2 t644 true _ ?side1 ?side2 A18.out).mono ?_); (case side1 => repeat (first | exact (Kd.R_reads' HO_642000.out).2.2 | (with_reducible refine Kd.C_alloc ?_ _) | (with_reducible refine Kd.C_drewN ?_ _) | (with_reducible refine Kd.C_drew ?_))); (case side2 => exact (Kd.R_reads' HO_642000.out).2.1); rintro e w27 ⟨rfl, hb⟩; refine ⟨_, rfl, ?_⟩; have n0_ := Aside0.mk (Kd.R_below (by (with_reducible repeat (first | apply Kd.R_alloc | apply Kd.R_drewN | apply Kd.R_drew)); exact HO_642000.out) hb); have n1_ := Aside0.mk (blk_below (g := gb641) (o := .cells #[.slice Ao10 t636.length co10, .int .i64 t639, .int .i64 t640] 27 (0, 0)) (by (with_reducible repeat (first | refine blk_drewN ?_ _ | refine blk_drew ?_ | refine blk_alloc ?_ _)); exact BK641.out) hb); have n2_ := Aside0.mk (below_step (by repeat (first | (with_reducible first | exact HB.out | apply below_alloc | apply pw_below_drewN | apply below_drew1 | refine below_set ?_ GE641.out) | exact HB.out)) hb); clear HO_642000; clear BK641; clear HB; have HO_642000 := n0_; have BK641 := n1_; have HB := n2_; clear n0_ n1_ n2_; (try clear hb); (try clear hb2); (try clear hk); (try clear hi)))
                      go_ret
                      exact ⟨by first | rfl | (simp [errW_none, errW_some] <;> rfl) | (simp [*, errW_none, errW_some] <;> rfl), by repeat (first | (with_reducible first | exact HB.out | apply below_alloc | apply pw_below_drewN | apply below_drew1 | refine below_set ?_ GE641.out) | exact HB.out)⟩
                · replace c19 := Bool.eq_false_iff.mpr c19
                  subst c19
                  have H1 : (some false) = some r := by rw [if_neg (show ¬ (false = true) by decide)] at H; exact H
                  clear H
                  have H := H1
                  clear H1
                  obtain rfl := Option.some.inj H
                  have hcz28_0 : wr.cell? ⟨gb641, 0, none⟩ = some (.slice Ao10 t636.length co10) := (blk_cell BK641.out 0).trans rfl
                  have hcz28_1 : wr.cell? ⟨gb641, 1, none⟩ = some (.int .i64 t639) := (blk_cell BK641.out 1).trans rfl
                  have hcz28_2 : wr.cell? ⟨gb641, 2, none⟩ = some (.int .i64 t640) := (blk_cell BK641.out 2).trans rfl
                  have hfz28_0 := blk_frozen BK641.out 0
                  have hfz28_1 := blk_frozen BK641.out 1
                  have hfz28_2 := blk_frozen BK641.out 2
                  go_wp2_with (first | ((with_reducible refine gate_callee (f := 21) rfl ?_); refine goesL_ (some 36) rfl rfl Try.func21 (by kernel_rfl) rfl #[.agg #[.slice Ao10 t636.length co10, .int .i64 t639, .int .i64 t640], .int .i64 x7_2] rfl (by (try simp only [List.map_toArray, List.map_cons, List.map_nil]); first | done | rfl | (simp only [List.length_drop, List.length_take]; rfl)) ?_; (with_reducible refine (impl_MachAt.calls k2 _ _ t636 t639 t640 x7_2 t644 false _ ?side1 ?side2 A18.out).mono ?_); (case side1 => repeat (first | exact (Kd.R_reads' HO_642000.out).2.2 | (with_reducible refine Kd.C_alloc ?_ _) | (with_reducible refine Kd.C_drewN ?_ _) | (with_reducible refine Kd.C_drew ?_))); (case side2 => exact (Kd.R_reads' HO_642000.out).2.1); rintro e w29 ⟨rfl, hb⟩; refine ⟨_, rfl, ?_⟩; have n0_ := Aside0.mk (Kd.R_below (by (with_reducible repeat (first | apply Kd.R_alloc | apply Kd.R_drewN | apply Kd.R_drew)); exact HO_642000.out) hb); have n1_ := Aside0.mk (blk_below (g := gb641) (o := .cells #[.slice Ao10 t636.length co10, .int .i64 t639, .int .i64 t640] 27 (0, 0)) (by (with_reducible repeat (first | refine blk_drewN ?_ _ | refine blk_drew ?_ | refine blk_alloc ?_ _)); exact BK641.out) hb); have n2_ := Aside0.mk (below_step (by repeat (first | (with_reducible first | exact HB.out | apply below_alloc | apply pw_below_drewN | apply below_drew1 | refine below_set ?_ GE641.out) | exact HB.out)) hb); clear HO_642000; clear BK641; clear HB; have HO_642000 := n0_; have BK641 := n1_; have HB := n2_; clear n0_ n1_ n2_; (try clear hb); (try clear hb2); (try clear hk); (try clear hi)))
                  go_ret
                  exact ⟨by first | rfl | (simp [errW_none, errW_some] <;> rfl) | (simp [*, errW_none, errW_some] <;> rfl), by repeat (first | (with_reducible first | exact HB.out | apply below_alloc | apply pw_below_drewN | apply below_drew1 | refine below_set ?_ GE641.out) | exact HB.out)⟩
              · rw [if_neg c17] at H
                have c17b0 : decide (x7_2 ≤ 40) = false := decide_eq_false c17
                clear c17
                obtain rfl := Option.some.inj H
                go_wp2
                go_ret
                exact ⟨by first | rfl | (simp [errW_none, errW_some] <;> rfl) | (simp [*, errW_none, errW_some] <;> rfl), by repeat (first | (with_reducible first | exact HB.out | apply below_alloc | apply pw_below_drewN | apply below_drew1 | refine below_set ?_ GE641.out) | exact HB.out)⟩

/-- THE ONE PURE STATEMENT of laws_FnMachSingle: yours. -/
def laws_FnMachSingle.Pure : Prop := ∀ (l0 : List Int), l0.length ≤ maxLen → l0.length * 1 ≤ 140737488351232 → (∀ x ∈ l0, (Lit.int .u8 x).wf = true) → ∃ k, laws_FnMachSingle.f k l0 = some true
theorem laws_FnMachSingle.walk (P : laws_FnMachSingle.Pure) (a0 : Option Addr) (len0 cap0 : Nat) (z0 : List Int) (w : World) (w0 : (a0 = none ∧ len0 = 0 ∧ cap0 = 0 ∧ z0 = []) ∨ ∃ x, a0 = some x ∧ len0 ≤ cap0 ∧ cap0 ≤ maxLen ∧ z0.length = cap0 ∧ (∀ i, i < z0.length → w.cell? (x.add i) = some (.int .u8 (z0.getD i 0))) ∧ ∀ n ∈ z0, (Lit.int .u8 n).wf = true) (y0 : len0 * 1 ≤ 140737488351232) :
    Calls Try.prog 13 #[.slice a0 len0 cap0] w fun e w' => e = .returned (.bool true) ∧ Below w.heap.size w w' := by
  obtain ⟨l0, rfl, hr0, hm0, hw0, hc0⟩ := ReadsInt.ofRowC w0
  obtain ⟨k, h⟩ := P l0 hm0 y0 hw0
  refine (laws_FnMachSingle.calls k _ _ l0 true w (Kd.C_of_reads (d := (0 : Int)) (h1 := fun _ => rfl) hr0) hc0 h).mono ?_
  rintro e w' ⟨rfl, hd⟩
  exact ⟨rfl, hd⟩

end Go.Proofs.Ytdbkpmhdjdebhaa.G
