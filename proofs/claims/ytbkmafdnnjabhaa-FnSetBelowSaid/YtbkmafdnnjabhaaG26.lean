-- Made by gprint.py (the kit's print with contracts of this session's own among its functions).
import Derived.Test.YtbkmafdnnjabhaaG0
import Derived.Test.YtbkmafdnnjabhaaG9
import Derived.Test.YtbkmafdnnjabhaaG12
import Derived.Test.YtbkmafdnnjabhaaG21
import Derived.Test.YtbkmafdnnjabhaaG23
import Derived.Test.YtbkmafdnnjabhaaG25
namespace Go.Proofs.Ytbkmafdnnjabhaa.G
open Go.RowKit Go.Proofs.YtbkmafdnnjabhaaW.PrintWords Go.Proofs.YtbkmafdnnjabhaaW.PrintLast Go.Proofs.YtbkmafdnnjabhaaW.PrintMore
attribute [local go_sem] max2_int min2_int max_two min_two max_three min_three max_four min_four   -- for this text's walks alone
set_option linter.unusedVariables false
set_option linter.unusedSimpArgs false

/-! ### laws_FnSetBelow: function 8 -/
mutual
def laws_FnSetBelow.j0 : Nat → ByteArray → ByteArray → Bool → Bool → Bool → Option (Bool)
 | 0, _, _, _, _, _ => none
 | k + 1, x3, x4, x5, x7, x37 => if x37 = true then (some x7) else (laws_FnSetBelow.l0 k x3 x4 x5 true 0)
def laws_FnSetBelow.l0 : Nat → ByteArray → ByteArray → Bool → Bool → Int → Option (Bool)
 | 0, _, _, _, _, _ => none
 | k + 1, x3, x4, x5, x8, x9 => if x9 ≤ 150 then (if x8 = true then ((impl_SetHas.f x3 x9).bind fun t448 => (if t448 = true then ((impl_SetHas.f x4 x9).bind fun t449 => (laws_FnSetBelow.l0 k x3 x4 x5 t449 (wrap64 (x9 + 1)))) else (laws_FnSetBelow.l0 k x3 x4 x5 true (wrap64 (x9 + 1))))) else (laws_FnSetBelow.l0 k x3 x4 x5 false (wrap64 (x9 + 1)))) else (some (x8 == x5))
end
def laws_FnSetBelow.f (k : Nat) (l0 : List Int) : Option (Bool) := if (l0.length : Int) > 1048576 then (some true) else ((spec_DrawSetBelow.f k l0).bind fun bt442 => ((impl_SetBelow.f k bt442.1 bt442.2).bind fun t444 => ((spec_SetBelow.f k bt442.1 bt442.2).bind fun t445 => (if ((t444 == t445) = true) then ((impl_SetIn.f bt442.1).bind fun t446 => (if t446 = true then ((impl_SetIn.f bt442.2).bind fun t447 => (laws_FnSetBelow.j0 k bt442.1 bt442.2 t444 (t444 == t445) (!t447))) else (laws_FnSetBelow.j0 k bt442.1 bt442.2 t444 (t444 == t445) (!false)))) else (laws_FnSetBelow.j0 k bt442.1 bt442.2 t444 (t444 == t445) true)))))
theorem laws_FnSetBelow.mono_l : ∀ k, (∀ y0 y1 y2 y3 y4, LeO (laws_FnSetBelow.j0 k y0 y1 y2 y3 y4) (laws_FnSetBelow.j0 (k + 1) y0 y1 y2 y3 y4)) ∧ (∀ y0 y1 y2 y3 y4, LeO (laws_FnSetBelow.l0 k y0 y1 y2 y3 y4) (laws_FnSetBelow.l0 (k + 1) y0 y1 y2 y3 y4))
 | 0 => ⟨fun _ _ _ _ _ r h => by simp [laws_FnSetBelow.j0] at h, fun _ _ _ _ _ r h => by simp [laws_FnSetBelow.l0] at h⟩
 | k + 1 => by
  obtain ⟨ih0, ih1⟩ := laws_FnSetBelow.mono_l k
  refine ⟨?_, ?_⟩
  ·intro y0 y1 y2 y3 y4
   unfold laws_FnSetBelow.j0
   repeat' first
   | (with_reducible exact ih0 _ _ _ _ _)
   | (with_reducible exact ih1 _ _ _ _ _)
   | (with_reducible exact impl_SetBelow.mono _ _ _)
   | (with_reducible exact spec_DrawSetBelow.mono _ _)
   | (with_reducible exact spec_SetBelow.mono _ _ _)
   | (with_reducible exact LeO.refl _)
   | (with_reducible exact LeO.none _)
   | (with_reducible refine LeO.ite ?_ ?_)
   | (with_reducible refine LeO.bind ?_ (fun _ => ?_))
   | exact ih0 _ _ _ _ _
   | exact ih1 _ _ _ _ _
   | exact impl_SetBelow.mono _ _ _
   | exact spec_DrawSetBelow.mono _ _
   | exact spec_SetBelow.mono _ _ _
   | exact LeO.none _
   | refine LeO.ite ?_ ?_
   | refine LeO.bind ?_ (fun _ => ?_)
  ·intro y0 y1 y2 y3 y4
   unfold laws_FnSetBelow.l0
   repeat' first
   | (with_reducible exact ih0 _ _ _ _ _)
   | (with_reducible exact ih1 _ _ _ _ _)
   | (with_reducible exact impl_SetBelow.mono _ _ _)
   | (with_reducible exact spec_DrawSetBelow.mono _ _)
   | (with_reducible exact spec_SetBelow.mono _ _ _)
   | (with_reducible exact LeO.refl _)
   | (with_reducible exact LeO.none _)
   | (with_reducible refine LeO.ite ?_ ?_)
   | (with_reducible refine LeO.bind ?_ (fun _ => ?_))
   | exact ih0 _ _ _ _ _
   | exact ih1 _ _ _ _ _
   | exact impl_SetBelow.mono _ _ _
   | exact spec_DrawSetBelow.mono _ _
   | exact spec_SetBelow.mono _ _ _
   | exact LeO.none _
   | refine LeO.ite ?_ ?_
   | refine LeO.bind ?_ (fun _ => ?_)
theorem laws_FnSetBelow.mono : ∀ a0 k, LeO (laws_FnSetBelow.f k a0) (laws_FnSetBelow.f (k + 1) a0) := by
 intro a0 k
 obtain ⟨ih0, ih1⟩ := laws_FnSetBelow.mono_l k
 unfold laws_FnSetBelow.f
 repeat' first
   | (with_reducible exact ih0 _ _ _ _ _)
   | (with_reducible exact ih1 _ _ _ _ _)
   | (with_reducible exact impl_SetBelow.mono _ _ _)
   | (with_reducible exact spec_DrawSetBelow.mono _ _)
   | (with_reducible exact spec_SetBelow.mono _ _ _)
   | (with_reducible exact LeO.refl _)
   | (with_reducible exact LeO.none _)
   | (with_reducible refine LeO.ite ?_ ?_)
   | (with_reducible refine LeO.bind ?_ (fun _ => ?_))
   | exact ih0 _ _ _ _ _
   | exact ih1 _ _ _ _ _
   | exact impl_SetBelow.mono _ _ _
   | exact spec_DrawSetBelow.mono _ _
   | exact spec_SetBelow.mono _ _ _
   | exact LeO.none _
   | refine LeO.ite ?_ ?_
   | refine LeO.bind ?_ (fun _ => ?_)
set_option maxHeartbeats 8000000 in
set_option maxRecDepth 100000 in
theorem laws_FnSetBelow.calls (k : Nat) (A0 : Option Addr) (c0 : Nat) (l0 : List Int) (r : Bool) (w : World) (hr0 : Kd.C (Kd.int .u8) w A0 l0.length l0) (hc0 : l0.length ≤ c0) (h : laws_FnSetBelow.f k l0 = some r) :
  Calls Try.prog 8 #[.slice A0 l0.length c0] w fun e w' => e = .returned (.bool r) ∧ Below w.heap.size w w' := by
 have HR0 := Aside0.mk hr0
 have HC0 := Aside0.mk hc0
 clear hr0 hc0
 have HB := Aside0.mk (Below.refl w.heap.size w)
 have H : (if (l0.length : Int) > 1048576 then (some true) else ((spec_DrawSetBelow.f k l0).bind fun bt442 => ((impl_SetBelow.f k bt442.1 bt442.2).bind fun t444 => ((spec_SetBelow.f k bt442.1 bt442.2).bind fun t445 => (if ((t444 == t445) = true) then ((impl_SetIn.f bt442.1).bind fun t446 => (if t446 = true then ((impl_SetIn.f bt442.2).bind fun t447 => (laws_FnSetBelow.j0 k bt442.1 bt442.2 t444 (t444 == t445) (!t447))) else (laws_FnSetBelow.j0 k bt442.1 bt442.2 t444 (t444 == t445) (!false)))) else (laws_FnSetBelow.j0 k bt442.1 bt442.2 t444 (t444 == t445) true)))))) = some r := h
 clear h
 by_cases c2 : (l0.length : Int) > 1048576
 ·rw [if_pos c2] at H
  have c2b0 : decide (1048576 < (l0.length : Int)) = true := decide_eq_true c2
  have c2b1 : decide (1048576 < l0.length) = true := decide_eq_true (by omega)
  clear c2
  obtain rfl := Option.some.inj H
  go_enter Try.func8, Try.ntmps8
  go_wp2
  go_ret
  exact ⟨by first | rfl | (simp [errW_none, errW_some] <;> rfl) | (simp [*, errW_none, errW_some] <;> rfl), by repeat (first | (with_reducible first | exact HB.out | apply below_alloc | apply pw_below_drewN | apply below_drew1) | exact HB.out)⟩
 ·rw [if_neg c2] at H
  have c2b0 : decide (1048576 < (l0.length : Int)) = false := decide_eq_false c2
  have c2b1 : decide (1048576 < l0.length) = false := decide_eq_false (by omega)
  clear c2
  replace H := Option.bind_eq_some_iff.mp H
  obtain ⟨⟨t442, t443⟩, A30, H⟩ := H
  replace H : ((impl_SetBelow.f k t442 t443).bind fun t444 => ((spec_SetBelow.f k t442 t443).bind fun t445 => (if ((t444 == t445) = true) then ((impl_SetIn.f t442).bind fun t446 => (if t446 = true then ((impl_SetIn.f t443).bind fun t447 => (laws_FnSetBelow.j0 k t442 t443 t444 (t444 == t445) (!t447))) else (laws_FnSetBelow.j0 k t442 t443 t444 (t444 == t445) (!false)))) else (laws_FnSetBelow.j0 k t442 t443 t444 (t444 == t445) true)))) = some r := H
  have A3 := Aside0.mk A30
  clear A30
  replace H := Option.bind_eq_some_iff.mp H
  obtain ⟨t444, A40, H⟩ := H
  replace H : ((spec_SetBelow.f k t442 t443).bind fun t445 => (if ((t444 == t445) = true) then ((impl_SetIn.f t442).bind fun t446 => (if t446 = true then ((impl_SetIn.f t443).bind fun t447 => (laws_FnSetBelow.j0 k t442 t443 t444 (t444 == t445) (!t447))) else (laws_FnSetBelow.j0 k t442 t443 t444 (t444 == t445) (!false)))) else (laws_FnSetBelow.j0 k t442 t443 t444 (t444 == t445) true))) = some r := H
  have A4 := Aside0.mk A40
  clear A40
  replace H := Option.bind_eq_some_iff.mp H
  obtain ⟨t445, A50, H⟩ := H
  replace H : (if ((t444 == t445) = true) then ((impl_SetIn.f t442).bind fun t446 => (if t446 = true then ((impl_SetIn.f t443).bind fun t447 => (laws_FnSetBelow.j0 k t442 t443 t444 (t444 == t445) (!t447))) else (laws_FnSetBelow.j0 k t442 t443 t444 (t444 == t445) (!false)))) else (laws_FnSetBelow.j0 k t442 t443 t444 (t444 == t445) true)) = some r := H
  have A5 := Aside0.mk A50
  clear A50
  obtain ⟨bq6, hbq6⟩ : ∃ b_ : Bool, b_ = (t444 == t445) := ⟨_, rfl⟩
  replace H : (if (bq6 = true) then ((impl_SetIn.f t442).bind fun t446 => (if t446 = true then ((impl_SetIn.f t443).bind fun t447 => (laws_FnSetBelow.j0 k t442 t443 t444 bq6 (!t447))) else (laws_FnSetBelow.j0 k t442 t443 t444 bq6 (!false)))) else (laws_FnSetBelow.j0 k t442 t443 t444 bq6 true)) = some r := by rw [← hbq6] at H; exact H
  have Nbq6 := Aside0.mk hbq6
  clear hbq6
  have HC7 := Aside0.mk H
  clear H
  go_enter Try.func8, Try.ntmps8
  go_upto_region 7 with (first | ((with_reducible refine gate_callee (f := 24) rfl ?_); refine goesL_ (some 15) rfl rfl Try.func24 (by kernel_rfl) rfl #[.slice A0 l0.length c0] rfl (by (try simp only [List.map_toArray, List.map_cons, List.map_nil]); first | done | rfl | (simp only [List.length_drop, List.length_take]; rfl)) ?_; (with_reducible refine (spec_DrawSetBelow.calls k _ _ l0 t442 t443 _ ?side1 ?side2 A3.out).mono ?_); (case side1 => repeat (first | exact HR0.out | (with_reducible refine Kd.C_alloc ?_ _) | (with_reducible refine Kd.C_drewN ?_ _) | (with_reducible refine Kd.C_drew ?_))); (case side2 => exact HC0.out); rintro e w8 ⟨rfl, hb⟩; refine ⟨_, rfl, ?_⟩; have n0_ := Aside0.mk (below_step (by repeat (first | (with_reducible first | exact HB.out | apply below_alloc | apply pw_below_drewN | apply below_drew1) | exact HB.out)) hb); clear HB; have HB := n0_; clear n0_; (try clear hb); (try clear hb2); (try clear hk); (try clear hi)) | ((with_reducible refine gate_callee (f := 25) rfl ?_); refine goesL_ (some 20) rfl rfl Try.func25 (by kernel_rfl) rfl #[.string t442, .string t443] rfl (by (try simp only [List.map_toArray, List.map_cons, List.map_nil]); first | done | rfl | (simp only [List.length_drop, List.length_take]; rfl)) ?_; (with_reducible refine (impl_SetBelow.calls k t442 t443 t444 _ A4.out).mono ?_); rintro e w9 ⟨rfl, hb⟩; refine ⟨_, rfl, ?_⟩; have n0_ := Aside0.mk (below_step (by repeat (first | (with_reducible first | exact HB.out | apply below_alloc | apply pw_below_drewN | apply below_drew1) | exact HB.out)) hb); clear HB; have HB := n0_; clear n0_; (try clear hb); (try clear hb2); (try clear hk); (try clear hi)) | ((with_reducible refine gate_callee (f := 26) rfl ?_); refine goesL_ (some 23) rfl rfl Try.func26 (by kernel_rfl) rfl #[.string t442, .string t443] rfl (by (try simp only [List.map_toArray, List.map_cons, List.map_nil]); first | done | rfl | (simp only [List.length_drop, List.length_take]; rfl)) ?_; (with_reducible refine (spec_SetBelow.calls k t442 t443 t445 _ A5.out).mono ?_); rintro e w10 ⟨rfl, hb⟩; refine ⟨_, rfl, ?_⟩; have n0_ := Aside0.mk (below_step (by repeat (first | (with_reducible first | exact HB.out | apply below_alloc | apply pw_below_drewN | apply below_drew1) | exact HB.out)) hb); clear HB; have HB := n0_; clear n0_; (try clear hb); (try clear hb2); (try clear hk); (try clear hi)))
  (try rw [← Nbq6.out])
  (try simp only [Act.put, List.setIfInBounds_toArray, List.set_cons_zero, List.set_cons_succ])
  go_cut [37] (fun v37 wc => ∃ (kq : Nat) (x37_6 : Bool), v37 = .bool x37_6 ∧ Aside0 (laws_FnSetBelow.j0 kq t442 t443 t444 bq6 x37_6 = some r) ∧ Aside0 (kq ≤ k) ∧ Aside0 (Below w.heap.size w wc))
  case first =>
   have H := HC7.out
   clear HC7
   by_cases c11 : (bq6 = true)
   ·subst c11
    have H1 : ((impl_SetIn.f t442).bind fun t446 => (if t446 = true then ((impl_SetIn.f t443).bind fun t447 => (laws_FnSetBelow.j0 k t442 t443 t444 true (!t447))) else (laws_FnSetBelow.j0 k t442 t443 t444 true (!false)))) = some r := by rw [if_pos rfl] at H; exact H
    clear H
    have H := H1
    clear H1
    replace H := Option.bind_eq_some_iff.mp H
    obtain ⟨t446, A120, H⟩ := H
    replace H : (if t446 = true then ((impl_SetIn.f t443).bind fun t447 => (laws_FnSetBelow.j0 k t442 t443 t444 true (!t447))) else (laws_FnSetBelow.j0 k t442 t443 t444 true (!false))) = some r := H
    have A12 := Aside0.mk A120
    clear A120
    by_cases c13 : t446 = true
    ·subst c13
     have H1 : ((impl_SetIn.f t443).bind fun t447 => (laws_FnSetBelow.j0 k t442 t443 t444 true (!t447))) = some r := by rw [if_pos rfl] at H; exact H
     clear H
     have H := H1
     clear H1
     replace H := Option.bind_eq_some_iff.mp H
     obtain ⟨t447, A140, H⟩ := H
     replace H : (laws_FnSetBelow.j0 k t442 t443 t444 true (!t447)) = some r := H
     have A14 := Aside0.mk A140
     clear A140
     have H' := Aside0.mk H
     clear H
     go_wp2_with (first | (go_at_call 16; (with_reducible refine (impl_SetIn.calls t442 true _ A12.out).mono ?_); rintro e w15 ⟨rfl, hb⟩; have n0_ := Aside0.mk (below_step (by repeat (first | (with_reducible first | exact HB.out | apply below_alloc | apply pw_below_drewN | apply below_drew1) | exact HB.out)) hb); clear HB; have HB := n0_; clear n0_; (try clear hb); (try clear hb2); (try clear hk); (try clear hi)) | (go_at_call 16; (with_reducible refine (impl_SetIn.calls t443 t447 _ A14.out).mono ?_); rintro e w16 ⟨rfl, hb⟩; have n0_ := Aside0.mk (below_step (by repeat (first | (with_reducible first | exact HB.out | apply below_alloc | apply pw_below_drewN | apply below_drew1) | exact HB.out)) hb); clear HB; have HB := n0_; clear n0_; (try clear hb); (try clear hb2); (try clear hk); (try clear hi)))
     go_meet
     case rel => exact ⟨_, (!t447), (by first | rfl | (simp; done) | (simp [*]; done) | (simp only [IntKind.wrap_i64, wrap64]; done)), H', ⟨by first | omega | exact Nat.le_refl _⟩, ⟨by repeat (first | (with_reducible first | exact HB.out | apply below_alloc | apply pw_below_drewN | apply below_drew1) | exact HB.out)⟩⟩
    ·replace c13 := Bool.eq_false_iff.mpr c13
     subst c13
     have H1 : (laws_FnSetBelow.j0 k t442 t443 t444 true (!false)) = some r := by rw [if_neg (show ¬ (false = true) by decide)] at H; exact H
     clear H
     have H := H1
     clear H1
     have H' := Aside0.mk H
     clear H
     go_wp2_with (first | (go_at_call 16; (with_reducible refine (impl_SetIn.calls t442 false _ A12.out).mono ?_); rintro e w17 ⟨rfl, hb⟩; have n0_ := Aside0.mk (below_step (by repeat (first | (with_reducible first | exact HB.out | apply below_alloc | apply pw_below_drewN | apply below_drew1) | exact HB.out)) hb); clear HB; have HB := n0_; clear n0_; (try clear hb); (try clear hb2); (try clear hk); (try clear hi)))
     go_meet
     case rel => exact ⟨_, (!false), (by first | rfl | (simp; done) | (simp [*]; done) | (simp only [IntKind.wrap_i64, wrap64]; done)), H', ⟨by first | omega | exact Nat.le_refl _⟩, ⟨by repeat (first | (with_reducible first | exact HB.out | apply below_alloc | apply pw_below_drewN | apply below_drew1) | exact HB.out)⟩⟩
   ·replace c11 := Bool.eq_false_iff.mpr c11
    subst c11
    have H1 : (laws_FnSetBelow.j0 k t442 t443 t444 false true) = some r := by rw [if_neg (show ¬ (false = true) by decide)] at H; exact H
    clear H
    have H := H1
    clear H1
    have H' := Aside0.mk H
    clear H
    go_wp2
    go_meet
    case rel => exact ⟨_, (true), (by first | rfl | (simp; done) | (simp [*]; done) | (simp only [IntKind.wrap_i64, wrap64]; done)), H', ⟨by first | omega | exact Nat.le_refl _⟩, ⟨by repeat (first | (with_reducible first | exact HB.out | apply below_alloc | apply pw_below_drewN | apply below_drew1) | exact HB.out)⟩⟩
  case rest =>
   clear HC7
   try clear c1
   try clear c2
   try clear c2b0
   try clear c2b1
   try clear p2
   try clear q6
   try clear c8
   try clear c11
   try clear c13
   obtain ⟨kq, x37_6, rfl, HA, HJ6, HB⟩ := hcut
   cases kq with
   | zero => exact absurd HA.out (by simp [laws_FnSetBelow.j0])
   | succ kj6 =>
    have H := HA.out
    clear HA
    simp only [laws_FnSetBelow.j0] at H
    by_cases c18 : x37_6 = true
    ·subst c18
     have H1 : (some bq6) = some r := by rw [if_pos rfl] at H; exact H
     clear H
     have H := H1
     clear H1
     obtain rfl := Option.some.inj H
     go_wp2
     go_ret
     exact ⟨by first | rfl | (simp [errW_none, errW_some] <;> rfl) | (simp [*, errW_none, errW_some] <;> rfl), by repeat (first | (with_reducible first | exact HB.out | apply below_alloc | apply pw_below_drewN | apply below_drew1) | exact HB.out)⟩
    ·replace c18 := Bool.eq_false_iff.mpr c18
     subst c18
     have H1 : (laws_FnSetBelow.l0 kj6 t442 t443 t444 true 0) = some r := by rw [if_neg (show ¬ (false = true) by decide)] at H; exact H
     clear H
     have H := H1
     clear H1
     have H' := Aside0.mk H
     clear H
     go_wp2
     (try rw [← Nbq6.out])
     go_loopg [8, 9] kj6 (fun kq v8 v9 w' => ∃ (x8_2 : Bool) (x9_2 : Int), v8 = .bool x8_2 ∧ v9 = .int .i64 x9_2 ∧ Aside0 (laws_FnSetBelow.l0 kq t442 t443 t444 x8_2 x9_2 = some r) ∧ Aside0 (kq ≤ kj6) ∧ Aside0 (Below w.heap.size w w'))
     case atStart => exact ⟨(true), (0), (by first | rfl | (simp; done) | (simp [*]; done) | (simp only [IntKind.wrap_i64, wrap64]; done)), (by first | rfl | (simp; done) | (simp [*]; done) | (simp only [IntKind.wrap_i64, wrap64]; done)), H', ⟨Nat.le_refl _⟩, ⟨by repeat (first | (with_reducible first | exact HB.out | apply below_alloc | apply pw_below_drewN | apply below_drew1) | exact HB.out)⟩⟩
     case round =>
      clear H'
      try clear c1
      try clear c2
      try clear c2b0
      try clear c2b1
      try clear p2
      try clear q6
      try clear c8
      try clear c11
      try clear c13
      try clear c18
      try clear p2
      try clear q6
      obtain ⟨x8_2, x9_2, rfl, rfl, HA, HK2, HB⟩ := hrel
      cases gk with
      | zero => exact absurd HA.out (by simp [laws_FnSetBelow.l0])
      | succ k2 =>
       have H := HA.out
       clear HA
       simp only [laws_FnSetBelow.l0] at H
       by_cases c19 : x9_2 ≤ 150
       ·rw [if_pos c19] at H
        have c19b0 : decide (x9_2 ≤ 150) = true := decide_eq_true c19
        clear c19
        by_cases c20 : x8_2 = true
        ·subst c20
         have H1 : ((impl_SetHas.f t442 x9_2).bind fun t448 => (if t448 = true then ((impl_SetHas.f t443 x9_2).bind fun t449 => (laws_FnSetBelow.l0 k2 t442 t443 t444 t449 (wrap64 (x9_2 + 1)))) else (laws_FnSetBelow.l0 k2 t442 t443 t444 true (wrap64 (x9_2 + 1))))) = some r := by rw [if_pos rfl] at H; exact H
         clear H
         have H := H1
         clear H1
         replace H := Option.bind_eq_some_iff.mp H
         obtain ⟨t448, A210, H⟩ := H
         replace H : (if t448 = true then ((impl_SetHas.f t443 x9_2).bind fun t449 => (laws_FnSetBelow.l0 k2 t442 t443 t444 t449 (wrap64 (x9_2 + 1)))) else (laws_FnSetBelow.l0 k2 t442 t443 t444 true (wrap64 (x9_2 + 1)))) = some r := H
         have A21 := Aside0.mk A210
         clear A210
         by_cases c22 : t448 = true
         ·subst c22
          have H1 : ((impl_SetHas.f t443 x9_2).bind fun t449 => (laws_FnSetBelow.l0 k2 t442 t443 t444 t449 (wrap64 (x9_2 + 1)))) = some r := by rw [if_pos rfl] at H; exact H
          clear H
          have H := H1
          clear H1
          replace H := Option.bind_eq_some_iff.mp H
          obtain ⟨t449, A230, H⟩ := H
          replace H : (laws_FnSetBelow.l0 k2 t442 t443 t444 t449 (wrap64 (x9_2 + 1))) = some r := H
          have A23 := Aside0.mk A230
          clear A230
          have H' := Aside0.mk H
          clear H
          go_wp2_with (first | (go_at_call 12; (with_reducible refine (impl_SetHas.calls t442 x9_2 true _ A21.out).mono ?_); rintro e w24 ⟨rfl, hb⟩; have n0_ := Aside0.mk (below_step (by repeat (first | (with_reducible first | exact HB.out | apply below_alloc | apply pw_below_drewN | apply below_drew1) | exact HB.out)) hb); clear HB; have HB := n0_; clear n0_; (try clear hb); (try clear hb2); (try clear hk); (try clear hi)) | (go_at_call 12; (with_reducible refine (impl_SetHas.calls t443 x9_2 t449 _ A23.out).mono ?_); rintro e w25 ⟨rfl, hb⟩; have n0_ := Aside0.mk (below_step (by repeat (first | (with_reducible first | exact HB.out | apply below_alloc | apply pw_below_drewN | apply below_drew1) | exact HB.out)) hb); clear HB; have HB := n0_; clear n0_; (try clear hb); (try clear hb2); (try clear hk); (try clear hi)))
          go_roundg k2
          case measure => have := HJ6.out; have := HK2.out; omega
          case rel => exact ⟨(t449), (wrap64 (x9_2 + 1)), (by first | rfl | (simp; done) | (simp [*]; done) | (simp only [IntKind.wrap_i64, wrap64]; done)), (by first | rfl | (simp; done) | (simp [*]; done) | (simp only [IntKind.wrap_i64, wrap64]; done)), H', ⟨by have := HJ6.out; have := HK2.out; omega⟩, ⟨by repeat (first | (with_reducible first | exact HB.out | apply below_alloc | apply pw_below_drewN | apply below_drew1) | exact HB.out)⟩⟩
         ·replace c22 := Bool.eq_false_iff.mpr c22
          subst c22
          have H1 : (laws_FnSetBelow.l0 k2 t442 t443 t444 true (wrap64 (x9_2 + 1))) = some r := by rw [if_neg (show ¬ (false = true) by decide)] at H; exact H
          clear H
          have H := H1
          clear H1
          have H' := Aside0.mk H
          clear H
          go_wp2_with (first | (go_at_call 12; (with_reducible refine (impl_SetHas.calls t442 x9_2 false _ A21.out).mono ?_); rintro e w26 ⟨rfl, hb⟩; have n0_ := Aside0.mk (below_step (by repeat (first | (with_reducible first | exact HB.out | apply below_alloc | apply pw_below_drewN | apply below_drew1) | exact HB.out)) hb); clear HB; have HB := n0_; clear n0_; (try clear hb); (try clear hb2); (try clear hk); (try clear hi)))
          go_roundg k2
          case measure => have := HJ6.out; have := HK2.out; omega
          case rel => exact ⟨(true), (wrap64 (x9_2 + 1)), (by first | rfl | (simp; done) | (simp [*]; done) | (simp only [IntKind.wrap_i64, wrap64]; done)), (by first | rfl | (simp; done) | (simp [*]; done) | (simp only [IntKind.wrap_i64, wrap64]; done)), H', ⟨by have := HJ6.out; have := HK2.out; omega⟩, ⟨by repeat (first | (with_reducible first | exact HB.out | apply below_alloc | apply pw_below_drewN | apply below_drew1) | exact HB.out)⟩⟩
        ·replace c20 := Bool.eq_false_iff.mpr c20
         subst c20
         have H1 : (laws_FnSetBelow.l0 k2 t442 t443 t444 false (wrap64 (x9_2 + 1))) = some r := by rw [if_neg (show ¬ (false = true) by decide)] at H; exact H
         clear H
         have H := H1
         clear H1
         have H' := Aside0.mk H
         clear H
         go_wp2
         go_roundg k2
         case measure => have := HJ6.out; have := HK2.out; omega
         case rel => exact ⟨(false), (wrap64 (x9_2 + 1)), (by first | rfl | (simp; done) | (simp [*]; done) | (simp only [IntKind.wrap_i64, wrap64]; done)), (by first | rfl | (simp; done) | (simp [*]; done) | (simp only [IntKind.wrap_i64, wrap64]; done)), H', ⟨by have := HJ6.out; have := HK2.out; omega⟩, ⟨by repeat (first | (with_reducible first | exact HB.out | apply below_alloc | apply pw_below_drewN | apply below_drew1) | exact HB.out)⟩⟩
       ·rw [if_neg c19] at H
        have c19b0 : decide (x9_2 ≤ 150) = false := decide_eq_false c19
        clear c19
        obtain rfl := Option.some.inj H
        go_wp2
        go_ret
        exact ⟨by first | rfl | (simp [errW_none, errW_some] <;> rfl) | (simp [*, errW_none, errW_some] <;> rfl), by repeat (first | (with_reducible first | exact HB.out | apply below_alloc | apply pw_below_drewN | apply below_drew1) | exact HB.out)⟩

/-- THE ONE PURE STATEMENT of laws_FnSetBelow: yours. -/
def laws_FnSetBelow.Pure : Prop := ∀ (l0 : List Int), l0.length ≤ maxLen → l0.length * 1 ≤ 140737488351232 → (∀ x ∈ l0, (Lit.int .u8 x).wf = true) → ∃ k, laws_FnSetBelow.f k l0 = some true
theorem laws_FnSetBelow.walk (P : laws_FnSetBelow.Pure) (a0 : Option Addr) (len0 cap0 : Nat) (z0 : List Int) (w : World) (w0 : (a0 = none ∧ len0 = 0 ∧ cap0 = 0 ∧ z0 = []) ∨ ∃ x, a0 = some x ∧ len0 ≤ cap0 ∧ cap0 ≤ maxLen ∧ z0.length = cap0 ∧ (∀ i, i < z0.length → w.cell? (x.add i) = some (.int .u8 (z0.getD i 0))) ∧ ∀ n ∈ z0, (Lit.int .u8 n).wf = true) (y0 : len0 * 1 ≤ 140737488351232) :
  Calls Try.prog 8 #[.slice a0 len0 cap0] w fun e w' => e = .returned (.bool true) ∧ Below w.heap.size w w' := by
 obtain ⟨l0, rfl, hr0, hm0, hw0, hc0⟩ := ReadsInt.ofRowC w0
 obtain ⟨k, h⟩ := P l0 hm0 y0 hw0
 refine (laws_FnSetBelow.calls k _ _ l0 true w (Kd.C_of_reads (d := (0 : Int)) (h1 := fun _ => rfl) hr0) hc0 h).mono ?_
 rintro e w' ⟨rfl, hd⟩
 exact ⟨rfl, hd⟩

end Go.Proofs.Ytbkmafdnnjabhaa.G
