-- Made by gprint.py (the kit's print with contracts of this session's own among its functions).
import Derived.Test.YtdiaifmlockohaaG0
import Derived.Test.YtdiaifmlockohaaG1
import Derived.Test.YtdiaifmlockohaaG3
import Derived.Test.YtdiaifmlockohaaG4
import Derived.Test.YtdiaifmlockohaaG11
namespace Go.Proofs.Ytdiaifmlockohaa.G
open Go.RowKit Go.Proofs.YtdiaifmlockohaaW.PrintWords Go.Proofs.YtdiaifmlockohaaW.PrintLast Go.Proofs.YtdiaifmlockohaaW.PrintMore
attribute [local go_sem] max2_int min2_int max_two min_two max_three min_three max_four min_four   -- for this text's walks alone
set_option linter.unusedVariables false
set_option linter.unusedSimpArgs false

/-! ### spec_l3Short: function 30 -/
def spec_l3Short.f (k : Nat) (l0 : List (List Int)) : Option (Bool) := (spec_l3Rows.f k l0).bind fun t298 => (if t298 = true then ((spec_l3Multiple.f k l0).bind fun t299 => ((spec_l6In.f t299 1 60000).bind fun t300 => (some t300))) else (some false))
theorem spec_l3Short.mono : ∀ a0 k, LeO (spec_l3Short.f k a0) (spec_l3Short.f (k + 1) a0) := by
 intro a0 k
 unfold spec_l3Short.f
 repeat' first
   | (with_reducible exact spec_l3Multiple.mono _ _)
   | (with_reducible exact spec_l3Rows.mono _ _)
   | (with_reducible exact LeO.refl _)
   | (with_reducible exact LeO.none _)
   | (with_reducible refine LeO.ite ?_ ?_)
   | (with_reducible refine LeO.bind ?_ (fun _ => ?_))
   | exact spec_l3Multiple.mono _ _
   | exact spec_l3Rows.mono _ _
   | exact LeO.none _
   | refine LeO.ite ?_ ?_
   | refine LeO.bind ?_ (fun _ => ?_)
set_option maxHeartbeats 8000000 in
set_option maxRecDepth 100000 in
theorem spec_l3Short.calls (k : Nat) (A0 : Option Addr) (c0 : Nat) (l0 : List (List Int)) (r : Bool) (w : World) (hr0 : Kd.C (Kd.slice 3 (Kd.int .i64)) w A0 l0.length l0) (hc0 : l0.length ≤ c0) (h : spec_l3Short.f k l0 = some r) :
  Calls Try.prog 30 #[.slice A0 l0.length c0] w fun e w' => e = .returned (.bool r) ∧ Drawn0 w w' := by
 have HR0 := Aside0.mk hr0
 have HC0 := Aside0.mk hc0
 clear hr0 hc0
 have H : ((spec_l3Rows.f k l0).bind fun t298 => (if t298 = true then ((spec_l3Multiple.f k l0).bind fun t299 => ((spec_l6In.f t299 1 60000).bind fun t300 => (some t300))) else (some false))) = some r := h
 clear h
 replace H := Option.bind_eq_some_iff.mp H
 obtain ⟨t298, A20, H⟩ := H
 replace H : (if t298 = true then ((spec_l3Multiple.f k l0).bind fun t299 => ((spec_l6In.f t299 1 60000).bind fun t300 => (some t300))) else (some false)) = some r := H
 have A2 := Aside0.mk A20
 clear A20
 by_cases c3 : t298 = true
 ·subst c3
  have H1 : ((spec_l3Multiple.f k l0).bind fun t299 => ((spec_l6In.f t299 1 60000).bind fun t300 => (some t300))) = some r := by rw [if_pos rfl] at H; exact H
  clear H
  have H := H1
  clear H1
  replace H := Option.bind_eq_some_iff.mp H
  obtain ⟨t299, A40, H⟩ := H
  replace H : ((spec_l6In.f t299 1 60000).bind fun t300 => (some t300)) = some r := H
  have A4 := Aside0.mk A40
  clear A40
  replace H := Option.bind_eq_some_iff.mp H
  obtain ⟨t300, A50, H⟩ := H
  replace H : (some t300) = some r := H
  have A5 := Aside0.mk A50
  clear A50
  obtain rfl := Option.some.inj H
  go_enter Try.func30, Try.ntmps30
  go_wp2_with (first | ((with_reducible refine gate_callee (f := 18) rfl ?_); refine goesL_ (some 4) rfl rfl Try.func18 (by kernel_rfl) rfl #[.slice A0 l0.length c0] rfl (by (try simp only [List.map_toArray, List.map_cons, List.map_nil]); first | done | rfl | (simp only [List.length_drop, List.length_take]; rfl)) ?_; (with_reducible refine (spec_l3Rows.calls k _ _ l0 true _ ?side1 ?side2 A2.out).mono ?_); (case side1 => repeat (first | exact HR0.out | (with_reducible refine Kd.C_alloc ?_ _) | (with_reducible refine Kd.C_drewN ?_ _) | (with_reducible refine Kd.C_drew ?_))); (case side2 => exact HC0.out); rintro e w' ⟨rfl, ⟨nd, rfl⟩⟩; refine ⟨_, rfl, ?_⟩) | (go_at_call 19; (with_reducible refine (spec_l3Multiple.calls k _ _ l0 t299 _ ?side1 ?side2 A4.out).mono ?_); (case side1 => repeat (first | exact HR0.out | (with_reducible refine Kd.C_alloc ?_ _) | (with_reducible refine Kd.C_drewN ?_ _) | (with_reducible refine Kd.C_drew ?_))); (case side2 => exact HC0.out); rintro e w' ⟨rfl, ⟨nd, rfl⟩⟩) | (go_at_call 42; (with_reducible refine (spec_l6In.calls t299 1 60000 t300 _ A5.out).mono ?_); rintro e w' ⟨rfl, ⟨nd, rfl⟩⟩))
  go_ret
  exact ⟨by first | rfl | (simp; done) | (simp [*]; done), by repeat (first | exact Drawn0.refl _ | apply Drawn0.step)⟩
 ·replace c3 := Bool.eq_false_iff.mpr c3
  subst c3
  have H1 : (some false) = some r := by rw [if_neg (show ¬ (false = true) by decide)] at H; exact H
  clear H
  have H := H1
  clear H1
  obtain rfl := Option.some.inj H
  go_enter Try.func30, Try.ntmps30
  go_wp2_with (first | ((with_reducible refine gate_callee (f := 18) rfl ?_); refine goesL_ (some 4) rfl rfl Try.func18 (by kernel_rfl) rfl #[.slice A0 l0.length c0] rfl (by (try simp only [List.map_toArray, List.map_cons, List.map_nil]); first | done | rfl | (simp only [List.length_drop, List.length_take]; rfl)) ?_; (with_reducible refine (spec_l3Rows.calls k _ _ l0 false _ ?side1 ?side2 A2.out).mono ?_); (case side1 => repeat (first | exact HR0.out | (with_reducible refine Kd.C_alloc ?_ _) | (with_reducible refine Kd.C_drewN ?_ _) | (with_reducible refine Kd.C_drew ?_))); (case side2 => exact HC0.out); rintro e w' ⟨rfl, ⟨nd, rfl⟩⟩; refine ⟨_, rfl, ?_⟩))
  go_ret
  exact ⟨by first | rfl | (simp; done) | (simp [*]; done), by repeat (first | exact Drawn0.refl _ | apply Drawn0.step)⟩

/-! ### spec_l3Has: function 45 -/
def spec_l3Has.f (l0 : List Int) (a1 : Int) : Option (Bool) := if 1 < (l0.length : Int) then (if (rd l0 1) = 0 then (if 0 < (l0.length : Int) then (some (a1 == (rd l0 0))) else (none)) else (if 0 < (l0.length : Int) then (if a1 ≥ (rd l0 0) then (some ((Int.tmod (wrap64 (a1 - (rd l0 0))) (rd l0 1)) == 0)) else (some false)) else (none))) else (none)
set_option maxHeartbeats 8000000 in
set_option maxRecDepth 100000 in
theorem spec_l3Has.calls (A0 : Option Addr) (c0 : Nat) (l0 : List Int) (a1 : Int) (r : Bool) (w : World) (hr0 : Kd.C (Kd.int .i64) w A0 l0.length l0) (hc0 : l0.length ≤ c0) (h : spec_l3Has.f l0 a1 = some r) :
  Calls Try.prog 45 #[.slice A0 l0.length c0, .int .i64 a1] w fun e w' => e = .returned (.bool r) ∧ Drawn0 w w' := by
 have HR0 := Aside0.mk hr0
 have HC0 := Aside0.mk hc0
 clear hr0 hc0
 have H : (if 1 < (l0.length : Int) then (if (rd l0 1) = 0 then (if 0 < (l0.length : Int) then (some (a1 == (rd l0 0))) else (none)) else (if 0 < (l0.length : Int) then (if a1 ≥ (rd l0 0) then (some ((Int.tmod (wrap64 (a1 - (rd l0 0))) (rd l0 1)) == 0)) else (some false)) else (none))) else (none)) = some r := h
 clear h
 by_cases c3 : 1 < (l0.length : Int)
 ·rw [if_pos c3] at H
  have c3b0 : decide (1 < (l0.length : Int)) = true := decide_eq_true c3
  have c3b1 : decide (1 < l0.length) = true := decide_eq_true (by omega)
  clear c3
  by_cases c4 : (rd l0 1) = 0
  ·rw [if_pos c4] at H
   have c4b0 : ((rd l0 1) == 0) = true := beq_iff_eq.mpr c4
   have c4b1 : ((rd l0 1) != 0) = false := bne_eq_false_iff_eq.mpr c4
   clear c4
   by_cases c5 : 0 < (l0.length : Int)
   ·rw [if_pos c5] at H
    have c5b0 : decide (0 < (l0.length : Int)) = true := decide_eq_true c5
    have c5b1 : decide (0 < l0.length) = true := decide_eq_true (by omega)
    clear c5
    obtain rfl := Option.some.inj H
    have p301 : 0 ≤ (1 : Int) := (by omega)
    have q301 : 1 < (l0.length : Int) := of_decide_eq_true (by first | (with_reducible assumption) | assumption)
    obtain ⟨ad301, e301, hx301_0⟩ := Kd.at_int HR0.out 1 p301 q301
    cases e301
    (try simp only [show (1 : Int).toNat = 1 from rfl, Nat.reduceMul, Nat.reduceEqDiff, Go.Addr.add, ↓reduceIte] at hx301_0)
    have qi301 : (1 < l0.length) = True := eq_true (by omega)
    (try rw [show ((1 : Int)).toNat = 1 from rfl] at hx301_0)
    replace p301 := eq_true p301
    replace q301 := eq_true q301
    have p302 : 0 ≤ (0 : Int) := (by omega)
    have q302 : 0 < (l0.length : Int) := of_decide_eq_true (by first | (with_reducible assumption) | assumption)
    obtain ⟨ad302, e302, hx302_0⟩ := Kd.at_int HR0.out 0 p302 q302
    obtain rfl : ad301 = ad302 := (by injection e302)
    have qi302 : (0 < l0.length) = True := eq_true (by omega)
    (try rw [show ((0 : Int)).toNat = 0 from rfl] at hx302_0)
    (try rw [Addr.add_zero'] at hx302_0)
    replace p302 := eq_true p302
    replace q302 := eq_true q302
    go_enter Try.func45, Try.ntmps45
    go_wp2
    repeat (go_quiet (fail); (try simp only [IntWalk.i64_left]); try go_wp2)
    go_ret
    exact ⟨by first | rfl | (simp; done) | (simp [*]; done), by repeat (first | exact Drawn0.refl _ | apply Drawn0.step)⟩
   ·rw [if_neg c5] at H
    exact absurd H (by simp)
  ·rw [if_neg c4] at H
   have c4b0 : ((rd l0 1) == 0) = false := beq_eq_false_iff_ne.mpr c4
   have c4b1 : ((rd l0 1) != 0) = true := bne_iff_ne.mpr c4
   by_cases c6 : 0 < (l0.length : Int)
   ·rw [if_pos c6] at H
    have c6b0 : decide (0 < (l0.length : Int)) = true := decide_eq_true c6
    have c6b1 : decide (0 < l0.length) = true := decide_eq_true (by omega)
    clear c6
    by_cases c7 : a1 ≥ (rd l0 0)
    ·rw [if_pos c7] at H
     have c7b0 : decide ((rd l0 0) ≤ a1) = true := decide_eq_true c7
     clear c7
     obtain rfl := Option.some.inj H
     have p301 : 0 ≤ (1 : Int) := (by omega)
     have q301 : 1 < (l0.length : Int) := of_decide_eq_true (by first | (with_reducible assumption) | assumption)
     obtain ⟨ad301, e301, hx301_0⟩ := Kd.at_int HR0.out 1 p301 q301
     cases e301
     (try simp only [show (1 : Int).toNat = 1 from rfl, Nat.reduceMul, Nat.reduceEqDiff, Go.Addr.add, ↓reduceIte] at hx301_0)
     have qi301 : (1 < l0.length) = True := eq_true (by omega)
     (try rw [show ((1 : Int)).toNat = 1 from rfl] at hx301_0)
     replace p301 := eq_true p301
     replace q301 := eq_true q301
     have p303 : 0 ≤ (0 : Int) := (by omega)
     have q303 : 0 < (l0.length : Int) := of_decide_eq_true (by first | (with_reducible assumption) | assumption)
     obtain ⟨ad303, e303, hx303_0⟩ := Kd.at_int HR0.out 0 p303 q303
     obtain rfl : ad301 = ad303 := (by injection e303)
     have qi303 : (0 < l0.length) = True := eq_true (by omega)
     (try rw [show ((0 : Int)).toNat = 0 from rfl] at hx303_0)
     (try rw [Addr.add_zero'] at hx303_0)
     replace p303 := eq_true p303
     replace q303 := eq_true q303
     have p304 : 0 ≤ (0 : Int) := (by omega)
     have q304 : 0 < (l0.length : Int) := of_decide_eq_true (by first | (with_reducible assumption) | assumption)
     obtain ⟨ad304, e304, hx304_0⟩ := Kd.at_int HR0.out 0 p304 q304
     obtain rfl : ad301 = ad304 := (by injection e304)
     have qi304 : (0 < l0.length) = True := eq_true (by omega)
     (try rw [show ((0 : Int)).toNat = 0 from rfl] at hx304_0)
     (try rw [Addr.add_zero'] at hx304_0)
     replace p304 := eq_true p304
     replace q304 := eq_true q304
     have p305 : 0 ≤ (1 : Int) := (by omega)
     have q305 : 1 < (l0.length : Int) := of_decide_eq_true (by first | (with_reducible assumption) | assumption)
     obtain ⟨ad305, e305, hx305_0⟩ := Kd.at_int HR0.out 1 p305 q305
     obtain rfl : ad301 = ad305 := (by injection e305)
     (try simp only [show (1 : Int).toNat = 1 from rfl, Nat.reduceMul, Nat.reduceEqDiff, Go.Addr.add, ↓reduceIte] at hx305_0)
     have qi305 : (1 < l0.length) = True := eq_true (by omega)
     (try rw [show ((1 : Int)).toNat = 1 from rfl] at hx305_0)
     replace p305 := eq_true p305
     replace q305 := eq_true q305
     go_enter Try.func45, Try.ntmps45
     go_wp2
     repeat (go_quiet (fail); (try simp only [IntWalk.i64_left]); try go_wp2)
     go_ret
     exact ⟨by first | rfl | (simp; done) | (simp [*]; done), by repeat (first | exact Drawn0.refl _ | apply Drawn0.step)⟩
    ·rw [if_neg c7] at H
     have c7b0 : decide ((rd l0 0) ≤ a1) = false := decide_eq_false c7
     clear c7
     obtain rfl := Option.some.inj H
     have p301 : 0 ≤ (1 : Int) := (by omega)
     have q301 : 1 < (l0.length : Int) := of_decide_eq_true (by first | (with_reducible assumption) | assumption)
     obtain ⟨ad301, e301, hx301_0⟩ := Kd.at_int HR0.out 1 p301 q301
     cases e301
     (try simp only [show (1 : Int).toNat = 1 from rfl, Nat.reduceMul, Nat.reduceEqDiff, Go.Addr.add, ↓reduceIte] at hx301_0)
     have qi301 : (1 < l0.length) = True := eq_true (by omega)
     (try rw [show ((1 : Int)).toNat = 1 from rfl] at hx301_0)
     replace p301 := eq_true p301
     replace q301 := eq_true q301
     have p303 : 0 ≤ (0 : Int) := (by omega)
     have q303 : 0 < (l0.length : Int) := of_decide_eq_true (by first | (with_reducible assumption) | assumption)
     obtain ⟨ad303, e303, hx303_0⟩ := Kd.at_int HR0.out 0 p303 q303
     obtain rfl : ad301 = ad303 := (by injection e303)
     have qi303 : (0 < l0.length) = True := eq_true (by omega)
     (try rw [show ((0 : Int)).toNat = 0 from rfl] at hx303_0)
     (try rw [Addr.add_zero'] at hx303_0)
     replace p303 := eq_true p303
     replace q303 := eq_true q303
     go_enter Try.func45, Try.ntmps45
     go_wp2
     repeat (go_quiet (fail); (try simp only [IntWalk.i64_left]); try go_wp2)
     go_ret
     exact ⟨by first | rfl | (simp; done) | (simp [*]; done), by repeat (first | exact Drawn0.refl _ | apply Drawn0.step)⟩
   ·rw [if_neg c6] at H
    exact absurd H (by simp)
 ·rw [if_neg c3] at H
  exact absurd H (by simp)

/-! ### spec_l3Many: function 43 -/
def spec_l3Many.l0 : Nat → List (List Int) → Int → Int → Int → Option (Int)
 | 0, _, _, _, _ => none
 | k + 1, x0, x1, x5, x6 => if x6 < (x0.length : Int) then (if 0 ≤ x6 then ((spec_l3Has.f (rd_L1 x0 x6) x1).bind fun t307 => (if t307 = true then (spec_l3Many.l0 k x0 x1 (wrap64 (x5 + 1)) (wrap64 (x6 + 1))) else (spec_l3Many.l0 k x0 x1 x5 (wrap64 (x6 + 1))))) else (none)) else (some x5)
def spec_l3Many.f (k : Nat) (l0 : List (List Int)) (a1 : Int) : Option (Int) := spec_l3Many.l0 k l0 a1 0 0
theorem spec_l3Many.mono_l : ∀ k, (∀ y0 y1 y2 y3, LeO (spec_l3Many.l0 k y0 y1 y2 y3) (spec_l3Many.l0 (k + 1) y0 y1 y2 y3))
 | 0 => fun _ _ _ _ r h => by simp [spec_l3Many.l0] at h
 | k + 1 => by
  have ih0 := spec_l3Many.mono_l k
  ·intro y0 y1 y2 y3
   unfold spec_l3Many.l0
   repeat' first
   | (with_reducible exact ih0 _ _ _ _)
   | (with_reducible exact LeO.refl _)
   | (with_reducible exact LeO.none _)
   | (with_reducible refine LeO.ite ?_ ?_)
   | (with_reducible refine LeO.bind ?_ (fun _ => ?_))
   | exact ih0 _ _ _ _
   | exact LeO.none _
   | refine LeO.ite ?_ ?_
   | refine LeO.bind ?_ (fun _ => ?_)
theorem spec_l3Many.mono : ∀ a0 a1 k, LeO (spec_l3Many.f k a0 a1) (spec_l3Many.f (k + 1) a0 a1) := by
 intro a0 a1 k
 have ih0 := spec_l3Many.mono_l k
 unfold spec_l3Many.f
 repeat' first
   | (with_reducible exact ih0 _ _ _ _)
   | (with_reducible exact LeO.refl _)
   | (with_reducible exact LeO.none _)
   | (with_reducible refine LeO.ite ?_ ?_)
   | (with_reducible refine LeO.bind ?_ (fun _ => ?_))
   | exact ih0 _ _ _ _
   | exact LeO.none _
   | refine LeO.ite ?_ ?_
   | refine LeO.bind ?_ (fun _ => ?_)
set_option maxHeartbeats 8000000 in
set_option maxRecDepth 100000 in
theorem spec_l3Many.calls (k : Nat) (A0 : Option Addr) (c0 : Nat) (l0 : List (List Int)) (a1 : Int) (r : Int) (w : World) (hr0 : Kd.C (Kd.slice 3 (Kd.int .i64)) w A0 l0.length l0) (hc0 : l0.length ≤ c0) (h : spec_l3Many.f k l0 a1 = some r) :
  Calls Try.prog 43 #[.slice A0 l0.length c0, .int .i64 a1] w fun e w' => e = .returned (.int .i64 r) ∧ Drawn0 w w' := by
 have HR0 := Aside0.mk hr0
 have HC0 := Aside0.mk hc0
 clear hr0 hc0
 have H : (spec_l3Many.l0 k l0 a1 0 0) = some r := h
 clear h
 have H' := Aside0.mk H
 clear H
 go_enter Try.func43, Try.ntmps43
 go_wp2
 go_loopg [5, 6] k (fun kq v5 v6 w' => ∃ (x5_1 : Int) (x6_1 : Int), v5 = .int .i64 x5_1 ∧ v6 = .int .i64 x6_1 ∧ Aside0 (spec_l3Many.l0 kq l0 a1 x5_1 x6_1 = some r) ∧ Aside0 (kq ≤ k) ∧ Drawn0 w w')
 case atStart => exact ⟨(0), (0), (by first | rfl | (simp; done) | (simp [*]; done) | (simp only [IntKind.wrap_i64, wrap64]; done)), (by first | rfl | (simp; done) | (simp [*]; done) | (simp only [IntKind.wrap_i64, wrap64]; done)), H', ⟨Nat.le_refl _⟩, by repeat (first | exact Drawn0.refl _ | apply Drawn0.step)⟩
 case round =>
  clear H'
  try clear p2
  obtain ⟨x5_1, x6_1, rfl, rfl, HA, HK1, ⟨m1, rfl⟩⟩ := hrel
  cases gk with
  | zero => exact absurd HA.out (by simp [spec_l3Many.l0])
  | succ k1 =>
   have H := HA.out
   clear HA
   simp only [spec_l3Many.l0] at H
   by_cases c3 : x6_1 < (l0.length : Int)
   ·rw [if_pos c3] at H
    have c3b0 : decide (x6_1 < (l0.length : Int)) = true := decide_eq_true c3
    clear c3
    by_cases c4 : 0 ≤ x6_1
    ·rw [if_pos c4] at H
     have c4b0 : decide (0 ≤ x6_1) = true := decide_eq_true c4
     clear c4
     replace H := Option.bind_eq_some_iff.mp H
     obtain ⟨t307, A50, H⟩ := H
     replace H : (if t307 = true then (spec_l3Many.l0 k1 l0 a1 (wrap64 (x5_1 + 1)) (wrap64 (x6_1 + 1))) else (spec_l3Many.l0 k1 l0 a1 x5_1 (wrap64 (x6_1 + 1)))) = some r := H
     have A5 := Aside0.mk A50
     clear A50
     by_cases c6 : t307 = true
     ·subst c6
      have H1 : (spec_l3Many.l0 k1 l0 a1 (wrap64 (x5_1 + 1)) (wrap64 (x6_1 + 1))) = some r := by rw [if_pos rfl] at H; exact H
      clear H
      have H := H1
      clear H1
      have H' := Aside0.mk H
      clear H
      have p306 : 0 ≤ (x6_1 : Int) := of_decide_eq_true (by first | (with_reducible assumption) | assumption)
      have q306 : x6_1 < (l0.length : Int) := of_decide_eq_true (by first | (with_reducible assumption) | assumption)
      obtain ⟨ad306, A306_0, c306_0, e306, hx306_0, hl306_0, hi306_0⟩ := at_L1 HR0.out x6_1 p306 q306
      cases e306
      have HR306_0 := Aside0.mk hi306_0
      have HC306_0 := Aside0.mk hl306_0
      clear hi306_0 hl306_0
      replace p306 := eq_true p306
      replace q306 := eq_true q306
      go_wp2_with (first | ((with_reducible refine gate_callee (f := 45) rfl ?_); refine goesL_ (some 18) rfl rfl Try.func45 (by kernel_rfl) rfl #[.slice A306_0 (rd_L1 l0 x6_1).length c306_0, .int .i64 a1] rfl (by (try simp only [List.map_toArray, List.map_cons, List.map_nil]); first | done | rfl | (simp only [List.length_drop, List.length_take]; rfl)) ?_; (with_reducible refine (spec_l3Has.calls _ _ (rd_L1 l0 x6_1) a1 true _ ?side1 ?side2 A5.out).mono ?_); (case side1 => repeat (first | exact HR306_0.out | (with_reducible refine Kd.C_alloc ?_ _) | (with_reducible refine Kd.C_drewN ?_ _) | (with_reducible refine Kd.C_drew ?_))); (case side2 => exact HC306_0.out); rintro e w' ⟨rfl, ⟨nd, rfl⟩⟩; refine ⟨_, rfl, ?_⟩))
      go_roundg k1
      case measure => have := HK1.out; omega
      case rel => exact ⟨(wrap64 (x5_1 + 1)), (wrap64 (x6_1 + 1)), (by first | rfl | (simp; done) | (simp [*]; done) | (simp only [IntKind.wrap_i64, wrap64]; done)), (by first | rfl | (simp; done) | (simp [*]; done) | (simp only [IntKind.wrap_i64, wrap64]; done)), H', ⟨by have := HK1.out; omega⟩, by repeat (first | exact Drawn0.refl _ | apply Drawn0.step)⟩
     ·replace c6 := Bool.eq_false_iff.mpr c6
      subst c6
      have H1 : (spec_l3Many.l0 k1 l0 a1 x5_1 (wrap64 (x6_1 + 1))) = some r := by rw [if_neg (show ¬ (false = true) by decide)] at H; exact H
      clear H
      have H := H1
      clear H1
      have H' := Aside0.mk H
      clear H
      have p306 : 0 ≤ (x6_1 : Int) := of_decide_eq_true (by first | (with_reducible assumption) | assumption)
      have q306 : x6_1 < (l0.length : Int) := of_decide_eq_true (by first | (with_reducible assumption) | assumption)
      obtain ⟨ad306, A306_0, c306_0, e306, hx306_0, hl306_0, hi306_0⟩ := at_L1 HR0.out x6_1 p306 q306
      cases e306
      have HR306_0 := Aside0.mk hi306_0
      have HC306_0 := Aside0.mk hl306_0
      clear hi306_0 hl306_0
      replace p306 := eq_true p306
      replace q306 := eq_true q306
      go_wp2_with (first | ((with_reducible refine gate_callee (f := 45) rfl ?_); refine goesL_ (some 18) rfl rfl Try.func45 (by kernel_rfl) rfl #[.slice A306_0 (rd_L1 l0 x6_1).length c306_0, .int .i64 a1] rfl (by (try simp only [List.map_toArray, List.map_cons, List.map_nil]); first | done | rfl | (simp only [List.length_drop, List.length_take]; rfl)) ?_; (with_reducible refine (spec_l3Has.calls _ _ (rd_L1 l0 x6_1) a1 false _ ?side1 ?side2 A5.out).mono ?_); (case side1 => repeat (first | exact HR306_0.out | (with_reducible refine Kd.C_alloc ?_ _) | (with_reducible refine Kd.C_drewN ?_ _) | (with_reducible refine Kd.C_drew ?_))); (case side2 => exact HC306_0.out); rintro e w' ⟨rfl, ⟨nd, rfl⟩⟩; refine ⟨_, rfl, ?_⟩))
      go_roundg k1
      case measure => have := HK1.out; omega
      case rel => exact ⟨(x5_1), (wrap64 (x6_1 + 1)), (by first | rfl | (simp; done) | (simp [*]; done) | (simp only [IntKind.wrap_i64, wrap64]; done)), (by first | rfl | (simp; done) | (simp [*]; done) | (simp only [IntKind.wrap_i64, wrap64]; done)), H', ⟨by have := HK1.out; omega⟩, by repeat (first | exact Drawn0.refl _ | apply Drawn0.step)⟩
    ·rw [if_neg c4] at H
     exact absurd H (by simp)
   ·rw [if_neg c3] at H
    have c3b0 : decide (x6_1 < (l0.length : Int)) = false := decide_eq_false c3
    clear c3
    obtain rfl := Option.some.inj H
    go_wp2
    go_ret
    exact ⟨by first | rfl | (simp; done) | (simp [*]; done), by repeat (first | exact Drawn0.refl _ | apply Drawn0.step)⟩

/-! ### spec_l3Covers: function 31 -/
def spec_l3Covers.l0 : Nat → List (List Int) → Int → Int → Int → Int → Option (Int × Int)
 | 0, _, _, _, _, _ => none
 | k + 1, x0, x4, x5, x6, x7 => if x7 < (wrap64 (60 + x4)) then ((spec_l3Many.f k x0 x7).bind fun t309 => (spec_l3Covers.l0 k x0 x4 (mn x5 t309) (mx x6 t309) (wrap64 (x7 + 1)))) else (some (x5, x6))
def spec_l3Covers.f (k : Nat) (l0 : List (List Int)) : Option (Int × Int) := (spec_l3Multiple.f k l0).bind fun t308 => (spec_l3Covers.l0 k l0 t308 (l0.length : Int) 0 60)
theorem spec_l3Covers.mono_l : ∀ k, (∀ y0 y1 y2 y3 y4, LeO (spec_l3Covers.l0 k y0 y1 y2 y3 y4) (spec_l3Covers.l0 (k + 1) y0 y1 y2 y3 y4))
 | 0 => fun _ _ _ _ _ r h => by simp [spec_l3Covers.l0] at h
 | k + 1 => by
  have ih0 := spec_l3Covers.mono_l k
  ·intro y0 y1 y2 y3 y4
   unfold spec_l3Covers.l0
   repeat' first
   | (with_reducible exact ih0 _ _ _ _ _)
   | (with_reducible exact spec_l3Many.mono _ _ _)
   | (with_reducible exact spec_l3Multiple.mono _ _)
   | (with_reducible exact LeO.refl _)
   | (with_reducible exact LeO.none _)
   | (with_reducible refine LeO.ite ?_ ?_)
   | (with_reducible refine LeO.bind ?_ (fun _ => ?_))
   | exact ih0 _ _ _ _ _
   | exact spec_l3Many.mono _ _ _
   | exact spec_l3Multiple.mono _ _
   | exact LeO.none _
   | refine LeO.ite ?_ ?_
   | refine LeO.bind ?_ (fun _ => ?_)
theorem spec_l3Covers.mono : ∀ a0 k, LeO (spec_l3Covers.f k a0) (spec_l3Covers.f (k + 1) a0) := by
 intro a0 k
 have ih0 := spec_l3Covers.mono_l k
 unfold spec_l3Covers.f
 repeat' first
   | (with_reducible exact ih0 _ _ _ _ _)
   | (with_reducible exact spec_l3Many.mono _ _ _)
   | (with_reducible exact spec_l3Multiple.mono _ _)
   | (with_reducible exact LeO.refl _)
   | (with_reducible exact LeO.none _)
   | (with_reducible refine LeO.ite ?_ ?_)
   | (with_reducible refine LeO.bind ?_ (fun _ => ?_))
   | exact ih0 _ _ _ _ _
   | exact spec_l3Many.mono _ _ _
   | exact spec_l3Multiple.mono _ _
   | exact LeO.none _
   | refine LeO.ite ?_ ?_
   | refine LeO.bind ?_ (fun _ => ?_)
set_option maxHeartbeats 8000000 in
set_option maxRecDepth 100000 in
theorem spec_l3Covers.calls (k : Nat) (A0 : Option Addr) (c0 : Nat) (l0 : List (List Int)) (r1 : Int) (r2 : Int) (w : World) (hr0 : Kd.C (Kd.slice 3 (Kd.int .i64)) w A0 l0.length l0) (hc0 : l0.length ≤ c0) (h : spec_l3Covers.f k l0 = some (r1, r2)) :
  Calls Try.prog 31 #[.slice A0 l0.length c0] w fun e w' => e = .returned (.tuple #[.int .i64 r1, .int .i64 r2]) ∧ Below w.heap.size w w' := by
 have HR0 := Aside0.mk hr0
 have HC0 := Aside0.mk hc0
 clear hr0 hc0
 have HB := Aside0.mk (Below.refl w.heap.size w)
 have H : ((spec_l3Multiple.f k l0).bind fun t308 => (spec_l3Covers.l0 k l0 t308 (l0.length : Int) 0 60)) = some (r1, r2) := h
 clear h
 replace H := Option.bind_eq_some_iff.mp H
 obtain ⟨t308, A20, H⟩ := H
 replace H : (spec_l3Covers.l0 k l0 t308 (l0.length : Int) 0 60) = some (r1, r2) := H
 have A2 := Aside0.mk A20
 clear A20
 have H' := Aside0.mk H
 clear H
 go_enter Try.func31, Try.ntmps31
 go_wp2_with (first | ((with_reducible refine gate_callee (f := 19) rfl ?_); refine goesL_ (some 10) rfl rfl Try.func19 (by kernel_rfl) rfl #[.slice A0 l0.length c0] rfl (by (try simp only [List.map_toArray, List.map_cons, List.map_nil]); first | done | rfl | (simp only [List.length_drop, List.length_take]; rfl)) ?_; (with_reducible refine (spec_l3Multiple.calls k _ _ l0 t308 _ ?side1 ?side2 A2.out).mono ?_); (case side1 => repeat (first | exact HR0.out | (with_reducible refine Kd.C_alloc ?_ _) | (with_reducible refine Kd.C_drewN ?_ _) | (with_reducible refine Kd.C_drew ?_))); (case side2 => exact HC0.out); rintro e w' ⟨rfl, ⟨nd, rfl⟩⟩; refine ⟨_, rfl, ?_⟩))
 go_loopg [5, 6, 7] k (fun kq v5 v6 v7 w' => ∃ (x5_1 : Int) (x6_1 : Int) (x7_1 : Int), v5 = .int .i64 x5_1 ∧ v6 = .int .i64 x6_1 ∧ v7 = .int .i64 x7_1 ∧ Aside0 (spec_l3Covers.l0 kq l0 t308 x5_1 x6_1 x7_1 = some (r1, r2)) ∧ Aside0 (kq ≤ k) ∧ Aside0 (Below w.heap.size w w'))
 case atStart => exact ⟨((l0.length : Int)), (0), (60), (by first | rfl | (simp; done) | (simp [*]; done) | (simp only [IntKind.wrap_i64, wrap64]; done)), (by first | rfl | (simp; done) | (simp [*]; done) | (simp only [IntKind.wrap_i64, wrap64]; done)), (by first | rfl | (simp; done) | (simp [*]; done) | (simp only [IntKind.wrap_i64, wrap64]; done)), H', ⟨Nat.le_refl _⟩, ⟨by repeat (first | (with_reducible first | exact HB.out | apply below_alloc | apply pw_below_drewN | apply below_drew1) | exact HB.out)⟩⟩
 case round =>
  clear H'
  try clear c1
  try clear p2
  obtain ⟨x5_1, x6_1, x7_1, rfl, rfl, rfl, HA, HK1, HB⟩ := hrel
  cases gk with
  | zero => exact absurd HA.out (by simp [spec_l3Covers.l0])
  | succ k1 =>
   have H := HA.out
   clear HA
   simp only [spec_l3Covers.l0] at H
   by_cases c3 : x7_1 < (wrap64 (60 + t308))
   ·rw [if_pos c3] at H
    have c3b0 : decide (x7_1 < (wrap64 (60 + t308))) = true := decide_eq_true c3
    clear c3
    replace H := Option.bind_eq_some_iff.mp H
    obtain ⟨t309, A40, H⟩ := H
    replace H : (spec_l3Covers.l0 k1 l0 t308 (mn x5_1 t309) (mx x6_1 t309) (wrap64 (x7_1 + 1))) = some (r1, r2) := H
    have A4 := Aside0.mk A40
    clear A40
    obtain ⟨ji5, hji5⟩ : ∃ j_ : Int, (mn x5_1 t309) = j_ := ⟨_, rfl⟩
    replace H : (spec_l3Covers.l0 k1 l0 t308 ji5 (mx x6_1 t309) (wrap64 (x7_1 + 1))) = some (r1, r2) := by first | (rw [hji5] at H; exact H) | (simp only [hji5] at H ⊢; exact H)
    (try rw [hji5] at A4)
    have hji5_ : (if t309 < x5_1 then t309 else x5_1) = ji5 := hji5
    obtain ⟨ji6, hji6⟩ : ∃ j_ : Int, (mx x6_1 t309) = j_ := ⟨_, rfl⟩
    replace H : (spec_l3Covers.l0 k1 l0 t308 ji5 ji6 (wrap64 (x7_1 + 1))) = some (r1, r2) := by first | (rw [hji6] at H; exact H) | (simp only [hji6] at H ⊢; exact H)
    (try rw [hji6] at A4)
    have hji6_ : (if x6_1 < t309 then t309 else x6_1) = ji6 := hji6
    have H' := Aside0.mk H
    clear H
    go_wp2_with (first | ((with_reducible refine gate_callee (f := 43) rfl ?_); refine goesL_ (some 21) rfl rfl Try.func43 (by kernel_rfl) rfl #[.slice A0 l0.length c0, .int .i64 x7_1] rfl (by (try simp only [List.map_toArray, List.map_cons, List.map_nil]); first | done | rfl | (simp only [List.length_drop, List.length_take]; rfl)) ?_; (with_reducible refine (spec_l3Many.calls k1 _ _ l0 x7_1 t309 _ ?side1 ?side2 A4.out).mono ?_); (case side1 => repeat (first | exact (Kd.C_below HR0.out HB.out) | (with_reducible refine Kd.C_alloc ?_ _) | (with_reducible refine Kd.C_drewN ?_ _) | (with_reducible refine Kd.C_drew ?_))); (case side2 => exact HC0.out); rintro e w' ⟨rfl, ⟨nd, rfl⟩⟩; refine ⟨_, rfl, ?_⟩))
    go_roundg k1
    case measure => have := HK1.out; omega
    case rel => exact ⟨(ji5), (ji6), (wrap64 (x7_1 + 1)), (by first | rfl | (simp; done) | (simp only [← hji5] <;> (first | rfl | simp)) | (simp [*]; done)), (by first | rfl | (simp; done) | (simp only [← hji6] <;> (first | rfl | simp)) | (simp [*]; done)), (by first | rfl | (simp; done) | (simp [*]; done) | (simp only [IntKind.wrap_i64, wrap64]; done)), H', ⟨by have := HK1.out; omega⟩, ⟨by repeat (first | (with_reducible first | exact HB.out | apply below_alloc | apply pw_below_drewN | apply below_drew1) | exact HB.out)⟩⟩
   ·rw [if_neg c3] at H
    have c3b0 : decide (x7_1 < (wrap64 (60 + t308))) = false := decide_eq_false c3
    clear c3
    simp only [Option.some.injEq, Prod.mk.injEq] at H
    obtain ⟨rfl, rfl⟩ := H
    go_wp2
    go_ret2
    exact ⟨by first | rfl | (simp [errW_none, errW_some] <;> rfl) | (simp [*, errW_none, errW_some] <;> rfl), by repeat (first | (with_reducible first | exact HB.out | apply below_alloc | apply pw_below_drewN | apply below_drew1) | exact HB.out)⟩

/-! ### spec_RowsOnce: function 14 -/
def spec_RowsOnce.f (k : Nat) (l0 : List (List Int)) : Option (Bool) := (spec_l3Short.f k l0).bind fun t310 => (if t310 = true then ((spec_l3Covers.f k l0).bind fun bt311 => (if bt311.1 = 1 then (some (bt311.2 == 1)) else (some false))) else (some false))
theorem spec_RowsOnce.mono : ∀ a0 k, LeO (spec_RowsOnce.f k a0) (spec_RowsOnce.f (k + 1) a0) := by
 intro a0 k
 unfold spec_RowsOnce.f
 repeat' first
   | (with_reducible exact spec_l3Covers.mono _ _)
   | (with_reducible exact spec_l3Short.mono _ _)
   | (with_reducible exact LeO.refl _)
   | (with_reducible exact LeO.none _)
   | (with_reducible refine LeO.ite ?_ ?_)
   | (with_reducible refine LeO.bind ?_ (fun _ => ?_))
   | exact spec_l3Covers.mono _ _
   | exact spec_l3Short.mono _ _
   | exact LeO.none _
   | refine LeO.ite ?_ ?_
   | refine LeO.bind ?_ (fun _ => ?_)
set_option maxHeartbeats 8000000 in
set_option maxRecDepth 100000 in
theorem spec_RowsOnce.calls (k : Nat) (A0 : Option Addr) (c0 : Nat) (l0 : List (List Int)) (r : Bool) (w : World) (hr0 : Kd.C (Kd.slice 3 (Kd.int .i64)) w A0 l0.length l0) (hc0 : l0.length ≤ c0) (h : spec_RowsOnce.f k l0 = some r) :
  Calls Try.prog 14 #[.slice A0 l0.length c0] w fun e w' => e = .returned (.bool r) ∧ Below w.heap.size w w' := by
 have HR0 := Aside0.mk hr0
 have HC0 := Aside0.mk hc0
 clear hr0 hc0
 have HB := Aside0.mk (Below.refl w.heap.size w)
 have H : ((spec_l3Short.f k l0).bind fun t310 => (if t310 = true then ((spec_l3Covers.f k l0).bind fun bt311 => (if bt311.1 = 1 then (some (bt311.2 == 1)) else (some false))) else (some false))) = some r := h
 clear h
 replace H := Option.bind_eq_some_iff.mp H
 obtain ⟨t310, A20, H⟩ := H
 replace H : (if t310 = true then ((spec_l3Covers.f k l0).bind fun bt311 => (if bt311.1 = 1 then (some (bt311.2 == 1)) else (some false))) else (some false)) = some r := H
 have A2 := Aside0.mk A20
 clear A20
 by_cases c3 : t310 = true
 ·subst c3
  have H1 : ((spec_l3Covers.f k l0).bind fun bt311 => (if bt311.1 = 1 then (some (bt311.2 == 1)) else (some false))) = some r := by rw [if_pos rfl] at H; exact H
  clear H
  have H := H1
  clear H1
  replace H := Option.bind_eq_some_iff.mp H
  obtain ⟨⟨t311, t312⟩, A40, H⟩ := H
  replace H : (if t311 = 1 then (some (t312 == 1)) else (some false)) = some r := H
  have A4 := Aside0.mk A40
  clear A40
  by_cases c5 : t311 = 1
  ·rw [if_pos c5] at H
   have c5b0 : (t311 == 1) = true := beq_iff_eq.mpr c5
   have c5b1 : (t311 != 1) = false := bne_eq_false_iff_eq.mpr c5
   clear c5
   obtain rfl := Option.some.inj H
   go_enter Try.func14, Try.ntmps14
   go_wp2_with (first | ((with_reducible refine gate_callee (f := 30) rfl ?_); refine goesL_ (some 6) rfl rfl Try.func30 (by kernel_rfl) rfl #[.slice A0 l0.length c0] rfl (by (try simp only [List.map_toArray, List.map_cons, List.map_nil]); first | done | rfl | (simp only [List.length_drop, List.length_take]; rfl)) ?_; (with_reducible refine (spec_l3Short.calls k _ _ l0 true _ ?side1 ?side2 A2.out).mono ?_); (case side1 => repeat (first | exact HR0.out | (with_reducible refine Kd.C_alloc ?_ _) | (with_reducible refine Kd.C_drewN ?_ _) | (with_reducible refine Kd.C_drew ?_))); (case side2 => exact HC0.out); rintro e w' ⟨rfl, ⟨nd, rfl⟩⟩; refine ⟨_, rfl, ?_⟩) | ((with_reducible refine gate_callee (f := 31) rfl ?_); refine goesL_ (some 10) rfl rfl Try.func31 (by kernel_rfl) rfl #[.slice A0 l0.length c0] rfl (by (try simp only [List.map_toArray, List.map_cons, List.map_nil]); first | done | rfl | (simp only [List.length_drop, List.length_take]; rfl)) ?_; (with_reducible refine (spec_l3Covers.calls k _ _ l0 t311 t312 _ ?side1 ?side2 A4.out).mono ?_); (case side1 => repeat (first | exact HR0.out | (with_reducible refine Kd.C_alloc ?_ _) | (with_reducible refine Kd.C_drewN ?_ _) | (with_reducible refine Kd.C_drew ?_))); (case side2 => exact HC0.out); rintro e w6 ⟨rfl, hb⟩; refine ⟨_, rfl, ?_⟩; have n0_ := Aside0.mk (below_step (by repeat (first | (with_reducible first | exact HB.out | apply below_alloc | apply pw_below_drewN | apply below_drew1) | exact HB.out)) hb); clear HB; have HB := n0_; clear n0_; (try clear hb); (try clear hb2); (try clear hk); (try clear hi)))
   go_ret
   exact ⟨by first | rfl | (simp [errW_none, errW_some] <;> rfl) | (simp [*, errW_none, errW_some] <;> rfl), by repeat (first | (with_reducible first | exact HB.out | apply below_alloc | apply pw_below_drewN | apply below_drew1) | exact HB.out)⟩
  ·rw [if_neg c5] at H
   have c5b0 : (t311 == 1) = false := beq_eq_false_iff_ne.mpr c5
   have c5b1 : (t311 != 1) = true := bne_iff_ne.mpr c5
   obtain rfl := Option.some.inj H
   go_enter Try.func14, Try.ntmps14
   go_wp2_with (first | ((with_reducible refine gate_callee (f := 30) rfl ?_); refine goesL_ (some 6) rfl rfl Try.func30 (by kernel_rfl) rfl #[.slice A0 l0.length c0] rfl (by (try simp only [List.map_toArray, List.map_cons, List.map_nil]); first | done | rfl | (simp only [List.length_drop, List.length_take]; rfl)) ?_; (with_reducible refine (spec_l3Short.calls k _ _ l0 true _ ?side1 ?side2 A2.out).mono ?_); (case side1 => repeat (first | exact HR0.out | (with_reducible refine Kd.C_alloc ?_ _) | (with_reducible refine Kd.C_drewN ?_ _) | (with_reducible refine Kd.C_drew ?_))); (case side2 => exact HC0.out); rintro e w' ⟨rfl, ⟨nd, rfl⟩⟩; refine ⟨_, rfl, ?_⟩) | ((with_reducible refine gate_callee (f := 31) rfl ?_); refine goesL_ (some 10) rfl rfl Try.func31 (by kernel_rfl) rfl #[.slice A0 l0.length c0] rfl (by (try simp only [List.map_toArray, List.map_cons, List.map_nil]); first | done | rfl | (simp only [List.length_drop, List.length_take]; rfl)) ?_; (with_reducible refine (spec_l3Covers.calls k _ _ l0 t311 t312 _ ?side1 ?side2 A4.out).mono ?_); (case side1 => repeat (first | exact HR0.out | (with_reducible refine Kd.C_alloc ?_ _) | (with_reducible refine Kd.C_drewN ?_ _) | (with_reducible refine Kd.C_drew ?_))); (case side2 => exact HC0.out); rintro e w7 ⟨rfl, hb⟩; refine ⟨_, rfl, ?_⟩; have n0_ := Aside0.mk (below_step (by repeat (first | (with_reducible first | exact HB.out | apply below_alloc | apply pw_below_drewN | apply below_drew1) | exact HB.out)) hb); clear HB; have HB := n0_; clear n0_; (try clear hb); (try clear hb2); (try clear hk); (try clear hi)))
   go_ret
   exact ⟨by first | rfl | (simp [errW_none, errW_some] <;> rfl) | (simp [*, errW_none, errW_some] <;> rfl), by repeat (first | (with_reducible first | exact HB.out | apply below_alloc | apply pw_below_drewN | apply below_drew1) | exact HB.out)⟩
 ·replace c3 := Bool.eq_false_iff.mpr c3
  subst c3
  have H1 : (some false) = some r := by rw [if_neg (show ¬ (false = true) by decide)] at H; exact H
  clear H
  have H := H1
  clear H1
  obtain rfl := Option.some.inj H
  go_enter Try.func14, Try.ntmps14
  go_wp2_with (first | ((with_reducible refine gate_callee (f := 30) rfl ?_); refine goesL_ (some 6) rfl rfl Try.func30 (by kernel_rfl) rfl #[.slice A0 l0.length c0] rfl (by (try simp only [List.map_toArray, List.map_cons, List.map_nil]); first | done | rfl | (simp only [List.length_drop, List.length_take]; rfl)) ?_; (with_reducible refine (spec_l3Short.calls k _ _ l0 false _ ?side1 ?side2 A2.out).mono ?_); (case side1 => repeat (first | exact HR0.out | (with_reducible refine Kd.C_alloc ?_ _) | (with_reducible refine Kd.C_drewN ?_ _) | (with_reducible refine Kd.C_drew ?_))); (case side2 => exact HC0.out); rintro e w' ⟨rfl, ⟨nd, rfl⟩⟩; refine ⟨_, rfl, ?_⟩))
  go_ret
  exact ⟨by first | rfl | (simp [errW_none, errW_some] <;> rfl) | (simp [*, errW_none, errW_some] <;> rfl), by repeat (first | (with_reducible first | exact HB.out | apply below_alloc | apply pw_below_drewN | apply below_drew1) | exact HB.out)⟩

/-! ### impl_RowsOnce: function 15 -/
def on_any (K : Nat) (b s : Int) : List S42 → Option Bool
 | [] => some false
 | x :: l => (impl_row_meets.f K b s x.f0 x.f1).bind fun m => if m = true then some true else on_any K b s l
def IxPost (r : Bool) (w : World) (e : Ending) (w' : World) : Prop := (∃ i : Int, e = .returned (.int .i64 i) ∧ decide (i ≥ 0) = r) ∧ Below w.heap.size w w'
set_option maxRecDepth 100000 in
set_option maxHeartbeats 2000000 in
theorem on_ix (K : Nat) (b s : Int) (A : Option Addr) (c : Nat) (xs : List S42) (r : Bool) (w : World) (hr : Kd.C k42 w A xs.length xs) (hx : on_any K b s xs = some r) :
  Calls Try.prog 44 #[.slice A xs.length c, .func (.func 33) #[.agg #[.int .i64 b, .int .i64 s]] #[]] w (IxPost r w) := by
 have hu := Try.underlying42
 have HR := Aside0.mk hr
 have hm : xs.length ≤ 9223372036854775807 := Kd.C_max hr
 have HX := Aside0.mk hx
 clear hr hx
 obtain ⟨n, hn⟩ : ∃ n, xs.length = n := ⟨_, rfl⟩
 rw [hn] at hm ⊢
 have HN := Aside0.mk hn
 clear hn
 go_enter Try.func44, Try.ntmps44
 go_wp2
 go_loopw [5, 8] (fun _ i wr => ∃ k : Nat, k ≤ n ∧ i = .int .i64 k ∧ Aside0 (on_any K b s (xs.drop k) = some r) ∧ Below w.heap.size w wr) (fun _ i _ => n - (intOf i).toNat)
 case atStart => exact ⟨0, Nat.zero_le _, rfl, HX, Below.refl _ _⟩
 case round =>
  obtain ⟨k, hk, rfl, HF, hb⟩ := hrel
  by_cases hlt : k < n
  ·obtain ⟨x, hx, hd⟩ : ∃ x, rd_T42 xs (k : Int) = x ∧ xs.drop k = x :: xs.drop (k + 1) := by
    have hk2 : k < xs.length := by rw [HN.out]; exact hlt
    refine ⟨_, rfl, ?_⟩
    rw [List.drop_eq_getElem_cons hk2]
    unfold rd_T42
    rw [Int.toNat_natCast, List.getD_eq_getElem?_getD, List.getElem?_eq_getElem hk2, Option.getD_some]
   obtain ⟨ad, e1, q0, q1⟩ := at_T42 (Kd.C_below HR.out hb) (k : Int) (by omega) (by rw [HN.out]; omega)
   subst e1
   rw [hx, Int.toNat_natCast] at q0 q1
   have hS := HF.out
   rw [hd, on_any] at hS
   obtain ⟨m, hmm, hS⟩ := Option.bind_eq_some_iff.mp hS
   have HM := Aside0.mk hmm
   have HS := Aside0.mk hS
   have HB := Aside0.mk hb
   clear hS hb hx hd hmm HF
   by_cases cm : m = true
   ·subst cm
    go_wp2_with (go_at_call 33; (with_reducible refine (impl_row_meets.calls K _ _ _ _ true _ HM.out).mono ?_); rintro e w' ⟨rfl, hb2⟩; have HB2 := Aside0.mk hb2; clear hb2)
    go_ret
    refine ⟨⟨(k : Int), rfl, ?_⟩, below_step HB.out HB2.out⟩
    have hrr : some true = some r := by simpa using HS.out
    obtain rfl := Option.some.inj hrr
    exact decide_eq_true (by omega)
   ·have cm2 : m = false := Bool.eq_false_iff.2 cm
    subst cm2
    go_wp2_with (go_at_call 33; (with_reducible refine (impl_row_meets.calls K _ _ _ _ false _ HM.out).mono ?_); rintro e w' ⟨rfl, hb2⟩; have HB2 := Aside0.mk hb2; clear hb2)
    go_roundw
    case rel => exact ⟨k + 1, by omega, by go_num, ⟨by have := HS.out; rw [if_neg (by decide)] at this; exact this⟩, below_step HB.out HB2.out⟩
    case measure => simp [intOf]; omega
  ·obtain rfl : k = n := by omega
   have hS := HF.out
   rw [List.drop_of_length_le (by rw [HN.out]; omega), on_any] at hS
   obtain rfl := Option.some.inj hS
   clear hS HF HX
   go_wp2
   go_ret
   exact ⟨⟨-1, rfl, rfl⟩, hb⟩
set_option maxHeartbeats 2000000 in
theorem on_contains (K : Nat) (b s : Int) (A : Option Addr) (c : Nat) (xs : List S42) (r : Bool) (w : World) (hr : Kd.C k42 w A xs.length xs) (hx : on_any K b s xs = some r) :
  Calls Try.prog 32 #[.slice A xs.length c, .func (.func 33) #[.agg #[.int .i64 b, .int .i64 s]] #[]] w fun e w' => e = .returned (.bool r) ∧ Below w.heap.size w w' := by
 have IX := Aside0.mk (on_ix K b s A c xs r w hr hx)
 clear hr hx
 go_enter Try.func32, Try.ntmps32
 go_wp2_with (go_at_call 44; (with_reducible refine IX.out.mono ?_); rintro e w' ⟨⟨i, rfl, hi⟩, hb⟩; have HI := Aside0.mk hi; have HB := Aside0.mk hb; clear hi hb)
 go_ret
 rw [← HI.out]
 exact ⟨rfl, HB.out⟩
def on_two (K : Nat) (pre : List S42) : List S42 → Option Bool
 | [] => some false
 | x :: l => (on_any K x.f0 x.f1 pre).bind fun m => if m = true then some true else on_two K (pre ++ [x]) l
def impl_RowsOnce.f (k : Nat) (l0 : List (List Int)) : Option Bool := (impl_rowsOf.f k l0).bind fun b => (impl_moving.f b.1).bind fun xs => (on_two k [] xs).bind fun o => if o = true then some false else impl_RowsCover.f k l0
theorem on_any_mono (K : Nat) (b s : Int) : ∀ l : List S42, LeO (on_any K b s l) (on_any (K + 1) b s l)
 | [] => LeO.refl _
 | x :: l => LeO.bind (impl_row_meets.mono _ _ _ _ _) (fun m => LeO.ite (LeO.refl _) (on_any_mono K b s l))
theorem on_two_mono (K : Nat) : ∀ (l pre : List S42), LeO (on_two K pre l) (on_two (K + 1) pre l)
 | [], _ => LeO.refl _
 | x :: l, pre => LeO.bind (on_any_mono _ _ _ _) (fun m => LeO.ite (LeO.refl _) (on_two_mono K l _))
theorem impl_RowsOnce.mono : ∀ a0 k, LeO (impl_RowsOnce.f k a0) (impl_RowsOnce.f (k + 1) a0) := by
 intro a0 k
 unfold impl_RowsOnce.f
 exact LeO.bind (impl_rowsOf.mono _ _) (fun b => LeO.bind (LeO.refl _) (fun xs => LeO.bind (on_two_mono _ _ _) (fun o => LeO.ite (LeO.refl _) (impl_RowsCover.mono _ _))))
set_option maxRecDepth 100000 in
set_option maxHeartbeats 4000000 in
theorem impl_RowsOnce.calls (k : Nat) (A0 : Option Addr) (c0 : Nat) (l0 : List (List Int)) (r : Bool) (w : World) (hr0 : Kd.C (Kd.slice 3 (Kd.int .i64)) w A0 l0.length l0) (hc0 : l0.length ≤ c0) (h : impl_RowsOnce.f k l0 = some r) :
  Calls Try.prog 15 #[.slice A0 l0.length c0] w fun e w' => e = .returned (.bool r) ∧ Below w.heap.size w w' := by
 unfold impl_RowsOnce.f at h
 obtain ⟨⟨rl, ok⟩, h1, h⟩ := Option.bind_eq_some_iff.mp h
 dsimp only at h
 obtain ⟨xs, h2, h⟩ := Option.bind_eq_some_iff.mp h
 obtain ⟨o, h3, h⟩ := Option.bind_eq_some_iff.mp h
 have HR := Aside0.mk hr0
 have HC0 := Aside0.mk hc0
 have R1 := Aside0.mk h1
 have R2 := Aside0.mk h2
 have R3 := Aside0.mk h3
 have R4 := Aside0.mk h
 have hu := Try.underlying42
 clear hr0 hc0 h1 h2 h3 h
 go_enter Try.func15, Try.ntmps15
 go_wp2_with (first | (go_at_call 22; (with_reducible refine (impl_rowsOf.calls k _ _ l0 rl ok _ HR.out HC0.out R1.out).mono ?_); rintro e w1 ⟨v, rfl, hv, hb⟩; obtain ⟨A1, c1, rfl⟩ := Kd.R_slice hv; have HV := Aside0.mk hv; have HB := Aside0.mk hb; clear hv hb) | (go_at_call 23; (with_reducible refine (impl_moving.calls _ _ rl xs _ (Kd.R_reads' HV.out).2.2 (Kd.R_reads' HV.out).2.1 R2.out).mono ?_); rintro e w2 ⟨v2, rfl, hv2, hb2⟩; obtain ⟨A2, c2, rfl⟩ := Kd.R_slice hv2; have HV2 := Aside0.mk hv2; have HB2 := Aside0.mk hb2; clear hv2 hb2))
 have hn9 : xs.length ≤ 9223372036854775807 := Kd.C_max (Kd.R_reads' HV2.out).2.2
 have hcap : xs.length ≤ c2 := (Kd.R_reads' HV2.out).2.1
 go_loopw [16] (fun i wr => ∃ j : Nat, j ≤ xs.length ∧ i = .int .i64 j ∧ Aside0 (on_two k (xs.take j) (xs.drop j) = some o) ∧ Below w2.heap.size w2 wr) (fun i _ => xs.length - (intOf i).toNat)
 case atStart => exact ⟨0, Nat.zero_le _, rfl, R3, Below.refl _ _⟩
 case round =>
  obtain ⟨j, hj, rfl, HF, hb⟩ := hrel
  by_cases hlt : j < xs.length
  ·obtain ⟨x, hx, hd⟩ : ∃ x, rd_T42 xs (j : Int) = x ∧ xs.drop j = x :: xs.drop (j + 1) := by
    refine ⟨_, rfl, ?_⟩
    rw [List.drop_eq_getElem_cons hlt]
    unfold rd_T42
    rw [Int.toNat_natCast, List.getD_eq_getElem?_getD, List.getElem?_eq_getElem hlt, Option.getD_some]
   have htk : xs.take j ++ [x] = xs.take (j + 1) := by
    rw [List.take_succ_eq_append_getElem hlt, ← hx]
    unfold rd_T42
    rw [Int.toNat_natCast, List.getD_eq_getElem?_getD, List.getElem?_eq_getElem hlt, Option.getD_some]
   obtain ⟨ad, e1, q0, q1⟩ := at_T42 (Kd.C_below (Kd.R_reads' HV2.out).2.2 hb) (j : Int) (by omega) (by omega)
   subst e1
   rw [hx, Int.toNat_natCast] at q0 q1
   have hS := HF.out
   rw [hd, on_two] at hS
   obtain ⟨m, hmm, hS⟩ := Option.bind_eq_some_iff.mp hS
   have htl : (xs.take j).length = j := by rw [List.length_take]; omega
   have HM := Aside0.mk hmm
   have HS := Aside0.mk hS
   have HBB := Aside0.mk hb
   have HTK := Aside0.mk htk
   have HCT : Aside0 (Kd.C k42 wr (some ad) (xs.take j).length (xs.take j)) := ⟨Kd.C_take (Kd.C_below (Kd.R_reads' HV2.out).2.2 hb) hj⟩
   have CC := Aside0.mk (fun W hw => on_contains k x.f0 x.f1 (some ad) c2 (xs.take j) m W hw hmm)
   rw [htl] at CC HCT
   clear hS hb hx hd hmm HF htl htk
   go_wp2
   obtain ⟨W0, hW0⟩ : ∃ W0, wr.alloc (.cells #[.int .i64 x.f0, .int .i64 x.f1] 42) = W0 := ⟨_, rfl⟩
   have bx := blk_new wr (.cells #[.int .i64 x.f0, .int .i64 x.f1] 42)
   have b0 := (blk_cell bx 0).trans (show _ = some (Value.int .i64 x.f0) from rfl)
   have b1 := (blk_cell bx 1).trans (show _ = some (Value.int .i64 x.f1) from rfl)
   have HBW := Aside0.mk (below_alloc HBB.out (.cells #[.int .i64 x.f0, .int .i64 x.f1] 42))
   have HCW := Aside0.mk (Kd.C_alloc HCT.out (.cells #[.int .i64 x.f0, .int .i64 x.f1] 42))
   rw [hW0] at b0 b1 HBW HCW ⊢
   clear hW0 bx
   have hjc : j ≤ c2 := by omega
   have hjc2 : (j : Int) ≤ (c2 : Int) := by omega
   go_still_tail 5, (by kernel_rfl)
   by_cases cm : m = true
   ·subst cm
    have ho : some true = some o := by simpa using HS.out
    obtain rfl := Option.some.inj ho
    have h4 : some false = some r := by simpa using R4.out
    obtain rfl := Option.some.inj h4
    clear ho h4 HS R4
    go_wp2_with (go_at_call 32; refine (CC.out _ (Kd.C_drew HCW.out)).mono ?_; rintro e w3 ⟨rfl, hb3⟩; have HB3 : Aside0 (Below W0.drew.heap.size W0.drew w3) := Aside0.mk hb3; clear hb3)
    go_ret
    exact ⟨rfl, below_step (below_step (below_step HB.out HB2.out) (below_drew1 HBW.out)) HB3.out⟩
   ·have cm2 : m = false := Bool.eq_false_iff.2 cm
    subst cm2
    clear cm
    go_wp2_with (go_at_call 32; refine (CC.out _ (Kd.C_drew HCW.out)).mono ?_; rintro e w3 ⟨rfl, hb3⟩; have HB3 : Aside0 (Below W0.drew.heap.size W0.drew w3) := Aside0.mk hb3; clear hb3)
    go_roundw
    case rel => exact ⟨j + 1, by omega, by go_num, ⟨by have := HS.out; rw [if_neg (by decide), HTK.out] at this; exact this⟩, below_step (below_drew1 HBW.out) HB3.out⟩
    case measure => simp [intOf]; omega
  ·obtain rfl : j = xs.length := by omega
   have hS := HF.out
   rw [List.drop_of_length_le (Nat.le_refl _), on_two] at hS
   obtain rfl := Option.some.inj hS
   have h4 := R4.out
   rw [if_neg (by decide)] at h4
   have H4 := Aside0.mk h4
   have HBB := Aside0.mk hb
   clear hS h4 HF hb R4 R3
   go_wp2_with (go_at_call 13; (with_reducible refine (impl_RowsCover.calls k _ _ l0 r _ (Kd.C_below HR.out (below_step (below_step HB.out HB2.out) HBB.out)) HC0.out H4.out).mono ?_); rintro e w3 ⟨rfl, hb3⟩; have HB3 := Aside0.mk hb3; clear hb3)
   go_ret
   exact ⟨rfl, below_step (below_step (below_step HB.out HB2.out) HBB.out) HB3.out⟩

end Go.Proofs.Ytdiaifmlockohaa.G
