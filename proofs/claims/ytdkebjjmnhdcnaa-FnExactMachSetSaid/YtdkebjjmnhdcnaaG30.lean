-- Made by gprint.py (the kit's print with contracts of this session's own among its functions).
import Derived.Test.YtdkebjjmnhdcnaaG0
import Derived.Test.YtdkebjjmnhdcnaaG28
import Derived.Test.YtdkebjjmnhdcnaaG29
namespace Go.Proofs.Ytdkebjjmnhdcnaa.G
open Go.RowKit Go.Proofs.YtdkebjjmnhdcnaaW.PrintWords Go.Proofs.YtdkebjjmnhdcnaaW.PrintLast Go.Proofs.YtdkebjjmnhdcnaaW.PrintMore
attribute [local go_sem] max2_int min2_int max_two min_two max_three min_three max_four min_four   -- for this text's walks alone
set_option linter.unusedVariables false
set_option linter.unusedSimpArgs false

/-! ### slices_Index_int_int: function 60 -/
def slices_Index_int_int.l0 : Nat → List Int → Int → Int → Int → Option (Int)
 | 0, _, _, _, _ => none
 | k + 1, x0, x1, x7, x8 => if x8 < x7 then (if 0 ≤ x8 then (if x8 < (x0.length : Int) then (if x1 = (rd x0 x8) then (some x8) else (slices_Index_int_int.l0 k x0 x1 x7 (wrap64 (x8 + 1)))) else (none)) else (none)) else (some (-1))
def slices_Index_int_int.f (k : Nat) (l0 : List Int) (a1 : Int) : Option (Int) := slices_Index_int_int.l0 k l0 a1 (l0.length : Int) 0
theorem slices_Index_int_int.mono_l : ∀ k, (∀ y0 y1 y2 y3, LeO (slices_Index_int_int.l0 k y0 y1 y2 y3) (slices_Index_int_int.l0 (k + 1) y0 y1 y2 y3))
 | 0 => fun _ _ _ _ r h => by simp [slices_Index_int_int.l0] at h
 | k + 1 => by
  have ih0 := slices_Index_int_int.mono_l k
  ·intro y0 y1 y2 y3
   unfold slices_Index_int_int.l0
   repeat' first
   | (with_reducible exact ih0 _ _ _ _)
   | (with_reducible exact LeO.refl _)
   | (with_reducible exact LeO.none _)
   | (with_reducible refine LeO.ite ?_ ?_)
   | (with_reducible refine LeO.bind ?_ (fun _ => ?_))
   | exact ih0 _ _ _ _
   | exact LeO.none _
   | refine LeO.ite ?_ ?_
   | refine LeO.bind ?_ (fun _ => ?_)
theorem slices_Index_int_int.mono : ∀ a0 a1 k, LeO (slices_Index_int_int.f k a0 a1) (slices_Index_int_int.f (k + 1) a0 a1) := by
 intro a0 a1 k
 have ih0 := slices_Index_int_int.mono_l k
 unfold slices_Index_int_int.f
 repeat' first
   | (with_reducible exact ih0 _ _ _ _)
   | (with_reducible exact LeO.refl _)
   | (with_reducible exact LeO.none _)
   | (with_reducible refine LeO.ite ?_ ?_)
   | (with_reducible refine LeO.bind ?_ (fun _ => ?_))
   | exact ih0 _ _ _ _
   | exact LeO.none _
   | refine LeO.ite ?_ ?_
   | refine LeO.bind ?_ (fun _ => ?_)
set_option maxHeartbeats 8000000 in
set_option maxRecDepth 100000 in
theorem slices_Index_int_int.calls (k : Nat) (A0 : Option Addr) (c0 : Nat) (l0 : List Int) (a1 : Int) (r : Int) (w : World) (hr0 : Kd.C (Kd.int .i64) w A0 l0.length l0) (hc0 : l0.length ≤ c0) (h : slices_Index_int_int.f k l0 a1 = some r) :
  Calls Try.prog 60 #[.slice A0 l0.length c0, .int .i64 a1] w fun e w' => e = .returned (.int .i64 r) ∧ Drawn0 w w' := by
 have HR0 := Aside0.mk hr0
 have HC0 := Aside0.mk hc0
 clear hr0 hc0
 have H : (slices_Index_int_int.l0 k l0 a1 (l0.length : Int) 0) = some r := h
 clear h
 have H' := Aside0.mk H
 clear H
 go_enter Try.func60, Try.ntmps60
 go_wp2
 go_loopg [8] k (fun kq v8 w' => ∃ (x8_1 : Int), v8 = .int .i64 x8_1 ∧ Aside0 (slices_Index_int_int.l0 kq l0 a1 (l0.length : Int) x8_1 = some r) ∧ Aside0 (kq ≤ k) ∧ Drawn0 w w')
 case atStart => exact ⟨(0), (by first | rfl | (simp; done) | (simp [*]; done) | (simp only [IntKind.wrap_i64, wrap64]; done)), H', ⟨Nat.le_refl _⟩, by repeat (first | exact Drawn0.refl _ | apply Drawn0.step)⟩
 case round =>
  clear H'
  try clear p2
  obtain ⟨x8_1, rfl, HA, HK1, ⟨m1, rfl⟩⟩ := hrel
  cases gk with
  | zero => exact absurd HA.out (by simp [slices_Index_int_int.l0])
  | succ k1 =>
   have H := HA.out
   clear HA
   simp only [slices_Index_int_int.l0] at H
   by_cases c3 : x8_1 < (l0.length : Int)
   ·rw [if_pos c3] at H
    have c3b0 : decide (x8_1 < (l0.length : Int)) = true := decide_eq_true c3
    clear c3
    by_cases c4 : 0 ≤ x8_1
    ·rw [if_pos c4] at H
     have c4b0 : decide (0 ≤ x8_1) = true := decide_eq_true c4
     clear c4
     by_cases c5 : x8_1 < (l0.length : Int)
     ·rw [if_pos c5] at H
      have c5b0 : decide (x8_1 < (l0.length : Int)) = true := decide_eq_true c5
      clear c5
      by_cases c6 : a1 = (rd l0 x8_1)
      ·rw [if_pos c6] at H
       have c6b0 : (a1 == (rd l0 x8_1)) = true := beq_iff_eq.mpr c6
       have c6b1 : (a1 != (rd l0 x8_1)) = false := bne_eq_false_iff_eq.mpr c6
       clear c6
       obtain rfl := Option.some.inj H
       have p484 : 0 ≤ (x8_1 : Int) := of_decide_eq_true (by first | (with_reducible assumption) | assumption)
       have q484 : x8_1 < (l0.length : Int) := of_decide_eq_true (by first | (with_reducible assumption) | assumption)
       obtain ⟨ad484, e484, hx484_0⟩ := Kd.at_int HR0.out x8_1 p484 q484
       cases e484
       replace p484 := eq_true p484
       replace q484 := eq_true q484
       go_wp2
       go_ret
       exact ⟨by first | rfl | (simp; done) | (simp [*]; done), by repeat (first | exact Drawn0.refl _ | apply Drawn0.step)⟩
      ·rw [if_neg c6] at H
       have c6b0 : (a1 == (rd l0 x8_1)) = false := beq_eq_false_iff_ne.mpr c6
       have c6b1 : (a1 != (rd l0 x8_1)) = true := bne_iff_ne.mpr c6
       have H' := Aside0.mk H
       clear H
       have p484 : 0 ≤ (x8_1 : Int) := of_decide_eq_true (by first | (with_reducible assumption) | assumption)
       have q484 : x8_1 < (l0.length : Int) := of_decide_eq_true (by first | (with_reducible assumption) | assumption)
       obtain ⟨ad484, e484, hx484_0⟩ := Kd.at_int HR0.out x8_1 p484 q484
       cases e484
       replace p484 := eq_true p484
       replace q484 := eq_true q484
       go_wp2
       go_roundg k1
       case measure => have := HK1.out; omega
       case rel => exact ⟨(wrap64 (x8_1 + 1)), (by first | rfl | (simp; done) | (simp [*]; done) | (simp only [IntKind.wrap_i64, wrap64]; done)), H', ⟨by have := HK1.out; omega⟩, by repeat (first | exact Drawn0.refl _ | apply Drawn0.step)⟩
     ·rw [if_neg c5] at H
      exact absurd H (by simp)
    ·rw [if_neg c4] at H
     exact absurd H (by simp)
   ·rw [if_neg c3] at H
    have c3b0 : decide (x8_1 < (l0.length : Int)) = false := decide_eq_false c3
    clear c3
    obtain rfl := Option.some.inj H
    go_wp2
    go_ret
    exact ⟨by first | rfl | (simp; done) | (simp [*]; done), by repeat (first | exact Drawn0.refl _ | apply Drawn0.step)⟩

/-! ### slices_Contains_int_int: function 53 -/
def slices_Contains_int_int.f (k : Nat) (l0 : List Int) (a1 : Int) : Option (Bool) := (slices_Index_int_int.f k l0 a1).bind fun t485 => (some (decide (t485 ≥ 0)))
theorem slices_Contains_int_int.mono : ∀ a0 a1 k, LeO (slices_Contains_int_int.f k a0 a1) (slices_Contains_int_int.f (k + 1) a0 a1) := by
 intro a0 a1 k
 unfold slices_Contains_int_int.f
 repeat' first
   | (with_reducible exact slices_Index_int_int.mono _ _ _)
   | (with_reducible exact LeO.refl _)
   | (with_reducible exact LeO.none _)
   | (with_reducible refine LeO.ite ?_ ?_)
   | (with_reducible refine LeO.bind ?_ (fun _ => ?_))
   | exact slices_Index_int_int.mono _ _ _
   | exact LeO.none _
   | refine LeO.ite ?_ ?_
   | refine LeO.bind ?_ (fun _ => ?_)
set_option maxHeartbeats 8000000 in
set_option maxRecDepth 100000 in
theorem slices_Contains_int_int.calls (k : Nat) (A0 : Option Addr) (c0 : Nat) (l0 : List Int) (a1 : Int) (r : Bool) (w : World) (hr0 : Kd.C (Kd.int .i64) w A0 l0.length l0) (hc0 : l0.length ≤ c0) (h : slices_Contains_int_int.f k l0 a1 = some r) :
  Calls Try.prog 53 #[.slice A0 l0.length c0, .int .i64 a1] w fun e w' => e = .returned (.bool r) ∧ Drawn0 w w' := by
 have HR0 := Aside0.mk hr0
 have HC0 := Aside0.mk hc0
 clear hr0 hc0
 have H : ((slices_Index_int_int.f k l0 a1).bind fun t485 => (some (decide (t485 ≥ 0)))) = some r := h
 clear h
 replace H := Option.bind_eq_some_iff.mp H
 obtain ⟨t485, A30, H⟩ := H
 replace H : (some (decide (t485 ≥ 0))) = some r := H
 have A3 := Aside0.mk A30
 clear A30
 obtain rfl := Option.some.inj H
 go_enter Try.func53, Try.ntmps53
 go_wp2_with (first | ((with_reducible refine gate_callee (f := 60) rfl ?_); refine goesL_ (some 7) rfl rfl Try.func60 (by kernel_rfl) rfl #[.slice A0 l0.length c0, .int .i64 a1] rfl (by (try simp only [List.map_toArray, List.map_cons, List.map_nil]); first | done | rfl | (simp only [List.length_drop, List.length_take]; rfl)) ?_; (with_reducible refine (slices_Index_int_int.calls k _ _ l0 a1 t485 _ ?side1 ?side2 A3.out).mono ?_); (case side1 => repeat (first | exact HR0.out | (with_reducible refine Kd.C_alloc ?_ _) | (with_reducible refine Kd.C_drewN ?_ _) | (with_reducible refine Kd.C_drew ?_))); (case side2 => exact HC0.out); rintro e w' ⟨rfl, ⟨nd, rfl⟩⟩; refine ⟨_, rfl, ?_⟩))
 go_ret
 exact ⟨by first | rfl | (simp; done) | (simp [*]; done), by repeat (first | exact Drawn0.refl _ | apply Drawn0.step)⟩

/-! ### impl_SetOf: function 26 -/
def so_out (x : Int) : Bool := !(decide (0 ≤ x) && decide (x ≤ 59))
theorem so_in_eq (n lo hi : Int) : impl_in.f n lo hi = some (decide (lo ≤ n) && decide (n ≤ hi)) := by
 unfold impl_in.f
 by_cases h : n ≥ lo
 ·rw [if_pos h, decide_eq_true (show lo ≤ n from h)]; simp
 ·rw [if_neg h, decide_eq_false (show ¬ lo ≤ n from h)]; simp
set_option maxHeartbeats 2000000 in
set_option maxRecDepth 100000 in
theorem so_out_calls (x : Int) (w : World) : Calls Try.prog 49 #[.int .i64 x] w fun e w' => e = .returned (.bool (so_out x)) ∧ Below w.heap.size w w' := by
 have A := Aside0.mk (so_in_eq x 0 59)
 go_enter Try.func49, Try.ntmps49
 go_wp2_with (first | (go_at_call 50; (with_reducible refine (impl_in.calls x 0 59 _ _ A.out).mono ?_); rintro e w' ⟨rfl, hd⟩; have HD := Aside0.mk hd.below; clear hd))
 go_ret
 exact ⟨by first | rfl | (simp [so_out]; done), HD.out⟩
theorem so_any_hit {p : Int → Bool} {l : List Int} {k : Nat} (h : p (rd l (k : Int)) = true) (hk : k < l.length) : l.any p = true := by
 rw [List.any_eq_true]
 refine ⟨l[k], List.getElem_mem hk, ?_⟩
 simpa [rd, List.getD_eq_getElem?_getD, hk] using h
theorem so_any_step {p : Int → Bool} {l : List Int} {k : Nat} (h : ∀ j : Nat, j < k → p (rd l (j : Int)) = false) (hk : p (rd l (k : Int)) = false) : ∀ j : Nat, j < k + 1 → p (rd l (j : Int)) = false := by
 intro j hj
 rcases Nat.lt_succ_iff_lt_or_eq.1 hj with h1 | rfl
 ·exact h j h1
 ·exact hk
theorem so_any_none {p : Int → Bool} {l : List Int} {k : Nat} (h : ∀ j : Nat, j < k → p (rd l (j : Int)) = false) (hk : l.length ≤ k) : l.any p = false := by
 rw [List.any_eq_false]
 intro x hx
 obtain ⟨j, hj, rfl⟩ := List.mem_iff_getElem.1 hx
 have := h j (by omega)
 simpa [rd, List.getD_eq_getElem?_getD, hj] using this
set_option maxHeartbeats 1600000 in
theorem so_index_calls (p : Int → Bool) (A0 : Option Addr) (c0 : Nat) (l0 : List Int) (w : World) (hr0 : Kd.C (Kd.int .i64) w A0 l0.length l0) (hc0 : l0.length ≤ c0)
  (hp : ∀ x W, Below w.heap.size w W → Calls Try.prog 49 #[.int .i64 x] W fun e W' => e = .returned (.bool (p x)) ∧ Below W.heap.size W W') :
  Calls Try.prog 71 #[.slice A0 l0.length c0, .func (.func 49) #[] #[]] w fun e w' => ∃ i : Int, e = .returned (.int .i64 i) ∧ Aside0 (decide (0 ≤ i) = l0.any p) ∧ Below w.heap.size w w' := by
 have HR0 := Aside0.mk hr0
 have HC0 := Aside0.mk hc0
 have HP := Aside0.mk hp
 clear hr0 hc0 hp
 go_enter Try.func71, Try.ntmps71
 go_wp2
 go_loopw [8] (fun v8 wr => ∃ k : Nat, v8 = .int .i64 k ∧ k ≤ l0.length ∧ Aside0 (Below w.heap.size w wr) ∧ Aside0 (∀ j : Nat, j < k → p (rd l0 j) = false)) (fun v8 _ => l0.length - (intOf v8).toNat)
 case atStart => exact ⟨0, rfl, Nat.zero_le _, ⟨Below.refl _ _⟩, ⟨fun j hj => absurd hj (by omega)⟩⟩
 case round =>
  obtain ⟨k, rfl, hk, HB, HF⟩ := hrel
  have hm : l0.length ≤ 9223372036854775807 := HR0.out.2.1
  by_cases hlt : k < l0.length
  ·obtain ⟨ad, e1, hx⟩ := Kd.at_int HR0.out (k : Int) (by omega) (by omega)
   cases e1
   replace hx := pw_cell_below HB.out hx
   rw [Int.toNat_natCast] at hx
   have h1 : decide ((k : Int) < (l0.length : Int)) = true := decide_eq_true (by omega)
   have h2 : decide (k < l0.length) = true := decide_eq_true hlt
   cases hpk : p (rd l0 (k : Int)) with
   | true =>
    have HC := Aside0.mk (HP.out (rd l0 (k : Int)) wr HB.out)
    rw [hpk] at HC
    have HK := Aside0.mk hpk
    clear hpk
    go_wp2_with (first | (go_at_call 49; (with_reducible refine HC.out.mono ?_); rintro e w' ⟨rfl, hb⟩; have HB2 := Aside0.mk hb; clear hb))
    go_ret
    exact ⟨k, rfl, ⟨by rw [so_any_hit HK.out hlt]; exact decide_eq_true (by omega)⟩, below_step HB.out HB2.out⟩
   | false =>
    have HC := Aside0.mk (HP.out (rd l0 (k : Int)) wr HB.out)
    rw [hpk] at HC
    have HK := Aside0.mk hpk
    clear hpk
    go_wp2_with (first | (go_at_call 49; (with_reducible refine HC.out.mono ?_); rintro e w' ⟨rfl, hb⟩; have HB2 := Aside0.mk hb; clear hb))
    go_roundw
    case rel => exact ⟨k + 1, by go_num, by omega, ⟨below_step HB.out HB2.out⟩, ⟨so_any_step HF.out HK.out⟩⟩
    case measure => simp [intOf]; omega
  ·have h1 : decide ((k : Int) < (l0.length : Int)) = false := decide_eq_false (by omega)
   have h2 : decide (k < l0.length) = false := decide_eq_false hlt
   go_wp2
   go_ret
   exact ⟨-1, rfl, ⟨by rw [so_any_none HF.out (by omega)]; rfl⟩, HB.out⟩

set_option maxHeartbeats 800000 in
theorem so_contains_calls (p : Int → Bool) (A0 : Option Addr) (c0 : Nat) (l0 : List Int) (w : World) (hr0 : Kd.C (Kd.int .i64) w A0 l0.length l0) (hc0 : l0.length ≤ c0)
  (hp : ∀ x W, Below w.heap.size w W → Calls Try.prog 49 #[.int .i64 x] W fun e W' => e = .returned (.bool (p x)) ∧ Below W.heap.size W W') :
  Calls Try.prog 48 #[.slice A0 l0.length c0, .func (.func 49) #[] #[]] w fun e w' => e = .returned (.bool (l0.any p)) ∧ Below w.heap.size w w' := by
 have HX := Aside0.mk (so_index_calls p A0 c0 l0 w hr0 hc0 hp)
 clear hr0 hc0 hp
 go_enter Try.func48, Try.ntmps48
 go_wp2_with (first | (go_at_call 71; (with_reducible refine HX.out.mono ?_); rintro e w' ⟨i, rfl, hi, hb⟩; have HB := Aside0.mk hb; clear hb))
 go_ret
 exact ⟨by rw [← hi.out]; rfl, HB.out⟩
def impl_SetOf.f (k : Nat) (l0 : List Int) : Option (ByteArray × Bool) := if l0.any so_out = true then some (⟨#[]⟩, false) else impl_made.f (fun x => slices_Contains_int_int.f k l0 x) k 60 1 0
theorem so_made_p (p q : Int → Option Bool) (hpq : ∀ x, LeO (p x) (q x)) : ∀ k, (∀ y0 y1 y2 y3 y4, LeO (impl_made.l0 p k y0 y1 y2 y3 y4) (impl_made.l0 q k y0 y1 y2 y3 y4)) ∧ (∀ y0 y1 y2 y3 y4, LeO (impl_made.l1 p k y0 y1 y2 y3 y4) (impl_made.l1 q k y0 y1 y2 y3 y4))
 | 0 => ⟨fun _ _ _ _ _ r h => by simp [impl_made.l0] at h, fun _ _ _ _ _ r h => by simp [impl_made.l1] at h⟩
 | k + 1 => by
  obtain ⟨ih0, ih1⟩ := so_made_p p q hpq k
  refine ⟨?_, ?_⟩
  ·intro y0 y1 y2 y3 y4
   unfold impl_made.l0
   repeat' first
   | (with_reducible exact ih0 _ _ _ _ _)
   | (with_reducible exact ih1 _ _ _ _ _)
   | (with_reducible exact hpq _)
   | (with_reducible exact LeO.refl _)
   | (with_reducible refine LeO.ite ?_ ?_)
   | (with_reducible refine LeO.bind ?_ (fun _ => ?_))
  ·intro y0 y1 y2 y3 y4
   unfold impl_made.l1
   repeat' first
   | (with_reducible exact ih1 _ _ _ _ _)
   | (with_reducible exact hpq _)
   | (with_reducible exact LeO.refl _)
   | (with_reducible refine LeO.ite ?_ ?_)
   | (with_reducible refine LeO.bind ?_ (fun _ => ?_))
theorem impl_SetOf.mono : ∀ a0 k, LeO (impl_SetOf.f k a0) (impl_SetOf.f (k + 1) a0) := by
 intro a0 k
 unfold impl_SetOf.f
 refine LeO.ite (LeO.refl _) ?_
 have h1 : LeO (impl_made.f (fun x => slices_Contains_int_int.f k a0 x) k 60 1 0) (impl_made.f (fun x => slices_Contains_int_int.f (k + 1) a0 x) k 60 1 0) := by
  unfold impl_made.f
  exact (so_made_p _ _ (fun x => slices_Contains_int_int.mono _ _ _) k).1 _ _ _ _ _
 have h2 := impl_made.mono (fun x => slices_Contains_int_int.f (k + 1) a0 x) 60 1 0 k
 intro r hr
 exact h2 _ (h1 _ hr)
set_option maxHeartbeats 4000000 in
set_option maxRecDepth 100000 in
theorem so_asks (k : Nat) (B : Nat) (A0 : Option Addr) (c0 : Nat) (l0 : List Int) (x : Int) (b : Bool) (W : World) (hc : W.cell? ⟨B, 0, none⟩ = some (.slice A0 l0.length c0)) (hr : Kd.C (Kd.int .i64) W A0 l0.length l0) (hl : l0.length ≤ c0) (h : slices_Contains_int_int.f k l0 x = some b) :
  Calls Try.prog 52 #[.int .i64 x, .pointer (some ⟨B, 0, none⟩)] W fun e W' => e = .returned (.bool b) ∧ Below W.heap.size W W' := by
 have HR := Aside0.mk hr
 have HL := Aside0.mk hl
 have H := Aside0.mk h
 clear hr hl h
 go_enter Try.func52, Try.ntmps52
 go_wp2_with (first | (go_at_call 53; (with_reducible refine (slices_Contains_int_int.calls k A0 c0 l0 x b _ HR.out HL.out H.out).mono ?_); rintro e w' ⟨rfl, hd⟩; have HB := Aside0.mk hd.below; clear hd))
 go_ret
 exact ⟨rfl, HB.out⟩
set_option maxHeartbeats 4000000 in
set_option maxRecDepth 100000 in
theorem impl_SetOf.calls (k : Nat) (A0 : Option Addr) (c0 : Nat) (l0 : List Int) (r1 : ByteArray) (r2 : Bool) (w : World) (hr0 : Kd.C (Kd.int .i64) w A0 l0.length l0) (hc0 : l0.length ≤ c0) (h : impl_SetOf.f k l0 = some (r1, r2)) :
  Calls Try.prog 26 #[.slice A0 l0.length c0] w fun e w' => e = .returned (.tuple #[.string r1, .bool r2]) ∧ Below w.heap.size w w' := by
 unfold impl_SetOf.f at h
 have HH := Aside0.mk h
 have HL := Aside0.mk hc0
 have hb1 : Below w.heap.size w (w.alloc (.cells #[.slice A0 l0.length c0] 34)) := below_alloc (Below.refl _ _) _
 have hk : (w.alloc (.cells #[.slice A0 l0.length c0] 34)).cell? ⟨w.heap.size, 0, none⟩ = some (.slice A0 l0.length c0) := by go_simp
 have HR1 := Aside0.mk (Kd.C_below hr0 hb1)
 clear h hc0 hr0
 obtain ⟨W1, hW1⟩ : ∃ W1, (w.alloc (.cells #[.slice A0 l0.length c0] 34)) = W1 := ⟨_, rfl⟩
 rw [hW1] at hb1 hk HR1
 have HB1 := Aside0.mk hb1
 clear hb1
 go_enter Try.func26, Try.ntmps26
 go_wp2_with fail
 refine (so_contains_calls so_out A0 c0 l0 W1 HR1.out HL.out (fun x W _ => so_out_calls x W)).mono ?_
 rintro e W2 ⟨rfl, hb⟩
 have hk2 := pw_cell_below hb hk
 have HB2 := Aside0.mk (below_step HB1.out hb)
 have HR2 := Aside0.mk (Kd.C_below HR1.out hb)
 clear hb hk HB1 HR1 hW1
 cases ha : l0.any so_out with
 | true =>
  have hq := HH.out
  rw [ha, if_pos rfl] at hq
  obtain ⟨rfl, rfl⟩ := Prod.mk.inj (Option.some.inj hq)
  clear hq ha
  go_wp2
  go_ret2
  exact ⟨rfl, HB2.out⟩
 | false =>
  have hq := HH.out
  rw [ha, if_neg (by decide)] at hq
  have HQ := Aside0.mk hq
  have HK2 := Aside0.mk hk2
  clear hq ha HH
  go_wp2_with fail
  refine (impl_made.calls 52 _ #[.pointer (some ⟨w.heap.size, 0, none⟩)] (fun x => slices_Contains_int_int.f k l0 x) k 60 1 0 r1 r2 _ ⟨Try.func52, by kernel_rfl, by kernel_rfl⟩ (fun x b W hb hx => so_asks k w.heap.size A0 c0 l0 x b W (pw_cell_below hb HK2.out) (Kd.C_below HR2.out hb) HL.out hx) HQ.out).mono ?_
  rintro e W5 ⟨rfl, hb⟩
  have HB5 := Aside0.mk (below_step HB2.out hb)
  clear hb
  go_wp2
  go_ret2
  exact ⟨rfl, HB5.out⟩

/-! ### laws_eqIntS: function 27 -/
def laws_eqIntS.l0 : Nat → List Int → List Int → Int → Option (Bool)
 | 0, _, _, _ => none
 | k + 1, x0, x1, x5 => if x5 < (x0.length : Int) then (if 0 ≤ x5 then (if x5 < (x1.length : Int) then (if (rd x0 x5) = (rd x1 x5) then (laws_eqIntS.l0 k x0 x1 (wrap64 (x5 + 1))) else (some false)) else (none)) else (none)) else (some true)
def laws_eqIntS.f (k : Nat) (l0 : List Int) (l1 : List Int) : Option (Bool) := if (l0.length : Int) = (l1.length : Int) then (laws_eqIntS.l0 k l0 l1 0) else (some false)
theorem laws_eqIntS.mono_l : ∀ k, (∀ y0 y1 y2, LeO (laws_eqIntS.l0 k y0 y1 y2) (laws_eqIntS.l0 (k + 1) y0 y1 y2))
 | 0 => fun _ _ _ r h => by simp [laws_eqIntS.l0] at h
 | k + 1 => by
  have ih0 := laws_eqIntS.mono_l k
  ·intro y0 y1 y2
   unfold laws_eqIntS.l0
   repeat' first
   | (with_reducible exact ih0 _ _ _)
   | (with_reducible exact LeO.refl _)
   | (with_reducible exact LeO.none _)
   | (with_reducible refine LeO.ite ?_ ?_)
   | (with_reducible refine LeO.bind ?_ (fun _ => ?_))
   | exact ih0 _ _ _
   | exact LeO.none _
   | refine LeO.ite ?_ ?_
   | refine LeO.bind ?_ (fun _ => ?_)
theorem laws_eqIntS.mono : ∀ a0 a1 k, LeO (laws_eqIntS.f k a0 a1) (laws_eqIntS.f (k + 1) a0 a1) := by
 intro a0 a1 k
 have ih0 := laws_eqIntS.mono_l k
 unfold laws_eqIntS.f
 repeat' first
   | (with_reducible exact ih0 _ _ _)
   | (with_reducible exact LeO.refl _)
   | (with_reducible exact LeO.none _)
   | (with_reducible refine LeO.ite ?_ ?_)
   | (with_reducible refine LeO.bind ?_ (fun _ => ?_))
   | exact ih0 _ _ _
   | exact LeO.none _
   | refine LeO.ite ?_ ?_
   | refine LeO.bind ?_ (fun _ => ?_)
set_option maxHeartbeats 8000000 in
set_option maxRecDepth 100000 in
theorem laws_eqIntS.calls (k : Nat) (A0 : Option Addr) (c0 : Nat) (l0 : List Int) (A1 : Option Addr) (c1 : Nat) (l1 : List Int) (r : Bool) (w : World) (hr0 : Kd.C (Kd.int .i64) w A0 l0.length l0) (hc0 : l0.length ≤ c0) (hr1 : Kd.C (Kd.int .i64) w A1 l1.length l1) (hc1 : l1.length ≤ c1) (h : laws_eqIntS.f k l0 l1 = some r) :
  Calls Try.prog 27 #[.slice A0 l0.length c0, .slice A1 l1.length c1] w fun e w' => e = .returned (.bool r) ∧ Drawn0 w w' := by
 have HR0 := Aside0.mk hr0
 have HC0 := Aside0.mk hc0
 clear hr0 hc0
 have HR1 := Aside0.mk hr1
 have HC1 := Aside0.mk hc1
 clear hr1 hc1
 have H : (if (l0.length : Int) = (l1.length : Int) then (laws_eqIntS.l0 k l0 l1 0) else (some false)) = some r := h
 clear h
 by_cases c3 : (l0.length : Int) = (l1.length : Int)
 ·rw [if_pos c3] at H
  have c3b0 : ((l0.length : Int) == (l1.length : Int)) = true := beq_iff_eq.mpr c3
  have c3b1 : ((l0.length : Int) != (l1.length : Int)) = false := bne_eq_false_iff_eq.mpr c3
  have c3b2 : (l0.length == l1.length) = true := by first | simpa using c3 | (simp at c3 ⊢; omega)
  clear c3
  have H' := Aside0.mk H
  clear H
  go_enter Try.func27, Try.ntmps27
  go_wp2
  repeat (go_quiet (fail); (try simp only [IntWalk.i64_left]); try go_wp2)
  go_loopg [5] k (fun kq v5 w' => ∃ (x5_1 : Int), v5 = .int .i64 x5_1 ∧ Aside0 (laws_eqIntS.l0 kq l0 l1 x5_1 = some r) ∧ Aside0 (kq ≤ k) ∧ Drawn0 w w')
  case atStart => exact ⟨(0), (by first | rfl | (simp; done) | (simp [*]; done) | (simp only [IntKind.wrap_i64, wrap64]; done)), H', ⟨Nat.le_refl _⟩, by repeat (first | exact Drawn0.refl _ | apply Drawn0.step)⟩
  case round =>
   clear H'
   try clear c1
   try clear c2
   try clear p2
   try clear c3
   try clear c3b0
   try clear c3b1
   try clear c3b2
   obtain ⟨x5_1, rfl, HA, HK1, ⟨m1, rfl⟩⟩ := hrel
   cases gk with
   | zero => exact absurd HA.out (by simp [laws_eqIntS.l0])
   | succ k1 =>
    have H := HA.out
    clear HA
    simp only [laws_eqIntS.l0] at H
    by_cases c4 : x5_1 < (l0.length : Int)
    ·rw [if_pos c4] at H
     have c4b0 : decide (x5_1 < (l0.length : Int)) = true := decide_eq_true c4
     clear c4
     by_cases c5 : 0 ≤ x5_1
     ·rw [if_pos c5] at H
      have c5b0 : decide (0 ≤ x5_1) = true := decide_eq_true c5
      clear c5
      by_cases c6 : x5_1 < (l1.length : Int)
      ·rw [if_pos c6] at H
       have c6b0 : decide (x5_1 < (l1.length : Int)) = true := decide_eq_true c6
       clear c6
       by_cases c7 : (rd l0 x5_1) = (rd l1 x5_1)
       ·rw [if_pos c7] at H
        have c7b0 : ((rd l0 x5_1) == (rd l1 x5_1)) = true := beq_iff_eq.mpr c7
        have c7b1 : ((rd l0 x5_1) != (rd l1 x5_1)) = false := bne_eq_false_iff_eq.mpr c7
        clear c7
        have H' := Aside0.mk H
        clear H
        have p486 : 0 ≤ (x5_1 : Int) := of_decide_eq_true (by first | (with_reducible assumption) | assumption)
        have q486 : x5_1 < (l0.length : Int) := of_decide_eq_true (by first | (with_reducible assumption) | assumption)
        obtain ⟨ad486, e486, hx486_0⟩ := Kd.at_int HR0.out x5_1 p486 q486
        cases e486
        replace p486 := eq_true p486
        replace q486 := eq_true q486
        have p487 : 0 ≤ (x5_1 : Int) := of_decide_eq_true (by first | (with_reducible assumption) | assumption)
        have q487 : x5_1 < (l1.length : Int) := of_decide_eq_true (by first | (with_reducible assumption) | assumption)
        obtain ⟨ad487, e487, hx487_0⟩ := Kd.at_int HR1.out x5_1 p487 q487
        cases e487
        replace p487 := eq_true p487
        replace q487 := eq_true q487
        go_wp2
        repeat (go_quiet (fail); (try simp only [IntWalk.i64_left]); try go_wp2)
        go_roundg k1
        case measure => have := HK1.out; omega
        case rel => exact ⟨(wrap64 (x5_1 + 1)), (by first | rfl | (simp; done) | (simp [*]; done) | (simp only [IntKind.wrap_i64, wrap64]; done)), H', ⟨by have := HK1.out; omega⟩, by repeat (first | exact Drawn0.refl _ | apply Drawn0.step)⟩
       ·rw [if_neg c7] at H
        have c7b0 : ((rd l0 x5_1) == (rd l1 x5_1)) = false := beq_eq_false_iff_ne.mpr c7
        have c7b1 : ((rd l0 x5_1) != (rd l1 x5_1)) = true := bne_iff_ne.mpr c7
        obtain rfl := Option.some.inj H
        have p486 : 0 ≤ (x5_1 : Int) := of_decide_eq_true (by first | (with_reducible assumption) | assumption)
        have q486 : x5_1 < (l0.length : Int) := of_decide_eq_true (by first | (with_reducible assumption) | assumption)
        obtain ⟨ad486, e486, hx486_0⟩ := Kd.at_int HR0.out x5_1 p486 q486
        cases e486
        replace p486 := eq_true p486
        replace q486 := eq_true q486
        have p487 : 0 ≤ (x5_1 : Int) := of_decide_eq_true (by first | (with_reducible assumption) | assumption)
        have q487 : x5_1 < (l1.length : Int) := of_decide_eq_true (by first | (with_reducible assumption) | assumption)
        obtain ⟨ad487, e487, hx487_0⟩ := Kd.at_int HR1.out x5_1 p487 q487
        cases e487
        replace p487 := eq_true p487
        replace q487 := eq_true q487
        go_wp2
        repeat (go_quiet (fail); (try simp only [IntWalk.i64_left]); try go_wp2)
        go_ret
        exact ⟨by first | rfl | (simp; done) | (simp [*]; done), by repeat (first | exact Drawn0.refl _ | apply Drawn0.step)⟩
      ·rw [if_neg c6] at H
       exact absurd H (by simp)
     ·rw [if_neg c5] at H
      exact absurd H (by simp)
    ·rw [if_neg c4] at H
     have c4b0 : decide (x5_1 < (l0.length : Int)) = false := decide_eq_false c4
     clear c4
     obtain rfl := Option.some.inj H
     go_wp2
     repeat (go_quiet (fail); (try simp only [IntWalk.i64_left]); try go_wp2)
     go_ret
     exact ⟨by first | rfl | (simp; done) | (simp [*]; done), by repeat (first | exact Drawn0.refl _ | apply Drawn0.step)⟩
 ·rw [if_neg c3] at H
  have c3b0 : ((l0.length : Int) == (l1.length : Int)) = false := beq_eq_false_iff_ne.mpr c3
  have c3b1 : ((l0.length : Int) != (l1.length : Int)) = true := bne_iff_ne.mpr c3
  have c3b2 : (l0.length == l1.length) = false := by first | simpa using c3 | (simp at c3 ⊢; omega)
  obtain rfl := Option.some.inj H
  go_enter Try.func27, Try.ntmps27
  go_wp2
  repeat (go_quiet (fail); (try simp only [IntWalk.i64_left]); try go_wp2)
  go_ret
  exact ⟨by first | rfl | (simp; done) | (simp [*]; done), by repeat (first | exact Drawn0.refl _ | apply Drawn0.step)⟩

end Go.Proofs.Ytdkebjjmnhdcnaa.G
