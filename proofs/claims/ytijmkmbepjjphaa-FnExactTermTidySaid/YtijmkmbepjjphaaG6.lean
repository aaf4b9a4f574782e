-- Made by gprint.py (the kit's print with contracts of this session's own among its functions).
import Derived.Test.YtijmkmbepjjphaaG0
import Derived.Test.YtijmkmbepjjphaaG5
namespace Go.Proofs.Ytijmkmbepjjphaa.G
open Go.RowKit Go.Proofs.YtijmkmbepjjphaaW.PrintWords Go.Proofs.YtijmkmbepjjphaaW.PrintLast Go.Proofs.YtijmkmbepjjphaaW.PrintMore
attribute [local go_sem] max2_int min2_int max_two min_two max_three min_three max_four min_four   -- for this text's walks alone
set_option linter.unusedVariables false
set_option linter.unusedSimpArgs false

/-! ### spec_l7Tidy: function 13 -/
mutual
def spec_l7Tidy.j0 : Nat → ByteArray → Bool → Int → List (S28) → Option (ByteArray)
 | 0, _, _, _, _ => none
 | k + 1, x3, x20, x131000, x131001 => if x20 = true then (some (⟨#[49]⟩ : ByteArray)) else (if x131000 = 42 then (if 0 < (x3.size : Int) then (spec_l7Tidy.j1 k x3 ((bt x3 0) == 42) x131000 x131001) else (none)) else (spec_l7Tidy.j1 k x3 false x131000 x131001))
def spec_l7Tidy.j1 : Nat → ByteArray → Bool → Int → List (S28) → Option (ByteArray)
 | 0, _, _, _, _ => none
 | k + 1, x3, x32, x131000, x131001 => if x32 = true then (some x3) else (if x131000 = 42 then ((some (([x131000] : List Int) : List Int)).bind fun y134 => (if (strOfNums y134).size + x3.size ≤ 9223372036854775807 then (some ((strOfNums y134) ++ x3)) else (none))) else (if x3.toList = ([48] : List UInt8) then (some x3) else (if x3.toList = ([49] : List UInt8) then (some x3) else ((some (([x131000] : List Int) : List Int)).bind fun y137 => (if (strOfNums y137).size + x3.size ≤ 9223372036854775807 then (some ((strOfNums y137) ++ x3)) else (none))))))
def spec_l7Tidy.j2 : Nat → ByteArray → ByteArray → Bool → Int → List (S28) → Option (ByteArray)
 | 0, _, _, _, _, _ => none
 | k + 1, x3, x4, x66, x131000, x131001 => if x66 = true then (some x4) else (if x131000 = 43 then (spec_l7Tidy.j3 k x3 x4 (x4.toList == ([48] : List UInt8)) x131000 x131001) else (spec_l7Tidy.j3 k x3 x4 false x131000 x131001))
def spec_l7Tidy.j3 : Nat → ByteArray → ByteArray → Bool → Int → List (S28) → Option (ByteArray)
 | 0, _, _, _, _, _ => none
 | k + 1, x3, x4, x75, x131000, x131001 => if x75 = true then (some x3) else (if x131000 = 43 then (spec_l7Tidy.j4 k x3 x4 false x131000 x131001) else (if x3.toList = ([48] : List UInt8) then (spec_l7Tidy.j4 k x3 x4 true x131000 x131001) else (spec_l7Tidy.j4 k x3 x4 (x4.toList == ([48] : List UInt8)) x131000 x131001)))
def spec_l7Tidy.j4 : Nat → ByteArray → ByteArray → Bool → Int → List (S28) → Option (ByteArray)
 | 0, _, _, _, _, _ => none
 | k + 1, x3, x4, x84, x131000, x131001 => if x84 = true then (some (⟨#[48]⟩ : ByteArray)) else (if x131000 = 46 then (spec_l7Tidy.j5 k x3 x4 (x3.toList == ([49] : List UInt8)) x131000 x131001) else (spec_l7Tidy.j5 k x3 x4 false x131000 x131001))
def spec_l7Tidy.j5 : Nat → ByteArray → ByteArray → Bool → Int → List (S28) → Option (ByteArray)
 | 0, _, _, _, _, _ => none
 | k + 1, x3, x4, x96, x131000, x131001 => if x96 = true then (some x4) else (if x131000 = 46 then (spec_l7Tidy.j6 k x3 x4 (x4.toList == ([49] : List UInt8)) x131000 x131001) else (spec_l7Tidy.j6 k x3 x4 false x131000 x131001))
def spec_l7Tidy.j6 : Nat → ByteArray → ByteArray → Bool → Int → List (S28) → Option (ByteArray)
 | 0, _, _, _, _, _ => none
 | k + 1, x3, x4, x105, x131000, x131001 => if x105 = true then (some x3) else (if x131000 = 46 then (if 1 + x3.size ≤ 9223372036854775807 then ((some (([x131000] : List Int) : List Int)).bind fun y142 => (if ((⟨#[40]⟩ : ByteArray) ++ x3).size + (strOfNums y142).size ≤ 9223372036854775807 then (if (((⟨#[40]⟩ : ByteArray) ++ x3) ++ (strOfNums y142)).size + x4.size ≤ 9223372036854775807 then (if ((((⟨#[40]⟩ : ByteArray) ++ x3) ++ (strOfNums y142)) ++ x4).size + 1 ≤ 9223372036854775807 then (some (((((⟨#[40]⟩ : ByteArray) ++ x3) ++ (strOfNums y142)) ++ x4) ++ (⟨#[41]⟩ : ByteArray))) else (none)) else (none)) else (none))) else (none)) else (if x3.toList = x4.toList then (some x3) else (if 1 + x3.size ≤ 9223372036854775807 then ((some (([x131000] : List Int) : List Int)).bind fun y145 => (if ((⟨#[40]⟩ : ByteArray) ++ x3).size + (strOfNums y145).size ≤ 9223372036854775807 then (if (((⟨#[40]⟩ : ByteArray) ++ x3) ++ (strOfNums y145)).size + x4.size ≤ 9223372036854775807 then (if ((((⟨#[40]⟩ : ByteArray) ++ x3) ++ (strOfNums y145)) ++ x4).size + 1 ≤ 9223372036854775807 then (some (((((⟨#[40]⟩ : ByteArray) ++ x3) ++ (strOfNums y145)) ++ x4) ++ (⟨#[41]⟩ : ByteArray))) else (none)) else (none)) else (none))) else (none))))
def spec_l7Tidy.f : Nat → Int → List (S28) → Option (ByteArray)
 | 0, _, _ => none
 | k + 1, a0_0, l0_1 => if (l0_1.length : Int) = 0 then ((spec_l7Write.f k a0_0 l0_1).bind fun t131 => (some t131)) else (if 0 < (l0_1.length : Int) then ((spec_l7Tidy.f k ((rd_T28 l0_1 0).f0) ((rd_T28 l0_1 0).f1)).bind fun t133 => (if (l0_1.length : Int) = 1 then (if a0_0 = 42 then (if t133.toList = ([48] : List UInt8) then (spec_l7Tidy.j0 k t133 true a0_0 l0_1) else (spec_l7Tidy.j0 k t133 (t133.toList == ([49] : List UInt8)) a0_0 l0_1)) else (spec_l7Tidy.j0 k t133 false a0_0 l0_1)) else (if 1 < (l0_1.length : Int) then ((spec_l7Tidy.f k ((rd_T28 l0_1 1).f0) ((rd_T28 l0_1 1).f1)).bind fun t141 => (if a0_0 = 43 then (spec_l7Tidy.j2 k t133 t141 (t133.toList == ([48] : List UInt8)) a0_0 l0_1) else (spec_l7Tidy.j2 k t133 t141 false a0_0 l0_1))) else (none)))) else (none))
end
theorem spec_l7Tidy.mono_l : ∀ k, (∀ y0 y1, LeO (spec_l7Tidy.f k y0 y1) (spec_l7Tidy.f (k + 1) y0 y1)) ∧ (∀ y0 y1 y2 y3, LeO (spec_l7Tidy.j0 k y0 y1 y2 y3) (spec_l7Tidy.j0 (k + 1) y0 y1 y2 y3)) ∧ (∀ y0 y1 y2 y3, LeO (spec_l7Tidy.j1 k y0 y1 y2 y3) (spec_l7Tidy.j1 (k + 1) y0 y1 y2 y3)) ∧ (∀ y0 y1 y2 y3 y4, LeO (spec_l7Tidy.j2 k y0 y1 y2 y3 y4) (spec_l7Tidy.j2 (k + 1) y0 y1 y2 y3 y4)) ∧ (∀ y0 y1 y2 y3 y4, LeO (spec_l7Tidy.j3 k y0 y1 y2 y3 y4) (spec_l7Tidy.j3 (k + 1) y0 y1 y2 y3 y4)) ∧ (∀ y0 y1 y2 y3 y4, LeO (spec_l7Tidy.j4 k y0 y1 y2 y3 y4) (spec_l7Tidy.j4 (k + 1) y0 y1 y2 y3 y4)) ∧ (∀ y0 y1 y2 y3 y4, LeO (spec_l7Tidy.j5 k y0 y1 y2 y3 y4) (spec_l7Tidy.j5 (k + 1) y0 y1 y2 y3 y4)) ∧ (∀ y0 y1 y2 y3 y4, LeO (spec_l7Tidy.j6 k y0 y1 y2 y3 y4) (spec_l7Tidy.j6 (k + 1) y0 y1 y2 y3 y4))
 | 0 => ⟨fun _ _ r h => by simp [spec_l7Tidy.f] at h, fun _ _ _ _ r h => by simp [spec_l7Tidy.j0] at h, fun _ _ _ _ r h => by simp [spec_l7Tidy.j1] at h, fun _ _ _ _ _ r h => by simp [spec_l7Tidy.j2] at h, fun _ _ _ _ _ r h => by simp [spec_l7Tidy.j3] at h, fun _ _ _ _ _ r h => by simp [spec_l7Tidy.j4] at h, fun _ _ _ _ _ r h => by simp [spec_l7Tidy.j5] at h, fun _ _ _ _ _ r h => by simp [spec_l7Tidy.j6] at h⟩
 | k + 1 => by
  obtain ⟨ih0, ih1, ih2, ih3, ih4, ih5, ih6, ih7⟩ := spec_l7Tidy.mono_l k
  refine ⟨?_, ?_, ?_, ?_, ?_, ?_, ?_, ?_⟩
  ·intro y0 y1
   unfold spec_l7Tidy.f
   repeat' first
   | (with_reducible exact ih0 _ _)
   | (with_reducible exact ih1 _ _ _ _)
   | (with_reducible exact ih2 _ _ _ _)
   | (with_reducible exact ih3 _ _ _ _ _)
   | (with_reducible exact ih4 _ _ _ _ _)
   | (with_reducible exact ih5 _ _ _ _ _)
   | (with_reducible exact ih6 _ _ _ _ _)
   | (with_reducible exact ih7 _ _ _ _ _)
   | (with_reducible exact spec_l7Write.mono _ _ _)
   | (with_reducible exact LeO.refl _)
   | (with_reducible exact LeO.none _)
   | (with_reducible refine LeO.ite ?_ ?_)
   | (with_reducible refine LeO.bind ?_ (fun _ => ?_))
   | exact ih0 _ _
   | exact ih1 _ _ _ _
   | exact ih2 _ _ _ _
   | exact ih3 _ _ _ _ _
   | exact ih4 _ _ _ _ _
   | exact ih5 _ _ _ _ _
   | exact ih6 _ _ _ _ _
   | exact ih7 _ _ _ _ _
   | exact spec_l7Write.mono _ _ _
   | exact LeO.none _
   | refine LeO.ite ?_ ?_
   | refine LeO.bind ?_ (fun _ => ?_)
  ·intro y0 y1 y2 y3
   unfold spec_l7Tidy.j0
   repeat' first
   | (with_reducible exact ih0 _ _)
   | (with_reducible exact ih1 _ _ _ _)
   | (with_reducible exact ih2 _ _ _ _)
   | (with_reducible exact ih3 _ _ _ _ _)
   | (with_reducible exact ih4 _ _ _ _ _)
   | (with_reducible exact ih5 _ _ _ _ _)
   | (with_reducible exact ih6 _ _ _ _ _)
   | (with_reducible exact ih7 _ _ _ _ _)
   | (with_reducible exact spec_l7Write.mono _ _ _)
   | (with_reducible exact LeO.refl _)
   | (with_reducible exact LeO.none _)
   | (with_reducible refine LeO.ite ?_ ?_)
   | (with_reducible refine LeO.bind ?_ (fun _ => ?_))
   | exact ih0 _ _
   | exact ih1 _ _ _ _
   | exact ih2 _ _ _ _
   | exact ih3 _ _ _ _ _
   | exact ih4 _ _ _ _ _
   | exact ih5 _ _ _ _ _
   | exact ih6 _ _ _ _ _
   | exact ih7 _ _ _ _ _
   | exact spec_l7Write.mono _ _ _
   | exact LeO.none _
   | refine LeO.ite ?_ ?_
   | refine LeO.bind ?_ (fun _ => ?_)
  ·intro y0 y1 y2 y3
   unfold spec_l7Tidy.j1
   repeat' first
   | (with_reducible exact ih0 _ _)
   | (with_reducible exact ih1 _ _ _ _)
   | (with_reducible exact ih2 _ _ _ _)
   | (with_reducible exact ih3 _ _ _ _ _)
   | (with_reducible exact ih4 _ _ _ _ _)
   | (with_reducible exact ih5 _ _ _ _ _)
   | (with_reducible exact ih6 _ _ _ _ _)
   | (with_reducible exact ih7 _ _ _ _ _)
   | (with_reducible exact spec_l7Write.mono _ _ _)
   | (with_reducible exact LeO.refl _)
   | (with_reducible exact LeO.none _)
   | (with_reducible refine LeO.ite ?_ ?_)
   | (with_reducible refine LeO.bind ?_ (fun _ => ?_))
   | exact ih0 _ _
   | exact ih1 _ _ _ _
   | exact ih2 _ _ _ _
   | exact ih3 _ _ _ _ _
   | exact ih4 _ _ _ _ _
   | exact ih5 _ _ _ _ _
   | exact ih6 _ _ _ _ _
   | exact ih7 _ _ _ _ _
   | exact spec_l7Write.mono _ _ _
   | exact LeO.none _
   | refine LeO.ite ?_ ?_
   | refine LeO.bind ?_ (fun _ => ?_)
  ·intro y0 y1 y2 y3 y4
   unfold spec_l7Tidy.j2
   repeat' first
   | (with_reducible exact ih0 _ _)
   | (with_reducible exact ih1 _ _ _ _)
   | (with_reducible exact ih2 _ _ _ _)
   | (with_reducible exact ih3 _ _ _ _ _)
   | (with_reducible exact ih4 _ _ _ _ _)
   | (with_reducible exact ih5 _ _ _ _ _)
   | (with_reducible exact ih6 _ _ _ _ _)
   | (with_reducible exact ih7 _ _ _ _ _)
   | (with_reducible exact spec_l7Write.mono _ _ _)
   | (with_reducible exact LeO.refl _)
   | (with_reducible exact LeO.none _)
   | (with_reducible refine LeO.ite ?_ ?_)
   | (with_reducible refine LeO.bind ?_ (fun _ => ?_))
   | exact ih0 _ _
   | exact ih1 _ _ _ _
   | exact ih2 _ _ _ _
   | exact ih3 _ _ _ _ _
   | exact ih4 _ _ _ _ _
   | exact ih5 _ _ _ _ _
   | exact ih6 _ _ _ _ _
   | exact ih7 _ _ _ _ _
   | exact spec_l7Write.mono _ _ _
   | exact LeO.none _
   | refine LeO.ite ?_ ?_
   | refine LeO.bind ?_ (fun _ => ?_)
  ·intro y0 y1 y2 y3 y4
   unfold spec_l7Tidy.j3
   repeat' first
   | (with_reducible exact ih0 _ _)
   | (with_reducible exact ih1 _ _ _ _)
   | (with_reducible exact ih2 _ _ _ _)
   | (with_reducible exact ih3 _ _ _ _ _)
   | (with_reducible exact ih4 _ _ _ _ _)
   | (with_reducible exact ih5 _ _ _ _ _)
   | (with_reducible exact ih6 _ _ _ _ _)
   | (with_reducible exact ih7 _ _ _ _ _)
   | (with_reducible exact spec_l7Write.mono _ _ _)
   | (with_reducible exact LeO.refl _)
   | (with_reducible exact LeO.none _)
   | (with_reducible refine LeO.ite ?_ ?_)
   | (with_reducible refine LeO.bind ?_ (fun _ => ?_))
   | exact ih0 _ _
   | exact ih1 _ _ _ _
   | exact ih2 _ _ _ _
   | exact ih3 _ _ _ _ _
   | exact ih4 _ _ _ _ _
   | exact ih5 _ _ _ _ _
   | exact ih6 _ _ _ _ _
   | exact ih7 _ _ _ _ _
   | exact spec_l7Write.mono _ _ _
   | exact LeO.none _
   | refine LeO.ite ?_ ?_
   | refine LeO.bind ?_ (fun _ => ?_)
  ·intro y0 y1 y2 y3 y4
   unfold spec_l7Tidy.j4
   repeat' first
   | (with_reducible exact ih0 _ _)
   | (with_reducible exact ih1 _ _ _ _)
   | (with_reducible exact ih2 _ _ _ _)
   | (with_reducible exact ih3 _ _ _ _ _)
   | (with_reducible exact ih4 _ _ _ _ _)
   | (with_reducible exact ih5 _ _ _ _ _)
   | (with_reducible exact ih6 _ _ _ _ _)
   | (with_reducible exact ih7 _ _ _ _ _)
   | (with_reducible exact spec_l7Write.mono _ _ _)
   | (with_reducible exact LeO.refl _)
   | (with_reducible exact LeO.none _)
   | (with_reducible refine LeO.ite ?_ ?_)
   | (with_reducible refine LeO.bind ?_ (fun _ => ?_))
   | exact ih0 _ _
   | exact ih1 _ _ _ _
   | exact ih2 _ _ _ _
   | exact ih3 _ _ _ _ _
   | exact ih4 _ _ _ _ _
   | exact ih5 _ _ _ _ _
   | exact ih6 _ _ _ _ _
   | exact ih7 _ _ _ _ _
   | exact spec_l7Write.mono _ _ _
   | exact LeO.none _
   | refine LeO.ite ?_ ?_
   | refine LeO.bind ?_ (fun _ => ?_)
  ·intro y0 y1 y2 y3 y4
   unfold spec_l7Tidy.j5
   repeat' first
   | (with_reducible exact ih0 _ _)
   | (with_reducible exact ih1 _ _ _ _)
   | (with_reducible exact ih2 _ _ _ _)
   | (with_reducible exact ih3 _ _ _ _ _)
   | (with_reducible exact ih4 _ _ _ _ _)
   | (with_reducible exact ih5 _ _ _ _ _)
   | (with_reducible exact ih6 _ _ _ _ _)
   | (with_reducible exact ih7 _ _ _ _ _)
   | (with_reducible exact spec_l7Write.mono _ _ _)
   | (with_reducible exact LeO.refl _)
   | (with_reducible exact LeO.none _)
   | (with_reducible refine LeO.ite ?_ ?_)
   | (with_reducible refine LeO.bind ?_ (fun _ => ?_))
   | exact ih0 _ _
   | exact ih1 _ _ _ _
   | exact ih2 _ _ _ _
   | exact ih3 _ _ _ _ _
   | exact ih4 _ _ _ _ _
   | exact ih5 _ _ _ _ _
   | exact ih6 _ _ _ _ _
   | exact ih7 _ _ _ _ _
   | exact spec_l7Write.mono _ _ _
   | exact LeO.none _
   | refine LeO.ite ?_ ?_
   | refine LeO.bind ?_ (fun _ => ?_)
  ·intro y0 y1 y2 y3 y4
   unfold spec_l7Tidy.j6
   repeat' first
   | (with_reducible exact ih0 _ _)
   | (with_reducible exact ih1 _ _ _ _)
   | (with_reducible exact ih2 _ _ _ _)
   | (with_reducible exact ih3 _ _ _ _ _)
   | (with_reducible exact ih4 _ _ _ _ _)
   | (with_reducible exact ih5 _ _ _ _ _)
   | (with_reducible exact ih6 _ _ _ _ _)
   | (with_reducible exact ih7 _ _ _ _ _)
   | (with_reducible exact spec_l7Write.mono _ _ _)
   | (with_reducible exact LeO.refl _)
   | (with_reducible exact LeO.none _)
   | (with_reducible refine LeO.ite ?_ ?_)
   | (with_reducible refine LeO.bind ?_ (fun _ => ?_))
   | exact ih0 _ _
   | exact ih1 _ _ _ _
   | exact ih2 _ _ _ _
   | exact ih3 _ _ _ _ _
   | exact ih4 _ _ _ _ _
   | exact ih5 _ _ _ _ _
   | exact ih6 _ _ _ _ _
   | exact ih7 _ _ _ _ _
   | exact spec_l7Write.mono _ _ _
   | exact LeO.none _
   | refine LeO.ite ?_ ?_
   | refine LeO.bind ?_ (fun _ => ?_)
theorem spec_l7Tidy.mono : ∀ a0 a1 k, LeO (spec_l7Tidy.f k a0 a1) (spec_l7Tidy.f (k + 1) a0 a1) := by
 intro a0 a1 k
 obtain ⟨ih0, ih1, ih2, ih3, ih4, ih5, ih6, ih7⟩ := spec_l7Tidy.mono_l k
 exact ih0 a0 a1
set_option maxHeartbeats 8000000 in
set_option maxRecDepth 100000 in
theorem spec_l7Tidy.calls (k : Nat) : ∀ (a0_0 : Int) (A0_1 : Option Addr) (c0_1 : Nat) (l0_1 : List (S28)) (r : ByteArray) (w : World) (hr0_1 : Kd.C k28 w A0_1 l0_1.length l0_1) (hc0_1 : l0_1.length ≤ c0_1) (h : spec_l7Tidy.f k a0_0 l0_1 = some r),
  Calls Try.prog 13 #[.agg #[.int .u8 a0_0, .slice A0_1 l0_1.length c0_1]] w fun e w' => e = .returned (.string r) ∧ Below w.heap.size w w' := by
 induction k using Nat.strongRecOn with
 | _ k ih =>
 intro a0_0 A0_1 c0_1 l0_1 r w hr0_1 hc0_1 h
 cases k with
 | zero => exact absurd h (by simp [spec_l7Tidy.f])
 | succ k =>
 simp only [spec_l7Tidy.f] at h
 have hu28 := Try.underlying28
 have HR0_1 := Aside0.mk hr0_1
 have HC0_1 := Aside0.mk hc0_1
 clear hr0_1 hc0_1
 have HB := Aside0.mk (Below.refl w.heap.size w)
 have H : (if (l0_1.length : Int) = 0 then ((spec_l7Write.f k a0_0 l0_1).bind fun t131 => (some t131)) else (if 0 < (l0_1.length : Int) then ((spec_l7Tidy.f k ((rd_T28 l0_1 0).f0) ((rd_T28 l0_1 0).f1)).bind fun t133 => (if (l0_1.length : Int) = 1 then (if a0_0 = 42 then (if t133.toList = ([48] : List UInt8) then (spec_l7Tidy.j0 k t133 true a0_0 l0_1) else (spec_l7Tidy.j0 k t133 (t133.toList == ([49] : List UInt8)) a0_0 l0_1)) else (spec_l7Tidy.j0 k t133 false a0_0 l0_1)) else (if 1 < (l0_1.length : Int) then ((spec_l7Tidy.f k ((rd_T28 l0_1 1).f0) ((rd_T28 l0_1 1).f1)).bind fun t141 => (if a0_0 = 43 then (spec_l7Tidy.j2 k t133 t141 (t133.toList == ([48] : List UInt8)) a0_0 l0_1) else (spec_l7Tidy.j2 k t133 t141 false a0_0 l0_1))) else (none)))) else (none))) = some r := h
 clear h
 by_cases c2 : (l0_1.length : Int) = 0
 ·rw [if_pos c2] at H
  have c2b0 : ((l0_1.length : Int) == 0) = true := beq_iff_eq.mpr c2
  have c2b1 : ((l0_1.length : Int) != 0) = false := bne_eq_false_iff_eq.mpr c2
  clear c2
  replace H := Option.bind_eq_some_iff.mp H
  obtain ⟨t131, A30, H⟩ := H
  replace H : (some t131) = some r := H
  have A3 := Aside0.mk A30
  clear A30
  obtain rfl := Option.some.inj H
  go_enter Try.func13, Try.ntmps13
  go_wp2_with (first | ((with_reducible refine gate_dst (N := 1) rfl ?_); refine box_event ?hg (N := 1) ?hd (cs := #[.int .u8 a0_0, .slice A0_1 l0_1.length c0_1]) (t := 28) ?hr ?_; (case hd => rfl); (case hg => rfl); (case hr => first | (go_simp; done) | (go_simp; rfl)); intro gb130 hg w4 hbox hb; have n0_ := Aside0.mk (below_step (by repeat (first | (with_reducible first | exact HB.out | apply below_alloc | apply pw_below_drewN | apply below_drew1) | exact HB.out)) hb); have n1_ := Aside0.mk (hbox); have n2_ := Aside0.mk ((by rw [hg]; exact (below_size (by repeat (first | (with_reducible first | exact HB.out | apply below_alloc | apply pw_below_drewN | apply below_drew1) | exact HB.out))) : w.heap.size ≤ gb130)); have n3_ := Aside0.mk ((by rw [hg]; exact (below_size (by repeat (first | (with_reducible first | exact HB.out | apply below_alloc | apply pw_below_drewN | apply below_drew1) | exact HB.out))) : w.heap.size ≤ gb130)); clear HB; have HB := n0_; have BK130 := n1_; have GW130 := n2_; have GE130 := n3_; clear n0_ n1_ n2_ n3_; clear hb hbox hg; have hcz5_0 : w4.cell? ⟨gb130, 0, none⟩ = some (.int .u8 a0_0) := (blk_cell BK130.out 0).trans rfl; have hcz5_1 : w4.cell? ⟨gb130, 1, none⟩ = some (.slice A0_1 l0_1.length c0_1) := (blk_cell BK130.out 1).trans rfl; have hfz5_0 := blk_frozen BK130.out 0; have hfz5_1 := blk_frozen BK130.out 1) | ((with_reducible refine gate_callee (f := 22) rfl ?_); refine goesL_ (some 10) rfl rfl Try.func22 (by kernel_rfl) rfl #[.agg #[.int .u8 a0_0, .slice A0_1 l0_1.length c0_1]] rfl (by (try simp only [List.map_toArray, List.map_cons, List.map_nil]); first | done | rfl | (simp only [List.length_drop, List.length_take]; rfl)) ?_; (with_reducible refine (spec_l7Write.calls k a0_0 _ _ l0_1 t131 _ ?side1 ?side2 A3.out).mono ?_); (case side1 => repeat (first | exact (Kd.C_below HR0_1.out HB.out) | (with_reducible refine Kd.C_alloc ?_ _) | (with_reducible refine Kd.C_drewN ?_ _) | (with_reducible refine Kd.C_drew ?_))); (case side2 => exact HC0_1.out); rintro e w6 ⟨rfl, hb⟩; refine ⟨_, rfl, ?_⟩; have n0_ := Aside0.mk (blk_below (g := gb130) (o := .cells #[.int .u8 a0_0, .slice A0_1 l0_1.length c0_1] 28 (0, 0)) (by (with_reducible repeat (first | refine blk_drewN ?_ _ | refine blk_drew ?_ | refine blk_alloc ?_ _)); exact BK130.out) hb); have n1_ := Aside0.mk (below_step (by repeat (first | (with_reducible first | exact HB.out | apply below_alloc | apply pw_below_drewN | apply below_drew1 | refine below_set ?_ GE130.out) | exact HB.out)) hb); clear BK130; clear HB; have BK130 := n0_; have HB := n1_; clear n0_ n1_; (try clear hb); (try clear hb2); (try clear hk); (try clear hi)))
  go_ret
  exact ⟨by first | rfl | (simp [errW_none, errW_some] <;> rfl) | (simp [*, errW_none, errW_some] <;> rfl), by repeat (first | (with_reducible first | exact HB.out | apply below_alloc | apply pw_below_drewN | apply below_drew1 | refine below_set ?_ GE130.out) | exact HB.out)⟩
 ·rw [if_neg c2] at H
  have c2b0 : ((l0_1.length : Int) == 0) = false := beq_eq_false_iff_ne.mpr c2
  have c2b1 : ((l0_1.length : Int) != 0) = true := bne_iff_ne.mpr c2
  have c2b2 : ¬ (l0_1 = []) := fun h_ => c2 (by rw [h_]; rfl)
  by_cases c7 : 0 < (l0_1.length : Int)
  ·rw [if_pos c7] at H
   have c7b0 : decide (0 < (l0_1.length : Int)) = true := decide_eq_true c7
   have c7b1 : decide (0 < l0_1.length) = true := decide_eq_true (by omega)
   clear c7
   replace H := Option.bind_eq_some_iff.mp H
   obtain ⟨t133, A80, H⟩ := H
   replace H : (if (l0_1.length : Int) = 1 then (if a0_0 = 42 then (if t133.toList = ([48] : List UInt8) then (spec_l7Tidy.j0 k t133 true a0_0 l0_1) else (spec_l7Tidy.j0 k t133 (t133.toList == ([49] : List UInt8)) a0_0 l0_1)) else (spec_l7Tidy.j0 k t133 false a0_0 l0_1)) else (if 1 < (l0_1.length : Int) then ((spec_l7Tidy.f k ((rd_T28 l0_1 1).f0) ((rd_T28 l0_1 1).f1)).bind fun t141 => (if a0_0 = 43 then (spec_l7Tidy.j2 k t133 t141 (t133.toList == ([48] : List UInt8)) a0_0 l0_1) else (spec_l7Tidy.j2 k t133 t141 false a0_0 l0_1))) else (none))) = some r := H
   have A8 := Aside0.mk A80
   clear A80
   by_cases c9 : (l0_1.length : Int) = 1
   ·rw [if_pos c9] at H
    have c9b0 : ((l0_1.length : Int) == 1) = true := beq_iff_eq.mpr c9
    have c9b1 : ((l0_1.length : Int) != 1) = false := bne_eq_false_iff_eq.mpr c9
    clear c9
    have HC10 := Aside0.mk H
    clear H
    go_enter Try.func13, Try.ntmps13
    go_upto_region 5 with (first | ((with_reducible refine gate_dst (N := 1) rfl ?_); refine box_event ?hg (N := 1) ?hd (cs := #[.int .u8 a0_0, .slice A0_1 l0_1.length c0_1]) (t := 28) ?hr ?_; (case hd => rfl); (case hg => rfl); (case hr => first | (go_simp; done) | (go_simp; rfl)); intro gb130 hg w11 hbox hb; have n0_ := Aside0.mk (below_step (by repeat (first | (with_reducible first | exact HB.out | apply below_alloc | apply pw_below_drewN | apply below_drew1) | exact HB.out)) hb); have n1_ := Aside0.mk (hbox); have n2_ := Aside0.mk ((by rw [hg]; exact (below_size (by repeat (first | (with_reducible first | exact HB.out | apply below_alloc | apply pw_below_drewN | apply below_drew1) | exact HB.out))) : w.heap.size ≤ gb130)); have n3_ := Aside0.mk ((by rw [hg]; exact (below_size (by repeat (first | (with_reducible first | exact HB.out | apply below_alloc | apply pw_below_drewN | apply below_drew1) | exact HB.out))) : w.heap.size ≤ gb130)); clear HB; have HB := n0_; have BK130 := n1_; have GW130 := n2_; have GE130 := n3_; clear n0_ n1_ n2_ n3_; clear hb hbox hg; have hcz12_0 : w11.cell? ⟨gb130, 0, none⟩ = some (.int .u8 a0_0) := (blk_cell BK130.out 0).trans rfl; have hcz12_1 : w11.cell? ⟨gb130, 1, none⟩ = some (.slice A0_1 l0_1.length c0_1) := (blk_cell BK130.out 1).trans rfl; have hfz12_0 := blk_frozen BK130.out 0; have hfz12_1 := blk_frozen BK130.out 1; have p132 : 0 ≤ (0 : Int) := (by omega); have q132 : 0 < (l0_1.length : Int) := of_decide_eq_true (by first | (with_reducible assumption) | assumption); obtain ⟨ad132, A132_1, c132_1, e132, hx132_0, hx132_1, hl132_1, hi132_1⟩ := at_T28 HR0_1.out 0 p132 q132; cases e132; have qi132 : (0 < l0_1.length) = True := eq_true (by omega); (try rw [show ((0 : Int)).toNat = 0 from rfl] at hx132_0); (try rw [show 0 * 2 = 0 from rfl] at hx132_0); (try rw [Addr.add_zero'] at hx132_0); (try rw [show ((0 : Int)).toNat = 0 from rfl] at hx132_1); (try rw [show 0 * 2 = 0 from rfl] at hx132_1); (try rw [Addr.add_zero'] at hx132_1); replace hx132_0 := (HB.out.cell (World.block_lt_of_cell? w _ hx132_0)).trans hx132_0; replace hx132_1 := (HB.out.cell (World.block_lt_of_cell? w _ hx132_1)).trans hx132_1; have HR132_1 := Aside0.mk hi132_1; have HC132_1 := Aside0.mk hl132_1; clear hi132_1 hl132_1; replace p132 := eq_true p132; replace q132 := eq_true q132) | ((with_reducible refine gate_callee (f := 13) rfl ?_); refine goesL_ (some 15) rfl rfl Try.func13 (by kernel_rfl) rfl #[.agg #[.int .u8 ((rd_T28 l0_1 0).f0), .slice A132_1 ((rd_T28 l0_1 0).f1).length c132_1]] rfl (by (try simp only [List.map_toArray, List.map_cons, List.map_nil]); first | done | rfl | (simp only [List.length_drop, List.length_take]; rfl)) ?_; (with_reducible refine (ih k (by omega) ((rd_T28 l0_1 0).f0) _ _ ((rd_T28 l0_1 0).f1) t133 _ ?side1 ?side2 A8.out).mono ?_); (case side1 => repeat (first | exact (Kd.C_below HR132_1.out HB.out) | (with_reducible refine Kd.C_alloc ?_ _) | (with_reducible refine Kd.C_drewN ?_ _) | (with_reducible refine Kd.C_drew ?_))); (case side2 => exact HC132_1.out); rintro e w13 ⟨rfl, hb⟩; refine ⟨_, rfl, ?_⟩; have n0_ := Aside0.mk (blk_below (g := gb130) (o := .cells #[.int .u8 a0_0, .slice (some ad132) l0_1.length c0_1] 28 (0, 0)) (by (with_reducible repeat (first | refine blk_drewN ?_ _ | refine blk_drew ?_ | refine blk_alloc ?_ _)); exact BK130.out) hb); have n1_ := Aside0.mk (below_step (by repeat (first | (with_reducible first | exact HB.out | apply below_alloc | apply pw_below_drewN | apply below_drew1 | refine below_set ?_ GE130.out) | exact HB.out)) hb); clear BK130; clear HB; have BK130 := n0_; have HB := n1_; clear n0_ n1_; (try clear hb); (try clear hb2); (try clear hk); (try clear hi); have hcz14_0 : w13.cell? ⟨gb130, 0, none⟩ = some (.int .u8 a0_0) := (blk_cell BK130.out 0).trans rfl; have hcz14_1 : w13.cell? ⟨gb130, 1, none⟩ = some (.slice (some ad132) l0_1.length c0_1) := (blk_cell BK130.out 1).trans rfl; have hfz14_0 := blk_frozen BK130.out 0; have hfz14_1 := blk_frozen BK130.out 1))
    (try simp only [Act.put, List.setIfInBounds_toArray, List.set_cons_zero, List.set_cons_succ])
    go_cut [20] (fun v20 wc => ∃ (kq : Nat) (x20_9 : Bool), v20 = .bool x20_9 ∧ Aside0 (spec_l7Tidy.j0 kq t133 x20_9 a0_0 l0_1 = some r) ∧ Aside0 (kq ≤ k) ∧ Aside0 (wc.heap[gb130]? = some (.cells #[.int .u8 a0_0, (.slice (some ad132) l0_1.length c0_1)] 28 (0, 0))) ∧ Aside0 (Below w.heap.size w wc))
    case first =>
     have H := HC10.out
     clear HC10
     by_cases c15 : a0_0 = 42
     ·rw [if_pos c15] at H
      have c15b0 : (a0_0 == 42) = true := beq_iff_eq.mpr c15
      have c15b1 : (a0_0 != 42) = false := bne_eq_false_iff_eq.mpr c15
      clear c15
      (first | rw [c15b0] | (simp only [i64_w, i32_w]; rw [c15b0]) | skip)
      by_cases c16 : t133.toList = ([48] : List UInt8)
      ·rw [if_pos c16] at H
       have c16b0 : (t133.toList == ([48] : List UInt8)) = true := beq_iff_eq.mpr c16
       have c16b1 : (t133.toList != ([48] : List UInt8)) = false := bne_eq_false_iff_eq.mpr c16
       clear c16
       have H' := Aside0.mk H
       clear H
       have hcz17_0 : w13.cell? ⟨gb130, 0, none⟩ = some (.int .u8 a0_0) := (blk_cell BK130.out 0).trans rfl
       have hcz17_1 : w13.cell? ⟨gb130, 1, none⟩ = some (.slice (some ad132) l0_1.length c0_1) := (blk_cell BK130.out 1).trans rfl
       have hfz17_0 := blk_frozen BK130.out 0
       have hfz17_1 := blk_frozen BK130.out 1
       go_wp2
       go_meet
       case rel => exact ⟨_, (true), (by first | rfl | (simp; done) | (simp [*]; done) | (simp only [IntKind.wrap_i64, wrap64]; done)), H', ⟨by first | omega | exact Nat.le_refl _⟩, ⟨by (with_reducible repeat (first | refine blk_drewN ?_ _ | refine blk_drew ?_ | refine blk_alloc ?_ _)); exact BK130.out⟩, ⟨by repeat (first | (with_reducible first | exact HB.out | apply below_alloc | apply pw_below_drewN | apply below_drew1 | refine below_set ?_ GE130.out) | exact HB.out)⟩⟩
      ·rw [if_neg c16] at H
       have c16b0 : (t133.toList == ([48] : List UInt8)) = false := beq_eq_false_iff_ne.mpr c16
       have c16b1 : (t133.toList != ([48] : List UInt8)) = true := bne_iff_ne.mpr c16
       have H' := Aside0.mk H
       clear H
       have hcz18_0 : w13.cell? ⟨gb130, 0, none⟩ = some (.int .u8 a0_0) := (blk_cell BK130.out 0).trans rfl
       have hcz18_1 : w13.cell? ⟨gb130, 1, none⟩ = some (.slice (some ad132) l0_1.length c0_1) := (blk_cell BK130.out 1).trans rfl
       have hfz18_0 := blk_frozen BK130.out 0
       have hfz18_1 := blk_frozen BK130.out 1
       go_wp2
       go_meet
       case rel => exact ⟨_, ((t133.toList == ([49] : List UInt8))), (by first | rfl | (simp; done) | (simp [*]; done) | (simp only [IntKind.wrap_i64, wrap64]; done)), H', ⟨by first | omega | exact Nat.le_refl _⟩, ⟨by (with_reducible repeat (first | refine blk_drewN ?_ _ | refine blk_drew ?_ | refine blk_alloc ?_ _)); exact BK130.out⟩, ⟨by repeat (first | (with_reducible first | exact HB.out | apply below_alloc | apply pw_below_drewN | apply below_drew1 | refine below_set ?_ GE130.out) | exact HB.out)⟩⟩
     ·rw [if_neg c15] at H
      have c15b0 : (a0_0 == 42) = false := beq_eq_false_iff_ne.mpr c15
      have c15b1 : (a0_0 != 42) = true := bne_iff_ne.mpr c15
      (first | rw [c15b0] | (simp only [i64_w, i32_w]; rw [c15b0]) | skip)
      have H' := Aside0.mk H
      clear H
      have hcz19_0 : w13.cell? ⟨gb130, 0, none⟩ = some (.int .u8 a0_0) := (blk_cell BK130.out 0).trans rfl
      have hcz19_1 : w13.cell? ⟨gb130, 1, none⟩ = some (.slice (some ad132) l0_1.length c0_1) := (blk_cell BK130.out 1).trans rfl
      have hfz19_0 := blk_frozen BK130.out 0
      have hfz19_1 := blk_frozen BK130.out 1
      go_wp2
      go_meet
      case rel => exact ⟨_, (false), (by first | rfl | (simp; done) | (simp [*]; done) | (simp only [IntKind.wrap_i64, wrap64]; done)), H', ⟨by first | omega | exact Nat.le_refl _⟩, ⟨by (with_reducible repeat (first | refine blk_drewN ?_ _ | refine blk_drew ?_ | refine blk_alloc ?_ _)); exact BK130.out⟩, ⟨by repeat (first | (with_reducible first | exact HB.out | apply below_alloc | apply pw_below_drewN | apply below_drew1 | refine below_set ?_ GE130.out) | exact HB.out)⟩⟩
    case rest =>
     clear HC10
     try clear c1
     try clear p1
     try clear q1
     try clear hx1
     try clear qi1
     try clear c2
     try clear c2b0
     try clear c2b1
     try clear c2b2
     try clear p2
     try clear c7
     try clear c7b0
     try clear c7b1
     try clear c9
     try clear c9b0
     try clear c9b1
     try clear c13
     try clear p13
     try clear q13
     try clear hx13
     try clear qi13
     try clear c15
     try clear c15b0
     try clear c15b1
     try clear c16
     try clear c16b0
     try clear c16b1
     try clear hcz12_0
     try clear hcz12_1
     try clear hcz14_0
     try clear hcz14_1
     try clear hcz17_0
     try clear hcz17_1
     try clear hcz18_0
     try clear hcz18_1
     try clear hcz19_0
     try clear hcz19_1
     try clear hcz5_0
     try clear hcz5_1
     try clear hfz12_0
     try clear hfz12_1
     try clear hfz14_0
     try clear hfz14_1
     try clear hfz17_0
     try clear hfz17_1
     try clear hfz18_0
     try clear hfz18_1
     try clear hfz19_0
     try clear hfz19_1
     try clear hfz5_0
     try clear hfz5_1
     try clear hx132_0
     try clear hx132_1
     try clear p132
     try clear q132
     obtain ⟨kq, x20_9, rfl, HA, HJ9, BK130, HB⟩ := hcut
     cases kq with
     | zero => exact absurd HA.out (by simp [spec_l7Tidy.j0])
     | succ kj9 =>
      have H := HA.out
      clear HA
      simp only [spec_l7Tidy.j0] at H
      by_cases c20 : x20_9 = true
      ·subst c20
       have H1 : (some (⟨#[49]⟩ : ByteArray)) = some r := by rw [if_pos rfl] at H; exact H
       clear H
       have H := H1
       clear H1
       obtain rfl := Option.some.inj H
       go_wp2
       go_ret
       exact ⟨by first | rfl | (simp [errW_none, errW_some] <;> rfl) | (simp [*, errW_none, errW_some] <;> rfl), by repeat (first | (with_reducible first | exact HB.out | apply below_alloc | apply pw_below_drewN | apply below_drew1 | refine below_set ?_ GE130.out) | exact HB.out)⟩
      ·replace c20 := Bool.eq_false_iff.mpr c20
       subst c20
       have H1 : (if a0_0 = 42 then (if 0 < (t133.size : Int) then (spec_l7Tidy.j1 kj9 t133 ((bt t133 0) == 42) a0_0 l0_1) else (none)) else (spec_l7Tidy.j1 kj9 t133 false a0_0 l0_1)) = some r := by rw [if_neg (show ¬ (false = true) by decide)] at H; exact H
       clear H
       have H := H1
       clear H1
       have HC21 := Aside0.mk H
       clear H
       go_upto_region 7 with (fail)
       go_cut [32] (fun v32 wc => ∃ (kq : Nat) (x32_20 : Bool), v32 = .bool x32_20 ∧ Aside0 (spec_l7Tidy.j1 kq t133 x32_20 a0_0 l0_1 = some r) ∧ Aside0 (kq ≤ kj9) ∧ Aside0 (wc.heap[gb130]? = some (.cells #[.int .u8 a0_0, (.slice (some ad132) l0_1.length c0_1)] 28 (0, 0))) ∧ Aside0 (Below w.heap.size w wc))
       case first =>
        have H := HC21.out
        clear HC21
        by_cases c22 : a0_0 = 42
        ·rw [if_pos c22] at H
         have c22b0 : (a0_0 == 42) = true := beq_iff_eq.mpr c22
         have c22b1 : (a0_0 != 42) = false := bne_eq_false_iff_eq.mpr c22
         clear c22
         (first | rw [c22b0] | (simp only [i64_w, i32_w]; rw [c22b0]) | skip)
         by_cases c23 : 0 < (t133.size : Int)
         ·rw [if_pos c23] at H
          have c23b0 : decide (0 < (t133.size : Int)) = true := decide_eq_true c23
          have c23b1 : decide (0 < t133.size) = true := decide_eq_true (by omega)
          clear c23
          have H' := Aside0.mk H
          clear H
          have hcz25_0 : wc.cell? ⟨gb130, 0, none⟩ = some (.int .u8 a0_0) := (blk_cell BK130.out 0).trans rfl
          have hcz25_1 : wc.cell? ⟨gb130, 1, none⟩ = some (.slice (some ad132) l0_1.length c0_1) := (blk_cell BK130.out 1).trans rfl
          have hfz25_0 := blk_frozen BK130.out 0
          have hfz25_1 := blk_frozen BK130.out 1
          have p24 : 0 ≤ (0 : Int) := (by omega)
          have q24 : 0 < t133.size := (by have : (0 : Int) < (t133.size : Int) := of_decide_eq_true (by first | (with_reducible assumption) | assumption); omega)
          have hx24 : ∀ h : 0 < t133.size, ((t133[0]'h).toNat : Int) = bt t133 0 := bt_at t133 0
          clear p24
          have qi24 : (0 < (t133.size : Int)) = True := eq_true (of_decide_eq_true (by first | (with_reducible assumption) | assumption))
          replace q24 := eq_true q24
          go_wp2
          go_meet
          case rel => exact ⟨_, (((bt t133 0) == 42)), (by first | rfl | (simp; done) | (simp [*]; done) | (simp only [IntKind.wrap_i64, wrap64]; done)), H', ⟨by have := HJ9.out; first | omega | exact Nat.le_refl _⟩, ⟨by (with_reducible repeat (first | refine blk_drewN ?_ _ | refine blk_drew ?_ | refine blk_alloc ?_ _)); exact BK130.out⟩, ⟨by repeat (first | (with_reducible first | exact HB.out | apply below_alloc | apply pw_below_drewN | apply below_drew1 | refine below_set ?_ GE130.out) | exact HB.out)⟩⟩
         ·rw [if_neg c23] at H
          exact absurd H (by simp)
        ·rw [if_neg c22] at H
         have c22b0 : (a0_0 == 42) = false := beq_eq_false_iff_ne.mpr c22
         have c22b1 : (a0_0 != 42) = true := bne_iff_ne.mpr c22
         (first | rw [c22b0] | (simp only [i64_w, i32_w]; rw [c22b0]) | skip)
         have H' := Aside0.mk H
         clear H
         have hcz26_0 : wc.cell? ⟨gb130, 0, none⟩ = some (.int .u8 a0_0) := (blk_cell BK130.out 0).trans rfl
         have hcz26_1 : wc.cell? ⟨gb130, 1, none⟩ = some (.slice (some ad132) l0_1.length c0_1) := (blk_cell BK130.out 1).trans rfl
         have hfz26_0 := blk_frozen BK130.out 0
         have hfz26_1 := blk_frozen BK130.out 1
         go_wp2
         go_meet
         case rel => exact ⟨_, (false), (by first | rfl | (simp; done) | (simp [*]; done) | (simp only [IntKind.wrap_i64, wrap64]; done)), H', ⟨by have := HJ9.out; first | omega | exact Nat.le_refl _⟩, ⟨by (with_reducible repeat (first | refine blk_drewN ?_ _ | refine blk_drew ?_ | refine blk_alloc ?_ _)); exact BK130.out⟩, ⟨by repeat (first | (with_reducible first | exact HB.out | apply below_alloc | apply pw_below_drewN | apply below_drew1 | refine below_set ?_ GE130.out) | exact HB.out)⟩⟩
       case rest =>
        clear HC21
        try clear c1
        try clear p1
        try clear q1
        try clear hx1
        try clear qi1
        try clear c2
        try clear c2b0
        try clear c2b1
        try clear c2b2
        try clear p2
        try clear q2
        try clear hx2
        try clear qi2
        try clear c7
        try clear c7b0
        try clear c7b1
        try clear c9
        try clear c9b0
        try clear c9b1
        try clear c13
        try clear p13
        try clear q13
        try clear hx13
        try clear qi13
        try clear c15
        try clear c15b0
        try clear c15b1
        try clear c16
        try clear c16b0
        try clear c16b1
        try clear c20
        try clear c22
        try clear c22b0
        try clear c22b1
        try clear c23
        try clear c23b0
        try clear c23b1
        try clear p24
        try clear q24
        try clear hx24
        try clear qi24
        try clear hcz12_0
        try clear hcz12_1
        try clear hcz14_0
        try clear hcz14_1
        try clear hcz17_0
        try clear hcz17_1
        try clear hcz18_0
        try clear hcz18_1
        try clear hcz19_0
        try clear hcz19_1
        try clear hcz25_0
        try clear hcz25_1
        try clear hcz26_0
        try clear hcz26_1
        try clear hcz5_0
        try clear hcz5_1
        try clear hfz12_0
        try clear hfz12_1
        try clear hfz14_0
        try clear hfz14_1
        try clear hfz17_0
        try clear hfz17_1
        try clear hfz18_0
        try clear hfz18_1
        try clear hfz19_0
        try clear hfz19_1
        try clear hfz25_0
        try clear hfz25_1
        try clear hfz26_0
        try clear hfz26_1
        try clear hfz5_0
        try clear hfz5_1
        try clear hx132_0
        try clear hx132_1
        try clear p1
        try clear p13
        try clear p132
        try clear p2
        try clear p24
        try clear q1
        try clear q13
        try clear q132
        try clear q24
        obtain ⟨kq, x32_20, rfl, HA, HJ20, BK130, HB⟩ := hcut
        cases kq with
        | zero => exact absurd HA.out (by simp [spec_l7Tidy.j1])
        | succ kj20 =>
         have H := HA.out
         clear HA
         simp only [spec_l7Tidy.j1] at H
         by_cases c27 : x32_20 = true
         ·subst c27
          have H1 : (some t133) = some r := by rw [if_pos rfl] at H; exact H
          clear H
          have H := H1
          clear H1
          obtain rfl := Option.some.inj H
          go_wp2
          go_ret
          exact ⟨by first | rfl | (simp [errW_none, errW_some] <;> rfl) | (simp [*, errW_none, errW_some] <;> rfl), by repeat (first | (with_reducible first | exact HB.out | apply below_alloc | apply pw_below_drewN | apply below_drew1 | refine below_set ?_ GE130.out) | exact HB.out)⟩
         ·replace c27 := Bool.eq_false_iff.mpr c27
          subst c27
          have H1 : (if a0_0 = 42 then ((some (([a0_0] : List Int) : List Int)).bind fun y134 => (if (strOfNums y134).size + t133.size ≤ 9223372036854775807 then (some ((strOfNums y134) ++ t133)) else (none))) else (if t133.toList = ([48] : List UInt8) then (some t133) else (if t133.toList = ([49] : List UInt8) then (some t133) else ((some (([a0_0] : List Int) : List Int)).bind fun y137 => (if (strOfNums y137).size + t133.size ≤ 9223372036854775807 then (some ((strOfNums y137) ++ t133)) else (none)))))) = some r := by rw [if_neg (show ¬ (false = true) by decide)] at H; exact H
          clear H
          have H := H1
          clear H1
          by_cases c28 : a0_0 = 42
          ·rw [if_pos c28] at H
           have c28b0 : (a0_0 == 42) = true := beq_iff_eq.mpr c28
           have c28b1 : (a0_0 != 42) = false := bne_eq_false_iff_eq.mpr c28
           clear c28
           obtain ⟨y134, hy134⟩ : ∃ y_ : List Int, y_ = (([a0_0] : List Int)) := ⟨_, rfl⟩
           replace H : (if (strOfNums y134).size + t133.size ≤ 9223372036854775807 then (some ((strOfNums y134) ++ t133)) else (none)) = some r := by first | (rw [hy134]; with_reducible exact H) | (have H2_ := (Option.bind_some _ _).symm.trans H; rw [hy134]; with_reducible exact H2_) | (have H2_ := (Option.bind_some _ _).symm.trans H; with_reducible exact H2_) | with_reducible exact H | (rw [hy134]; exact H) | exact H
           have Ny134 := Aside0.mk hy134
           clear hy134
           by_cases c29 : (strOfNums y134).size + t133.size ≤ 9223372036854775807
           ·rw [if_pos c29] at H
            have c29b0 := eq_true c29
            have c29b1 : decide ((strOfNums y134).size + t133.size ≤ 9223372036854775807) = true := decide_eq_true c29
            try have c29b2 : (9223372036854775807 < (strOfNums y134).size + t133.size) = False := eq_false (Nat.not_lt.2 c29)
            obtain rfl := Option.some.inj H
            have hcz30_0 : wc.cell? ⟨gb130, 0, none⟩ = some (.int .u8 a0_0) := (blk_cell BK130.out 0).trans rfl
            have hcz30_1 : wc.cell? ⟨gb130, 1, none⟩ = some (.slice (some ad132) l0_1.length c0_1) := (blk_cell BK130.out 1).trans rfl
            have hfz30_0 := blk_frozen BK130.out 0
            have hfz30_1 := blk_frozen BK130.out 1
            go_wp2_with (first | ((with_reducible refine gate_dst (N := 57) rfl ?_); refine Kd.R_lit (Kd.int .u8) _ 5 ?hg (N := 57) ?hd (xs := ([a0_0] : List Int)) (inner := [.int .u8 a0_0]) (ok := fun _ => True) (okp := fun _ => True) ?hr ?hp (fun _ hk => hk) trivial (Below.refl _ _) (Nat.le_refl _) (by simp) ?_; (case hd => rfl); (case hg => rfl); (case hr => first | (go_simp; done) | (go_simp; rfl)); (case hp => exact (Reps.one (show Kd.M (Kd.int .u8) _ _ _ a0_0 [.int .u8 a0_0] from rfl) (Reps.none _ _))); intro v135 w31 ho32 hb hg_ hnew_; clear hg_ hnew_; (first | rw [← Ny134.out] at ho32 | (simp only [Int.reduceToNat] at ho32; rw [← Ny134.out] at ho32)); have n0_ := Aside0.mk (Kd.R_lower ho32 (below_size (by repeat (first | (with_reducible first | exact HB.out | apply below_alloc | apply pw_below_drewN | apply below_drew1 | refine below_set ?_ GE130.out) | exact HB.out)))); have n1_ := Aside0.mk (blk_below (g := gb130) (o := .cells #[.int .u8 a0_0, .slice (some ad132) l0_1.length c0_1] 28 (0, 0)) (by (with_reducible repeat (first | refine blk_drewN ?_ _ | refine blk_drew ?_ | refine blk_alloc ?_ _)); exact BK130.out) hb); have n2_ := Aside0.mk (below_step (by repeat (first | (with_reducible first | exact HB.out | apply below_alloc | apply pw_below_drewN | apply below_drew1 | refine below_set ?_ GE130.out) | exact HB.out)) hb); clear BK130; clear HB; have HO136 := n0_; have BK130 := n1_; have HB := n2_; clear n0_ n1_ n2_; clear hb ho32; have hcv33 := own_string (P := Try.prog) Try.underlying43 Try.underlying5 Try.underlying9 (Kd.own_of_R HO136.out)))
            go_ret
            exact ⟨by first | rfl | (simp [errW_none, errW_some] <;> rfl) | (simp [*, errW_none, errW_some] <;> rfl), by repeat (first | (with_reducible first | exact HB.out | apply below_alloc | apply pw_below_drewN | apply below_drew1 | refine below_set ?_ GE130.out) | exact HB.out)⟩
           ·rw [if_neg c29] at H
            exact absurd H (by simp)
          ·rw [if_neg c28] at H
           have c28b0 : (a0_0 == 42) = false := beq_eq_false_iff_ne.mpr c28
           have c28b1 : (a0_0 != 42) = true := bne_iff_ne.mpr c28
           by_cases c34 : t133.toList = ([48] : List UInt8)
           ·rw [if_pos c34] at H
            have c34b0 : (t133.toList == ([48] : List UInt8)) = true := beq_iff_eq.mpr c34
            have c34b1 : (t133.toList != ([48] : List UInt8)) = false := bne_eq_false_iff_eq.mpr c34
            clear c34
            obtain rfl := Option.some.inj H
            have hcz35_0 : wc.cell? ⟨gb130, 0, none⟩ = some (.int .u8 a0_0) := (blk_cell BK130.out 0).trans rfl
            have hcz35_1 : wc.cell? ⟨gb130, 1, none⟩ = some (.slice (some ad132) l0_1.length c0_1) := (blk_cell BK130.out 1).trans rfl
            have hfz35_0 := blk_frozen BK130.out 0
            have hfz35_1 := blk_frozen BK130.out 1
            go_wp2
            go_ret
            exact ⟨by first | rfl | (simp [errW_none, errW_some] <;> rfl) | (simp [*, errW_none, errW_some] <;> rfl), by repeat (first | (with_reducible first | exact HB.out | apply below_alloc | apply pw_below_drewN | apply below_drew1 | refine below_set ?_ GE130.out) | exact HB.out)⟩
           ·rw [if_neg c34] at H
            have c34b0 : (t133.toList == ([48] : List UInt8)) = false := beq_eq_false_iff_ne.mpr c34
            have c34b1 : (t133.toList != ([48] : List UInt8)) = true := bne_iff_ne.mpr c34
            by_cases c36 : t133.toList = ([49] : List UInt8)
            ·rw [if_pos c36] at H
             have c36b0 : (t133.toList == ([49] : List UInt8)) = true := beq_iff_eq.mpr c36
             have c36b1 : (t133.toList != ([49] : List UInt8)) = false := bne_eq_false_iff_eq.mpr c36
             clear c36
             obtain rfl := Option.some.inj H
             have hcz37_0 : wc.cell? ⟨gb130, 0, none⟩ = some (.int .u8 a0_0) := (blk_cell BK130.out 0).trans rfl
             have hcz37_1 : wc.cell? ⟨gb130, 1, none⟩ = some (.slice (some ad132) l0_1.length c0_1) := (blk_cell BK130.out 1).trans rfl
             have hfz37_0 := blk_frozen BK130.out 0
             have hfz37_1 := blk_frozen BK130.out 1
             go_wp2
             go_ret
             exact ⟨by first | rfl | (simp [errW_none, errW_some] <;> rfl) | (simp [*, errW_none, errW_some] <;> rfl), by repeat (first | (with_reducible first | exact HB.out | apply below_alloc | apply pw_below_drewN | apply below_drew1 | refine below_set ?_ GE130.out) | exact HB.out)⟩
            ·rw [if_neg c36] at H
             have c36b0 : (t133.toList == ([49] : List UInt8)) = false := beq_eq_false_iff_ne.mpr c36
             have c36b1 : (t133.toList != ([49] : List UInt8)) = true := bne_iff_ne.mpr c36
             obtain ⟨y137, hy137⟩ : ∃ y_ : List Int, y_ = (([a0_0] : List Int)) := ⟨_, rfl⟩
             replace H : (if (strOfNums y137).size + t133.size ≤ 9223372036854775807 then (some ((strOfNums y137) ++ t133)) else (none)) = some r := by first | (rw [hy137]; with_reducible exact H) | (have H2_ := (Option.bind_some _ _).symm.trans H; rw [hy137]; with_reducible exact H2_) | (have H2_ := (Option.bind_some _ _).symm.trans H; with_reducible exact H2_) | with_reducible exact H | (rw [hy137]; exact H) | exact H
             have Ny137 := Aside0.mk hy137
             clear hy137
             by_cases c38 : (strOfNums y137).size + t133.size ≤ 9223372036854775807
             ·rw [if_pos c38] at H
              have c38b0 := eq_true c38
              have c38b1 : decide ((strOfNums y137).size + t133.size ≤ 9223372036854775807) = true := decide_eq_true c38
              try have c38b2 : (9223372036854775807 < (strOfNums y137).size + t133.size) = False := eq_false (Nat.not_lt.2 c38)
              obtain rfl := Option.some.inj H
              have hcz39_0 : wc.cell? ⟨gb130, 0, none⟩ = some (.int .u8 a0_0) := (blk_cell BK130.out 0).trans rfl
              have hcz39_1 : wc.cell? ⟨gb130, 1, none⟩ = some (.slice (some ad132) l0_1.length c0_1) := (blk_cell BK130.out 1).trans rfl
              have hfz39_0 := blk_frozen BK130.out 0
              have hfz39_1 := blk_frozen BK130.out 1
              go_wp2_with (first | ((with_reducible refine gate_dst (N := 57) rfl ?_); refine Kd.R_lit (Kd.int .u8) _ 5 ?hg (N := 57) ?hd (xs := ([a0_0] : List Int)) (inner := [.int .u8 a0_0]) (ok := fun _ => True) (okp := fun _ => True) ?hr ?hp (fun _ hk => hk) trivial (Below.refl _ _) (Nat.le_refl _) (by simp) ?_; (case hd => rfl); (case hg => rfl); (case hr => first | (go_simp; done) | (go_simp; rfl)); (case hp => exact (Reps.one (show Kd.M (Kd.int .u8) _ _ _ a0_0 [.int .u8 a0_0] from rfl) (Reps.none _ _))); intro v138 w40 ho41 hb hg_ hnew_; clear hg_ hnew_; (first | rw [← Ny137.out] at ho41 | (simp only [Int.reduceToNat] at ho41; rw [← Ny137.out] at ho41)); have n0_ := Aside0.mk (Kd.R_lower ho41 (below_size (by repeat (first | (with_reducible first | exact HB.out | apply below_alloc | apply pw_below_drewN | apply below_drew1 | refine below_set ?_ GE130.out) | exact HB.out)))); have n1_ := Aside0.mk (blk_below (g := gb130) (o := .cells #[.int .u8 a0_0, .slice (some ad132) l0_1.length c0_1] 28 (0, 0)) (by (with_reducible repeat (first | refine blk_drewN ?_ _ | refine blk_drew ?_ | refine blk_alloc ?_ _)); exact BK130.out) hb); have n2_ := Aside0.mk (below_step (by repeat (first | (with_reducible first | exact HB.out | apply below_alloc | apply pw_below_drewN | apply below_drew1 | refine below_set ?_ GE130.out) | exact HB.out)) hb); clear BK130; clear HB; have HO139 := n0_; have BK130 := n1_; have HB := n2_; clear n0_ n1_ n2_; clear hb ho41; have hcv42 := own_string (P := Try.prog) Try.underlying43 Try.underlying5 Try.underlying9 (Kd.own_of_R HO139.out)))
              go_ret
              exact ⟨by first | rfl | (simp [errW_none, errW_some] <;> rfl) | (simp [*, errW_none, errW_some] <;> rfl), by repeat (first | (with_reducible first | exact HB.out | apply below_alloc | apply pw_below_drewN | apply below_drew1 | refine below_set ?_ GE130.out) | exact HB.out)⟩
             ·rw [if_neg c38] at H
              exact absurd H (by simp)
   ·rw [if_neg c9] at H
    have c9b0 : ((l0_1.length : Int) == 1) = false := beq_eq_false_iff_ne.mpr c9
    have c9b1 : ((l0_1.length : Int) != 1) = true := bne_iff_ne.mpr c9
    by_cases c43 : 1 < (l0_1.length : Int)
    ·rw [if_pos c43] at H
     have c43b0 : decide (1 < (l0_1.length : Int)) = true := decide_eq_true c43
     have c43b1 : decide (1 < l0_1.length) = true := decide_eq_true (by omega)
     clear c43
     replace H := Option.bind_eq_some_iff.mp H
     obtain ⟨t141, A440, H⟩ := H
     replace H : (if a0_0 = 43 then (spec_l7Tidy.j2 k t133 t141 (t133.toList == ([48] : List UInt8)) a0_0 l0_1) else (spec_l7Tidy.j2 k t133 t141 false a0_0 l0_1)) = some r := H
     have A44 := Aside0.mk A440
     clear A440
     have HC45 := Aside0.mk H
     clear H
     go_enter Try.func13, Try.ntmps13
     go_upto_region 13 with (first | ((with_reducible refine gate_dst (N := 1) rfl ?_); refine box_event ?hg (N := 1) ?hd (cs := #[.int .u8 a0_0, .slice A0_1 l0_1.length c0_1]) (t := 28) ?hr ?_; (case hd => rfl); (case hg => rfl); (case hr => first | (go_simp; done) | (go_simp; rfl)); intro gb130 hg w46 hbox hb; have n0_ := Aside0.mk (below_step (by repeat (first | (with_reducible first | exact HB.out | apply below_alloc | apply pw_below_drewN | apply below_drew1) | exact HB.out)) hb); have n1_ := Aside0.mk (hbox); have n2_ := Aside0.mk ((by rw [hg]; exact (below_size (by repeat (first | (with_reducible first | exact HB.out | apply below_alloc | apply pw_below_drewN | apply below_drew1) | exact HB.out))) : w.heap.size ≤ gb130)); have n3_ := Aside0.mk ((by rw [hg]; exact (below_size (by repeat (first | (with_reducible first | exact HB.out | apply below_alloc | apply pw_below_drewN | apply below_drew1) | exact HB.out))) : w.heap.size ≤ gb130)); clear HB; have HB := n0_; have BK130 := n1_; have GW130 := n2_; have GE130 := n3_; clear n0_ n1_ n2_ n3_; clear hb hbox hg; have hcz47_0 : w46.cell? ⟨gb130, 0, none⟩ = some (.int .u8 a0_0) := (blk_cell BK130.out 0).trans rfl; have hcz47_1 : w46.cell? ⟨gb130, 1, none⟩ = some (.slice A0_1 l0_1.length c0_1) := (blk_cell BK130.out 1).trans rfl; have hfz47_0 := blk_frozen BK130.out 0; have hfz47_1 := blk_frozen BK130.out 1; have p132 : 0 ≤ (0 : Int) := (by omega); have q132 : 0 < (l0_1.length : Int) := of_decide_eq_true (by first | (with_reducible assumption) | assumption); obtain ⟨ad132, A132_1, c132_1, e132, hx132_0, hx132_1, hl132_1, hi132_1⟩ := at_T28 HR0_1.out 0 p132 q132; cases e132; have qi132 : (0 < l0_1.length) = True := eq_true (by omega); (try rw [show ((0 : Int)).toNat = 0 from rfl] at hx132_0); (try rw [show 0 * 2 = 0 from rfl] at hx132_0); (try rw [Addr.add_zero'] at hx132_0); (try rw [show ((0 : Int)).toNat = 0 from rfl] at hx132_1); (try rw [show 0 * 2 = 0 from rfl] at hx132_1); (try rw [Addr.add_zero'] at hx132_1); replace hx132_0 := (HB.out.cell (World.block_lt_of_cell? w _ hx132_0)).trans hx132_0; replace hx132_1 := (HB.out.cell (World.block_lt_of_cell? w _ hx132_1)).trans hx132_1; have HR132_1 := Aside0.mk hi132_1; have HC132_1 := Aside0.mk hl132_1; clear hi132_1 hl132_1; replace p132 := eq_true p132; replace q132 := eq_true q132) | ((with_reducible refine gate_callee (f := 13) rfl ?_); refine goesL_ (some 15) rfl rfl Try.func13 (by kernel_rfl) rfl #[.agg #[.int .u8 ((rd_T28 l0_1 0).f0), .slice A132_1 ((rd_T28 l0_1 0).f1).length c132_1]] rfl (by (try simp only [List.map_toArray, List.map_cons, List.map_nil]); first | done | rfl | (simp only [List.length_drop, List.length_take]; rfl)) ?_; (with_reducible refine (ih k (by omega) ((rd_T28 l0_1 0).f0) _ _ ((rd_T28 l0_1 0).f1) t133 _ ?side1 ?side2 A8.out).mono ?_); (case side1 => repeat (first | exact (Kd.C_below HR132_1.out HB.out) | (with_reducible refine Kd.C_alloc ?_ _) | (with_reducible refine Kd.C_drewN ?_ _) | (with_reducible refine Kd.C_drew ?_))); (case side2 => exact HC132_1.out); rintro e w48 ⟨rfl, hb⟩; refine ⟨_, rfl, ?_⟩; have n0_ := Aside0.mk (blk_below (g := gb130) (o := .cells #[.int .u8 a0_0, .slice (some ad132) l0_1.length c0_1] 28 (0, 0)) (by (with_reducible repeat (first | refine blk_drewN ?_ _ | refine blk_drew ?_ | refine blk_alloc ?_ _)); exact BK130.out) hb); have n1_ := Aside0.mk (below_step (by repeat (first | (with_reducible first | exact HB.out | apply below_alloc | apply pw_below_drewN | apply below_drew1 | refine below_set ?_ GE130.out) | exact HB.out)) hb); clear BK130; clear HB; have BK130 := n0_; have HB := n1_; clear n0_ n1_; (try clear hb); (try clear hb2); (try clear hk); (try clear hi); have hcz49_0 : w48.cell? ⟨gb130, 0, none⟩ = some (.int .u8 a0_0) := (blk_cell BK130.out 0).trans rfl; have hcz49_1 : w48.cell? ⟨gb130, 1, none⟩ = some (.slice (some ad132) l0_1.length c0_1) := (blk_cell BK130.out 1).trans rfl; have hfz49_0 := blk_frozen BK130.out 0; have hfz49_1 := blk_frozen BK130.out 1; have p140 : 0 ≤ (1 : Int) := (by omega); have q140 : 1 < (l0_1.length : Int) := of_decide_eq_true (by first | (with_reducible assumption) | assumption); obtain ⟨ad140, A140_1, c140_1, e140, hx140_0, hx140_1, hl140_1, hi140_1⟩ := at_T28 HR0_1.out 1 p140 q140; obtain rfl : ad132 = ad140 := (by injection e140); (try simp only [show (1 : Int).toNat = 1 from rfl, Nat.reduceMul, Nat.reduceEqDiff, Go.Addr.add, ↓reduceIte] at hx140_0); (try simp only [show (1 : Int).toNat = 1 from rfl, Nat.reduceMul, Nat.reduceEqDiff, Go.Addr.add, ↓reduceIte] at hx140_1); have qi140 : (1 < l0_1.length) = True := eq_true (by omega); (try rw [show ((1 : Int)).toNat = 1 from rfl] at hx140_0); (try rw [show 1 * 2 = 2 from rfl] at hx140_0); (try rw [show ((1 : Int)).toNat = 1 from rfl] at hx140_1); (try rw [show 1 * 2 = 2 from rfl] at hx140_1); replace hx140_0 := (HB.out.cell (World.block_lt_of_cell? w _ hx140_0)).trans hx140_0; replace hx140_1 := (HB.out.cell (World.block_lt_of_cell? w _ hx140_1)).trans hx140_1; have HR140_1 := Aside0.mk hi140_1; have HC140_1 := Aside0.mk hl140_1; clear hi140_1 hl140_1; replace p140 := eq_true p140; replace q140 := eq_true q140) | ((with_reducible refine gate_callee (f := 13) rfl ?_); refine goesL_ (some 65) rfl rfl Try.func13 (by kernel_rfl) rfl #[.agg #[.int .u8 ((rd_T28 l0_1 1).f0), .slice A140_1 ((rd_T28 l0_1 1).f1).length c140_1]] rfl (by (try simp only [List.map_toArray, List.map_cons, List.map_nil]); first | done | rfl | (simp only [List.length_drop, List.length_take]; rfl)) ?_; (with_reducible refine (ih k (by omega) ((rd_T28 l0_1 1).f0) _ _ ((rd_T28 l0_1 1).f1) t141 _ ?side1 ?side2 A44.out).mono ?_); (case side1 => repeat (first | exact (Kd.C_below HR140_1.out HB.out) | (with_reducible refine Kd.C_alloc ?_ _) | (with_reducible refine Kd.C_drewN ?_ _) | (with_reducible refine Kd.C_drew ?_))); (case side2 => exact HC140_1.out); rintro e w50 ⟨rfl, hb⟩; refine ⟨_, rfl, ?_⟩; have n0_ := Aside0.mk (blk_below (g := gb130) (o := .cells #[.int .u8 a0_0, .slice (some ad132) l0_1.length c0_1] 28 (0, 0)) (by (with_reducible repeat (first | refine blk_drewN ?_ _ | refine blk_drew ?_ | refine blk_alloc ?_ _)); exact BK130.out) hb); have n1_ := Aside0.mk (below_step (by repeat (first | (with_reducible first | exact HB.out | apply below_alloc | apply pw_below_drewN | apply below_drew1 | refine below_set ?_ GE130.out) | exact HB.out)) hb); clear BK130; clear HB; have BK130 := n0_; have HB := n1_; clear n0_ n1_; (try clear hb); (try clear hb2); (try clear hk); (try clear hi)))
     (try simp only [Act.put, List.setIfInBounds_toArray, List.set_cons_zero, List.set_cons_succ])
     go_cut [66] (fun v66 wc => ∃ (kq : Nat) (x66_44 : Bool), v66 = .bool x66_44 ∧ Aside0 (spec_l7Tidy.j2 kq t133 t141 x66_44 a0_0 l0_1 = some r) ∧ Aside0 (kq ≤ k) ∧ Aside0 (wc.heap[gb130]? = some (.cells #[.int .u8 a0_0, (.slice (some ad132) l0_1.length c0_1)] 28 (0, 0))) ∧ Aside0 (Below w.heap.size w wc))
     case first =>
      have H := HC45.out
      clear HC45
      by_cases c51 : a0_0 = 43
      ·rw [if_pos c51] at H
       have c51b0 : (a0_0 == 43) = true := beq_iff_eq.mpr c51
       have c51b1 : (a0_0 != 43) = false := bne_eq_false_iff_eq.mpr c51
       clear c51
       (first | rw [c51b0] | (simp only [i64_w, i32_w]; rw [c51b0]) | skip)
       have H' := Aside0.mk H
       clear H
       have hcz52_0 : w50.cell? ⟨gb130, 0, none⟩ = some (.int .u8 a0_0) := (blk_cell BK130.out 0).trans rfl
       have hcz52_1 : w50.cell? ⟨gb130, 1, none⟩ = some (.slice (some ad132) l0_1.length c0_1) := (blk_cell BK130.out 1).trans rfl
       have hfz52_0 := blk_frozen BK130.out 0
       have hfz52_1 := blk_frozen BK130.out 1
       go_wp2
       go_meet
       case rel => exact ⟨_, ((t133.toList == ([48] : List UInt8))), (by first | rfl | (simp; done) | (simp [*]; done) | (simp only [IntKind.wrap_i64, wrap64]; done)), H', ⟨by first | omega | exact Nat.le_refl _⟩, ⟨by (with_reducible repeat (first | refine blk_drewN ?_ _ | refine blk_drew ?_ | refine blk_alloc ?_ _)); exact BK130.out⟩, ⟨by repeat (first | (with_reducible first | exact HB.out | apply below_alloc | apply pw_below_drewN | apply below_drew1 | refine below_set ?_ GE130.out) | exact HB.out)⟩⟩
      ·rw [if_neg c51] at H
       have c51b0 : (a0_0 == 43) = false := beq_eq_false_iff_ne.mpr c51
       have c51b1 : (a0_0 != 43) = true := bne_iff_ne.mpr c51
       (first | rw [c51b0] | (simp only [i64_w, i32_w]; rw [c51b0]) | skip)
       have H' := Aside0.mk H
       clear H
       have hcz53_0 : w50.cell? ⟨gb130, 0, none⟩ = some (.int .u8 a0_0) := (blk_cell BK130.out 0).trans rfl
       have hcz53_1 : w50.cell? ⟨gb130, 1, none⟩ = some (.slice (some ad132) l0_1.length c0_1) := (blk_cell BK130.out 1).trans rfl
       have hfz53_0 := blk_frozen BK130.out 0
       have hfz53_1 := blk_frozen BK130.out 1
       go_wp2
       go_meet
       case rel => exact ⟨_, (false), (by first | rfl | (simp; done) | (simp [*]; done) | (simp only [IntKind.wrap_i64, wrap64]; done)), H', ⟨by first | omega | exact Nat.le_refl _⟩, ⟨by (with_reducible repeat (first | refine blk_drewN ?_ _ | refine blk_drew ?_ | refine blk_alloc ?_ _)); exact BK130.out⟩, ⟨by repeat (first | (with_reducible first | exact HB.out | apply below_alloc | apply pw_below_drewN | apply below_drew1 | refine below_set ?_ GE130.out) | exact HB.out)⟩⟩
     case rest =>
      clear HC45
      try clear c1
      try clear p1
      try clear q1
      try clear hx1
      try clear qi1
      try clear c2
      try clear c2b0
      try clear c2b1
      try clear c2b2
      try clear p2
      try clear q2
      try clear hx2
      try clear qi2
      try clear c3
      try clear hcv3
      try clear c4
      try clear hcv4
      try clear c5
      try clear c7
      try clear c7b0
      try clear c7b1
      try clear c9
      try clear c9b0
      try clear c9b1
      try clear c13
      try clear p13
      try clear q13
      try clear hx13
      try clear qi13
      try clear c14
      try clear p14
      try clear q14
      try clear hx14
      try clear qi14
      try clear c15
      try clear c15b0
      try clear c15b1
      try clear c16
      try clear c16b0
      try clear c16b1
      try clear c20
      try clear c22
      try clear c22b0
      try clear c22b1
      try clear c23
      try clear c23b0
      try clear c23b1
      try clear p24
      try clear q24
      try clear hx24
      try clear qi24
      try clear c27
      try clear c28
      try clear c28b0
      try clear c28b1
      try clear c29
      try clear c29b0
      try clear c29b1
      try clear c29b2
      try clear hcv33
      try clear c34
      try clear c34b0
      try clear c34b1
      try clear c36
      try clear c36b0
      try clear c36b1
      try clear c38
      try clear c38b0
      try clear c38b1
      try clear c38b2
      try clear hcv42
      try clear c43
      try clear c43b0
      try clear c43b1
      try clear c51
      try clear c51b0
      try clear c51b1
      try clear hcz12_0
      try clear hcz12_1
      try clear hcz14_0
      try clear hcz14_1
      try clear hcz17_0
      try clear hcz17_1
      try clear hcz18_0
      try clear hcz18_1
      try clear hcz19_0
      try clear hcz19_1
      try clear hcz25_0
      try clear hcz25_1
      try clear hcz26_0
      try clear hcz26_1
      try clear hcz30_0
      try clear hcz30_1
      try clear hcz35_0
      try clear hcz35_1
      try clear hcz37_0
      try clear hcz37_1
      try clear hcz39_0
      try clear hcz39_1
      try clear hcz47_0
      try clear hcz47_1
      try clear hcz49_0
      try clear hcz49_1
      try clear hcz52_0
      try clear hcz52_1
      try clear hcz53_0
      try clear hcz53_1
      try clear hcz5_0
      try clear hcz5_1
      try clear hfz12_0
      try clear hfz12_1
      try clear hfz14_0
      try clear hfz14_1
      try clear hfz17_0
      try clear hfz17_1
      try clear hfz18_0
      try clear hfz18_1
      try clear hfz19_0
      try clear hfz19_1
      try clear hfz25_0
      try clear hfz25_1
      try clear hfz26_0
      try clear hfz26_1
      try clear hfz30_0
      try clear hfz30_1
      try clear hfz35_0
      try clear hfz35_1
      try clear hfz37_0
      try clear hfz37_1
      try clear hfz39_0
      try clear hfz39_1
      try clear hfz47_0
      try clear hfz47_1
      try clear hfz49_0
      try clear hfz49_1
      try clear hfz52_0
      try clear hfz52_1
      try clear hfz53_0
      try clear hfz53_1
      try clear hfz5_0
      try clear hfz5_1
      try clear hx132_0
      try clear hx132_1
      try clear hx140_0
      try clear hx140_1
      try clear p1
      try clear p13
      try clear p132
      try clear p140
      try clear p2
      try clear p24
      try clear q1
      try clear q13
      try clear q132
      try clear q140
      try clear q2
      try clear q24
      obtain ⟨kq, x66_44, rfl, HA, HJ44, BK130, HB⟩ := hcut
      cases kq with
      | zero => exact absurd HA.out (by simp [spec_l7Tidy.j2])
      | succ kj44 =>
       have H := HA.out
       clear HA
       simp only [spec_l7Tidy.j2] at H
       by_cases c54 : x66_44 = true
       ·subst c54
        have H1 : (some t141) = some r := by rw [if_pos rfl] at H; exact H
        clear H
        have H := H1
        clear H1
        obtain rfl := Option.some.inj H
        go_wp2
        go_ret
        exact ⟨by first | rfl | (simp [errW_none, errW_some] <;> rfl) | (simp [*, errW_none, errW_some] <;> rfl), by repeat (first | (with_reducible first | exact HB.out | apply below_alloc | apply pw_below_drewN | apply below_drew1 | refine below_set ?_ GE130.out) | exact HB.out)⟩
       ·replace c54 := Bool.eq_false_iff.mpr c54
        subst c54
        have H1 : (if a0_0 = 43 then (spec_l7Tidy.j3 kj44 t133 t141 (t141.toList == ([48] : List UInt8)) a0_0 l0_1) else (spec_l7Tidy.j3 kj44 t133 t141 false a0_0 l0_1)) = some r := by rw [if_neg (show ¬ (false = true) by decide)] at H; exact H
        clear H
        have H := H1
        clear H1
        have HC55 := Aside0.mk H
        clear H
        go_upto_region 15 with (fail)
        go_cut [75] (fun v75 wc => ∃ (kq : Nat) (x75_54 : Bool), v75 = .bool x75_54 ∧ Aside0 (spec_l7Tidy.j3 kq t133 t141 x75_54 a0_0 l0_1 = some r) ∧ Aside0 (kq ≤ kj44) ∧ Aside0 (wc.heap[gb130]? = some (.cells #[.int .u8 a0_0, (.slice (some ad132) l0_1.length c0_1)] 28 (0, 0))) ∧ Aside0 (Below w.heap.size w wc))
        case first =>
         have H := HC55.out
         clear HC55
         by_cases c56 : a0_0 = 43
         ·rw [if_pos c56] at H
          have c56b0 : (a0_0 == 43) = true := beq_iff_eq.mpr c56
          have c56b1 : (a0_0 != 43) = false := bne_eq_false_iff_eq.mpr c56
          clear c56
          (first | rw [c56b0] | (simp only [i64_w, i32_w]; rw [c56b0]) | skip)
          have H' := Aside0.mk H
          clear H
          have hcz57_0 : wc.cell? ⟨gb130, 0, none⟩ = some (.int .u8 a0_0) := (blk_cell BK130.out 0).trans rfl
          have hcz57_1 : wc.cell? ⟨gb130, 1, none⟩ = some (.slice (some ad132) l0_1.length c0_1) := (blk_cell BK130.out 1).trans rfl
          have hfz57_0 := blk_frozen BK130.out 0
          have hfz57_1 := blk_frozen BK130.out 1
          go_wp2
          go_meet
          case rel => exact ⟨_, ((t141.toList == ([48] : List UInt8))), (by first | rfl | (simp; done) | (simp [*]; done) | (simp only [IntKind.wrap_i64, wrap64]; done)), H', ⟨by have := HJ44.out; first | omega | exact Nat.le_refl _⟩, ⟨by (with_reducible repeat (first | refine blk_drewN ?_ _ | refine blk_drew ?_ | refine blk_alloc ?_ _)); exact BK130.out⟩, ⟨by repeat (first | (with_reducible first | exact HB.out | apply below_alloc | apply pw_below_drewN | apply below_drew1 | refine below_set ?_ GE130.out) | exact HB.out)⟩⟩
         ·rw [if_neg c56] at H
          have c56b0 : (a0_0 == 43) = false := beq_eq_false_iff_ne.mpr c56
          have c56b1 : (a0_0 != 43) = true := bne_iff_ne.mpr c56
          (first | rw [c56b0] | (simp only [i64_w, i32_w]; rw [c56b0]) | skip)
          have H' := Aside0.mk H
          clear H
          have hcz58_0 : wc.cell? ⟨gb130, 0, none⟩ = some (.int .u8 a0_0) := (blk_cell BK130.out 0).trans rfl
          have hcz58_1 : wc.cell? ⟨gb130, 1, none⟩ = some (.slice (some ad132) l0_1.length c0_1) := (blk_cell BK130.out 1).trans rfl
          have hfz58_0 := blk_frozen BK130.out 0
          have hfz58_1 := blk_frozen BK130.out 1
          go_wp2
          go_meet
          case rel => exact ⟨_, (false), (by first | rfl | (simp; done) | (simp [*]; done) | (simp only [IntKind.wrap_i64, wrap64]; done)), H', ⟨by have := HJ44.out; first | omega | exact Nat.le_refl _⟩, ⟨by (with_reducible repeat (first | refine blk_drewN ?_ _ | refine blk_drew ?_ | refine blk_alloc ?_ _)); exact BK130.out⟩, ⟨by repeat (first | (with_reducible first | exact HB.out | apply below_alloc | apply pw_below_drewN | apply below_drew1 | refine below_set ?_ GE130.out) | exact HB.out)⟩⟩
        case rest =>
         clear HC55
         try clear c1
         try clear p1
         try clear q1
         try clear hx1
         try clear qi1
         try clear c2
         try clear c2b0
         try clear c2b1
         try clear c2b2
         try clear p2
         try clear q2
         try clear hx2
         try clear qi2
         try clear c3
         try clear hcv3
         try clear c4
         try clear hcv4
         try clear c5
         try clear c7
         try clear c7b0
         try clear c7b1
         try clear c9
         try clear c9b0
         try clear c9b1
         try clear c13
         try clear p13
         try clear q13
         try clear hx13
         try clear qi13
         try clear c14
         try clear p14
         try clear q14
         try clear hx14
         try clear qi14
         try clear c15
         try clear c15b0
         try clear c15b1
         try clear c16
         try clear c16b0
         try clear c16b1
         try clear c20
         try clear c22
         try clear c22b0
         try clear c22b1
         try clear c23
         try clear c23b0
         try clear c23b1
         try clear p24
         try clear q24
         try clear hx24
         try clear qi24
         try clear c27
         try clear c28
         try clear c28b0
         try clear c28b1
         try clear c29
         try clear c29b0
         try clear c29b1
         try clear c29b2
         try clear hcv33
         try clear c34
         try clear c34b0
         try clear c34b1
         try clear c36
         try clear c36b0
         try clear c36b1
         try clear c38
         try clear c38b0
         try clear c38b1
         try clear c38b2
         try clear hcv42
         try clear c43
         try clear c43b0
         try clear c43b1
         try clear c51
         try clear c51b0
         try clear c51b1
         try clear c54
         try clear c56
         try clear c56b0
         try clear c56b1
         try clear hcz12_0
         try clear hcz12_1
         try clear hcz14_0
         try clear hcz14_1
         try clear hcz17_0
         try clear hcz17_1
         try clear hcz18_0
         try clear hcz18_1
         try clear hcz19_0
         try clear hcz19_1
         try clear hcz25_0
         try clear hcz25_1
         try clear hcz26_0
         try clear hcz26_1
         try clear hcz30_0
         try clear hcz30_1
         try clear hcz35_0
         try clear hcz35_1
         try clear hcz37_0
         try clear hcz37_1
         try clear hcz39_0
         try clear hcz39_1
         try clear hcz47_0
         try clear hcz47_1
         try clear hcz49_0
         try clear hcz49_1
         try clear hcz52_0
         try clear hcz52_1
         try clear hcz53_0
         try clear hcz53_1
         try clear hcz57_0
         try clear hcz57_1
         try clear hcz58_0
         try clear hcz58_1
         try clear hcz5_0
         try clear hcz5_1
         try clear hfz12_0
         try clear hfz12_1
         try clear hfz14_0
         try clear hfz14_1
         try clear hfz17_0
         try clear hfz17_1
         try clear hfz18_0
         try clear hfz18_1
         try clear hfz19_0
         try clear hfz19_1
         try clear hfz25_0
         try clear hfz25_1
         try clear hfz26_0
         try clear hfz26_1
         try clear hfz30_0
         try clear hfz30_1
         try clear hfz35_0
         try clear hfz35_1
         try clear hfz37_0
         try clear hfz37_1
         try clear hfz39_0
         try clear hfz39_1
         try clear hfz47_0
         try clear hfz47_1
         try clear hfz49_0
         try clear hfz49_1
         try clear hfz52_0
         try clear hfz52_1
         try clear hfz53_0
         try clear hfz53_1
         try clear hfz57_0
         try clear hfz57_1
         try clear hfz58_0
         try clear hfz58_1
         try clear hfz5_0
         try clear hfz5_1
         try clear hx132_0
         try clear hx132_1
         try clear hx140_0
         try clear hx140_1
         try clear p1
         try clear p13
         try clear p132
         try clear p14
         try clear p140
         try clear p2
         try clear p24
         try clear q1
         try clear q13
         try clear q132
         try clear q14
         try clear q140
         try clear q2
         try clear q24
         obtain ⟨kq, x75_54, rfl, HA, HJ54, BK130, HB⟩ := hcut
         cases kq with
         | zero => exact absurd HA.out (by simp [spec_l7Tidy.j3])
         | succ kj54 =>
          have H := HA.out
          clear HA
          simp only [spec_l7Tidy.j3] at H
          by_cases c59 : x75_54 = true
          ·subst c59
           have H1 : (some t133) = some r := by rw [if_pos rfl] at H; exact H
           clear H
           have H := H1
           clear H1
           obtain rfl := Option.some.inj H
           go_wp2
           go_ret
           exact ⟨by first | rfl | (simp [errW_none, errW_some] <;> rfl) | (simp [*, errW_none, errW_some] <;> rfl), by repeat (first | (with_reducible first | exact HB.out | apply below_alloc | apply pw_below_drewN | apply below_drew1 | refine below_set ?_ GE130.out) | exact HB.out)⟩
          ·replace c59 := Bool.eq_false_iff.mpr c59
           subst c59
           have H1 : (if a0_0 = 43 then (spec_l7Tidy.j4 kj54 t133 t141 false a0_0 l0_1) else (if t133.toList = ([48] : List UInt8) then (spec_l7Tidy.j4 kj54 t133 t141 true a0_0 l0_1) else (spec_l7Tidy.j4 kj54 t133 t141 (t141.toList == ([48] : List UInt8)) a0_0 l0_1))) = some r := by rw [if_neg (show ¬ (false = true) by decide)] at H; exact H
           clear H
           have H := H1
           clear H1
           have HC60 := Aside0.mk H
           clear H
           go_upto_region 17 with (fail)
           go_cut [84] (fun v84 wc => ∃ (kq : Nat) (x84_59 : Bool), v84 = .bool x84_59 ∧ Aside0 (spec_l7Tidy.j4 kq t133 t141 x84_59 a0_0 l0_1 = some r) ∧ Aside0 (kq ≤ kj54) ∧ Aside0 (wc.heap[gb130]? = some (.cells #[.int .u8 a0_0, (.slice (some ad132) l0_1.length c0_1)] 28 (0, 0))) ∧ Aside0 (Below w.heap.size w wc))
           case first =>
            have H := HC60.out
            clear HC60
            by_cases c61 : a0_0 = 43
            ·rw [if_pos c61] at H
             have c61b0 : (a0_0 == 43) = true := beq_iff_eq.mpr c61
             have c61b1 : (a0_0 != 43) = false := bne_eq_false_iff_eq.mpr c61
             clear c61
             (first | rw [c61b0] | (simp only [i64_w, i32_w]; rw [c61b0]) | skip)
             have H' := Aside0.mk H
             clear H
             have hcz62_0 : wc.cell? ⟨gb130, 0, none⟩ = some (.int .u8 a0_0) := (blk_cell BK130.out 0).trans rfl
             have hcz62_1 : wc.cell? ⟨gb130, 1, none⟩ = some (.slice (some ad132) l0_1.length c0_1) := (blk_cell BK130.out 1).trans rfl
             have hfz62_0 := blk_frozen BK130.out 0
             have hfz62_1 := blk_frozen BK130.out 1
             go_wp2
             go_meet
             case rel => exact ⟨_, (false), (by first | rfl | (simp; done) | (simp [*]; done) | (simp only [IntKind.wrap_i64, wrap64]; done)), H', ⟨by have := HJ44.out; have := HJ54.out; first | omega | exact Nat.le_refl _⟩, ⟨by (with_reducible repeat (first | refine blk_drewN ?_ _ | refine blk_drew ?_ | refine blk_alloc ?_ _)); exact BK130.out⟩, ⟨by repeat (first | (with_reducible first | exact HB.out | apply below_alloc | apply pw_below_drewN | apply below_drew1 | refine below_set ?_ GE130.out) | exact HB.out)⟩⟩
            ·rw [if_neg c61] at H
             have c61b0 : (a0_0 == 43) = false := beq_eq_false_iff_ne.mpr c61
             have c61b1 : (a0_0 != 43) = true := bne_iff_ne.mpr c61
             (first | rw [c61b0] | (simp only [i64_w, i32_w]; rw [c61b0]) | skip)
             by_cases c63 : t133.toList = ([48] : List UInt8)
             ·rw [if_pos c63] at H
              have c63b0 : (t133.toList == ([48] : List UInt8)) = true := beq_iff_eq.mpr c63
              have c63b1 : (t133.toList != ([48] : List UInt8)) = false := bne_eq_false_iff_eq.mpr c63
              clear c63
              have H' := Aside0.mk H
              clear H
              have hcz64_0 : wc.cell? ⟨gb130, 0, none⟩ = some (.int .u8 a0_0) := (blk_cell BK130.out 0).trans rfl
              have hcz64_1 : wc.cell? ⟨gb130, 1, none⟩ = some (.slice (some ad132) l0_1.length c0_1) := (blk_cell BK130.out 1).trans rfl
              have hfz64_0 := blk_frozen BK130.out 0
              have hfz64_1 := blk_frozen BK130.out 1
              go_wp2
              go_meet
              case rel => exact ⟨_, (true), (by first | rfl | (simp; done) | (simp [*]; done) | (simp only [IntKind.wrap_i64, wrap64]; done)), H', ⟨by have := HJ44.out; have := HJ54.out; first | omega | exact Nat.le_refl _⟩, ⟨by (with_reducible repeat (first | refine blk_drewN ?_ _ | refine blk_drew ?_ | refine blk_alloc ?_ _)); exact BK130.out⟩, ⟨by repeat (first | (with_reducible first | exact HB.out | apply below_alloc | apply pw_below_drewN | apply below_drew1 | refine below_set ?_ GE130.out) | exact HB.out)⟩⟩
             ·rw [if_neg c63] at H
              have c63b0 : (t133.toList == ([48] : List UInt8)) = false := beq_eq_false_iff_ne.mpr c63
              have c63b1 : (t133.toList != ([48] : List UInt8)) = true := bne_iff_ne.mpr c63
              have H' := Aside0.mk H
              clear H
              have hcz65_0 : wc.cell? ⟨gb130, 0, none⟩ = some (.int .u8 a0_0) := (blk_cell BK130.out 0).trans rfl
              have hcz65_1 : wc.cell? ⟨gb130, 1, none⟩ = some (.slice (some ad132) l0_1.length c0_1) := (blk_cell BK130.out 1).trans rfl
              have hfz65_0 := blk_frozen BK130.out 0
              have hfz65_1 := blk_frozen BK130.out 1
              go_wp2
              go_meet
              case rel => exact ⟨_, ((t141.toList == ([48] : List UInt8))), (by first | rfl | (simp; done) | (simp [*]; done) | (simp only [IntKind.wrap_i64, wrap64]; done)), H', ⟨by have := HJ44.out; have := HJ54.out; first | omega | exact Nat.le_refl _⟩, ⟨by (with_reducible repeat (first | refine blk_drewN ?_ _ | refine blk_drew ?_ | refine blk_alloc ?_ _)); exact BK130.out⟩, ⟨by repeat (first | (with_reducible first | exact HB.out | apply below_alloc | apply pw_below_drewN | apply below_drew1 | refine below_set ?_ GE130.out) | exact HB.out)⟩⟩
           case rest =>
            clear HC60
            try clear c1
            try clear p1
            try clear q1
            try clear hx1
            try clear qi1
            try clear c2
            try clear c2b0
            try clear c2b1
            try clear c2b2
            try clear p2
            try clear q2
            try clear hx2
            try clear qi2
            try clear c3
            try clear hcv3
            try clear c4
            try clear hcv4
            try clear c5
            try clear c6
            try clear c7
            try clear c7b0
            try clear c7b1
            try clear c9
            try clear c9b0
            try clear c9b1
            try clear c13
            try clear p13
            try clear q13
            try clear hx13
            try clear qi13
            try clear c14
            try clear p14
            try clear q14
            try clear hx14
            try clear qi14
            try clear c15
            try clear c15b0
            try clear c15b1
            try clear c16
            try clear c16b0
            try clear c16b1
            try clear c20
            try clear c22
            try clear c22b0
            try clear c22b1
            try clear c23
            try clear c23b0
            try clear c23b1
            try clear p24
            try clear q24
            try clear hx24
            try clear qi24
            try clear c27
            try clear c28
            try clear c28b0
            try clear c28b1
            try clear c29
            try clear c29b0
            try clear c29b1
            try clear c29b2
            try clear hcv33
            try clear c34
            try clear c34b0
            try clear c34b1
            try clear c36
            try clear c36b0
            try clear c36b1
            try clear c38
            try clear c38b0
            try clear c38b1
            try clear c38b2
            try clear hcv42
            try clear c43
            try clear c43b0
            try clear c43b1
            try clear c51
            try clear c51b0
            try clear c51b1
            try clear c54
            try clear c56
            try clear c56b0
            try clear c56b1
            try clear c59
            try clear c61
            try clear c61b0
            try clear c61b1
            try clear c63
            try clear c63b0
            try clear c63b1
            try clear hcz12_0
            try clear hcz12_1
            try clear hcz14_0
            try clear hcz14_1
            try clear hcz17_0
            try clear hcz17_1
            try clear hcz18_0
            try clear hcz18_1
            try clear hcz19_0
            try clear hcz19_1
            try clear hcz25_0
            try clear hcz25_1
            try clear hcz26_0
            try clear hcz26_1
            try clear hcz30_0
            try clear hcz30_1
            try clear hcz35_0
            try clear hcz35_1
            try clear hcz37_0
            try clear hcz37_1
            try clear hcz39_0
            try clear hcz39_1
            try clear hcz47_0
            try clear hcz47_1
            try clear hcz49_0
            try clear hcz49_1
            try clear hcz52_0
            try clear hcz52_1
            try clear hcz53_0
            try clear hcz53_1
            try clear hcz57_0
            try clear hcz57_1
            try clear hcz58_0
            try clear hcz58_1
            try clear hcz5_0
            try clear hcz5_1
            try clear hcz62_0
            try clear hcz62_1
            try clear hcz64_0
            try clear hcz64_1
            try clear hcz65_0
            try clear hcz65_1
            try clear hfz12_0
            try clear hfz12_1
            try clear hfz14_0
            try clear hfz14_1
            try clear hfz17_0
            try clear hfz17_1
            try clear hfz18_0
            try clear hfz18_1
            try clear hfz19_0
            try clear hfz19_1
            try clear hfz25_0
            try clear hfz25_1
            try clear hfz26_0
            try clear hfz26_1
            try clear hfz30_0
            try clear hfz30_1
            try clear hfz35_0
            try clear hfz35_1
            try clear hfz37_0
            try clear hfz37_1
            try clear hfz39_0
            try clear hfz39_1
            try clear hfz47_0
            try clear hfz47_1
            try clear hfz49_0
            try clear hfz49_1
            try clear hfz52_0
            try clear hfz52_1
            try clear hfz53_0
            try clear hfz53_1
            try clear hfz57_0
            try clear hfz57_1
            try clear hfz58_0
            try clear hfz58_1
            try clear hfz5_0
            try clear hfz5_1
            try clear hfz62_0
            try clear hfz62_1
            try clear hfz64_0
            try clear hfz64_1
            try clear hfz65_0
            try clear hfz65_1
            try clear hx132_0
            try clear hx132_1
            try clear hx140_0
            try clear hx140_1
            try clear p1
            try clear p13
            try clear p132
            try clear p14
            try clear p140
            try clear p2
            try clear p24
            try clear q1
            try clear q13
            try clear q132
            try clear q14
            try clear q140
            try clear q2
            try clear q24
            obtain ⟨kq, x84_59, rfl, HA, HJ59, BK130, HB⟩ := hcut
            cases kq with
            | zero => exact absurd HA.out (by simp [spec_l7Tidy.j4])
            | succ kj59 =>
             have H := HA.out
             clear HA
             simp only [spec_l7Tidy.j4] at H
             by_cases c66 : x84_59 = true
             ·subst c66
              have H1 : (some (⟨#[48]⟩ : ByteArray)) = some r := by rw [if_pos rfl] at H; exact H
              clear H
              have H := H1
              clear H1
              obtain rfl := Option.some.inj H
              go_wp2
              go_ret
              exact ⟨by first | rfl | (simp [errW_none, errW_some] <;> rfl) | (simp [*, errW_none, errW_some] <;> rfl), by repeat (first | (with_reducible first | exact HB.out | apply below_alloc | apply pw_below_drewN | apply below_drew1 | refine below_set ?_ GE130.out) | exact HB.out)⟩
             ·replace c66 := Bool.eq_false_iff.mpr c66
              subst c66
              have H1 : (if a0_0 = 46 then (spec_l7Tidy.j5 kj59 t133 t141 (t133.toList == ([49] : List UInt8)) a0_0 l0_1) else (spec_l7Tidy.j5 kj59 t133 t141 false a0_0 l0_1)) = some r := by rw [if_neg (show ¬ (false = true) by decide)] at H; exact H
              clear H
              have H := H1
              clear H1
              have HC67 := Aside0.mk H
              clear H
              go_upto_region 19 with (fail)
              go_cut [96] (fun v96 wc => ∃ (kq : Nat) (x96_66 : Bool), v96 = .bool x96_66 ∧ Aside0 (spec_l7Tidy.j5 kq t133 t141 x96_66 a0_0 l0_1 = some r) ∧ Aside0 (kq ≤ kj59) ∧ Aside0 (wc.heap[gb130]? = some (.cells #[.int .u8 a0_0, (.slice (some ad132) l0_1.length c0_1)] 28 (0, 0))) ∧ Aside0 (Below w.heap.size w wc))
              case first =>
               have H := HC67.out
               clear HC67
               by_cases c68 : a0_0 = 46
               ·rw [if_pos c68] at H
                have c68b0 : (a0_0 == 46) = true := beq_iff_eq.mpr c68
                have c68b1 : (a0_0 != 46) = false := bne_eq_false_iff_eq.mpr c68
                clear c68
                (first | rw [c68b0] | (simp only [i64_w, i32_w]; rw [c68b0]) | skip)
                have H' := Aside0.mk H
                clear H
                have hcz69_0 : wc.cell? ⟨gb130, 0, none⟩ = some (.int .u8 a0_0) := (blk_cell BK130.out 0).trans rfl
                have hcz69_1 : wc.cell? ⟨gb130, 1, none⟩ = some (.slice (some ad132) l0_1.length c0_1) := (blk_cell BK130.out 1).trans rfl
                have hfz69_0 := blk_frozen BK130.out 0
                have hfz69_1 := blk_frozen BK130.out 1
                go_wp2
                go_meet
                case rel => exact ⟨_, ((t133.toList == ([49] : List UInt8))), (by first | rfl | (simp; done) | (simp [*]; done) | (simp only [IntKind.wrap_i64, wrap64]; done)), H', ⟨by have := HJ44.out; have := HJ54.out; have := HJ59.out; first | omega | exact Nat.le_refl _⟩, ⟨by (with_reducible repeat (first | refine blk_drewN ?_ _ | refine blk_drew ?_ | refine blk_alloc ?_ _)); exact BK130.out⟩, ⟨by repeat (first | (with_reducible first | exact HB.out | apply below_alloc | apply pw_below_drewN | apply below_drew1 | refine below_set ?_ GE130.out) | exact HB.out)⟩⟩
               ·rw [if_neg c68] at H
                have c68b0 : (a0_0 == 46) = false := beq_eq_false_iff_ne.mpr c68
                have c68b1 : (a0_0 != 46) = true := bne_iff_ne.mpr c68
                (first | rw [c68b0] | (simp only [i64_w, i32_w]; rw [c68b0]) | skip)
                have H' := Aside0.mk H
                clear H
                have hcz70_0 : wc.cell? ⟨gb130, 0, none⟩ = some (.int .u8 a0_0) := (blk_cell BK130.out 0).trans rfl
                have hcz70_1 : wc.cell? ⟨gb130, 1, none⟩ = some (.slice (some ad132) l0_1.length c0_1) := (blk_cell BK130.out 1).trans rfl
                have hfz70_0 := blk_frozen BK130.out 0
                have hfz70_1 := blk_frozen BK130.out 1
                go_wp2
                go_meet
                case rel => exact ⟨_, (false), (by first | rfl | (simp; done) | (simp [*]; done) | (simp only [IntKind.wrap_i64, wrap64]; done)), H', ⟨by have := HJ44.out; have := HJ54.out; have := HJ59.out; first | omega | exact Nat.le_refl _⟩, ⟨by (with_reducible repeat (first | refine blk_drewN ?_ _ | refine blk_drew ?_ | refine blk_alloc ?_ _)); exact BK130.out⟩, ⟨by repeat (first | (with_reducible first | exact HB.out | apply below_alloc | apply pw_below_drewN | apply below_drew1 | refine below_set ?_ GE130.out) | exact HB.out)⟩⟩
              case rest =>
               clear HC67
               try clear c1
               try clear p1
               try clear q1
               try clear hx1
               try clear qi1
               try clear c2
               try clear c2b0
               try clear c2b1
               try clear c2b2
               try clear p2
               try clear q2
               try clear hx2
               try clear qi2
               try clear c3
               try clear hcv3
               try clear c4
               try clear hcv4
               try clear c5
               try clear c6
               try clear c7
               try clear c7b0
               try clear c7b1
               try clear c9
               try clear c9b0
               try clear c9b1
               try clear c13
               try clear p13
               try clear q13
               try clear hx13
               try clear qi13
               try clear c14
               try clear p14
               try clear q14
               try clear hx14
               try clear qi14
               try clear c15
               try clear c15b0
               try clear c15b1
               try clear c16
               try clear c16b0
               try clear c16b1
               try clear c20
               try clear c22
               try clear c22b0
               try clear c22b1
               try clear c23
               try clear c23b0
               try clear c23b1
               try clear p24
               try clear q24
               try clear hx24
               try clear qi24
               try clear c27
               try clear c28
               try clear c28b0
               try clear c28b1
               try clear c29
               try clear c29b0
               try clear c29b1
               try clear c29b2
               try clear hcv33
               try clear c34
               try clear c34b0
               try clear c34b1
               try clear c36
               try clear c36b0
               try clear c36b1
               try clear c38
               try clear c38b0
               try clear c38b1
               try clear c38b2
               try clear hcv42
               try clear c43
               try clear c43b0
               try clear c43b1
               try clear c51
               try clear c51b0
               try clear c51b1
               try clear c54
               try clear c56
               try clear c56b0
               try clear c56b1
               try clear c59
               try clear c61
               try clear c61b0
               try clear c61b1
               try clear c63
               try clear c63b0
               try clear c63b1
               try clear c66
               try clear c68
               try clear c68b0
               try clear c68b1
               try clear hcz12_0
               try clear hcz12_1
               try clear hcz14_0
               try clear hcz14_1
               try clear hcz17_0
               try clear hcz17_1
               try clear hcz18_0
               try clear hcz18_1
               try clear hcz19_0
               try clear hcz19_1
               try clear hcz25_0
               try clear hcz25_1
               try clear hcz26_0
               try clear hcz26_1
               try clear hcz30_0
               try clear hcz30_1
               try clear hcz35_0
               try clear hcz35_1
               try clear hcz37_0
               try clear hcz37_1
               try clear hcz39_0
               try clear hcz39_1
               try clear hcz47_0
               try clear hcz47_1
               try clear hcz49_0
               try clear hcz49_1
               try clear hcz52_0
               try clear hcz52_1
               try clear hcz53_0
               try clear hcz53_1
               try clear hcz57_0
               try clear hcz57_1
               try clear hcz58_0
               try clear hcz58_1
               try clear hcz5_0
               try clear hcz5_1
               try clear hcz62_0
               try clear hcz62_1
               try clear hcz64_0
               try clear hcz64_1
               try clear hcz65_0
               try clear hcz65_1
               try clear hcz69_0
               try clear hcz69_1
               try clear hcz70_0
               try clear hcz70_1
               try clear hfz12_0
               try clear hfz12_1
               try clear hfz14_0
               try clear hfz14_1
               try clear hfz17_0
               try clear hfz17_1
               try clear hfz18_0
               try clear hfz18_1
               try clear hfz19_0
               try clear hfz19_1
               try clear hfz25_0
               try clear hfz25_1
               try clear hfz26_0
               try clear hfz26_1
               try clear hfz30_0
               try clear hfz30_1
               try clear hfz35_0
               try clear hfz35_1
               try clear hfz37_0
               try clear hfz37_1
               try clear hfz39_0
               try clear hfz39_1
               try clear hfz47_0
               try clear hfz47_1
               try clear hfz49_0
               try clear hfz49_1
               try clear hfz52_0
               try clear hfz52_1
               try clear hfz53_0
               try clear hfz53_1
               try clear hfz57_0
               try clear hfz57_1
               try clear hfz58_0
               try clear hfz58_1
               try clear hfz5_0
               try clear hfz5_1
               try clear hfz62_0
               try clear hfz62_1
               try clear hfz64_0
               try clear hfz64_1
               try clear hfz65_0
               try clear hfz65_1
               try clear hfz69_0
               try clear hfz69_1
               try clear hfz70_0
               try clear hfz70_1
               try clear hx132_0
               try clear hx132_1
               try clear hx140_0
               try clear hx140_1
               try clear p1
               try clear p13
               try clear p132
               try clear p14
               try clear p140
               try clear p2
               try clear p24
               try clear q1
               try clear q13
               try clear q132
               try clear q14
               try clear q140
               try clear q2
               try clear q24
               obtain ⟨kq, x96_66, rfl, HA, HJ66, BK130, HB⟩ := hcut
               cases kq with
               | zero => exact absurd HA.out (by simp [spec_l7Tidy.j5])
               | succ kj66 =>
                have H := HA.out
                clear HA
                simp only [spec_l7Tidy.j5] at H
                by_cases c71 : x96_66 = true
                ·subst c71
                 have H1 : (some t141) = some r := by rw [if_pos rfl] at H; exact H
                 clear H
                 have H := H1
                 clear H1
                 obtain rfl := Option.some.inj H
                 go_wp2
                 go_ret
                 exact ⟨by first | rfl | (simp [errW_none, errW_some] <;> rfl) | (simp [*, errW_none, errW_some] <;> rfl), by repeat (first | (with_reducible first | exact HB.out | apply below_alloc | apply pw_below_drewN | apply below_drew1 | refine below_set ?_ GE130.out) | exact HB.out)⟩
                ·replace c71 := Bool.eq_false_iff.mpr c71
                 subst c71
                 have H1 : (if a0_0 = 46 then (spec_l7Tidy.j6 kj66 t133 t141 (t141.toList == ([49] : List UInt8)) a0_0 l0_1) else (spec_l7Tidy.j6 kj66 t133 t141 false a0_0 l0_1)) = some r := by rw [if_neg (show ¬ (false = true) by decide)] at H; exact H
                 clear H
                 have H := H1
                 clear H1
                 have HC72 := Aside0.mk H
                 clear H
                 go_upto_region 21 with (fail)
                 go_cut [105] (fun v105 wc => ∃ (kq : Nat) (x105_71 : Bool), v105 = .bool x105_71 ∧ Aside0 (spec_l7Tidy.j6 kq t133 t141 x105_71 a0_0 l0_1 = some r) ∧ Aside0 (kq ≤ kj66) ∧ Aside0 (wc.heap[gb130]? = some (.cells #[.int .u8 a0_0, (.slice (some ad132) l0_1.length c0_1)] 28 (0, 0))) ∧ Aside0 (Below w.heap.size w wc))
                 case first =>
                  have H := HC72.out
                  clear HC72
                  by_cases c73 : a0_0 = 46
                  ·rw [if_pos c73] at H
                   have c73b0 : (a0_0 == 46) = true := beq_iff_eq.mpr c73
                   have c73b1 : (a0_0 != 46) = false := bne_eq_false_iff_eq.mpr c73
                   clear c73
                   (first | rw [c73b0] | (simp only [i64_w, i32_w]; rw [c73b0]) | skip)
                   have H' := Aside0.mk H
                   clear H
                   have hcz74_0 : wc.cell? ⟨gb130, 0, none⟩ = some (.int .u8 a0_0) := (blk_cell BK130.out 0).trans rfl
                   have hcz74_1 : wc.cell? ⟨gb130, 1, none⟩ = some (.slice (some ad132) l0_1.length c0_1) := (blk_cell BK130.out 1).trans rfl
                   have hfz74_0 := blk_frozen BK130.out 0
                   have hfz74_1 := blk_frozen BK130.out 1
                   go_wp2
                   go_meet
                   case rel => exact ⟨_, ((t141.toList == ([49] : List UInt8))), (by first | rfl | (simp; done) | (simp [*]; done) | (simp only [IntKind.wrap_i64, wrap64]; done)), H', ⟨by have := HJ44.out; have := HJ54.out; have := HJ59.out; have := HJ66.out; first | omega | exact Nat.le_refl _⟩, ⟨by (with_reducible repeat (first | refine blk_drewN ?_ _ | refine blk_drew ?_ | refine blk_alloc ?_ _)); exact BK130.out⟩, ⟨by repeat (first | (with_reducible first | exact HB.out | apply below_alloc | apply pw_below_drewN | apply below_drew1 | refine below_set ?_ GE130.out) | exact HB.out)⟩⟩
                  ·rw [if_neg c73] at H
                   have c73b0 : (a0_0 == 46) = false := beq_eq_false_iff_ne.mpr c73
                   have c73b1 : (a0_0 != 46) = true := bne_iff_ne.mpr c73
                   (first | rw [c73b0] | (simp only [i64_w, i32_w]; rw [c73b0]) | skip)
                   have H' := Aside0.mk H
                   clear H
                   have hcz75_0 : wc.cell? ⟨gb130, 0, none⟩ = some (.int .u8 a0_0) := (blk_cell BK130.out 0).trans rfl
                   have hcz75_1 : wc.cell? ⟨gb130, 1, none⟩ = some (.slice (some ad132) l0_1.length c0_1) := (blk_cell BK130.out 1).trans rfl
                   have hfz75_0 := blk_frozen BK130.out 0
                   have hfz75_1 := blk_frozen BK130.out 1
                   go_wp2
                   go_meet
                   case rel => exact ⟨_, (false), (by first | rfl | (simp; done) | (simp [*]; done) | (simp only [IntKind.wrap_i64, wrap64]; done)), H', ⟨by have := HJ44.out; have := HJ54.out; have := HJ59.out; have := HJ66.out; first | omega | exact Nat.le_refl _⟩, ⟨by (with_reducible repeat (first | refine blk_drewN ?_ _ | refine blk_drew ?_ | refine blk_alloc ?_ _)); exact BK130.out⟩, ⟨by repeat (first | (with_reducible first | exact HB.out | apply below_alloc | apply pw_below_drewN | apply below_drew1 | refine below_set ?_ GE130.out) | exact HB.out)⟩⟩
                 case rest =>
                  clear HC72
                  try clear c1
                  try clear p1
                  try clear q1
                  try clear hx1
                  try clear qi1
                  try clear c2
                  try clear c2b0
                  try clear c2b1
                  try clear c2b2
                  try clear p2
                  try clear q2
                  try clear hx2
                  try clear qi2
                  try clear c3
                  try clear hcv3
                  try clear c4
                  try clear hcv4
                  try clear c5
                  try clear c6
                  try clear c7
                  try clear c7b0
                  try clear c7b1
                  try clear c9
                  try clear c9b0
                  try clear c9b1
                  try clear c13
                  try clear p13
                  try clear q13
                  try clear hx13
                  try clear qi13
                  try clear c14
                  try clear p14
                  try clear q14
                  try clear hx14
                  try clear qi14
                  try clear c15
                  try clear c15b0
                  try clear c15b1
                  try clear c16
                  try clear c16b0
                  try clear c16b1
                  try clear c20
                  try clear c22
                  try clear c22b0
                  try clear c22b1
                  try clear c23
                  try clear c23b0
                  try clear c23b1
                  try clear p24
                  try clear q24
                  try clear hx24
                  try clear qi24
                  try clear c27
                  try clear c28
                  try clear c28b0
                  try clear c28b1
                  try clear c29
                  try clear c29b0
                  try clear c29b1
                  try clear c29b2
                  try clear hcv33
                  try clear c34
                  try clear c34b0
                  try clear c34b1
                  try clear c36
                  try clear c36b0
                  try clear c36b1
                  try clear c38
                  try clear c38b0
                  try clear c38b1
                  try clear c38b2
                  try clear hcv42
                  try clear c43
                  try clear c43b0
                  try clear c43b1
                  try clear c51
                  try clear c51b0
                  try clear c51b1
                  try clear c54
                  try clear c56
                  try clear c56b0
                  try clear c56b1
                  try clear c59
                  try clear c61
                  try clear c61b0
                  try clear c61b1
                  try clear c63
                  try clear c63b0
                  try clear c63b1
                  try clear c66
                  try clear c68
                  try clear c68b0
                  try clear c68b1
                  try clear c71
                  try clear c73
                  try clear c73b0
                  try clear c73b1
                  try clear hcz12_0
                  try clear hcz12_1
                  try clear hcz14_0
                  try clear hcz14_1
                  try clear hcz17_0
                  try clear hcz17_1
                  try clear hcz18_0
                  try clear hcz18_1
                  try clear hcz19_0
                  try clear hcz19_1
                  try clear hcz25_0
                  try clear hcz25_1
                  try clear hcz26_0
                  try clear hcz26_1
                  try clear hcz30_0
                  try clear hcz30_1
                  try clear hcz35_0
                  try clear hcz35_1
                  try clear hcz37_0
                  try clear hcz37_1
                  try clear hcz39_0
                  try clear hcz39_1
                  try clear hcz47_0
                  try clear hcz47_1
                  try clear hcz49_0
                  try clear hcz49_1
                  try clear hcz52_0
                  try clear hcz52_1
                  try clear hcz53_0
                  try clear hcz53_1
                  try clear hcz57_0
                  try clear hcz57_1
                  try clear hcz58_0
                  try clear hcz58_1
                  try clear hcz5_0
                  try clear hcz5_1
                  try clear hcz62_0
                  try clear hcz62_1
                  try clear hcz64_0
                  try clear hcz64_1
                  try clear hcz65_0
                  try clear hcz65_1
                  try clear hcz69_0
                  try clear hcz69_1
                  try clear hcz70_0
                  try clear hcz70_1
                  try clear hcz74_0
                  try clear hcz74_1
                  try clear hcz75_0
                  try clear hcz75_1
                  try clear hfz12_0
                  try clear hfz12_1
                  try clear hfz14_0
                  try clear hfz14_1
                  try clear hfz17_0
                  try clear hfz17_1
                  try clear hfz18_0
                  try clear hfz18_1
                  try clear hfz19_0
                  try clear hfz19_1
                  try clear hfz25_0
                  try clear hfz25_1
                  try clear hfz26_0
                  try clear hfz26_1
                  try clear hfz30_0
                  try clear hfz30_1
                  try clear hfz35_0
                  try clear hfz35_1
                  try clear hfz37_0
                  try clear hfz37_1
                  try clear hfz39_0
                  try clear hfz39_1
                  try clear hfz47_0
                  try clear hfz47_1
                  try clear hfz49_0
                  try clear hfz49_1
                  try clear hfz52_0
                  try clear hfz52_1
                  try clear hfz53_0
                  try clear hfz53_1
                  try clear hfz57_0
                  try clear hfz57_1
                  try clear hfz58_0
                  try clear hfz58_1
                  try clear hfz5_0
                  try clear hfz5_1
                  try clear hfz62_0
                  try clear hfz62_1
                  try clear hfz64_0
                  try clear hfz64_1
                  try clear hfz65_0
                  try clear hfz65_1
                  try clear hfz69_0
                  try clear hfz69_1
                  try clear hfz70_0
                  try clear hfz70_1
                  try clear hfz74_0
                  try clear hfz74_1
                  try clear hfz75_0
                  try clear hfz75_1
                  try clear hx132_0
                  try clear hx132_1
                  try clear hx140_0
                  try clear hx140_1
                  try clear p1
                  try clear p13
                  try clear p132
                  try clear p14
                  try clear p140
                  try clear p2
                  try clear p24
                  try clear q1
                  try clear q13
                  try clear q132
                  try clear q14
                  try clear q140
                  try clear q2
                  try clear q24
                  obtain ⟨kq, x105_71, rfl, HA, HJ71, BK130, HB⟩ := hcut
                  cases kq with
                  | zero => exact absurd HA.out (by simp [spec_l7Tidy.j6])
                  | succ kj71 =>
                   have H := HA.out
                   clear HA
                   simp only [spec_l7Tidy.j6] at H
                   by_cases c76 : x105_71 = true
                   ·subst c76
                    have H1 : (some t133) = some r := by rw [if_pos rfl] at H; exact H
                    clear H
                    have H := H1
                    clear H1
                    obtain rfl := Option.some.inj H
                    go_wp2
                    go_ret
                    exact ⟨by first | rfl | (simp [errW_none, errW_some] <;> rfl) | (simp [*, errW_none, errW_some] <;> rfl), by repeat (first | (with_reducible first | exact HB.out | apply below_alloc | apply pw_below_drewN | apply below_drew1 | refine below_set ?_ GE130.out) | exact HB.out)⟩
                   ·replace c76 := Bool.eq_false_iff.mpr c76
                    subst c76
                    have H1 : (if a0_0 = 46 then (if 1 + t133.size ≤ 9223372036854775807 then ((some (([a0_0] : List Int) : List Int)).bind fun y142 => (if ((⟨#[40]⟩ : ByteArray) ++ t133).size + (strOfNums y142).size ≤ 9223372036854775807 then (if (((⟨#[40]⟩ : ByteArray) ++ t133) ++ (strOfNums y142)).size + t141.size ≤ 9223372036854775807 then (if ((((⟨#[40]⟩ : ByteArray) ++ t133) ++ (strOfNums y142)) ++ t141).size + 1 ≤ 9223372036854775807 then (some (((((⟨#[40]⟩ : ByteArray) ++ t133) ++ (strOfNums y142)) ++ t141) ++ (⟨#[41]⟩ : ByteArray))) else (none)) else (none)) else (none))) else (none)) else (if t133.toList = t141.toList then (some t133) else (if 1 + t133.size ≤ 9223372036854775807 then ((some (([a0_0] : List Int) : List Int)).bind fun y145 => (if ((⟨#[40]⟩ : ByteArray) ++ t133).size + (strOfNums y145).size ≤ 9223372036854775807 then (if (((⟨#[40]⟩ : ByteArray) ++ t133) ++ (strOfNums y145)).size + t141.size ≤ 9223372036854775807 then (if ((((⟨#[40]⟩ : ByteArray) ++ t133) ++ (strOfNums y145)) ++ t141).size + 1 ≤ 9223372036854775807 then (some (((((⟨#[40]⟩ : ByteArray) ++ t133) ++ (strOfNums y145)) ++ t141) ++ (⟨#[41]⟩ : ByteArray))) else (none)) else (none)) else (none))) else (none)))) = some r := by rw [if_neg (show ¬ (false = true) by decide)] at H; exact H
                    clear H
                    have H := H1
                    clear H1
                    by_cases c77 : a0_0 = 46
                    ·rw [if_pos c77] at H
                     have c77b0 : (a0_0 == 46) = true := beq_iff_eq.mpr c77
                     have c77b1 : (a0_0 != 46) = false := bne_eq_false_iff_eq.mpr c77
                     clear c77
                     by_cases c78 : 1 + t133.size ≤ 9223372036854775807
                     ·rw [if_pos c78] at H
                      have c78b0 := eq_true c78
                      have c78b1 : decide (1 + t133.size ≤ 9223372036854775807) = true := decide_eq_true c78
                      try have c78b2 : (9223372036854775807 < 1 + t133.size) = False := eq_false (Nat.not_lt.2 c78)
                      obtain ⟨y142, hy142⟩ : ∃ y_ : List Int, y_ = (([a0_0] : List Int)) := ⟨_, rfl⟩
                      replace H : (if ((⟨#[40]⟩ : ByteArray) ++ t133).size + (strOfNums y142).size ≤ 9223372036854775807 then (if (((⟨#[40]⟩ : ByteArray) ++ t133) ++ (strOfNums y142)).size + t141.size ≤ 9223372036854775807 then (if ((((⟨#[40]⟩ : ByteArray) ++ t133) ++ (strOfNums y142)) ++ t141).size + 1 ≤ 9223372036854775807 then (some (((((⟨#[40]⟩ : ByteArray) ++ t133) ++ (strOfNums y142)) ++ t141) ++ (⟨#[41]⟩ : ByteArray))) else (none)) else (none)) else (none)) = some r := by first | (rw [hy142]; with_reducible exact H) | (have H2_ := (Option.bind_some _ _).symm.trans H; rw [hy142]; with_reducible exact H2_) | (have H2_ := (Option.bind_some _ _).symm.trans H; with_reducible exact H2_) | with_reducible exact H | (rw [hy142]; exact H) | exact H
                      have Ny142 := Aside0.mk hy142
                      clear hy142
                      by_cases c79 : ((⟨#[40]⟩ : ByteArray) ++ t133).size + (strOfNums y142).size ≤ 9223372036854775807
                      ·rw [if_pos c79] at H
                       have c79b0 := eq_true c79
                       have c79b1 : decide (((⟨#[40]⟩ : ByteArray) ++ t133).size + (strOfNums y142).size ≤ 9223372036854775807) = true := decide_eq_true c79
                       try have c79b2 : (9223372036854775807 < ((⟨#[40]⟩ : ByteArray) ++ t133).size + (strOfNums y142).size) = False := eq_false (Nat.not_lt.2 c79)
                       try have c79b3 := c79b2
                       try simp only [ByteArray.size_append, show ∀ a : UInt8, (ByteArray.mk #[a]).size = 1 from fun _ => rfl] at c79b3
                       try have c79b4 := c79b2
                       try simp only [ByteArray.size_append, ByteArray.size_extract, show ∀ a : UInt8, (ByteArray.mk #[a]).size = 1 from fun _ => rfl, Nat.min_self, Nat.add_sub_cancel] at c79b4
                       by_cases c80 : (((⟨#[40]⟩ : ByteArray) ++ t133) ++ (strOfNums y142)).size + t141.size ≤ 9223372036854775807
                       ·rw [if_pos c80] at H
                        have c80b0 := eq_true c80
                        have c80b1 : decide ((((⟨#[40]⟩ : ByteArray) ++ t133) ++ (strOfNums y142)).size + t141.size ≤ 9223372036854775807) = true := decide_eq_true c80
                        try have c80b2 : (9223372036854775807 < (((⟨#[40]⟩ : ByteArray) ++ t133) ++ (strOfNums y142)).size + t141.size) = False := eq_false (Nat.not_lt.2 c80)
                        try have c80b3 := c80b2
                        try simp only [ByteArray.size_append, show ∀ a : UInt8, (ByteArray.mk #[a]).size = 1 from fun _ => rfl] at c80b3
                        try have c80b4 := c80b2
                        try simp only [ByteArray.size_append, ByteArray.size_extract, show ∀ a : UInt8, (ByteArray.mk #[a]).size = 1 from fun _ => rfl, Nat.min_self, Nat.add_sub_cancel] at c80b4
                        by_cases c81 : ((((⟨#[40]⟩ : ByteArray) ++ t133) ++ (strOfNums y142)) ++ t141).size + 1 ≤ 9223372036854775807
                        ·rw [if_pos c81] at H
                         have c81b0 := eq_true c81
                         have c81b1 : decide (((((⟨#[40]⟩ : ByteArray) ++ t133) ++ (strOfNums y142)) ++ t141).size + 1 ≤ 9223372036854775807) = true := decide_eq_true c81
                         try have c81b2 : (9223372036854775807 < ((((⟨#[40]⟩ : ByteArray) ++ t133) ++ (strOfNums y142)) ++ t141).size + 1) = False := eq_false (Nat.not_lt.2 c81)
                         try have c81b3 := c81b2
                         try simp only [ByteArray.size_append, show ∀ a : UInt8, (ByteArray.mk #[a]).size = 1 from fun _ => rfl] at c81b3
                         try have c81b4 := c81b2
                         try simp only [ByteArray.size_append, ByteArray.size_extract, show ∀ a : UInt8, (ByteArray.mk #[a]).size = 1 from fun _ => rfl, Nat.min_self, Nat.add_sub_cancel] at c81b4
                         obtain rfl := Option.some.inj H
                         have hcz82_0 : wc.cell? ⟨gb130, 0, none⟩ = some (.int .u8 a0_0) := (blk_cell BK130.out 0).trans rfl
                         have hcz82_1 : wc.cell? ⟨gb130, 1, none⟩ = some (.slice (some ad132) l0_1.length c0_1) := (blk_cell BK130.out 1).trans rfl
                         have hfz82_0 := blk_frozen BK130.out 0
                         have hfz82_1 := blk_frozen BK130.out 1
                         go_wp2_with (first | ((with_reducible refine gate_dst (N := 128) rfl ?_); refine Kd.R_lit (Kd.int .u8) _ 5 ?hg (N := 128) ?hd (xs := ([a0_0] : List Int)) (inner := [.int .u8 a0_0]) (ok := fun _ => True) (okp := fun _ => True) ?hr ?hp (fun _ hk => hk) trivial (Below.refl _ _) (Nat.le_refl _) (by simp) ?_; (case hd => rfl); (case hg => rfl); (case hr => first | (go_simp; done) | (go_simp; rfl)); (case hp => exact (Reps.one (show Kd.M (Kd.int .u8) _ _ _ a0_0 [.int .u8 a0_0] from rfl) (Reps.none _ _))); intro v143 w83 ho84 hb hg_ hnew_; clear hg_ hnew_; (first | rw [← Ny142.out] at ho84 | (simp only [Int.reduceToNat] at ho84; rw [← Ny142.out] at ho84)); have n0_ := Aside0.mk (Kd.R_lower ho84 (below_size (by repeat (first | (with_reducible first | exact HB.out | apply below_alloc | apply pw_below_drewN | apply below_drew1 | refine below_set ?_ GE130.out) | exact HB.out)))); have n1_ := Aside0.mk (blk_below (g := gb130) (o := .cells #[.int .u8 a0_0, .slice (some ad132) l0_1.length c0_1] 28 (0, 0)) (by (with_reducible repeat (first | refine blk_drewN ?_ _ | refine blk_drew ?_ | refine blk_alloc ?_ _)); exact BK130.out) hb); have n2_ := Aside0.mk (below_step (by repeat (first | (with_reducible first | exact HB.out | apply below_alloc | apply pw_below_drewN | apply below_drew1 | refine below_set ?_ GE130.out) | exact HB.out)) hb); clear BK130; clear HB; have HO144 := n0_; have BK130 := n1_; have HB := n2_; clear n0_ n1_ n2_; clear hb ho84; have hcv85 := own_string (P := Try.prog) Try.underlying43 Try.underlying5 Try.underlying9 (Kd.own_of_R HO144.out)))
                         go_ret
                         exact ⟨by first | rfl | (simp [errW_none, errW_some] <;> rfl) | (simp [*, errW_none, errW_some] <;> rfl), by repeat (first | (with_reducible first | exact HB.out | apply below_alloc | apply pw_below_drewN | apply below_drew1 | refine below_set ?_ GE130.out) | exact HB.out)⟩
                        ·rw [if_neg c81] at H
                         exact absurd H (by simp)
                       ·rw [if_neg c80] at H
                        exact absurd H (by simp)
                      ·rw [if_neg c79] at H
                       exact absurd H (by simp)
                     ·rw [if_neg c78] at H
                      exact absurd H (by simp)
                    ·rw [if_neg c77] at H
                     have c77b0 : (a0_0 == 46) = false := beq_eq_false_iff_ne.mpr c77
                     have c77b1 : (a0_0 != 46) = true := bne_iff_ne.mpr c77
                     by_cases c86 : t133.toList = t141.toList
                     ·rw [if_pos c86] at H
                      have c86b0 : (t133.toList == t141.toList) = true := beq_iff_eq.mpr c86
                      have c86b1 : (t133.toList != t141.toList) = false := bne_eq_false_iff_eq.mpr c86
                      clear c86
                      obtain rfl := Option.some.inj H
                      have hcz87_0 : wc.cell? ⟨gb130, 0, none⟩ = some (.int .u8 a0_0) := (blk_cell BK130.out 0).trans rfl
                      have hcz87_1 : wc.cell? ⟨gb130, 1, none⟩ = some (.slice (some ad132) l0_1.length c0_1) := (blk_cell BK130.out 1).trans rfl
                      have hfz87_0 := blk_frozen BK130.out 0
                      have hfz87_1 := blk_frozen BK130.out 1
                      go_wp2
                      go_ret
                      exact ⟨by first | rfl | (simp [errW_none, errW_some] <;> rfl) | (simp [*, errW_none, errW_some] <;> rfl), by repeat (first | (with_reducible first | exact HB.out | apply below_alloc | apply pw_below_drewN | apply below_drew1 | refine below_set ?_ GE130.out) | exact HB.out)⟩
                     ·rw [if_neg c86] at H
                      have c86b0 : (t133.toList == t141.toList) = false := beq_eq_false_iff_ne.mpr c86
                      have c86b1 : (t133.toList != t141.toList) = true := bne_iff_ne.mpr c86
                      by_cases c88 : 1 + t133.size ≤ 9223372036854775807
                      ·rw [if_pos c88] at H
                       have c88b0 := eq_true c88
                       have c88b1 : decide (1 + t133.size ≤ 9223372036854775807) = true := decide_eq_true c88
                       try have c88b2 : (9223372036854775807 < 1 + t133.size) = False := eq_false (Nat.not_lt.2 c88)
                       obtain ⟨y145, hy145⟩ : ∃ y_ : List Int, y_ = (([a0_0] : List Int)) := ⟨_, rfl⟩
                       replace H : (if ((⟨#[40]⟩ : ByteArray) ++ t133).size + (strOfNums y145).size ≤ 9223372036854775807 then (if (((⟨#[40]⟩ : ByteArray) ++ t133) ++ (strOfNums y145)).size + t141.size ≤ 9223372036854775807 then (if ((((⟨#[40]⟩ : ByteArray) ++ t133) ++ (strOfNums y145)) ++ t141).size + 1 ≤ 9223372036854775807 then (some (((((⟨#[40]⟩ : ByteArray) ++ t133) ++ (strOfNums y145)) ++ t141) ++ (⟨#[41]⟩ : ByteArray))) else (none)) else (none)) else (none)) = some r := by first | (rw [hy145]; with_reducible exact H) | (have H2_ := (Option.bind_some _ _).symm.trans H; rw [hy145]; with_reducible exact H2_) | (have H2_ := (Option.bind_some _ _).symm.trans H; with_reducible exact H2_) | with_reducible exact H | (rw [hy145]; exact H) | exact H
                       have Ny145 := Aside0.mk hy145
                       clear hy145
                       by_cases c89 : ((⟨#[40]⟩ : ByteArray) ++ t133).size + (strOfNums y145).size ≤ 9223372036854775807
                       ·rw [if_pos c89] at H
                        have c89b0 := eq_true c89
                        have c89b1 : decide (((⟨#[40]⟩ : ByteArray) ++ t133).size + (strOfNums y145).size ≤ 9223372036854775807) = true := decide_eq_true c89
                        try have c89b2 : (9223372036854775807 < ((⟨#[40]⟩ : ByteArray) ++ t133).size + (strOfNums y145).size) = False := eq_false (Nat.not_lt.2 c89)
                        try have c89b3 := c89b2
                        try simp only [ByteArray.size_append, show ∀ a : UInt8, (ByteArray.mk #[a]).size = 1 from fun _ => rfl] at c89b3
                        try have c89b4 := c89b2
                        try simp only [ByteArray.size_append, ByteArray.size_extract, show ∀ a : UInt8, (ByteArray.mk #[a]).size = 1 from fun _ => rfl, Nat.min_self, Nat.add_sub_cancel] at c89b4
                        by_cases c90 : (((⟨#[40]⟩ : ByteArray) ++ t133) ++ (strOfNums y145)).size + t141.size ≤ 9223372036854775807
                        ·rw [if_pos c90] at H
                         have c90b0 := eq_true c90
                         have c90b1 : decide ((((⟨#[40]⟩ : ByteArray) ++ t133) ++ (strOfNums y145)).size + t141.size ≤ 9223372036854775807) = true := decide_eq_true c90
                         try have c90b2 : (9223372036854775807 < (((⟨#[40]⟩ : ByteArray) ++ t133) ++ (strOfNums y145)).size + t141.size) = False := eq_false (Nat.not_lt.2 c90)
                         try have c90b3 := c90b2
                         try simp only [ByteArray.size_append, show ∀ a : UInt8, (ByteArray.mk #[a]).size = 1 from fun _ => rfl] at c90b3
                         try have c90b4 := c90b2
                         try simp only [ByteArray.size_append, ByteArray.size_extract, show ∀ a : UInt8, (ByteArray.mk #[a]).size = 1 from fun _ => rfl, Nat.min_self, Nat.add_sub_cancel] at c90b4
                         by_cases c91 : ((((⟨#[40]⟩ : ByteArray) ++ t133) ++ (strOfNums y145)) ++ t141).size + 1 ≤ 9223372036854775807
                         ·rw [if_pos c91] at H
                          have c91b0 := eq_true c91
                          have c91b1 : decide (((((⟨#[40]⟩ : ByteArray) ++ t133) ++ (strOfNums y145)) ++ t141).size + 1 ≤ 9223372036854775807) = true := decide_eq_true c91
                          try have c91b2 : (9223372036854775807 < ((((⟨#[40]⟩ : ByteArray) ++ t133) ++ (strOfNums y145)) ++ t141).size + 1) = False := eq_false (Nat.not_lt.2 c91)
                          try have c91b3 := c91b2
                          try simp only [ByteArray.size_append, show ∀ a : UInt8, (ByteArray.mk #[a]).size = 1 from fun _ => rfl] at c91b3
                          try have c91b4 := c91b2
                          try simp only [ByteArray.size_append, ByteArray.size_extract, show ∀ a : UInt8, (ByteArray.mk #[a]).size = 1 from fun _ => rfl, Nat.min_self, Nat.add_sub_cancel] at c91b4
                          obtain rfl := Option.some.inj H
                          have hcz92_0 : wc.cell? ⟨gb130, 0, none⟩ = some (.int .u8 a0_0) := (blk_cell BK130.out 0).trans rfl
                          have hcz92_1 : wc.cell? ⟨gb130, 1, none⟩ = some (.slice (some ad132) l0_1.length c0_1) := (blk_cell BK130.out 1).trans rfl
                          have hfz92_0 := blk_frozen BK130.out 0
                          have hfz92_1 := blk_frozen BK130.out 1
                          go_wp2_with (first | ((with_reducible refine gate_dst (N := 128) rfl ?_); refine Kd.R_lit (Kd.int .u8) _ 5 ?hg (N := 128) ?hd (xs := ([a0_0] : List Int)) (inner := [.int .u8 a0_0]) (ok := fun _ => True) (okp := fun _ => True) ?hr ?hp (fun _ hk => hk) trivial (Below.refl _ _) (Nat.le_refl _) (by simp) ?_; (case hd => rfl); (case hg => rfl); (case hr => first | (go_simp; done) | (go_simp; rfl)); (case hp => exact (Reps.one (show Kd.M (Kd.int .u8) _ _ _ a0_0 [.int .u8 a0_0] from rfl) (Reps.none _ _))); intro v146 w93 ho94 hb hg_ hnew_; clear hg_ hnew_; (first | rw [← Ny145.out] at ho94 | (simp only [Int.reduceToNat] at ho94; rw [← Ny145.out] at ho94)); have n0_ := Aside0.mk (Kd.R_lower ho94 (below_size (by repeat (first | (with_reducible first | exact HB.out | apply below_alloc | apply pw_below_drewN | apply below_drew1 | refine below_set ?_ GE130.out) | exact HB.out)))); have n1_ := Aside0.mk (blk_below (g := gb130) (o := .cells #[.int .u8 a0_0, .slice (some ad132) l0_1.length c0_1] 28 (0, 0)) (by (with_reducible repeat (first | refine blk_drewN ?_ _ | refine blk_drew ?_ | refine blk_alloc ?_ _)); exact BK130.out) hb); have n2_ := Aside0.mk (below_step (by repeat (first | (with_reducible first | exact HB.out | apply below_alloc | apply pw_below_drewN | apply below_drew1 | refine below_set ?_ GE130.out) | exact HB.out)) hb); clear BK130; clear HB; have HO147 := n0_; have BK130 := n1_; have HB := n2_; clear n0_ n1_ n2_; clear hb ho94; have hcv95 := own_string (P := Try.prog) Try.underlying43 Try.underlying5 Try.underlying9 (Kd.own_of_R HO147.out)))
                          go_ret
                          exact ⟨by first | rfl | (simp [errW_none, errW_some] <;> rfl) | (simp [*, errW_none, errW_some] <;> rfl), by repeat (first | (with_reducible first | exact HB.out | apply below_alloc | apply pw_below_drewN | apply below_drew1 | refine below_set ?_ GE130.out) | exact HB.out)⟩
                         ·rw [if_neg c91] at H
                          exact absurd H (by simp)
                        ·rw [if_neg c90] at H
                         exact absurd H (by simp)
                       ·rw [if_neg c89] at H
                        exact absurd H (by simp)
                      ·rw [if_neg c88] at H
                       exact absurd H (by simp)
    ·rw [if_neg c43] at H
     exact absurd H (by simp)
  ·rw [if_neg c7] at H
   exact absurd H (by simp)

end Go.Proofs.Ytijmkmbepjjphaa.G
