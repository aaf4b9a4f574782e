-- Made by gprint.py (the kit's print with contracts of this session's own among its functions).
import Derived.Test.YtkapeoigpdppeaaG0
import Derived.Test.YtkapeoigpdppeaaG5
import Derived.Test.YtkapeoigpdppeaaG6
namespace Go.Proofs.Ytkapeoigpdppeaa.G
open Go.RowKit Go.Proofs.YtkapeoigpdppeaaW.PrintWords Go.Proofs.YtkapeoigpdppeaaW.PrintLast Go.Proofs.YtkapeoigpdppeaaW.PrintMore
attribute [local go_sem] max2_int min2_int max_two min_two max_three min_three max_four min_four   -- for this text's walks alone
set_option linter.unusedVariables false
set_option linter.unusedSimpArgs false

/-! ### spec_l91Said: function 26 -/
def spec_l91Said.f (k : Nat) (s0_0 : List Int) (s0_1 : Int) : Option (ByteArray × Int) := (spec_l6Rd_pick.f k s0_0 s0_1 4).bind fun bt147 => ((spec_l91Term.f k s0_0 bt147.2 bt147.1).bind fun bt149 => ((spec_l6Rd_pick.f k s0_0 bt149.2 16).bind fun bt151 => (if bt151.1 = 0 then ((spec_l6Rd_pick.f k s0_0 bt151.2 (wrap64 ((bt149.1.size : Int) + 1))).bind fun bt153 => (if 0 ≤ bt153.1 then (if bt153.1 ≤ (bt149.1.size : Int) then ((some (([(⟨#[]⟩ : ByteArray), (⟨#[98]⟩ : ByteArray), (⟨#[40]⟩ : ByteArray), (⟨#[41]⟩ : ByteArray), (⟨#[43]⟩ : ByteArray)] : List ByteArray) : List ByteArray)).bind fun y155 => ((spec_l6Rd_pick.f k s0_0 bt153.2 5).bind fun bt158 => (if 0 ≤ bt158.1 then (if bt158.1 < (y155.length : Int) then (if (bt149.1.extract 0 (bt153.1 : Int).toNat).size + (rdOf ByteArray.empty y155 bt158.1).size ≤ 9223372036854775807 then (if ((bt149.1.extract 0 (bt153.1 : Int).toNat) ++ (rdOf ByteArray.empty y155 bt158.1)).size + (bt149.1.extract (bt153.1 : Int).toNat bt149.1.size).size ≤ 9223372036854775807 then (some (((bt149.1.extract 0 (bt153.1 : Int).toNat) ++ (rdOf ByteArray.empty y155 bt158.1)) ++ (bt149.1.extract (bt153.1 : Int).toNat bt149.1.size), bt158.2)) else (none)) else (none)) else (none)) else (none)))) else (none)) else (none))) else (some (bt149.1, bt151.2)))))
theorem spec_l91Said.mono : ∀ a0 a1 k, LeO (spec_l91Said.f k a0 a1) (spec_l91Said.f (k + 1) a0 a1) := by
 intro a0 a1 k
 unfold spec_l91Said.f
 repeat' first
   | (with_reducible exact spec_l6Rd_pick.mono _ _ _ _)
   | (with_reducible exact spec_l91Term.mono _ _ _ _)
   | (with_reducible exact LeO.refl _)
   | (with_reducible exact LeO.none _)
   | (with_reducible refine LeO.ite ?_ ?_)
   | (with_reducible refine LeO.bind ?_ (fun _ => ?_))
   | exact spec_l6Rd_pick.mono _ _ _ _
   | exact spec_l91Term.mono _ _ _ _
   | exact LeO.none _
   | refine LeO.ite ?_ ?_
   | refine LeO.bind ?_ (fun _ => ?_)
def spec_l91Said.T4 : Bool × List (List Nat × List Nat) := (true, [([], []), ([], []), ([0, 1], [0, 1]), ([], []), ([], []), ([4], [4]), ([3, 5], [3, 5]), ([6], [6]), ([2, 7], [2, 7]), ([], []), ([], []), ([9, 10], [9, 10]), ([8, 11], [8, 11]), ([12, 5, 0, 1, 2, 3, 4, 5, 6, 7, 8, 9, 10, 11, 12], [12])])
def spec_l91Said.B4 : List Nat := [0, 0, 3, 0, 0, 16, 56, 120, 255, 0, 0, 1536, 4095, 8191]
theorem spec_l91Said.tab4 : rtab .any (opsOf Try.f26 4) = spec_l91Said.T4 := by kernel_rfl
theorem spec_l91Said.bits4 : waitsOk spec_l91Said.T4.2 spec_l91Said.B4 = true := by kernel_rfl
set_option maxHeartbeats 8000000 in
set_option maxRecDepth 100000 in
theorem spec_l91Said.calls (k : Nat) (g : Nat) (s0_0 : List Int) (s0_1 : Int) (r1 : ByteArray) (r2 : Int) (w0 w : World) (hI : IsS57 w0 w g s0_0 s0_1) (hB : Below w0.heap.size w0 w) (h : spec_l91Said.f k s0_0 s0_1 = some (r1, r2)) :
  Calls Try.prog 26 #[.pointer (some ⟨g, 0, none⟩)] w fun e w' => e = .returned (.string r1) ∧ IsS57 w0 w' g s0_0 r2 ∧ Below w0.heap.size w0 w' ∧ KeepBut w w' g none := by
 have HI0 := Aside0.mk hI
 have HK := Aside0.mk (KeepBut.refl w g none)
 have HL := Aside0.mk hB.size
 clear hI
 have HW0 := Aside0.mk hB.size
 have HB := Aside0.mk hB
 clear hB
 have H : ((spec_l6Rd_pick.f k s0_0 s0_1 4).bind fun bt147 => ((spec_l91Term.f k s0_0 bt147.2 bt147.1).bind fun bt149 => ((spec_l6Rd_pick.f k s0_0 bt149.2 16).bind fun bt151 => (if bt151.1 = 0 then ((spec_l6Rd_pick.f k s0_0 bt151.2 (wrap64 ((bt149.1.size : Int) + 1))).bind fun bt153 => (if 0 ≤ bt153.1 then (if bt153.1 ≤ (bt149.1.size : Int) then ((some (([(⟨#[]⟩ : ByteArray), (⟨#[98]⟩ : ByteArray), (⟨#[40]⟩ : ByteArray), (⟨#[41]⟩ : ByteArray), (⟨#[43]⟩ : ByteArray)] : List ByteArray) : List ByteArray)).bind fun y155 => ((spec_l6Rd_pick.f k s0_0 bt153.2 5).bind fun bt158 => (if 0 ≤ bt158.1 then (if bt158.1 < (y155.length : Int) then (if (bt149.1.extract 0 (bt153.1 : Int).toNat).size + (rdOf ByteArray.empty y155 bt158.1).size ≤ 9223372036854775807 then (if ((bt149.1.extract 0 (bt153.1 : Int).toNat) ++ (rdOf ByteArray.empty y155 bt158.1)).size + (bt149.1.extract (bt153.1 : Int).toNat bt149.1.size).size ≤ 9223372036854775807 then (some (((bt149.1.extract 0 (bt153.1 : Int).toNat) ++ (rdOf ByteArray.empty y155 bt158.1)) ++ (bt149.1.extract (bt153.1 : Int).toNat bt149.1.size), bt158.2)) else (none)) else (none)) else (none)) else (none)))) else (none)) else (none))) else (some (bt149.1, bt151.2)))))) = some (r1, r2) := h
 clear h
 replace H := Option.bind_eq_some_iff.mp H
 obtain ⟨⟨t147, t148⟩, A20, H⟩ := H
 replace H : ((spec_l91Term.f k s0_0 t148 t147).bind fun bt149 => ((spec_l6Rd_pick.f k s0_0 bt149.2 16).bind fun bt151 => (if bt151.1 = 0 then ((spec_l6Rd_pick.f k s0_0 bt151.2 (wrap64 ((bt149.1.size : Int) + 1))).bind fun bt153 => (if 0 ≤ bt153.1 then (if bt153.1 ≤ (bt149.1.size : Int) then ((some (([(⟨#[]⟩ : ByteArray), (⟨#[98]⟩ : ByteArray), (⟨#[40]⟩ : ByteArray), (⟨#[41]⟩ : ByteArray), (⟨#[43]⟩ : ByteArray)] : List ByteArray) : List ByteArray)).bind fun y155 => ((spec_l6Rd_pick.f k s0_0 bt153.2 5).bind fun bt158 => (if 0 ≤ bt158.1 then (if bt158.1 < (y155.length : Int) then (if (bt149.1.extract 0 (bt153.1 : Int).toNat).size + (rdOf ByteArray.empty y155 bt158.1).size ≤ 9223372036854775807 then (if ((bt149.1.extract 0 (bt153.1 : Int).toNat) ++ (rdOf ByteArray.empty y155 bt158.1)).size + (bt149.1.extract (bt153.1 : Int).toNat bt149.1.size).size ≤ 9223372036854775807 then (some (((bt149.1.extract 0 (bt153.1 : Int).toNat) ++ (rdOf ByteArray.empty y155 bt158.1)) ++ (bt149.1.extract (bt153.1 : Int).toNat bt149.1.size), bt158.2)) else (none)) else (none)) else (none)) else (none)))) else (none)) else (none))) else (some (bt149.1, bt151.2))))) = some (r1, r2) := H
 have A2 := Aside0.mk A20
 clear A20
 replace H := Option.bind_eq_some_iff.mp H
 obtain ⟨⟨t149, t150⟩, A30, H⟩ := H
 replace H : ((spec_l6Rd_pick.f k s0_0 t150 16).bind fun bt151 => (if bt151.1 = 0 then ((spec_l6Rd_pick.f k s0_0 bt151.2 (wrap64 ((t149.size : Int) + 1))).bind fun bt153 => (if 0 ≤ bt153.1 then (if bt153.1 ≤ (t149.size : Int) then ((some (([(⟨#[]⟩ : ByteArray), (⟨#[98]⟩ : ByteArray), (⟨#[40]⟩ : ByteArray), (⟨#[41]⟩ : ByteArray), (⟨#[43]⟩ : ByteArray)] : List ByteArray) : List ByteArray)).bind fun y155 => ((spec_l6Rd_pick.f k s0_0 bt153.2 5).bind fun bt158 => (if 0 ≤ bt158.1 then (if bt158.1 < (y155.length : Int) then (if (t149.extract 0 (bt153.1 : Int).toNat).size + (rdOf ByteArray.empty y155 bt158.1).size ≤ 9223372036854775807 then (if ((t149.extract 0 (bt153.1 : Int).toNat) ++ (rdOf ByteArray.empty y155 bt158.1)).size + (t149.extract (bt153.1 : Int).toNat t149.size).size ≤ 9223372036854775807 then (some (((t149.extract 0 (bt153.1 : Int).toNat) ++ (rdOf ByteArray.empty y155 bt158.1)) ++ (t149.extract (bt153.1 : Int).toNat t149.size), bt158.2)) else (none)) else (none)) else (none)) else (none)))) else (none)) else (none))) else (some (t149, bt151.2)))) = some (r1, r2) := H
 have A3 := Aside0.mk A30
 clear A30
 replace H := Option.bind_eq_some_iff.mp H
 obtain ⟨⟨t151, t152⟩, A40, H⟩ := H
 replace H : (if t151 = 0 then ((spec_l6Rd_pick.f k s0_0 t152 (wrap64 ((t149.size : Int) + 1))).bind fun bt153 => (if 0 ≤ bt153.1 then (if bt153.1 ≤ (t149.size : Int) then ((some (([(⟨#[]⟩ : ByteArray), (⟨#[98]⟩ : ByteArray), (⟨#[40]⟩ : ByteArray), (⟨#[41]⟩ : ByteArray), (⟨#[43]⟩ : ByteArray)] : List ByteArray) : List ByteArray)).bind fun y155 => ((spec_l6Rd_pick.f k s0_0 bt153.2 5).bind fun bt158 => (if 0 ≤ bt158.1 then (if bt158.1 < (y155.length : Int) then (if (t149.extract 0 (bt153.1 : Int).toNat).size + (rdOf ByteArray.empty y155 bt158.1).size ≤ 9223372036854775807 then (if ((t149.extract 0 (bt153.1 : Int).toNat) ++ (rdOf ByteArray.empty y155 bt158.1)).size + (t149.extract (bt153.1 : Int).toNat t149.size).size ≤ 9223372036854775807 then (some (((t149.extract 0 (bt153.1 : Int).toNat) ++ (rdOf ByteArray.empty y155 bt158.1)) ++ (t149.extract (bt153.1 : Int).toNat t149.size), bt158.2)) else (none)) else (none)) else (none)) else (none)))) else (none)) else (none))) else (some (t149, t152))) = some (r1, r2) := H
 have A4 := Aside0.mk A40
 clear A40
 by_cases c5 : t151 = 0
 ·rw [if_pos c5] at H
  have c5b0 : (t151 == 0) = true := beq_iff_eq.mpr c5
  have c5b1 : (t151 != 0) = false := bne_eq_false_iff_eq.mpr c5
  clear c5
  replace H := Option.bind_eq_some_iff.mp H
  obtain ⟨⟨t153, t154⟩, A60, H⟩ := H
  replace H : (if 0 ≤ t153 then (if t153 ≤ (t149.size : Int) then ((some (([(⟨#[]⟩ : ByteArray), (⟨#[98]⟩ : ByteArray), (⟨#[40]⟩ : ByteArray), (⟨#[41]⟩ : ByteArray), (⟨#[43]⟩ : ByteArray)] : List ByteArray) : List ByteArray)).bind fun y155 => ((spec_l6Rd_pick.f k s0_0 t154 5).bind fun bt158 => (if 0 ≤ bt158.1 then (if bt158.1 < (y155.length : Int) then (if (t149.extract 0 (t153 : Int).toNat).size + (rdOf ByteArray.empty y155 bt158.1).size ≤ 9223372036854775807 then (if ((t149.extract 0 (t153 : Int).toNat) ++ (rdOf ByteArray.empty y155 bt158.1)).size + (t149.extract (t153 : Int).toNat t149.size).size ≤ 9223372036854775807 then (some (((t149.extract 0 (t153 : Int).toNat) ++ (rdOf ByteArray.empty y155 bt158.1)) ++ (t149.extract (t153 : Int).toNat t149.size), bt158.2)) else (none)) else (none)) else (none)) else (none)))) else (none)) else (none)) = some (r1, r2) := H
  have A6 := Aside0.mk A60
  clear A60
  by_cases c7 : 0 ≤ t153
  ·rw [if_pos c7] at H
   have c7b0 := eq_true c7
   have c7b1 : decide (0 ≤ t153) = true := decide_eq_true c7
   clear c7
   by_cases c8 : t153 ≤ (t149.size : Int)
   ·rw [if_pos c8] at H
    have c8b0 := eq_true c8
    have c8b1 : decide (t153 ≤ (t149.size : Int)) = true := decide_eq_true c8
    clear c8
    obtain ⟨y155, hy155⟩ : ∃ y_ : List ByteArray, y_ = (([(⟨#[]⟩ : ByteArray), (⟨#[98]⟩ : ByteArray), (⟨#[40]⟩ : ByteArray), (⟨#[41]⟩ : ByteArray), (⟨#[43]⟩ : ByteArray)] : List ByteArray)) := ⟨_, rfl⟩
    replace H : ((spec_l6Rd_pick.f k s0_0 t154 5).bind fun bt158 => (if 0 ≤ bt158.1 then (if bt158.1 < (y155.length : Int) then (if (t149.extract 0 (t153 : Int).toNat).size + (rdOf ByteArray.empty y155 bt158.1).size ≤ 9223372036854775807 then (if ((t149.extract 0 (t153 : Int).toNat) ++ (rdOf ByteArray.empty y155 bt158.1)).size + (t149.extract (t153 : Int).toNat t149.size).size ≤ 9223372036854775807 then (some (((t149.extract 0 (t153 : Int).toNat) ++ (rdOf ByteArray.empty y155 bt158.1)) ++ (t149.extract (t153 : Int).toNat t149.size), bt158.2)) else (none)) else (none)) else (none)) else (none))) = some (r1, r2) := by first | (rw [hy155]; with_reducible exact H) | (have H2_ := (Option.bind_some _ _).symm.trans H; rw [hy155]; with_reducible exact H2_) | (have H2_ := (Option.bind_some _ _).symm.trans H; with_reducible exact H2_) | with_reducible exact H | (rw [hy155]; exact H) | exact H
    have Ny155 := Aside0.mk hy155
    clear hy155
    replace H := Option.bind_eq_some_iff.mp H
    obtain ⟨⟨t158, t159⟩, A90, H⟩ := H
    replace H : (if 0 ≤ t158 then (if t158 < (y155.length : Int) then (if (t149.extract 0 (t153 : Int).toNat).size + (rdOf ByteArray.empty y155 t158).size ≤ 9223372036854775807 then (if ((t149.extract 0 (t153 : Int).toNat) ++ (rdOf ByteArray.empty y155 t158)).size + (t149.extract (t153 : Int).toNat t149.size).size ≤ 9223372036854775807 then (some (((t149.extract 0 (t153 : Int).toNat) ++ (rdOf ByteArray.empty y155 t158)) ++ (t149.extract (t153 : Int).toNat t149.size), t159)) else (none)) else (none)) else (none)) else (none)) = some (r1, r2) := H
    have A9 := Aside0.mk A90
    clear A90
    by_cases c10 : 0 ≤ t158
    ·rw [if_pos c10] at H
     have c10b0 : decide (0 ≤ t158) = true := decide_eq_true c10
     clear c10
     by_cases c11 : t158 < (y155.length : Int)
     ·rw [if_pos c11] at H
      have c11b0 : decide (t158 < (y155.length : Int)) = true := decide_eq_true c11
      clear c11
      by_cases c12 : (t149.extract 0 (t153 : Int).toNat).size + (rdOf ByteArray.empty y155 t158).size ≤ 9223372036854775807
      ·rw [if_pos c12] at H
       have c12b0 := eq_true c12
       have c12b1 : decide ((t149.extract 0 (t153 : Int).toNat).size + (rdOf ByteArray.empty y155 t158).size ≤ 9223372036854775807) = true := decide_eq_true c12
       try have c12b2 : (9223372036854775807 < (t149.extract 0 (t153 : Int).toNat).size + (rdOf ByteArray.empty y155 t158).size) = False := eq_false (Nat.not_lt.2 c12)
       have c13b0 := eq_true (of_decide_eq_true (by first | (with_reducible assumption) | assumption) : 0 ≤ t153)
       have c14b0 := eq_true (of_decide_eq_true (by first | (with_reducible assumption) | assumption) : t153 ≤ (t149.size : Int))
       by_cases c15 : ((t149.extract 0 (t153 : Int).toNat) ++ (rdOf ByteArray.empty y155 t158)).size + (t149.extract (t153 : Int).toNat t149.size).size ≤ 9223372036854775807
       ·rw [if_pos c15] at H
        have c15b0 := eq_true c15
        have c15b1 : decide (((t149.extract 0 (t153 : Int).toNat) ++ (rdOf ByteArray.empty y155 t158)).size + (t149.extract (t153 : Int).toNat t149.size).size ≤ 9223372036854775807) = true := decide_eq_true c15
        try have c15b2 : (9223372036854775807 < ((t149.extract 0 (t153 : Int).toNat) ++ (rdOf ByteArray.empty y155 t158)).size + (t149.extract (t153 : Int).toNat t149.size).size) = False := eq_false (Nat.not_lt.2 c15)
        try have c15b3 := c15b2
        try simp only [ByteArray.size_append, show ∀ a : UInt8, (ByteArray.mk #[a]).size = 1 from fun _ => rfl] at c15b3
        try have c15b4 := c15b2
        try simp only [ByteArray.size_append, ByteArray.size_extract, show ∀ a : UInt8, (ByteArray.mk #[a]).size = 1 from fun _ => rfl, Nat.min_self, Nat.add_sub_cancel] at c15b4
        simp only [Option.some.injEq, Prod.mk.injEq] at H
        obtain ⟨rfl, rfl⟩ := H
        go_enter Try.func26, Try.ntmps26
        try go_wp2_with (first | ((with_reducible refine gate_callee (f := 40) rfl ?_); refine goesL_ (some 7) rfl rfl Try.func40 (by kernel_rfl) rfl #[.pointer (some ⟨g, 0, none⟩), .int .i64 4] rfl (by (try simp only [List.map_toArray, List.map_cons, List.map_nil]); first | done | rfl | (simp only [List.length_drop, List.length_take]; rfl)) ?_; (with_reducible refine (spec_l6Rd_pick.calls k g s0_0 s0_1 4 t147 t148 w0 _ ?side1 ?side2 A2.out).mono ?_); (case side1 => repeat (first | (with_reducible first | exact HI0.out | apply IsS57.alloc | apply IsS57.drewN | apply IsS57.drew | apply IsS57.set_1) | exact HI0.out)); (case side2 => repeat (first | (with_reducible first | exact HB.out | apply below_alloc | apply pw_below_drewN | apply below_drew1 | refine below_set ?_ (IsS57.ge HI0.out)) | exact HB.out)); rintro e w16 ⟨rfl, hi, hb, hk⟩; refine ⟨_, rfl, ?_⟩; have n0_ := Aside0.mk (KeepBut.trans (by repeat (first | (with_reducible first | exact HK.out | apply KeepBut.set_ | apply keep_drewN | apply keep_drew | apply keep_alloc) | exact HK.out)) hk (.inl rfl)); have n1_ := Aside0.mk (hb); have n2_ := Aside0.mk (hi); clear HK; clear HB; clear HI0; have HK := n0_; have HB := n1_; have HI0 := n2_; clear n0_ n1_ n2_; (try clear hb); (try clear hb2); (try clear hk); (try clear hi)) | ((with_reducible refine gate_callee (f := 39) rfl ?_); refine goesL_ (some 8) rfl rfl Try.func39 (by kernel_rfl) rfl #[.pointer (some ⟨g, 0, none⟩), .int .i64 t147] rfl (by (try simp only [List.map_toArray, List.map_cons, List.map_nil]); first | done | rfl | (simp only [List.length_drop, List.length_take]; rfl)) ?_; (with_reducible refine (spec_l91Term.calls k g s0_0 t148 t147 t149 t150 w0 _ ?side1 ?side2 A3.out).mono ?_); (case side1 => repeat (first | (with_reducible first | exact HI0.out | apply IsS57.alloc | apply IsS57.drewN | apply IsS57.drew | apply IsS57.set_1) | exact HI0.out)); (case side2 => repeat (first | (with_reducible first | exact HB.out | apply below_alloc | apply pw_below_drewN | apply below_drew1 | refine below_set ?_ (IsS57.ge HI0.out)) | exact HB.out)); rintro e w17 ⟨rfl, hi, hb, hk⟩; refine ⟨_, rfl, ?_⟩; have n0_ := Aside0.mk (KeepBut.trans (by repeat (first | (with_reducible first | exact HK.out | apply KeepBut.set_ | apply keep_drewN | apply keep_drew | apply keep_alloc) | exact HK.out)) hk (.inl rfl)); have n1_ := Aside0.mk (hb); have n2_ := Aside0.mk (hi); clear HK; clear HB; clear HI0; have HK := n0_; have HB := n1_; have HI0 := n2_; clear n0_ n1_ n2_; (try clear hb); (try clear hb2); (try clear hk); (try clear hi)) | ((with_reducible refine gate_callee (f := 40) rfl ?_); refine goesL_ (some 10) rfl rfl Try.func40 (by kernel_rfl) rfl #[.pointer (some ⟨g, 0, none⟩), .int .i64 16] rfl (by (try simp only [List.map_toArray, List.map_cons, List.map_nil]); first | done | rfl | (simp only [List.length_drop, List.length_take]; rfl)) ?_; (with_reducible refine (spec_l6Rd_pick.calls k g s0_0 t150 16 t151 t152 w0 _ ?side1 ?side2 A4.out).mono ?_); (case side1 => repeat (first | (with_reducible first | exact HI0.out | apply IsS57.alloc | apply IsS57.drewN | apply IsS57.drew | apply IsS57.set_1) | exact HI0.out)); (case side2 => repeat (first | (with_reducible first | exact HB.out | apply below_alloc | apply pw_below_drewN | apply below_drew1 | refine below_set ?_ (IsS57.ge HI0.out)) | exact HB.out)); rintro e w18 ⟨rfl, hi, hb, hk⟩; refine ⟨_, rfl, ?_⟩; have n0_ := Aside0.mk (KeepBut.trans (by repeat (first | (with_reducible first | exact HK.out | apply KeepBut.set_ | apply keep_drewN | apply keep_drew | apply keep_alloc) | exact HK.out)) hk (.inl rfl)); have n1_ := Aside0.mk (hb); have n2_ := Aside0.mk (hi); clear HK; clear HB; clear HI0; have HK := n0_; have HB := n1_; have HI0 := n2_; clear n0_ n1_ n2_; (try clear hb); (try clear hb2); (try clear hk); (try clear hi)) | ((with_reducible refine gate_callee (f := 40) rfl ?_); refine goesL_ (some 16) rfl rfl Try.func40 (by kernel_rfl) rfl #[.pointer (some ⟨g, 0, none⟩), .int .i64 (wrap64 ((t149.size : Int) + 1))] rfl (by (try simp only [List.map_toArray, List.map_cons, List.map_nil]); first | done | rfl | (simp only [List.length_drop, List.length_take]; rfl)) ?_; (with_reducible refine (spec_l6Rd_pick.calls k g s0_0 t152 (wrap64 ((t149.size : Int) + 1)) t153 t154 w0 _ ?side1 ?side2 A6.out).mono ?_); (case side1 => repeat (first | (with_reducible first | exact HI0.out | apply IsS57.alloc | apply IsS57.drewN | apply IsS57.drew | apply IsS57.set_1) | exact HI0.out)); (case side2 => repeat (first | (with_reducible first | exact HB.out | apply below_alloc | apply pw_below_drewN | apply below_drew1 | refine below_set ?_ (IsS57.ge HI0.out)) | exact HB.out)); rintro e w19 ⟨rfl, hi, hb, hk⟩; refine ⟨_, rfl, ?_⟩; have n0_ := Aside0.mk (KeepBut.trans (by repeat (first | (with_reducible first | exact HK.out | apply KeepBut.set_ | apply keep_drewN | apply keep_drew | apply keep_alloc) | exact HK.out)) hk (.inl rfl)); have n1_ := Aside0.mk (hb); have n2_ := Aside0.mk (hi); clear HK; clear HB; clear HI0; have HK := n0_; have HB := n1_; have HI0 := n2_; clear n0_ n1_ n2_; (try clear hb); (try clear hb2); (try clear hk); (try clear hi)))
        have pi160 : (0 ≤ (t158 : Int)) = True := eq_true (of_decide_eq_true (by first | (with_reducible assumption) | assumption))
        have qi160 : (t158 < (y155.length : Int)) = True := eq_true (of_decide_eq_true (by first | (with_reducible assumption) | assumption))
        have n0_ := Aside0.mk (IsS57.drew HI0.out)
        have n1_ := Aside0.mk (keep_drew HK.out)
        have n2_ := Aside0.mk (below_drew1 HB.out)
        clear HI0
        clear HK
        clear HB
        have HI0 := n0_
        have HK := n1_
        have HB := n2_
        clear n0_ n1_ n2_
        refine start_ (n := 14) (S := fun w' => True) (ds := []) #[false, false, false, false, false, false, false, false, false, false, false, false, false, false] (by kernel_rfl) rfl rfl trivial (fun hHeld => ?_); refine with_tabW spec_l91Said.tab4 spec_l91Said.bits4 (fun HT_ HW_ => ?_)
        generalize w19.drew = w20 at HI0 HK HB hHeld ⊢
        refine pure_ (i := 0) (N := some 17) (v := ?_) (a' := ?_) #[true, false, false, false, false, false, false, false, false, false, false, false, false, false] rfl rfl (any_of HT_.out (by kernel_rfl)) (fun _ _ _ h => h) (Or.inl ⟨by rfl, ?_⟩) ?_ ?_
        rotate_left
        ·intro w'
         go_simp
         with_reducible rfl
        rotate_left
        ·simp only [Act.put, List.setIfInBounds_toArray, List.set_cons_zero, List.set_cons_succ, i64_w, i32_w]
         rfl
        refine pure_ (i := 1) (N := some 18) (v := ?_) (a' := ?_) #[true, true, false, false, false, false, false, false, false, false, false, false, false, false] rfl rfl (any_of HT_.out (by kernel_rfl)) (fun _ _ _ h => h) (Or.inl ⟨by rfl, ?_⟩) ?_ ?_
        rotate_left
        ·intro w'
         go_simp
         with_reducible rfl
        rotate_left
        ·simp only [Act.put, List.setIfInBounds_toArray, List.set_cons_zero, List.set_cons_succ, i64_w, i32_w]
         rfl
        refine pure_ (i := 4) (N := some 21) (v := ?_) (a' := ?_) #[true, true, false, false, true, false, false, false, false, false, false, false, false, false] rfl rfl (any_of HT_.out (by kernel_rfl)) (fun _ _ _ h => h) (Or.inl ⟨by rfl, ?_⟩) ?_ ?_
        rotate_left
        ·intro w'
         go_simp
         with_reducible rfl
        rotate_left
        ·simp only [Act.put, List.setIfInBounds_toArray, List.set_cons_zero, List.set_cons_succ, i64_w, i32_w]
         rfl
        refine pure_ (i := 9) (N := some 26) (v := ?_) (a' := ?_) #[true, true, false, false, true, false, false, false, false, true, false, false, false, false] rfl rfl (any_of HT_.out (by kernel_rfl)) (fun _ _ _ h => h) (Or.inl ⟨by rfl, ?_⟩) ?_ ?_
        rotate_left
        ·intro w'
         go_simp
         with_reducible rfl
        rotate_left
        ·simp only [Act.put, List.setIfInBounds_toArray, List.set_cons_zero, List.set_cons_succ, i64_w, i32_w]
         rfl
        refine pure_ (i := 10) (N := some 27) (v := ?_) (a' := ?_) #[true, true, false, false, true, false, false, false, false, true, true, false, false, false] rfl rfl (any_of HT_.out (by kernel_rfl)) (fun _ _ _ h => h) (Or.inl ⟨by rfl, ?_⟩) ?_ ?_
        rotate_left
        ·intro w'
         go_simp
         with_reducible rfl
        rotate_left
        ·simp only [Act.put, List.setIfInBounds_toArray, List.set_cons_zero, List.set_cons_succ, i64_w, i32_w]
         rfl
        refine inv_at [2, 3, 5, 6, 7, 8, 11, 12, 13] (fun a0_ b a w' => ∃ (v156 : Value) (adz_v156 : Addr) (m6_ : Value), a = putSel a0_ b [(2, 19, .string (t149.extract 0 (t153 : Int).toNat)), (3, 20, v156), (5, 22, .int .i64 t158), (6, 23, m6_), (7, 24, .string (rdOf ByteArray.empty y155 t158)), (8, 25, .string ((t149.extract 0 (t153 : Int).toNat) ++ (rdOf ByteArray.empty y155 t158))), (11, 28, .string (t149.extract (t153 : Int).toNat t149.size)), (12, 29, .string (((t149.extract 0 (t153 : Int).toNat) ++ (rdOf ByteArray.empty y155 t158)) ++ (t149.extract (t153 : Int).toNat t149.size))), (13, 2, .string (((t149.extract 0 (t153 : Int).toNat) ++ (rdOf ByteArray.empty y155 t158)) ++ (t149.extract (t153 : Int).toNat t149.size)))] ∧ (b 5 = false → IsS57 w0 w' g s0_0 t154) ∧ (KeepBut w w' g none) ∧ (Below w0.heap.size w0 w') ∧ (b 3 = true → Kd.R Kd.string 9 w' w.heap.size (fun _ => True) v156 y155) ∧ (b 3 = true → ∃ c_, (v156 : Value) = .slice (some adz_v156) y155.length c_) ∧ (b 5 = true → IsS57 w0 w' g s0_0 t159) ∧ (b 6 = true → (m6_ : Value) = .pointer (some (adz_v156.add (t158).toNat)))) HT_.out HW_.out (by kernel_rfl) (by kernel_rfl) ?_ ?_ ?_
        ·exact ⟨.bool false, ⟨0, 0, none⟩, .bool false, by simp only [putSel, Bool.false_eq_true, if_false], fun _ => HI0.out, HK.out, HB.out, fun h_ => absurd h_ (by decide), fun h_ => absurd h_ (by decide), fun h_ => absurd h_ (by decide), fun h_ => absurd h_ (by decide)⟩
        ·skip
         clear HB HI0 HK
         refine steps_cons ?_ ?_
         ·rintro b a w' ⟨v156, adz_v156, m6_, ha, Q_HI0, Q_HK, Q_HB, Q_HO157, Q_HA_HO157, Q_HI0_e5, Q_X6_⟩ hb_ hon hoff
          refine ⟨_, rfl, fun K hK => ?_⟩
          have e17 : a.tmps[17]? = some (.string t149) := by rw [ha]; exact (putSel_off rfl).trans rfl
          have e18 : a.tmps[18]? = some (.int .i64 t153) := by rw [ha]; exact (putSel_off rfl).trans rfl
          replace ha := Aside0.mk ha
          have HK := Aside0.mk Q_HK
          have HB := Aside0.mk Q_HB
          refine value_ (w1 := w') (v := .string (t149.extract 0 (t153 : Int).toNat)) (by rfl) rfl ?_ ?_
          ·go_simp
           (try simp only [i64_w])
           try rfl
          refine hK.out _ _ ⟨v156, adz_v156, m6_, (by rw [ha.out]; exact putSel_upk 0 hb_ rfl rfl rfl), Q_HI0, Q_HK, Q_HB, Q_HO157, Q_HA_HO157, Q_HI0_e5, Q_X6_⟩
         refine steps_cons ?_ ?_
         ·rintro b a w' ⟨v156, adz_v156, m6_, ha, Q_HI0, Q_HK, Q_HB, Q_HO157, Q_HA_HO157, Q_HI0_e5, Q_X6_⟩ hb_ hon hoff
          refine ⟨_, rfl, fun K hK => ?_⟩
          replace ha := Aside0.mk ha
          have HK := Aside0.mk Q_HK
          have HB := Aside0.mk Q_HB
          refine Kd.R_lit_step Kd.string _ 9 ?hg (N := 20) ?hd (xs := ([(⟨#[]⟩ : ByteArray), (⟨#[98]⟩ : ByteArray), (⟨#[40]⟩ : ByteArray), (⟨#[41]⟩ : ByteArray), (⟨#[43]⟩ : ByteArray)] : List ByteArray)) (inner := [.string (⟨#[]⟩ : ByteArray), .string (⟨#[98]⟩ : ByteArray), .string (⟨#[40]⟩ : ByteArray), .string (⟨#[41]⟩ : ByteArray), .string (⟨#[43]⟩ : ByteArray)]) (ok := fun _ => True) (okp := fun _ => True) ?hr ?hp (fun _ hk => hk) trivial (Below.refl _ _) (Nat.le_refl _) (by simp) ?_; (case hd => rfl); (case hg => rfl); (case hr => first | (go_simp; done) | (go_simp; rfl)); (case hp => exact (Reps.one (show Kd.M Kd.string _ _ _ (⟨#[]⟩ : ByteArray) [.string (⟨#[]⟩ : ByteArray)] from rfl) (Reps.one (show Kd.M Kd.string _ _ _ (⟨#[98]⟩ : ByteArray) [.string (⟨#[98]⟩ : ByteArray)] from rfl) (Reps.one (show Kd.M Kd.string _ _ _ (⟨#[40]⟩ : ByteArray) [.string (⟨#[40]⟩ : ByteArray)] from rfl) (Reps.one (show Kd.M Kd.string _ _ _ (⟨#[41]⟩ : ByteArray) [.string (⟨#[41]⟩ : ByteArray)] from rfl) (Reps.one (show Kd.M Kd.string _ _ _ (⟨#[43]⟩ : ByteArray) [.string (⟨#[43]⟩ : ByteArray)] from rfl) (Reps.none _ _)))))))
          intro v156 w21 ho22 hb hg_ hnew_
          clear hg_ hnew_
          (first | rw [← Ny155.out] at ho22 | (simp only [Int.reduceToNat] at ho22; rw [← Ny155.out] at ho22))
          have n0_ := Aside0.mk (Kd.R_lower ho22 (keep_size (w := w) (g := g) (row := none) (by repeat (first | (with_reducible first | exact HK.out | apply KeepBut.set_ | apply keep_drewN | apply keep_drew | apply keep_alloc) | exact HK.out))))
          have n2_ := Aside0.mk (KeepBut.trans (by repeat (first | (with_reducible first | exact HK.out | apply KeepBut.set_ | apply keep_drewN | apply keep_drew | apply keep_alloc) | exact HK.out)) (KeepBut.of_below hb g none) (.inl rfl))
          have n3_ := Aside0.mk (below_step (by repeat (first | (with_reducible first | exact HB.out | apply below_alloc | apply pw_below_drewN | apply below_drew1) | exact HB.out)) hb)
          have z_HI0 := fun (h0_ : b 5 = false) => (show IsS57 w0 w21 g s0_0 t154 from by first | exact (IsS57.below (by repeat (first | (with_reducible first | exact (Q_HI0 h0_) | apply IsS57.alloc | apply IsS57.drewN | apply IsS57.drew | apply IsS57.set_1) | exact (Q_HI0 h0_))) hb))
          have z_HI0_e5 := fun (h0_ : b 5 = true) => (show IsS57 w0 w21 g s0_0 t159 from by first | exact (IsS57.below (by repeat (first | (with_reducible first | exact (Q_HI0_e5 h0_) | apply IsS57.alloc | apply IsS57.drewN | apply IsS57.drew | apply IsS57.set_1) | exact (Q_HI0_e5 h0_))) hb))
          clear HK
          clear HB
          have HO157 := n0_
          have HK := n2_
          have HB := n3_
          clear n0_ n2_ n3_
          clear hb ho22
          obtain ⟨Ao23, co23, eo23⟩ := Kd.R_slice HO157.out
          subst eo23
          obtain ⟨ado23, fo23, _⟩ := Kd.at_string (Kd.R_reads' HO157.out).2.2 0 (by decide) (by rw [Ny155.out]; simp)
          cases fo23
          refine hK.out _ _ ⟨.slice (some ado23) y155.length co23, ado23, m6_, (by rw [ha.out]; exact putSel_upk 1 hb_ rfl rfl rfl), z_HI0, (by repeat (first | (with_reducible first | exact HK.out | apply KeepBut.set_ | apply keep_drewN | apply keep_drew | apply keep_alloc) | exact HK.out)), (by repeat (first | (with_reducible first | exact HB.out | apply below_alloc | apply pw_below_drewN | apply below_drew1) | exact HB.out)), fun _ => (by (with_reducible repeat (first | apply Kd.R_alloc | apply Kd.R_drewN | apply Kd.R_drew)); exact HO157.out), fun _ => ⟨_, rfl⟩, z_HI0_e5, fun h0_ => absurd ((hoff 6 (by kernel_rfl)).symm.trans h0_) (by decide)⟩
         refine steps_cons ?_ ?_
         ·rintro b a w' ⟨v156, adz_v156, m6_, ha, Q_HI0, Q_HK, Q_HB, Q_HO157, Q_HA_HO157, Q_HI0_e5, Q_X6_⟩ hb_ hon hoff
          refine ⟨_, rfl, fun K hK => ?_⟩
          have e21 : a.tmps[21]? = some (.pointer (some ⟨g, 0, none⟩)) := by rw [ha]; exact (putSel_off rfl).trans rfl
          replace ha := Aside0.mk ha
          have HI0 := Aside0.mk (Q_HI0 hb_)
          have HK := Aside0.mk Q_HK
          have HB := Aside0.mk Q_HB
          refine goes_ Try.func40 (by kernel_rfl) rfl #[.pointer (some ⟨g, 0, none⟩), .int .i64 5] (by rfl) rfl rfl (by first | (simp only [List.map_toArray, List.map_cons, List.map_nil, Act.eval, Array.getD_eq_getD_getElem?, Option.getD_some, e21]; done) | (simp only [List.map_toArray, List.map_cons, List.map_nil, Act.eval, Array.getD_eq_getD_getElem?, Option.getD_some, e21]; rfl)) ?_
          with_reducible refine (spec_l6Rd_pick.calls k g s0_0 t154 5 t158 t159 w0 _ ?side1 ?side2 A9.out).mono ?_
          (case side1 => repeat (first | (with_reducible first | exact HI0.out | apply IsS57.alloc | apply IsS57.drewN | apply IsS57.drew | apply IsS57.set_1) | exact HI0.out))
          (case side2 => repeat (first | (with_reducible first | exact HB.out | apply below_alloc | apply pw_below_drewN | apply below_drew1 | refine below_set ?_ (IsS57.ge HI0.out)) | exact HB.out))
          rintro e w21 ⟨rfl, hi, hb, hk⟩
          refine ⟨_, rfl, ?_⟩
          have n0_ := Aside0.mk (KeepBut.trans (by repeat (first | (with_reducible first | exact HK.out | apply KeepBut.set_ | apply keep_drewN | apply keep_drew | apply keep_alloc) | exact HK.out)) hk (.inl rfl))
          have n1_ := Aside0.mk (hb)
          have n2_ := Aside0.mk (hi)
          have z_HO157 := fun (h0_ : b 3 = true) => (show Kd.R Kd.string 9 w21 w.heap.size (fun _ => True) v156 y155 from by first | exact (Kd.R_mono (Kd.R_keep (IsS57.apart (show IsS57 w0 _ g s0_0 t154 from by repeat (first | (with_reducible first | exact HI0.out | apply IsS57.alloc | apply IsS57.drewN | apply IsS57.drew | apply IsS57.set_1) | exact HI0.out)) (by (with_reducible repeat (first | apply Kd.R_alloc | apply Kd.R_drewN | apply Kd.R_drew)); exact (Q_HO157 h0_)) (by decide)) hk (fun _ h => h.2)) (fun _ h => h.1)) | exact Kd.R_mono (Kd.R_mono (Kd.R_keep (IsS57.apart (show IsS57 w0 _ g s0_0 t154 from by repeat (first | (with_reducible first | exact HI0.out | apply IsS57.alloc | apply IsS57.drewN | apply IsS57.drew | apply IsS57.set_1) | exact HI0.out)) (by (with_reducible repeat (first | apply Kd.R_alloc | apply Kd.R_drewN | apply Kd.R_drew)); exact (Q_HO157 h0_)) (by decide)) hk (fun _ h => h.2)) (fun _ h => h.1)) (fun _ h_ => by first | trivial | exact h_ | exact h_.1))
          clear HK
          clear HB
          clear HI0
          have HK := n0_
          have HB := n1_
          have HI0 := n2_
          clear n0_ n1_ n2_
          (try clear hb)
          (try clear hb2)
          (try clear hk)
          (try clear hi)
          refine hK.out _ _ ⟨v156, adz_v156, m6_, (by rw [ha.out]; exact putSel_upk 2 hb_ rfl rfl rfl), fun h0_ => absurd ((up_self b 5).symm.trans h0_) (by decide), (by repeat (first | (with_reducible first | exact HK.out | apply KeepBut.set_ | apply keep_drewN | apply keep_drew | apply keep_alloc) | exact HK.out)), (by repeat (first | (with_reducible first | exact HB.out | apply below_alloc | apply pw_below_drewN | apply below_drew1 | refine below_set ?_ (IsS57.ge HI0.out)) | exact HB.out)), z_HO157, Q_HA_HO157, fun _ => (by repeat (first | (with_reducible first | exact HI0.out | apply IsS57.alloc | apply IsS57.drewN | apply IsS57.drew | apply IsS57.set_1) | exact HI0.out)), fun h0_ => absurd ((hoff 6 (by kernel_rfl)).symm.trans h0_) (by decide)⟩
         refine steps_cons ?_ ?_
         ·rintro b a w' ⟨v156, adz_v156, m6_, ha, Q_HI0, Q_HK, Q_HB, Q_HO157, Q_HA_HO157, Q_HI0_e5, Q_X6_⟩ hb_ hon hoff
          refine ⟨_, rfl, fun K hK => ?_⟩
          have e20 : a.tmps[20]? = some (v156) := by rw [ha]; exact putSel_on (e := (3, 20, v156)) 1 rfl rfl (hon 3 (by kernel_rfl)) rfl
          have e22 : a.tmps[22]? = some (.int .i64 t158) := by rw [ha]; exact putSel_on (e := (5, 22, .int .i64 t158)) 2 rfl rfl (hon 5 (by kernel_rfl)) rfl
          replace ha := Aside0.mk ha
          have HK := Aside0.mk Q_HK
          have HB := Aside0.mk Q_HB
          have HO157 := Aside0.mk (Q_HO157 (hon 3 (by kernel_rfl)))
          have HA_HO157 := Aside0.mk (Q_HA_HO157 (hon 3 (by kernel_rfl)))
          have HI0 := Aside0.mk (Q_HI0_e5 (hon 5 (by kernel_rfl)))
          obtain ⟨c_, hv_⟩ := HA_HO157.out
          rw [hv_] at e20
          refine value_ (w1 := w') (v := .pointer (some (adz_v156.add (t158).toNat))) (by rfl) rfl ?_ ?_
          ·go_simp
           (try simp only [i64_w])
           try rfl
          refine hK.out _ _ ⟨v156, adz_v156, (.pointer (some (adz_v156.add (t158).toNat))), (by rw [ha.out]; exact putSel_upk 3 hb_ rfl rfl rfl), fun h0_ => absurd ((hon 5 (by kernel_rfl)).symm.trans h0_) (by decide), Q_HK, Q_HB, Q_HO157, Q_HA_HO157, Q_HI0_e5, fun _ => rfl⟩
         refine steps_cons ?_ ?_
         ·rintro b a w' ⟨v156, adz_v156, m6_, ha, Q_HI0, Q_HK, Q_HB, Q_HO157, Q_HA_HO157, Q_HI0_e5, Q_X6_⟩ hb_ hon hoff
          refine ⟨_, rfl, fun K hK => ?_⟩
          have e23 : a.tmps[23]? = some (m6_) := by rw [ha]; exact putSel_on (e := (6, 23, m6_)) 3 rfl rfl (hon 6 (by kernel_rfl)) rfl
          rw [Q_X6_ (hon 6 (by kernel_rfl))] at e23
          replace ha := Aside0.mk ha
          have HK := Aside0.mk Q_HK
          have HB := Aside0.mk Q_HB
          have HO157 := Aside0.mk (Q_HO157 (hon 3 (by kernel_rfl)))
          have HA_HO157 := Aside0.mk (Q_HA_HO157 (hon 3 (by kernel_rfl)))
          have HI0 := Aside0.mk (Q_HI0_e5 (hon 5 (by kernel_rfl)))
          obtain ⟨c_, hv_⟩ := HA_HO157.out
          have hF_ := HO157.out
          rw [hv_] at hF_
          obtain ⟨ad_, ea_, hx_⟩ := Kd.at_string (Kd.R_reads' hF_).2.2 t158 (of_eq_true pi160) (of_eq_true qi160)
          cases ea_
          refine value_ (w1 := w') (v := .string (rdOf ByteArray.empty y155 t158)) (by rfl) rfl ?_ ?_
          ·go_simp
           (try simp only [i64_w])
           try rfl
          refine hK.out _ _ ⟨v156, adz_v156, m6_, (by rw [ha.out]; exact putSel_upk 4 hb_ rfl rfl rfl), fun h0_ => absurd ((hon 5 (by kernel_rfl)).symm.trans h0_) (by decide), Q_HK, Q_HB, Q_HO157, Q_HA_HO157, Q_HI0_e5, Q_X6_⟩
         refine steps_cons ?_ ?_
         ·rintro b a w' ⟨v156, adz_v156, m6_, ha, Q_HI0, Q_HK, Q_HB, Q_HO157, Q_HA_HO157, Q_HI0_e5, Q_X6_⟩ hb_ hon hoff
          refine ⟨_, rfl, fun K hK => ?_⟩
          have e19 : a.tmps[19]? = some (.string (t149.extract 0 (t153 : Int).toNat)) := by rw [ha]; exact putSel_on (e := (2, 19, .string (t149.extract 0 (t153 : Int).toNat))) 0 rfl rfl (hon 2 (by kernel_rfl)) rfl
          have e24 : a.tmps[24]? = some (.string (rdOf ByteArray.empty y155 t158)) := by rw [ha]; exact putSel_on (e := (7, 24, .string (rdOf ByteArray.empty y155 t158))) 4 rfl rfl (hon 7 (by kernel_rfl)) rfl
          replace ha := Aside0.mk ha
          have HK := Aside0.mk Q_HK
          have HB := Aside0.mk Q_HB
          have HO157 := Aside0.mk (Q_HO157 (hon 3 (by kernel_rfl)))
          have HA_HO157 := Aside0.mk (Q_HA_HO157 (hon 3 (by kernel_rfl)))
          have HI0 := Aside0.mk (Q_HI0_e5 (hon 5 (by kernel_rfl)))
          refine value_ (w1 := w') (v := .string ((t149.extract 0 (t153 : Int).toNat) ++ (rdOf ByteArray.empty y155 t158))) (by rfl) rfl ?_ ?_
          ·go_simp
           (try simp only [i64_w])
           try rfl
           all_goals (simp only [ByteArray.size_extract, ByteArray.size_append, eq_iff_iff, iff_true] at *; omega)
          refine hK.out _ _ ⟨v156, adz_v156, m6_, (by rw [ha.out]; exact putSel_upk 5 hb_ rfl rfl rfl), fun h0_ => absurd ((hon 5 (by kernel_rfl)).symm.trans h0_) (by decide), Q_HK, Q_HB, Q_HO157, Q_HA_HO157, Q_HI0_e5, Q_X6_⟩
         refine steps_cons ?_ ?_
         ·rintro b a w' ⟨v156, adz_v156, m6_, ha, Q_HI0, Q_HK, Q_HB, Q_HO157, Q_HA_HO157, Q_HI0_e5, Q_X6_⟩ hb_ hon hoff
          refine ⟨_, rfl, fun K hK => ?_⟩
          have e26 : a.tmps[26]? = some (.string t149) := by rw [ha]; exact (putSel_off rfl).trans rfl
          have e27 : a.tmps[27]? = some (.int .i64 t153) := by rw [ha]; exact (putSel_off rfl).trans rfl
          replace ha := Aside0.mk ha
          have HK := Aside0.mk Q_HK
          have HB := Aside0.mk Q_HB
          refine value_ (w1 := w') (v := .string (t149.extract (t153 : Int).toNat t149.size)) (by rfl) rfl ?_ ?_
          ·go_simp
           (try simp only [i64_w])
           try rfl
          refine hK.out _ _ ⟨v156, adz_v156, m6_, (by rw [ha.out]; exact putSel_upk 6 hb_ rfl rfl rfl), Q_HI0, Q_HK, Q_HB, Q_HO157, Q_HA_HO157, Q_HI0_e5, Q_X6_⟩
         refine steps_cons ?_ ?_
         ·rintro b a w' ⟨v156, adz_v156, m6_, ha, Q_HI0, Q_HK, Q_HB, Q_HO157, Q_HA_HO157, Q_HI0_e5, Q_X6_⟩ hb_ hon hoff
          refine ⟨_, rfl, fun K hK => ?_⟩
          have e25 : a.tmps[25]? = some (.string ((t149.extract 0 (t153 : Int).toNat) ++ (rdOf ByteArray.empty y155 t158))) := by rw [ha]; exact putSel_on (e := (8, 25, .string ((t149.extract 0 (t153 : Int).toNat) ++ (rdOf ByteArray.empty y155 t158)))) 5 rfl rfl (hon 8 (by kernel_rfl)) rfl
          have e28 : a.tmps[28]? = some (.string (t149.extract (t153 : Int).toNat t149.size)) := by rw [ha]; exact putSel_on (e := (11, 28, .string (t149.extract (t153 : Int).toNat t149.size))) 6 rfl rfl (hon 11 (by kernel_rfl)) rfl
          replace ha := Aside0.mk ha
          have HK := Aside0.mk Q_HK
          have HB := Aside0.mk Q_HB
          have HO157 := Aside0.mk (Q_HO157 (hon 3 (by kernel_rfl)))
          have HA_HO157 := Aside0.mk (Q_HA_HO157 (hon 3 (by kernel_rfl)))
          have HI0 := Aside0.mk (Q_HI0_e5 (hon 5 (by kernel_rfl)))
          refine value_ (w1 := w') (v := .string (((t149.extract 0 (t153 : Int).toNat) ++ (rdOf ByteArray.empty y155 t158)) ++ (t149.extract (t153 : Int).toNat t149.size))) (by rfl) rfl ?_ ?_
          ·go_simp
           (try simp only [i64_w])
           try rfl
           all_goals (simp only [ByteArray.size_extract, ByteArray.size_append, eq_iff_iff, iff_true] at *; omega)
          refine hK.out _ _ ⟨v156, adz_v156, m6_, (by rw [ha.out]; exact putSel_upk 7 hb_ rfl rfl rfl), fun h0_ => absurd ((hon 5 (by kernel_rfl)).symm.trans h0_) (by decide), Q_HK, Q_HB, Q_HO157, Q_HA_HO157, Q_HI0_e5, Q_X6_⟩
         refine steps_cons ?_ ?_
         ·rintro b a w' ⟨v156, adz_v156, m6_, ha, Q_HI0, Q_HK, Q_HB, Q_HO157, Q_HA_HO157, Q_HI0_e5, Q_X6_⟩ hb_ hon hoff
          refine ⟨_, rfl, fun K hK => ?_⟩
          have e29 : a.tmps[29]? = some (.string (((t149.extract 0 (t153 : Int).toNat) ++ (rdOf ByteArray.empty y155 t158)) ++ (t149.extract (t153 : Int).toNat t149.size))) := by rw [ha]; exact putSel_on (e := (12, 29, .string (((t149.extract 0 (t153 : Int).toNat) ++ (rdOf ByteArray.empty y155 t158)) ++ (t149.extract (t153 : Int).toNat t149.size)))) 7 rfl rfl (hon 12 (by kernel_rfl)) rfl
          replace ha := Aside0.mk ha
          have HK := Aside0.mk Q_HK
          have HB := Aside0.mk Q_HB
          have HO157 := Aside0.mk (Q_HO157 (hon 3 (by kernel_rfl)))
          have HA_HO157 := Aside0.mk (Q_HA_HO157 (hon 3 (by kernel_rfl)))
          have HI0 := Aside0.mk (Q_HI0_e5 (hon 5 (by kernel_rfl)))
          refine value_ (w1 := w') (v := .string (((t149.extract 0 (t153 : Int).toNat) ++ (rdOf ByteArray.empty y155 t158)) ++ (t149.extract (t153 : Int).toNat t149.size))) (by rfl) rfl ?_ ?_
          ·go_simp
           (try simp only [i64_w])
           try rfl
           all_goals (simp only [ByteArray.size_extract, ByteArray.size_append, eq_iff_iff, iff_true] at *; omega)
          refine hK.out _ _ ⟨v156, adz_v156, m6_, (by rw [ha.out]; exact putSel_upk 8 hb_ rfl rfl rfl), fun h0_ => absurd ((hon 5 (by kernel_rfl)).symm.trans h0_) (by decide), Q_HK, Q_HB, Q_HO157, Q_HA_HO157, Q_HI0_e5, Q_X6_⟩
         exact steps_nil
        rintro b a w25 hall ⟨v156, adz_v156, m6_, ha, Q_HI0, Q_HK, Q_HB, Q_HO157, Q_HA_HO157, Q_HI0_e5, Q_X6_⟩
        clear HB HI0 HK
        have hb2_ := hall 2 (by kernel_rfl)
        have hb3_ := hall 3 (by kernel_rfl)
        have hb5_ := hall 5 (by kernel_rfl)
        have hb6_ := hall 6 (by kernel_rfl)
        have hb7_ := hall 7 (by kernel_rfl)
        have hb8_ := hall 8 (by kernel_rfl)
        have hb11_ := hall 11 (by kernel_rfl)
        have hb12_ := hall 12 (by kernel_rfl)
        have hb13_ := hall 13 (by kernel_rfl)
        subst ha
        obtain rfl := Q_X6_ hb6_
        simp only [putSel, hb2_, hb3_, hb5_, hb6_, hb7_, hb8_, hb11_, hb12_, hb13_, if_true, Act.put, List.setIfInBounds_toArray, List.set_cons_zero, List.set_cons_succ]
        clear Q_HI0
        have HK := Aside0.mk Q_HK
        clear Q_HK
        have HB := Aside0.mk Q_HB
        clear Q_HB
        have HO157 := Aside0.mk (Q_HO157 hb3_)
        clear Q_HO157
        have HA_HO157 := Aside0.mk (Q_HA_HO157 hb3_)
        clear Q_HA_HO157
        have HI0 := Aside0.mk (Q_HI0_e5 hb5_)
        clear Q_HI0_e5
        clear hall hb2_ hb3_ hb5_ hb6_ hb7_ hb8_ hb11_ hb12_ hb13_
        obtain ⟨co26, eo26⟩ := HA_HO157.out
        clear HA_HO157
        subst eo26
        try go_wp2
        go_ret
        exact ⟨by first | rfl | (simp [errW_none, errW_some] <;> rfl) | (simp [*, errW_none, errW_some] <;> rfl), by repeat (first | (with_reducible first | exact HI0.out | apply IsS57.alloc | apply IsS57.drewN | apply IsS57.drew | apply IsS57.set_1) | exact HI0.out), by repeat (first | (with_reducible first | exact HB.out | apply below_alloc | apply pw_below_drewN | apply below_drew1 | refine below_set ?_ (IsS57.ge HI0.out)) | exact HB.out), by repeat (first | (with_reducible first | exact HK.out | apply KeepBut.set_ | apply keep_drewN | apply keep_drew | apply keep_alloc) | exact HK.out)⟩
       ·rw [if_neg c15] at H
        exact absurd H (by simp)
      ·rw [if_neg c12] at H
       exact absurd H (by simp)
     ·rw [if_neg c11] at H
      exact absurd H (by simp)
    ·rw [if_neg c10] at H
     exact absurd H (by simp)
   ·rw [if_neg c8] at H
    exact absurd H (by simp)
  ·rw [if_neg c7] at H
   exact absurd H (by simp)
 ·rw [if_neg c5] at H
  have c5b0 : (t151 == 0) = false := beq_eq_false_iff_ne.mpr c5
  have c5b1 : (t151 != 0) = true := bne_iff_ne.mpr c5
  simp only [Option.some.injEq, Prod.mk.injEq] at H
  obtain ⟨rfl, rfl⟩ := H
  go_enter Try.func26, Try.ntmps26
  go_wp2_with (first | ((with_reducible refine gate_callee (f := 40) rfl ?_); refine goesL_ (some 7) rfl rfl Try.func40 (by kernel_rfl) rfl #[.pointer (some ⟨g, 0, none⟩), .int .i64 4] rfl (by (try simp only [List.map_toArray, List.map_cons, List.map_nil]); first | done | rfl | (simp only [List.length_drop, List.length_take]; rfl)) ?_; (with_reducible refine (spec_l6Rd_pick.calls k g s0_0 s0_1 4 t147 t148 w0 _ ?side1 ?side2 A2.out).mono ?_); (case side1 => repeat (first | (with_reducible first | exact HI0.out | apply IsS57.alloc | apply IsS57.drewN | apply IsS57.drew | apply IsS57.set_1) | exact HI0.out)); (case side2 => repeat (first | (with_reducible first | exact HB.out | apply below_alloc | apply pw_below_drewN | apply below_drew1 | refine below_set ?_ (IsS57.ge HI0.out)) | exact HB.out)); rintro e w27 ⟨rfl, hi, hb, hk⟩; refine ⟨_, rfl, ?_⟩; have n0_ := Aside0.mk (KeepBut.trans (by repeat (first | (with_reducible first | exact HK.out | apply KeepBut.set_ | apply keep_drewN | apply keep_drew | apply keep_alloc) | exact HK.out)) hk (.inl rfl)); have n1_ := Aside0.mk (hb); have n2_ := Aside0.mk (hi); clear HK; clear HB; clear HI0; have HK := n0_; have HB := n1_; have HI0 := n2_; clear n0_ n1_ n2_; (try clear hb); (try clear hb2); (try clear hk); (try clear hi)) | ((with_reducible refine gate_callee (f := 39) rfl ?_); refine goesL_ (some 8) rfl rfl Try.func39 (by kernel_rfl) rfl #[.pointer (some ⟨g, 0, none⟩), .int .i64 t147] rfl (by (try simp only [List.map_toArray, List.map_cons, List.map_nil]); first | done | rfl | (simp only [List.length_drop, List.length_take]; rfl)) ?_; (with_reducible refine (spec_l91Term.calls k g s0_0 t148 t147 t149 t150 w0 _ ?side1 ?side2 A3.out).mono ?_); (case side1 => repeat (first | (with_reducible first | exact HI0.out | apply IsS57.alloc | apply IsS57.drewN | apply IsS57.drew | apply IsS57.set_1) | exact HI0.out)); (case side2 => repeat (first | (with_reducible first | exact HB.out | apply below_alloc | apply pw_below_drewN | apply below_drew1 | refine below_set ?_ (IsS57.ge HI0.out)) | exact HB.out)); rintro e w28 ⟨rfl, hi, hb, hk⟩; refine ⟨_, rfl, ?_⟩; have n0_ := Aside0.mk (KeepBut.trans (by repeat (first | (with_reducible first | exact HK.out | apply KeepBut.set_ | apply keep_drewN | apply keep_drew | apply keep_alloc) | exact HK.out)) hk (.inl rfl)); have n1_ := Aside0.mk (hb); have n2_ := Aside0.mk (hi); clear HK; clear HB; clear HI0; have HK := n0_; have HB := n1_; have HI0 := n2_; clear n0_ n1_ n2_; (try clear hb); (try clear hb2); (try clear hk); (try clear hi)) | ((with_reducible refine gate_callee (f := 40) rfl ?_); refine goesL_ (some 10) rfl rfl Try.func40 (by kernel_rfl) rfl #[.pointer (some ⟨g, 0, none⟩), .int .i64 16] rfl (by (try simp only [List.map_toArray, List.map_cons, List.map_nil]); first | done | rfl | (simp only [List.length_drop, List.length_take]; rfl)) ?_; (with_reducible refine (spec_l6Rd_pick.calls k g s0_0 t150 16 t151 t152 w0 _ ?side1 ?side2 A4.out).mono ?_); (case side1 => repeat (first | (with_reducible first | exact HI0.out | apply IsS57.alloc | apply IsS57.drewN | apply IsS57.drew | apply IsS57.set_1) | exact HI0.out)); (case side2 => repeat (first | (with_reducible first | exact HB.out | apply below_alloc | apply pw_below_drewN | apply below_drew1 | refine below_set ?_ (IsS57.ge HI0.out)) | exact HB.out)); rintro e w29 ⟨rfl, hi, hb, hk⟩; refine ⟨_, rfl, ?_⟩; have n0_ := Aside0.mk (KeepBut.trans (by repeat (first | (with_reducible first | exact HK.out | apply KeepBut.set_ | apply keep_drewN | apply keep_drew | apply keep_alloc) | exact HK.out)) hk (.inl rfl)); have n1_ := Aside0.mk (hb); have n2_ := Aside0.mk (hi); clear HK; clear HB; clear HI0; have HK := n0_; have HB := n1_; have HI0 := n2_; clear n0_ n1_ n2_; (try clear hb); (try clear hb2); (try clear hk); (try clear hi)))
  go_ret
  exact ⟨by first | rfl | (simp [errW_none, errW_some] <;> rfl) | (simp [*, errW_none, errW_some] <;> rfl), by repeat (first | (with_reducible first | exact HI0.out | apply IsS57.alloc | apply IsS57.drewN | apply IsS57.drew | apply IsS57.set_1) | exact HI0.out), by repeat (first | (with_reducible first | exact HB.out | apply below_alloc | apply pw_below_drewN | apply below_drew1 | refine below_set ?_ (IsS57.ge HI0.out)) | exact HB.out), by repeat (first | (with_reducible first | exact HK.out | apply KeepBut.set_ | apply keep_drewN | apply keep_drew | apply keep_alloc) | exact HK.out)⟩

end Go.Proofs.Ytkapeoigpdppeaa.G
