-- Made by gprint.py (the kit's print with contracts of this session's own among its functions).
import Derived.Test.YtkapeoigpdppeaaG0
import Derived.Test.YtkapeoigpdppeaaG5
namespace Go.Proofs.Ytkapeoigpdppeaa.G
open Go.RowKit Go.Proofs.YtkapeoigpdppeaaW.PrintWords Go.Proofs.YtkapeoigpdppeaaW.PrintLast Go.Proofs.YtkapeoigpdppeaaW.PrintMore
attribute [local go_sem] max2_int min2_int max_two min_two max_three min_three max_four min_four   -- for this text's walks alone
set_option linter.unusedVariables false
set_option linter.unusedSimpArgs false

/-! ### spec_l91Term: function 39 -/
mutual
def spec_l91Term.j0 : Nat → Int → Bool → List Int → Int → Option (ByteArray × Int)
 | 0, _, _, _, _ => none
 | k + 1, x1, x11, x1000, x1001 => if x11 = true then ((some (([(⟨#[48]⟩ : ByteArray), (⟨#[49]⟩ : ByteArray), (⟨#[97]⟩ : ByteArray), (⟨#[97]⟩ : ByteArray)] : List ByteArray) : List ByteArray)).bind fun y119 => ((spec_l6Rd_pick.f k x1000 x1001 4).bind fun bt122 => (if 0 ≤ bt122.1 then (if bt122.1 < (y119.length : Int) then (some (rdOf ByteArray.empty y119 bt122.1, bt122.2)) else (none)) else (none)))) else ((spec_l6Rd_pick.f k x1000 x1001 6).bind fun bt125 => (if bt125.1 = 0 then ((spec_l91Term.f k x1000 bt125.2 (wrap64 (x1 - 1))).bind fun bt127 => (if 1 + bt127.1.size ≤ 9223372036854775807 then (some ((⟨#[42]⟩ : ByteArray) ++ bt127.1, bt127.2)) else (none))) else (if bt125.1 = 1 then ((some (([(⟨#[50]⟩ : ByteArray), (⟨#[51]⟩ : ByteArray), (⟨#[52]⟩ : ByteArray), (⟨#[53]⟩ : ByteArray)] : List ByteArray) : List ByteArray)).bind fun y129 => ((spec_l6Rd_pick.f k x1000 bt125.2 4).bind fun bt132 => (if 0 ≤ bt132.1 then (if bt132.1 < (y129.length : Int) then ((spec_l91Term.f k x1000 bt132.2 (wrap64 (x1 - 1))).bind fun bt135 => (if (rdOf ByteArray.empty y129 bt132.1).size + bt135.1.size ≤ 9223372036854775807 then (some ((rdOf ByteArray.empty y129 bt132.1) ++ bt135.1, bt135.2)) else (none))) else (none)) else (none)))) else ((spec_l91Term.f k x1000 bt125.2 (wrap64 (x1 - 1))).bind fun bt137 => (if 1 + bt137.1.size ≤ 9223372036854775807 then ((some (([(⟨#[43]⟩ : ByteArray), (⟨#[43]⟩ : ByteArray), (⟨#[46]⟩ : ByteArray), (⟨#[38]⟩ : ByteArray)] : List ByteArray) : List ByteArray)).bind fun y139 => ((spec_l6Rd_pick.f k x1000 bt137.2 4).bind fun bt142 => (if 0 ≤ bt142.1 then (if bt142.1 < (y139.length : Int) then (if ((⟨#[40]⟩ : ByteArray) ++ bt137.1).size + (rdOf ByteArray.empty y139 bt142.1).size ≤ 9223372036854775807 then ((spec_l91Term.f k x1000 bt142.2 (wrap64 (x1 - 1))).bind fun bt145 => (if (((⟨#[40]⟩ : ByteArray) ++ bt137.1) ++ (rdOf ByteArray.empty y139 bt142.1)).size + bt145.1.size ≤ 9223372036854775807 then (if ((((⟨#[40]⟩ : ByteArray) ++ bt137.1) ++ (rdOf ByteArray.empty y139 bt142.1)) ++ bt145.1).size + 1 ≤ 9223372036854775807 then (some (((((⟨#[40]⟩ : ByteArray) ++ bt137.1) ++ (rdOf ByteArray.empty y139 bt142.1)) ++ bt145.1) ++ (⟨#[41]⟩ : ByteArray), bt145.2)) else (none)) else (none))) else (none)) else (none)) else (none)))) else (none))))))
def spec_l91Term.f : Nat → List Int → Int → Int → Option (ByteArray × Int)
 | 0, _, _, _ => none
 | k + 1, s0_0, s0_1, a1 => if a1 = 0 then (spec_l91Term.j0 k a1 true s0_0 s0_1) else ((spec_l6Rd_pick.f k s0_0 s0_1 5).bind fun bt117 => (spec_l91Term.j0 k a1 (bt117.1 == 0) s0_0 bt117.2))
end
theorem spec_l91Term.mono_l : ∀ k, (∀ y0 y1 y2, LeO (spec_l91Term.f k y0 y1 y2) (spec_l91Term.f (k + 1) y0 y1 y2)) ∧ (∀ y0 y1 y2 y3, LeO (spec_l91Term.j0 k y0 y1 y2 y3) (spec_l91Term.j0 (k + 1) y0 y1 y2 y3))
 | 0 => ⟨fun _ _ _ r h => by simp [spec_l91Term.f] at h, fun _ _ _ _ r h => by simp [spec_l91Term.j0] at h⟩
 | k + 1 => by
  obtain ⟨ih0, ih1⟩ := spec_l91Term.mono_l k
  refine ⟨?_, ?_⟩
  ·intro y0 y1 y2
   unfold spec_l91Term.f
   repeat' first
   | (with_reducible exact ih0 _ _ _)
   | (with_reducible exact ih1 _ _ _ _)
   | (with_reducible exact spec_l6Rd_pick.mono _ _ _ _)
   | (with_reducible exact LeO.refl _)
   | (with_reducible exact LeO.none _)
   | (with_reducible refine LeO.ite ?_ ?_)
   | (with_reducible refine LeO.bind ?_ (fun _ => ?_))
   | exact ih0 _ _ _
   | exact ih1 _ _ _ _
   | exact spec_l6Rd_pick.mono _ _ _ _
   | exact LeO.none _
   | refine LeO.ite ?_ ?_
   | refine LeO.bind ?_ (fun _ => ?_)
  ·intro y0 y1 y2 y3
   unfold spec_l91Term.j0
   repeat' first
   | (with_reducible exact ih0 _ _ _)
   | (with_reducible exact ih1 _ _ _ _)
   | (with_reducible exact spec_l6Rd_pick.mono _ _ _ _)
   | (with_reducible exact LeO.refl _)
   | (with_reducible exact LeO.none _)
   | (with_reducible refine LeO.ite ?_ ?_)
   | (with_reducible refine LeO.bind ?_ (fun _ => ?_))
   | exact ih0 _ _ _
   | exact ih1 _ _ _ _
   | exact spec_l6Rd_pick.mono _ _ _ _
   | exact LeO.none _
   | refine LeO.ite ?_ ?_
   | refine LeO.bind ?_ (fun _ => ?_)
theorem spec_l91Term.mono : ∀ a0 a1 a2 k, LeO (spec_l91Term.f k a0 a1 a2) (spec_l91Term.f (k + 1) a0 a1 a2) := by
 intro a0 a1 a2 k
 obtain ⟨ih0, ih1⟩ := spec_l91Term.mono_l k
 exact ih0 a0 a1 a2
def spec_l91Term.T7 : Bool × List (List Nat × List Nat) := (true, [([], []), ([], []), ([1], [1]), ([0, 2], [0, 2]), ([3], [3]), ([], []), ([], []), ([6], [6]), ([5, 7, 2], [5, 7]), ([4, 8], [4, 8]), ([9, 8, 0, 1, 2, 3, 4, 5, 6, 7, 8, 9], [9])])
def spec_l91Term.B7 : List Nat := [0, 0, 2, 7, 15, 0, 0, 64, 230, 511, 1023]
theorem spec_l91Term.tab7 : rtab .any (opsOf Try.f39 7) = spec_l91Term.T7 := by kernel_rfl
theorem spec_l91Term.bits7 : waitsOk spec_l91Term.T7.2 spec_l91Term.B7 = true := by kernel_rfl
def spec_l91Term.T8 : Bool × List (List Nat × List Nat) := (true, [([], []), ([], []), ([1], [1]), ([0, 2], [0, 2]), ([3], [3]), ([], []), ([], []), ([6, 3], [6]), ([5, 7], [5, 7]), ([8], [8]), ([4, 9], [4, 9]), ([], []), ([], []), ([12], [12]), ([11, 13, 7], [11, 13]), ([10, 14], [10, 14]), ([15], [15]), ([16, 14, 0, 1, 2, 3, 4, 5, 6, 7, 8, 9, 10, 11, 12, 13, 14, 15, 16], [16])])
def spec_l91Term.B8 : List Nat := [0, 0, 2, 7, 15, 0, 0, 79, 239, 495, 1023, 0, 0, 4096, 14543, 32767, 65535, 131071]
theorem spec_l91Term.tab8 : rtab .any (opsOf Try.f39 8) = spec_l91Term.T8 := by kernel_rfl
theorem spec_l91Term.bits8 : waitsOk spec_l91Term.T8.2 spec_l91Term.B8 = true := by kernel_rfl
set_option maxHeartbeats 8000000 in
set_option maxRecDepth 100000 in
theorem spec_l91Term.calls (k : Nat) : ∀ (g : Nat) (s0_0 : List Int) (s0_1 : Int) (a1 : Int) (r1 : ByteArray) (r2 : Int) (w0 w : World) (hI : IsS57 w0 w g s0_0 s0_1) (hB : Below w0.heap.size w0 w) (h : spec_l91Term.f k s0_0 s0_1 a1 = some (r1, r2)),
  Calls Try.prog 39 #[.pointer (some ⟨g, 0, none⟩), .int .i64 a1] w fun e w' => e = .returned (.string r1) ∧ IsS57 w0 w' g s0_0 r2 ∧ Below w0.heap.size w0 w' ∧ KeepBut w w' g none := by
 induction k using Nat.strongRecOn with
 | _ k ih =>
 intro g s0_0 s0_1 a1 r1 r2 w0 w hI hB h
 cases k with
 | zero => exact absurd h (by simp [spec_l91Term.f])
 | succ k =>
 simp only [spec_l91Term.f] at h
 have HI0 := Aside0.mk hI
 have HK := Aside0.mk (KeepBut.refl w g none)
 have HL := Aside0.mk hB.size
 clear hI
 have HW0 := Aside0.mk hB.size
 have HB := Aside0.mk hB
 clear hB
 have H : (if a1 = 0 then (spec_l91Term.j0 k a1 true s0_0 s0_1) else ((spec_l6Rd_pick.f k s0_0 s0_1 5).bind fun bt117 => (spec_l91Term.j0 k a1 (bt117.1 == 0) s0_0 bt117.2))) = some (r1, r2) := h
 clear h
 have HC3 := Aside0.mk H
 clear H
 go_enter Try.func39, Try.ntmps39
 go_upto_region 1 with (fail)
 go_cut [11] (fun v11 wc => ∃ (kq : Nat) (x11_2 : Bool) (x1001_2 : Int), v11 = .bool x11_2 ∧ Aside0 (spec_l91Term.j0 kq a1 x11_2 s0_0 x1001_2 = some (r1, r2)) ∧ Aside0 (kq ≤ k) ∧ Aside0 (IsS57 w0 wc g s0_0 x1001_2) ∧ Aside0 (KeepBut w wc g none) ∧ Aside0 (Below w0.heap.size w0 wc))
 case first =>
  have H := HC3.out
  clear HC3
  by_cases c4 : a1 = 0
  ·rw [if_pos c4] at H
   have c4b0 : (a1 == 0) = true := beq_iff_eq.mpr c4
   have c4b1 : (a1 != 0) = false := bne_eq_false_iff_eq.mpr c4
   clear c4
   (first | rw [c4b0] | (simp only [i64_w, i32_w]; rw [c4b0]) | skip)
   have H' := Aside0.mk H
   clear H
   go_wp2
   go_meet
   case rel => exact ⟨_, (true), (s0_1), (by first | rfl | (simp; done) | (simp [*]; done) | (simp only [IntKind.wrap_i64, wrap64]; done)), H', ⟨by first | omega | exact Nat.le_refl _⟩, ⟨by repeat (first | (with_reducible first | exact HI0.out | apply IsS57.alloc | apply IsS57.drewN | apply IsS57.drew | apply IsS57.set_1) | exact HI0.out)⟩, ⟨by repeat (first | (with_reducible first | exact HK.out | apply KeepBut.set_ | apply keep_drewN | apply keep_drew | apply keep_alloc) | exact HK.out)⟩, ⟨by repeat (first | (with_reducible first | exact HB.out | apply below_alloc | apply pw_below_drewN | apply below_drew1 | refine below_set ?_ (IsS57.ge HI0.out)) | exact HB.out)⟩⟩
  ·rw [if_neg c4] at H
   have c4b0 : (a1 == 0) = false := beq_eq_false_iff_ne.mpr c4
   have c4b1 : (a1 != 0) = true := bne_iff_ne.mpr c4
   (first | rw [c4b0] | (simp only [i64_w, i32_w]; rw [c4b0]) | skip)
   replace H := Option.bind_eq_some_iff.mp H
   obtain ⟨⟨t117, t118⟩, A50, H⟩ := H
   replace H : (spec_l91Term.j0 k a1 (t117 == 0) s0_0 t118) = some (r1, r2) := H
   have A5 := Aside0.mk A50
   clear A50
   have H' := Aside0.mk H
   clear H
   go_wp2_with (first | (go_at_call 40; (with_reducible refine (spec_l6Rd_pick.calls k g s0_0 s0_1 5 t117 t118 w0 _ ?side1 ?side2 A5.out).mono ?_); (case side1 => repeat (first | (with_reducible first | exact HI0.out | apply IsS57.alloc | apply IsS57.drewN | apply IsS57.drew | apply IsS57.set_1) | exact HI0.out)); (case side2 => repeat (first | (with_reducible first | exact HB.out | apply below_alloc | apply pw_below_drewN | apply below_drew1 | refine below_set ?_ (IsS57.ge HI0.out)) | exact HB.out)); rintro e w6 ⟨rfl, hi, hb, hk⟩; have n0_ := Aside0.mk (KeepBut.trans (by repeat (first | (with_reducible first | exact HK.out | apply KeepBut.set_ | apply keep_drewN | apply keep_drew | apply keep_alloc) | exact HK.out)) hk (.inl rfl)); have n1_ := Aside0.mk (hb); have n2_ := Aside0.mk (hi); clear HK; clear HB; clear HI0; have HK := n0_; have HB := n1_; have HI0 := n2_; clear n0_ n1_ n2_; (try clear hb); (try clear hb2); (try clear hk); (try clear hi)))
   go_meet
   case rel => exact ⟨_, ((t117 == 0)), (t118), (by first | rfl | (simp; done) | (simp [*]; done) | (simp only [IntKind.wrap_i64, wrap64]; done)), H', ⟨by first | omega | exact Nat.le_refl _⟩, ⟨by repeat (first | (with_reducible first | exact HI0.out | apply IsS57.alloc | apply IsS57.drewN | apply IsS57.drew | apply IsS57.set_1) | exact HI0.out)⟩, ⟨by repeat (first | (with_reducible first | exact HK.out | apply KeepBut.set_ | apply keep_drewN | apply keep_drew | apply keep_alloc) | exact HK.out)⟩, ⟨by repeat (first | (with_reducible first | exact HB.out | apply below_alloc | apply pw_below_drewN | apply below_drew1 | refine below_set ?_ (IsS57.ge HI0.out)) | exact HB.out)⟩⟩
 case rest =>
  clear HC3
  try clear p2
  try clear c3
  try clear c4
  try clear c4b0
  try clear c4b1
  obtain ⟨kq, x11_2, x1001_2, rfl, HA, HJ2, HI0, HK, HB⟩ := hcut
  cases kq with
  | zero => exact absurd HA.out (by simp [spec_l91Term.j0])
  | succ kj2 =>
   have H := HA.out
   clear HA
   simp only [spec_l91Term.j0] at H
   by_cases c7 : x11_2 = true
   ·subst c7
    have H1 : ((some (([(⟨#[48]⟩ : ByteArray), (⟨#[49]⟩ : ByteArray), (⟨#[97]⟩ : ByteArray), (⟨#[97]⟩ : ByteArray)] : List ByteArray) : List ByteArray)).bind fun y119 => ((spec_l6Rd_pick.f kj2 s0_0 x1001_2 4).bind fun bt122 => (if 0 ≤ bt122.1 then (if bt122.1 < (y119.length : Int) then (some (rdOf ByteArray.empty y119 bt122.1, bt122.2)) else (none)) else (none)))) = some (r1, r2) := by rw [if_pos rfl] at H; exact H
    clear H
    have H := H1
    clear H1
    obtain ⟨y119, hy119⟩ : ∃ y_ : List ByteArray, y_ = (([(⟨#[48]⟩ : ByteArray), (⟨#[49]⟩ : ByteArray), (⟨#[97]⟩ : ByteArray), (⟨#[97]⟩ : ByteArray)] : List ByteArray)) := ⟨_, rfl⟩
    replace H : ((spec_l6Rd_pick.f kj2 s0_0 x1001_2 4).bind fun bt122 => (if 0 ≤ bt122.1 then (if bt122.1 < (y119.length : Int) then (some (rdOf ByteArray.empty y119 bt122.1, bt122.2)) else (none)) else (none))) = some (r1, r2) := by first | (rw [hy119]; with_reducible exact H) | (have H2_ := (Option.bind_some _ _).symm.trans H; rw [hy119]; with_reducible exact H2_) | (have H2_ := (Option.bind_some _ _).symm.trans H; with_reducible exact H2_) | with_reducible exact H | (rw [hy119]; exact H) | exact H
    have Ny119 := Aside0.mk hy119
    clear hy119
    replace H := Option.bind_eq_some_iff.mp H
    obtain ⟨⟨t122, t123⟩, A80, H⟩ := H
    replace H : (if 0 ≤ t122 then (if t122 < (y119.length : Int) then (some (rdOf ByteArray.empty y119 t122, t123)) else (none)) else (none)) = some (r1, r2) := H
    have A8 := Aside0.mk A80
    clear A80
    by_cases c9 : 0 ≤ t122
    ·rw [if_pos c9] at H
     have c9b0 : decide (0 ≤ t122) = true := decide_eq_true c9
     clear c9
     by_cases c10 : t122 < (y119.length : Int)
     ·rw [if_pos c10] at H
      have c10b0 : decide (t122 < (y119.length : Int)) = true := decide_eq_true c10
      clear c10
      simp only [Option.some.injEq, Prod.mk.injEq] at H
      obtain ⟨rfl, rfl⟩ := H
      go_wp2_with (first | ((with_reducible refine gate_dst (N := 12) rfl ?_); refine Kd.R_lit Kd.string _ 9 ?hg (N := 12) ?hd (xs := ([(⟨#[48]⟩ : ByteArray), (⟨#[49]⟩ : ByteArray), (⟨#[97]⟩ : ByteArray), (⟨#[97]⟩ : ByteArray)] : List ByteArray)) (inner := [.string (⟨#[48]⟩ : ByteArray), .string (⟨#[49]⟩ : ByteArray), .string (⟨#[97]⟩ : ByteArray), .string (⟨#[97]⟩ : ByteArray)]) (ok := fun _ => True) (okp := fun _ => True) ?hr ?hp (fun _ hk => hk) trivial (Below.refl _ _) (Nat.le_refl _) (by simp) ?_; (case hd => rfl); (case hg => rfl); (case hr => first | (go_simp; done) | (go_simp; rfl)); (case hp => exact (Reps.one (show Kd.M Kd.string _ _ _ (⟨#[48]⟩ : ByteArray) [.string (⟨#[48]⟩ : ByteArray)] from rfl) (Reps.one (show Kd.M Kd.string _ _ _ (⟨#[49]⟩ : ByteArray) [.string (⟨#[49]⟩ : ByteArray)] from rfl) (Reps.one (show Kd.M Kd.string _ _ _ (⟨#[97]⟩ : ByteArray) [.string (⟨#[97]⟩ : ByteArray)] from rfl) (Reps.one (show Kd.M Kd.string _ _ _ (⟨#[97]⟩ : ByteArray) [.string (⟨#[97]⟩ : ByteArray)] from rfl) (Reps.none _ _)))))); intro v120 w11 ho12 hb hg_ hnew_; clear hg_ hnew_; (first | rw [← Ny119.out] at ho12 | (simp only [Int.reduceToNat] at ho12; rw [← Ny119.out] at ho12)); have n0_ := Aside0.mk (Kd.R_lower ho12 (keep_size (w := w) (g := g) (row := none) (by repeat (first | (with_reducible first | exact HK.out | apply KeepBut.set_ | apply keep_drewN | apply keep_drew | apply keep_alloc) | exact HK.out)))); have n1_ := Aside0.mk (IsS57.below (by repeat (first | (with_reducible first | exact HI0.out | apply IsS57.alloc | apply IsS57.drewN | apply IsS57.drew | apply IsS57.set_1) | exact HI0.out)) hb); have n2_ := Aside0.mk (KeepBut.trans (by repeat (first | (with_reducible first | exact HK.out | apply KeepBut.set_ | apply keep_drewN | apply keep_drew | apply keep_alloc) | exact HK.out)) (KeepBut.of_below hb g none) (.inl rfl)); have n3_ := Aside0.mk (below_step (by repeat (first | (with_reducible first | exact HB.out | apply below_alloc | apply pw_below_drewN | apply below_drew1 | refine below_set ?_ (IsS57.ge HI0.out)) | exact HB.out)) hb); clear HI0; clear HK; clear HB; have HO121 := n0_; have HI0 := n1_; have HK := n2_; have HB := n3_; clear n0_ n1_ n2_ n3_; clear hb ho12) | ((with_reducible refine gate_callee (f := 40) rfl ?_); refine goesL_ (some 14) rfl rfl Try.func40 (by kernel_rfl) rfl #[.pointer (some ⟨g, 0, none⟩), .int .i64 4] rfl (by (try simp only [List.map_toArray, List.map_cons, List.map_nil]); first | done | rfl | (simp only [List.length_drop, List.length_take]; rfl)) ?_; (with_reducible refine (spec_l6Rd_pick.calls kj2 g s0_0 x1001_2 4 t122 t123 w0 _ ?side1 ?side2 A8.out).mono ?_); (case side1 => repeat (first | (with_reducible first | exact HI0.out | apply IsS57.alloc | apply IsS57.drewN | apply IsS57.drew | apply IsS57.set_1) | exact HI0.out)); (case side2 => repeat (first | (with_reducible first | exact HB.out | apply below_alloc | apply pw_below_drewN | apply below_drew1 | refine below_set ?_ (IsS57.ge HI0.out)) | exact HB.out)); rintro e w13 ⟨rfl, hi, hb, hk⟩; refine ⟨_, rfl, ?_⟩; have n0_ := Aside0.mk (Kd.R_mono (Kd.R_keep (IsS57.apart (show IsS57 w0 _ g s0_0 x1001_2 from by repeat (first | (with_reducible first | exact HI0.out | apply IsS57.alloc | apply IsS57.drewN | apply IsS57.drew | apply IsS57.set_1) | exact HI0.out)) (by (with_reducible repeat (first | apply Kd.R_alloc | apply Kd.R_drewN | apply Kd.R_drew)); exact HO121.out) (by decide)) hk (fun _ h => h.2)) (fun _ h => h.1)); have n1_ := Aside0.mk (KeepBut.trans (by repeat (first | (with_reducible first | exact HK.out | apply KeepBut.set_ | apply keep_drewN | apply keep_drew | apply keep_alloc) | exact HK.out)) hk (.inl rfl)); have n2_ := Aside0.mk (hb); have n3_ := Aside0.mk (hi); clear HO121; clear HK; clear HB; clear HI0; have HO121 := n0_; have HK := n1_; have HB := n2_; have HI0 := n3_; clear n0_ n1_ n2_ n3_; (try clear hb); (try clear hb2); (try clear hk); (try clear hi); obtain ⟨Ao14, co14, eo14⟩ := Kd.R_slice HO121.out; subst eo14; have p124 : 0 ≤ (t122 : Int) := of_decide_eq_true (by first | (with_reducible assumption) | assumption); have q124 : t122 < (y119.length : Int) := of_decide_eq_true (by first | (with_reducible assumption) | assumption); obtain ⟨ad124, e124, hx124_0⟩ := Kd.at_string (Kd.R_reads' HO121.out).2.2 t122 p124 q124; cases e124; replace p124 := eq_true p124; replace q124 := eq_true q124))
      go_ret
      exact ⟨by first | rfl | (simp [errW_none, errW_some] <;> rfl) | (simp [*, errW_none, errW_some] <;> rfl), by repeat (first | (with_reducible first | exact HI0.out | apply IsS57.alloc | apply IsS57.drewN | apply IsS57.drew | apply IsS57.set_1) | exact HI0.out), by repeat (first | (with_reducible first | exact HB.out | apply below_alloc | apply pw_below_drewN | apply below_drew1 | refine below_set ?_ (IsS57.ge HI0.out)) | exact HB.out), by repeat (first | (with_reducible first | exact HK.out | apply KeepBut.set_ | apply keep_drewN | apply keep_drew | apply keep_alloc) | exact HK.out)⟩
     ·rw [if_neg c10] at H
      exact absurd H (by simp)
    ·rw [if_neg c9] at H
     exact absurd H (by simp)
   ·replace c7 := Bool.eq_false_iff.mpr c7
    subst c7
    have H1 : ((spec_l6Rd_pick.f kj2 s0_0 x1001_2 6).bind fun bt125 => (if bt125.1 = 0 then ((spec_l91Term.f kj2 s0_0 bt125.2 (wrap64 (a1 - 1))).bind fun bt127 => (if 1 + bt127.1.size ≤ 9223372036854775807 then (some ((⟨#[42]⟩ : ByteArray) ++ bt127.1, bt127.2)) else (none))) else (if bt125.1 = 1 then ((some (([(⟨#[50]⟩ : ByteArray), (⟨#[51]⟩ : ByteArray), (⟨#[52]⟩ : ByteArray), (⟨#[53]⟩ : ByteArray)] : List ByteArray) : List ByteArray)).bind fun y129 => ((spec_l6Rd_pick.f kj2 s0_0 bt125.2 4).bind fun bt132 => (if 0 ≤ bt132.1 then (if bt132.1 < (y129.length : Int) then ((spec_l91Term.f kj2 s0_0 bt132.2 (wrap64 (a1 - 1))).bind fun bt135 => (if (rdOf ByteArray.empty y129 bt132.1).size + bt135.1.size ≤ 9223372036854775807 then (some ((rdOf ByteArray.empty y129 bt132.1) ++ bt135.1, bt135.2)) else (none))) else (none)) else (none)))) else ((spec_l91Term.f kj2 s0_0 bt125.2 (wrap64 (a1 - 1))).bind fun bt137 => (if 1 + bt137.1.size ≤ 9223372036854775807 then ((some (([(⟨#[43]⟩ : ByteArray), (⟨#[43]⟩ : ByteArray), (⟨#[46]⟩ : ByteArray), (⟨#[38]⟩ : ByteArray)] : List ByteArray) : List ByteArray)).bind fun y139 => ((spec_l6Rd_pick.f kj2 s0_0 bt137.2 4).bind fun bt142 => (if 0 ≤ bt142.1 then (if bt142.1 < (y139.length : Int) then (if ((⟨#[40]⟩ : ByteArray) ++ bt137.1).size + (rdOf ByteArray.empty y139 bt142.1).size ≤ 9223372036854775807 then ((spec_l91Term.f kj2 s0_0 bt142.2 (wrap64 (a1 - 1))).bind fun bt145 => (if (((⟨#[40]⟩ : ByteArray) ++ bt137.1) ++ (rdOf ByteArray.empty y139 bt142.1)).size + bt145.1.size ≤ 9223372036854775807 then (if ((((⟨#[40]⟩ : ByteArray) ++ bt137.1) ++ (rdOf ByteArray.empty y139 bt142.1)) ++ bt145.1).size + 1 ≤ 9223372036854775807 then (some (((((⟨#[40]⟩ : ByteArray) ++ bt137.1) ++ (rdOf ByteArray.empty y139 bt142.1)) ++ bt145.1) ++ (⟨#[41]⟩ : ByteArray), bt145.2)) else (none)) else (none))) else (none)) else (none)) else (none)))) else (none)))))) = some (r1, r2) := by rw [if_neg (show ¬ (false = true) by decide)] at H; exact H
    clear H
    have H := H1
    clear H1
    replace H := Option.bind_eq_some_iff.mp H
    obtain ⟨⟨t125, t126⟩, A150, H⟩ := H
    replace H : (if t125 = 0 then ((spec_l91Term.f kj2 s0_0 t126 (wrap64 (a1 - 1))).bind fun bt127 => (if 1 + bt127.1.size ≤ 9223372036854775807 then (some ((⟨#[42]⟩ : ByteArray) ++ bt127.1, bt127.2)) else (none))) else (if t125 = 1 then ((some (([(⟨#[50]⟩ : ByteArray), (⟨#[51]⟩ : ByteArray), (⟨#[52]⟩ : ByteArray), (⟨#[53]⟩ : ByteArray)] : List ByteArray) : List ByteArray)).bind fun y129 => ((spec_l6Rd_pick.f kj2 s0_0 t126 4).bind fun bt132 => (if 0 ≤ bt132.1 then (if bt132.1 < (y129.length : Int) then ((spec_l91Term.f kj2 s0_0 bt132.2 (wrap64 (a1 - 1))).bind fun bt135 => (if (rdOf ByteArray.empty y129 bt132.1).size + bt135.1.size ≤ 9223372036854775807 then (some ((rdOf ByteArray.empty y129 bt132.1) ++ bt135.1, bt135.2)) else (none))) else (none)) else (none)))) else ((spec_l91Term.f kj2 s0_0 t126 (wrap64 (a1 - 1))).bind fun bt137 => (if 1 + bt137.1.size ≤ 9223372036854775807 then ((some (([(⟨#[43]⟩ : ByteArray), (⟨#[43]⟩ : ByteArray), (⟨#[46]⟩ : ByteArray), (⟨#[38]⟩ : ByteArray)] : List ByteArray) : List ByteArray)).bind fun y139 => ((spec_l6Rd_pick.f kj2 s0_0 bt137.2 4).bind fun bt142 => (if 0 ≤ bt142.1 then (if bt142.1 < (y139.length : Int) then (if ((⟨#[40]⟩ : ByteArray) ++ bt137.1).size + (rdOf ByteArray.empty y139 bt142.1).size ≤ 9223372036854775807 then ((spec_l91Term.f kj2 s0_0 bt142.2 (wrap64 (a1 - 1))).bind fun bt145 => (if (((⟨#[40]⟩ : ByteArray) ++ bt137.1) ++ (rdOf ByteArray.empty y139 bt142.1)).size + bt145.1.size ≤ 9223372036854775807 then (if ((((⟨#[40]⟩ : ByteArray) ++ bt137.1) ++ (rdOf ByteArray.empty y139 bt142.1)) ++ bt145.1).size + 1 ≤ 9223372036854775807 then (some (((((⟨#[40]⟩ : ByteArray) ++ bt137.1) ++ (rdOf ByteArray.empty y139 bt142.1)) ++ bt145.1) ++ (⟨#[41]⟩ : ByteArray), bt145.2)) else (none)) else (none))) else (none)) else (none)) else (none)))) else (none))))) = some (r1, r2) := H
    have A15 := Aside0.mk A150
    clear A150
    by_cases c16 : t125 = 0
    ·rw [if_pos c16] at H
     have c16b0 : (t125 == 0) = true := beq_iff_eq.mpr c16
     have c16b1 : (t125 != 0) = false := bne_eq_false_iff_eq.mpr c16
     clear c16
     replace H := Option.bind_eq_some_iff.mp H
     obtain ⟨⟨t127, t128⟩, A170, H⟩ := H
     replace H : (if 1 + t127.size ≤ 9223372036854775807 then (some ((⟨#[42]⟩ : ByteArray) ++ t127, t128)) else (none)) = some (r1, r2) := H
     have A17 := Aside0.mk A170
     clear A170
     by_cases c18 : 1 + t127.size ≤ 9223372036854775807
     ·rw [if_pos c18] at H
      have c18b0 := eq_true c18
      have c18b1 : decide (1 + t127.size ≤ 9223372036854775807) = true := decide_eq_true c18
      try have c18b2 : (9223372036854775807 < 1 + t127.size) = False := eq_false (Nat.not_lt.2 c18)
      simp only [Option.some.injEq, Prod.mk.injEq] at H
      obtain ⟨rfl, rfl⟩ := H
      go_wp2_with (first | ((with_reducible refine gate_callee (f := 40) rfl ?_); refine goesL_ (some 18) rfl rfl Try.func40 (by kernel_rfl) rfl #[.pointer (some ⟨g, 0, none⟩), .int .i64 6] rfl (by (try simp only [List.map_toArray, List.map_cons, List.map_nil]); first | done | rfl | (simp only [List.length_drop, List.length_take]; rfl)) ?_; (with_reducible refine (spec_l6Rd_pick.calls kj2 g s0_0 x1001_2 6 t125 t126 w0 _ ?side1 ?side2 A15.out).mono ?_); (case side1 => repeat (first | (with_reducible first | exact HI0.out | apply IsS57.alloc | apply IsS57.drewN | apply IsS57.drew | apply IsS57.set_1) | exact HI0.out)); (case side2 => repeat (first | (with_reducible first | exact HB.out | apply below_alloc | apply pw_below_drewN | apply below_drew1 | refine below_set ?_ (IsS57.ge HI0.out)) | exact HB.out)); rintro e w19 ⟨rfl, hi, hb, hk⟩; refine ⟨_, rfl, ?_⟩; have n0_ := Aside0.mk (KeepBut.trans (by repeat (first | (with_reducible first | exact HK.out | apply KeepBut.set_ | apply keep_drewN | apply keep_drew | apply keep_alloc) | exact HK.out)) hk (.inl rfl)); have n1_ := Aside0.mk (hb); have n2_ := Aside0.mk (hi); clear HK; clear HB; clear HI0; have HK := n0_; have HB := n1_; have HI0 := n2_; clear n0_ n1_ n2_; (try clear hb); (try clear hb2); (try clear hk); (try clear hi)) | ((with_reducible refine gate_callee (f := 39) rfl ?_); refine goesL_ (some 24) rfl rfl Try.func39 (by kernel_rfl) rfl #[.pointer (some ⟨g, 0, none⟩), .int .i64 (wrap64 (a1 - 1))] rfl (by (try simp only [List.map_toArray, List.map_cons, List.map_nil]); first | done | rfl | (simp only [List.length_drop, List.length_take]; rfl)) ?_; (with_reducible refine (ih kj2 (by have := HJ2.out; omega) g s0_0 t126 (wrap64 (a1 - 1)) t127 t128 w0 _ ?side1 ?side2 A17.out).mono ?_); (case side1 => repeat (first | (with_reducible first | exact HI0.out | apply IsS57.alloc | apply IsS57.drewN | apply IsS57.drew | apply IsS57.set_1) | exact HI0.out)); (case side2 => repeat (first | (with_reducible first | exact HB.out | apply below_alloc | apply pw_below_drewN | apply below_drew1 | refine below_set ?_ (IsS57.ge HI0.out)) | exact HB.out)); rintro e w20 ⟨rfl, hi, hb, hk⟩; refine ⟨_, rfl, ?_⟩; have n0_ := Aside0.mk (KeepBut.trans (by repeat (first | (with_reducible first | exact HK.out | apply KeepBut.set_ | apply keep_drewN | apply keep_drew | apply keep_alloc) | exact HK.out)) hk (.inl rfl)); have n1_ := Aside0.mk (hb); have n2_ := Aside0.mk (hi); clear HK; clear HB; clear HI0; have HK := n0_; have HB := n1_; have HI0 := n2_; clear n0_ n1_ n2_; (try clear hb); (try clear hb2); (try clear hk); (try clear hi)))
      go_ret
      exact ⟨by first | rfl | (simp [errW_none, errW_some] <;> rfl) | (simp [*, errW_none, errW_some] <;> rfl), by repeat (first | (with_reducible first | exact HI0.out | apply IsS57.alloc | apply IsS57.drewN | apply IsS57.drew | apply IsS57.set_1) | exact HI0.out), by repeat (first | (with_reducible first | exact HB.out | apply below_alloc | apply pw_below_drewN | apply below_drew1 | refine below_set ?_ (IsS57.ge HI0.out)) | exact HB.out), by repeat (first | (with_reducible first | exact HK.out | apply KeepBut.set_ | apply keep_drewN | apply keep_drew | apply keep_alloc) | exact HK.out)⟩
     ·rw [if_neg c18] at H
      exact absurd H (by simp)
    ·rw [if_neg c16] at H
     have c16b0 : (t125 == 0) = false := beq_eq_false_iff_ne.mpr c16
     have c16b1 : (t125 != 0) = true := bne_iff_ne.mpr c16
     by_cases c21 : t125 = 1
     ·rw [if_pos c21] at H
      have c21b0 : (t125 == 1) = true := beq_iff_eq.mpr c21
      have c21b1 : (t125 != 1) = false := bne_eq_false_iff_eq.mpr c21
      clear c21
      obtain ⟨y129, hy129⟩ : ∃ y_ : List ByteArray, y_ = (([(⟨#[50]⟩ : ByteArray), (⟨#[51]⟩ : ByteArray), (⟨#[52]⟩ : ByteArray), (⟨#[53]⟩ : ByteArray)] : List ByteArray)) := ⟨_, rfl⟩
      replace H : ((spec_l6Rd_pick.f kj2 s0_0 t126 4).bind fun bt132 => (if 0 ≤ bt132.1 then (if bt132.1 < (y129.length : Int) then ((spec_l91Term.f kj2 s0_0 bt132.2 (wrap64 (a1 - 1))).bind fun bt135 => (if (rdOf ByteArray.empty y129 bt132.1).size + bt135.1.size ≤ 9223372036854775807 then (some ((rdOf ByteArray.empty y129 bt132.1) ++ bt135.1, bt135.2)) else (none))) else (none)) else (none))) = some (r1, r2) := by first | (rw [hy129]; with_reducible exact H) | (have H2_ := (Option.bind_some _ _).symm.trans H; rw [hy129]; with_reducible exact H2_) | (have H2_ := (Option.bind_some _ _).symm.trans H; with_reducible exact H2_) | with_reducible exact H | (rw [hy129]; exact H) | exact H
      have Ny129 := Aside0.mk hy129
      clear hy129
      replace H := Option.bind_eq_some_iff.mp H
      obtain ⟨⟨t132, t133⟩, A220, H⟩ := H
      replace H : (if 0 ≤ t132 then (if t132 < (y129.length : Int) then ((spec_l91Term.f kj2 s0_0 t133 (wrap64 (a1 - 1))).bind fun bt135 => (if (rdOf ByteArray.empty y129 t132).size + bt135.1.size ≤ 9223372036854775807 then (some ((rdOf ByteArray.empty y129 t132) ++ bt135.1, bt135.2)) else (none))) else (none)) else (none)) = some (r1, r2) := H
      have A22 := Aside0.mk A220
      clear A220
      by_cases c23 : 0 ≤ t132
      ·rw [if_pos c23] at H
       have c23b0 : decide (0 ≤ t132) = true := decide_eq_true c23
       clear c23
       by_cases c24 : t132 < (y129.length : Int)
       ·rw [if_pos c24] at H
        have c24b0 : decide (t132 < (y129.length : Int)) = true := decide_eq_true c24
        clear c24
        replace H := Option.bind_eq_some_iff.mp H
        obtain ⟨⟨t135, t136⟩, A250, H⟩ := H
        replace H : (if (rdOf ByteArray.empty y129 t132).size + t135.size ≤ 9223372036854775807 then (some ((rdOf ByteArray.empty y129 t132) ++ t135, t136)) else (none)) = some (r1, r2) := H
        have A25 := Aside0.mk A250
        clear A250
        by_cases c26 : (rdOf ByteArray.empty y129 t132).size + t135.size ≤ 9223372036854775807
        ·rw [if_pos c26] at H
         have c26b0 := eq_true c26
         have c26b1 : decide ((rdOf ByteArray.empty y129 t132).size + t135.size ≤ 9223372036854775807) = true := decide_eq_true c26
         try have c26b2 : (9223372036854775807 < (rdOf ByteArray.empty y129 t132).size + t135.size) = False := eq_false (Nat.not_lt.2 c26)
         simp only [Option.some.injEq, Prod.mk.injEq] at H
         obtain ⟨rfl, rfl⟩ := H
         try go_wp2_with (first | ((with_reducible refine gate_callee (f := 40) rfl ?_); refine goesL_ (some 18) rfl rfl Try.func40 (by kernel_rfl) rfl #[.pointer (some ⟨g, 0, none⟩), .int .i64 6] rfl (by (try simp only [List.map_toArray, List.map_cons, List.map_nil]); first | done | rfl | (simp only [List.length_drop, List.length_take]; rfl)) ?_; (with_reducible refine (spec_l6Rd_pick.calls kj2 g s0_0 x1001_2 6 t125 t126 w0 _ ?side1 ?side2 A15.out).mono ?_); (case side1 => repeat (first | (with_reducible first | exact HI0.out | apply IsS57.alloc | apply IsS57.drewN | apply IsS57.drew | apply IsS57.set_1) | exact HI0.out)); (case side2 => repeat (first | (with_reducible first | exact HB.out | apply below_alloc | apply pw_below_drewN | apply below_drew1 | refine below_set ?_ (IsS57.ge HI0.out)) | exact HB.out)); rintro e w27 ⟨rfl, hi, hb, hk⟩; refine ⟨_, rfl, ?_⟩; have n0_ := Aside0.mk (KeepBut.trans (by repeat (first | (with_reducible first | exact HK.out | apply KeepBut.set_ | apply keep_drewN | apply keep_drew | apply keep_alloc) | exact HK.out)) hk (.inl rfl)); have n1_ := Aside0.mk (hb); have n2_ := Aside0.mk (hi); clear HK; clear HB; clear HI0; have HK := n0_; have HB := n1_; have HI0 := n2_; clear n0_ n1_ n2_; (try clear hb); (try clear hb2); (try clear hk); (try clear hi)))
         have pi134 : (0 ≤ (t132 : Int)) = True := eq_true (of_decide_eq_true (by first | (with_reducible assumption) | assumption))
         have qi134 : (t132 < (y129.length : Int)) = True := eq_true (of_decide_eq_true (by first | (with_reducible assumption) | assumption))
         have n0_ := Aside0.mk (IsS57.drew HI0.out)
         have n1_ := Aside0.mk (keep_drew HK.out)
         have n2_ := Aside0.mk (below_drew1 HB.out)
         clear HI0
         clear HK
         clear HB
         have HI0 := n0_
         have HK := n1_
         have HB := n2_
         clear n0_ n1_ n2_
         refine start_ (n := 11) (S := fun w' => True) (ds := []) #[false, false, false, false, false, false, false, false, false, false, false] (by kernel_rfl) rfl rfl trivial (fun hHeld => ?_); refine with_tabW spec_l91Term.tab7 spec_l91Term.bits7 (fun HT_ HW_ => ?_)
         generalize w27.drew = w28 at HI0 HK HB hHeld ⊢
         refine pure_ (i := 1) (N := some 29) (v := ?_) (a' := ?_) #[false, true, false, false, false, false, false, false, false, false, false] rfl rfl (any_of HT_.out (by kernel_rfl)) (fun _ _ _ h => h) (Or.inl ⟨by rfl, ?_⟩) ?_ ?_
         rotate_left
         ·intro w'
          go_simp
          with_reducible rfl
         rotate_left
         ·simp only [Act.put, List.setIfInBounds_toArray, List.set_cons_zero, List.set_cons_succ, i64_w, i32_w]
          rfl
         refine pure_ (i := 5) (N := some 33) (v := ?_) (a' := ?_) #[false, true, false, false, false, true, false, false, false, false, false] rfl rfl (any_of HT_.out (by kernel_rfl)) (fun _ _ _ h => h) (Or.inl ⟨by rfl, ?_⟩) ?_ ?_
         rotate_left
         ·intro w'
          go_simp
          with_reducible rfl
         rotate_left
         ·simp only [Act.put, List.setIfInBounds_toArray, List.set_cons_zero, List.set_cons_succ, i64_w, i32_w]
          rfl
         refine pure_ (i := 6) (N := some 34) (v := ?_) (a' := ?_) #[false, true, false, false, false, true, true, false, false, false, false] rfl rfl (any_of HT_.out (by kernel_rfl)) (fun _ _ _ h => h) (Or.inl ⟨by rfl, ?_⟩) ?_ ?_
         rotate_left
         ·intro w'
          go_simp
          with_reducible rfl
         rotate_left
         ·simp only [Act.put, List.setIfInBounds_toArray, List.set_cons_zero, List.set_cons_succ, i64_w, i32_w]
          rfl
         refine inv_at [0, 2, 3, 4, 7, 8, 9, 10] (fun a0_ b a w' => ∃ (v130 : Value) (adz_v130 : Addr) (m3_ : Value), a = putSel a0_ b [(0, 28, v130), (2, 30, .int .i64 t132), (3, 31, m3_), (4, 32, .string (rdOf ByteArray.empty y129 t132)), (7, 35, .int .i64 (wrap64 (a1 - 1))), (8, 36, .string t135), (9, 37, .string ((rdOf ByteArray.empty y129 t132) ++ t135)), (10, 4, .string ((rdOf ByteArray.empty y129 t132) ++ t135))] ∧ (b 2 = false → IsS57 w0 w' g s0_0 t126) ∧ (KeepBut w w' g none) ∧ (Below w0.heap.size w0 w') ∧ (b 0 = true → Kd.R Kd.string 9 w' w.heap.size (fun _ => True) v130 y129) ∧ (b 0 = true → ∃ c_, (v130 : Value) = .slice (some adz_v130) y129.length c_) ∧ (b 2 = true → b 8 = false → IsS57 w0 w' g s0_0 t133) ∧ (b 8 = true → IsS57 w0 w' g s0_0 t136) ∧ (b 3 = true → (m3_ : Value) = .pointer (some (adz_v130.add (t132).toNat)))) HT_.out HW_.out (by kernel_rfl) (by kernel_rfl) ?_ ?_ ?_
         ·exact ⟨.bool false, ⟨0, 0, none⟩, .bool false, by simp only [putSel, Bool.false_eq_true, if_false], fun _ => HI0.out, HK.out, HB.out, fun h_ => absurd h_ (by decide), fun h_ => absurd h_ (by decide), fun h_ => absurd h_ (by decide), fun h_ => absurd h_ (by decide), fun h_ => absurd h_ (by decide)⟩
         ·skip
          clear HB HI0 HK
          refine steps_cons ?_ ?_
          ·rintro b a w' ⟨v130, adz_v130, m3_, ha, Q_HI0, Q_HK, Q_HB, Q_HO131, Q_HA_HO131, Q_HI0_e2, Q_HI0_e8, Q_X3_⟩ hb_ hon hoff
           refine ⟨_, rfl, fun K hK => ?_⟩
           replace ha := Aside0.mk ha
           have HK := Aside0.mk Q_HK
           have HB := Aside0.mk Q_HB
           refine Kd.R_lit_step Kd.string _ 9 ?hg (N := 28) ?hd (xs := ([(⟨#[50]⟩ : ByteArray), (⟨#[51]⟩ : ByteArray), (⟨#[52]⟩ : ByteArray), (⟨#[53]⟩ : ByteArray)] : List ByteArray)) (inner := [.string (⟨#[50]⟩ : ByteArray), .string (⟨#[51]⟩ : ByteArray), .string (⟨#[52]⟩ : ByteArray), .string (⟨#[53]⟩ : ByteArray)]) (ok := fun _ => True) (okp := fun _ => True) ?hr ?hp (fun _ hk => hk) trivial (Below.refl _ _) (Nat.le_refl _) (by simp) ?_; (case hd => rfl); (case hg => rfl); (case hr => first | (go_simp; done) | (go_simp; rfl)); (case hp => exact (Reps.one (show Kd.M Kd.string _ _ _ (⟨#[50]⟩ : ByteArray) [.string (⟨#[50]⟩ : ByteArray)] from rfl) (Reps.one (show Kd.M Kd.string _ _ _ (⟨#[51]⟩ : ByteArray) [.string (⟨#[51]⟩ : ByteArray)] from rfl) (Reps.one (show Kd.M Kd.string _ _ _ (⟨#[52]⟩ : ByteArray) [.string (⟨#[52]⟩ : ByteArray)] from rfl) (Reps.one (show Kd.M Kd.string _ _ _ (⟨#[53]⟩ : ByteArray) [.string (⟨#[53]⟩ : ByteArray)] from rfl) (Reps.none _ _))))))
           intro v130 w29 ho30 hb hg_ hnew_
           clear hg_ hnew_
           (first | rw [← Ny129.out] at ho30 | (simp only [Int.reduceToNat] at ho30; rw [← Ny129.out] at ho30))
           have n0_ := Aside0.mk (Kd.R_lower ho30 (keep_size (w := w) (g := g) (row := none) (by repeat (first | (with_reducible first | exact HK.out | apply KeepBut.set_ | apply keep_drewN | apply keep_drew | apply keep_alloc) | exact HK.out))))
           have n2_ := Aside0.mk (KeepBut.trans (by repeat (first | (with_reducible first | exact HK.out | apply KeepBut.set_ | apply keep_drewN | apply keep_drew | apply keep_alloc) | exact HK.out)) (KeepBut.of_below hb g none) (.inl rfl))
           have n3_ := Aside0.mk (below_step (by repeat (first | (with_reducible first | exact HB.out | apply below_alloc | apply pw_below_drewN | apply below_drew1) | exact HB.out)) hb)
           have z_HI0 := fun (h0_ : b 2 = false) => (show IsS57 w0 w29 g s0_0 t126 from by first | exact (IsS57.below (by repeat (first | (with_reducible first | exact (Q_HI0 h0_) | apply IsS57.alloc | apply IsS57.drewN | apply IsS57.drew | apply IsS57.set_1) | exact (Q_HI0 h0_))) hb))
           have z_HI0_e2 := fun (h0_ : b 2 = true) (h1_ : b 8 = false) => (show IsS57 w0 w29 g s0_0 t133 from by first | exact (IsS57.below (by repeat (first | (with_reducible first | exact (Q_HI0_e2 h0_ h1_) | apply IsS57.alloc | apply IsS57.drewN | apply IsS57.drew | apply IsS57.set_1) | exact (Q_HI0_e2 h0_ h1_))) hb))
           have z_HI0_e8 := fun (h0_ : b 8 = true) => (show IsS57 w0 w29 g s0_0 t136 from by first | exact (IsS57.below (by repeat (first | (with_reducible first | exact (Q_HI0_e8 h0_) | apply IsS57.alloc | apply IsS57.drewN | apply IsS57.drew | apply IsS57.set_1) | exact (Q_HI0_e8 h0_))) hb))
           clear HK
           clear HB
           have HO131 := n0_
           have HK := n2_
           have HB := n3_
           clear n0_ n2_ n3_
           clear hb ho30
           obtain ⟨Ao31, co31, eo31⟩ := Kd.R_slice HO131.out
           subst eo31
           obtain ⟨ado31, fo31, _⟩ := Kd.at_string (Kd.R_reads' HO131.out).2.2 0 (by decide) (by rw [Ny129.out]; simp)
           cases fo31
           refine hK.out _ _ ⟨.slice (some ado31) y129.length co31, ado31, m3_, (by rw [ha.out]; exact putSel_upk 0 hb_ rfl rfl rfl), z_HI0, (by repeat (first | (with_reducible first | exact HK.out | apply KeepBut.set_ | apply keep_drewN | apply keep_drew | apply keep_alloc) | exact HK.out)), (by repeat (first | (with_reducible first | exact HB.out | apply below_alloc | apply pw_below_drewN | apply below_drew1) | exact HB.out)), fun _ => (by (with_reducible repeat (first | apply Kd.R_alloc | apply Kd.R_drewN | apply Kd.R_drew)); exact HO131.out), fun _ => ⟨_, rfl⟩, z_HI0_e2, z_HI0_e8, fun h0_ => absurd ((hoff 3 (by kernel_rfl)).symm.trans h0_) (by decide)⟩
          refine steps_cons ?_ ?_
          ·rintro b a w' ⟨v130, adz_v130, m3_, ha, Q_HI0, Q_HK, Q_HB, Q_HO131, Q_HA_HO131, Q_HI0_e2, Q_HI0_e8, Q_X3_⟩ hb_ hon hoff
           refine ⟨_, rfl, fun K hK => ?_⟩
           have e29 : a.tmps[29]? = some (.pointer (some ⟨g, 0, none⟩)) := by rw [ha]; exact (putSel_off rfl).trans rfl
           replace ha := Aside0.mk ha
           have HI0 := Aside0.mk (Q_HI0 hb_)
           have HK := Aside0.mk Q_HK
           have HB := Aside0.mk Q_HB
           refine goes_ Try.func40 (by kernel_rfl) rfl #[.pointer (some ⟨g, 0, none⟩), .int .i64 4] (by rfl) rfl rfl (by first | (simp only [List.map_toArray, List.map_cons, List.map_nil, Act.eval, Array.getD_eq_getD_getElem?, Option.getD_some, e29]; done) | (simp only [List.map_toArray, List.map_cons, List.map_nil, Act.eval, Array.getD_eq_getD_getElem?, Option.getD_some, e29]; rfl)) ?_
           with_reducible refine (spec_l6Rd_pick.calls kj2 g s0_0 t126 4 t132 t133 w0 _ ?side1 ?side2 A22.out).mono ?_
           (case side1 => repeat (first | (with_reducible first | exact HI0.out | apply IsS57.alloc | apply IsS57.drewN | apply IsS57.drew | apply IsS57.set_1) | exact HI0.out))
           (case side2 => repeat (first | (with_reducible first | exact HB.out | apply below_alloc | apply pw_below_drewN | apply below_drew1 | refine below_set ?_ (IsS57.ge HI0.out)) | exact HB.out))
           rintro e w29 ⟨rfl, hi, hb, hk⟩
           refine ⟨_, rfl, ?_⟩
           have n0_ := Aside0.mk (KeepBut.trans (by repeat (first | (with_reducible first | exact HK.out | apply KeepBut.set_ | apply keep_drewN | apply keep_drew | apply keep_alloc) | exact HK.out)) hk (.inl rfl))
           have n1_ := Aside0.mk (hb)
           have n2_ := Aside0.mk (hi)
           have z_HO131 := fun (h0_ : b 0 = true) => (show Kd.R Kd.string 9 w29 w.heap.size (fun _ => True) v130 y129 from by first | exact (Kd.R_mono (Kd.R_keep (IsS57.apart (show IsS57 w0 _ g s0_0 t126 from by repeat (first | (with_reducible first | exact HI0.out | apply IsS57.alloc | apply IsS57.drewN | apply IsS57.drew | apply IsS57.set_1) | exact HI0.out)) (by (with_reducible repeat (first | apply Kd.R_alloc | apply Kd.R_drewN | apply Kd.R_drew)); exact (Q_HO131 h0_)) (by decide)) hk (fun _ h => h.2)) (fun _ h => h.1)) | exact Kd.R_mono (Kd.R_mono (Kd.R_keep (IsS57.apart (show IsS57 w0 _ g s0_0 t126 from by repeat (first | (with_reducible first | exact HI0.out | apply IsS57.alloc | apply IsS57.drewN | apply IsS57.drew | apply IsS57.set_1) | exact HI0.out)) (by (with_reducible repeat (first | apply Kd.R_alloc | apply Kd.R_drewN | apply Kd.R_drew)); exact (Q_HO131 h0_)) (by decide)) hk (fun _ h => h.2)) (fun _ h => h.1)) (fun _ h_ => by first | trivial | exact h_ | exact h_.1))
           clear HK
           clear HB
           clear HI0
           have HK := n0_
           have HB := n1_
           have HI0 := n2_
           clear n0_ n1_ n2_
           (try clear hb)
           (try clear hb2)
           (try clear hk)
           (try clear hi)
           refine hK.out _ _ ⟨v130, adz_v130, m3_, (by rw [ha.out]; exact putSel_upk 1 hb_ rfl rfl rfl), fun h0_ => absurd ((up_self b 2).symm.trans h0_) (by decide), (by repeat (first | (with_reducible first | exact HK.out | apply KeepBut.set_ | apply keep_drewN | apply keep_drew | apply keep_alloc) | exact HK.out)), (by repeat (first | (with_reducible first | exact HB.out | apply below_alloc | apply pw_below_drewN | apply below_drew1 | refine below_set ?_ (IsS57.ge HI0.out)) | exact HB.out)), z_HO131, Q_HA_HO131, fun _ _ => (by repeat (first | (with_reducible first | exact HI0.out | apply IsS57.alloc | apply IsS57.drewN | apply IsS57.drew | apply IsS57.set_1) | exact HI0.out)), fun h0_ => absurd ((hoff 8 (by kernel_rfl)).symm.trans h0_) (by decide), fun h0_ => absurd ((hoff 3 (by kernel_rfl)).symm.trans h0_) (by decide)⟩
          refine steps_cons ?_ ?_
          ·rintro b a w' ⟨v130, adz_v130, m3_, ha, Q_HI0, Q_HK, Q_HB, Q_HO131, Q_HA_HO131, Q_HI0_e2, Q_HI0_e8, Q_X3_⟩ hb_ hon hoff
           refine ⟨_, rfl, fun K hK => ?_⟩
           have e28 : a.tmps[28]? = some (v130) := by rw [ha]; exact putSel_on (e := (0, 28, v130)) 0 rfl rfl (hon 0 (by kernel_rfl)) rfl
           have e30 : a.tmps[30]? = some (.int .i64 t132) := by rw [ha]; exact putSel_on (e := (2, 30, .int .i64 t132)) 1 rfl rfl (hon 2 (by kernel_rfl)) rfl
           replace ha := Aside0.mk ha
           have HK := Aside0.mk Q_HK
           have HB := Aside0.mk Q_HB
           have HO131 := Aside0.mk (Q_HO131 (hon 0 (by kernel_rfl)))
           have HA_HO131 := Aside0.mk (Q_HA_HO131 (hon 0 (by kernel_rfl)))
           obtain ⟨c_, hv_⟩ := HA_HO131.out
           rw [hv_] at e28
           refine value_ (w1 := w') (v := .pointer (some (adz_v130.add (t132).toNat))) (by rfl) rfl ?_ ?_
           ·go_simp
            (try simp only [i64_w])
            try rfl
           refine hK.out _ _ ⟨v130, adz_v130, (.pointer (some (adz_v130.add (t132).toNat))), (by rw [ha.out]; exact putSel_upk 2 hb_ rfl rfl rfl), fun h0_ => absurd ((hon 2 (by kernel_rfl)).symm.trans h0_) (by decide), Q_HK, Q_HB, Q_HO131, Q_HA_HO131, Q_HI0_e2, Q_HI0_e8, fun _ => rfl⟩
          refine steps_cons ?_ ?_
          ·rintro b a w' ⟨v130, adz_v130, m3_, ha, Q_HI0, Q_HK, Q_HB, Q_HO131, Q_HA_HO131, Q_HI0_e2, Q_HI0_e8, Q_X3_⟩ hb_ hon hoff
           refine ⟨_, rfl, fun K hK => ?_⟩
           have e31 : a.tmps[31]? = some (m3_) := by rw [ha]; exact putSel_on (e := (3, 31, m3_)) 2 rfl rfl (hon 3 (by kernel_rfl)) rfl
           rw [Q_X3_ (hon 3 (by kernel_rfl))] at e31
           replace ha := Aside0.mk ha
           have HK := Aside0.mk Q_HK
           have HB := Aside0.mk Q_HB
           have HO131 := Aside0.mk (Q_HO131 (hon 0 (by kernel_rfl)))
           have HA_HO131 := Aside0.mk (Q_HA_HO131 (hon 0 (by kernel_rfl)))
           obtain ⟨c_, hv_⟩ := HA_HO131.out
           have hF_ := HO131.out
           rw [hv_] at hF_
           obtain ⟨ad_, ea_, hx_⟩ := Kd.at_string (Kd.R_reads' hF_).2.2 t132 (of_eq_true pi134) (of_eq_true qi134)
           cases ea_
           refine value_ (w1 := w') (v := .string (rdOf ByteArray.empty y129 t132)) (by rfl) rfl ?_ ?_
           ·go_simp
            (try simp only [i64_w])
            try rfl
           refine hK.out _ _ ⟨v130, adz_v130, m3_, (by rw [ha.out]; exact putSel_upk 3 hb_ rfl rfl rfl), fun h0_ => absurd ((hon 2 (by kernel_rfl)).symm.trans h0_) (by decide), Q_HK, Q_HB, Q_HO131, Q_HA_HO131, Q_HI0_e2, Q_HI0_e8, Q_X3_⟩
          refine steps_cons ?_ ?_
          ·rintro b a w' ⟨v130, adz_v130, m3_, ha, Q_HI0, Q_HK, Q_HB, Q_HO131, Q_HA_HO131, Q_HI0_e2, Q_HI0_e8, Q_X3_⟩ hb_ hon hoff
           refine ⟨_, rfl, fun K hK => ?_⟩
           have e34 : a.tmps[34]? = some (.int .i64 a1) := by rw [ha]; exact (putSel_off rfl).trans rfl
           replace ha := Aside0.mk ha
           have HK := Aside0.mk Q_HK
           have HB := Aside0.mk Q_HB
           refine value_ (w1 := w') (v := .int .i64 (wrap64 (a1 - 1))) (by rfl) rfl ?_ ?_
           ·go_simp
            (try simp only [i64_w])
            try rfl
           refine hK.out _ _ ⟨v130, adz_v130, m3_, (by rw [ha.out]; exact putSel_upk 4 hb_ rfl rfl rfl), Q_HI0, Q_HK, Q_HB, Q_HO131, Q_HA_HO131, Q_HI0_e2, fun h0_ => absurd ((hoff 8 (by kernel_rfl)).symm.trans h0_) (by decide), Q_X3_⟩
          refine steps_cons ?_ ?_
          ·rintro b a w' ⟨v130, adz_v130, m3_, ha, Q_HI0, Q_HK, Q_HB, Q_HO131, Q_HA_HO131, Q_HI0_e2, Q_HI0_e8, Q_X3_⟩ hb_ hon hoff
           refine ⟨_, rfl, fun K hK => ?_⟩
           have e33 : a.tmps[33]? = some (.pointer (some ⟨g, 0, none⟩)) := by rw [ha]; exact (putSel_off rfl).trans rfl
           have e35 : a.tmps[35]? = some (.int .i64 (wrap64 (a1 - 1))) := by rw [ha]; exact putSel_on (e := (7, 35, .int .i64 (wrap64 (a1 - 1)))) 4 rfl rfl (hon 7 (by kernel_rfl)) rfl
           replace ha := Aside0.mk ha
           have HK := Aside0.mk Q_HK
           have HB := Aside0.mk Q_HB
           have HI0 := Aside0.mk (Q_HI0_e2 (hon 2 (by kernel_rfl)) hb_)
           refine goes_ Try.func39 (by kernel_rfl) rfl #[.pointer (some ⟨g, 0, none⟩), .int .i64 (wrap64 (a1 - 1))] (by rfl) rfl rfl (by first | (simp only [List.map_toArray, List.map_cons, List.map_nil, Act.eval, Array.getD_eq_getD_getElem?, Option.getD_some, e33, e35]; done) | (simp only [List.map_toArray, List.map_cons, List.map_nil, Act.eval, Array.getD_eq_getD_getElem?, Option.getD_some, e33, e35]; rfl)) ?_
           with_reducible refine (ih kj2 (by have := HJ2.out; omega) g s0_0 t133 (wrap64 (a1 - 1)) t135 t136 w0 _ ?side1 ?side2 A25.out).mono ?_
           (case side1 => repeat (first | (with_reducible first | exact HI0.out | apply IsS57.alloc | apply IsS57.drewN | apply IsS57.drew | apply IsS57.set_1) | exact HI0.out))
           (case side2 => repeat (first | (with_reducible first | exact HB.out | apply below_alloc | apply pw_below_drewN | apply below_drew1 | refine below_set ?_ (IsS57.ge HI0.out)) | exact HB.out))
           rintro e w31 ⟨rfl, hi, hb, hk⟩
           refine ⟨_, rfl, ?_⟩
           have n0_ := Aside0.mk (KeepBut.trans (by repeat (first | (with_reducible first | exact HK.out | apply KeepBut.set_ | apply keep_drewN | apply keep_drew | apply keep_alloc) | exact HK.out)) hk (.inl rfl))
           have n1_ := Aside0.mk (hb)
           have n2_ := Aside0.mk (hi)
           have z_HO131 := fun (h0_ : b 0 = true) => (show Kd.R Kd.string 9 w31 w.heap.size (fun _ => True) v130 y129 from by first | exact (Kd.R_mono (Kd.R_keep (IsS57.apart (show IsS57 w0 _ g s0_0 t133 from by repeat (first | (with_reducible first | exact HI0.out | apply IsS57.alloc | apply IsS57.drewN | apply IsS57.drew | apply IsS57.set_1) | exact HI0.out)) (by (with_reducible repeat (first | apply Kd.R_alloc | apply Kd.R_drewN | apply Kd.R_drew)); exact (Q_HO131 h0_)) (by decide)) hk (fun _ h => h.2)) (fun _ h => h.1)) | exact Kd.R_mono (Kd.R_mono (Kd.R_keep (IsS57.apart (show IsS57 w0 _ g s0_0 t133 from by repeat (first | (with_reducible first | exact HI0.out | apply IsS57.alloc | apply IsS57.drewN | apply IsS57.drew | apply IsS57.set_1) | exact HI0.out)) (by (with_reducible repeat (first | apply Kd.R_alloc | apply Kd.R_drewN | apply Kd.R_drew)); exact (Q_HO131 h0_)) (by decide)) hk (fun _ h => h.2)) (fun _ h => h.1)) (fun _ h_ => by first | trivial | exact h_ | exact h_.1))
           clear HK
           clear HB
           clear HI0
           have HK := n0_
           have HB := n1_
           have HI0 := n2_
           clear n0_ n1_ n2_
           (try clear hb)
           (try clear hb2)
           (try clear hk)
           (try clear hi)
           refine hK.out _ _ ⟨v130, adz_v130, m3_, (by rw [ha.out]; exact putSel_upk 5 hb_ rfl rfl rfl), fun h0_ => absurd ((hon 2 (by kernel_rfl)).symm.trans h0_) (by decide), (by repeat (first | (with_reducible first | exact HK.out | apply KeepBut.set_ | apply keep_drewN | apply keep_drew | apply keep_alloc) | exact HK.out)), (by repeat (first | (with_reducible first | exact HB.out | apply below_alloc | apply pw_below_drewN | apply below_drew1 | refine below_set ?_ (IsS57.ge HI0.out)) | exact HB.out)), z_HO131, Q_HA_HO131, fun _ h1_ => absurd ((up_self b 8).symm.trans h1_) (by decide), fun _ => (by repeat (first | (with_reducible first | exact HI0.out | apply IsS57.alloc | apply IsS57.drewN | apply IsS57.drew | apply IsS57.set_1) | exact HI0.out)), Q_X3_⟩
          refine steps_cons ?_ ?_
          ·rintro b a w' ⟨v130, adz_v130, m3_, ha, Q_HI0, Q_HK, Q_HB, Q_HO131, Q_HA_HO131, Q_HI0_e2, Q_HI0_e8, Q_X3_⟩ hb_ hon hoff
           refine ⟨_, rfl, fun K hK => ?_⟩
           have e32 : a.tmps[32]? = some (.string (rdOf ByteArray.empty y129 t132)) := by rw [ha]; exact putSel_on (e := (4, 32, .string (rdOf ByteArray.empty y129 t132))) 3 rfl rfl (hon 4 (by kernel_rfl)) rfl
           have e36 : a.tmps[36]? = some (.string t135) := by rw [ha]; exact putSel_on (e := (8, 36, .string t135)) 5 rfl rfl (hon 8 (by kernel_rfl)) rfl
           replace ha := Aside0.mk ha
           have HK := Aside0.mk Q_HK
           have HB := Aside0.mk Q_HB
           have HO131 := Aside0.mk (Q_HO131 (hon 0 (by kernel_rfl)))
           have HA_HO131 := Aside0.mk (Q_HA_HO131 (hon 0 (by kernel_rfl)))
           have HI0 := Aside0.mk (Q_HI0_e8 (hon 8 (by kernel_rfl)))
           refine value_ (w1 := w') (v := .string ((rdOf ByteArray.empty y129 t132) ++ t135)) (by rfl) rfl ?_ ?_
           ·go_simp
            (try simp only [i64_w])
            try rfl
           refine hK.out _ _ ⟨v130, adz_v130, m3_, (by rw [ha.out]; exact putSel_upk 6 hb_ rfl rfl rfl), fun h0_ => absurd ((hon 2 (by kernel_rfl)).symm.trans h0_) (by decide), Q_HK, Q_HB, Q_HO131, Q_HA_HO131, fun _ h1_ => absurd ((hon 8 (by kernel_rfl)).symm.trans h1_) (by decide), Q_HI0_e8, Q_X3_⟩
          refine steps_cons ?_ ?_
          ·rintro b a w' ⟨v130, adz_v130, m3_, ha, Q_HI0, Q_HK, Q_HB, Q_HO131, Q_HA_HO131, Q_HI0_e2, Q_HI0_e8, Q_X3_⟩ hb_ hon hoff
           refine ⟨_, rfl, fun K hK => ?_⟩
           have e37 : a.tmps[37]? = some (.string ((rdOf ByteArray.empty y129 t132) ++ t135)) := by rw [ha]; exact putSel_on (e := (9, 37, .string ((rdOf ByteArray.empty y129 t132) ++ t135))) 6 rfl rfl (hon 9 (by kernel_rfl)) rfl
           replace ha := Aside0.mk ha
           have HK := Aside0.mk Q_HK
           have HB := Aside0.mk Q_HB
           have HO131 := Aside0.mk (Q_HO131 (hon 0 (by kernel_rfl)))
           have HA_HO131 := Aside0.mk (Q_HA_HO131 (hon 0 (by kernel_rfl)))
           have HI0 := Aside0.mk (Q_HI0_e8 (hon 8 (by kernel_rfl)))
           refine value_ (w1 := w') (v := .string ((rdOf ByteArray.empty y129 t132) ++ t135)) (by rfl) rfl ?_ ?_
           ·go_simp
            (try simp only [i64_w])
            try rfl
           refine hK.out _ _ ⟨v130, adz_v130, m3_, (by rw [ha.out]; exact putSel_upk 7 hb_ rfl rfl rfl), fun h0_ => absurd ((hon 2 (by kernel_rfl)).symm.trans h0_) (by decide), Q_HK, Q_HB, Q_HO131, Q_HA_HO131, fun _ h1_ => absurd ((hon 8 (by kernel_rfl)).symm.trans h1_) (by decide), Q_HI0_e8, Q_X3_⟩
          exact steps_nil
         rintro b a w34 hall ⟨v130, adz_v130, m3_, ha, Q_HI0, Q_HK, Q_HB, Q_HO131, Q_HA_HO131, Q_HI0_e2, Q_HI0_e8, Q_X3_⟩
         clear HB HI0 HK
         have hb0_ := hall 0 (by kernel_rfl)
         have hb2_ := hall 2 (by kernel_rfl)
         have hb3_ := hall 3 (by kernel_rfl)
         have hb4_ := hall 4 (by kernel_rfl)
         have hb7_ := hall 7 (by kernel_rfl)
         have hb8_ := hall 8 (by kernel_rfl)
         have hb9_ := hall 9 (by kernel_rfl)
         have hb10_ := hall 10 (by kernel_rfl)
         subst ha
         obtain rfl := Q_X3_ hb3_
         simp only [putSel, hb0_, hb2_, hb3_, hb4_, hb7_, hb8_, hb9_, hb10_, if_true, Act.put, List.setIfInBounds_toArray, List.set_cons_zero, List.set_cons_succ]
         clear Q_HI0
         have HK := Aside0.mk Q_HK
         clear Q_HK
         have HB := Aside0.mk Q_HB
         clear Q_HB
         have HO131 := Aside0.mk (Q_HO131 hb0_)
         clear Q_HO131
         have HA_HO131 := Aside0.mk (Q_HA_HO131 hb0_)
         clear Q_HA_HO131
         clear Q_HI0_e2
         have HI0 := Aside0.mk (Q_HI0_e8 hb8_)
         clear Q_HI0_e8
         clear hall hb0_ hb2_ hb3_ hb4_ hb7_ hb8_ hb9_ hb10_
         obtain ⟨co35, eo35⟩ := HA_HO131.out
         clear HA_HO131
         subst eo35
         try go_wp2
         go_ret
         exact ⟨by first | rfl | (simp [errW_none, errW_some] <;> rfl) | (simp [*, errW_none, errW_some] <;> rfl), by repeat (first | (with_reducible first | exact HI0.out | apply IsS57.alloc | apply IsS57.drewN | apply IsS57.drew | apply IsS57.set_1) | exact HI0.out), by repeat (first | (with_reducible first | exact HB.out | apply below_alloc | apply pw_below_drewN | apply below_drew1 | refine below_set ?_ (IsS57.ge HI0.out)) | exact HB.out), by repeat (first | (with_reducible first | exact HK.out | apply KeepBut.set_ | apply keep_drewN | apply keep_drew | apply keep_alloc) | exact HK.out)⟩
        ·rw [if_neg c26] at H
         exact absurd H (by simp)
       ·rw [if_neg c24] at H
        exact absurd H (by simp)
      ·rw [if_neg c23] at H
       exact absurd H (by simp)
     ·rw [if_neg c21] at H
      have c21b0 : (t125 == 1) = false := beq_eq_false_iff_ne.mpr c21
      have c21b1 : (t125 != 1) = true := bne_iff_ne.mpr c21
      replace H := Option.bind_eq_some_iff.mp H
      obtain ⟨⟨t137, t138⟩, A360, H⟩ := H
      replace H : (if 1 + t137.size ≤ 9223372036854775807 then ((some (([(⟨#[43]⟩ : ByteArray), (⟨#[43]⟩ : ByteArray), (⟨#[46]⟩ : ByteArray), (⟨#[38]⟩ : ByteArray)] : List ByteArray) : List ByteArray)).bind fun y139 => ((spec_l6Rd_pick.f kj2 s0_0 t138 4).bind fun bt142 => (if 0 ≤ bt142.1 then (if bt142.1 < (y139.length : Int) then (if ((⟨#[40]⟩ : ByteArray) ++ t137).size + (rdOf ByteArray.empty y139 bt142.1).size ≤ 9223372036854775807 then ((spec_l91Term.f kj2 s0_0 bt142.2 (wrap64 (a1 - 1))).bind fun bt145 => (if (((⟨#[40]⟩ : ByteArray) ++ t137) ++ (rdOf ByteArray.empty y139 bt142.1)).size + bt145.1.size ≤ 9223372036854775807 then (if ((((⟨#[40]⟩ : ByteArray) ++ t137) ++ (rdOf ByteArray.empty y139 bt142.1)) ++ bt145.1).size + 1 ≤ 9223372036854775807 then (some (((((⟨#[40]⟩ : ByteArray) ++ t137) ++ (rdOf ByteArray.empty y139 bt142.1)) ++ bt145.1) ++ (⟨#[41]⟩ : ByteArray), bt145.2)) else (none)) else (none))) else (none)) else (none)) else (none)))) else (none)) = some (r1, r2) := H
      have A36 := Aside0.mk A360
      clear A360
      by_cases c37 : 1 + t137.size ≤ 9223372036854775807
      ·rw [if_pos c37] at H
       have c37b0 := eq_true c37
       have c37b1 : decide (1 + t137.size ≤ 9223372036854775807) = true := decide_eq_true c37
       try have c37b2 : (9223372036854775807 < 1 + t137.size) = False := eq_false (Nat.not_lt.2 c37)
       obtain ⟨y139, hy139⟩ : ∃ y_ : List ByteArray, y_ = (([(⟨#[43]⟩ : ByteArray), (⟨#[43]⟩ : ByteArray), (⟨#[46]⟩ : ByteArray), (⟨#[38]⟩ : ByteArray)] : List ByteArray)) := ⟨_, rfl⟩
       replace H : ((spec_l6Rd_pick.f kj2 s0_0 t138 4).bind fun bt142 => (if 0 ≤ bt142.1 then (if bt142.1 < (y139.length : Int) then (if ((⟨#[40]⟩ : ByteArray) ++ t137).size + (rdOf ByteArray.empty y139 bt142.1).size ≤ 9223372036854775807 then ((spec_l91Term.f kj2 s0_0 bt142.2 (wrap64 (a1 - 1))).bind fun bt145 => (if (((⟨#[40]⟩ : ByteArray) ++ t137) ++ (rdOf ByteArray.empty y139 bt142.1)).size + bt145.1.size ≤ 9223372036854775807 then (if ((((⟨#[40]⟩ : ByteArray) ++ t137) ++ (rdOf ByteArray.empty y139 bt142.1)) ++ bt145.1).size + 1 ≤ 9223372036854775807 then (some (((((⟨#[40]⟩ : ByteArray) ++ t137) ++ (rdOf ByteArray.empty y139 bt142.1)) ++ bt145.1) ++ (⟨#[41]⟩ : ByteArray), bt145.2)) else (none)) else (none))) else (none)) else (none)) else (none))) = some (r1, r2) := by first | (rw [hy139]; with_reducible exact H) | (have H2_ := (Option.bind_some _ _).symm.trans H; rw [hy139]; with_reducible exact H2_) | (have H2_ := (Option.bind_some _ _).symm.trans H; with_reducible exact H2_) | with_reducible exact H | (rw [hy139]; exact H) | exact H
       have Ny139 := Aside0.mk hy139
       clear hy139
       replace H := Option.bind_eq_some_iff.mp H
       obtain ⟨⟨t142, t143⟩, A380, H⟩ := H
       replace H : (if 0 ≤ t142 then (if t142 < (y139.length : Int) then (if ((⟨#[40]⟩ : ByteArray) ++ t137).size + (rdOf ByteArray.empty y139 t142).size ≤ 9223372036854775807 then ((spec_l91Term.f kj2 s0_0 t143 (wrap64 (a1 - 1))).bind fun bt145 => (if (((⟨#[40]⟩ : ByteArray) ++ t137) ++ (rdOf ByteArray.empty y139 t142)).size + bt145.1.size ≤ 9223372036854775807 then (if ((((⟨#[40]⟩ : ByteArray) ++ t137) ++ (rdOf ByteArray.empty y139 t142)) ++ bt145.1).size + 1 ≤ 9223372036854775807 then (some (((((⟨#[40]⟩ : ByteArray) ++ t137) ++ (rdOf ByteArray.empty y139 t142)) ++ bt145.1) ++ (⟨#[41]⟩ : ByteArray), bt145.2)) else (none)) else (none))) else (none)) else (none)) else (none)) = some (r1, r2) := H
       have A38 := Aside0.mk A380
       clear A380
       by_cases c39 : 0 ≤ t142
       ·rw [if_pos c39] at H
        have c39b0 : decide (0 ≤ t142) = true := decide_eq_true c39
        clear c39
        by_cases c40 : t142 < (y139.length : Int)
        ·rw [if_pos c40] at H
         have c40b0 : decide (t142 < (y139.length : Int)) = true := decide_eq_true c40
         clear c40
         by_cases c41 : ((⟨#[40]⟩ : ByteArray) ++ t137).size + (rdOf ByteArray.empty y139 t142).size ≤ 9223372036854775807
         ·rw [if_pos c41] at H
          have c41b0 := eq_true c41
          have c41b1 : decide (((⟨#[40]⟩ : ByteArray) ++ t137).size + (rdOf ByteArray.empty y139 t142).size ≤ 9223372036854775807) = true := decide_eq_true c41
          try have c41b2 : (9223372036854775807 < ((⟨#[40]⟩ : ByteArray) ++ t137).size + (rdOf ByteArray.empty y139 t142).size) = False := eq_false (Nat.not_lt.2 c41)
          try have c41b3 := c41b2
          try simp only [ByteArray.size_append, show ∀ a : UInt8, (ByteArray.mk #[a]).size = 1 from fun _ => rfl] at c41b3
          try have c41b4 := c41b2
          try simp only [ByteArray.size_append, ByteArray.size_extract, show ∀ a : UInt8, (ByteArray.mk #[a]).size = 1 from fun _ => rfl, Nat.min_self, Nat.add_sub_cancel] at c41b4
          replace H := Option.bind_eq_some_iff.mp H
          obtain ⟨⟨t145, t146⟩, A420, H⟩ := H
          replace H : (if (((⟨#[40]⟩ : ByteArray) ++ t137) ++ (rdOf ByteArray.empty y139 t142)).size + t145.size ≤ 9223372036854775807 then (if ((((⟨#[40]⟩ : ByteArray) ++ t137) ++ (rdOf ByteArray.empty y139 t142)) ++ t145).size + 1 ≤ 9223372036854775807 then (some (((((⟨#[40]⟩ : ByteArray) ++ t137) ++ (rdOf ByteArray.empty y139 t142)) ++ t145) ++ (⟨#[41]⟩ : ByteArray), t146)) else (none)) else (none)) = some (r1, r2) := H
          have A42 := Aside0.mk A420
          clear A420
          by_cases c43 : (((⟨#[40]⟩ : ByteArray) ++ t137) ++ (rdOf ByteArray.empty y139 t142)).size + t145.size ≤ 9223372036854775807
          ·rw [if_pos c43] at H
           have c43b0 := eq_true c43
           have c43b1 : decide ((((⟨#[40]⟩ : ByteArray) ++ t137) ++ (rdOf ByteArray.empty y139 t142)).size + t145.size ≤ 9223372036854775807) = true := decide_eq_true c43
           try have c43b2 : (9223372036854775807 < (((⟨#[40]⟩ : ByteArray) ++ t137) ++ (rdOf ByteArray.empty y139 t142)).size + t145.size) = False := eq_false (Nat.not_lt.2 c43)
           try have c43b3 := c43b2
           try simp only [ByteArray.size_append, show ∀ a : UInt8, (ByteArray.mk #[a]).size = 1 from fun _ => rfl] at c43b3
           try have c43b4 := c43b2
           try simp only [ByteArray.size_append, ByteArray.size_extract, show ∀ a : UInt8, (ByteArray.mk #[a]).size = 1 from fun _ => rfl, Nat.min_self, Nat.add_sub_cancel] at c43b4
           by_cases c44 : ((((⟨#[40]⟩ : ByteArray) ++ t137) ++ (rdOf ByteArray.empty y139 t142)) ++ t145).size + 1 ≤ 9223372036854775807
           ·rw [if_pos c44] at H
            have c44b0 := eq_true c44
            have c44b1 : decide (((((⟨#[40]⟩ : ByteArray) ++ t137) ++ (rdOf ByteArray.empty y139 t142)) ++ t145).size + 1 ≤ 9223372036854775807) = true := decide_eq_true c44
            try have c44b2 : (9223372036854775807 < ((((⟨#[40]⟩ : ByteArray) ++ t137) ++ (rdOf ByteArray.empty y139 t142)) ++ t145).size + 1) = False := eq_false (Nat.not_lt.2 c44)
            try have c44b3 := c44b2
            try simp only [ByteArray.size_append, show ∀ a : UInt8, (ByteArray.mk #[a]).size = 1 from fun _ => rfl] at c44b3
            try have c44b4 := c44b2
            try simp only [ByteArray.size_append, ByteArray.size_extract, show ∀ a : UInt8, (ByteArray.mk #[a]).size = 1 from fun _ => rfl, Nat.min_self, Nat.add_sub_cancel] at c44b4
            simp only [Option.some.injEq, Prod.mk.injEq] at H
            obtain ⟨rfl, rfl⟩ := H
            try go_wp2_with (first | ((with_reducible refine gate_callee (f := 40) rfl ?_); refine goesL_ (some 18) rfl rfl Try.func40 (by kernel_rfl) rfl #[.pointer (some ⟨g, 0, none⟩), .int .i64 6] rfl (by (try simp only [List.map_toArray, List.map_cons, List.map_nil]); first | done | rfl | (simp only [List.length_drop, List.length_take]; rfl)) ?_; (with_reducible refine (spec_l6Rd_pick.calls kj2 g s0_0 x1001_2 6 t125 t126 w0 _ ?side1 ?side2 A15.out).mono ?_); (case side1 => repeat (first | (with_reducible first | exact HI0.out | apply IsS57.alloc | apply IsS57.drewN | apply IsS57.drew | apply IsS57.set_1) | exact HI0.out)); (case side2 => repeat (first | (with_reducible first | exact HB.out | apply below_alloc | apply pw_below_drewN | apply below_drew1 | refine below_set ?_ (IsS57.ge HI0.out)) | exact HB.out)); rintro e w45 ⟨rfl, hi, hb, hk⟩; refine ⟨_, rfl, ?_⟩; have n0_ := Aside0.mk (KeepBut.trans (by repeat (first | (with_reducible first | exact HK.out | apply KeepBut.set_ | apply keep_drewN | apply keep_drew | apply keep_alloc) | exact HK.out)) hk (.inl rfl)); have n1_ := Aside0.mk (hb); have n2_ := Aside0.mk (hi); clear HK; clear HB; clear HI0; have HK := n0_; have HB := n1_; have HI0 := n2_; clear n0_ n1_ n2_; (try clear hb); (try clear hb2); (try clear hk); (try clear hi)))
            have pi144 : (0 ≤ (t142 : Int)) = True := eq_true (of_decide_eq_true (by first | (with_reducible assumption) | assumption))
            have qi144 : (t142 < (y139.length : Int)) = True := eq_true (of_decide_eq_true (by first | (with_reducible assumption) | assumption))
            have n0_ := Aside0.mk (IsS57.drew HI0.out)
            have n1_ := Aside0.mk (keep_drew HK.out)
            have n2_ := Aside0.mk (below_drew1 HB.out)
            clear HI0
            clear HK
            clear HB
            have HI0 := n0_
            have HK := n1_
            have HB := n2_
            clear n0_ n1_ n2_
            refine start_ (n := 18) (S := fun w' => True) (ds := []) #[false, false, false, false, false, false, false, false, false, false, false, false, false, false, false, false, false, false] (by kernel_rfl) rfl rfl trivial (fun hHeld => ?_); refine with_tabW spec_l91Term.tab8 spec_l91Term.bits8 (fun HT_ HW_ => ?_)
            generalize w45.drew = w46 at HI0 HK HB hHeld ⊢
            refine pure_ (i := 0) (N := some 38) (v := ?_) (a' := ?_) #[true, false, false, false, false, false, false, false, false, false, false, false, false, false, false, false, false, false] rfl rfl (any_of HT_.out (by kernel_rfl)) (fun _ _ _ h => h) (Or.inl ⟨by rfl, ?_⟩) ?_ ?_
            rotate_left
            ·intro w'
             go_simp
             with_reducible rfl
            rotate_left
            ·simp only [Act.put, List.setIfInBounds_toArray, List.set_cons_zero, List.set_cons_succ, i64_w, i32_w]
             rfl
            refine pure_ (i := 1) (N := some 39) (v := ?_) (a' := ?_) #[true, true, false, false, false, false, false, false, false, false, false, false, false, false, false, false, false, false] rfl rfl (any_of HT_.out (by kernel_rfl)) (fun _ _ _ h => h) (Or.inl ⟨by rfl, ?_⟩) ?_ ?_
            rotate_left
            ·intro w'
             go_simp
             with_reducible rfl
            rotate_left
            ·simp only [Act.put, List.setIfInBounds_toArray, List.set_cons_zero, List.set_cons_succ, i64_w, i32_w]
             rfl
            refine pure_ (i := 6) (N := some 44) (v := ?_) (a' := ?_) #[true, true, false, false, false, false, true, false, false, false, false, false, false, false, false, false, false, false] rfl rfl (any_of HT_.out (by kernel_rfl)) (fun _ _ _ h => h) (Or.inl ⟨by rfl, ?_⟩) ?_ ?_
            rotate_left
            ·intro w'
             go_simp
             with_reducible rfl
            rotate_left
            ·simp only [Act.put, List.setIfInBounds_toArray, List.set_cons_zero, List.set_cons_succ, i64_w, i32_w]
             rfl
            refine pure_ (i := 11) (N := some 49) (v := ?_) (a' := ?_) #[true, true, false, false, false, false, true, false, false, false, false, true, false, false, false, false, false, false] rfl rfl (any_of HT_.out (by kernel_rfl)) (fun _ _ _ h => h) (Or.inl ⟨by rfl, ?_⟩) ?_ ?_
            rotate_left
            ·intro w'
             go_simp
             with_reducible rfl
            rotate_left
            ·simp only [Act.put, List.setIfInBounds_toArray, List.set_cons_zero, List.set_cons_succ, i64_w, i32_w]
             rfl
            refine pure_ (i := 12) (N := some 50) (v := ?_) (a' := ?_) #[true, true, false, false, false, false, true, false, false, false, false, true, true, false, false, false, false, false] rfl rfl (any_of HT_.out (by kernel_rfl)) (fun _ _ _ h => h) (Or.inl ⟨by rfl, ?_⟩) ?_ ?_
            rotate_left
            ·intro w'
             go_simp
             with_reducible rfl
            rotate_left
            ·simp only [Act.put, List.setIfInBounds_toArray, List.set_cons_zero, List.set_cons_succ, i64_w, i32_w]
             rfl
            refine inv_at [2, 3, 4, 5, 7, 8, 9, 10, 13, 14, 15, 16, 17] (fun a0_ b a w' => ∃ (v140 : Value) (adz_v140 : Addr) (m8_ : Value), a = putSel a0_ b [(2, 40, .int .i64 (wrap64 (a1 - 1))), (3, 41, .string t137), (4, 42, .string ((⟨#[40]⟩ : ByteArray) ++ t137)), (5, 43, v140), (7, 45, .int .i64 t142), (8, 46, m8_), (9, 47, .string (rdOf ByteArray.empty y139 t142)), (10, 48, .string (((⟨#[40]⟩ : ByteArray) ++ t137) ++ (rdOf ByteArray.empty y139 t142))), (13, 51, .int .i64 (wrap64 (a1 - 1))), (14, 52, .string t145), (15, 53, .string ((((⟨#[40]⟩ : ByteArray) ++ t137) ++ (rdOf ByteArray.empty y139 t142)) ++ t145)), (16, 54, .string (((((⟨#[40]⟩ : ByteArray) ++ t137) ++ (rdOf ByteArray.empty y139 t142)) ++ t145) ++ (⟨#[41]⟩ : ByteArray))), (17, 4, .string (((((⟨#[40]⟩ : ByteArray) ++ t137) ++ (rdOf ByteArray.empty y139 t142)) ++ t145) ++ (⟨#[41]⟩ : ByteArray)))] ∧ (b 3 = false → IsS57 w0 w' g s0_0 t126) ∧ (KeepBut w w' g none) ∧ (Below w0.heap.size w0 w') ∧ (b 3 = true → b 7 = false → IsS57 w0 w' g s0_0 t138) ∧ (b 5 = true → Kd.R Kd.string 9 w' w.heap.size (fun _ => True) v140 y139) ∧ (b 5 = true → ∃ c_, (v140 : Value) = .slice (some adz_v140) y139.length c_) ∧ (b 7 = true → b 14 = false → IsS57 w0 w' g s0_0 t143) ∧ (b 14 = true → IsS57 w0 w' g s0_0 t146) ∧ (b 8 = true → (m8_ : Value) = .pointer (some (adz_v140.add (t142).toNat)))) HT_.out HW_.out (by kernel_rfl) (by kernel_rfl) ?_ ?_ ?_
            ·exact ⟨.bool false, ⟨0, 0, none⟩, .bool false, by simp only [putSel, Bool.false_eq_true, if_false], fun _ => HI0.out, HK.out, HB.out, fun h_ => absurd h_ (by decide), fun h_ => absurd h_ (by decide), fun h_ => absurd h_ (by decide), fun h_ => absurd h_ (by decide), fun h_ => absurd h_ (by decide), fun h_ => absurd h_ (by decide)⟩
            ·skip
             clear HB HI0 HK
             refine steps_cons ?_ ?_
             ·rintro b a w' ⟨v140, adz_v140, m8_, ha, Q_HI0, Q_HK, Q_HB, Q_HI0_e3, Q_HO141, Q_HA_HO141, Q_HI0_e7, Q_HI0_e14, Q_X8_⟩ hb_ hon hoff
              refine ⟨_, rfl, fun K hK => ?_⟩
              have e39 : a.tmps[39]? = some (.int .i64 a1) := by rw [ha]; exact (putSel_off rfl).trans rfl
              replace ha := Aside0.mk ha
              have HI0 := Aside0.mk (Q_HI0 (hoff 3 (by kernel_rfl)))
              have HK := Aside0.mk Q_HK
              have HB := Aside0.mk Q_HB
              refine value_ (w1 := w') (v := .int .i64 (wrap64 (a1 - 1))) (by rfl) rfl ?_ ?_
              ·go_simp
               (try simp only [i64_w])
               try rfl
              refine hK.out _ _ ⟨v140, adz_v140, m8_, (by rw [ha.out]; exact putSel_upk 0 hb_ rfl rfl rfl), Q_HI0, Q_HK, Q_HB, fun h0_ _ => absurd ((hoff 3 (by kernel_rfl)).symm.trans h0_) (by decide), Q_HO141, Q_HA_HO141, fun h0_ _ => absurd ((hoff 7 (by kernel_rfl)).symm.trans h0_) (by decide), fun h0_ => absurd ((hoff 14 (by kernel_rfl)).symm.trans h0_) (by decide), fun h0_ => absurd ((hoff 8 (by kernel_rfl)).symm.trans h0_) (by decide)⟩
             refine steps_cons ?_ ?_
             ·rintro b a w' ⟨v140, adz_v140, m8_, ha, Q_HI0, Q_HK, Q_HB, Q_HI0_e3, Q_HO141, Q_HA_HO141, Q_HI0_e7, Q_HI0_e14, Q_X8_⟩ hb_ hon hoff
              refine ⟨_, rfl, fun K hK => ?_⟩
              have e38 : a.tmps[38]? = some (.pointer (some ⟨g, 0, none⟩)) := by rw [ha]; exact (putSel_off rfl).trans rfl
              have e40 : a.tmps[40]? = some (.int .i64 (wrap64 (a1 - 1))) := by rw [ha]; exact putSel_on (e := (2, 40, .int .i64 (wrap64 (a1 - 1)))) 0 rfl rfl (hon 2 (by kernel_rfl)) rfl
              replace ha := Aside0.mk ha
              have HI0 := Aside0.mk (Q_HI0 hb_)
              have HK := Aside0.mk Q_HK
              have HB := Aside0.mk Q_HB
              refine goes_ Try.func39 (by kernel_rfl) rfl #[.pointer (some ⟨g, 0, none⟩), .int .i64 (wrap64 (a1 - 1))] (by rfl) rfl rfl (by first | (simp only [List.map_toArray, List.map_cons, List.map_nil, Act.eval, Array.getD_eq_getD_getElem?, Option.getD_some, e38, e40]; done) | (simp only [List.map_toArray, List.map_cons, List.map_nil, Act.eval, Array.getD_eq_getD_getElem?, Option.getD_some, e38, e40]; rfl)) ?_
              with_reducible refine (ih kj2 (by have := HJ2.out; omega) g s0_0 t126 (wrap64 (a1 - 1)) t137 t138 w0 _ ?side1 ?side2 A36.out).mono ?_
              (case side1 => repeat (first | (with_reducible first | exact HI0.out | apply IsS57.alloc | apply IsS57.drewN | apply IsS57.drew | apply IsS57.set_1) | exact HI0.out))
              (case side2 => repeat (first | (with_reducible first | exact HB.out | apply below_alloc | apply pw_below_drewN | apply below_drew1 | refine below_set ?_ (IsS57.ge HI0.out)) | exact HB.out))
              rintro e w47 ⟨rfl, hi, hb, hk⟩
              refine ⟨_, rfl, ?_⟩
              have n0_ := Aside0.mk (KeepBut.trans (by repeat (first | (with_reducible first | exact HK.out | apply KeepBut.set_ | apply keep_drewN | apply keep_drew | apply keep_alloc) | exact HK.out)) hk (.inl rfl))
              have n1_ := Aside0.mk (hb)
              have n2_ := Aside0.mk (hi)
              have z_HO141 := fun (h0_ : b 5 = true) => (show Kd.R Kd.string 9 w47 w.heap.size (fun _ => True) v140 y139 from by first | exact (Kd.R_mono (Kd.R_keep (IsS57.apart (show IsS57 w0 _ g s0_0 t126 from by repeat (first | (with_reducible first | exact HI0.out | apply IsS57.alloc | apply IsS57.drewN | apply IsS57.drew | apply IsS57.set_1) | exact HI0.out)) (by (with_reducible repeat (first | apply Kd.R_alloc | apply Kd.R_drewN | apply Kd.R_drew)); exact (Q_HO141 h0_)) (by decide)) hk (fun _ h => h.2)) (fun _ h => h.1)) | exact Kd.R_mono (Kd.R_mono (Kd.R_keep (IsS57.apart (show IsS57 w0 _ g s0_0 t126 from by repeat (first | (with_reducible first | exact HI0.out | apply IsS57.alloc | apply IsS57.drewN | apply IsS57.drew | apply IsS57.set_1) | exact HI0.out)) (by (with_reducible repeat (first | apply Kd.R_alloc | apply Kd.R_drewN | apply Kd.R_drew)); exact (Q_HO141 h0_)) (by decide)) hk (fun _ h => h.2)) (fun _ h => h.1)) (fun _ h_ => by first | trivial | exact h_ | exact h_.1))
              clear HK
              clear HB
              clear HI0
              have HK := n0_
              have HB := n1_
              have HI0 := n2_
              clear n0_ n1_ n2_
              (try clear hb)
              (try clear hb2)
              (try clear hk)
              (try clear hi)
              refine hK.out _ _ ⟨v140, adz_v140, m8_, (by rw [ha.out]; exact putSel_upk 1 hb_ rfl rfl rfl), fun h0_ => absurd ((up_self b 3).symm.trans h0_) (by decide), (by repeat (first | (with_reducible first | exact HK.out | apply KeepBut.set_ | apply keep_drewN | apply keep_drew | apply keep_alloc) | exact HK.out)), (by repeat (first | (with_reducible first | exact HB.out | apply below_alloc | apply pw_below_drewN | apply below_drew1 | refine below_set ?_ (IsS57.ge HI0.out)) | exact HB.out)), fun _ _ => (by repeat (first | (with_reducible first | exact HI0.out | apply IsS57.alloc | apply IsS57.drewN | apply IsS57.drew | apply IsS57.set_1) | exact HI0.out)), z_HO141, Q_HA_HO141, fun h0_ _ => absurd ((hoff 7 (by kernel_rfl)).symm.trans h0_) (by decide), fun h0_ => absurd ((hoff 14 (by kernel_rfl)).symm.trans h0_) (by decide), fun h0_ => absurd ((hoff 8 (by kernel_rfl)).symm.trans h0_) (by decide)⟩
             refine steps_cons ?_ ?_
             ·rintro b a w' ⟨v140, adz_v140, m8_, ha, Q_HI0, Q_HK, Q_HB, Q_HI0_e3, Q_HO141, Q_HA_HO141, Q_HI0_e7, Q_HI0_e14, Q_X8_⟩ hb_ hon hoff
              refine ⟨_, rfl, fun K hK => ?_⟩
              have e41 : a.tmps[41]? = some (.string t137) := by rw [ha]; exact putSel_on (e := (3, 41, .string t137)) 1 rfl rfl (hon 3 (by kernel_rfl)) rfl
              replace ha := Aside0.mk ha
              have HK := Aside0.mk Q_HK
              have HB := Aside0.mk Q_HB
              refine value_ (w1 := w') (v := .string ((⟨#[40]⟩ : ByteArray) ++ t137)) (by rfl) rfl ?_ ?_
              ·go_simp
               (try simp only [i64_w])
               try rfl
              refine hK.out _ _ ⟨v140, adz_v140, m8_, (by rw [ha.out]; exact putSel_upk 2 hb_ rfl rfl rfl), fun h0_ => absurd ((hon 3 (by kernel_rfl)).symm.trans h0_) (by decide), Q_HK, Q_HB, Q_HI0_e3, Q_HO141, Q_HA_HO141, Q_HI0_e7, Q_HI0_e14, Q_X8_⟩
             refine steps_cons ?_ ?_
             ·rintro b a w' ⟨v140, adz_v140, m8_, ha, Q_HI0, Q_HK, Q_HB, Q_HI0_e3, Q_HO141, Q_HA_HO141, Q_HI0_e7, Q_HI0_e14, Q_X8_⟩ hb_ hon hoff
              refine ⟨_, rfl, fun K hK => ?_⟩
              replace ha := Aside0.mk ha
              have HK := Aside0.mk Q_HK
              have HB := Aside0.mk Q_HB
              refine Kd.R_lit_step Kd.string _ 9 ?hg (N := 43) ?hd (xs := ([(⟨#[43]⟩ : ByteArray), (⟨#[43]⟩ : ByteArray), (⟨#[46]⟩ : ByteArray), (⟨#[38]⟩ : ByteArray)] : List ByteArray)) (inner := [.string (⟨#[43]⟩ : ByteArray), .string (⟨#[43]⟩ : ByteArray), .string (⟨#[46]⟩ : ByteArray), .string (⟨#[38]⟩ : ByteArray)]) (ok := fun _ => True) (okp := fun _ => True) ?hr ?hp (fun _ hk => hk) trivial (Below.refl _ _) (Nat.le_refl _) (by simp) ?_; (case hd => rfl); (case hg => rfl); (case hr => first | (go_simp; done) | (go_simp; rfl)); (case hp => exact (Reps.one (show Kd.M Kd.string _ _ _ (⟨#[43]⟩ : ByteArray) [.string (⟨#[43]⟩ : ByteArray)] from rfl) (Reps.one (show Kd.M Kd.string _ _ _ (⟨#[43]⟩ : ByteArray) [.string (⟨#[43]⟩ : ByteArray)] from rfl) (Reps.one (show Kd.M Kd.string _ _ _ (⟨#[46]⟩ : ByteArray) [.string (⟨#[46]⟩ : ByteArray)] from rfl) (Reps.one (show Kd.M Kd.string _ _ _ (⟨#[38]⟩ : ByteArray) [.string (⟨#[38]⟩ : ByteArray)] from rfl) (Reps.none _ _))))))
              intro v140 w47 ho48 hb hg_ hnew_
              clear hg_ hnew_
              (first | rw [← Ny139.out] at ho48 | (simp only [Int.reduceToNat] at ho48; rw [← Ny139.out] at ho48))
              have n0_ := Aside0.mk (Kd.R_lower ho48 (keep_size (w := w) (g := g) (row := none) (by repeat (first | (with_reducible first | exact HK.out | apply KeepBut.set_ | apply keep_drewN | apply keep_drew | apply keep_alloc) | exact HK.out))))
              have n2_ := Aside0.mk (KeepBut.trans (by repeat (first | (with_reducible first | exact HK.out | apply KeepBut.set_ | apply keep_drewN | apply keep_drew | apply keep_alloc) | exact HK.out)) (KeepBut.of_below hb g none) (.inl rfl))
              have n3_ := Aside0.mk (below_step (by repeat (first | (with_reducible first | exact HB.out | apply below_alloc | apply pw_below_drewN | apply below_drew1) | exact HB.out)) hb)
              have z_HI0 := fun (h0_ : b 3 = false) => (show IsS57 w0 w47 g s0_0 t126 from by first | exact (IsS57.below (by repeat (first | (with_reducible first | exact (Q_HI0 h0_) | apply IsS57.alloc | apply IsS57.drewN | apply IsS57.drew | apply IsS57.set_1) | exact (Q_HI0 h0_))) hb))
              have z_HI0_e3 := fun (h0_ : b 3 = true) (h1_ : b 7 = false) => (show IsS57 w0 w47 g s0_0 t138 from by first | exact (IsS57.below (by repeat (first | (with_reducible first | exact (Q_HI0_e3 h0_ h1_) | apply IsS57.alloc | apply IsS57.drewN | apply IsS57.drew | apply IsS57.set_1) | exact (Q_HI0_e3 h0_ h1_))) hb))
              have z_HI0_e7 := fun (h0_ : b 7 = true) (h1_ : b 14 = false) => (show IsS57 w0 w47 g s0_0 t143 from by first | exact (IsS57.below (by repeat (first | (with_reducible first | exact (Q_HI0_e7 h0_ h1_) | apply IsS57.alloc | apply IsS57.drewN | apply IsS57.drew | apply IsS57.set_1) | exact (Q_HI0_e7 h0_ h1_))) hb))
              have z_HI0_e14 := fun (h0_ : b 14 = true) => (show IsS57 w0 w47 g s0_0 t146 from by first | exact (IsS57.below (by repeat (first | (with_reducible first | exact (Q_HI0_e14 h0_) | apply IsS57.alloc | apply IsS57.drewN | apply IsS57.drew | apply IsS57.set_1) | exact (Q_HI0_e14 h0_))) hb))
              clear HK
              clear HB
              have HO141 := n0_
              have HK := n2_
              have HB := n3_
              clear n0_ n2_ n3_
              clear hb ho48
              obtain ⟨Ao49, co49, eo49⟩ := Kd.R_slice HO141.out
              subst eo49
              obtain ⟨ado49, fo49, _⟩ := Kd.at_string (Kd.R_reads' HO141.out).2.2 0 (by decide) (by rw [Ny139.out]; simp)
              cases fo49
              refine hK.out _ _ ⟨.slice (some ado49) y139.length co49, ado49, m8_, (by rw [ha.out]; exact putSel_upk 3 hb_ rfl rfl rfl), z_HI0, (by repeat (first | (with_reducible first | exact HK.out | apply KeepBut.set_ | apply keep_drewN | apply keep_drew | apply keep_alloc) | exact HK.out)), (by repeat (first | (with_reducible first | exact HB.out | apply below_alloc | apply pw_below_drewN | apply below_drew1) | exact HB.out)), z_HI0_e3, fun _ => (by (with_reducible repeat (first | apply Kd.R_alloc | apply Kd.R_drewN | apply Kd.R_drew)); exact HO141.out), fun _ => ⟨_, rfl⟩, z_HI0_e7, z_HI0_e14, fun h0_ => absurd ((hoff 8 (by kernel_rfl)).symm.trans h0_) (by decide)⟩
             refine steps_cons ?_ ?_
             ·rintro b a w' ⟨v140, adz_v140, m8_, ha, Q_HI0, Q_HK, Q_HB, Q_HI0_e3, Q_HO141, Q_HA_HO141, Q_HI0_e7, Q_HI0_e14, Q_X8_⟩ hb_ hon hoff
              refine ⟨_, rfl, fun K hK => ?_⟩
              have e44 : a.tmps[44]? = some (.pointer (some ⟨g, 0, none⟩)) := by rw [ha]; exact (putSel_off rfl).trans rfl
              replace ha := Aside0.mk ha
              have HK := Aside0.mk Q_HK
              have HB := Aside0.mk Q_HB
              have HI0 := Aside0.mk (Q_HI0_e3 (hon 3 (by kernel_rfl)) hb_)
              refine goes_ Try.func40 (by kernel_rfl) rfl #[.pointer (some ⟨g, 0, none⟩), .int .i64 4] (by rfl) rfl rfl (by first | (simp only [List.map_toArray, List.map_cons, List.map_nil, Act.eval, Array.getD_eq_getD_getElem?, Option.getD_some, e44]; done) | (simp only [List.map_toArray, List.map_cons, List.map_nil, Act.eval, Array.getD_eq_getD_getElem?, Option.getD_some, e44]; rfl)) ?_
              with_reducible refine (spec_l6Rd_pick.calls kj2 g s0_0 t138 4 t142 t143 w0 _ ?side1 ?side2 A38.out).mono ?_
              (case side1 => repeat (first | (with_reducible first | exact HI0.out | apply IsS57.alloc | apply IsS57.drewN | apply IsS57.drew | apply IsS57.set_1) | exact HI0.out))
              (case side2 => repeat (first | (with_reducible first | exact HB.out | apply below_alloc | apply pw_below_drewN | apply below_drew1 | refine below_set ?_ (IsS57.ge HI0.out)) | exact HB.out))
              rintro e w49 ⟨rfl, hi, hb, hk⟩
              refine ⟨_, rfl, ?_⟩
              have n0_ := Aside0.mk (KeepBut.trans (by repeat (first | (with_reducible first | exact HK.out | apply KeepBut.set_ | apply keep_drewN | apply keep_drew | apply keep_alloc) | exact HK.out)) hk (.inl rfl))
              have n1_ := Aside0.mk (hb)
              have n2_ := Aside0.mk (hi)
              have z_HO141 := fun (h0_ : b 5 = true) => (show Kd.R Kd.string 9 w49 w.heap.size (fun _ => True) v140 y139 from by first | exact (Kd.R_mono (Kd.R_keep (IsS57.apart (show IsS57 w0 _ g s0_0 t138 from by repeat (first | (with_reducible first | exact HI0.out | apply IsS57.alloc | apply IsS57.drewN | apply IsS57.drew | apply IsS57.set_1) | exact HI0.out)) (by (with_reducible repeat (first | apply Kd.R_alloc | apply Kd.R_drewN | apply Kd.R_drew)); exact (Q_HO141 h0_)) (by decide)) hk (fun _ h => h.2)) (fun _ h => h.1)) | exact Kd.R_mono (Kd.R_mono (Kd.R_keep (IsS57.apart (show IsS57 w0 _ g s0_0 t138 from by repeat (first | (with_reducible first | exact HI0.out | apply IsS57.alloc | apply IsS57.drewN | apply IsS57.drew | apply IsS57.set_1) | exact HI0.out)) (by (with_reducible repeat (first | apply Kd.R_alloc | apply Kd.R_drewN | apply Kd.R_drew)); exact (Q_HO141 h0_)) (by decide)) hk (fun _ h => h.2)) (fun _ h => h.1)) (fun _ h_ => by first | trivial | exact h_ | exact h_.1))
              clear HK
              clear HB
              clear HI0
              have HK := n0_
              have HB := n1_
              have HI0 := n2_
              clear n0_ n1_ n2_
              (try clear hb)
              (try clear hb2)
              (try clear hk)
              (try clear hi)
              refine hK.out _ _ ⟨v140, adz_v140, m8_, (by rw [ha.out]; exact putSel_upk 4 hb_ rfl rfl rfl), fun h0_ => absurd ((hon 3 (by kernel_rfl)).symm.trans h0_) (by decide), (by repeat (first | (with_reducible first | exact HK.out | apply KeepBut.set_ | apply keep_drewN | apply keep_drew | apply keep_alloc) | exact HK.out)), (by repeat (first | (with_reducible first | exact HB.out | apply below_alloc | apply pw_below_drewN | apply below_drew1 | refine below_set ?_ (IsS57.ge HI0.out)) | exact HB.out)), fun _ h1_ => absurd ((up_self b 7).symm.trans h1_) (by decide), z_HO141, Q_HA_HO141, fun _ _ => (by repeat (first | (with_reducible first | exact HI0.out | apply IsS57.alloc | apply IsS57.drewN | apply IsS57.drew | apply IsS57.set_1) | exact HI0.out)), fun h0_ => absurd ((hoff 14 (by kernel_rfl)).symm.trans h0_) (by decide), fun h0_ => absurd ((hoff 8 (by kernel_rfl)).symm.trans h0_) (by decide)⟩
             refine steps_cons ?_ ?_
             ·rintro b a w' ⟨v140, adz_v140, m8_, ha, Q_HI0, Q_HK, Q_HB, Q_HI0_e3, Q_HO141, Q_HA_HO141, Q_HI0_e7, Q_HI0_e14, Q_X8_⟩ hb_ hon hoff
              refine ⟨_, rfl, fun K hK => ?_⟩
              have e43 : a.tmps[43]? = some (v140) := by rw [ha]; exact putSel_on (e := (5, 43, v140)) 3 rfl rfl (hon 5 (by kernel_rfl)) rfl
              have e45 : a.tmps[45]? = some (.int .i64 t142) := by rw [ha]; exact putSel_on (e := (7, 45, .int .i64 t142)) 4 rfl rfl (hon 7 (by kernel_rfl)) rfl
              replace ha := Aside0.mk ha
              have HK := Aside0.mk Q_HK
              have HB := Aside0.mk Q_HB
              have HO141 := Aside0.mk (Q_HO141 (hon 5 (by kernel_rfl)))
              have HA_HO141 := Aside0.mk (Q_HA_HO141 (hon 5 (by kernel_rfl)))
              obtain ⟨c_, hv_⟩ := HA_HO141.out
              rw [hv_] at e43
              refine value_ (w1 := w') (v := .pointer (some (adz_v140.add (t142).toNat))) (by rfl) rfl ?_ ?_
              ·go_simp
               (try simp only [i64_w])
               try rfl
              refine hK.out _ _ ⟨v140, adz_v140, (.pointer (some (adz_v140.add (t142).toNat))), (by rw [ha.out]; exact putSel_upk 5 hb_ rfl rfl rfl), fun h0_ => absurd ((hon 3 (by kernel_rfl)).symm.trans h0_) (by decide), Q_HK, Q_HB, fun _ h1_ => absurd ((hon 7 (by kernel_rfl)).symm.trans h1_) (by decide), Q_HO141, Q_HA_HO141, Q_HI0_e7, Q_HI0_e14, fun _ => rfl⟩
             refine steps_cons ?_ ?_
             ·rintro b a w' ⟨v140, adz_v140, m8_, ha, Q_HI0, Q_HK, Q_HB, Q_HI0_e3, Q_HO141, Q_HA_HO141, Q_HI0_e7, Q_HI0_e14, Q_X8_⟩ hb_ hon hoff
              refine ⟨_, rfl, fun K hK => ?_⟩
              have e46 : a.tmps[46]? = some (m8_) := by rw [ha]; exact putSel_on (e := (8, 46, m8_)) 5 rfl rfl (hon 8 (by kernel_rfl)) rfl
              rw [Q_X8_ (hon 8 (by kernel_rfl))] at e46
              replace ha := Aside0.mk ha
              have HK := Aside0.mk Q_HK
              have HB := Aside0.mk Q_HB
              have HO141 := Aside0.mk (Q_HO141 (hon 5 (by kernel_rfl)))
              have HA_HO141 := Aside0.mk (Q_HA_HO141 (hon 5 (by kernel_rfl)))
              obtain ⟨c_, hv_⟩ := HA_HO141.out
              have hF_ := HO141.out
              rw [hv_] at hF_
              obtain ⟨ad_, ea_, hx_⟩ := Kd.at_string (Kd.R_reads' hF_).2.2 t142 (of_eq_true pi144) (of_eq_true qi144)
              cases ea_
              refine value_ (w1 := w') (v := .string (rdOf ByteArray.empty y139 t142)) (by rfl) rfl ?_ ?_
              ·go_simp
               (try simp only [i64_w])
               try rfl
              refine hK.out _ _ ⟨v140, adz_v140, m8_, (by rw [ha.out]; exact putSel_upk 6 hb_ rfl rfl rfl), fun h0_ => absurd ((hon 3 (by kernel_rfl)).symm.trans h0_) (by decide), Q_HK, Q_HB, fun _ h1_ => absurd ((hon 7 (by kernel_rfl)).symm.trans h1_) (by decide), Q_HO141, Q_HA_HO141, Q_HI0_e7, Q_HI0_e14, Q_X8_⟩
             refine steps_cons ?_ ?_
             ·rintro b a w' ⟨v140, adz_v140, m8_, ha, Q_HI0, Q_HK, Q_HB, Q_HI0_e3, Q_HO141, Q_HA_HO141, Q_HI0_e7, Q_HI0_e14, Q_X8_⟩ hb_ hon hoff
              refine ⟨_, rfl, fun K hK => ?_⟩
              have e42 : a.tmps[42]? = some (.string ((⟨#[40]⟩ : ByteArray) ++ t137)) := by rw [ha]; exact putSel_on (e := (4, 42, .string ((⟨#[40]⟩ : ByteArray) ++ t137))) 2 rfl rfl (hon 4 (by kernel_rfl)) rfl
              have e47 : a.tmps[47]? = some (.string (rdOf ByteArray.empty y139 t142)) := by rw [ha]; exact putSel_on (e := (9, 47, .string (rdOf ByteArray.empty y139 t142))) 6 rfl rfl (hon 9 (by kernel_rfl)) rfl
              replace ha := Aside0.mk ha
              have HK := Aside0.mk Q_HK
              have HB := Aside0.mk Q_HB
              have HO141 := Aside0.mk (Q_HO141 (hon 5 (by kernel_rfl)))
              have HA_HO141 := Aside0.mk (Q_HA_HO141 (hon 5 (by kernel_rfl)))
              refine value_ (w1 := w') (v := .string (((⟨#[40]⟩ : ByteArray) ++ t137) ++ (rdOf ByteArray.empty y139 t142))) (by rfl) rfl ?_ ?_
              ·go_simp
               (try simp only [i64_w])
               try rfl
              refine hK.out _ _ ⟨v140, adz_v140, m8_, (by rw [ha.out]; exact putSel_upk 7 hb_ rfl rfl rfl), fun h0_ => absurd ((hon 3 (by kernel_rfl)).symm.trans h0_) (by decide), Q_HK, Q_HB, fun _ h1_ => absurd ((hon 7 (by kernel_rfl)).symm.trans h1_) (by decide), Q_HO141, Q_HA_HO141, Q_HI0_e7, Q_HI0_e14, Q_X8_⟩
             refine steps_cons ?_ ?_
             ·rintro b a w' ⟨v140, adz_v140, m8_, ha, Q_HI0, Q_HK, Q_HB, Q_HI0_e3, Q_HO141, Q_HA_HO141, Q_HI0_e7, Q_HI0_e14, Q_X8_⟩ hb_ hon hoff
              refine ⟨_, rfl, fun K hK => ?_⟩
              have e50 : a.tmps[50]? = some (.int .i64 a1) := by rw [ha]; exact (putSel_off rfl).trans rfl
              replace ha := Aside0.mk ha
              have HK := Aside0.mk Q_HK
              have HB := Aside0.mk Q_HB
              refine value_ (w1 := w') (v := .int .i64 (wrap64 (a1 - 1))) (by rfl) rfl ?_ ?_
              ·go_simp
               (try simp only [i64_w])
               try rfl
              refine hK.out _ _ ⟨v140, adz_v140, m8_, (by rw [ha.out]; exact putSel_upk 8 hb_ rfl rfl rfl), Q_HI0, Q_HK, Q_HB, Q_HI0_e3, Q_HO141, Q_HA_HO141, Q_HI0_e7, fun h0_ => absurd ((hoff 14 (by kernel_rfl)).symm.trans h0_) (by decide), Q_X8_⟩
             refine steps_cons ?_ ?_
             ·rintro b a w' ⟨v140, adz_v140, m8_, ha, Q_HI0, Q_HK, Q_HB, Q_HI0_e3, Q_HO141, Q_HA_HO141, Q_HI0_e7, Q_HI0_e14, Q_X8_⟩ hb_ hon hoff
              refine ⟨_, rfl, fun K hK => ?_⟩
              have e49 : a.tmps[49]? = some (.pointer (some ⟨g, 0, none⟩)) := by rw [ha]; exact (putSel_off rfl).trans rfl
              have e51 : a.tmps[51]? = some (.int .i64 (wrap64 (a1 - 1))) := by rw [ha]; exact putSel_on (e := (13, 51, .int .i64 (wrap64 (a1 - 1)))) 8 rfl rfl (hon 13 (by kernel_rfl)) rfl
              replace ha := Aside0.mk ha
              have HK := Aside0.mk Q_HK
              have HB := Aside0.mk Q_HB
              have HI0 := Aside0.mk (Q_HI0_e7 (hon 7 (by kernel_rfl)) hb_)
              refine goes_ Try.func39 (by kernel_rfl) rfl #[.pointer (some ⟨g, 0, none⟩), .int .i64 (wrap64 (a1 - 1))] (by rfl) rfl rfl (by first | (simp only [List.map_toArray, List.map_cons, List.map_nil, Act.eval, Array.getD_eq_getD_getElem?, Option.getD_some, e49, e51]; done) | (simp only [List.map_toArray, List.map_cons, List.map_nil, Act.eval, Array.getD_eq_getD_getElem?, Option.getD_some, e49, e51]; rfl)) ?_
              with_reducible refine (ih kj2 (by have := HJ2.out; omega) g s0_0 t143 (wrap64 (a1 - 1)) t145 t146 w0 _ ?side1 ?side2 A42.out).mono ?_
              (case side1 => repeat (first | (with_reducible first | exact HI0.out | apply IsS57.alloc | apply IsS57.drewN | apply IsS57.drew | apply IsS57.set_1) | exact HI0.out))
              (case side2 => repeat (first | (with_reducible first | exact HB.out | apply below_alloc | apply pw_below_drewN | apply below_drew1 | refine below_set ?_ (IsS57.ge HI0.out)) | exact HB.out))
              rintro e w50 ⟨rfl, hi, hb, hk⟩
              refine ⟨_, rfl, ?_⟩
              have n0_ := Aside0.mk (KeepBut.trans (by repeat (first | (with_reducible first | exact HK.out | apply KeepBut.set_ | apply keep_drewN | apply keep_drew | apply keep_alloc) | exact HK.out)) hk (.inl rfl))
              have n1_ := Aside0.mk (hb)
              have n2_ := Aside0.mk (hi)
              have z_HO141 := fun (h0_ : b 5 = true) => (show Kd.R Kd.string 9 w50 w.heap.size (fun _ => True) v140 y139 from by first | exact (Kd.R_mono (Kd.R_keep (IsS57.apart (show IsS57 w0 _ g s0_0 t143 from by repeat (first | (with_reducible first | exact HI0.out | apply IsS57.alloc | apply IsS57.drewN | apply IsS57.drew | apply IsS57.set_1) | exact HI0.out)) (by (with_reducible repeat (first | apply Kd.R_alloc | apply Kd.R_drewN | apply Kd.R_drew)); exact (Q_HO141 h0_)) (by decide)) hk (fun _ h => h.2)) (fun _ h => h.1)) | exact Kd.R_mono (Kd.R_mono (Kd.R_keep (IsS57.apart (show IsS57 w0 _ g s0_0 t143 from by repeat (first | (with_reducible first | exact HI0.out | apply IsS57.alloc | apply IsS57.drewN | apply IsS57.drew | apply IsS57.set_1) | exact HI0.out)) (by (with_reducible repeat (first | apply Kd.R_alloc | apply Kd.R_drewN | apply Kd.R_drew)); exact (Q_HO141 h0_)) (by decide)) hk (fun _ h => h.2)) (fun _ h => h.1)) (fun _ h_ => by first | trivial | exact h_ | exact h_.1))
              clear HK
              clear HB
              clear HI0
              have HK := n0_
              have HB := n1_
              have HI0 := n2_
              clear n0_ n1_ n2_
              (try clear hb)
              (try clear hb2)
              (try clear hk)
              (try clear hi)
              refine hK.out _ _ ⟨v140, adz_v140, m8_, (by rw [ha.out]; exact putSel_upk 9 hb_ rfl rfl rfl), fun h0_ => absurd ((hon 3 (by kernel_rfl)).symm.trans h0_) (by decide), (by repeat (first | (with_reducible first | exact HK.out | apply KeepBut.set_ | apply keep_drewN | apply keep_drew | apply keep_alloc) | exact HK.out)), (by repeat (first | (with_reducible first | exact HB.out | apply below_alloc | apply pw_below_drewN | apply below_drew1 | refine below_set ?_ (IsS57.ge HI0.out)) | exact HB.out)), fun _ h1_ => absurd ((hon 7 (by kernel_rfl)).symm.trans h1_) (by decide), z_HO141, Q_HA_HO141, fun _ h1_ => absurd ((up_self b 14).symm.trans h1_) (by decide), fun _ => (by repeat (first | (with_reducible first | exact HI0.out | apply IsS57.alloc | apply IsS57.drewN | apply IsS57.drew | apply IsS57.set_1) | exact HI0.out)), Q_X8_⟩
             refine steps_cons ?_ ?_
             ·rintro b a w' ⟨v140, adz_v140, m8_, ha, Q_HI0, Q_HK, Q_HB, Q_HI0_e3, Q_HO141, Q_HA_HO141, Q_HI0_e7, Q_HI0_e14, Q_X8_⟩ hb_ hon hoff
              refine ⟨_, rfl, fun K hK => ?_⟩
              have e48 : a.tmps[48]? = some (.string (((⟨#[40]⟩ : ByteArray) ++ t137) ++ (rdOf ByteArray.empty y139 t142))) := by rw [ha]; exact putSel_on (e := (10, 48, .string (((⟨#[40]⟩ : ByteArray) ++ t137) ++ (rdOf ByteArray.empty y139 t142)))) 7 rfl rfl (hon 10 (by kernel_rfl)) rfl
              have e52 : a.tmps[52]? = some (.string t145) := by rw [ha]; exact putSel_on (e := (14, 52, .string t145)) 9 rfl rfl (hon 14 (by kernel_rfl)) rfl
              replace ha := Aside0.mk ha
              have HK := Aside0.mk Q_HK
              have HB := Aside0.mk Q_HB
              have HO141 := Aside0.mk (Q_HO141 (hon 5 (by kernel_rfl)))
              have HA_HO141 := Aside0.mk (Q_HA_HO141 (hon 5 (by kernel_rfl)))
              have HI0 := Aside0.mk (Q_HI0_e14 (hon 14 (by kernel_rfl)))
              refine value_ (w1 := w') (v := .string ((((⟨#[40]⟩ : ByteArray) ++ t137) ++ (rdOf ByteArray.empty y139 t142)) ++ t145)) (by rfl) rfl ?_ ?_
              ·go_simp
               (try simp only [i64_w])
               try rfl
              refine hK.out _ _ ⟨v140, adz_v140, m8_, (by rw [ha.out]; exact putSel_upk 10 hb_ rfl rfl rfl), fun h0_ => absurd ((hon 3 (by kernel_rfl)).symm.trans h0_) (by decide), Q_HK, Q_HB, fun _ h1_ => absurd ((hon 7 (by kernel_rfl)).symm.trans h1_) (by decide), Q_HO141, Q_HA_HO141, fun _ h1_ => absurd ((hon 14 (by kernel_rfl)).symm.trans h1_) (by decide), Q_HI0_e14, Q_X8_⟩
             refine steps_cons ?_ ?_
             ·rintro b a w' ⟨v140, adz_v140, m8_, ha, Q_HI0, Q_HK, Q_HB, Q_HI0_e3, Q_HO141, Q_HA_HO141, Q_HI0_e7, Q_HI0_e14, Q_X8_⟩ hb_ hon hoff
              refine ⟨_, rfl, fun K hK => ?_⟩
              have e53 : a.tmps[53]? = some (.string ((((⟨#[40]⟩ : ByteArray) ++ t137) ++ (rdOf ByteArray.empty y139 t142)) ++ t145)) := by rw [ha]; exact putSel_on (e := (15, 53, .string ((((⟨#[40]⟩ : ByteArray) ++ t137) ++ (rdOf ByteArray.empty y139 t142)) ++ t145))) 10 rfl rfl (hon 15 (by kernel_rfl)) rfl
              replace ha := Aside0.mk ha
              have HK := Aside0.mk Q_HK
              have HB := Aside0.mk Q_HB
              have HO141 := Aside0.mk (Q_HO141 (hon 5 (by kernel_rfl)))
              have HA_HO141 := Aside0.mk (Q_HA_HO141 (hon 5 (by kernel_rfl)))
              have HI0 := Aside0.mk (Q_HI0_e14 (hon 14 (by kernel_rfl)))
              refine value_ (w1 := w') (v := .string (((((⟨#[40]⟩ : ByteArray) ++ t137) ++ (rdOf ByteArray.empty y139 t142)) ++ t145) ++ (⟨#[41]⟩ : ByteArray))) (by rfl) rfl ?_ ?_
              ·go_simp
               (try simp only [i64_w])
               try rfl
              refine hK.out _ _ ⟨v140, adz_v140, m8_, (by rw [ha.out]; exact putSel_upk 11 hb_ rfl rfl rfl), fun h0_ => absurd ((hon 3 (by kernel_rfl)).symm.trans h0_) (by decide), Q_HK, Q_HB, fun _ h1_ => absurd ((hon 7 (by kernel_rfl)).symm.trans h1_) (by decide), Q_HO141, Q_HA_HO141, fun _ h1_ => absurd ((hon 14 (by kernel_rfl)).symm.trans h1_) (by decide), Q_HI0_e14, Q_X8_⟩
             refine steps_cons ?_ ?_
             ·rintro b a w' ⟨v140, adz_v140, m8_, ha, Q_HI0, Q_HK, Q_HB, Q_HI0_e3, Q_HO141, Q_HA_HO141, Q_HI0_e7, Q_HI0_e14, Q_X8_⟩ hb_ hon hoff
              refine ⟨_, rfl, fun K hK => ?_⟩
              have e54 : a.tmps[54]? = some (.string (((((⟨#[40]⟩ : ByteArray) ++ t137) ++ (rdOf ByteArray.empty y139 t142)) ++ t145) ++ (⟨#[41]⟩ : ByteArray))) := by rw [ha]; exact putSel_on (e := (16, 54, .string (((((⟨#[40]⟩ : ByteArray) ++ t137) ++ (rdOf ByteArray.empty y139 t142)) ++ t145) ++ (⟨#[41]⟩ : ByteArray)))) 11 rfl rfl (hon 16 (by kernel_rfl)) rfl
              replace ha := Aside0.mk ha
              have HK := Aside0.mk Q_HK
              have HB := Aside0.mk Q_HB
              have HO141 := Aside0.mk (Q_HO141 (hon 5 (by kernel_rfl)))
              have HA_HO141 := Aside0.mk (Q_HA_HO141 (hon 5 (by kernel_rfl)))
              have HI0 := Aside0.mk (Q_HI0_e14 (hon 14 (by kernel_rfl)))
              refine value_ (w1 := w') (v := .string (((((⟨#[40]⟩ : ByteArray) ++ t137) ++ (rdOf ByteArray.empty y139 t142)) ++ t145) ++ (⟨#[41]⟩ : ByteArray))) (by rfl) rfl ?_ ?_
              ·go_simp
               (try simp only [i64_w])
               try rfl
              refine hK.out _ _ ⟨v140, adz_v140, m8_, (by rw [ha.out]; exact putSel_upk 12 hb_ rfl rfl rfl), fun h0_ => absurd ((hon 3 (by kernel_rfl)).symm.trans h0_) (by decide), Q_HK, Q_HB, fun _ h1_ => absurd ((hon 7 (by kernel_rfl)).symm.trans h1_) (by decide), Q_HO141, Q_HA_HO141, fun _ h1_ => absurd ((hon 14 (by kernel_rfl)).symm.trans h1_) (by decide), Q_HI0_e14, Q_X8_⟩
             exact steps_nil
            rintro b a w53 hall ⟨v140, adz_v140, m8_, ha, Q_HI0, Q_HK, Q_HB, Q_HI0_e3, Q_HO141, Q_HA_HO141, Q_HI0_e7, Q_HI0_e14, Q_X8_⟩
            clear HB HI0 HK
            have hb2_ := hall 2 (by kernel_rfl)
            have hb3_ := hall 3 (by kernel_rfl)
            have hb4_ := hall 4 (by kernel_rfl)
            have hb5_ := hall 5 (by kernel_rfl)
            have hb7_ := hall 7 (by kernel_rfl)
            have hb8_ := hall 8 (by kernel_rfl)
            have hb9_ := hall 9 (by kernel_rfl)
            have hb10_ := hall 10 (by kernel_rfl)
            have hb13_ := hall 13 (by kernel_rfl)
            have hb14_ := hall 14 (by kernel_rfl)
            have hb15_ := hall 15 (by kernel_rfl)
            have hb16_ := hall 16 (by kernel_rfl)
            have hb17_ := hall 17 (by kernel_rfl)
            subst ha
            obtain rfl := Q_X8_ hb8_
            simp only [putSel, hb2_, hb3_, hb4_, hb5_, hb7_, hb8_, hb9_, hb10_, hb13_, hb14_, hb15_, hb16_, hb17_, if_true, Act.put, List.setIfInBounds_toArray, List.set_cons_zero, List.set_cons_succ]
            clear Q_HI0
            have HK := Aside0.mk Q_HK
            clear Q_HK
            have HB := Aside0.mk Q_HB
            clear Q_HB
            clear Q_HI0_e3
            have HO141 := Aside0.mk (Q_HO141 hb5_)
            clear Q_HO141
            have HA_HO141 := Aside0.mk (Q_HA_HO141 hb5_)
            clear Q_HA_HO141
            clear Q_HI0_e7
            have HI0 := Aside0.mk (Q_HI0_e14 hb14_)
            clear Q_HI0_e14
            clear hall hb2_ hb3_ hb4_ hb5_ hb7_ hb8_ hb9_ hb10_ hb13_ hb14_ hb15_ hb16_ hb17_
            obtain ⟨co54, eo54⟩ := HA_HO141.out
            clear HA_HO141
            subst eo54
            try go_wp2
            go_ret
            exact ⟨by first | rfl | (simp [errW_none, errW_some] <;> rfl) | (simp [*, errW_none, errW_some] <;> rfl), by repeat (first | (with_reducible first | exact HI0.out | apply IsS57.alloc | apply IsS57.drewN | apply IsS57.drew | apply IsS57.set_1) | exact HI0.out), by repeat (first | (with_reducible first | exact HB.out | apply below_alloc | apply pw_below_drewN | apply below_drew1 | refine below_set ?_ (IsS57.ge HI0.out)) | exact HB.out), by repeat (first | (with_reducible first | exact HK.out | apply KeepBut.set_ | apply keep_drewN | apply keep_drew | apply keep_alloc) | exact HK.out)⟩
           ·rw [if_neg c44] at H
            exact absurd H (by simp)
          ·rw [if_neg c43] at H
           exact absurd H (by simp)
         ·rw [if_neg c41] at H
          exact absurd H (by simp)
        ·rw [if_neg c40] at H
         exact absurd H (by simp)
       ·rw [if_neg c39] at H
        exact absurd H (by simp)
      ·rw [if_neg c37] at H
       exact absurd H (by simp)

end Go.Proofs.Ytkapeoigpdppeaa.G
