-- Made by gprint.py (the kit's print with contracts of this session's own among its functions).
import Derived.Test.YtijmkmbepjjphaaG0
import Derived.Test.YtijmkmbepjjphaaG9
namespace Go.Proofs.Ytijmkmbepjjphaa.G
open Go.RowKit Go.Proofs.YtijmkmbepjjphaaW.PrintWords Go.Proofs.YtijmkmbepjjphaaW.PrintLast Go.Proofs.YtijmkmbepjjphaaW.PrintMore
attribute [local go_sem] max2_int min2_int max_two min_two max_three min_three max_four min_four   -- for this text's walks alone
set_option linter.unusedVariables false
set_option linter.unusedSimpArgs false

/-! ### spec_l7Marks: function 17 -/
mutual
def spec_l7Marks.j0 : Nat → Int → List Bool → Bool → Int → List (S28) → Option (List Bool)
 | 0, _, _, _, _, _ => none
 | k + 1, x1, x5, x20, x168000, x168001 => if x20 = true then ((spec_l1Bit.f (x168000 == 97)).bind fun t171 => (if t171 < x1 then (if 0 ≤ t171 then (if t171 < (x5.length : Int) then (some (x5.set (t171 : Int).toNat true)) else (none)) else (none)) else (some x5))) else (if 0 < (x168001.length : Int) then ((spec_l7Marks.f k ((rd_T28 x168001 0).f0) ((rd_T28 x168001 0).f1) x1).bind fun t174 => (if x168000 = 42 then (spec_l7Marks.l0 k x1 x5 t174 0) else (if x168000 ≥ 50 then (spec_l7Marks.j3 k x1 x5 t174 (decide (x168000 ≤ 53)) x168000 x168001) else (spec_l7Marks.j3 k x1 x5 t174 false x168000 x168001)))) else (none))
def spec_l7Marks.l0 : Nat → Int → List Bool → List Bool → Int → Option (List Bool)
 | 0, _, _, _, _ => none
 | k + 1, x1, x5, x7, x8 => if x8 < x1 then (if 0 ≤ x8 then (if x8 < (x5.length : Int) then (spec_l7Marks.l1 k x1 (x5.set (x8 : Int).toNat (x8 == 0)) x7 x8 1) else (none)) else (none)) else (some x5)
def spec_l7Marks.l1 : Nat → Int → List Bool → List Bool → Int → Int → Option (List Bool)
 | 0, _, _, _, _, _ => none
 | k + 1, x1, x5, x7, x8, x9 => if x9 ≤ x8 then (if 0 ≤ x8 then (if x8 < (x5.length : Int) then (if rdOf false x5 x8 = true then (spec_l7Marks.l1 k x1 (x5.set (x8 : Int).toNat true) x7 x8 (wrap64 (x9 + 1))) else (if 0 ≤ x9 then (if x9 < (x7.length : Int) then (if rdOf false x7 x9 = true then (if 0 ≤ (wrap64 (x8 - x9)) then (if (wrap64 (x8 - x9)) < (x5.length : Int) then (spec_l7Marks.l1 k x1 (x5.set (x8 : Int).toNat (rdOf false x5 (wrap64 (x8 - x9)))) x7 x8 (wrap64 (x9 + 1))) else (none)) else (none)) else (spec_l7Marks.l1 k x1 (x5.set (x8 : Int).toNat false) x7 x8 (wrap64 (x9 + 1)))) else (none)) else (none))) else (none)) else (none)) else (spec_l7Marks.l0 k x1 x5 x7 (wrap64 (x8 + 1)))
def spec_l7Marks.j3 : Nat → Int → List Bool → List Bool → Bool → Int → List (S28) → Option (List Bool)
 | 0, _, _, _, _, _, _ => none
 | k + 1, x1, x5, x7, x87, x168000, x168001 => if x87 = true then (spec_l7Marks.l2 k x7 x7 49 x168000 x168001) else (if 1 < (x168001.length : Int) then ((spec_l7Marks.f k ((rd_T28 x168001 1).f0) ((rd_T28 x168001 1).f1) x1).bind fun t188 => (if x168000 = 46 then ((spec_l7Sum.f k x7 t188).bind fun t191 => (some t191)) else (spec_l7Marks.l3 k x1 x5 x7 t188 0 x168000 x168001))) else (none))
def spec_l7Marks.l2 : Nat → List Bool → List Bool → Int → Int → List (S28) → Option (List Bool)
 | 0, _, _, _, _, _ => none
 | k + 1, x5, x7, x10, x168000, x168001 => if x10 < x168000 then ((spec_l7Sum.f k x5 x7).bind fun t184 => (spec_l7Marks.l2 k t184 x7 ((x10 + 1) % 256) x168000 x168001)) else (some x5)
def spec_l7Marks.l3 : Nat → Int → List Bool → List Bool → List Bool → Int → Int → List (S28) → Option (List Bool)
 | 0, _, _, _, _, _, _, _ => none
 | k + 1, x1, x5, x7, x11, x12, x168000, x168001 => if x12 < x1 then (if x168000 = 43 then (if 0 ≤ x12 then (if x12 < (x7.length : Int) then (if rdOf false x7 x12 = true then (if x12 < (x5.length : Int) then (spec_l7Marks.l3 k x1 (x5.set (x12 : Int).toNat true) x7 x11 (wrap64 (x12 + 1)) x168000 x168001) else (none)) else (if x12 < (x11.length : Int) then (if x12 < (x5.length : Int) then (spec_l7Marks.l3 k x1 (x5.set (x12 : Int).toNat (rdOf false x11 x12)) x7 x11 (wrap64 (x12 + 1)) x168000 x168001) else (none)) else (none))) else (none)) else (none)) else (if 0 ≤ x12 then (if x12 < (x7.length : Int) then (if rdOf false x7 x12 = true then (if x12 < (x11.length : Int) then (if x12 < (x5.length : Int) then (spec_l7Marks.l3 k x1 (x5.set (x12 : Int).toNat (rdOf false x11 x12)) x7 x11 (wrap64 (x12 + 1)) x168000 x168001) else (none)) else (none)) else (if x12 < (x5.length : Int) then (spec_l7Marks.l3 k x1 (x5.set (x12 : Int).toNat false) x7 x11 (wrap64 (x12 + 1)) x168000 x168001) else (none))) else (none)) else (none))) else (some x5)
def spec_l7Marks.f : Nat → Int → List (S28) → Int → Option (List Bool)
 | 0, _, _, _ => none
 | k + 1, a0_0, l0_1, a1 => if 0 ≤ a1 then (if (a1 : Int).toNat ≤ 281474976710656 then ((some (List.replicate (a1 : Int).toNat false : List Bool)).bind fun y168 => (if a0_0 = 48 then (some y168) else (if a0_0 = 49 then (spec_l7Marks.j0 k a1 y168 true a0_0 l0_1) else (spec_l7Marks.j0 k a1 y168 (a0_0 == 97) a0_0 l0_1)))) else (none)) else (none)
end
theorem spec_l7Marks.mono_l : ∀ k, (∀ y0 y1 y2, LeO (spec_l7Marks.f k y0 y1 y2) (spec_l7Marks.f (k + 1) y0 y1 y2)) ∧ (∀ y0 y1 y2 y3 y4, LeO (spec_l7Marks.j0 k y0 y1 y2 y3 y4) (spec_l7Marks.j0 (k + 1) y0 y1 y2 y3 y4)) ∧ (∀ y0 y1 y2 y3, LeO (spec_l7Marks.l0 k y0 y1 y2 y3) (spec_l7Marks.l0 (k + 1) y0 y1 y2 y3)) ∧ (∀ y0 y1 y2 y3 y4, LeO (spec_l7Marks.l1 k y0 y1 y2 y3 y4) (spec_l7Marks.l1 (k + 1) y0 y1 y2 y3 y4)) ∧ (∀ y0 y1 y2 y3 y4 y5, LeO (spec_l7Marks.j3 k y0 y1 y2 y3 y4 y5) (spec_l7Marks.j3 (k + 1) y0 y1 y2 y3 y4 y5)) ∧ (∀ y0 y1 y2 y3 y4, LeO (spec_l7Marks.l2 k y0 y1 y2 y3 y4) (spec_l7Marks.l2 (k + 1) y0 y1 y2 y3 y4)) ∧ (∀ y0 y1 y2 y3 y4 y5 y6, LeO (spec_l7Marks.l3 k y0 y1 y2 y3 y4 y5 y6) (spec_l7Marks.l3 (k + 1) y0 y1 y2 y3 y4 y5 y6))
 | 0 => ⟨fun _ _ _ r h => by simp [spec_l7Marks.f] at h, fun _ _ _ _ _ r h => by simp [spec_l7Marks.j0] at h, fun _ _ _ _ r h => by simp [spec_l7Marks.l0] at h, fun _ _ _ _ _ r h => by simp [spec_l7Marks.l1] at h, fun _ _ _ _ _ _ r h => by simp [spec_l7Marks.j3] at h, fun _ _ _ _ _ r h => by simp [spec_l7Marks.l2] at h, fun _ _ _ _ _ _ _ r h => by simp [spec_l7Marks.l3] at h⟩
 | k + 1 => by
  obtain ⟨ih0, ih1, ih2, ih3, ih4, ih5, ih6⟩ := spec_l7Marks.mono_l k
  refine ⟨?_, ?_, ?_, ?_, ?_, ?_, ?_⟩
  ·intro y0 y1 y2
   unfold spec_l7Marks.f
   repeat' first
   | (with_reducible exact ih0 _ _ _)
   | (with_reducible exact ih1 _ _ _ _ _)
   | (with_reducible exact ih2 _ _ _ _)
   | (with_reducible exact ih3 _ _ _ _ _)
   | (with_reducible exact ih4 _ _ _ _ _ _)
   | (with_reducible exact ih5 _ _ _ _ _)
   | (with_reducible exact ih6 _ _ _ _ _ _ _)
   | (with_reducible exact spec_l7Sum.mono _ _ _)
   | (with_reducible exact LeO.refl _)
   | (with_reducible exact LeO.none _)
   | (with_reducible refine LeO.ite ?_ ?_)
   | (with_reducible refine LeO.bind ?_ (fun _ => ?_))
   | exact ih0 _ _ _
   | exact ih1 _ _ _ _ _
   | exact ih2 _ _ _ _
   | exact ih3 _ _ _ _ _
   | exact ih4 _ _ _ _ _ _
   | exact ih5 _ _ _ _ _
   | exact ih6 _ _ _ _ _ _ _
   | exact spec_l7Sum.mono _ _ _
   | exact LeO.none _
   | refine LeO.ite ?_ ?_
   | refine LeO.bind ?_ (fun _ => ?_)
  ·intro y0 y1 y2 y3 y4
   unfold spec_l7Marks.j0
   repeat' first
   | (with_reducible exact ih0 _ _ _)
   | (with_reducible exact ih1 _ _ _ _ _)
   | (with_reducible exact ih2 _ _ _ _)
   | (with_reducible exact ih3 _ _ _ _ _)
   | (with_reducible exact ih4 _ _ _ _ _ _)
   | (with_reducible exact ih5 _ _ _ _ _)
   | (with_reducible exact ih6 _ _ _ _ _ _ _)
   | (with_reducible exact spec_l7Sum.mono _ _ _)
   | (with_reducible exact LeO.refl _)
   | (with_reducible exact LeO.none _)
   | (with_reducible refine LeO.ite ?_ ?_)
   | (with_reducible refine LeO.bind ?_ (fun _ => ?_))
   | exact ih0 _ _ _
   | exact ih1 _ _ _ _ _
   | exact ih2 _ _ _ _
   | exact ih3 _ _ _ _ _
   | exact ih4 _ _ _ _ _ _
   | exact ih5 _ _ _ _ _
   | exact ih6 _ _ _ _ _ _ _
   | exact spec_l7Sum.mono _ _ _
   | exact LeO.none _
   | refine LeO.ite ?_ ?_
   | refine LeO.bind ?_ (fun _ => ?_)
  ·intro y0 y1 y2 y3
   unfold spec_l7Marks.l0
   repeat' first
   | (with_reducible exact ih0 _ _ _)
   | (with_reducible exact ih1 _ _ _ _ _)
   | (with_reducible exact ih2 _ _ _ _)
   | (with_reducible exact ih3 _ _ _ _ _)
   | (with_reducible exact ih4 _ _ _ _ _ _)
   | (with_reducible exact ih5 _ _ _ _ _)
   | (with_reducible exact ih6 _ _ _ _ _ _ _)
   | (with_reducible exact spec_l7Sum.mono _ _ _)
   | (with_reducible exact LeO.refl _)
   | (with_reducible exact LeO.none _)
   | (with_reducible refine LeO.ite ?_ ?_)
   | (with_reducible refine LeO.bind ?_ (fun _ => ?_))
   | exact ih0 _ _ _
   | exact ih1 _ _ _ _ _
   | exact ih2 _ _ _ _
   | exact ih3 _ _ _ _ _
   | exact ih4 _ _ _ _ _ _
   | exact ih5 _ _ _ _ _
   | exact ih6 _ _ _ _ _ _ _
   | exact spec_l7Sum.mono _ _ _
   | exact LeO.none _
   | refine LeO.ite ?_ ?_
   | refine LeO.bind ?_ (fun _ => ?_)
  ·intro y0 y1 y2 y3 y4
   unfold spec_l7Marks.l1
   repeat' first
   | (with_reducible exact ih0 _ _ _)
   | (with_reducible exact ih1 _ _ _ _ _)
   | (with_reducible exact ih2 _ _ _ _)
   | (with_reducible exact ih3 _ _ _ _ _)
   | (with_reducible exact ih4 _ _ _ _ _ _)
   | (with_reducible exact ih5 _ _ _ _ _)
   | (with_reducible exact ih6 _ _ _ _ _ _ _)
   | (with_reducible exact spec_l7Sum.mono _ _ _)
   | (with_reducible exact LeO.refl _)
   | (with_reducible exact LeO.none _)
   | (with_reducible refine LeO.ite ?_ ?_)
   | (with_reducible refine LeO.bind ?_ (fun _ => ?_))
   | exact ih0 _ _ _
   | exact ih1 _ _ _ _ _
   | exact ih2 _ _ _ _
   | exact ih3 _ _ _ _ _
   | exact ih4 _ _ _ _ _ _
   | exact ih5 _ _ _ _ _
   | exact ih6 _ _ _ _ _ _ _
   | exact spec_l7Sum.mono _ _ _
   | exact LeO.none _
   | refine LeO.ite ?_ ?_
   | refine LeO.bind ?_ (fun _ => ?_)
  ·intro y0 y1 y2 y3 y4 y5
   unfold spec_l7Marks.j3
   repeat' first
   | (with_reducible exact ih0 _ _ _)
   | (with_reducible exact ih1 _ _ _ _ _)
   | (with_reducible exact ih2 _ _ _ _)
   | (with_reducible exact ih3 _ _ _ _ _)
   | (with_reducible exact ih4 _ _ _ _ _ _)
   | (with_reducible exact ih5 _ _ _ _ _)
   | (with_reducible exact ih6 _ _ _ _ _ _ _)
   | (with_reducible exact spec_l7Sum.mono _ _ _)
   | (with_reducible exact LeO.refl _)
   | (with_reducible exact LeO.none _)
   | (with_reducible refine LeO.ite ?_ ?_)
   | (with_reducible refine LeO.bind ?_ (fun _ => ?_))
   | exact ih0 _ _ _
   | exact ih1 _ _ _ _ _
   | exact ih2 _ _ _ _
   | exact ih3 _ _ _ _ _
   | exact ih4 _ _ _ _ _ _
   | exact ih5 _ _ _ _ _
   | exact ih6 _ _ _ _ _ _ _
   | exact spec_l7Sum.mono _ _ _
   | exact LeO.none _
   | refine LeO.ite ?_ ?_
   | refine LeO.bind ?_ (fun _ => ?_)
  ·intro y0 y1 y2 y3 y4
   unfold spec_l7Marks.l2
   repeat' first
   | (with_reducible exact ih0 _ _ _)
   | (with_reducible exact ih1 _ _ _ _ _)
   | (with_reducible exact ih2 _ _ _ _)
   | (with_reducible exact ih3 _ _ _ _ _)
   | (with_reducible exact ih4 _ _ _ _ _ _)
   | (with_reducible exact ih5 _ _ _ _ _)
   | (with_reducible exact ih6 _ _ _ _ _ _ _)
   | (with_reducible exact spec_l7Sum.mono _ _ _)
   | (with_reducible exact LeO.refl _)
   | (with_reducible exact LeO.none _)
   | (with_reducible refine LeO.ite ?_ ?_)
   | (with_reducible refine LeO.bind ?_ (fun _ => ?_))
   | exact ih0 _ _ _
   | exact ih1 _ _ _ _ _
   | exact ih2 _ _ _ _
   | exact ih3 _ _ _ _ _
   | exact ih4 _ _ _ _ _ _
   | exact ih5 _ _ _ _ _
   | exact ih6 _ _ _ _ _ _ _
   | exact spec_l7Sum.mono _ _ _
   | exact LeO.none _
   | refine LeO.ite ?_ ?_
   | refine LeO.bind ?_ (fun _ => ?_)
  ·intro y0 y1 y2 y3 y4 y5 y6
   unfold spec_l7Marks.l3
   repeat' first
   | (with_reducible exact ih0 _ _ _)
   | (with_reducible exact ih1 _ _ _ _ _)
   | (with_reducible exact ih2 _ _ _ _)
   | (with_reducible exact ih3 _ _ _ _ _)
   | (with_reducible exact ih4 _ _ _ _ _ _)
   | (with_reducible exact ih5 _ _ _ _ _)
   | (with_reducible exact ih6 _ _ _ _ _ _ _)
   | (with_reducible exact spec_l7Sum.mono _ _ _)
   | (with_reducible exact LeO.refl _)
   | (with_reducible exact LeO.none _)
   | (with_reducible refine LeO.ite ?_ ?_)
   | (with_reducible refine LeO.bind ?_ (fun _ => ?_))
   | exact ih0 _ _ _
   | exact ih1 _ _ _ _ _
   | exact ih2 _ _ _ _
   | exact ih3 _ _ _ _ _
   | exact ih4 _ _ _ _ _ _
   | exact ih5 _ _ _ _ _
   | exact ih6 _ _ _ _ _ _ _
   | exact spec_l7Sum.mono _ _ _
   | exact LeO.none _
   | refine LeO.ite ?_ ?_
   | refine LeO.bind ?_ (fun _ => ?_)
theorem spec_l7Marks.mono : ∀ a0 a1 a2 k, LeO (spec_l7Marks.f k a0 a1 a2) (spec_l7Marks.f (k + 1) a0 a1 a2) := by
 intro a0 a1 a2 k
 obtain ⟨ih0, ih1, ih2, ih3, ih4, ih5, ih6⟩ := spec_l7Marks.mono_l k
 exact ih0 a0 a1 a2
set_option maxHeartbeats 8000000 in
set_option maxRecDepth 100000 in
theorem spec_l7Marks.calls (k : Nat) : ∀ (a0_0 : Int) (A0_1 : Option Addr) (c0_1 : Nat) (l0_1 : List (S28)) (a1 : Int) (r : List Bool) (w : World) (hr0_1 : Kd.C k28 w A0_1 l0_1.length l0_1) (hc0_1 : l0_1.length ≤ c0_1) (h : spec_l7Marks.f k a0_0 l0_1 a1 = some r),
  Calls Try.prog 17 #[.agg #[.int .u8 a0_0, .slice A0_1 l0_1.length c0_1], .int .i64 a1] w fun e w' => ∃ v0_ : Value, e = .returned (v0_) ∧ Kd.R Kd.bool 4 w' w.heap.size (fun _ => True) v0_ r ∧ Below w.heap.size w w' := by
 induction k using Nat.strongRecOn with
 | _ k ih =>
 intro a0_0 A0_1 c0_1 l0_1 a1 r w hr0_1 hc0_1 h
 cases k with
 | zero => exact absurd h (by simp [spec_l7Marks.f])
 | succ k =>
 simp only [spec_l7Marks.f] at h
 have hu28 := Try.underlying28
 have HR0_1 := Aside0.mk hr0_1
 have HC0_1 := Aside0.mk hc0_1
 clear hr0_1 hc0_1
 have HB := Aside0.mk (Below.refl w.heap.size w)
 have H : (if 0 ≤ a1 then (if (a1 : Int).toNat ≤ 281474976710656 then ((some (List.replicate (a1 : Int).toNat false : List Bool)).bind fun y168 => (if a0_0 = 48 then (some y168) else (if a0_0 = 49 then (spec_l7Marks.j0 k a1 y168 true a0_0 l0_1) else (spec_l7Marks.j0 k a1 y168 (a0_0 == 97) a0_0 l0_1)))) else (none)) else (none)) = some r := h
 clear h
 by_cases c3 : 0 ≤ a1
 ·rw [if_pos c3] at H
  have c3b0 := eq_true c3
  have c3b1 : decide (0 ≤ a1) = true := decide_eq_true c3
  clear c3
  by_cases c4 : (a1 : Int).toNat ≤ 281474976710656
  ·rw [if_pos c4] at H
   have c4b0 := eq_true c4
   have c4b1 : decide ((a1 : Int).toNat ≤ 281474976710656) = true := decide_eq_true c4
   clear c4
   obtain ⟨y168, hy168⟩ : ∃ y_ : List Bool, y_ = (List.replicate (a1 : Int).toNat false) := ⟨_, rfl⟩
   replace H : (if a0_0 = 48 then (some y168) else (if a0_0 = 49 then (spec_l7Marks.j0 k a1 y168 true a0_0 l0_1) else (spec_l7Marks.j0 k a1 y168 (a0_0 == 97) a0_0 l0_1))) = some r := by first | (rw [hy168]; with_reducible exact H) | (have H2_ := (Option.bind_some _ _).symm.trans H; rw [hy168]; with_reducible exact H2_) | (have H2_ := (Option.bind_some _ _).symm.trans H; with_reducible exact H2_) | with_reducible exact H | (rw [hy168]; exact H) | exact H
   have Ny168 := Aside0.mk hy168
   clear hy168
   by_cases c5 : a0_0 = 48
   ·rw [if_pos c5] at H
    have c5b0 : (a0_0 == 48) = true := beq_iff_eq.mpr c5
    have c5b1 : (a0_0 != 48) = false := bne_eq_false_iff_eq.mpr c5
    clear c5
    obtain rfl := Option.some.inj H
    go_enter Try.func17, Try.ntmps17
    go_wp2_with (first | ((with_reducible refine gate_dst (N := 2) rfl ?_); refine box_event ?hg (N := 2) ?hd (cs := #[.int .u8 a0_0, .slice A0_1 l0_1.length c0_1]) (t := 28) ?hr ?_; (case hd => rfl); (case hg => rfl); (case hr => first | (go_simp; done) | (go_simp; rfl)); intro gb167 hg w6 hbox hb; have n0_ := Aside0.mk (below_step (by repeat (first | (with_reducible first | exact HB.out | apply below_alloc | apply pw_below_drewN | apply below_drew1) | exact HB.out)) hb); have n1_ := Aside0.mk (hbox); have n2_ := Aside0.mk ((by rw [hg]; exact (below_size (by repeat (first | (with_reducible first | exact HB.out | apply below_alloc | apply pw_below_drewN | apply below_drew1) | exact HB.out))) : w.heap.size ≤ gb167)); have n3_ := Aside0.mk ((by rw [hg]; exact (below_size (by repeat (first | (with_reducible first | exact HB.out | apply below_alloc | apply pw_below_drewN | apply below_drew1) | exact HB.out))) : w.heap.size ≤ gb167)); clear HB; have HB := n0_; have BK167 := n1_; have GW167 := n2_; have GE167 := n3_; clear n0_ n1_ n2_ n3_; clear hb hbox hg) | ((with_reducible refine gate_dst (N := 14) rfl ?_); refine Kd.R_make Kd.bool _ 4 rfl (N := 14) rfl 36 _ _ rfl a1 rfl rfl Try.underlying36 (.bool false) 1 info4 rfl (by decide) (by omega) false (ok := fun _ => True) (okp := fun _ => True) rfl (fun _ hk => hk) trivial (of_decide_eq_true (by first | (with_reducible assumption) | assumption)) (Nat.le_trans (Nat.mul_le_mul_right _ (of_decide_eq_true (by first | (with_reducible assumption) | assumption) : a1.toNat ≤ 281474976710656)) (by omega)) (Below.refl _ _) (Nat.le_refl _) ?_; intro v169 w7 ho8 hb hg_ hnew_; clear hg_ hnew_; (first | rw [← Ny168.out] at ho8 | (simp only [Int.reduceToNat] at ho8; rw [← Ny168.out] at ho8)); have n0_ := Aside0.mk (Kd.R_lower ho8 (below_size (by repeat (first | (with_reducible first | exact HB.out | apply below_alloc | apply pw_below_drewN | apply below_drew1 | refine below_set ?_ GE167.out) | exact HB.out)))); have n1_ := Aside0.mk (blk_below (g := gb167) (o := .cells #[.int .u8 a0_0, .slice A0_1 l0_1.length c0_1] 28 (0, 0)) (by (with_reducible repeat (first | refine blk_drewN ?_ _ | refine blk_drew ?_ | refine blk_alloc ?_ _)); exact BK167.out) hb); have n2_ := Aside0.mk (below_step (by repeat (first | (with_reducible first | exact HB.out | apply below_alloc | apply pw_below_drewN | apply below_drew1 | refine below_set ?_ GE167.out) | exact HB.out)) hb); clear BK167; clear HB; have HO170 := n0_; have BK167 := n1_; have HB := n2_; clear n0_ n1_ n2_; clear hb ho8; have hcz9_0 : w7.cell? ⟨gb167, 0, none⟩ = some (.int .u8 a0_0) := (blk_cell BK167.out 0).trans rfl; have hcz9_1 : w7.cell? ⟨gb167, 1, none⟩ = some (.slice A0_1 l0_1.length c0_1) := (blk_cell BK167.out 1).trans rfl; have hfz9_0 := blk_frozen BK167.out 0; have hfz9_1 := blk_frozen BK167.out 1))
    go_ret
    exact ⟨_, by first | rfl | (simp [errW_none, errW_some] <;> rfl) | (simp [*, errW_none, errW_some] <;> rfl), by (with_reducible repeat (first | apply Kd.R_alloc | apply Kd.R_drewN | apply Kd.R_drew)); exact HO170.out, by repeat (first | (with_reducible first | exact HB.out | apply below_alloc | apply pw_below_drewN | apply below_drew1 | refine below_set ?_ GE167.out) | exact HB.out)⟩
   ·rw [if_neg c5] at H
    have c5b0 : (a0_0 == 48) = false := beq_eq_false_iff_ne.mpr c5
    have c5b1 : (a0_0 != 48) = true := bne_iff_ne.mpr c5
    have HC10 := Aside0.mk H
    clear H
    go_enter Try.func17, Try.ntmps17
    go_upto_region 4 with (first | ((with_reducible refine gate_dst (N := 2) rfl ?_); refine box_event ?hg (N := 2) ?hd (cs := #[.int .u8 a0_0, .slice A0_1 l0_1.length c0_1]) (t := 28) ?hr ?_; (case hd => rfl); (case hg => rfl); (case hr => first | (go_simp; done) | (go_simp; rfl)); intro gb167 hg w11 hbox hb; have n0_ := Aside0.mk (below_step (by repeat (first | (with_reducible first | exact HB.out | apply below_alloc | apply pw_below_drewN | apply below_drew1) | exact HB.out)) hb); have n1_ := Aside0.mk (hbox); have n2_ := Aside0.mk ((by rw [hg]; exact (below_size (by repeat (first | (with_reducible first | exact HB.out | apply below_alloc | apply pw_below_drewN | apply below_drew1) | exact HB.out))) : w.heap.size ≤ gb167)); have n3_ := Aside0.mk ((by rw [hg]; exact (below_size (by repeat (first | (with_reducible first | exact HB.out | apply below_alloc | apply pw_below_drewN | apply below_drew1) | exact HB.out))) : w.heap.size ≤ gb167)); clear HB; have HB := n0_; have BK167 := n1_; have GW167 := n2_; have GE167 := n3_; clear n0_ n1_ n2_ n3_; clear hb hbox hg) | ((with_reducible refine gate_dst (N := 14) rfl ?_); refine Kd.R_make Kd.bool _ 4 rfl (N := 14) rfl 36 _ _ rfl a1 rfl rfl Try.underlying36 (.bool false) 1 info4 rfl (by decide) (by omega) false (ok := fun _ => True) (okp := fun _ => True) rfl (fun _ hk => hk) trivial (of_decide_eq_true (by first | (with_reducible assumption) | assumption)) (Nat.le_trans (Nat.mul_le_mul_right _ (of_decide_eq_true (by first | (with_reducible assumption) | assumption) : a1.toNat ≤ 281474976710656)) (by omega)) (Below.refl _ _) (Nat.le_refl _) ?_; intro v169 w12 ho13 hb hg_ hnew_; clear hg_ hnew_; (first | rw [← Ny168.out] at ho13 | (simp only [Int.reduceToNat] at ho13; rw [← Ny168.out] at ho13)); have n0_ := Aside0.mk (Kd.R_lower ho13 (below_size (by repeat (first | (with_reducible first | exact HB.out | apply below_alloc | apply pw_below_drewN | apply below_drew1 | refine below_set ?_ GE167.out) | exact HB.out)))); have n1_ := Aside0.mk (blk_below (g := gb167) (o := .cells #[.int .u8 a0_0, .slice A0_1 l0_1.length c0_1] 28 (0, 0)) (by (with_reducible repeat (first | refine blk_drewN ?_ _ | refine blk_drew ?_ | refine blk_alloc ?_ _)); exact BK167.out) hb); have n2_ := Aside0.mk (below_step (by repeat (first | (with_reducible first | exact HB.out | apply below_alloc | apply pw_below_drewN | apply below_drew1 | refine below_set ?_ GE167.out) | exact HB.out)) hb); clear BK167; clear HB; have HO170 := n0_; have BK167 := n1_; have HB := n2_; clear n0_ n1_ n2_; clear hb ho13; have hcz14_0 : w12.cell? ⟨gb167, 0, none⟩ = some (.int .u8 a0_0) := (blk_cell BK167.out 0).trans rfl; have hcz14_1 : w12.cell? ⟨gb167, 1, none⟩ = some (.slice A0_1 l0_1.length c0_1) := (blk_cell BK167.out 1).trans rfl; have hfz14_0 := blk_frozen BK167.out 0; have hfz14_1 := blk_frozen BK167.out 1))
    (try simp only [Act.put, List.setIfInBounds_toArray, List.set_cons_zero, List.set_cons_succ])
    go_cut [20] (fun v20 wc => ∃ (kq : Nat) (x20_9 : Bool), v20 = .bool x20_9 ∧ Aside0 (spec_l7Marks.j0 kq a1 y168 x20_9 a0_0 l0_1 = some r) ∧ Aside0 (kq ≤ k) ∧ Aside0 (Kd.R Kd.bool 4 wc w.heap.size (fun _ => True) v169 y168) ∧ Aside0 (wc.heap[gb167]? = some (.cells #[.int .u8 a0_0, (.slice A0_1 l0_1.length c0_1)] 28 (0, 0))) ∧ Aside0 (Below w.heap.size w wc))
    case first =>
     have H := HC10.out
     clear HC10
     by_cases c15 : a0_0 = 49
     ·rw [if_pos c15] at H
      have c15b0 : (a0_0 == 49) = true := beq_iff_eq.mpr c15
      have c15b1 : (a0_0 != 49) = false := bne_eq_false_iff_eq.mpr c15
      clear c15
      (first | rw [c15b0] | (simp only [i64_w, i32_w]; rw [c15b0]) | skip)
      have H' := Aside0.mk H
      clear H
      have hcz16_0 : w12.cell? ⟨gb167, 0, none⟩ = some (.int .u8 a0_0) := (blk_cell BK167.out 0).trans rfl
      have hcz16_1 : w12.cell? ⟨gb167, 1, none⟩ = some (.slice A0_1 l0_1.length c0_1) := (blk_cell BK167.out 1).trans rfl
      have hfz16_0 := blk_frozen BK167.out 0
      have hfz16_1 := blk_frozen BK167.out 1
      go_wp2
      go_meet
      case rel => exact ⟨_, (true), (by first | rfl | (simp; done) | (simp [*]; done) | (simp only [IntKind.wrap_i64, wrap64]; done)), H', ⟨by first | omega | exact Nat.le_refl _⟩, ⟨by (with_reducible repeat (first | apply Kd.R_alloc | apply Kd.R_drewN | apply Kd.R_drew)); exact HO170.out⟩, ⟨by (with_reducible repeat (first | refine blk_drewN ?_ _ | refine blk_drew ?_ | refine blk_alloc ?_ _)); exact BK167.out⟩, ⟨by repeat (first | (with_reducible first | exact HB.out | apply below_alloc | apply pw_below_drewN | apply below_drew1 | refine below_set ?_ GE167.out) | exact HB.out)⟩⟩
     ·rw [if_neg c15] at H
      have c15b0 : (a0_0 == 49) = false := beq_eq_false_iff_ne.mpr c15
      have c15b1 : (a0_0 != 49) = true := bne_iff_ne.mpr c15
      (first | rw [c15b0] | (simp only [i64_w, i32_w]; rw [c15b0]) | skip)
      have H' := Aside0.mk H
      clear H
      have hcz17_0 : w12.cell? ⟨gb167, 0, none⟩ = some (.int .u8 a0_0) := (blk_cell BK167.out 0).trans rfl
      have hcz17_1 : w12.cell? ⟨gb167, 1, none⟩ = some (.slice A0_1 l0_1.length c0_1) := (blk_cell BK167.out 1).trans rfl
      have hfz17_0 := blk_frozen BK167.out 0
      have hfz17_1 := blk_frozen BK167.out 1
      go_wp2
      go_meet
      case rel => exact ⟨_, ((a0_0 == 97)), (by first | rfl | (simp; done) | (simp [*]; done) | (simp only [IntKind.wrap_i64, wrap64]; done)), H', ⟨by first | omega | exact Nat.le_refl _⟩, ⟨by (with_reducible repeat (first | apply Kd.R_alloc | apply Kd.R_drewN | apply Kd.R_drew)); exact HO170.out⟩, ⟨by (with_reducible repeat (first | refine blk_drewN ?_ _ | refine blk_drew ?_ | refine blk_alloc ?_ _)); exact BK167.out⟩, ⟨by repeat (first | (with_reducible first | exact HB.out | apply below_alloc | apply pw_below_drewN | apply below_drew1 | refine below_set ?_ GE167.out) | exact HB.out)⟩⟩
    case rest =>
     clear HC10
     try clear c1
     try clear p2
     try clear c3
     try clear c3b0
     try clear c3b1
     try clear c4
     try clear c4b0
     try clear c4b1
     try clear c5
     try clear c5b0
     try clear c5b1
     try clear c15
     try clear c15b0
     try clear c15b1
     try clear c17
     try clear hcz14_0
     try clear hcz14_1
     try clear hcz16_0
     try clear hcz16_1
     try clear hcz17_0
     try clear hcz17_1
     try clear hcz9_0
     try clear hcz9_1
     try clear hfz14_0
     try clear hfz14_1
     try clear hfz16_0
     try clear hfz16_1
     try clear hfz17_0
     try clear hfz17_1
     try clear hfz9_0
     try clear hfz9_1
     obtain ⟨kq, x20_9, rfl, HA, HJ9, HO_5, BK167, HB⟩ := hcut
     cases kq with
     | zero => exact absurd HA.out (by simp [spec_l7Marks.j0])
     | succ kj9 =>
      have H := HA.out
      clear HA
      simp only [spec_l7Marks.j0] at H
      by_cases c18 : x20_9 = true
      ·subst c18
       have H1 : ((spec_l1Bit.f (a0_0 == 97)).bind fun t171 => (if t171 < a1 then (if 0 ≤ t171 then (if t171 < (y168.length : Int) then (some (y168.set (t171 : Int).toNat true)) else (none)) else (none)) else (some y168))) = some r := by rw [if_pos rfl] at H; exact H
       clear H
       have H := H1
       clear H1
       replace H := Option.bind_eq_some_iff.mp H
       obtain ⟨t171, A190, H⟩ := H
       replace H : (if t171 < a1 then (if 0 ≤ t171 then (if t171 < (y168.length : Int) then (some (y168.set (t171 : Int).toNat true)) else (none)) else (none)) else (some y168)) = some r := H
       have A19 := Aside0.mk A190
       clear A190
       by_cases c20 : t171 < a1
       ·rw [if_pos c20] at H
        have c20b0 : decide (t171 < a1) = true := decide_eq_true c20
        clear c20
        by_cases c21 : 0 ≤ t171
        ·rw [if_pos c21] at H
         have c21b0 : decide (0 ≤ t171) = true := decide_eq_true c21
         clear c21
         by_cases c22 : t171 < (y168.length : Int)
         ·rw [if_pos c22] at H
          have c22b0 : decide (t171 < (y168.length : Int)) = true := decide_eq_true c22
          clear c22
          obtain ⟨y172, hy172⟩ : ∃ y_ : List Bool, y_ = (y168.set (t171 : Int).toNat true) := ⟨_, rfl⟩
          replace H : (some y172) = some r := by first | (rw [hy172]; with_reducible exact H) | (have H2_ := (Option.bind_some _ _).symm.trans H; rw [hy172]; with_reducible exact H2_) | (have H2_ := (Option.bind_some _ _).symm.trans H; with_reducible exact H2_) | with_reducible exact H | (rw [hy172]; exact H) | exact H
          have Ny172 := Aside0.mk hy172
          clear hy172
          obtain rfl := Option.some.inj H
          have hcz24_0 : wc.cell? ⟨gb167, 0, none⟩ = some (.int .u8 a0_0) := (blk_cell BK167.out 0).trans rfl
          have hcz24_1 : wc.cell? ⟨gb167, 1, none⟩ = some (.slice A0_1 l0_1.length c0_1) := (blk_cell BK167.out 1).trans rfl
          have hfz24_0 := blk_frozen BK167.out 0
          have hfz24_1 := blk_frozen BK167.out 1
          go_wp2_with (first | ((with_reducible refine gate_callee (f := 26) rfl ?_); refine goesL_ (some 32) rfl rfl Try.func26 (by kernel_rfl) rfl #[.bool (a0_0 == 97)] rfl (by (try simp only [List.map_toArray, List.map_cons, List.map_nil]); first | done | rfl | (simp only [List.length_drop, List.length_take]; rfl)) ?_; (with_reducible refine (spec_l1Bit.calls (a0_0 == 97) t171 _ A19.out).mono ?_); rintro e w' ⟨rfl, ⟨nd, rfl⟩⟩; refine ⟨_, rfl, ?_⟩; (try (rw [drewN_self wc]; generalize hq_ : World.drewN wc _ = wc; have n0_ : Aside0 (Kd.R Kd.bool 4 wc w.heap.size (fun _ => True) v169 y168) := ⟨by rw [← hq_]; exact (by (with_reducible repeat (first | apply Kd.R_alloc | apply Kd.R_drewN | apply Kd.R_drew)); exact HO_5.out)⟩; have n1_ : Aside0 (wc.heap[gb167]? = some (.cells #[.int .u8 a0_0, .slice A0_1 l0_1.length c0_1] 28 (0, 0))) := ⟨by rw [← hq_]; exact (by (with_reducible repeat (first | refine blk_drewN ?_ _ | refine blk_drew ?_ | refine blk_alloc ?_ _)); exact BK167.out)⟩; have n2_ : Aside0 (Below w.heap.size w wc) := ⟨by rw [← hq_]; exact (by repeat (first | (with_reducible first | exact HB.out | apply below_alloc | apply pw_below_drewN | apply below_drew1 | refine below_set ?_ GE167.out) | exact HB.out))⟩; clear HO_5 BK167 HB hq_; have HO_5 := n0_; have BK167 := n1_; have HB := n2_; clear n0_ n1_ n2_)); have p23 : 0 ≤ (t171 : Int) := of_decide_eq_true (by first | (with_reducible assumption) | assumption); have q23 : (t171 : Int) < ((y168.length : Int) : Int) := of_decide_eq_true (by first | (with_reducible assumption) | assumption); obtain ⟨go23, co23, eo23, gb23, gl23, cl23, HG23⟩ := Kd.R_form HO_5.out (by omega); (first | cases eo23 | (injection eo23 with ea_ en_ ec_; (first | subst ea_ | (injection ea_ with ea_; subst ea_)); subst ec_; clear en_)); have GB23 := Aside0.mk gb23; have GG23 := Aside0.mk HG23; clear gb23 gl23 HG23; obtain ⟨hx23_0, hf23_0⟩ := Kd.R_celln false HO_5.out (t171 : Int) p23 q23; replace p23 := eq_true p23; replace q23 := eq_true q23; obtain ⟨hy25_, hz25_⟩ := Kd.R_celln false HO_5.out (t171 : Int) (of_decide_eq_true (by first | (with_reducible assumption) | assumption)) (of_decide_eq_true (by first | (with_reducible assumption) | assumption)); have HP25 := Kd.R_putg HO_5.out (t171 : Int) true) | ((with_reducible refine gate_store (t := 4) (p := 38) rfl ?_); refine store_event (t := 4) (p := 38) (v := ?vo_w26) (w1 := (wc.setCell ⟨go23, (t171 : Int).toNat, none⟩ (.bool true))) ?hg ?ho ?hn ?hr ?_; (case ho => rfl); (case hg => rfl); (case hn => rfl); (case hr => first | (go_simp; done) | (go_simp; rfl)); intro w26 hw; have hg : wc.grownBy w26 (some go23) := (by rw [hw]; exact HP25.2); have hp_ : Kd.R Kd.bool 4 w26 w.heap.size (fun _ => True) (.slice (some ⟨go23, 0, none⟩) y168.length co23) y172 := (by rw [hw, Ny172.out]; exact HP25.1); clear HP25; have n0_ := Aside0.mk (hp_); have n1_ := Aside0.mk (blk_grown (g := gb167) (o := .cells #[.int .u8 a0_0, .slice A0_1 l0_1.length c0_1] 28 (0, 0)) (by (with_reducible repeat (first | refine blk_drewN ?_ _ | refine blk_drew ?_ | refine blk_alloc ?_ _)); exact BK167.out) hg (Kd.R_ne HO_5.out BK167.out (by decide))); have n2_ := Aside0.mk ((by rw [hw]; exact below_set (HB.out) GB23.out : Below w.heap.size w w26)); clear HO_5; clear BK167; clear HB; have HO_5 := n0_; have BK167 := n1_; have HB := n2_; clear n0_ n1_ n2_; clear hg hw hp_))
          go_ret
          exact ⟨_, by first | rfl | (simp [errW_none, errW_some] <;> rfl) | (simp [*, errW_none, errW_some] <;> rfl), by (with_reducible repeat (first | apply Kd.R_alloc | apply Kd.R_drewN | apply Kd.R_drew)); exact HO_5.out, by repeat (first | (with_reducible first | exact HB.out | apply below_alloc | apply pw_below_drewN | apply below_drew1 | refine below_set ?_ GE167.out) | exact HB.out)⟩
         ·rw [if_neg c22] at H
          exact absurd H (by simp)
        ·rw [if_neg c21] at H
         exact absurd H (by simp)
       ·rw [if_neg c20] at H
        have c20b0 : decide (t171 < a1) = false := decide_eq_false c20
        clear c20
        obtain rfl := Option.some.inj H
        have hcz27_0 : wc.cell? ⟨gb167, 0, none⟩ = some (.int .u8 a0_0) := (blk_cell BK167.out 0).trans rfl
        have hcz27_1 : wc.cell? ⟨gb167, 1, none⟩ = some (.slice A0_1 l0_1.length c0_1) := (blk_cell BK167.out 1).trans rfl
        have hfz27_0 := blk_frozen BK167.out 0
        have hfz27_1 := blk_frozen BK167.out 1
        go_wp2_with (first | ((with_reducible refine gate_callee (f := 26) rfl ?_); refine goesL_ (some 32) rfl rfl Try.func26 (by kernel_rfl) rfl #[.bool (a0_0 == 97)] rfl (by (try simp only [List.map_toArray, List.map_cons, List.map_nil]); first | done | rfl | (simp only [List.length_drop, List.length_take]; rfl)) ?_; (with_reducible refine (spec_l1Bit.calls (a0_0 == 97) t171 _ A19.out).mono ?_); rintro e w' ⟨rfl, ⟨nd, rfl⟩⟩; refine ⟨_, rfl, ?_⟩))
        go_ret
        exact ⟨_, by first | rfl | (simp [errW_none, errW_some] <;> rfl) | (simp [*, errW_none, errW_some] <;> rfl), by (with_reducible repeat (first | apply Kd.R_alloc | apply Kd.R_drewN | apply Kd.R_drew)); exact HO_5.out, by repeat (first | (with_reducible first | exact HB.out | apply below_alloc | apply pw_below_drewN | apply below_drew1 | refine below_set ?_ GE167.out) | exact HB.out)⟩
      ·replace c18 := Bool.eq_false_iff.mpr c18
       subst c18
       have H1 : (if 0 < (l0_1.length : Int) then ((spec_l7Marks.f kj9 ((rd_T28 l0_1 0).f0) ((rd_T28 l0_1 0).f1) a1).bind fun t174 => (if a0_0 = 42 then (spec_l7Marks.l0 kj9 a1 y168 t174 0) else (if a0_0 ≥ 50 then (spec_l7Marks.j3 kj9 a1 y168 t174 (decide (a0_0 ≤ 53)) a0_0 l0_1) else (spec_l7Marks.j3 kj9 a1 y168 t174 false a0_0 l0_1)))) else (none)) = some r := by rw [if_neg (show ¬ (false = true) by decide)] at H; exact H
       clear H
       have H := H1
       clear H1
       by_cases c28 : 0 < (l0_1.length : Int)
       ·rw [if_pos c28] at H
        have c28b0 : decide (0 < (l0_1.length : Int)) = true := decide_eq_true c28
        have c28b1 : decide (0 < l0_1.length) = true := decide_eq_true (by omega)
        clear c28
        replace H := Option.bind_eq_some_iff.mp H
        obtain ⟨t174, A290, H⟩ := H
        replace H : (if a0_0 = 42 then (spec_l7Marks.l0 kj9 a1 y168 t174 0) else (if a0_0 ≥ 50 then (spec_l7Marks.j3 kj9 a1 y168 t174 (decide (a0_0 ≤ 53)) a0_0 l0_1) else (spec_l7Marks.j3 kj9 a1 y168 t174 false a0_0 l0_1))) = some r := H
        have A29 := Aside0.mk A290
        clear A290
        by_cases c30 : a0_0 = 42
        ·rw [if_pos c30] at H
         have c30b0 : (a0_0 == 42) = true := beq_iff_eq.mpr c30
         have c30b1 : (a0_0 != 42) = false := bne_eq_false_iff_eq.mpr c30
         clear c30
         have H' := Aside0.mk H
         clear H
         have hcz31_0 : wc.cell? ⟨gb167, 0, none⟩ = some (.int .u8 a0_0) := (blk_cell BK167.out 0).trans rfl
         have hcz31_1 : wc.cell? ⟨gb167, 1, none⟩ = some (.slice A0_1 l0_1.length c0_1) := (blk_cell BK167.out 1).trans rfl
         have hfz31_0 := blk_frozen BK167.out 0
         have hfz31_1 := blk_frozen BK167.out 1
         have p173 : 0 ≤ (0 : Int) := (by omega)
         have q173 : 0 < (l0_1.length : Int) := of_decide_eq_true (by first | (with_reducible assumption) | assumption)
         obtain ⟨ad173, A173_1, c173_1, e173, hx173_0, hx173_1, hl173_1, hi173_1⟩ := at_T28 HR0_1.out 0 p173 q173
         cases e173
         have qi173 : (0 < l0_1.length) = True := eq_true (by omega)
         (try rw [show ((0 : Int)).toNat = 0 from rfl] at hx173_0)
         (try rw [show 0 * 2 = 0 from rfl] at hx173_0)
         (try rw [Addr.add_zero'] at hx173_0)
         (try rw [show ((0 : Int)).toNat = 0 from rfl] at hx173_1)
         (try rw [show 0 * 2 = 0 from rfl] at hx173_1)
         (try rw [Addr.add_zero'] at hx173_1)
         replace hx173_0 := (HB.out.cell (World.block_lt_of_cell? w _ hx173_0)).trans hx173_0
         replace hx173_1 := (HB.out.cell (World.block_lt_of_cell? w _ hx173_1)).trans hx173_1
         have HR173_1 := Aside0.mk hi173_1
         have HC173_1 := Aside0.mk hl173_1
         clear hi173_1 hl173_1
         replace p173 := eq_true p173
         replace q173 := eq_true q173
         go_wp2_with (first | ((with_reducible refine gate_callee (f := 17) rfl ?_); refine goesL_ (some 45) rfl rfl Try.func17 (by kernel_rfl) rfl #[.agg #[.int .u8 ((rd_T28 l0_1 0).f0), .slice A173_1 ((rd_T28 l0_1 0).f1).length c173_1], .int .i64 a1] rfl (by (try simp only [List.map_toArray, List.map_cons, List.map_nil]); first | done | rfl | (simp only [List.length_drop, List.length_take]; rfl)) ?_; (with_reducible refine (ih kj9 (by have := HJ9.out; omega) ((rd_T28 l0_1 0).f0) _ _ ((rd_T28 l0_1 0).f1) a1 t174 _ ?side1 ?side2 A29.out).mono ?_); (case side1 => repeat (first | exact (Kd.C_below HR173_1.out HB.out) | (with_reducible refine Kd.C_alloc ?_ _) | (with_reducible refine Kd.C_drewN ?_ _) | (with_reducible refine Kd.C_drew ?_))); (case side2 => exact HC173_1.out); rintro e w32 ⟨v175, rfl, ho0, hb⟩; refine ⟨_, rfl, ?_⟩; have n0_ := Aside0.mk (Kd.R_elder' (by (with_reducible repeat (first | apply Kd.R_alloc | apply Kd.R_drewN | apply Kd.R_drew)); exact HO_5.out) (Kd.R_base ho0) hb); have n1_ := Aside0.mk (Kd.R_lower (Kd.R_new' ho0 (Kd.R_lt (by (with_reducible repeat (first | apply Kd.R_alloc | apply Kd.R_drewN | apply Kd.R_drew)); exact HO_5.out))) (below_size (by repeat (first | (with_reducible first | exact HB.out | apply below_alloc | apply pw_below_drewN | apply below_drew1 | refine below_set ?_ GE167.out) | exact HB.out)))); have n2_ := Aside0.mk (blk_below (g := gb167) (o := .cells #[.int .u8 a0_0, .slice (some ad173) l0_1.length c0_1] 28 (0, 0)) (by (with_reducible repeat (first | refine blk_drewN ?_ _ | refine blk_drew ?_ | refine blk_alloc ?_ _)); exact BK167.out) hb); have n3_ := Aside0.mk (below_step (by repeat (first | (with_reducible first | exact HB.out | apply below_alloc | apply pw_below_drewN | apply below_drew1 | refine below_set ?_ GE167.out) | exact HB.out)) hb); clear HO_5; clear BK167; clear HB; have HO_5 := n0_; have HO176 := n1_; have BK167 := n2_; have HB := n3_; clear n0_ n1_ n2_ n3_; (try clear hb); (try clear hb2); (try clear hk); (try clear hi); (try clear ho0); have hcz33_0 : w32.cell? ⟨gb167, 0, none⟩ = some (.int .u8 a0_0) := (blk_cell BK167.out 0).trans rfl; have hcz33_1 : w32.cell? ⟨gb167, 1, none⟩ = some (.slice (some ad173) l0_1.length c0_1) := (blk_cell BK167.out 1).trans rfl; have hfz33_0 := blk_frozen BK167.out 0; have hfz33_1 := blk_frozen BK167.out 1))
         go_loopg [8] kj9 (fun kq v8 w' => ∃ (x5_2 : List Bool) (x8_2 : Int), v8 = .int .i64 x8_2 ∧ Aside0 (spec_l7Marks.l0 kq a1 x5_2 t174 x8_2 = some r) ∧ Aside0 (kq ≤ kj9) ∧ Aside0 (Kd.R Kd.bool 4 w' w.heap.size (fun k_ => some k_ ≠ (v175 : Value).ownBlock) v169 x5_2) ∧ Aside0 (Kd.R Kd.bool 4 w' w.heap.size (fun k_ => some k_ ≠ (v169 : Value).ownBlock) v175 t174) ∧ Aside0 (w'.heap[gb167]? = some (.cells #[.int .u8 a0_0, (.slice (some ad173) l0_1.length c0_1)] 28 (0, 0))) ∧ Aside0 (Below w.heap.size w w'))
         case atStart => exact ⟨(y168), (0), (by first | rfl | (simp; done) | (simp [*]; done) | (simp only [IntKind.wrap_i64, wrap64]; done)), H', ⟨Nat.le_refl _⟩, ⟨by (with_reducible repeat (first | apply Kd.R_alloc | apply Kd.R_drewN | apply Kd.R_drew)); exact Kd.R_mono HO_5.out (fun _ hk => hk.2)⟩, ⟨by (with_reducible repeat (first | apply Kd.R_alloc | apply Kd.R_drewN | apply Kd.R_drew)); exact Kd.R_mono HO176.out (fun _ hk => hk.2)⟩, ⟨by (with_reducible repeat (first | refine blk_drewN ?_ _ | refine blk_drew ?_ | refine blk_alloc ?_ _)); exact BK167.out⟩, ⟨by repeat (first | (with_reducible first | exact HB.out | apply below_alloc | apply pw_below_drewN | apply below_drew1 | refine below_set ?_ GE167.out) | exact HB.out)⟩⟩
         case round =>
          clear H'
          try clear c1
          try clear p1
          try clear q1
          try clear hx1
          try clear qi1
          try clear c2
          try clear p2
          try clear q2
          try clear hx2
          try clear hf2
          try clear c3
          try clear c3b0
          try clear c3b1
          try clear c4
          try clear c4b0
          try clear c4b1
          try clear c5
          try clear c5b0
          try clear c5b1
          try clear c15
          try clear c15b0
          try clear c15b1
          try clear c17
          try clear p17
          try clear q17
          try clear hx17
          try clear qi17
          try clear c18
          try clear c20
          try clear c20b0
          try clear c21
          try clear c21b0
          try clear c22
          try clear c22b0
          try clear p23
          try clear q23
          try clear hx23
          try clear hf23
          try clear c26
          try clear c28
          try clear c28b0
          try clear c28b1
          try clear c30
          try clear c30b0
          try clear c30b1
          try clear hcz14_0
          try clear hcz14_1
          try clear hcz16_0
          try clear hcz16_1
          try clear hcz17_0
          try clear hcz17_1
          try clear hcz24_0
          try clear hcz24_1
          try clear hcz27_0
          try clear hcz27_1
          try clear hcz31_0
          try clear hcz31_1
          try clear hcz33_0
          try clear hcz33_1
          try clear hcz9_0
          try clear hcz9_1
          try clear hfz14_0
          try clear hfz14_1
          try clear hfz16_0
          try clear hfz16_1
          try clear hfz17_0
          try clear hfz17_1
          try clear hfz24_0
          try clear hfz24_1
          try clear hfz27_0
          try clear hfz27_1
          try clear hfz31_0
          try clear hfz31_1
          try clear hfz33_0
          try clear hfz33_1
          try clear hfz9_0
          try clear hfz9_1
          try clear hx173_0
          try clear hx173_1
          try clear hx23_0
          try clear p173
          try clear p2
          try clear p23
          try clear q173
          try clear q23
          repeat clear HO_5
          repeat clear HO_7
          obtain ⟨x5_2, x8_2, rfl, HA, HK2, HO_5, HO_7, BK167, HB⟩ := hrel
          cases gk with
          | zero => exact absurd HA.out (by simp [spec_l7Marks.l0])
          | succ k2 =>
           have H := HA.out
           clear HA
           simp only [spec_l7Marks.l0] at H
           by_cases c34 : x8_2 < a1
           ·rw [if_pos c34] at H
            have c34b0 : decide (x8_2 < a1) = true := decide_eq_true c34
            clear c34
            by_cases c35 : 0 ≤ x8_2
            ·rw [if_pos c35] at H
             have c35b0 : decide (0 ≤ x8_2) = true := decide_eq_true c35
             clear c35
             by_cases c36 : x8_2 < (x5_2.length : Int)
             ·rw [if_pos c36] at H
              have c36b0 : decide (x8_2 < (x5_2.length : Int)) = true := decide_eq_true c36
              clear c36
              obtain ⟨y177, hy177⟩ : ∃ y_ : List Bool, y_ = (x5_2.set (x8_2 : Int).toNat (x8_2 == 0)) := ⟨_, rfl⟩
              replace H : (spec_l7Marks.l1 k2 a1 y177 t174 x8_2 1) = some r := by first | (rw [hy177]; with_reducible exact H) | (have H2_ := (Option.bind_some _ _).symm.trans H; rw [hy177]; with_reducible exact H2_) | (have H2_ := (Option.bind_some _ _).symm.trans H; with_reducible exact H2_) | with_reducible exact H | (rw [hy177]; exact H) | exact H
              have Ny177 := Aside0.mk hy177
              clear hy177
              have H' := Aside0.mk H
              clear H
              have p37 : 0 ≤ (x8_2 : Int) := of_decide_eq_true (by first | (with_reducible assumption) | assumption)
              have q37 : (x8_2 : Int) < ((x5_2.length : Int) : Int) := of_decide_eq_true (by first | (with_reducible assumption) | assumption)
              obtain ⟨go37, co37, eo37, gb37, gl37, cl37, HG37⟩ := Kd.R_form HO_5.out (by omega)
              (first | cases eo37 | (injection eo37 with ea_ en_ ec_; (first | subst ea_ | (injection ea_ with ea_; subst ea_)); subst ec_; clear en_))
              have GB37 := Aside0.mk gb37
              have GG37 := Aside0.mk HG37
              clear gb37 gl37 HG37
              obtain ⟨hx37_0, hf37_0⟩ := Kd.R_celln false HO_5.out (x8_2 : Int) p37 q37
              replace p37 := eq_true p37
              replace q37 := eq_true q37
              have HP38 := Kd.R_putg HO_5.out (x8_2 : Int) (x8_2 == 0)
              go_wp2_with (first | ((with_reducible refine gate_store (t := 4) (p := 59) rfl ?_); refine store_event (t := 4) (p := 59) (v := ?vo_w39) (w1 := (wr.setCell ⟨go37, (x8_2 : Int).toNat, none⟩ (.bool (x8_2 == 0)))) ?hg ?ho ?hn ?hr ?_; (case ho => rfl); (case hg => rfl); (case hn => rfl); (case hr => first | (go_simp; done) | (go_simp; rfl)); intro w39 hw; have hg : wr.grownBy w39 (some go37) := (by rw [hw]; exact HP38.2); have hp_ : Kd.R Kd.bool 4 w39 w.heap.size (fun k_ => some k_ ≠ (v175 : Value).ownBlock) (.slice (some ⟨go37, 0, none⟩) x5_2.length co37) y177 := (by rw [hw, Ny177.out]; exact HP38.1); clear HP38; have n0_ := Aside0.mk (hp_); have n1_ := Aside0.mk (Kd.R_after (v := (.slice (some ⟨go37, 0, none⟩) x5_2.length co37)) (v1 := (.slice (some ⟨go37, 0, none⟩) x5_2.length co37)) (ok := (fun _ => True)) (by (with_reducible repeat (first | apply Kd.R_alloc | apply Kd.R_drewN | apply Kd.R_drew)); exact Kd.R_mono HO_7.out (fun _ hk => by first | exact ⟨trivial, hk⟩ | (simp_all; done) | grind)) hg (.inl rfl)); have n2_ := Aside0.mk (blk_grown (g := gb167) (o := .cells #[.int .u8 a0_0, .slice (some ad173) l0_1.length c0_1] 28 (0, 0)) (by (with_reducible repeat (first | refine blk_drewN ?_ _ | refine blk_drew ?_ | refine blk_alloc ?_ _)); exact BK167.out) hg (Kd.R_ne HO_5.out BK167.out (by decide))); have n3_ := Aside0.mk ((by rw [hw]; exact below_set (HB.out) GB37.out : Below w.heap.size w w39)); clear HO_5; clear HO_7; clear BK167; clear HB; have HO_5 := n0_; have HO_7 := n1_; have BK167 := n2_; have HB := n3_; clear n0_ n1_ n2_ n3_; clear hg hw hp_))
              go_loopg [9] k2 (fun kq v9 w' => ∃ (x5_3 : List Bool) (x9_3 : Int), v9 = .int .i64 x9_3 ∧ Aside0 (spec_l7Marks.l1 kq a1 x5_3 t174 x8_2 x9_3 = some r) ∧ Aside0 (kq ≤ k2) ∧ Aside0 (Kd.R Kd.bool 4 w' w.heap.size (fun k_ => some k_ ≠ (v175 : Value).ownBlock) (.slice (some ⟨go37, 0, none⟩) x5_2.length co37) x5_3) ∧ Aside0 (Kd.R Kd.bool 4 w' w.heap.size (fun k_ => some k_ ≠ ((.slice (some ⟨go37, 0, none⟩) x5_2.length co37) : Value).ownBlock) v175 t174) ∧ Aside0 (w'.heap[gb167]? = some (.cells #[.int .u8 a0_0, (.slice (some ad173) l0_1.length c0_1)] 28 (0, 0))) ∧ Aside0 (Below w.heap.size w w'))
              case atStart => exact ⟨(y177), (1), (by first | rfl | (simp; done) | (simp [*]; done) | (simp only [IntKind.wrap_i64, wrap64]; done)), H', ⟨Nat.le_refl _⟩, ⟨by (with_reducible repeat (first | apply Kd.R_alloc | apply Kd.R_drewN | apply Kd.R_drew)); exact HO_5.out⟩, ⟨by (with_reducible repeat (first | apply Kd.R_alloc | apply Kd.R_drewN | apply Kd.R_drew)); exact Kd.R_mono HO_7.out (fun _ hk => hk.2)⟩, ⟨by (with_reducible repeat (first | refine blk_drewN ?_ _ | refine blk_drew ?_ | refine blk_alloc ?_ _)); exact BK167.out⟩, ⟨by repeat (first | (with_reducible first | exact HB.out | apply below_alloc | apply pw_below_drewN | apply below_drew1 | refine below_set ?_ GE167.out) | exact HB.out)⟩⟩
              case round =>
               clear H'
               try clear c1
               try clear p1
               try clear q1
               try clear hx1
               try clear qi1
               try clear c2
               try clear p2
               try clear q2
               try clear hx2
               try clear hf2
               try clear c3
               try clear c3b0
               try clear c3b1
               try clear p3
               try clear q3
               try clear hx3
               try clear hf3
               try clear c4
               try clear c4b0
               try clear c4b1
               try clear c5
               try clear c5b0
               try clear c5b1
               try clear c15
               try clear c15b0
               try clear c15b1
               try clear c17
               try clear p17
               try clear q17
               try clear hx17
               try clear qi17
               try clear c18
               try clear c20
               try clear c20b0
               try clear c21
               try clear c21b0
               try clear c22
               try clear c22b0
               try clear p23
               try clear q23
               try clear hx23
               try clear hf23
               try clear c26
               try clear c28
               try clear c28b0
               try clear c28b1
               try clear c30
               try clear c30b0
               try clear c30b1
               try clear c34
               try clear c34b0
               try clear c35
               try clear c35b0
               try clear c36
               try clear c36b0
               try clear p37
               try clear q37
               try clear hx37
               try clear hf37
               try clear hcz14_0
               try clear hcz14_1
               try clear hcz16_0
               try clear hcz16_1
               try clear hcz17_0
               try clear hcz17_1
               try clear hcz24_0
               try clear hcz24_1
               try clear hcz27_0
               try clear hcz27_1
               try clear hcz31_0
               try clear hcz31_1
               try clear hcz33_0
               try clear hcz33_1
               try clear hcz9_0
               try clear hcz9_1
               try clear hfz14_0
               try clear hfz14_1
               try clear hfz16_0
               try clear hfz16_1
               try clear hfz17_0
               try clear hfz17_1
               try clear hfz24_0
               try clear hfz24_1
               try clear hfz27_0
               try clear hfz27_1
               try clear hfz31_0
               try clear hfz31_1
               try clear hfz33_0
               try clear hfz33_1
               try clear hfz9_0
               try clear hfz9_1
               try clear hx173_0
               try clear hx173_1
               try clear hx23_0
               try clear hx37_0
               try clear p1
               try clear p17
               try clear p173
               try clear p2
               try clear p23
               try clear p37
               try clear q1
               try clear q17
               try clear q173
               try clear q2
               try clear q23
               try clear q37
               repeat clear HO_5
               repeat clear HO_7
               obtain ⟨x5_3, x9_3, rfl, HA, HK3, HO_5, HO_7, BK167, HB⟩ := hrel
               have hl5_3 := (Kd.R_reads' HO_5.out).1
               rw [hl5_3] at HO_5
               (try simp only [hl5_3])
               (try simp only [hl5_3] at BK167)
               (try simp only [hl5_3] at HO_7)
               cases gk with
               | zero => exact absurd HA.out (by simp [spec_l7Marks.l1])
               | succ k3 =>
                have H := HA.out
                clear HA
                simp only [spec_l7Marks.l1] at H
                by_cases c40 : x9_3 ≤ x8_2
                ·rw [if_pos c40] at H
                 have c40b0 : decide (x9_3 ≤ x8_2) = true := decide_eq_true c40
                 clear c40
                 by_cases c41 : 0 ≤ x8_2
                 ·rw [if_pos c41] at H
                  have c41b0 : decide (0 ≤ x8_2) = true := decide_eq_true c41
                  clear c41
                  by_cases c42 : x8_2 < (x5_3.length : Int)
                  ·rw [if_pos c42] at H
                   have c42b0 : decide (x8_2 < (x5_3.length : Int)) = true := decide_eq_true c42
                   clear c42
                   obtain ⟨bq43, hbq43⟩ : ∃ b_ : Bool, b_ = (rdOf false x5_3 x8_2) := ⟨_, rfl⟩
                   replace H : (if bq43 = true then (spec_l7Marks.l1 k3 a1 (x5_3.set (x8_2 : Int).toNat true) t174 x8_2 (wrap64 (x9_3 + 1))) else (if 0 ≤ x9_3 then (if x9_3 < (t174.length : Int) then (if rdOf false t174 x9_3 = true then (if 0 ≤ (wrap64 (x8_2 - x9_3)) then (if (wrap64 (x8_2 - x9_3)) < (x5_3.length : Int) then (spec_l7Marks.l1 k3 a1 (x5_3.set (x8_2 : Int).toNat (rdOf false x5_3 (wrap64 (x8_2 - x9_3)))) t174 x8_2 (wrap64 (x9_3 + 1))) else (none)) else (none)) else (spec_l7Marks.l1 k3 a1 (x5_3.set (x8_2 : Int).toNat false) t174 x8_2 (wrap64 (x9_3 + 1)))) else (none)) else (none))) = some r := by rw [← hbq43] at H; exact H
                   have Nbq43 := Aside0.mk hbq43
                   clear hbq43
                   by_cases c44 : bq43 = true
                   ·subst c44
                    have H1 : (spec_l7Marks.l1 k3 a1 (x5_3.set (x8_2 : Int).toNat true) t174 x8_2 (wrap64 (x9_3 + 1))) = some r := by rw [if_pos rfl] at H; exact H
                    clear H
                    have H := H1
                    clear H1
                    obtain ⟨y179, hy179⟩ : ∃ y_ : List Bool, y_ = (x5_3.set (x8_2 : Int).toNat true) := ⟨_, rfl⟩
                    replace H : (spec_l7Marks.l1 k3 a1 y179 t174 x8_2 (wrap64 (x9_3 + 1))) = some r := by first | (rw [hy179]; with_reducible exact H) | (have H2_ := (Option.bind_some _ _).symm.trans H; rw [hy179]; with_reducible exact H2_) | (have H2_ := (Option.bind_some _ _).symm.trans H; with_reducible exact H2_) | with_reducible exact H | (rw [hy179]; exact H) | exact H
                    have Ny179 := Aside0.mk hy179
                    clear hy179
                    have H' := Aside0.mk H
                    clear H
                    have p178 : 0 ≤ (x8_2 : Int) := of_decide_eq_true (by first | (with_reducible assumption) | assumption)
                    have q178 : x8_2 < (x5_3.length : Int) := of_decide_eq_true (by first | (with_reducible assumption) | assumption)
                    obtain ⟨ad178, e178, hx178_0⟩ := Kd.at_bool (Kd.R_reads' HO_5.out).2.2 x8_2 p178 q178
                    (try rw [← Nbq43.out] at hx178_0)
                    obtain rfl : (⟨go37, 0, none⟩ : Addr) = ad178 := (by injection e178)
                    (first | simp only [add_plain] at hx178_0 | simp only [add_at] at hx178_0 | simp only [Addr.add, Nat.zero_add] at hx178_0 | skip)
                    replace p178 := eq_true p178
                    replace q178 := eq_true q178
                    have p45 : 0 ≤ (x8_2 : Int) := of_decide_eq_true (by first | (with_reducible assumption) | assumption)
                    have q45 : (x8_2 : Int) < ((x5_3.length : Int) : Int) := of_decide_eq_true (by first | (with_reducible assumption) | assumption)
                    obtain ⟨hx45_0, hf45_0⟩ := Kd.R_celln false HO_5.out (x8_2 : Int) p45 q45
                    replace p45 := eq_true p45
                    replace q45 := eq_true q45
                    have HP46 := Kd.R_putg HO_5.out (x8_2 : Int) true
                    go_wp2_with (first | ((with_reducible refine gate_store (t := 4) (p := 85) rfl ?_); refine store_event (t := 4) (p := 85) (v := ?vo_w47) (w1 := (wr.setCell ⟨go37, (x8_2 : Int).toNat, none⟩ (.bool true))) ?hg ?ho ?hn ?hr ?_; (case ho => rfl); (case hg => rfl); (case hn => rfl); (case hr => first | (go_simp; done) | (go_simp; rfl)); intro w47 hw; have hg : wr.grownBy w47 (some go37) := (by rw [hw]; exact HP46.2); have hp_ : Kd.R Kd.bool 4 w47 w.heap.size (fun k_ => some k_ ≠ (v175 : Value).ownBlock) (.slice (some ⟨go37, 0, none⟩) x5_3.length co37) y179 := (by rw [hw, Ny179.out]; exact HP46.1); clear HP46; have n0_ := Aside0.mk (hp_); have n1_ := Aside0.mk (Kd.R_after (v := (.slice (some ⟨go37, 0, none⟩) x5_3.length co37)) (v1 := (.slice (some ⟨go37, 0, none⟩) x5_3.length co37)) (ok := (fun _ => True)) (by (with_reducible repeat (first | apply Kd.R_alloc | apply Kd.R_drewN | apply Kd.R_drew)); exact Kd.R_mono HO_7.out (fun _ hk => by first | exact ⟨trivial, hk⟩ | (simp_all; done) | grind)) hg (.inl rfl)); have n2_ := Aside0.mk (blk_grown (g := gb167) (o := .cells #[.int .u8 a0_0, .slice (some ad173) l0_1.length c0_1] 28 (0, 0)) (by (with_reducible repeat (first | refine blk_drewN ?_ _ | refine blk_drew ?_ | refine blk_alloc ?_ _)); exact BK167.out) hg (Kd.R_ne HO_5.out BK167.out (by decide))); have n3_ := Aside0.mk ((by rw [hw]; exact below_set (HB.out) GB37.out : Below w.heap.size w w47)); clear HO_5; clear HO_7; clear BK167; clear HB; have HO_5 := n0_; have HO_7 := n1_; have BK167 := n2_; have HB := n3_; clear n0_ n1_ n2_ n3_; clear hg hw hp_))
                    (try simp only [← hl5_3])
                    go_roundg k3
                    case measure => have := HJ9.out; have := HK2.out; have := HK3.out; omega
                    case rel => exact ⟨(y179), (wrap64 (x9_3 + 1)), (by first | rfl | (simp; done) | (simp [*]; done) | (simp only [IntKind.wrap_i64, wrap64]; done)), H', ⟨by have := HJ9.out; have := HK2.out; have := HK3.out; omega⟩, ⟨by (try simp only [hl5_3]); (with_reducible repeat (first | apply Kd.R_alloc | apply Kd.R_drewN | apply Kd.R_drew)); exact HO_5.out⟩, ⟨by (try simp only [hl5_3]); (with_reducible repeat (first | apply Kd.R_alloc | apply Kd.R_drewN | apply Kd.R_drew)); exact Kd.R_mono HO_7.out (fun _ hk => by first | trivial | exact hk.2)⟩, ⟨by (try simp only [hl5_3]); (with_reducible repeat (first | refine blk_drewN ?_ _ | refine blk_drew ?_ | refine blk_alloc ?_ _)); exact BK167.out⟩, ⟨by repeat (first | (with_reducible first | exact HB.out | apply below_alloc | apply pw_below_drewN | apply below_drew1 | refine below_set ?_ GE167.out) | exact HB.out)⟩⟩
                   ·replace c44 := Bool.eq_false_iff.mpr c44
                    subst c44
                    have H1 : (if 0 ≤ x9_3 then (if x9_3 < (t174.length : Int) then (if rdOf false t174 x9_3 = true then (if 0 ≤ (wrap64 (x8_2 - x9_3)) then (if (wrap64 (x8_2 - x9_3)) < (x5_3.length : Int) then (spec_l7Marks.l1 k3 a1 (x5_3.set (x8_2 : Int).toNat (rdOf false x5_3 (wrap64 (x8_2 - x9_3)))) t174 x8_2 (wrap64 (x9_3 + 1))) else (none)) else (none)) else (spec_l7Marks.l1 k3 a1 (x5_3.set (x8_2 : Int).toNat false) t174 x8_2 (wrap64 (x9_3 + 1)))) else (none)) else (none)) = some r := by rw [if_neg (show ¬ (false = true) by decide)] at H; exact H
                    clear H
                    have H := H1
                    clear H1
                    by_cases c48 : 0 ≤ x9_3
                    ·rw [if_pos c48] at H
                     have c48b0 : decide (0 ≤ x9_3) = true := decide_eq_true c48
                     clear c48
                     by_cases c49 : x9_3 < (t174.length : Int)
                     ·rw [if_pos c49] at H
                      have c49b0 : decide (x9_3 < (t174.length : Int)) = true := decide_eq_true c49
                      clear c49
                      obtain ⟨bq50, hbq50⟩ : ∃ b_ : Bool, b_ = (rdOf false t174 x9_3) := ⟨_, rfl⟩
                      replace H : (if bq50 = true then (if 0 ≤ (wrap64 (x8_2 - x9_3)) then (if (wrap64 (x8_2 - x9_3)) < (x5_3.length : Int) then (spec_l7Marks.l1 k3 a1 (x5_3.set (x8_2 : Int).toNat (rdOf false x5_3 (wrap64 (x8_2 - x9_3)))) t174 x8_2 (wrap64 (x9_3 + 1))) else (none)) else (none)) else (spec_l7Marks.l1 k3 a1 (x5_3.set (x8_2 : Int).toNat false) t174 x8_2 (wrap64 (x9_3 + 1)))) = some r := by rw [← hbq50] at H; exact H
                      have Nbq50 := Aside0.mk hbq50
                      clear hbq50
                      by_cases c51 : bq50 = true
                      ·subst c51
                       have H1 : (if 0 ≤ (wrap64 (x8_2 - x9_3)) then (if (wrap64 (x8_2 - x9_3)) < (x5_3.length : Int) then (spec_l7Marks.l1 k3 a1 (x5_3.set (x8_2 : Int).toNat (rdOf false x5_3 (wrap64 (x8_2 - x9_3)))) t174 x8_2 (wrap64 (x9_3 + 1))) else (none)) else (none)) = some r := by rw [if_pos rfl] at H; exact H
                       clear H
                       have H := H1
                       clear H1
                       obtain ⟨ji52, hji52⟩ : ∃ j_ : Int, (wrap64 (x8_2 - x9_3)) = j_ := ⟨_, rfl⟩
                       replace H : (if 0 ≤ (ji52) then (if (ji52) < (x5_3.length : Int) then (spec_l7Marks.l1 k3 a1 (x5_3.set (x8_2 : Int).toNat (rdOf false x5_3 (ji52))) t174 x8_2 (wrap64 (x9_3 + 1))) else (none)) else (none)) = some r := by first | (rw [hji52] at H; exact H) | (simp only [hji52] at H ⊢; exact H)
                       have hji52w : (IntKind.i64.wrap (x8_2 - x9_3)) = ji52 := (i64_w _).trans hji52
                       by_cases c53 : 0 ≤ (ji52)
                       ·rw [if_pos c53] at H
                        have c53b0 : decide (0 ≤ (ji52)) = true := decide_eq_true c53
                        clear c53
                        by_cases c54 : (ji52) < (x5_3.length : Int)
                        ·rw [if_pos c54] at H
                         have c54b0 : decide ((ji52) < (x5_3.length : Int)) = true := decide_eq_true c54
                         clear c54
                         obtain ⟨y182, hy182⟩ : ∃ y_ : List Bool, y_ = (x5_3.set (x8_2 : Int).toNat (rdOf false x5_3 (ji52))) := ⟨_, rfl⟩
                         replace H : (spec_l7Marks.l1 k3 a1 y182 t174 x8_2 (wrap64 (x9_3 + 1))) = some r := by first | (rw [hy182]; with_reducible exact H) | (have H2_ := (Option.bind_some _ _).symm.trans H; rw [hy182]; with_reducible exact H2_) | (have H2_ := (Option.bind_some _ _).symm.trans H; with_reducible exact H2_) | with_reducible exact H | (rw [hy182]; exact H) | exact H
                         have Ny182 := Aside0.mk hy182
                         clear hy182
                         have H' := Aside0.mk H
                         clear H
                         have p178 : 0 ≤ (x8_2 : Int) := of_decide_eq_true (by first | (with_reducible assumption) | assumption)
                         have q178 : x8_2 < (x5_3.length : Int) := of_decide_eq_true (by first | (with_reducible assumption) | assumption)
                         obtain ⟨ad178, e178, hx178_0⟩ := Kd.at_bool (Kd.R_reads' HO_5.out).2.2 x8_2 p178 q178
                         (try rw [← Nbq43.out] at hx178_0)
                         (try rw [← Nbq50.out] at hx178_0)
                         obtain rfl : (⟨go37, 0, none⟩ : Addr) = ad178 := (by injection e178)
                         (first | simp only [add_plain] at hx178_0 | simp only [add_at] at hx178_0 | simp only [Addr.add, Nat.zero_add] at hx178_0 | skip)
                         replace p178 := eq_true p178
                         replace q178 := eq_true q178
                         obtain ⟨Ao56, co56, eo56⟩ := Kd.R_slice HO_7.out
                         subst eo56
                         have p180 : 0 ≤ (x9_3 : Int) := of_decide_eq_true (by first | (with_reducible assumption) | assumption)
                         have q180 : x9_3 < (t174.length : Int) := of_decide_eq_true (by first | (with_reducible assumption) | assumption)
                         obtain ⟨ad180, e180, hx180_0⟩ := Kd.at_bool (Kd.R_reads' HO_7.out).2.2 x9_3 p180 q180
                         (try rw [← Nbq43.out] at hx180_0)
                         (try rw [← Nbq50.out] at hx180_0)
                         cases e180
                         replace p180 := eq_true p180
                         replace q180 := eq_true q180
                         have p181 : 0 ≤ ((ji52) : Int) := of_decide_eq_true (by first | (with_reducible assumption) | assumption)
                         have q181 : (ji52) < (x5_3.length : Int) := of_decide_eq_true (by first | (with_reducible assumption) | assumption)
                         obtain ⟨ad181, e181, hx181_0⟩ := Kd.at_bool (Kd.R_reads' HO_5.out).2.2 (ji52) p181 q181
                         (try rw [← Nbq43.out] at hx181_0)
                         (try rw [← Nbq50.out] at hx181_0)
                         obtain rfl : (⟨go37, 0, none⟩ : Addr) = ad181 := (by injection e181)
                         (first | simp only [add_plain] at hx181_0 | simp only [add_at] at hx181_0 | simp only [Addr.add, Nat.zero_add] at hx181_0 | skip)
                         replace p181 := eq_true p181
                         replace q181 := eq_true q181
                         have p55 : 0 ≤ (x8_2 : Int) := of_decide_eq_true (by first | (with_reducible assumption) | assumption)
                         have q55 : (x8_2 : Int) < ((x5_3.length : Int) : Int) := of_decide_eq_true (by first | (with_reducible assumption) | assumption)
                         obtain ⟨hx55_0, hf55_0⟩ := Kd.R_celln false HO_5.out (x8_2 : Int) p55 q55
                         replace p55 := eq_true p55
                         replace q55 := eq_true q55
                         have HP57 := Kd.R_putg HO_5.out (x8_2 : Int) (rdOf false x5_3 (ji52))
                         go_wp2_with (first | ((with_reducible refine gate_store (t := 4) (p := 85) rfl ?_); refine store_event (t := 4) (p := 85) (v := ?vo_w58) (w1 := (wr.setCell ⟨go37, (x8_2 : Int).toNat, none⟩ (.bool (rdOf false x5_3 (ji52))))) ?hg ?ho ?hn ?hr ?_; (case ho => rfl); (case hg => rfl); (case hn => rfl); (case hr => first | (go_simp; done) | (go_simp; rfl)); intro w58 hw; have hg : wr.grownBy w58 (some go37) := (by rw [hw]; exact HP57.2); have hp_ : Kd.R Kd.bool 4 w58 w.heap.size (fun k_ => some k_ ≠ (.slice (some ad180) t174.length co56 : Value).ownBlock) (.slice (some ⟨go37, 0, none⟩) x5_3.length co37) y182 := (by rw [hw, Ny182.out]; exact HP57.1); clear HP57; have n0_ := Aside0.mk (hp_); have n1_ := Aside0.mk (Kd.R_after (v := (.slice (some ⟨go37, 0, none⟩) x5_3.length co37)) (v1 := (.slice (some ⟨go37, 0, none⟩) x5_3.length co37)) (ok := (fun _ => True)) (by (with_reducible repeat (first | apply Kd.R_alloc | apply Kd.R_drewN | apply Kd.R_drew)); exact Kd.R_mono HO_7.out (fun _ hk => by first | exact ⟨trivial, hk⟩ | (simp_all; done) | grind)) hg (.inl rfl)); have n2_ := Aside0.mk (blk_grown (g := gb167) (o := .cells #[.int .u8 a0_0, .slice (some ad173) l0_1.length c0_1] 28 (0, 0)) (by (with_reducible repeat (first | refine blk_drewN ?_ _ | refine blk_drew ?_ | refine blk_alloc ?_ _)); exact BK167.out) hg (Kd.R_ne HO_5.out BK167.out (by decide))); have n3_ := Aside0.mk ((by rw [hw]; exact below_set (HB.out) GB37.out : Below w.heap.size w w58)); clear HO_5; clear HO_7; clear BK167; clear HB; have HO_5 := n0_; have HO_7 := n1_; have BK167 := n2_; have HB := n3_; clear n0_ n1_ n2_ n3_; clear hg hw hp_))
                         (try simp only [← hl5_3])
                         go_roundg k3
                         case measure => have := HJ9.out; have := HK2.out; have := HK3.out; omega
                         case rel => exact ⟨(y182), (wrap64 (x9_3 + 1)), (by first | rfl | (simp; done) | (simp [*]; done) | (simp only [IntKind.wrap_i64, wrap64]; done)), H', ⟨by have := HJ9.out; have := HK2.out; have := HK3.out; omega⟩, ⟨by (try simp only [hl5_3]); (with_reducible repeat (first | apply Kd.R_alloc | apply Kd.R_drewN | apply Kd.R_drew)); exact HO_5.out⟩, ⟨by (try simp only [hl5_3]); (with_reducible repeat (first | apply Kd.R_alloc | apply Kd.R_drewN | apply Kd.R_drew)); exact Kd.R_mono HO_7.out (fun _ hk => by first | trivial | exact hk.2)⟩, ⟨by (try simp only [hl5_3]); (with_reducible repeat (first | refine blk_drewN ?_ _ | refine blk_drew ?_ | refine blk_alloc ?_ _)); exact BK167.out⟩, ⟨by repeat (first | (with_reducible first | exact HB.out | apply below_alloc | apply pw_below_drewN | apply below_drew1 | refine below_set ?_ GE167.out) | exact HB.out)⟩⟩
                        ·rw [if_neg c54] at H
                         exact absurd H (by simp)
                       ·rw [if_neg c53] at H
                        exact absurd H (by simp)
                      ·replace c51 := Bool.eq_false_iff.mpr c51
                       subst c51
                       have H1 : (spec_l7Marks.l1 k3 a1 (x5_3.set (x8_2 : Int).toNat false) t174 x8_2 (wrap64 (x9_3 + 1))) = some r := by rw [if_neg (show ¬ (false = true) by decide)] at H; exact H
                       clear H
                       have H := H1
                       clear H1
                       obtain ⟨y183, hy183⟩ : ∃ y_ : List Bool, y_ = (x5_3.set (x8_2 : Int).toNat false) := ⟨_, rfl⟩
                       replace H : (spec_l7Marks.l1 k3 a1 y183 t174 x8_2 (wrap64 (x9_3 + 1))) = some r := by first | (rw [hy183]; with_reducible exact H) | (have H2_ := (Option.bind_some _ _).symm.trans H; rw [hy183]; with_reducible exact H2_) | (have H2_ := (Option.bind_some _ _).symm.trans H; with_reducible exact H2_) | with_reducible exact H | (rw [hy183]; exact H) | exact H
                       have Ny183 := Aside0.mk hy183
                       clear hy183
                       have H' := Aside0.mk H
                       clear H
                       have p178 : 0 ≤ (x8_2 : Int) := of_decide_eq_true (by first | (with_reducible assumption) | assumption)
                       have q178 : x8_2 < (x5_3.length : Int) := of_decide_eq_true (by first | (with_reducible assumption) | assumption)
                       obtain ⟨ad178, e178, hx178_0⟩ := Kd.at_bool (Kd.R_reads' HO_5.out).2.2 x8_2 p178 q178
                       (try rw [← Nbq43.out] at hx178_0)
                       (try rw [← Nbq50.out] at hx178_0)
                       obtain rfl : (⟨go37, 0, none⟩ : Addr) = ad178 := (by injection e178)
                       (first | simp only [add_plain] at hx178_0 | simp only [add_at] at hx178_0 | simp only [Addr.add, Nat.zero_add] at hx178_0 | skip)
                       replace p178 := eq_true p178
                       replace q178 := eq_true q178
                       obtain ⟨Ao60, co60, eo60⟩ := Kd.R_slice HO_7.out
                       subst eo60
                       have p180 : 0 ≤ (x9_3 : Int) := of_decide_eq_true (by first | (with_reducible assumption) | assumption)
                       have q180 : x9_3 < (t174.length : Int) := of_decide_eq_true (by first | (with_reducible assumption) | assumption)
                       obtain ⟨ad180, e180, hx180_0⟩ := Kd.at_bool (Kd.R_reads' HO_7.out).2.2 x9_3 p180 q180
                       (try rw [← Nbq43.out] at hx180_0)
                       (try rw [← Nbq50.out] at hx180_0)
                       cases e180
                       replace p180 := eq_true p180
                       replace q180 := eq_true q180
                       have p59 : 0 ≤ (x8_2 : Int) := of_decide_eq_true (by first | (with_reducible assumption) | assumption)
                       have q59 : (x8_2 : Int) < ((x5_3.length : Int) : Int) := of_decide_eq_true (by first | (with_reducible assumption) | assumption)
                       obtain ⟨hx59_0, hf59_0⟩ := Kd.R_celln false HO_5.out (x8_2 : Int) p59 q59
                       replace p59 := eq_true p59
                       replace q59 := eq_true q59
                       have HP61 := Kd.R_putg HO_5.out (x8_2 : Int) false
                       go_wp2_with (first | ((with_reducible refine gate_store (t := 4) (p := 85) rfl ?_); refine store_event (t := 4) (p := 85) (v := ?vo_w62) (w1 := (wr.setCell ⟨go37, (x8_2 : Int).toNat, none⟩ (.bool false))) ?hg ?ho ?hn ?hr ?_; (case ho => rfl); (case hg => rfl); (case hn => rfl); (case hr => first | (go_simp; done) | (go_simp; rfl)); intro w62 hw; have hg : wr.grownBy w62 (some go37) := (by rw [hw]; exact HP61.2); have hp_ : Kd.R Kd.bool 4 w62 w.heap.size (fun k_ => some k_ ≠ (.slice (some ad180) t174.length co60 : Value).ownBlock) (.slice (some ⟨go37, 0, none⟩) x5_3.length co37) y183 := (by rw [hw, Ny183.out]; exact HP61.1); clear HP61; have n0_ := Aside0.mk (hp_); have n1_ := Aside0.mk (Kd.R_after (v := (.slice (some ⟨go37, 0, none⟩) x5_3.length co37)) (v1 := (.slice (some ⟨go37, 0, none⟩) x5_3.length co37)) (ok := (fun _ => True)) (by (with_reducible repeat (first | apply Kd.R_alloc | apply Kd.R_drewN | apply Kd.R_drew)); exact Kd.R_mono HO_7.out (fun _ hk => by first | exact ⟨trivial, hk⟩ | (simp_all; done) | grind)) hg (.inl rfl)); have n2_ := Aside0.mk (blk_grown (g := gb167) (o := .cells #[.int .u8 a0_0, .slice (some ad173) l0_1.length c0_1] 28 (0, 0)) (by (with_reducible repeat (first | refine blk_drewN ?_ _ | refine blk_drew ?_ | refine blk_alloc ?_ _)); exact BK167.out) hg (Kd.R_ne HO_5.out BK167.out (by decide))); have n3_ := Aside0.mk ((by rw [hw]; exact below_set (HB.out) GB37.out : Below w.heap.size w w62)); clear HO_5; clear HO_7; clear BK167; clear HB; have HO_5 := n0_; have HO_7 := n1_; have BK167 := n2_; have HB := n3_; clear n0_ n1_ n2_ n3_; clear hg hw hp_))
                       (try simp only [← hl5_3])
                       go_roundg k3
                       case measure => have := HJ9.out; have := HK2.out; have := HK3.out; omega
                       case rel => exact ⟨(y183), (wrap64 (x9_3 + 1)), (by first | rfl | (simp; done) | (simp [*]; done) | (simp only [IntKind.wrap_i64, wrap64]; done)), H', ⟨by have := HJ9.out; have := HK2.out; have := HK3.out; omega⟩, ⟨by (try simp only [hl5_3]); (with_reducible repeat (first | apply Kd.R_alloc | apply Kd.R_drewN | apply Kd.R_drew)); exact HO_5.out⟩, ⟨by (try simp only [hl5_3]); (with_reducible repeat (first | apply Kd.R_alloc | apply Kd.R_drewN | apply Kd.R_drew)); exact Kd.R_mono HO_7.out (fun _ hk => by first | trivial | exact hk.2)⟩, ⟨by (try simp only [hl5_3]); (with_reducible repeat (first | refine blk_drewN ?_ _ | refine blk_drew ?_ | refine blk_alloc ?_ _)); exact BK167.out⟩, ⟨by repeat (first | (with_reducible first | exact HB.out | apply below_alloc | apply pw_below_drewN | apply below_drew1 | refine below_set ?_ GE167.out) | exact HB.out)⟩⟩
                     ·rw [if_neg c49] at H
                      exact absurd H (by simp)
                    ·rw [if_neg c48] at H
                     exact absurd H (by simp)
                  ·rw [if_neg c42] at H
                   exact absurd H (by simp)
                 ·rw [if_neg c41] at H
                  exact absurd H (by simp)
                ·rw [if_neg c40] at H
                 have c40b0 : decide (x9_3 ≤ x8_2) = false := decide_eq_false c40
                 clear c40
                 have H' := Aside0.mk H
                 clear H
                 go_wp2
                 (try simp only [← hl5_3])
                 go_roundg k3
                 case measure => have := HJ9.out; have := HK2.out; have := HK3.out; omega
                 case rel => exact ⟨(x5_3), (wrap64 (x8_2 + 1)), (by first | rfl | (simp; done) | (simp [*]; done) | (simp only [IntKind.wrap_i64, wrap64]; done)), H', ⟨by have := HJ9.out; have := HK2.out; have := HK3.out; omega⟩, ⟨by (try simp only [hl5_3]); (with_reducible repeat (first | apply Kd.R_alloc | apply Kd.R_drewN | apply Kd.R_drew)); exact HO_5.out⟩, ⟨by (try simp only [hl5_3]); (with_reducible repeat (first | apply Kd.R_alloc | apply Kd.R_drewN | apply Kd.R_drew)); exact HO_7.out⟩, ⟨by (try simp only [hl5_3]); (with_reducible repeat (first | refine blk_drewN ?_ _ | refine blk_drew ?_ | refine blk_alloc ?_ _)); exact BK167.out⟩, ⟨by repeat (first | (with_reducible first | exact HB.out | apply below_alloc | apply pw_below_drewN | apply below_drew1 | refine below_set ?_ GE167.out) | exact HB.out)⟩⟩
             ·rw [if_neg c36] at H
              exact absurd H (by simp)
            ·rw [if_neg c35] at H
             exact absurd H (by simp)
           ·rw [if_neg c34] at H
            have c34b0 : decide (x8_2 < a1) = false := decide_eq_false c34
            clear c34
            obtain rfl := Option.some.inj H
            go_wp2
            go_ret
            exact ⟨_, by first | rfl | (simp [errW_none, errW_some] <;> rfl) | (simp [*, errW_none, errW_some] <;> rfl), by (with_reducible repeat (first | apply Kd.R_alloc | apply Kd.R_drewN | apply Kd.R_drew)); exact Kd.R_mono HO_5.out (fun _ hk => trivial), by repeat (first | (with_reducible first | exact HB.out | apply below_alloc | apply pw_below_drewN | apply below_drew1 | refine below_set ?_ GE167.out) | exact HB.out)⟩
        ·rw [if_neg c30] at H
         have c30b0 : (a0_0 == 42) = false := beq_eq_false_iff_ne.mpr c30
         have c30b1 : (a0_0 != 42) = true := bne_iff_ne.mpr c30
         have HC63 := Aside0.mk H
         clear H
         have hcz64_0 : wc.cell? ⟨gb167, 0, none⟩ = some (.int .u8 a0_0) := (blk_cell BK167.out 0).trans rfl
         have hcz64_1 : wc.cell? ⟨gb167, 1, none⟩ = some (.slice A0_1 l0_1.length c0_1) := (blk_cell BK167.out 1).trans rfl
         have hfz64_0 := blk_frozen BK167.out 0
         have hfz64_1 := blk_frozen BK167.out 1
         have p173 : 0 ≤ (0 : Int) := (by omega)
         have q173 : 0 < (l0_1.length : Int) := of_decide_eq_true (by first | (with_reducible assumption) | assumption)
         obtain ⟨ad173, A173_1, c173_1, e173, hx173_0, hx173_1, hl173_1, hi173_1⟩ := at_T28 HR0_1.out 0 p173 q173
         cases e173
         have qi173 : (0 < l0_1.length) = True := eq_true (by omega)
         (try rw [show ((0 : Int)).toNat = 0 from rfl] at hx173_0)
         (try rw [show 0 * 2 = 0 from rfl] at hx173_0)
         (try rw [Addr.add_zero'] at hx173_0)
         (try rw [show ((0 : Int)).toNat = 0 from rfl] at hx173_1)
         (try rw [show 0 * 2 = 0 from rfl] at hx173_1)
         (try rw [Addr.add_zero'] at hx173_1)
         replace hx173_0 := (HB.out.cell (World.block_lt_of_cell? w _ hx173_0)).trans hx173_0
         replace hx173_1 := (HB.out.cell (World.block_lt_of_cell? w _ hx173_1)).trans hx173_1
         have HR173_1 := Aside0.mk hi173_1
         have HC173_1 := Aside0.mk hl173_1
         clear hi173_1 hl173_1
         replace p173 := eq_true p173
         replace q173 := eq_true q173
         go_upto_region 20 with (first | ((with_reducible refine gate_callee (f := 17) rfl ?_); refine goesL_ (some 45) rfl rfl Try.func17 (by kernel_rfl) rfl #[.agg #[.int .u8 ((rd_T28 l0_1 0).f0), .slice A173_1 ((rd_T28 l0_1 0).f1).length c173_1], .int .i64 a1] rfl (by (try simp only [List.map_toArray, List.map_cons, List.map_nil]); first | done | rfl | (simp only [List.length_drop, List.length_take]; rfl)) ?_; (with_reducible refine (ih kj9 (by have := HJ9.out; omega) ((rd_T28 l0_1 0).f0) _ _ ((rd_T28 l0_1 0).f1) a1 t174 _ ?side1 ?side2 A29.out).mono ?_); (case side1 => repeat (first | exact (Kd.C_below HR173_1.out HB.out) | (with_reducible refine Kd.C_alloc ?_ _) | (with_reducible refine Kd.C_drewN ?_ _) | (with_reducible refine Kd.C_drew ?_))); (case side2 => exact HC173_1.out); rintro e w65 ⟨v175, rfl, ho0, hb⟩; refine ⟨_, rfl, ?_⟩; have n0_ := Aside0.mk (Kd.R_elder' (by (with_reducible repeat (first | apply Kd.R_alloc | apply Kd.R_drewN | apply Kd.R_drew)); exact HO_5.out) (Kd.R_base ho0) hb); have n1_ := Aside0.mk (Kd.R_lower (Kd.R_new' ho0 (Kd.R_lt (by (with_reducible repeat (first | apply Kd.R_alloc | apply Kd.R_drewN | apply Kd.R_drew)); exact HO_5.out))) (below_size (by repeat (first | (with_reducible first | exact HB.out | apply below_alloc | apply pw_below_drewN | apply below_drew1 | refine below_set ?_ GE167.out) | exact HB.out)))); have n2_ := Aside0.mk (blk_below (g := gb167) (o := .cells #[.int .u8 a0_0, .slice (some ad173) l0_1.length c0_1] 28 (0, 0)) (by (with_reducible repeat (first | refine blk_drewN ?_ _ | refine blk_drew ?_ | refine blk_alloc ?_ _)); exact BK167.out) hb); have n3_ := Aside0.mk (below_step (by repeat (first | (with_reducible first | exact HB.out | apply below_alloc | apply pw_below_drewN | apply below_drew1 | refine below_set ?_ GE167.out) | exact HB.out)) hb); clear HO_5; clear BK167; clear HB; have HO_5 := n0_; have HO176 := n1_; have BK167 := n2_; have HB := n3_; clear n0_ n1_ n2_ n3_; (try clear hb); (try clear hb2); (try clear hk); (try clear hi); (try clear ho0); have hcz66_0 : w65.cell? ⟨gb167, 0, none⟩ = some (.int .u8 a0_0) := (blk_cell BK167.out 0).trans rfl; have hcz66_1 : w65.cell? ⟨gb167, 1, none⟩ = some (.slice (some ad173) l0_1.length c0_1) := (blk_cell BK167.out 1).trans rfl; have hfz66_0 := blk_frozen BK167.out 0; have hfz66_1 := blk_frozen BK167.out 1))
         (try simp only [Act.put, List.setIfInBounds_toArray, List.set_cons_zero, List.set_cons_succ])
         go_cut [87] (fun v87 wc => ∃ (kq : Nat) (x87_62 : Bool), v87 = .bool x87_62 ∧ Aside0 (spec_l7Marks.j3 kq a1 y168 t174 x87_62 a0_0 l0_1 = some r) ∧ Aside0 (kq ≤ kj9) ∧ Aside0 (Kd.R Kd.bool 4 wc w.heap.size (fun k_ => some k_ ≠ (v175 : Value).ownBlock) v169 y168) ∧ Aside0 (Kd.R Kd.bool 4 wc w.heap.size (fun k_ => some k_ ≠ (v169 : Value).ownBlock) v175 t174) ∧ Aside0 (wc.heap[gb167]? = some (.cells #[.int .u8 a0_0, (.slice (some ad173) l0_1.length c0_1)] 28 (0, 0))) ∧ Aside0 (Below w.heap.size w wc))
         case first =>
          have H := HC63.out
          clear HC63
          by_cases c67 : a0_0 ≥ 50
          ·rw [if_pos c67] at H
           have c67b0 : decide (50 ≤ a0_0) = true := decide_eq_true c67
           clear c67
           (first | rw [c67b0] | (simp only [i64_w, i32_w]; rw [c67b0]) | skip)
           have H' := Aside0.mk H
           clear H
           have hcz68_0 : w65.cell? ⟨gb167, 0, none⟩ = some (.int .u8 a0_0) := (blk_cell BK167.out 0).trans rfl
           have hcz68_1 : w65.cell? ⟨gb167, 1, none⟩ = some (.slice (some ad173) l0_1.length c0_1) := (blk_cell BK167.out 1).trans rfl
           have hfz68_0 := blk_frozen BK167.out 0
           have hfz68_1 := blk_frozen BK167.out 1
           go_wp2
           go_meet
           case rel => exact ⟨_, (decide (a0_0 ≤ 53)), (by first | rfl | (simp; done) | (simp [*]; done) | (simp only [IntKind.wrap_i64, wrap64]; done)), H', ⟨by have := HJ9.out; first | omega | exact Nat.le_refl _⟩, ⟨by (with_reducible repeat (first | apply Kd.R_alloc | apply Kd.R_drewN | apply Kd.R_drew)); exact Kd.R_mono HO_5.out (fun _ hk => by first | trivial | exact hk.2)⟩, ⟨by (with_reducible repeat (first | apply Kd.R_alloc | apply Kd.R_drewN | apply Kd.R_drew)); exact Kd.R_mono HO176.out (fun _ hk => by first | trivial | exact hk.2)⟩, ⟨by (with_reducible repeat (first | refine blk_drewN ?_ _ | refine blk_drew ?_ | refine blk_alloc ?_ _)); exact BK167.out⟩, ⟨by repeat (first | (with_reducible first | exact HB.out | apply below_alloc | apply pw_below_drewN | apply below_drew1 | refine below_set ?_ GE167.out) | exact HB.out)⟩⟩
          ·rw [if_neg c67] at H
           have c67b0 : decide (50 ≤ a0_0) = false := decide_eq_false c67
           clear c67
           (first | rw [c67b0] | (simp only [i64_w, i32_w]; rw [c67b0]) | skip)
           have H' := Aside0.mk H
           clear H
           have hcz69_0 : w65.cell? ⟨gb167, 0, none⟩ = some (.int .u8 a0_0) := (blk_cell BK167.out 0).trans rfl
           have hcz69_1 : w65.cell? ⟨gb167, 1, none⟩ = some (.slice (some ad173) l0_1.length c0_1) := (blk_cell BK167.out 1).trans rfl
           have hfz69_0 := blk_frozen BK167.out 0
           have hfz69_1 := blk_frozen BK167.out 1
           go_wp2
           go_meet
           case rel => exact ⟨_, (false), (by first | rfl | (simp; done) | (simp [*]; done) | (simp only [IntKind.wrap_i64, wrap64]; done)), H', ⟨by have := HJ9.out; first | omega | exact Nat.le_refl _⟩, ⟨by (with_reducible repeat (first | apply Kd.R_alloc | apply Kd.R_drewN | apply Kd.R_drew)); exact Kd.R_mono HO_5.out (fun _ hk => by first | trivial | exact hk.2)⟩, ⟨by (with_reducible repeat (first | apply Kd.R_alloc | apply Kd.R_drewN | apply Kd.R_drew)); exact Kd.R_mono HO176.out (fun _ hk => by first | trivial | exact hk.2)⟩, ⟨by (with_reducible repeat (first | refine blk_drewN ?_ _ | refine blk_drew ?_ | refine blk_alloc ?_ _)); exact BK167.out⟩, ⟨by repeat (first | (with_reducible first | exact HB.out | apply below_alloc | apply pw_below_drewN | apply below_drew1 | refine below_set ?_ GE167.out) | exact HB.out)⟩⟩
         case rest =>
          clear HC63
          try clear c1
          try clear p1
          try clear q1
          try clear hx1
          try clear qi1
          try clear c2
          try clear p2
          try clear q2
          try clear hx2
          try clear hf2
          try clear c3
          try clear c3b0
          try clear c3b1
          try clear p3
          try clear q3
          try clear hx3
          try clear hf3
          try clear c4
          try clear c4b0
          try clear c4b1
          try clear p4
          try clear q4
          try clear hx4
          try clear hf4
          try clear c5
          try clear c5b0
          try clear c5b1
          try clear p5
          try clear q5
          try clear hx5
          try clear hf5
          try clear c6
          try clear p6
          try clear c15
          try clear c15b0
          try clear c15b1
          try clear c17
          try clear p17
          try clear q17
          try clear hx17
          try clear qi17
          try clear c18
          try clear p18
          try clear q18
          try clear hx18
          try clear c20
          try clear c20b0
          try clear c21
          try clear c21b0
          try clear c22
          try clear c22b0
          try clear p23
          try clear q23
          try clear hx23
          try clear hf23
          try clear c26
          try clear c28
          try clear c28b0
          try clear c28b1
          try clear c30
          try clear c30b0
          try clear c30b1
          try clear c34
          try clear c34b0
          try clear c35
          try clear c35b0
          try clear c36
          try clear c36b0
          try clear p37
          try clear q37
          try clear hx37
          try clear hf37
          try clear c40
          try clear c40b0
          try clear c41
          try clear c41b0
          try clear c42
          try clear c42b0
          try clear q43
          try clear c44
          try clear p45
          try clear q45
          try clear hx45
          try clear hf45
          try clear c48
          try clear c48b0
          try clear c49
          try clear c49b0
          try clear q50
          try clear c51
          try clear c53
          try clear c53b0
          try clear c54
          try clear c54b0
          try clear p55
          try clear q55
          try clear hx55
          try clear hf55
          try clear p59
          try clear q59
          try clear hx59
          try clear hf59
          try clear p64
          try clear c67
          try clear c67b0
          try clear hcz14_0
          try clear hcz14_1
          try clear hcz16_0
          try clear hcz16_1
          try clear hcz17_0
          try clear hcz17_1
          try clear hcz24_0
          try clear hcz24_1
          try clear hcz27_0
          try clear hcz27_1
          try clear hcz31_0
          try clear hcz31_1
          try clear hcz33_0
          try clear hcz33_1
          try clear hcz64_0
          try clear hcz64_1
          try clear hcz66_0
          try clear hcz66_1
          try clear hcz68_0
          try clear hcz68_1
          try clear hcz69_0
          try clear hcz69_1
          try clear hcz9_0
          try clear hcz9_1
          try clear hfz14_0
          try clear hfz14_1
          try clear hfz16_0
          try clear hfz16_1
          try clear hfz17_0
          try clear hfz17_1
          try clear hfz24_0
          try clear hfz24_1
          try clear hfz27_0
          try clear hfz27_1
          try clear hfz31_0
          try clear hfz31_1
          try clear hfz33_0
          try clear hfz33_1
          try clear hfz64_0
          try clear hfz64_1
          try clear hfz66_0
          try clear hfz66_1
          try clear hfz68_0
          try clear hfz68_1
          try clear hfz69_0
          try clear hfz69_1
          try clear hfz9_0
          try clear hfz9_1
          try clear hx173_0
          try clear hx173_1
          try clear hx178_0
          try clear hx180_0
          try clear hx181_0
          try clear hx23_0
          try clear hx37_0
          try clear hx45_0
          try clear hx55_0
          try clear hx59_0
          try clear p1
          try clear p17
          try clear p173
          try clear p178
          try clear p180
          try clear p181
          try clear p2
          try clear p23
          try clear p3
          try clear p37
          try clear p45
          try clear p55
          try clear p59
          try clear q1
          try clear q17
          try clear q173
          try clear q178
          try clear q180
          try clear q181
          try clear q2
          try clear q23
          try clear q3
          try clear q37
          try clear q45
          try clear q55
          try clear q59
          obtain ⟨kq, x87_62, rfl, HA, HJ62, HO_5, HO_7, BK167, HB⟩ := hcut
          cases kq with
          | zero => exact absurd HA.out (by simp [spec_l7Marks.j3])
          | succ kj62 =>
           have H := HA.out
           clear HA
           simp only [spec_l7Marks.j3] at H
           by_cases c70 : x87_62 = true
           ·subst c70
            have H1 : (spec_l7Marks.l2 kj62 t174 t174 49 a0_0 l0_1) = some r := by rw [if_pos rfl] at H; exact H
            clear H
            have H := H1
            clear H1
            have H' := Aside0.mk H
            clear H
            go_wp2
            go_loopg [5, 10] kj62 (fun kq v5 v10 w' => ∃ (x5_3 : List Bool) (x10_3 : Int), v10 = .int .u8 x10_3 ∧ Aside0 (spec_l7Marks.l2 kq x5_3 t174 x10_3 a0_0 l0_1 = some r) ∧ Aside0 (kq ≤ kj62) ∧ Aside0 (Kd.R Kd.bool 4 w' w.heap.size (fun _ => True) v5 x5_3) ∧ Aside0 (Kd.R Kd.bool 4 w' w.heap.size (fun _ => True) v175 t174) ∧ Aside0 (w'.heap[gb167]? = some (.cells #[.int .u8 a0_0, (.slice (some ad173) l0_1.length c0_1)] 28 (0, 0))) ∧ Aside0 (Below w.heap.size w w'))
            case atStart => exact ⟨(t174), (49), (by first | rfl | (simp; done) | (simp [*]; done) | (simp only [IntKind.wrap_i64, wrap64]; done)), H', ⟨Nat.le_refl _⟩, ⟨by (with_reducible repeat (first | apply Kd.R_alloc | apply Kd.R_drewN | apply Kd.R_drew)); exact Kd.R_mono HO_7.out (fun _ hk => trivial)⟩, ⟨by (with_reducible repeat (first | apply Kd.R_alloc | apply Kd.R_drewN | apply Kd.R_drew)); exact Kd.R_mono HO_7.out (fun _ hk => trivial)⟩, ⟨by (with_reducible repeat (first | refine blk_drewN ?_ _ | refine blk_drew ?_ | refine blk_alloc ?_ _)); exact BK167.out⟩, ⟨by repeat (first | (with_reducible first | exact HB.out | apply below_alloc | apply pw_below_drewN | apply below_drew1 | refine below_set ?_ GE167.out) | exact HB.out)⟩⟩
            case round =>
             clear H'
             try clear c1
             try clear p1
             try clear q1
             try clear hx1
             try clear qi1
             try clear c2
             try clear p2
             try clear q2
             try clear hx2
             try clear hf2
             try clear c3
             try clear c3b0
             try clear c3b1
             try clear p3
             try clear q3
             try clear hx3
             try clear hf3
             try clear c4
             try clear c4b0
             try clear c4b1
             try clear p4
             try clear q4
             try clear hx4
             try clear hf4
             try clear c5
             try clear c5b0
             try clear c5b1
             try clear p5
             try clear q5
             try clear hx5
             try clear hf5
             try clear c6
             try clear p6
             try clear c7
             try clear c15
             try clear c15b0
             try clear c15b1
             try clear c17
             try clear p17
             try clear q17
             try clear hx17
             try clear qi17
             try clear c18
             try clear p18
             try clear q18
             try clear hx18
             try clear c20
             try clear c20b0
             try clear c21
             try clear c21b0
             try clear c22
             try clear c22b0
             try clear p23
             try clear q23
             try clear hx23
             try clear hf23
             try clear c26
             try clear c28
             try clear c28b0
             try clear c28b1
             try clear c30
             try clear c30b0
             try clear c30b1
             try clear c34
             try clear c34b0
             try clear c35
             try clear c35b0
             try clear c36
             try clear c36b0
             try clear p37
             try clear q37
             try clear hx37
             try clear hf37
             try clear c40
             try clear c40b0
             try clear c41
             try clear c41b0
             try clear c42
             try clear c42b0
             try clear q43
             try clear c44
             try clear p45
             try clear q45
             try clear hx45
             try clear hf45
             try clear c48
             try clear c48b0
             try clear c49
             try clear c49b0
             try clear q50
             try clear c51
             try clear c53
             try clear c53b0
             try clear c54
             try clear c54b0
             try clear p55
             try clear q55
             try clear hx55
             try clear hf55
             try clear p59
             try clear q59
             try clear hx59
             try clear hf59
             try clear p64
             try clear c67
             try clear c67b0
             try clear c70
             try clear hcz14_0
             try clear hcz14_1
             try clear hcz16_0
             try clear hcz16_1
             try clear hcz17_0
             try clear hcz17_1
             try clear hcz24_0
             try clear hcz24_1
             try clear hcz27_0
             try clear hcz27_1
             try clear hcz31_0
             try clear hcz31_1
             try clear hcz33_0
             try clear hcz33_1
             try clear hcz64_0
             try clear hcz64_1
             try clear hcz66_0
             try clear hcz66_1
             try clear hcz68_0
             try clear hcz68_1
             try clear hcz69_0
             try clear hcz69_1
             try clear hcz9_0
             try clear hcz9_1
             try clear hfz14_0
             try clear hfz14_1
             try clear hfz16_0
             try clear hfz16_1
             try clear hfz17_0
             try clear hfz17_1
             try clear hfz24_0
             try clear hfz24_1
             try clear hfz27_0
             try clear hfz27_1
             try clear hfz31_0
             try clear hfz31_1
             try clear hfz33_0
             try clear hfz33_1
             try clear hfz64_0
             try clear hfz64_1
             try clear hfz66_0
             try clear hfz66_1
             try clear hfz68_0
             try clear hfz68_1
             try clear hfz69_0
             try clear hfz69_1
             try clear hfz9_0
             try clear hfz9_1
             try clear hx173_0
             try clear hx173_1
             try clear hx178_0
             try clear hx180_0
             try clear hx181_0
             try clear hx23_0
             try clear hx37_0
             try clear hx45_0
             try clear hx55_0
             try clear hx59_0
             try clear p1
             try clear p17
             try clear p173
             try clear p178
             try clear p18
             try clear p180
             try clear p181
             try clear p2
             try clear p23
             try clear p3
             try clear p37
             try clear p4
             try clear p45
             try clear p5
             try clear p55
             try clear p59
             try clear p6
             try clear p64
             try clear q1
             try clear q17
             try clear q173
             try clear q178
             try clear q18
             try clear q180
             try clear q181
             try clear q2
             try clear q23
             try clear q3
             try clear q37
             try clear q4
             try clear q43
             try clear q45
             try clear q5
             try clear q50
             try clear q55
             try clear q59
             repeat clear HO_5
             repeat clear HO_7
             obtain ⟨x5_3, x10_3, rfl, HA, HK3, HO_5, HO_7, BK167, HB⟩ := hrel
             cases gk with
             | zero => exact absurd HA.out (by simp [spec_l7Marks.l2])
             | succ k3 =>
              have H := HA.out
              clear HA
              simp only [spec_l7Marks.l2] at H
              by_cases c71 : x10_3 < a0_0
              ·rw [if_pos c71] at H
               have c71b0 : decide (x10_3 < a0_0) = true := decide_eq_true c71
               clear c71
               replace H := Option.bind_eq_some_iff.mp H
               obtain ⟨t184, A720, H⟩ := H
               replace H : (spec_l7Marks.l2 k3 t184 t174 ((x10_3 + 1) % 256) a0_0 l0_1) = some r := H
               have A72 := Aside0.mk A720
               clear A720
               have H' := Aside0.mk H
               clear H
               have hcz73_0 : wr.cell? ⟨gb167, 0, none⟩ = some (.int .u8 a0_0) := (blk_cell BK167.out 0).trans rfl
               have hcz73_1 : wr.cell? ⟨gb167, 1, none⟩ = some (.slice (some ad173) l0_1.length c0_1) := (blk_cell BK167.out 1).trans rfl
               have hfz73_0 := blk_frozen BK167.out 0
               have hfz73_1 := blk_frozen BK167.out 1
               obtain ⟨Ao74, co74, eo74⟩ := Kd.R_slice HO_5.out
               subst eo74
               obtain ⟨Ao75, co75, eo75⟩ := Kd.R_slice HO_7.out
               subst eo75
               go_wp2_with (first | ((with_reducible refine gate_callee (f := 27) rfl ?_); refine goesL_ (some 105) rfl rfl Try.func27 (by kernel_rfl) rfl #[.slice Ao74 x5_3.length co74, .slice Ao75 t174.length co75] rfl (by (try simp only [List.map_toArray, List.map_cons, List.map_nil]); first | done | rfl | (simp only [List.length_drop, List.length_take]; rfl)) ?_; (with_reducible refine (spec_l7Sum.calls k3 _ _ x5_3 _ _ t174 t184 _ ?side1 ?side2 ?side3 ?side4 A72.out).mono ?_); (case side1 => repeat (first | exact (Kd.R_reads' HO_5.out).2.2 | (with_reducible refine Kd.C_alloc ?_ _) | (with_reducible refine Kd.C_drewN ?_ _) | (with_reducible refine Kd.C_drew ?_))); (case side2 => exact (Kd.R_reads' HO_5.out).2.1); (case side3 => repeat (first | exact (Kd.R_reads' HO_7.out).2.2 | (with_reducible refine Kd.C_alloc ?_ _) | (with_reducible refine Kd.C_drewN ?_ _) | (with_reducible refine Kd.C_drew ?_))); (case side4 => exact (Kd.R_reads' HO_7.out).2.1); rintro e w76 ⟨v185, rfl, ho0, hb⟩; refine ⟨_, rfl, ?_⟩; have n0_ := Aside0.mk (Kd.R_elder' (by (with_reducible repeat (first | apply Kd.R_alloc | apply Kd.R_drewN | apply Kd.R_drew)); exact HO_5.out) (Kd.R_base ho0) hb); have n1_ := Aside0.mk (Kd.R_elder' (by (with_reducible repeat (first | apply Kd.R_alloc | apply Kd.R_drewN | apply Kd.R_drew)); exact HO_7.out) (Kd.R_base ho0) hb); have n2_ := Aside0.mk (Kd.R_lower (Kd.R_new' (Kd.R_new' ho0 (Kd.R_lt (by (with_reducible repeat (first | apply Kd.R_alloc | apply Kd.R_drewN | apply Kd.R_drew)); exact HO_5.out))) (Kd.R_lt (by (with_reducible repeat (first | apply Kd.R_alloc | apply Kd.R_drewN | apply Kd.R_drew)); exact HO_7.out))) (below_size (by repeat (first | (with_reducible first | exact HB.out | apply below_alloc | apply pw_below_drewN | apply below_drew1 | refine below_set ?_ GE167.out) | exact HB.out)))); have n3_ := Aside0.mk (blk_below (g := gb167) (o := .cells #[.int .u8 a0_0, .slice (some ad173) l0_1.length c0_1] 28 (0, 0)) (by (with_reducible repeat (first | refine blk_drewN ?_ _ | refine blk_drew ?_ | refine blk_alloc ?_ _)); exact BK167.out) hb); have n4_ := Aside0.mk (below_step (by repeat (first | (with_reducible first | exact HB.out | apply below_alloc | apply pw_below_drewN | apply below_drew1 | refine below_set ?_ GE167.out) | exact HB.out)) hb); clear HO_5; clear HO_7; clear BK167; clear HB; have HO_5 := n0_; have HO_7 := n1_; have HO186 := n2_; have BK167 := n3_; have HB := n4_; clear n0_ n1_ n2_ n3_ n4_; (try clear hb); (try clear hb2); (try clear hk); (try clear hi); (try clear ho0)))
               go_roundg k3
               case measure => have := HJ9.out; have := HJ62.out; have := HK3.out; omega
               case rel => exact ⟨(t184), ((x10_3 + 1) % 256), (by first | rfl | (simp; done) | (simp [*]; done) | (simp only [IntKind.wrap_i64, wrap64]; done)), H', ⟨by have := HJ9.out; have := HJ62.out; have := HK3.out; omega⟩, ⟨by (with_reducible repeat (first | apply Kd.R_alloc | apply Kd.R_drewN | apply Kd.R_drew)); exact Kd.R_mono HO186.out (fun _ hk => by first | trivial | exact hk.2)⟩, ⟨by (with_reducible repeat (first | apply Kd.R_alloc | apply Kd.R_drewN | apply Kd.R_drew)); exact Kd.R_mono HO_7.out (fun _ hk => by first | trivial | exact hk.2)⟩, ⟨by (with_reducible repeat (first | refine blk_drewN ?_ _ | refine blk_drew ?_ | refine blk_alloc ?_ _)); exact BK167.out⟩, ⟨by repeat (first | (with_reducible first | exact HB.out | apply below_alloc | apply pw_below_drewN | apply below_drew1 | refine below_set ?_ GE167.out) | exact HB.out)⟩⟩
              ·rw [if_neg c71] at H
               have c71b0 : decide (x10_3 < a0_0) = false := decide_eq_false c71
               clear c71
               obtain rfl := Option.some.inj H
               have hcz77_0 : wr.cell? ⟨gb167, 0, none⟩ = some (.int .u8 a0_0) := (blk_cell BK167.out 0).trans rfl
               have hcz77_1 : wr.cell? ⟨gb167, 1, none⟩ = some (.slice (some ad173) l0_1.length c0_1) := (blk_cell BK167.out 1).trans rfl
               have hfz77_0 := blk_frozen BK167.out 0
               have hfz77_1 := blk_frozen BK167.out 1
               go_wp2
               go_ret
               exact ⟨_, by first | rfl | (simp [errW_none, errW_some] <;> rfl) | (simp [*, errW_none, errW_some] <;> rfl), by (with_reducible repeat (first | apply Kd.R_alloc | apply Kd.R_drewN | apply Kd.R_drew)); exact HO_5.out, by repeat (first | (with_reducible first | exact HB.out | apply below_alloc | apply pw_below_drewN | apply below_drew1 | refine below_set ?_ GE167.out) | exact HB.out)⟩
           ·replace c70 := Bool.eq_false_iff.mpr c70
            subst c70
            have H1 : (if 1 < (l0_1.length : Int) then ((spec_l7Marks.f kj62 ((rd_T28 l0_1 1).f0) ((rd_T28 l0_1 1).f1) a1).bind fun t188 => (if a0_0 = 46 then ((spec_l7Sum.f kj62 t174 t188).bind fun t191 => (some t191)) else (spec_l7Marks.l3 kj62 a1 y168 t174 t188 0 a0_0 l0_1))) else (none)) = some r := by rw [if_neg (show ¬ (false = true) by decide)] at H; exact H
            clear H
            have H := H1
            clear H1
            by_cases c78 : 1 < (l0_1.length : Int)
            ·rw [if_pos c78] at H
             have c78b0 : decide (1 < (l0_1.length : Int)) = true := decide_eq_true c78
             have c78b1 : decide (1 < l0_1.length) = true := decide_eq_true (by omega)
             clear c78
             replace H := Option.bind_eq_some_iff.mp H
             obtain ⟨t188, A790, H⟩ := H
             replace H : (if a0_0 = 46 then ((spec_l7Sum.f kj62 t174 t188).bind fun t191 => (some t191)) else (spec_l7Marks.l3 kj62 a1 y168 t174 t188 0 a0_0 l0_1)) = some r := H
             have A79 := Aside0.mk A790
             clear A790
             by_cases c80 : a0_0 = 46
             ·rw [if_pos c80] at H
              have c80b0 : (a0_0 == 46) = true := beq_iff_eq.mpr c80
              have c80b1 : (a0_0 != 46) = false := bne_eq_false_iff_eq.mpr c80
              clear c80
              replace H := Option.bind_eq_some_iff.mp H
              obtain ⟨t191, A810, H⟩ := H
              replace H : (some t191) = some r := H
              have A81 := Aside0.mk A810
              clear A810
              obtain rfl := Option.some.inj H
              have hcz82_0 : wc.cell? ⟨gb167, 0, none⟩ = some (.int .u8 a0_0) := (blk_cell BK167.out 0).trans rfl
              have hcz82_1 : wc.cell? ⟨gb167, 1, none⟩ = some (.slice (some ad173) l0_1.length c0_1) := (blk_cell BK167.out 1).trans rfl
              have hfz82_0 := blk_frozen BK167.out 0
              have hfz82_1 := blk_frozen BK167.out 1
              have p187 : 0 ≤ (1 : Int) := (by omega)
              have q187 : 1 < (l0_1.length : Int) := of_decide_eq_true (by first | (with_reducible assumption) | assumption)
              obtain ⟨ad187, A187_1, c187_1, e187, hx187_0, hx187_1, hl187_1, hi187_1⟩ := at_T28 HR0_1.out 1 p187 q187
              obtain rfl : ad173 = ad187 := (by injection e187)
              (try simp only [show (1 : Int).toNat = 1 from rfl, Nat.reduceMul, Nat.reduceEqDiff, Go.Addr.add, ↓reduceIte] at hx187_0)
              (try simp only [show (1 : Int).toNat = 1 from rfl, Nat.reduceMul, Nat.reduceEqDiff, Go.Addr.add, ↓reduceIte] at hx187_1)
              have qi187 : (1 < l0_1.length) = True := eq_true (by omega)
              (try rw [show ((1 : Int)).toNat = 1 from rfl] at hx187_0)
              (try rw [show 1 * 2 = 2 from rfl] at hx187_0)
              (try rw [show ((1 : Int)).toNat = 1 from rfl] at hx187_1)
              (try rw [show 1 * 2 = 2 from rfl] at hx187_1)
              replace hx187_0 := (HB.out.cell (World.block_lt_of_cell? w _ hx187_0)).trans hx187_0
              replace hx187_1 := (HB.out.cell (World.block_lt_of_cell? w _ hx187_1)).trans hx187_1
              have HR187_1 := Aside0.mk hi187_1
              have HC187_1 := Aside0.mk hl187_1
              clear hi187_1 hl187_1
              replace p187 := eq_true p187
              replace q187 := eq_true q187
              go_wp2_with (first | ((with_reducible refine gate_callee (f := 17) rfl ?_); refine goesL_ (some 112) rfl rfl Try.func17 (by kernel_rfl) rfl #[.agg #[.int .u8 ((rd_T28 l0_1 1).f0), .slice A187_1 ((rd_T28 l0_1 1).f1).length c187_1], .int .i64 a1] rfl (by (try simp only [List.map_toArray, List.map_cons, List.map_nil]); first | done | rfl | (simp only [List.length_drop, List.length_take]; rfl)) ?_; (with_reducible refine (ih kj62 (by have := HJ9.out; have := HJ62.out; omega) ((rd_T28 l0_1 1).f0) _ _ ((rd_T28 l0_1 1).f1) a1 t188 _ ?side1 ?side2 A79.out).mono ?_); (case side1 => repeat (first | exact (Kd.C_below HR187_1.out HB.out) | (with_reducible refine Kd.C_alloc ?_ _) | (with_reducible refine Kd.C_drewN ?_ _) | (with_reducible refine Kd.C_drew ?_))); (case side2 => exact HC187_1.out); rintro e w83 ⟨v189, rfl, ho0, hb⟩; refine ⟨_, rfl, ?_⟩; have n0_ := Aside0.mk (Kd.R_elder' (by (with_reducible repeat (first | apply Kd.R_alloc | apply Kd.R_drewN | apply Kd.R_drew)); exact HO_5.out) (Kd.R_base ho0) hb); have n1_ := Aside0.mk (Kd.R_elder' (by (with_reducible repeat (first | apply Kd.R_alloc | apply Kd.R_drewN | apply Kd.R_drew)); exact HO_7.out) (Kd.R_base ho0) hb); have n2_ := Aside0.mk (Kd.R_lower (Kd.R_new' (Kd.R_new' ho0 (Kd.R_lt (by (with_reducible repeat (first | apply Kd.R_alloc | apply Kd.R_drewN | apply Kd.R_drew)); exact HO_5.out))) (Kd.R_lt (by (with_reducible repeat (first | apply Kd.R_alloc | apply Kd.R_drewN | apply Kd.R_drew)); exact HO_7.out))) (below_size (by repeat (first | (with_reducible first | exact HB.out | apply below_alloc | apply pw_below_drewN | apply below_drew1 | refine below_set ?_ GE167.out) | exact HB.out)))); have n3_ := Aside0.mk (blk_below (g := gb167) (o := .cells #[.int .u8 a0_0, .slice (some ad173) l0_1.length c0_1] 28 (0, 0)) (by (with_reducible repeat (first | refine blk_drewN ?_ _ | refine blk_drew ?_ | refine blk_alloc ?_ _)); exact BK167.out) hb); have n4_ := Aside0.mk (below_step (by repeat (first | (with_reducible first | exact HB.out | apply below_alloc | apply pw_below_drewN | apply below_drew1 | refine below_set ?_ GE167.out) | exact HB.out)) hb); clear HO_5; clear HO_7; clear BK167; clear HB; have HO_5 := n0_; have HO_7 := n1_; have HO190 := n2_; have BK167 := n3_; have HB := n4_; clear n0_ n1_ n2_ n3_ n4_; (try clear hb); (try clear hb2); (try clear hk); (try clear hi); (try clear ho0); have hcz84_0 : w83.cell? ⟨gb167, 0, none⟩ = some (.int .u8 a0_0) := (blk_cell BK167.out 0).trans rfl; have hcz84_1 : w83.cell? ⟨gb167, 1, none⟩ = some (.slice (some ad173) l0_1.length c0_1) := (blk_cell BK167.out 1).trans rfl; have hfz84_0 := blk_frozen BK167.out 0; have hfz84_1 := blk_frozen BK167.out 1; obtain ⟨Ao85, co85, eo85⟩ := Kd.R_slice HO_7.out; subst eo85; obtain ⟨Ao86, co86, eo86⟩ := Kd.R_slice HO190.out; subst eo86) | ((with_reducible refine gate_callee (f := 27) rfl ?_); refine goesL_ (some 118) rfl rfl Try.func27 (by kernel_rfl) rfl #[.slice Ao85 t174.length co85, .slice Ao86 t188.length co86] rfl (by (try simp only [List.map_toArray, List.map_cons, List.map_nil]); first | done | rfl | (simp only [List.length_drop, List.length_take]; rfl)) ?_; (with_reducible refine (spec_l7Sum.calls kj62 _ _ t174 _ _ t188 t191 _ ?side1 ?side2 ?side3 ?side4 A81.out).mono ?_); (case side1 => repeat (first | exact (Kd.R_reads' HO_7.out).2.2 | (with_reducible refine Kd.C_alloc ?_ _) | (with_reducible refine Kd.C_drewN ?_ _) | (with_reducible refine Kd.C_drew ?_))); (case side2 => exact (Kd.R_reads' HO_7.out).2.1); (case side3 => repeat (first | exact (Kd.R_reads' HO190.out).2.2 | (with_reducible refine Kd.C_alloc ?_ _) | (with_reducible refine Kd.C_drewN ?_ _) | (with_reducible refine Kd.C_drew ?_))); (case side4 => exact (Kd.R_reads' HO190.out).2.1); rintro e w87 ⟨v192, rfl, ho0, hb⟩; refine ⟨_, rfl, ?_⟩; have n0_ := Aside0.mk (Kd.R_elder' (by (with_reducible repeat (first | apply Kd.R_alloc | apply Kd.R_drewN | apply Kd.R_drew)); exact HO_5.out) (Kd.R_base ho0) hb); have n1_ := Aside0.mk (Kd.R_elder' (by (with_reducible repeat (first | apply Kd.R_alloc | apply Kd.R_drewN | apply Kd.R_drew)); exact HO_7.out) (Kd.R_base ho0) hb); have n2_ := Aside0.mk (Kd.R_elder' (by (with_reducible repeat (first | apply Kd.R_alloc | apply Kd.R_drewN | apply Kd.R_drew)); exact HO190.out) (Kd.R_base ho0) hb); have n3_ := Aside0.mk (Kd.R_lower (Kd.R_new' (Kd.R_new' (Kd.R_new' ho0 (Kd.R_lt (by (with_reducible repeat (first | apply Kd.R_alloc | apply Kd.R_drewN | apply Kd.R_drew)); exact HO_5.out))) (Kd.R_lt (by (with_reducible repeat (first | apply Kd.R_alloc | apply Kd.R_drewN | apply Kd.R_drew)); exact HO_7.out))) (Kd.R_lt (by (with_reducible repeat (first | apply Kd.R_alloc | apply Kd.R_drewN | apply Kd.R_drew)); exact HO190.out))) (below_size (by repeat (first | (with_reducible first | exact HB.out | apply below_alloc | apply pw_below_drewN | apply below_drew1 | refine below_set ?_ GE167.out) | exact HB.out)))); have n4_ := Aside0.mk (blk_below (g := gb167) (o := .cells #[.int .u8 a0_0, .slice (some ad173) l0_1.length c0_1] 28 (0, 0)) (by (with_reducible repeat (first | refine blk_drewN ?_ _ | refine blk_drew ?_ | refine blk_alloc ?_ _)); exact BK167.out) hb); have n5_ := Aside0.mk (below_step (by repeat (first | (with_reducible first | exact HB.out | apply below_alloc | apply pw_below_drewN | apply below_drew1 | refine below_set ?_ GE167.out) | exact HB.out)) hb); clear HO_5; clear HO_7; clear HO190; clear BK167; clear HB; have HO_5 := n0_; have HO_7 := n1_; have HO190 := n2_; have HO193 := n3_; have BK167 := n4_; have HB := n5_; clear n0_ n1_ n2_ n3_ n4_ n5_; (try clear hb); (try clear hb2); (try clear hk); (try clear hi); (try clear ho0)))
              go_ret
              exact ⟨_, by first | rfl | (simp [errW_none, errW_some] <;> rfl) | (simp [*, errW_none, errW_some] <;> rfl), by (with_reducible repeat (first | apply Kd.R_alloc | apply Kd.R_drewN | apply Kd.R_drew)); exact Kd.R_mono HO193.out (fun _ hk => trivial), by repeat (first | (with_reducible first | exact HB.out | apply below_alloc | apply pw_below_drewN | apply below_drew1 | refine below_set ?_ GE167.out) | exact HB.out)⟩
             ·rw [if_neg c80] at H
              have c80b0 : (a0_0 == 46) = false := beq_eq_false_iff_ne.mpr c80
              have c80b1 : (a0_0 != 46) = true := bne_iff_ne.mpr c80
              have H' := Aside0.mk H
              clear H
              have hcz88_0 : wc.cell? ⟨gb167, 0, none⟩ = some (.int .u8 a0_0) := (blk_cell BK167.out 0).trans rfl
              have hcz88_1 : wc.cell? ⟨gb167, 1, none⟩ = some (.slice (some ad173) l0_1.length c0_1) := (blk_cell BK167.out 1).trans rfl
              have hfz88_0 := blk_frozen BK167.out 0
              have hfz88_1 := blk_frozen BK167.out 1
              have p187 : 0 ≤ (1 : Int) := (by omega)
              have q187 : 1 < (l0_1.length : Int) := of_decide_eq_true (by first | (with_reducible assumption) | assumption)
              obtain ⟨ad187, A187_1, c187_1, e187, hx187_0, hx187_1, hl187_1, hi187_1⟩ := at_T28 HR0_1.out 1 p187 q187
              obtain rfl : ad173 = ad187 := (by injection e187)
              (try simp only [show (1 : Int).toNat = 1 from rfl, Nat.reduceMul, Nat.reduceEqDiff, Go.Addr.add, ↓reduceIte] at hx187_0)
              (try simp only [show (1 : Int).toNat = 1 from rfl, Nat.reduceMul, Nat.reduceEqDiff, Go.Addr.add, ↓reduceIte] at hx187_1)
              have qi187 : (1 < l0_1.length) = True := eq_true (by omega)
              (try rw [show ((1 : Int)).toNat = 1 from rfl] at hx187_0)
              (try rw [show 1 * 2 = 2 from rfl] at hx187_0)
              (try rw [show ((1 : Int)).toNat = 1 from rfl] at hx187_1)
              (try rw [show 1 * 2 = 2 from rfl] at hx187_1)
              replace hx187_0 := (HB.out.cell (World.block_lt_of_cell? w _ hx187_0)).trans hx187_0
              replace hx187_1 := (HB.out.cell (World.block_lt_of_cell? w _ hx187_1)).trans hx187_1
              have HR187_1 := Aside0.mk hi187_1
              have HC187_1 := Aside0.mk hl187_1
              clear hi187_1 hl187_1
              replace p187 := eq_true p187
              replace q187 := eq_true q187
              go_wp2_with (first | ((with_reducible refine gate_callee (f := 17) rfl ?_); refine goesL_ (some 112) rfl rfl Try.func17 (by kernel_rfl) rfl #[.agg #[.int .u8 ((rd_T28 l0_1 1).f0), .slice A187_1 ((rd_T28 l0_1 1).f1).length c187_1], .int .i64 a1] rfl (by (try simp only [List.map_toArray, List.map_cons, List.map_nil]); first | done | rfl | (simp only [List.length_drop, List.length_take]; rfl)) ?_; (with_reducible refine (ih kj62 (by have := HJ9.out; have := HJ62.out; omega) ((rd_T28 l0_1 1).f0) _ _ ((rd_T28 l0_1 1).f1) a1 t188 _ ?side1 ?side2 A79.out).mono ?_); (case side1 => repeat (first | exact (Kd.C_below HR187_1.out HB.out) | (with_reducible refine Kd.C_alloc ?_ _) | (with_reducible refine Kd.C_drewN ?_ _) | (with_reducible refine Kd.C_drew ?_))); (case side2 => exact HC187_1.out); rintro e w89 ⟨v189, rfl, ho0, hb⟩; refine ⟨_, rfl, ?_⟩; have n0_ := Aside0.mk (Kd.R_elder' (by (with_reducible repeat (first | apply Kd.R_alloc | apply Kd.R_drewN | apply Kd.R_drew)); exact HO_5.out) (Kd.R_base ho0) hb); have n1_ := Aside0.mk (Kd.R_elder' (by (with_reducible repeat (first | apply Kd.R_alloc | apply Kd.R_drewN | apply Kd.R_drew)); exact HO_7.out) (Kd.R_base ho0) hb); have n2_ := Aside0.mk (Kd.R_lower (Kd.R_new' (Kd.R_new' ho0 (Kd.R_lt (by (with_reducible repeat (first | apply Kd.R_alloc | apply Kd.R_drewN | apply Kd.R_drew)); exact HO_5.out))) (Kd.R_lt (by (with_reducible repeat (first | apply Kd.R_alloc | apply Kd.R_drewN | apply Kd.R_drew)); exact HO_7.out))) (below_size (by repeat (first | (with_reducible first | exact HB.out | apply below_alloc | apply pw_below_drewN | apply below_drew1 | refine below_set ?_ GE167.out) | exact HB.out)))); have n3_ := Aside0.mk (blk_below (g := gb167) (o := .cells #[.int .u8 a0_0, .slice (some ad173) l0_1.length c0_1] 28 (0, 0)) (by (with_reducible repeat (first | refine blk_drewN ?_ _ | refine blk_drew ?_ | refine blk_alloc ?_ _)); exact BK167.out) hb); have n4_ := Aside0.mk (below_step (by repeat (first | (with_reducible first | exact HB.out | apply below_alloc | apply pw_below_drewN | apply below_drew1 | refine below_set ?_ GE167.out) | exact HB.out)) hb); clear HO_5; clear HO_7; clear BK167; clear HB; have HO_5 := n0_; have HO_7 := n1_; have HO190 := n2_; have BK167 := n3_; have HB := n4_; clear n0_ n1_ n2_ n3_ n4_; (try clear hb); (try clear hb2); (try clear hk); (try clear hi); (try clear ho0); have hcz90_0 : w89.cell? ⟨gb167, 0, none⟩ = some (.int .u8 a0_0) := (blk_cell BK167.out 0).trans rfl; have hcz90_1 : w89.cell? ⟨gb167, 1, none⟩ = some (.slice (some ad173) l0_1.length c0_1) := (blk_cell BK167.out 1).trans rfl; have hfz90_0 := blk_frozen BK167.out 0; have hfz90_1 := blk_frozen BK167.out 1))
              go_loopg [12] kj62 (fun kq v12 w' => ∃ (x5_3 : List Bool) (x12_3 : Int), v12 = .int .i64 x12_3 ∧ Aside0 (spec_l7Marks.l3 kq a1 x5_3 t174 t188 x12_3 a0_0 l0_1 = some r) ∧ Aside0 (kq ≤ kj62) ∧ Aside0 (Kd.R Kd.bool 4 w' w.heap.size (fun k_ => some k_ ≠ (v175 : Value).ownBlock ∧ some k_ ≠ (v189 : Value).ownBlock) v169 x5_3) ∧ Aside0 (Kd.R Kd.bool 4 w' w.heap.size (fun k_ => some k_ ≠ (v169 : Value).ownBlock ∧ some k_ ≠ (v189 : Value).ownBlock) v175 t174) ∧ Aside0 (Kd.R Kd.bool 4 w' w.heap.size (fun k_ => some k_ ≠ (v169 : Value).ownBlock ∧ some k_ ≠ (v175 : Value).ownBlock) v189 t188) ∧ Aside0 (w'.heap[gb167]? = some (.cells #[.int .u8 a0_0, (.slice (some ad173) l0_1.length c0_1)] 28 (0, 0))) ∧ Aside0 (Below w.heap.size w w'))
              case atStart => exact ⟨(y168), (0), (by first | rfl | (simp; done) | (simp [*]; done) | (simp only [IntKind.wrap_i64, wrap64]; done)), H', ⟨Nat.le_refl _⟩, ⟨by (with_reducible repeat (first | apply Kd.R_alloc | apply Kd.R_drewN | apply Kd.R_drew)); exact HO_5.out⟩, ⟨by (with_reducible repeat (first | apply Kd.R_alloc | apply Kd.R_drewN | apply Kd.R_drew)); exact HO_7.out⟩, ⟨by (with_reducible repeat (first | apply Kd.R_alloc | apply Kd.R_drewN | apply Kd.R_drew)); exact Kd.R_mono HO190.out (fun _ hk => ⟨hk.1.2, hk.2⟩)⟩, ⟨by (with_reducible repeat (first | refine blk_drewN ?_ _ | refine blk_drew ?_ | refine blk_alloc ?_ _)); exact BK167.out⟩, ⟨by repeat (first | (with_reducible first | exact HB.out | apply below_alloc | apply pw_below_drewN | apply below_drew1 | refine below_set ?_ GE167.out) | exact HB.out)⟩⟩
              case round =>
               clear H'
               try clear c1
               try clear p1
               try clear q1
               try clear hx1
               try clear qi1
               try clear c2
               try clear p2
               try clear q2
               try clear hx2
               try clear hf2
               try clear c3
               try clear c3b0
               try clear c3b1
               try clear p3
               try clear q3
               try clear hx3
               try clear hf3
               try clear c4
               try clear c4b0
               try clear c4b1
               try clear p4
               try clear q4
               try clear hx4
               try clear hf4
               try clear c5
               try clear c5b0
               try clear c5b1
               try clear p5
               try clear q5
               try clear hx5
               try clear hf5
               try clear c6
               try clear p6
               try clear c7
               try clear c8
               try clear c15
               try clear c15b0
               try clear c15b1
               try clear c17
               try clear p17
               try clear q17
               try clear hx17
               try clear qi17
               try clear c18
               try clear p18
               try clear q18
               try clear hx18
               try clear qi18
               try clear c20
               try clear c20b0
               try clear c21
               try clear c21b0
               try clear c22
               try clear c22b0
               try clear p23
               try clear q23
               try clear hx23
               try clear hf23
               try clear c26
               try clear c27
               try clear c28
               try clear c28b0
               try clear c28b1
               try clear c30
               try clear c30b0
               try clear c30b1
               try clear c34
               try clear c34b0
               try clear c35
               try clear c35b0
               try clear c36
               try clear c36b0
               try clear p37
               try clear q37
               try clear hx37
               try clear hf37
               try clear c40
               try clear c40b0
               try clear c41
               try clear c41b0
               try clear c42
               try clear c42b0
               try clear q43
               try clear c44
               try clear p45
               try clear q45
               try clear hx45
               try clear hf45
               try clear c48
               try clear c48b0
               try clear c49
               try clear c49b0
               try clear q50
               try clear c51
               try clear c53
               try clear c53b0
               try clear c54
               try clear c54b0
               try clear p55
               try clear q55
               try clear hx55
               try clear hf55
               try clear p59
               try clear q59
               try clear hx59
               try clear hf59
               try clear p64
               try clear c67
               try clear c67b0
               try clear c70
               try clear c71
               try clear c71b0
               try clear c78
               try clear c78b0
               try clear c78b1
               try clear c80
               try clear c80b0
               try clear c80b1
               try clear hcz14_0
               try clear hcz14_1
               try clear hcz16_0
               try clear hcz16_1
               try clear hcz17_0
               try clear hcz17_1
               try clear hcz24_0
               try clear hcz24_1
               try clear hcz27_0
               try clear hcz27_1
               try clear hcz31_0
               try clear hcz31_1
               try clear hcz33_0
               try clear hcz33_1
               try clear hcz64_0
               try clear hcz64_1
               try clear hcz66_0
               try clear hcz66_1
               try clear hcz68_0
               try clear hcz68_1
               try clear hcz69_0
               try clear hcz69_1
               try clear hcz73_0
               try clear hcz73_1
               try clear hcz77_0
               try clear hcz77_1
               try clear hcz82_0
               try clear hcz82_1
               try clear hcz84_0
               try clear hcz84_1
               try clear hcz88_0
               try clear hcz88_1
               try clear hcz90_0
               try clear hcz90_1
               try clear hcz9_0
               try clear hcz9_1
               try clear hfz14_0
               try clear hfz14_1
               try clear hfz16_0
               try clear hfz16_1
               try clear hfz17_0
               try clear hfz17_1
               try clear hfz24_0
               try clear hfz24_1
               try clear hfz27_0
               try clear hfz27_1
               try clear hfz31_0
               try clear hfz31_1
               try clear hfz33_0
               try clear hfz33_1
               try clear hfz64_0
               try clear hfz64_1
               try clear hfz66_0
               try clear hfz66_1
               try clear hfz68_0
               try clear hfz68_1
               try clear hfz69_0
               try clear hfz69_1
               try clear hfz73_0
               try clear hfz73_1
               try clear hfz77_0
               try clear hfz77_1
               try clear hfz82_0
               try clear hfz82_1
               try clear hfz84_0
               try clear hfz84_1
               try clear hfz88_0
               try clear hfz88_1
               try clear hfz90_0
               try clear hfz90_1
               try clear hfz9_0
               try clear hfz9_1
               try clear hx173_0
               try clear hx173_1
               try clear hx178_0
               try clear hx180_0
               try clear hx181_0
               try clear hx187_0
               try clear hx187_1
               try clear hx23_0
               try clear hx37_0
               try clear hx45_0
               try clear hx55_0
               try clear hx59_0
               try clear p1
               try clear p17
               try clear p173
               try clear p178
               try clear p18
               try clear p180
               try clear p181
               try clear p187
               try clear p2
               try clear p23
               try clear p3
               try clear p37
               try clear p4
               try clear p45
               try clear p5
               try clear p55
               try clear p59
               try clear p6
               try clear p64
               try clear q1
               try clear q17
               try clear q173
               try clear q178
               try clear q18
               try clear q180
               try clear q181
               try clear q187
               try clear q2
               try clear q23
               try clear q3
               try clear q37
               try clear q4
               try clear q43
               try clear q45
               try clear q5
               try clear q50
               try clear q55
               try clear q59
               repeat clear HO_5
               repeat clear HO_7
               repeat clear HO_11
               obtain ⟨x5_3, x12_3, rfl, HA, HK3, HO_5, HO_7, HO_11, BK167, HB⟩ := hrel
               cases gk with
               | zero => exact absurd HA.out (by simp [spec_l7Marks.l3])
               | succ k3 =>
                have H := HA.out
                clear HA
                simp only [spec_l7Marks.l3] at H
                by_cases c91 : x12_3 < a1
                ·rw [if_pos c91] at H
                 have c91b0 : decide (x12_3 < a1) = true := decide_eq_true c91
                 clear c91
                 by_cases c92 : a0_0 = 43
                 ·rw [if_pos c92] at H
                  have c92b0 : (a0_0 == 43) = true := beq_iff_eq.mpr c92
                  have c92b1 : (a0_0 != 43) = false := bne_eq_false_iff_eq.mpr c92
                  clear c92
                  by_cases c93 : 0 ≤ x12_3
                  ·rw [if_pos c93] at H
                   have c93b0 : decide (0 ≤ x12_3) = true := decide_eq_true c93
                   clear c93
                   by_cases c94 : x12_3 < (t174.length : Int)
                   ·rw [if_pos c94] at H
                    have c94b0 : decide (x12_3 < (t174.length : Int)) = true := decide_eq_true c94
                    clear c94
                    obtain ⟨bq95, hbq95⟩ : ∃ b_ : Bool, b_ = (rdOf false t174 x12_3) := ⟨_, rfl⟩
                    replace H : (if bq95 = true then (if x12_3 < (x5_3.length : Int) then (spec_l7Marks.l3 k3 a1 (x5_3.set (x12_3 : Int).toNat true) t174 t188 (wrap64 (x12_3 + 1)) a0_0 l0_1) else (none)) else (if x12_3 < (t188.length : Int) then (if x12_3 < (x5_3.length : Int) then (spec_l7Marks.l3 k3 a1 (x5_3.set (x12_3 : Int).toNat (rdOf false t188 x12_3)) t174 t188 (wrap64 (x12_3 + 1)) a0_0 l0_1) else (none)) else (none))) = some r := by rw [← hbq95] at H; exact H
                    have Nbq95 := Aside0.mk hbq95
                    clear hbq95
                    by_cases c96 : bq95 = true
                    ·subst c96
                     have H1 : (if x12_3 < (x5_3.length : Int) then (spec_l7Marks.l3 k3 a1 (x5_3.set (x12_3 : Int).toNat true) t174 t188 (wrap64 (x12_3 + 1)) a0_0 l0_1) else (none)) = some r := by rw [if_pos rfl] at H; exact H
                     clear H
                     have H := H1
                     clear H1
                     by_cases c97 : x12_3 < (x5_3.length : Int)
                     ·rw [if_pos c97] at H
                      have c97b0 : decide (x12_3 < (x5_3.length : Int)) = true := decide_eq_true c97
                      clear c97
                      obtain ⟨y195, hy195⟩ : ∃ y_ : List Bool, y_ = (x5_3.set (x12_3 : Int).toNat true) := ⟨_, rfl⟩
                      replace H : (spec_l7Marks.l3 k3 a1 y195 t174 t188 (wrap64 (x12_3 + 1)) a0_0 l0_1) = some r := by first | (rw [hy195]; with_reducible exact H) | (have H2_ := (Option.bind_some _ _).symm.trans H; rw [hy195]; with_reducible exact H2_) | (have H2_ := (Option.bind_some _ _).symm.trans H; with_reducible exact H2_) | with_reducible exact H | (rw [hy195]; exact H) | exact H
                      have Ny195 := Aside0.mk hy195
                      clear hy195
                      have H' := Aside0.mk H
                      clear H
                      have hcz99_0 : wr.cell? ⟨gb167, 0, none⟩ = some (.int .u8 a0_0) := (blk_cell BK167.out 0).trans rfl
                      have hcz99_1 : wr.cell? ⟨gb167, 1, none⟩ = some (.slice (some ad173) l0_1.length c0_1) := (blk_cell BK167.out 1).trans rfl
                      have hfz99_0 := blk_frozen BK167.out 0
                      have hfz99_1 := blk_frozen BK167.out 1
                      obtain ⟨Ao100, co100, eo100⟩ := Kd.R_slice HO_7.out
                      subst eo100
                      have p194 : 0 ≤ (x12_3 : Int) := of_decide_eq_true (by first | (with_reducible assumption) | assumption)
                      have q194 : x12_3 < (t174.length : Int) := of_decide_eq_true (by first | (with_reducible assumption) | assumption)
                      obtain ⟨ad194, e194, hx194_0⟩ := Kd.at_bool (Kd.R_reads' HO_7.out).2.2 x12_3 p194 q194
                      (try rw [← Nbq95.out] at hx194_0)
                      cases e194
                      replace p194 := eq_true p194
                      replace q194 := eq_true q194
                      have p98 : 0 ≤ (x12_3 : Int) := of_decide_eq_true (by first | (with_reducible assumption) | assumption)
                      have q98 : (x12_3 : Int) < ((x5_3.length : Int) : Int) := of_decide_eq_true (by first | (with_reducible assumption) | assumption)
                      obtain ⟨go98, co98, eo98, gb98, gl98, cl98, HG98⟩ := Kd.R_form HO_5.out (by omega)
                      (first | cases eo98 | (injection eo98 with ea_ en_ ec_; (first | subst ea_ | (injection ea_ with ea_; subst ea_)); subst ec_; clear en_))
                      have GB98 := Aside0.mk gb98
                      have GG98 := Aside0.mk HG98
                      clear gb98 gl98 HG98
                      obtain ⟨hx98_0, hf98_0⟩ := Kd.R_celln false HO_5.out (x12_3 : Int) p98 q98
                      replace p98 := eq_true p98
                      replace q98 := eq_true q98
                      have HP101 := Kd.R_putg HO_5.out (x12_3 : Int) true
                      go_wp2_with (first | ((with_reducible refine gate_store (t := 4) (p := 139) rfl ?_); refine store_event (t := 4) (p := 139) (v := ?vo_w102) (w1 := (wr.setCell ⟨go98, (x12_3 : Int).toNat, none⟩ (.bool true))) ?hg ?ho ?hn ?hr ?_; (case ho => rfl); (case hg => rfl); (case hn => rfl); (case hr => first | (go_simp; done) | (go_simp; rfl)); intro w102 hw; have hg : wr.grownBy w102 (some go98) := (by rw [hw]; exact HP101.2); have hp_ : Kd.R Kd.bool 4 w102 w.heap.size (fun k_ => some k_ ≠ (.slice (some ad194) t174.length co100 : Value).ownBlock ∧ some k_ ≠ (v189 : Value).ownBlock) (.slice (some ⟨go98, 0, none⟩) x5_3.length co98) y195 := (by rw [hw, Ny195.out]; exact HP101.1); clear HP101; have n0_ := Aside0.mk (hp_); have n1_ := Aside0.mk (Kd.R_after (v := (.slice (some ⟨go98, 0, none⟩) x5_3.length co98)) (v1 := (.slice (some ⟨go98, 0, none⟩) x5_3.length co98)) (ok := (fun k_ => some k_ ≠ (v189 : Value).ownBlock)) (by (with_reducible repeat (first | apply Kd.R_alloc | apply Kd.R_drewN | apply Kd.R_drew)); exact Kd.R_mono HO_7.out (fun _ hk => by first | exact ⟨hk.2, hk.1⟩ | (simp_all; done) | grind)) hg (.inl rfl)); have n2_ := Aside0.mk (Kd.R_after (v := (.slice (some ⟨go98, 0, none⟩) x5_3.length co98)) (v1 := (.slice (some ⟨go98, 0, none⟩) x5_3.length co98)) (ok := (fun k_ => some k_ ≠ (.slice (some ad194) t174.length co100 : Value).ownBlock)) (by (with_reducible repeat (first | apply Kd.R_alloc | apply Kd.R_drewN | apply Kd.R_drew)); exact Kd.R_mono HO_11.out (fun _ hk => by first | exact ⟨hk.2, hk.1⟩ | (simp_all; done) | grind)) hg (.inl rfl)); have n3_ := Aside0.mk (blk_grown (g := gb167) (o := .cells #[.int .u8 a0_0, .slice (some ad173) l0_1.length c0_1] 28 (0, 0)) (by (with_reducible repeat (first | refine blk_drewN ?_ _ | refine blk_drew ?_ | refine blk_alloc ?_ _)); exact BK167.out) hg (Kd.R_ne HO_5.out BK167.out (by decide))); have n4_ := Aside0.mk ((by rw [hw]; exact below_set (HB.out) GB98.out : Below w.heap.size w w102)); clear HO_5; clear HO_7; clear HO_11; clear BK167; clear HB; have HO_5 := n0_; have HO_7 := n1_; have HO_11 := n2_; have BK167 := n3_; have HB := n4_; clear n0_ n1_ n2_ n3_ n4_; clear hg hw hp_))
                      go_roundg k3
                      case measure => have := HJ9.out; have := HJ62.out; have := HK3.out; omega
                      case rel => exact ⟨(y195), (wrap64 (x12_3 + 1)), (by first | rfl | (simp; done) | (simp [*]; done) | (simp only [IntKind.wrap_i64, wrap64]; done)), H', ⟨by have := HJ9.out; have := HJ62.out; have := HK3.out; omega⟩, ⟨by (with_reducible repeat (first | apply Kd.R_alloc | apply Kd.R_drewN | apply Kd.R_drew)); exact HO_5.out⟩, ⟨by (with_reducible repeat (first | apply Kd.R_alloc | apply Kd.R_drewN | apply Kd.R_drew)); exact Kd.R_mono HO_7.out (fun _ hk => ⟨hk.2, hk.1⟩)⟩, ⟨by (with_reducible repeat (first | apply Kd.R_alloc | apply Kd.R_drewN | apply Kd.R_drew)); exact Kd.R_mono HO_11.out (fun _ hk => ⟨hk.2, hk.1⟩)⟩, ⟨by (with_reducible repeat (first | refine blk_drewN ?_ _ | refine blk_drew ?_ | refine blk_alloc ?_ _)); exact BK167.out⟩, ⟨by repeat (first | (with_reducible first | exact HB.out | apply below_alloc | apply pw_below_drewN | apply below_drew1 | refine below_set ?_ GE167.out) | exact HB.out)⟩⟩
                     ·rw [if_neg c97] at H
                      exact absurd H (by simp)
                    ·replace c96 := Bool.eq_false_iff.mpr c96
                     subst c96
                     have H1 : (if x12_3 < (t188.length : Int) then (if x12_3 < (x5_3.length : Int) then (spec_l7Marks.l3 k3 a1 (x5_3.set (x12_3 : Int).toNat (rdOf false t188 x12_3)) t174 t188 (wrap64 (x12_3 + 1)) a0_0 l0_1) else (none)) else (none)) = some r := by rw [if_neg (show ¬ (false = true) by decide)] at H; exact H
                     clear H
                     have H := H1
                     clear H1
                     by_cases c103 : x12_3 < (t188.length : Int)
                     ·rw [if_pos c103] at H
                      have c103b0 : decide (x12_3 < (t188.length : Int)) = true := decide_eq_true c103
                      clear c103
                      by_cases c104 : x12_3 < (x5_3.length : Int)
                      ·rw [if_pos c104] at H
                       have c104b0 : decide (x12_3 < (x5_3.length : Int)) = true := decide_eq_true c104
                       clear c104
                       obtain ⟨y197, hy197⟩ : ∃ y_ : List Bool, y_ = (x5_3.set (x12_3 : Int).toNat (rdOf false t188 x12_3)) := ⟨_, rfl⟩
                       replace H : (spec_l7Marks.l3 k3 a1 y197 t174 t188 (wrap64 (x12_3 + 1)) a0_0 l0_1) = some r := by first | (rw [hy197]; with_reducible exact H) | (have H2_ := (Option.bind_some _ _).symm.trans H; rw [hy197]; with_reducible exact H2_) | (have H2_ := (Option.bind_some _ _).symm.trans H; with_reducible exact H2_) | with_reducible exact H | (rw [hy197]; exact H) | exact H
                       have Ny197 := Aside0.mk hy197
                       clear hy197
                       have H' := Aside0.mk H
                       clear H
                       have hcz106_0 : wr.cell? ⟨gb167, 0, none⟩ = some (.int .u8 a0_0) := (blk_cell BK167.out 0).trans rfl
                       have hcz106_1 : wr.cell? ⟨gb167, 1, none⟩ = some (.slice (some ad173) l0_1.length c0_1) := (blk_cell BK167.out 1).trans rfl
                       have hfz106_0 := blk_frozen BK167.out 0
                       have hfz106_1 := blk_frozen BK167.out 1
                       obtain ⟨Ao107, co107, eo107⟩ := Kd.R_slice HO_7.out
                       subst eo107
                       have p194 : 0 ≤ (x12_3 : Int) := of_decide_eq_true (by first | (with_reducible assumption) | assumption)
                       have q194 : x12_3 < (t174.length : Int) := of_decide_eq_true (by first | (with_reducible assumption) | assumption)
                       obtain ⟨ad194, e194, hx194_0⟩ := Kd.at_bool (Kd.R_reads' HO_7.out).2.2 x12_3 p194 q194
                       (try rw [← Nbq95.out] at hx194_0)
                       cases e194
                       replace p194 := eq_true p194
                       replace q194 := eq_true q194
                       obtain ⟨Ao108, co108, eo108⟩ := Kd.R_slice HO_11.out
                       subst eo108
                       have p196 : 0 ≤ (x12_3 : Int) := of_decide_eq_true (by first | (with_reducible assumption) | assumption)
                       have q196 : x12_3 < (t188.length : Int) := of_decide_eq_true (by first | (with_reducible assumption) | assumption)
                       obtain ⟨ad196, e196, hx196_0⟩ := Kd.at_bool (Kd.R_reads' HO_11.out).2.2 x12_3 p196 q196
                       (try rw [← Nbq95.out] at hx196_0)
                       cases e196
                       replace p196 := eq_true p196
                       replace q196 := eq_true q196
                       have p105 : 0 ≤ (x12_3 : Int) := of_decide_eq_true (by first | (with_reducible assumption) | assumption)
                       have q105 : (x12_3 : Int) < ((x5_3.length : Int) : Int) := of_decide_eq_true (by first | (with_reducible assumption) | assumption)
                       obtain ⟨go105, co105, eo105, gb105, gl105, cl105, HG105⟩ := Kd.R_form HO_5.out (by omega)
                       (first | cases eo105 | (injection eo105 with ea_ en_ ec_; (first | subst ea_ | (injection ea_ with ea_; subst ea_)); subst ec_; clear en_))
                       have GB105 := Aside0.mk gb105
                       have GG105 := Aside0.mk HG105
                       clear gb105 gl105 HG105
                       obtain ⟨hx105_0, hf105_0⟩ := Kd.R_celln false HO_5.out (x12_3 : Int) p105 q105
                       replace p105 := eq_true p105
                       replace q105 := eq_true q105
                       have HP109 := Kd.R_putg HO_5.out (x12_3 : Int) (rdOf false t188 x12_3)
                       go_wp2_with (first | ((with_reducible refine gate_store (t := 4) (p := 139) rfl ?_); refine store_event (t := 4) (p := 139) (v := ?vo_w110) (w1 := (wr.setCell ⟨go105, (x12_3 : Int).toNat, none⟩ (.bool (rdOf false t188 x12_3)))) ?hg ?ho ?hn ?hr ?_; (case ho => rfl); (case hg => rfl); (case hn => rfl); (case hr => first | (go_simp; done) | (go_simp; rfl)); intro w110 hw; have hg : wr.grownBy w110 (some go105) := (by rw [hw]; exact HP109.2); have hp_ : Kd.R Kd.bool 4 w110 w.heap.size (fun k_ => some k_ ≠ (.slice (some ad194) t174.length co107 : Value).ownBlock ∧ some k_ ≠ (.slice (some ad196) t188.length co108 : Value).ownBlock) (.slice (some ⟨go105, 0, none⟩) x5_3.length co105) y197 := (by rw [hw, Ny197.out]; exact HP109.1); clear HP109; have n0_ := Aside0.mk (hp_); have n1_ := Aside0.mk (Kd.R_after (v := (.slice (some ⟨go105, 0, none⟩) x5_3.length co105)) (v1 := (.slice (some ⟨go105, 0, none⟩) x5_3.length co105)) (ok := (fun k_ => some k_ ≠ (.slice (some ad196) t188.length co108 : Value).ownBlock)) (by (with_reducible repeat (first | apply Kd.R_alloc | apply Kd.R_drewN | apply Kd.R_drew)); exact Kd.R_mono HO_7.out (fun _ hk => by first | exact ⟨hk.2, hk.1⟩ | (simp_all; done) | grind)) hg (.inl rfl)); have n2_ := Aside0.mk (Kd.R_after (v := (.slice (some ⟨go105, 0, none⟩) x5_3.length co105)) (v1 := (.slice (some ⟨go105, 0, none⟩) x5_3.length co105)) (ok := (fun k_ => some k_ ≠ (.slice (some ad194) t174.length co107 : Value).ownBlock)) (by (with_reducible repeat (first | apply Kd.R_alloc | apply Kd.R_drewN | apply Kd.R_drew)); exact Kd.R_mono HO_11.out (fun _ hk => by first | exact ⟨hk.2, hk.1⟩ | (simp_all; done) | grind)) hg (.inl rfl)); have n3_ := Aside0.mk (blk_grown (g := gb167) (o := .cells #[.int .u8 a0_0, .slice (some ad173) l0_1.length c0_1] 28 (0, 0)) (by (with_reducible repeat (first | refine blk_drewN ?_ _ | refine blk_drew ?_ | refine blk_alloc ?_ _)); exact BK167.out) hg (Kd.R_ne HO_5.out BK167.out (by decide))); have n4_ := Aside0.mk ((by rw [hw]; exact below_set (HB.out) GB105.out : Below w.heap.size w w110)); clear HO_5; clear HO_7; clear HO_11; clear BK167; clear HB; have HO_5 := n0_; have HO_7 := n1_; have HO_11 := n2_; have BK167 := n3_; have HB := n4_; clear n0_ n1_ n2_ n3_ n4_; clear hg hw hp_))
                       go_roundg k3
                       case measure => have := HJ9.out; have := HJ62.out; have := HK3.out; omega
                       case rel => exact ⟨(y197), (wrap64 (x12_3 + 1)), (by first | rfl | (simp; done) | (simp [*]; done) | (simp only [IntKind.wrap_i64, wrap64]; done)), H', ⟨by have := HJ9.out; have := HJ62.out; have := HK3.out; omega⟩, ⟨by (with_reducible repeat (first | apply Kd.R_alloc | apply Kd.R_drewN | apply Kd.R_drew)); exact HO_5.out⟩, ⟨by (with_reducible repeat (first | apply Kd.R_alloc | apply Kd.R_drewN | apply Kd.R_drew)); exact Kd.R_mono HO_7.out (fun _ hk => ⟨hk.2, hk.1⟩)⟩, ⟨by (with_reducible repeat (first | apply Kd.R_alloc | apply Kd.R_drewN | apply Kd.R_drew)); exact Kd.R_mono HO_11.out (fun _ hk => ⟨hk.2, hk.1⟩)⟩, ⟨by (with_reducible repeat (first | refine blk_drewN ?_ _ | refine blk_drew ?_ | refine blk_alloc ?_ _)); exact BK167.out⟩, ⟨by repeat (first | (with_reducible first | exact HB.out | apply below_alloc | apply pw_below_drewN | apply below_drew1 | refine below_set ?_ GE167.out) | exact HB.out)⟩⟩
                      ·rw [if_neg c104] at H
                       exact absurd H (by simp)
                     ·rw [if_neg c103] at H
                      exact absurd H (by simp)
                   ·rw [if_neg c94] at H
                    exact absurd H (by simp)
                  ·rw [if_neg c93] at H
                   exact absurd H (by simp)
                 ·rw [if_neg c92] at H
                  have c92b0 : (a0_0 == 43) = false := beq_eq_false_iff_ne.mpr c92
                  have c92b1 : (a0_0 != 43) = true := bne_iff_ne.mpr c92
                  by_cases c111 : 0 ≤ x12_3
                  ·rw [if_pos c111] at H
                   have c111b0 : decide (0 ≤ x12_3) = true := decide_eq_true c111
                   clear c111
                   by_cases c112 : x12_3 < (t174.length : Int)
                   ·rw [if_pos c112] at H
                    have c112b0 : decide (x12_3 < (t174.length : Int)) = true := decide_eq_true c112
                    clear c112
                    obtain ⟨bq113, hbq113⟩ : ∃ b_ : Bool, b_ = (rdOf false t174 x12_3) := ⟨_, rfl⟩
                    replace H : (if bq113 = true then (if x12_3 < (t188.length : Int) then (if x12_3 < (x5_3.length : Int) then (spec_l7Marks.l3 k3 a1 (x5_3.set (x12_3 : Int).toNat (rdOf false t188 x12_3)) t174 t188 (wrap64 (x12_3 + 1)) a0_0 l0_1) else (none)) else (none)) else (if x12_3 < (x5_3.length : Int) then (spec_l7Marks.l3 k3 a1 (x5_3.set (x12_3 : Int).toNat false) t174 t188 (wrap64 (x12_3 + 1)) a0_0 l0_1) else (none))) = some r := by rw [← hbq113] at H; exact H
                    have Nbq113 := Aside0.mk hbq113
                    clear hbq113
                    by_cases c114 : bq113 = true
                    ·subst c114
                     have H1 : (if x12_3 < (t188.length : Int) then (if x12_3 < (x5_3.length : Int) then (spec_l7Marks.l3 k3 a1 (x5_3.set (x12_3 : Int).toNat (rdOf false t188 x12_3)) t174 t188 (wrap64 (x12_3 + 1)) a0_0 l0_1) else (none)) else (none)) = some r := by rw [if_pos rfl] at H; exact H
                     clear H
                     have H := H1
                     clear H1
                     by_cases c115 : x12_3 < (t188.length : Int)
                     ·rw [if_pos c115] at H
                      have c115b0 : decide (x12_3 < (t188.length : Int)) = true := decide_eq_true c115
                      clear c115
                      by_cases c116 : x12_3 < (x5_3.length : Int)
                      ·rw [if_pos c116] at H
                       have c116b0 : decide (x12_3 < (x5_3.length : Int)) = true := decide_eq_true c116
                       clear c116
                       obtain ⟨y200, hy200⟩ : ∃ y_ : List Bool, y_ = (x5_3.set (x12_3 : Int).toNat (rdOf false t188 x12_3)) := ⟨_, rfl⟩
                       replace H : (spec_l7Marks.l3 k3 a1 y200 t174 t188 (wrap64 (x12_3 + 1)) a0_0 l0_1) = some r := by first | (rw [hy200]; with_reducible exact H) | (have H2_ := (Option.bind_some _ _).symm.trans H; rw [hy200]; with_reducible exact H2_) | (have H2_ := (Option.bind_some _ _).symm.trans H; with_reducible exact H2_) | with_reducible exact H | (rw [hy200]; exact H) | exact H
                       have Ny200 := Aside0.mk hy200
                       clear hy200
                       have H' := Aside0.mk H
                       clear H
                       have hcz118_0 : wr.cell? ⟨gb167, 0, none⟩ = some (.int .u8 a0_0) := (blk_cell BK167.out 0).trans rfl
                       have hcz118_1 : wr.cell? ⟨gb167, 1, none⟩ = some (.slice (some ad173) l0_1.length c0_1) := (blk_cell BK167.out 1).trans rfl
                       have hfz118_0 := blk_frozen BK167.out 0
                       have hfz118_1 := blk_frozen BK167.out 1
                       obtain ⟨Ao119, co119, eo119⟩ := Kd.R_slice HO_7.out
                       subst eo119
                       have p198 : 0 ≤ (x12_3 : Int) := of_decide_eq_true (by first | (with_reducible assumption) | assumption)
                       have q198 : x12_3 < (t174.length : Int) := of_decide_eq_true (by first | (with_reducible assumption) | assumption)
                       obtain ⟨ad198, e198, hx198_0⟩ := Kd.at_bool (Kd.R_reads' HO_7.out).2.2 x12_3 p198 q198
                       (try rw [← Nbq113.out] at hx198_0)
                       cases e198
                       replace p198 := eq_true p198
                       replace q198 := eq_true q198
                       obtain ⟨Ao120, co120, eo120⟩ := Kd.R_slice HO_11.out
                       subst eo120
                       have p199 : 0 ≤ (x12_3 : Int) := of_decide_eq_true (by first | (with_reducible assumption) | assumption)
                       have q199 : x12_3 < (t188.length : Int) := of_decide_eq_true (by first | (with_reducible assumption) | assumption)
                       obtain ⟨ad199, e199, hx199_0⟩ := Kd.at_bool (Kd.R_reads' HO_11.out).2.2 x12_3 p199 q199
                       (try rw [← Nbq113.out] at hx199_0)
                       cases e199
                       replace p199 := eq_true p199
                       replace q199 := eq_true q199
                       have p117 : 0 ≤ (x12_3 : Int) := of_decide_eq_true (by first | (with_reducible assumption) | assumption)
                       have q117 : (x12_3 : Int) < ((x5_3.length : Int) : Int) := of_decide_eq_true (by first | (with_reducible assumption) | assumption)
                       obtain ⟨go117, co117, eo117, gb117, gl117, cl117, HG117⟩ := Kd.R_form HO_5.out (by omega)
                       (first | cases eo117 | (injection eo117 with ea_ en_ ec_; (first | subst ea_ | (injection ea_ with ea_; subst ea_)); subst ec_; clear en_))
                       have GB117 := Aside0.mk gb117
                       have GG117 := Aside0.mk HG117
                       clear gb117 gl117 HG117
                       obtain ⟨hx117_0, hf117_0⟩ := Kd.R_celln false HO_5.out (x12_3 : Int) p117 q117
                       replace p117 := eq_true p117
                       replace q117 := eq_true q117
                       have HP121 := Kd.R_putg HO_5.out (x12_3 : Int) (rdOf false t188 x12_3)
                       go_wp2_with (first | ((with_reducible refine gate_store (t := 4) (p := 152) rfl ?_); refine store_event (t := 4) (p := 152) (v := ?vo_w122) (w1 := (wr.setCell ⟨go117, (x12_3 : Int).toNat, none⟩ (.bool (rdOf false t188 x12_3)))) ?hg ?ho ?hn ?hr ?_; (case ho => rfl); (case hg => rfl); (case hn => rfl); (case hr => first | (go_simp; done) | (go_simp; rfl)); intro w122 hw; have hg : wr.grownBy w122 (some go117) := (by rw [hw]; exact HP121.2); have hp_ : Kd.R Kd.bool 4 w122 w.heap.size (fun k_ => some k_ ≠ (.slice (some ad198) t174.length co119 : Value).ownBlock ∧ some k_ ≠ (.slice (some ad199) t188.length co120 : Value).ownBlock) (.slice (some ⟨go117, 0, none⟩) x5_3.length co117) y200 := (by rw [hw, Ny200.out]; exact HP121.1); clear HP121; have n0_ := Aside0.mk (hp_); have n1_ := Aside0.mk (Kd.R_after (v := (.slice (some ⟨go117, 0, none⟩) x5_3.length co117)) (v1 := (.slice (some ⟨go117, 0, none⟩) x5_3.length co117)) (ok := (fun k_ => some k_ ≠ (.slice (some ad199) t188.length co120 : Value).ownBlock)) (by (with_reducible repeat (first | apply Kd.R_alloc | apply Kd.R_drewN | apply Kd.R_drew)); exact Kd.R_mono HO_7.out (fun _ hk => by first | exact ⟨hk.2, hk.1⟩ | (simp_all; done) | grind)) hg (.inl rfl)); have n2_ := Aside0.mk (Kd.R_after (v := (.slice (some ⟨go117, 0, none⟩) x5_3.length co117)) (v1 := (.slice (some ⟨go117, 0, none⟩) x5_3.length co117)) (ok := (fun k_ => some k_ ≠ (.slice (some ad198) t174.length co119 : Value).ownBlock)) (by (with_reducible repeat (first | apply Kd.R_alloc | apply Kd.R_drewN | apply Kd.R_drew)); exact Kd.R_mono HO_11.out (fun _ hk => by first | exact ⟨hk.2, hk.1⟩ | (simp_all; done) | grind)) hg (.inl rfl)); have n3_ := Aside0.mk (blk_grown (g := gb167) (o := .cells #[.int .u8 a0_0, .slice (some ad173) l0_1.length c0_1] 28 (0, 0)) (by (with_reducible repeat (first | refine blk_drewN ?_ _ | refine blk_drew ?_ | refine blk_alloc ?_ _)); exact BK167.out) hg (Kd.R_ne HO_5.out BK167.out (by decide))); have n4_ := Aside0.mk ((by rw [hw]; exact below_set (HB.out) GB117.out : Below w.heap.size w w122)); clear HO_5; clear HO_7; clear HO_11; clear BK167; clear HB; have HO_5 := n0_; have HO_7 := n1_; have HO_11 := n2_; have BK167 := n3_; have HB := n4_; clear n0_ n1_ n2_ n3_ n4_; clear hg hw hp_))
                       go_roundg k3
                       case measure => have := HJ9.out; have := HJ62.out; have := HK3.out; omega
                       case rel => exact ⟨(y200), (wrap64 (x12_3 + 1)), (by first | rfl | (simp; done) | (simp [*]; done) | (simp only [IntKind.wrap_i64, wrap64]; done)), H', ⟨by have := HJ9.out; have := HJ62.out; have := HK3.out; omega⟩, ⟨by (with_reducible repeat (first | apply Kd.R_alloc | apply Kd.R_drewN | apply Kd.R_drew)); exact HO_5.out⟩, ⟨by (with_reducible repeat (first | apply Kd.R_alloc | apply Kd.R_drewN | apply Kd.R_drew)); exact Kd.R_mono HO_7.out (fun _ hk => ⟨hk.2, hk.1⟩)⟩, ⟨by (with_reducible repeat (first | apply Kd.R_alloc | apply Kd.R_drewN | apply Kd.R_drew)); exact Kd.R_mono HO_11.out (fun _ hk => ⟨hk.2, hk.1⟩)⟩, ⟨by (with_reducible repeat (first | refine blk_drewN ?_ _ | refine blk_drew ?_ | refine blk_alloc ?_ _)); exact BK167.out⟩, ⟨by repeat (first | (with_reducible first | exact HB.out | apply below_alloc | apply pw_below_drewN | apply below_drew1 | refine below_set ?_ GE167.out) | exact HB.out)⟩⟩
                      ·rw [if_neg c116] at H
                       exact absurd H (by simp)
                     ·rw [if_neg c115] at H
                      exact absurd H (by simp)
                    ·replace c114 := Bool.eq_false_iff.mpr c114
                     subst c114
                     have H1 : (if x12_3 < (x5_3.length : Int) then (spec_l7Marks.l3 k3 a1 (x5_3.set (x12_3 : Int).toNat false) t174 t188 (wrap64 (x12_3 + 1)) a0_0 l0_1) else (none)) = some r := by rw [if_neg (show ¬ (false = true) by decide)] at H; exact H
                     clear H
                     have H := H1
                     clear H1
                     by_cases c123 : x12_3 < (x5_3.length : Int)
                     ·rw [if_pos c123] at H
                      have c123b0 : decide (x12_3 < (x5_3.length : Int)) = true := decide_eq_true c123
                      clear c123
                      obtain ⟨y201, hy201⟩ : ∃ y_ : List Bool, y_ = (x5_3.set (x12_3 : Int).toNat false) := ⟨_, rfl⟩
                      replace H : (spec_l7Marks.l3 k3 a1 y201 t174 t188 (wrap64 (x12_3 + 1)) a0_0 l0_1) = some r := by first | (rw [hy201]; with_reducible exact H) | (have H2_ := (Option.bind_some _ _).symm.trans H; rw [hy201]; with_reducible exact H2_) | (have H2_ := (Option.bind_some _ _).symm.trans H; with_reducible exact H2_) | with_reducible exact H | (rw [hy201]; exact H) | exact H
                      have Ny201 := Aside0.mk hy201
                      clear hy201
                      have H' := Aside0.mk H
                      clear H
                      have hcz125_0 : wr.cell? ⟨gb167, 0, none⟩ = some (.int .u8 a0_0) := (blk_cell BK167.out 0).trans rfl
                      have hcz125_1 : wr.cell? ⟨gb167, 1, none⟩ = some (.slice (some ad173) l0_1.length c0_1) := (blk_cell BK167.out 1).trans rfl
                      have hfz125_0 := blk_frozen BK167.out 0
                      have hfz125_1 := blk_frozen BK167.out 1
                      obtain ⟨Ao126, co126, eo126⟩ := Kd.R_slice HO_7.out
                      subst eo126
                      have p198 : 0 ≤ (x12_3 : Int) := of_decide_eq_true (by first | (with_reducible assumption) | assumption)
                      have q198 : x12_3 < (t174.length : Int) := of_decide_eq_true (by first | (with_reducible assumption) | assumption)
                      obtain ⟨ad198, e198, hx198_0⟩ := Kd.at_bool (Kd.R_reads' HO_7.out).2.2 x12_3 p198 q198
                      (try rw [← Nbq113.out] at hx198_0)
                      cases e198
                      replace p198 := eq_true p198
                      replace q198 := eq_true q198
                      have p124 : 0 ≤ (x12_3 : Int) := of_decide_eq_true (by first | (with_reducible assumption) | assumption)
                      have q124 : (x12_3 : Int) < ((x5_3.length : Int) : Int) := of_decide_eq_true (by first | (with_reducible assumption) | assumption)
                      obtain ⟨go124, co124, eo124, gb124, gl124, cl124, HG124⟩ := Kd.R_form HO_5.out (by omega)
                      (first | cases eo124 | (injection eo124 with ea_ en_ ec_; (first | subst ea_ | (injection ea_ with ea_; subst ea_)); subst ec_; clear en_))
                      have GB124 := Aside0.mk gb124
                      have GG124 := Aside0.mk HG124
                      clear gb124 gl124 HG124
                      obtain ⟨hx124_0, hf124_0⟩ := Kd.R_celln false HO_5.out (x12_3 : Int) p124 q124
                      replace p124 := eq_true p124
                      replace q124 := eq_true q124
                      have HP127 := Kd.R_putg HO_5.out (x12_3 : Int) false
                      go_wp2_with (first | ((with_reducible refine gate_store (t := 4) (p := 152) rfl ?_); refine store_event (t := 4) (p := 152) (v := ?vo_w128) (w1 := (wr.setCell ⟨go124, (x12_3 : Int).toNat, none⟩ (.bool false))) ?hg ?ho ?hn ?hr ?_; (case ho => rfl); (case hg => rfl); (case hn => rfl); (case hr => first | (go_simp; done) | (go_simp; rfl)); intro w128 hw; have hg : wr.grownBy w128 (some go124) := (by rw [hw]; exact HP127.2); have hp_ : Kd.R Kd.bool 4 w128 w.heap.size (fun k_ => some k_ ≠ (.slice (some ad198) t174.length co126 : Value).ownBlock ∧ some k_ ≠ (v189 : Value).ownBlock) (.slice (some ⟨go124, 0, none⟩) x5_3.length co124) y201 := (by rw [hw, Ny201.out]; exact HP127.1); clear HP127; have n0_ := Aside0.mk (hp_); have n1_ := Aside0.mk (Kd.R_after (v := (.slice (some ⟨go124, 0, none⟩) x5_3.length co124)) (v1 := (.slice (some ⟨go124, 0, none⟩) x5_3.length co124)) (ok := (fun k_ => some k_ ≠ (v189 : Value).ownBlock)) (by (with_reducible repeat (first | apply Kd.R_alloc | apply Kd.R_drewN | apply Kd.R_drew)); exact Kd.R_mono HO_7.out (fun _ hk => by first | exact ⟨hk.2, hk.1⟩ | (simp_all; done) | grind)) hg (.inl rfl)); have n2_ := Aside0.mk (Kd.R_after (v := (.slice (some ⟨go124, 0, none⟩) x5_3.length co124)) (v1 := (.slice (some ⟨go124, 0, none⟩) x5_3.length co124)) (ok := (fun k_ => some k_ ≠ (.slice (some ad198) t174.length co126 : Value).ownBlock)) (by (with_reducible repeat (first | apply Kd.R_alloc | apply Kd.R_drewN | apply Kd.R_drew)); exact Kd.R_mono HO_11.out (fun _ hk => by first | exact ⟨hk.2, hk.1⟩ | (simp_all; done) | grind)) hg (.inl rfl)); have n3_ := Aside0.mk (blk_grown (g := gb167) (o := .cells #[.int .u8 a0_0, .slice (some ad173) l0_1.length c0_1] 28 (0, 0)) (by (with_reducible repeat (first | refine blk_drewN ?_ _ | refine blk_drew ?_ | refine blk_alloc ?_ _)); exact BK167.out) hg (Kd.R_ne HO_5.out BK167.out (by decide))); have n4_ := Aside0.mk ((by rw [hw]; exact below_set (HB.out) GB124.out : Below w.heap.size w w128)); clear HO_5; clear HO_7; clear HO_11; clear BK167; clear HB; have HO_5 := n0_; have HO_7 := n1_; have HO_11 := n2_; have BK167 := n3_; have HB := n4_; clear n0_ n1_ n2_ n3_ n4_; clear hg hw hp_))
                      go_roundg k3
                      case measure => have := HJ9.out; have := HJ62.out; have := HK3.out; omega
                      case rel => exact ⟨(y201), (wrap64 (x12_3 + 1)), (by first | rfl | (simp; done) | (simp [*]; done) | (simp only [IntKind.wrap_i64, wrap64]; done)), H', ⟨by have := HJ9.out; have := HJ62.out; have := HK3.out; omega⟩, ⟨by (with_reducible repeat (first | apply Kd.R_alloc | apply Kd.R_drewN | apply Kd.R_drew)); exact HO_5.out⟩, ⟨by (with_reducible repeat (first | apply Kd.R_alloc | apply Kd.R_drewN | apply Kd.R_drew)); exact Kd.R_mono HO_7.out (fun _ hk => ⟨hk.2, hk.1⟩)⟩, ⟨by (with_reducible repeat (first | apply Kd.R_alloc | apply Kd.R_drewN | apply Kd.R_drew)); exact Kd.R_mono HO_11.out (fun _ hk => ⟨hk.2, hk.1⟩)⟩, ⟨by (with_reducible repeat (first | refine blk_drewN ?_ _ | refine blk_drew ?_ | refine blk_alloc ?_ _)); exact BK167.out⟩, ⟨by repeat (first | (with_reducible first | exact HB.out | apply below_alloc | apply pw_below_drewN | apply below_drew1 | refine below_set ?_ GE167.out) | exact HB.out)⟩⟩
                     ·rw [if_neg c123] at H
                      exact absurd H (by simp)
                   ·rw [if_neg c112] at H
                    exact absurd H (by simp)
                  ·rw [if_neg c111] at H
                   exact absurd H (by simp)
                ·rw [if_neg c91] at H
                 have c91b0 : decide (x12_3 < a1) = false := decide_eq_false c91
                 clear c91
                 obtain rfl := Option.some.inj H
                 go_wp2
                 go_ret
                 exact ⟨_, by first | rfl | (simp [errW_none, errW_some] <;> rfl) | (simp [*, errW_none, errW_some] <;> rfl), by (with_reducible repeat (first | apply Kd.R_alloc | apply Kd.R_drewN | apply Kd.R_drew)); exact Kd.R_mono HO_5.out (fun _ hk => trivial), by repeat (first | (with_reducible first | exact HB.out | apply below_alloc | apply pw_below_drewN | apply below_drew1 | refine below_set ?_ GE167.out) | exact HB.out)⟩
            ·rw [if_neg c78] at H
             exact absurd H (by simp)
       ·rw [if_neg c28] at H
        exact absurd H (by simp)
  ·rw [if_neg c4] at H
   exact absurd H (by simp)
 ·rw [if_neg c3] at H
  exact absurd H (by simp)

end Go.Proofs.Ytijmkmbepjjphaa.G
