-- Made by gprint.py (the kit's print with contracts of this session's own among its functions).
import Derived.Test.YtdiaifmlockohaaG0
import Derived.Test.YtdiaifmlockohaaG3
import Derived.Test.YtdiaifmlockohaaG4
namespace Go.Proofs.Ytdiaifmlockohaa.G
open Go.RowKit Go.Proofs.YtdiaifmlockohaaW.PrintWords Go.Proofs.YtdiaifmlockohaaW.PrintLast Go.Proofs.YtdiaifmlockohaaW.PrintMore
attribute [local go_sem] max2_int min2_int max_two min_two max_three min_three max_four min_four   -- for this text's walks alone
set_option linter.unusedVariables false
set_option linter.unusedSimpArgs false

/-! ### impl_row_meets: function 33 -/
def impl_row_meets.f (k : Nat) (a0_0 : Int) (a0_1 : Int) (a1_0 : Int) (a1_1 : Int) : Option (Bool) := (impl_gcd.f k a0_1 a1_1).bind fun t278 => (if t278 = 0 then (none) else (some ((Int.tmod (wrap64 (a0_0 - a1_0)) t278) == 0)))
theorem impl_row_meets.mono : ∀ a0 a1 a2 a3 k, LeO (impl_row_meets.f k a0 a1 a2 a3) (impl_row_meets.f (k + 1) a0 a1 a2 a3) := by
 intro a0 a1 a2 a3 k
 unfold impl_row_meets.f
 repeat' first
   | (with_reducible exact impl_gcd.mono _ _ _)
   | (with_reducible exact LeO.refl _)
   | (with_reducible exact LeO.none _)
   | (with_reducible refine LeO.ite ?_ ?_)
   | (with_reducible refine LeO.bind ?_ (fun _ => ?_))
   | exact impl_gcd.mono _ _ _
   | exact LeO.none _
   | refine LeO.ite ?_ ?_
   | refine LeO.bind ?_ (fun _ => ?_)
set_option maxHeartbeats 8000000 in
set_option maxRecDepth 100000 in
theorem impl_row_meets.calls (k : Nat) (a0_0 : Int) (a0_1 : Int) (a1_0 : Int) (a1_1 : Int) (r : Bool) (w : World) (h : impl_row_meets.f k a0_0 a0_1 a1_0 a1_1 = some r) :
  Calls Try.prog 33 #[.agg #[.int .i64 a0_0, .int .i64 a0_1], .agg #[.int .i64 a1_0, .int .i64 a1_1]] w fun e w' => e = .returned (.bool r) ∧ Below w.heap.size w w' := by
 have hu42 := Try.underlying42
 have HB := Aside0.mk (Below.refl w.heap.size w)
 have H : ((impl_gcd.f k a0_1 a1_1).bind fun t278 => (if t278 = 0 then (none) else (some ((Int.tmod (wrap64 (a0_0 - a1_0)) t278) == 0)))) = some r := h
 clear h
 replace H := Option.bind_eq_some_iff.mp H
 obtain ⟨t278, A30, H⟩ := H
 replace H : (if t278 = 0 then (none) else (some ((Int.tmod (wrap64 (a0_0 - a1_0)) t278) == 0))) = some r := H
 have A3 := Aside0.mk A30
 clear A30
 by_cases c4 : t278 = 0
 ·rw [if_pos c4] at H
  exact absurd H (by simp)
 ·rw [if_neg c4] at H
  have c4b0 : (t278 == 0) = false := beq_eq_false_iff_ne.mpr c4
  have c4b1 : (t278 != 0) = true := bne_iff_ne.mpr c4
  obtain rfl := Option.some.inj H
  go_enter Try.func33, Try.ntmps33
  go_wp2_with (first | ((with_reducible refine gate_dst (N := 2) rfl ?_); refine box_event ?hg (N := 2) ?hd (cs := #[.int .i64 a0_0, .int .i64 a0_1]) (t := 42) ?hr ?_; (case hd => rfl); (case hg => rfl); (case hr => first | (go_simp; done) | (go_simp; rfl)); intro gb276 hg w5 hbox hb; have n0_ := Aside0.mk (below_step (by repeat (first | (with_reducible first | exact HB.out | apply below_alloc | apply pw_below_drewN | apply below_drew1) | exact HB.out)) hb); have n1_ := Aside0.mk (hbox); have n2_ := Aside0.mk ((by rw [hg]; exact (below_size (by repeat (first | (with_reducible first | exact HB.out | apply below_alloc | apply pw_below_drewN | apply below_drew1) | exact HB.out))) : w.heap.size ≤ gb276)); have n3_ := Aside0.mk ((by rw [hg]; exact (below_size (by repeat (first | (with_reducible first | exact HB.out | apply below_alloc | apply pw_below_drewN | apply below_drew1) | exact HB.out))) : w.heap.size ≤ gb276)); clear HB; have HB := n0_; have BK276 := n1_; have GW276 := n2_; have GE276 := n3_; clear n0_ n1_ n2_ n3_; clear hb hbox hg) | ((with_reducible refine gate_dst (N := 3) rfl ?_); refine box_event ?hg (N := 3) ?hd (cs := #[.int .i64 a1_0, .int .i64 a1_1]) (t := 42) ?hr ?_; (case hd => rfl); (case hg => rfl); (case hr => first | (go_simp; done) | (go_simp; rfl)); intro gb277 hg w6 hbox hb; have n0_ := Aside0.mk (blk_below (g := gb276) (o := .cells #[.int .i64 a0_0, .int .i64 a0_1] 42 (0, 0)) (by (with_reducible repeat (first | refine blk_drewN ?_ _ | refine blk_drew ?_ | refine blk_alloc ?_ _)); exact BK276.out) hb); have n1_ := Aside0.mk (below_step (by repeat (first | (with_reducible first | exact HB.out | apply below_alloc | apply pw_below_drewN | apply below_drew1 | refine below_set ?_ GE276.out) | exact HB.out)) hb); have n2_ := Aside0.mk (hbox); have n3_ := Aside0.mk ((by rw [hg]; exact (below_size (by repeat (first | (with_reducible first | exact HB.out | apply below_alloc | apply pw_below_drewN | apply below_drew1 | refine below_set ?_ GE276.out) | exact HB.out))) : w.heap.size ≤ gb277)); have n4_ := Aside0.mk ((by rw [hg]; exact (below_size (by repeat (first | (with_reducible first | exact HB.out | apply below_alloc | apply pw_below_drewN | apply below_drew1 | refine below_set ?_ GE276.out) | exact HB.out))) : w.heap.size ≤ gb277)); have n5_ := Aside0.mk ((by rw [hg]; exact Nat.ne_of_lt (blk_lt (g := gb276) (o := .cells #[.int .i64 a0_0, .int .i64 a0_1] 42 (0, 0)) (by (with_reducible repeat (first | refine blk_drewN ?_ _ | refine blk_drew ?_ | refine blk_alloc ?_ _)); exact BK276.out)) : gb276 ≠ gb277)); have n6_ := Aside0.mk ((by rw [hg]; exact Nat.ne_of_gt (blk_lt (g := gb276) (o := .cells #[.int .i64 a0_0, .int .i64 a0_1] 42 (0, 0)) (by (with_reducible repeat (first | refine blk_drewN ?_ _ | refine blk_drew ?_ | refine blk_alloc ?_ _)); exact BK276.out)) : gb277 ≠ gb276)); clear BK276; clear HB; have BK276 := n0_; have HB := n1_; have BK277 := n2_; have GW277 := n3_; have GE277 := n4_; have NB276_277 := n5_; have NB277_276 := n6_; clear n0_ n1_ n2_ n3_ n4_ n5_ n6_; clear hb hbox hg; have hnb7 := NB276_277.out; have hnc7 := NB277_276.out; have hcz8_0 : w6.cell? ⟨gb276, 0, none⟩ = some (.int .i64 a0_0) := (blk_cell BK276.out 0).trans rfl; have hcz8_1 : w6.cell? ⟨gb276, 1, none⟩ = some (.int .i64 a0_1) := (blk_cell BK276.out 1).trans rfl; have hfz8_0 := blk_frozen BK276.out 0; have hfz8_1 := blk_frozen BK276.out 1; have hcz9_0 : w6.cell? ⟨gb277, 0, none⟩ = some (.int .i64 a1_0) := (blk_cell BK277.out 0).trans rfl; have hcz9_1 : w6.cell? ⟨gb277, 1, none⟩ = some (.int .i64 a1_1) := (blk_cell BK277.out 1).trans rfl; have hfz9_0 := blk_frozen BK277.out 0; have hfz9_1 := blk_frozen BK277.out 1) | (go_at_call 25; (with_reducible refine (impl_gcd.calls k a0_1 a1_1 t278 _ A3.out).mono ?_); rintro e w' ⟨rfl, ⟨nd, rfl⟩⟩; (try first | exact ⟨rfl, _, World.drewN_drewN _ _ _⟩ | exact ⟨rfl, _, Eq.trans (World.drewN_drewN _ _ _) (congrArg (World.drewN _) (Nat.add_assoc _ _ _))⟩)))
  repeat (go_quiet (first | ((with_reducible refine gate_dst (N := 2) rfl ?_); refine box_event ?hg (N := 2) ?hd (cs := #[.int .i64 a0_0, .int .i64 a0_1]) (t := 42) ?hr ?_; (case hd => rfl); (case hg => rfl); (case hr => first | (go_simp; done) | (go_simp; rfl)); intro gb276 hg w5 hbox hb; have n0_ := Aside0.mk (below_step (by repeat (first | (with_reducible first | exact HB.out | apply below_alloc | apply pw_below_drewN | apply below_drew1) | exact HB.out)) hb); have n1_ := Aside0.mk (hbox); have n2_ := Aside0.mk ((by rw [hg]; exact (below_size (by repeat (first | (with_reducible first | exact HB.out | apply below_alloc | apply pw_below_drewN | apply below_drew1) | exact HB.out))) : w.heap.size ≤ gb276)); have n3_ := Aside0.mk ((by rw [hg]; exact (below_size (by repeat (first | (with_reducible first | exact HB.out | apply below_alloc | apply pw_below_drewN | apply below_drew1) | exact HB.out))) : w.heap.size ≤ gb276)); clear HB; have HB := n0_; have BK276 := n1_; have GW276 := n2_; have GE276 := n3_; clear n0_ n1_ n2_ n3_; clear hb hbox hg) | ((with_reducible refine gate_dst (N := 3) rfl ?_); refine box_event ?hg (N := 3) ?hd (cs := #[.int .i64 a1_0, .int .i64 a1_1]) (t := 42) ?hr ?_; (case hd => rfl); (case hg => rfl); (case hr => first | (go_simp; done) | (go_simp; rfl)); intro gb277 hg w6 hbox hb; have n0_ := Aside0.mk (blk_below (g := gb276) (o := .cells #[.int .i64 a0_0, .int .i64 a0_1] 42 (0, 0)) (by (with_reducible repeat (first | refine blk_drewN ?_ _ | refine blk_drew ?_ | refine blk_alloc ?_ _)); exact BK276.out) hb); have n1_ := Aside0.mk (below_step (by repeat (first | (with_reducible first | exact HB.out | apply below_alloc | apply pw_below_drewN | apply below_drew1 | refine below_set ?_ GE276.out) | exact HB.out)) hb); have n2_ := Aside0.mk (hbox); have n3_ := Aside0.mk ((by rw [hg]; exact (below_size (by repeat (first | (with_reducible first | exact HB.out | apply below_alloc | apply pw_below_drewN | apply below_drew1 | refine below_set ?_ GE276.out) | exact HB.out))) : w.heap.size ≤ gb277)); have n4_ := Aside0.mk ((by rw [hg]; exact (below_size (by repeat (first | (with_reducible first | exact HB.out | apply below_alloc | apply pw_below_drewN | apply below_drew1 | refine below_set ?_ GE276.out) | exact HB.out))) : w.heap.size ≤ gb277)); have n5_ := Aside0.mk ((by rw [hg]; exact Nat.ne_of_lt (blk_lt (g := gb276) (o := .cells #[.int .i64 a0_0, .int .i64 a0_1] 42 (0, 0)) (by (with_reducible repeat (first | refine blk_drewN ?_ _ | refine blk_drew ?_ | refine blk_alloc ?_ _)); exact BK276.out)) : gb276 ≠ gb277)); have n6_ := Aside0.mk ((by rw [hg]; exact Nat.ne_of_gt (blk_lt (g := gb276) (o := .cells #[.int .i64 a0_0, .int .i64 a0_1] 42 (0, 0)) (by (with_reducible repeat (first | refine blk_drewN ?_ _ | refine blk_drew ?_ | refine blk_alloc ?_ _)); exact BK276.out)) : gb277 ≠ gb276)); clear BK276; clear HB; have BK276 := n0_; have HB := n1_; have BK277 := n2_; have GW277 := n3_; have GE277 := n4_; have NB276_277 := n5_; have NB277_276 := n6_; clear n0_ n1_ n2_ n3_ n4_ n5_ n6_; clear hb hbox hg; have hnb7 := NB276_277.out; have hnc7 := NB277_276.out; have hcz8_0 : w6.cell? ⟨gb276, 0, none⟩ = some (.int .i64 a0_0) := (blk_cell BK276.out 0).trans rfl; have hcz8_1 : w6.cell? ⟨gb276, 1, none⟩ = some (.int .i64 a0_1) := (blk_cell BK276.out 1).trans rfl; have hfz8_0 := blk_frozen BK276.out 0; have hfz8_1 := blk_frozen BK276.out 1; have hcz9_0 : w6.cell? ⟨gb277, 0, none⟩ = some (.int .i64 a1_0) := (blk_cell BK277.out 0).trans rfl; have hcz9_1 : w6.cell? ⟨gb277, 1, none⟩ = some (.int .i64 a1_1) := (blk_cell BK277.out 1).trans rfl; have hfz9_0 := blk_frozen BK277.out 0; have hfz9_1 := blk_frozen BK277.out 1) | (go_at_call 25; (with_reducible refine (impl_gcd.calls k a0_1 a1_1 t278 _ A3.out).mono ?_); rintro e w' ⟨rfl, ⟨nd, rfl⟩⟩; (try first | exact ⟨rfl, _, World.drewN_drewN _ _ _⟩ | exact ⟨rfl, _, Eq.trans (World.drewN_drewN _ _ _) (congrArg (World.drewN _) (Nat.add_assoc _ _ _))⟩))); (try simp only [IntWalk.i64_left]); try go_wp2_with (first | ((with_reducible refine gate_dst (N := 2) rfl ?_); refine box_event ?hg (N := 2) ?hd (cs := #[.int .i64 a0_0, .int .i64 a0_1]) (t := 42) ?hr ?_; (case hd => rfl); (case hg => rfl); (case hr => first | (go_simp; done) | (go_simp; rfl)); intro gb276 hg w5 hbox hb; have n0_ := Aside0.mk (below_step (by repeat (first | (with_reducible first | exact HB.out | apply below_alloc | apply pw_below_drewN | apply below_drew1) | exact HB.out)) hb); have n1_ := Aside0.mk (hbox); have n2_ := Aside0.mk ((by rw [hg]; exact (below_size (by repeat (first | (with_reducible first | exact HB.out | apply below_alloc | apply pw_below_drewN | apply below_drew1) | exact HB.out))) : w.heap.size ≤ gb276)); have n3_ := Aside0.mk ((by rw [hg]; exact (below_size (by repeat (first | (with_reducible first | exact HB.out | apply below_alloc | apply pw_below_drewN | apply below_drew1) | exact HB.out))) : w.heap.size ≤ gb276)); clear HB; have HB := n0_; have BK276 := n1_; have GW276 := n2_; have GE276 := n3_; clear n0_ n1_ n2_ n3_; clear hb hbox hg) | ((with_reducible refine gate_dst (N := 3) rfl ?_); refine box_event ?hg (N := 3) ?hd (cs := #[.int .i64 a1_0, .int .i64 a1_1]) (t := 42) ?hr ?_; (case hd => rfl); (case hg => rfl); (case hr => first | (go_simp; done) | (go_simp; rfl)); intro gb277 hg w6 hbox hb; have n0_ := Aside0.mk (blk_below (g := gb276) (o := .cells #[.int .i64 a0_0, .int .i64 a0_1] 42 (0, 0)) (by (with_reducible repeat (first | refine blk_drewN ?_ _ | refine blk_drew ?_ | refine blk_alloc ?_ _)); exact BK276.out) hb); have n1_ := Aside0.mk (below_step (by repeat (first | (with_reducible first | exact HB.out | apply below_alloc | apply pw_below_drewN | apply below_drew1 | refine below_set ?_ GE276.out) | exact HB.out)) hb); have n2_ := Aside0.mk (hbox); have n3_ := Aside0.mk ((by rw [hg]; exact (below_size (by repeat (first | (with_reducible first | exact HB.out | apply below_alloc | apply pw_below_drewN | apply below_drew1 | refine below_set ?_ GE276.out) | exact HB.out))) : w.heap.size ≤ gb277)); have n4_ := Aside0.mk ((by rw [hg]; exact (below_size (by repeat (first | (with_reducible first | exact HB.out | apply below_alloc | apply pw_below_drewN | apply below_drew1 | refine below_set ?_ GE276.out) | exact HB.out))) : w.heap.size ≤ gb277)); have n5_ := Aside0.mk ((by rw [hg]; exact Nat.ne_of_lt (blk_lt (g := gb276) (o := .cells #[.int .i64 a0_0, .int .i64 a0_1] 42 (0, 0)) (by (with_reducible repeat (first | refine blk_drewN ?_ _ | refine blk_drew ?_ | refine blk_alloc ?_ _)); exact BK276.out)) : gb276 ≠ gb277)); have n6_ := Aside0.mk ((by rw [hg]; exact Nat.ne_of_gt (blk_lt (g := gb276) (o := .cells #[.int .i64 a0_0, .int .i64 a0_1] 42 (0, 0)) (by (with_reducible repeat (first | refine blk_drewN ?_ _ | refine blk_drew ?_ | refine blk_alloc ?_ _)); exact BK276.out)) : gb277 ≠ gb276)); clear BK276; clear HB; have BK276 := n0_; have HB := n1_; have BK277 := n2_; have GW277 := n3_; have GE277 := n4_; have NB276_277 := n5_; have NB277_276 := n6_; clear n0_ n1_ n2_ n3_ n4_ n5_ n6_; clear hb hbox hg; have hnb7 := NB276_277.out; have hnc7 := NB277_276.out; have hcz8_0 : w6.cell? ⟨gb276, 0, none⟩ = some (.int .i64 a0_0) := (blk_cell BK276.out 0).trans rfl; have hcz8_1 : w6.cell? ⟨gb276, 1, none⟩ = some (.int .i64 a0_1) := (blk_cell BK276.out 1).trans rfl; have hfz8_0 := blk_frozen BK276.out 0; have hfz8_1 := blk_frozen BK276.out 1; have hcz9_0 : w6.cell? ⟨gb277, 0, none⟩ = some (.int .i64 a1_0) := (blk_cell BK277.out 0).trans rfl; have hcz9_1 : w6.cell? ⟨gb277, 1, none⟩ = some (.int .i64 a1_1) := (blk_cell BK277.out 1).trans rfl; have hfz9_0 := blk_frozen BK277.out 0; have hfz9_1 := blk_frozen BK277.out 1) | (go_at_call 25; (with_reducible refine (impl_gcd.calls k a0_1 a1_1 t278 _ A3.out).mono ?_); rintro e w' ⟨rfl, ⟨nd, rfl⟩⟩; (try first | exact ⟨rfl, _, World.drewN_drewN _ _ _⟩ | exact ⟨rfl, _, Eq.trans (World.drewN_drewN _ _ _) (congrArg (World.drewN _) (Nat.add_assoc _ _ _))⟩))))
  go_ret
  exact ⟨by first | rfl | (simp [errW_none, errW_some] <;> rfl) | (simp [*, errW_none, errW_some] <;> rfl), by repeat (first | (with_reducible first | exact HB.out | apply below_alloc | apply pw_below_drewN | apply below_drew1 | refine below_set ?_ GE276.out | refine below_set ?_ GE277.out) | exact HB.out)⟩

/-! ### impl_prime: function 41 -/
def impl_prime.l0 : Nat → Int → Int → Option (Int)
 | 0, _, _ => none
 | k + 1, x0, x3 => if x3 = 0 then (none) else (if (Int.tmod x0 x3) = 0 then (some x3) else (impl_prime.l0 k x0 (wrap64 (x3 + 1))))
def impl_prime.f (k : Nat) (a0 : Int) : Option (Int) := impl_prime.l0 k a0 2
theorem impl_prime.mono_l : ∀ k, (∀ y0 y1, LeO (impl_prime.l0 k y0 y1) (impl_prime.l0 (k + 1) y0 y1))
 | 0 => fun _ _ r h => by simp [impl_prime.l0] at h
 | k + 1 => by
  have ih0 := impl_prime.mono_l k
  ·intro y0 y1
   unfold impl_prime.l0
   repeat' first
   | (with_reducible exact ih0 _ _)
   | (with_reducible exact LeO.refl _)
   | (with_reducible exact LeO.none _)
   | (with_reducible refine LeO.ite ?_ ?_)
   | (with_reducible refine LeO.bind ?_ (fun _ => ?_))
   | exact ih0 _ _
   | exact LeO.none _
   | refine LeO.ite ?_ ?_
   | refine LeO.bind ?_ (fun _ => ?_)
theorem impl_prime.mono : ∀ a0 k, LeO (impl_prime.f k a0) (impl_prime.f (k + 1) a0) := by
 intro a0 k
 have ih0 := impl_prime.mono_l k
 unfold impl_prime.f
 repeat' first
   | (with_reducible exact ih0 _ _)
   | (with_reducible exact LeO.refl _)
   | (with_reducible exact LeO.none _)
   | (with_reducible refine LeO.ite ?_ ?_)
   | (with_reducible refine LeO.bind ?_ (fun _ => ?_))
   | exact ih0 _ _
   | exact LeO.none _
   | refine LeO.ite ?_ ?_
   | refine LeO.bind ?_ (fun _ => ?_)
set_option maxHeartbeats 8000000 in
set_option maxRecDepth 100000 in
theorem impl_prime.calls (k : Nat) (a0 : Int) (r : Int) (w : World) (h : impl_prime.f k a0 = some r) :
  Calls Try.prog 41 #[.int .i64 a0] w fun e w' => e = .returned (.int .i64 r) ∧ Drawn0 w w' := by
 have H : (impl_prime.l0 k a0 2) = some r := h
 clear h
 have H' := Aside0.mk H
 clear H
 go_enter Try.func41, Try.ntmps41
 go_wp2
 go_loopg [3] k (fun kq v3 w' => ∃ (x3_1 : Int), v3 = .int .i64 x3_1 ∧ Aside0 (impl_prime.l0 kq a0 x3_1 = some r) ∧ Aside0 (kq ≤ k) ∧ Drawn0 w w')
 case atStart => exact ⟨(2), (by first | rfl | (simp; done) | (simp [*]; done) | (simp only [IntKind.wrap_i64, wrap64]; done)), H', ⟨Nat.le_refl _⟩, by repeat (first | exact Drawn0.refl _ | apply Drawn0.step)⟩
 case round =>
  clear H'
  obtain ⟨x3_1, rfl, HA, HK1, ⟨m1, rfl⟩⟩ := hrel
  cases gk with
  | zero => exact absurd HA.out (by simp [impl_prime.l0])
  | succ k1 =>
   have H := HA.out
   clear HA
   simp only [impl_prime.l0] at H
   by_cases c2 : x3_1 = 0
   ·rw [if_pos c2] at H
    exact absurd H (by simp)
   ·rw [if_neg c2] at H
    have c2b0 : (x3_1 == 0) = false := beq_eq_false_iff_ne.mpr c2
    have c2b1 : (x3_1 != 0) = true := bne_iff_ne.mpr c2
    by_cases c3 : (Int.tmod a0 x3_1) = 0
    ·rw [if_pos c3] at H
     have c3b0 : ((Int.tmod a0 x3_1) == 0) = true := beq_iff_eq.mpr c3
     have c3b1 : ((Int.tmod a0 x3_1) != 0) = false := bne_eq_false_iff_eq.mpr c3
     clear c3
     obtain rfl := Option.some.inj H
     go_wp2
     go_ret
     exact ⟨by first | rfl | (simp; done) | (simp [*]; done), by repeat (first | exact Drawn0.refl _ | apply Drawn0.step)⟩
    ·rw [if_neg c3] at H
     have c3b0 : ((Int.tmod a0 x3_1) == 0) = false := beq_eq_false_iff_ne.mpr c3
     have c3b1 : ((Int.tmod a0 x3_1) != 0) = true := bne_iff_ne.mpr c3
     have H' := Aside0.mk H
     clear H
     go_wp2
     go_roundg k1
     case measure => have := HK1.out; omega
     case rel => exact ⟨(wrap64 (x3_1 + 1)), (by first | rfl | (simp; done) | (simp [*]; done) | (simp only [IntKind.wrap_i64, wrap64]; done)), H', ⟨by have := HK1.out; omega⟩, by repeat (first | exact Drawn0.refl _ | apply Drawn0.step)⟩

/-! ### impl_covered: function 29 -/
def cv_best (best parts : Int) : Int := if best = 0 then parts else if parts < best then parts else best
def cv_scan (K : Nat) (b s : Int) : List S42 → Nat → Int → List S42 → Option (Option (Nat × Int × List S42))
 | [], sum, best, left => some (some (sum, best, left))
 | x :: l, sum, best, left =>
  (impl_row_meets.f K b s x.f0 x.f1).bind fun m => if m = true then
   (impl_gcd.f K s x.f1).bind fun g => if g = 0 then none else
    if wrap64 (Int.tdiv x.f1 g) = 1 then some none else
    if left.length < 1000000 then
     (floatBits .quo .f64 4607182418800017408 (floatOfInt .f64 (wrap64 (Int.tdiv x.f1 g)))).bind fun q =>
     (floatBits .add .f64 sum q).bind fun sum' => cv_scan K b s l sum' (cv_best best (wrap64 (Int.tdiv x.f1 g))) (left ++ [x])
    else none
   else cv_scan K b s l sum best left
def cv_loop (rec : Int → Int → Option Bool) (b s p : Int) : Nat → Int → Option Bool
 | 0, _ => none
 | n + 1, i => if i < p then (rec (wrap64 (b + wrap64 (i * s))) (wrap64 (s * p))).bind fun c => if c = true then cv_loop rec b s p n (i + 1) else some false else some true
def cv_lss (a b : Nat) : Bool := FloatKind.f64.format.order a b == some .lt
def impl_covered.f : Nat → Int → Int → List S42 → Option Bool
 | 0, _, _, _ => none
 | k + 1, b, s, xs => (cv_scan k b s xs 0 0 []).bind fun o => match o with
  | none => some true
  | some (sum, best, left) => if cv_lss sum 4607182418791010209 = true then some false else (impl_prime.f k best).bind fun p => if p ≤ 1000 then cv_loop (fun b' s' => impl_covered.f k b' s' left) b s p k 0 else none
theorem cv_scan_mono (K : Nat) (b s : Int) : ∀ (l : List S42) (sum : Nat) (best : Int) (left : List S42), LeO (cv_scan K b s l sum best left) (cv_scan (K + 1) b s l sum best left)
 | [], _, _, _ => LeO.refl _
 | x :: l, sum, best, left => by
  rw [cv_scan, cv_scan]
  refine LeO.bind (impl_row_meets.mono _ _ _ _ _) (fun m => LeO.ite (LeO.bind (impl_gcd.mono _ _ _) (fun g => LeO.ite (LeO.refl _) (LeO.ite (LeO.refl _) (LeO.ite (LeO.bind (LeO.refl _) (fun q => LeO.bind (LeO.refl _) (fun z => ?_))) (LeO.refl _))))) ?_)
  ·exact cv_scan_mono K b s l _ _ _
  ·exact cv_scan_mono K b s l _ _ _
theorem cv_loop_mono {rec rec' : Int → Int → Option Bool} (hr : ∀ x y, LeO (rec x y) (rec' x y)) (b s p : Int) : ∀ (n : Nat) (i : Int), LeO (cv_loop rec b s p n i) (cv_loop rec' b s p (n + 1) i)
 | 0, _ => LeO.none _
 | n + 1, i => by
  rw [cv_loop, cv_loop]
  exact LeO.ite (LeO.bind (hr _ _) (fun c => LeO.ite (cv_loop_mono hr b s p n _) (LeO.refl _))) (LeO.refl _)
theorem impl_covered.mono : ∀ a0 a1 a2 k, LeO (impl_covered.f k a0 a1 a2) (impl_covered.f (k + 1) a0 a1 a2) := by
 intro a0 a1 a2 k
 induction k generalizing a0 a1 a2 with
 | zero => exact LeO.none _
 | succ k ih =>
  rw [impl_covered.f, impl_covered.f]
  refine LeO.bind (cv_scan_mono _ _ _ _ _ _ _) (fun o => ?_)
  match o with
  | none => exact LeO.refl _
  | some (sum, best, left) => exact LeO.ite (LeO.refl _) (LeO.bind (impl_prime.mono _ _) (fun p => LeO.ite (cv_loop_mono (fun x y => ih _ _ _) _ _ _ _ _) (LeO.refl _)))
def CovI (K : Nat) (b s : Int) (xs : List S42) (o : Option (Nat × Int × List S42)) (w : World) (k sum : Nat) (best : Int) (left : List S42) (v : Value) (wr : World) : Prop :=
 cv_scan K b s (xs.drop k) sum best left = some o ∧ Kd.R k42 42 wr (w.alloc (.cells #[.int .i64 b, .int .i64 s] 42)).heap.size (fun _ => True) v left ∧ Below (w.alloc (.cells #[.int .i64 b, .int .i64 s] 42)).heap.size (w.alloc (.cells #[.int .i64 b, .int .i64 s] 42)) wr
def CovJ (K : Nat) (b s p : Int) (r : Bool) (left : List S42) (w : World) (m : Nat) (j : Int) (v : Value) (wr : World) : Prop :=
 cv_loop (fun b' s' => impl_covered.f K b' s' left) b s p m j = some r ∧ Kd.R k42 42 wr (w.alloc (.cells #[.int .i64 b, .int .i64 s] 42)).heap.size (fun _ => True) v left ∧ Below (w.alloc (.cells #[.int .i64 b, .int .i64 s] 42)).heap.size (w.alloc (.cells #[.int .i64 b, .int .i64 s] 42)) wr
set_option maxRecDepth 100000 in
set_option maxHeartbeats 8000000 in
theorem impl_covered.calls (K : Nat) : ∀ (b s : Int) (A1 : Option Addr) (c1 : Nat) (xs : List S42) (r : Bool) (w : World) (hr1 : Kd.C k42 w A1 xs.length xs) (hc1 : xs.length ≤ c1) (h : impl_covered.f K b s xs = some r),
  Calls Try.prog 29 #[.agg #[.int .i64 b, .int .i64 s], .slice A1 xs.length c1] w fun e w' => e = .returned (.bool r) ∧ Below w.heap.size w w' := by
 induction K with
 | zero => intro b s A1 c1 xs r w hr1 hc1 h; cases h
 | succ K ih =>
  intro b s A1 c1 xs r w hr1 hc1 h
  have IH := Aside0.mk ih
  have HR := Aside0.mk hr1
  have hn9 : xs.length ≤ 9223372036854775807 := Kd.C_max hr1
  obtain ⟨n, hn⟩ : ∃ n, xs.length = n := ⟨_, rfl⟩
  have HN := Aside0.mk hn
  rw [hn] at hc1 hn9 ⊢
  have hu := Try.underlying42
  rw [impl_covered.f] at h
  obtain ⟨o, ho, h⟩ := Option.bind_eq_some_iff.mp h
  have HO := Aside0.mk ho
  have HH := Aside0.mk h
  clear ih hr1 hn ho
  clear h
  clear h
  go_enter Try.func29, Try.ntmps29
  go_wp2
  go_loopw [5, 6, 7, 15] (fun v5 v6 v7 v15 wr => ∃ (k sum : Nat) (best : Int) (left : List S42), k ≤ n ∧ v15 = .int .i64 k ∧ v5 = .float .f64 sum ∧ v6 = .int .i64 best ∧ CovI K b s xs o w k sum best left v7 wr) (fun _ _ _ i _ => n - (intOf i).toNat)
  case atStart => exact ⟨0, 0, 0, [], Nat.zero_le _, rfl, rfl, rfl, HO.out, Kd.R_nil _ _ _ _ _, Below.refl _ _⟩
  case round =>
   obtain ⟨k, sum, best, left, hk, rfl, rfl, rfl, hI⟩ := hrel
   obtain ⟨hS, hV, hB⟩ := hI
   have bkr := blk_below (blk_new w (.cells #[.int .i64 b, .int .i64 s] 42)) hB
   have BKR := Aside0.mk bkr
   have HV := Aside0.mk hV
   have HB := Aside0.mk hB
   have hbw : Below w.heap.size w wr := below_step (below_alloc (Below.refl _ _) _) hB
   have HBW := Aside0.mk hbw
   by_cases hlt : k < n
   ·obtain ⟨x, hx, hd⟩ : ∃ x, rd_T42 xs (k : Int) = x ∧ xs.drop k = x :: xs.drop (k + 1) := by
     have hk2 : k < xs.length := by rw [HN.out]; exact hlt
     refine ⟨_, rfl, ?_⟩
     rw [List.drop_eq_getElem_cons hk2]
     unfold rd_T42
     rw [Int.toNat_natCast, List.getD_eq_getElem?_getD, List.getElem?_eq_getElem hk2, Option.getD_some]
    obtain ⟨ad, e1, q0, q1⟩ := at_T42 (Kd.C_below HR.out hbw) (k : Int) (by omega) (by rw [HN.out]; omega)
    subst e1
    rw [hx, Int.toNat_natCast] at q0 q1
    rw [hd, cv_scan] at hS
    obtain ⟨m, hm, hS⟩ := Option.bind_eq_some_iff.mp hS
    have HM := Aside0.mk hm
    obtain ⟨v0, c0, rfl⟩ := Kd.R_slice hV
    clear hx hd hm hbw hV hB bkr
    by_cases cm : m = true
    ·subst cm
     rw [if_pos rfl] at hS
     obtain ⟨g, hg, hS⟩ := Option.bind_eq_some_iff.mp hS
     by_cases hg0 : g = 0
     ·rw [if_pos hg0] at hS
      cases hS
     rw [if_neg hg0] at hS
     have g1 : (g == 0) = false := beq_eq_false_iff_ne.2 hg0
     have g2 : (g != 0) = true := bne_iff_ne.2 hg0
     have HG := Aside0.mk hg
     have b0 : ∀ o, (wr.alloc o).cell? ⟨w.heap.size, 0, none⟩ = some (.int .i64 b) := fun o => (blk_cell (blk_alloc BKR.out o) 0).trans rfl
     have b1 : ∀ o, (wr.alloc o).cell? ⟨w.heap.size, 1, none⟩ = some (.int .i64 s) := fun o => (blk_cell (blk_alloc BKR.out o) 1).trans rfl
     clear hg
     by_cases hp : wrap64 (Int.tdiv x.f1 g) = 1
     ·rw [if_pos hp] at hS
      have HS := Aside0.mk hS
      have HP := Aside0.mk hp
      clear hS hp
      go_wp2_with (go_at_call 33; (with_reducible refine (impl_row_meets.calls K _ _ _ _ true _ HM.out).mono ?_); rintro e W2 ⟨rfl, hb2⟩; have bkr2 := blk_below (blk_alloc BKR.out _) hb2; have bkx2 := blk_below (blk_new wr _) hb2; have d0 : W2.cell? ⟨w.heap.size, 1, none⟩ = some (.int .i64 s) := (blk_cell bkr2 1).trans rfl; have d1 : W2.cell? ⟨wr.heap.size, 1, none⟩ = some (.int .i64 x.f1) := (blk_cell bkx2 1).trans rfl; have HB2 := Aside0.mk hb2; clear hb2 bkr2 bkx2 b0 b1)
      go_quiet ((go_at_call 25; (with_reducible refine (impl_gcd.calls K _ _ g _ HG.out).mono ?_); rintro e w' ⟨rfl, ⟨nd, rfl⟩⟩; (try first | exact ⟨rfl, _, World.drewN_drewN _ _ _⟩ | exact ⟨rfl, _, Eq.trans (World.drewN_drewN _ _ _) (congrArg (World.drewN _) (Nat.add_assoc _ _ _))⟩)))
      have hp := HP.out
      go_wp2
      go_ret
      refine ⟨?_, pw_below_drewN (below_step (below_alloc HBW.out _) HB2.out) _⟩
      have e0 : o = none := (Option.some.inj HS.out).symm
      have h3 := HH.out
      rw [e0] at h3
      exact congrArg (fun z => Ending.returned (Value.bool z)) (Option.some.inj h3)
     ·obtain ⟨pt, hpt⟩ : ∃ pt, wrap64 (Int.tdiv x.f1 g) = pt := ⟨_, rfl⟩
      rw [hpt] at hS hp
      rw [if_neg hp] at hS
      by_cases hl : left.length < 1000000
      case neg => rw [if_neg hl] at hS; cases hS
      rw [if_pos hl] at hS
      obtain ⟨q, hq, hS⟩ := Option.bind_eq_some_iff.mp hS
      obtain ⟨sm, hsm, hS⟩ := Option.bind_eq_some_iff.mp hS
      have hop1 : ∀ t w, (binOp .quo t (.float .f64 4607182418800017408) (.float .f64 (floatOfInt .f64 pt))).run Try.prog w = .ok (.float .f64 q) w := fun t w => run_float_arith w .quo t .f64 _ _ q hq
      have hop2 : ∀ t w, (binOp .add t (.float .f64 sum) (.float .f64 q)).run Try.prog w = .ok (.float .f64 sm) w := fun t w => run_float_arith w .add t .f64 _ _ sm hsm
      have u3 := Try.underlying3
      have u59 := Try.underlying59
      have HPT := Aside0.mk hpt
      have HS := Aside0.mk hS
      have HL := Aside0.mk hl
      have p1 : (pt == 1) = false := beq_eq_false_iff_ne.2 hp
      clear hS hpt hq hsm hl hp
      go_wp2_with (go_at_call 33; (with_reducible refine (impl_row_meets.calls K _ _ _ _ true _ HM.out).mono ?_); rintro e W2 ⟨rfl, hb2⟩; have bkr2 := blk_below (blk_alloc BKR.out _) hb2; have bkx2 := blk_below (blk_new wr _) hb2; have d0 : W2.cell? ⟨w.heap.size, 1, none⟩ = some (.int .i64 s) := (blk_cell bkr2 1).trans rfl; have d1 : W2.cell? ⟨wr.heap.size, 1, none⟩ = some (.int .i64 x.f1) := (blk_cell bkx2 1).trans rfl; have d2 : W2.cell? ⟨wr.heap.size, 0, none⟩ = some (.int .i64 x.f0) := (blk_cell bkx2 0).trans rfl; have HB2 := Aside0.mk hb2; clear hb2 bkr2 bkx2 b0 b1)
      go_quiet ((go_at_call 25; (with_reducible refine (impl_gcd.calls K _ _ g _ HG.out).mono ?_); rintro e w' ⟨rfl, ⟨nd, rfl⟩⟩; (try first | exact ⟨rfl, _, World.drewN_drewN _ _ _⟩ | exact ⟨rfl, _, Eq.trans (World.drewN_drewN _ _ _) (congrArg (World.drewN _) (Nat.add_assoc _ _ _))⟩)))
      rw [HPT.out]
      have HV2 := Aside0.mk (Kd.R_drewN (Kd.R_below (Kd.R_alloc HV.out (.cells #[.int .i64 x.f0, .int .i64 x.f1] 42)) HB2.out) nq)
      have HB3 := Aside0.mk (pw_below_drewN (below_step (below_alloc HB.out (.cells #[.int .i64 x.f0, .int .i64 x.f1] 42)) HB2.out) nq)
      go_wp2_with ((with_reducible refine gate_builtin (b := .append) (xs := #[.tmp 33, .tmp 35]) rfl ?_); at_builtin; refine Kd.R_append k42 (w0 := w.alloc (.cells #[.int .i64 b, .int .i64 s] 42)) (w.alloc (.cells #[.int .i64 b, .int .i64 s] 42)).heap.size rfl (.tmp 33) (.tmp 35) 37 42 (.agg #[(.int .i64 0), (.int .i64 0)]) 16 rfl Try.underlying37 info42 rfl (by decide) (by omega) (.slice v0 left.length c0) left x [.int .i64 x.f0, .int .i64 x.f1] (fun _ => True) (fun _ => False) rfl rfl ?aP (fun _ hk => hk.elim) (fun _ _ => trivial) ?aO ?aB ?aS ?aL ?_; (case aP => exact k42_mkM _ _ _ _); (case aO => exact HV2.out); (case aB => exact HB3.out); (case aS => exact HB3.out.size); (case aL => have := HL.out; omega); intro v9 w9 ho9 hb9 hg9 hat9; clear hg9 hat9; have HO9 := Aside0.mk ho9; have HB9 := Aside0.mk hb9; clear ho9 hb9)
      all_goals
       go_roundw
       case rel =>
        refine ⟨k + 1, sm, _, left ++ [x], by omega, by go_num, rfl, rfl, ?_, HO9.out, HB9.out⟩
        have h_ := HS.out
        unfold cv_best at h_
        (repeat' split at h_) <;> first | exact h_ | (exfalso; omega) | (exfalso; simp_all; done)
       case measure => simp [intOf]; omega
    ·have cm2 : m = false := Bool.eq_false_iff.2 cm
     subst cm2
     rw [if_neg (by decide)] at hS
     have HS := Aside0.mk hS
     clear hS cm
     have b0 : ∀ o, (wr.alloc o).cell? ⟨w.heap.size, 0, none⟩ = some (.int .i64 b) := fun o => (blk_cell (blk_alloc BKR.out o) 0).trans rfl
     have b1 : ∀ o, (wr.alloc o).cell? ⟨w.heap.size, 1, none⟩ = some (.int .i64 s) := fun o => (blk_cell (blk_alloc BKR.out o) 1).trans rfl
     go_wp2_with (go_at_call 33; (with_reducible refine (impl_row_meets.calls K _ _ _ _ false _ HM.out).mono ?_); rintro e W2 ⟨rfl, hb2⟩; have HB2 := Aside0.mk hb2; clear hb2)
     go_roundw
     case rel => exact ⟨k + 1, sum, best, left, by omega, by go_num, rfl, rfl, HS.out, Kd.R_below (Kd.R_alloc HV.out _) HB2.out, below_step (below_alloc HB.out _) HB2.out⟩
     case measure => simp [intOf]; omega
   ·obtain rfl : k = n := by omega
    rw [List.drop_of_length_le (by rw [HN.out]; omega), cv_scan] at hS
    obtain rfl := Option.some.inj hS
    have h := HH.out
    dsimp only at h
    obtain ⟨v0, c0, rfl⟩ := Kd.R_slice hV
    clear hS hbw hV hB bkr HH HO
    by_cases cl : cv_lss sum 4607182418791010209 = true
    ·rw [if_pos cl] at h
     have c1 : (FloatKind.f64.format.order sum 4607182418791010209 == some Ordering.lt) = true := cl
     obtain rfl := Option.some.inj h
     clear h cl
     go_wp2
     go_ret
     exact ⟨rfl, HBW.out⟩
    ·rw [if_neg cl] at h
     have c1 : (FloatKind.f64.format.order sum 4607182418791010209 == some Ordering.lt) = false := Bool.eq_false_iff.2 cl
     obtain ⟨p, hp, h⟩ := Option.bind_eq_some_iff.mp h
     by_cases hp1 : p ≤ 1000
     case neg => rw [if_neg hp1] at h; cases h
     rw [if_pos hp1] at h
     have HP := Aside0.mk hp
     have HH := Aside0.mk h
     clear h hp cl
     go_wp2_with (go_at_call 41; (with_reducible refine (impl_prime.calls K best p _ HP.out).mono ?_); rintro e w' ⟨rfl, ⟨nd, rfl⟩⟩)
     go_loopw [56] (fun i w2 => ∃ (m : Nat) (j : Int), i = .int .i64 j ∧ 0 ≤ j ∧ CovJ K b s p r left w m j (.slice v0 left.length c0) w2) (fun i _ => (p - intOf i).toNat)
     case atStart => exact ⟨K, 0, rfl, Int.le_refl _, HH.out, Kd.R_drewN HV.out _, pw_below_drewN HB.out _⟩
     case round =>
      obtain ⟨m, j, rfl, hj0, hI⟩ := hrel
      obtain ⟨hS, hV2, hB2⟩ := hI
      cases m with
      | zero => cases hS
      | succ m =>
       rw [cv_loop] at hS
       have bkr2 := blk_below (blk_new w (.cells #[.int .i64 b, .int .i64 s] 42)) hB2
       have b0 := (blk_cell bkr2 0).trans (show _ = some (Value.int .i64 b) from rfl)
       have b1 := (blk_cell bkr2 1).trans (show _ = some (Value.int .i64 s) from rfl)
       have HV2 := Aside0.mk hV2
       have HB2 := Aside0.mk hB2
       clear hV2 hB2 bkr2
       by_cases hjp : j < p
       ·rw [if_pos hjp] at hS
        obtain ⟨c, hc, hS⟩ := Option.bind_eq_some_iff.mp hS
        have HC := Aside0.mk hc
        have HS := Aside0.mk hS
        clear hc hS
        have CC := Aside0.mk (fun W (hw : Kd.C k42 W v0 left.length left) => IH.out _ _ v0 c0 left c W hw (Kd.R_reads' HV2.out).2.1 HC.out)
        by_cases cc : c = true
        ·subst cc
         go_wp2_with (go_at_call 29; (with_reducible refine (CC.out _ (Kd.R_reads' HV2.out).2.2).mono ?_); rintro e w5 ⟨rfl, hb5⟩; have HB5 := Aside0.mk hb5; clear hb5)
         go_roundw
         case rel => exact ⟨m, j + 1, rfl, by omega, by simpa using HS.out, Kd.R_below HV2.out HB5.out, below_step HB2.out HB5.out⟩
         case measure => simp [intOf]; omega
        ·have cc2 : c = false := Bool.eq_false_iff.2 cc
         subst cc2
         go_wp2_with (go_at_call 29; (with_reducible refine (CC.out _ (Kd.R_reads' HV2.out).2.2).mono ?_); rintro e w5 ⟨rfl, hb5⟩; have HB5 := Aside0.mk hb5; clear hb5)
         go_ret
         refine ⟨?_, below_step (below_step (below_alloc (Below.refl _ _) _) HB2.out) HB5.out⟩
         have := HS.out
         rw [if_neg (by decide)] at this
         obtain rfl := Option.some.inj this
         rfl
       ·rw [if_neg hjp] at hS
        obtain rfl := Option.some.inj hS
        clear hS
        go_wp2
        go_ret
        exact ⟨rfl, below_step (below_alloc (Below.refl _ _) _) HB2.out⟩

/-! ### impl_RowsCover: function 13 -/
def impl_RowsCover.f (k : Nat) (l0 : List (List Int)) : Option (Bool) := (impl_rowsOf.f k l0).bind fun bt279 => (if bt279.2 = true then ((impl_moving.f bt279.1).bind fun t283 => ((impl_covered.f k 0 1 t283).bind fun t286 => (some t286))) else (some false))
theorem impl_RowsCover.mono : ∀ a0 k, LeO (impl_RowsCover.f k a0) (impl_RowsCover.f (k + 1) a0) := by
 intro a0 k
 unfold impl_RowsCover.f
 repeat' first
   | (with_reducible exact impl_covered.mono _ _ _ _)
   | (with_reducible exact impl_rowsOf.mono _ _)
   | (with_reducible exact LeO.refl _)
   | (with_reducible exact LeO.none _)
   | (with_reducible refine LeO.ite ?_ ?_)
   | (with_reducible refine LeO.bind ?_ (fun _ => ?_))
   | exact impl_covered.mono _ _ _ _
   | exact impl_rowsOf.mono _ _
   | exact LeO.none _
   | refine LeO.ite ?_ ?_
   | refine LeO.bind ?_ (fun _ => ?_)
set_option maxHeartbeats 8000000 in
set_option maxRecDepth 100000 in
theorem impl_RowsCover.calls (k : Nat) (A0 : Option Addr) (c0 : Nat) (l0 : List (List Int)) (r : Bool) (w : World) (hr0 : Kd.C (Kd.slice 3 (Kd.int .i64)) w A0 l0.length l0) (hc0 : l0.length ≤ c0) (h : impl_RowsCover.f k l0 = some r) :
  Calls Try.prog 13 #[.slice A0 l0.length c0] w fun e w' => e = .returned (.bool r) ∧ Below w.heap.size w w' := by
 have hu42 := Try.underlying42
 have HR0 := Aside0.mk hr0
 have HC0 := Aside0.mk hc0
 clear hr0 hc0
 have HB := Aside0.mk (Below.refl w.heap.size w)
 have H : ((impl_rowsOf.f k l0).bind fun bt279 => (if bt279.2 = true then ((impl_moving.f bt279.1).bind fun t283 => ((impl_covered.f k 0 1 t283).bind fun t286 => (some t286))) else (some false))) = some r := h
 clear h
 replace H := Option.bind_eq_some_iff.mp H
 obtain ⟨⟨t279, t280⟩, A20, H⟩ := H
 replace H : (if t280 = true then ((impl_moving.f t279).bind fun t283 => ((impl_covered.f k 0 1 t283).bind fun t286 => (some t286))) else (some false)) = some r := H
 have A2 := Aside0.mk A20
 clear A20
 by_cases c3 : t280 = true
 ·subst c3
  have H1 : ((impl_moving.f t279).bind fun t283 => ((impl_covered.f k 0 1 t283).bind fun t286 => (some t286))) = some r := by rw [if_pos rfl] at H; exact H
  clear H
  have H := H1
  clear H1
  replace H := Option.bind_eq_some_iff.mp H
  obtain ⟨t283, A40, H⟩ := H
  replace H : ((impl_covered.f k 0 1 t283).bind fun t286 => (some t286)) = some r := H
  have A4 := Aside0.mk A40
  clear A40
  replace H := Option.bind_eq_some_iff.mp H
  obtain ⟨t286, A50, H⟩ := H
  replace H : (some t286) = some r := H
  have A5 := Aside0.mk A50
  clear A50
  obtain rfl := Option.some.inj H
  go_enter Try.func13, Try.ntmps13
  go_wp2_with (first | ((with_reducible refine gate_callee (f := 22) rfl ?_); refine goesL_ (some 7) rfl rfl Try.func22 (by kernel_rfl) rfl #[.slice A0 l0.length c0] rfl (by (try simp only [List.map_toArray, List.map_cons, List.map_nil]); first | done | rfl | (simp only [List.length_drop, List.length_take]; rfl)) ?_; (with_reducible refine (impl_rowsOf.calls k _ _ l0 t279 true _ ?side1 ?side2 A2.out).mono ?_); (case side1 => repeat (first | exact HR0.out | (with_reducible refine Kd.C_alloc ?_ _) | (with_reducible refine Kd.C_drewN ?_ _) | (with_reducible refine Kd.C_drew ?_))); (case side2 => exact HC0.out); rintro e w6 ⟨v281, rfl, ho0, hb⟩; refine ⟨_, rfl, ?_⟩; have n0_ := Aside0.mk (Kd.R_lower ho0 (below_size (by repeat (first | (with_reducible first | exact HB.out | apply below_alloc | apply pw_below_drewN | apply below_drew1) | exact HB.out)))); have n1_ := Aside0.mk (below_step (by repeat (first | (with_reducible first | exact HB.out | apply below_alloc | apply pw_below_drewN | apply below_drew1) | exact HB.out)) hb); clear HB; have HO282 := n0_; have HB := n1_; clear n0_ n1_; (try clear hb); (try clear hb2); (try clear hk); (try clear hi); (try clear ho0); obtain ⟨Ao7, co7, eo7⟩ := Kd.R_slice HO282.out; subst eo7) | (go_at_call 23; (with_reducible refine (impl_moving.calls _ _ t279 t283 _ ?side1 ?side2 A4.out).mono ?_); (case side1 => repeat (first | exact (Kd.R_reads' HO282.out).2.2 | (with_reducible refine Kd.C_alloc ?_ _) | (with_reducible refine Kd.C_drewN ?_ _) | (with_reducible refine Kd.C_drew ?_))); (case side2 => exact (Kd.R_reads' HO282.out).2.1); rintro e w8 ⟨v284, rfl, ho0, hb⟩; have n0_ := Aside0.mk (Kd.R_elder' (by (with_reducible repeat (first | apply Kd.R_alloc | apply Kd.R_drewN | apply Kd.R_drew)); exact HO282.out) (Kd.R_base ho0) hb); have n1_ := Aside0.mk (Kd.R_lower (Kd.R_new' ho0 (Kd.R_lt (by (with_reducible repeat (first | apply Kd.R_alloc | apply Kd.R_drewN | apply Kd.R_drew)); exact HO282.out))) (below_size (by repeat (first | (with_reducible first | exact HB.out | apply below_alloc | apply pw_below_drewN | apply below_drew1) | exact HB.out)))); have n2_ := Aside0.mk (below_step (by repeat (first | (with_reducible first | exact HB.out | apply below_alloc | apply pw_below_drewN | apply below_drew1) | exact HB.out)) hb); clear HO282; clear HB; have HO282 := n0_; have HO285 := n1_; have HB := n2_; clear n0_ n1_ n2_; (try clear hb); (try clear hb2); (try clear hk); (try clear hi); (try clear ho0); obtain ⟨Ao9, co9, eo9⟩ := Kd.R_slice HO285.out; subst eo9) | (go_at_call 29; (with_reducible refine (impl_covered.calls k 0 1 _ _ t283 t286 _ ?side1 ?side2 A5.out).mono ?_); (case side1 => repeat (first | exact (Kd.R_reads' HO285.out).2.2 | (with_reducible refine Kd.C_alloc ?_ _) | (with_reducible refine Kd.C_drewN ?_ _) | (with_reducible refine Kd.C_drew ?_))); (case side2 => exact (Kd.R_reads' HO285.out).2.1); rintro e w10 ⟨rfl, hb⟩; have n0_ := Aside0.mk (Kd.R_below (by (with_reducible repeat (first | apply Kd.R_alloc | apply Kd.R_drewN | apply Kd.R_drew)); exact HO282.out) hb); have n1_ := Aside0.mk (Kd.R_below (by (with_reducible repeat (first | apply Kd.R_alloc | apply Kd.R_drewN | apply Kd.R_drew)); exact HO285.out) hb); have n2_ := Aside0.mk (below_step (by repeat (first | (with_reducible first | exact HB.out | apply below_alloc | apply pw_below_drewN | apply below_drew1) | exact HB.out)) hb); clear HO282; clear HO285; clear HB; have HO282 := n0_; have HO285 := n1_; have HB := n2_; clear n0_ n1_ n2_; (try clear hb); (try clear hb2); (try clear hk); (try clear hi)))
  go_ret
  exact ⟨by first | rfl | (simp [errW_none, errW_some] <;> rfl) | (simp [*, errW_none, errW_some] <;> rfl), by repeat (first | (with_reducible first | exact HB.out | apply below_alloc | apply pw_below_drewN | apply below_drew1) | exact HB.out)⟩
 ·replace c3 := Bool.eq_false_iff.mpr c3
  subst c3
  have H1 : (some false) = some r := by rw [if_neg (show ¬ (false = true) by decide)] at H; exact H
  clear H
  have H := H1
  clear H1
  obtain rfl := Option.some.inj H
  go_enter Try.func13, Try.ntmps13
  go_wp2_with (first | ((with_reducible refine gate_callee (f := 22) rfl ?_); refine goesL_ (some 7) rfl rfl Try.func22 (by kernel_rfl) rfl #[.slice A0 l0.length c0] rfl (by (try simp only [List.map_toArray, List.map_cons, List.map_nil]); first | done | rfl | (simp only [List.length_drop, List.length_take]; rfl)) ?_; (with_reducible refine (impl_rowsOf.calls k _ _ l0 t279 false _ ?side1 ?side2 A2.out).mono ?_); (case side1 => repeat (first | exact HR0.out | (with_reducible refine Kd.C_alloc ?_ _) | (with_reducible refine Kd.C_drewN ?_ _) | (with_reducible refine Kd.C_drew ?_))); (case side2 => exact HC0.out); rintro e w11 ⟨v281, rfl, ho0, hb⟩; refine ⟨_, rfl, ?_⟩; have n0_ := Aside0.mk (Kd.R_lower ho0 (below_size (by repeat (first | (with_reducible first | exact HB.out | apply below_alloc | apply pw_below_drewN | apply below_drew1) | exact HB.out)))); have n1_ := Aside0.mk (below_step (by repeat (first | (with_reducible first | exact HB.out | apply below_alloc | apply pw_below_drewN | apply below_drew1) | exact HB.out)) hb); clear HB; have HO282 := n0_; have HB := n1_; clear n0_ n1_; (try clear hb); (try clear hb2); (try clear hk); (try clear hi); (try clear ho0)))
  go_ret
  exact ⟨by first | rfl | (simp [errW_none, errW_some] <;> rfl) | (simp [*, errW_none, errW_some] <;> rfl), by repeat (first | (with_reducible first | exact HB.out | apply below_alloc | apply pw_below_drewN | apply below_drew1) | exact HB.out)⟩

end Go.Proofs.Ytdiaifmlockohaa.G
