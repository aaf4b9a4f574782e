-- Made by gprint.py (the kit's print with contracts of this session's own among its functions).
import Derived.Test.YtijmkmbepjjphaaG0
import Derived.Test.YtijmkmbepjjphaaG1
import Derived.Test.YtijmkmbepjjphaaG2
namespace Go.Proofs.Ytijmkmbepjjphaa.G
open Go.RowKit Go.Proofs.YtijmkmbepjjphaaW.PrintWords Go.Proofs.YtijmkmbepjjphaaW.PrintLast Go.Proofs.YtijmkmbepjjphaaW.PrintMore
attribute [local go_sem] max2_int min2_int max_two min_two max_three min_three max_four min_four   -- for this text's walks alone
set_option linter.unusedVariables false
set_option linter.unusedSimpArgs false

/-! ### impl_TermHas: function 11 -/
namespace X
/-- Which operations have come up: the bits of b. -/
def ms (n b : Nat) : Array Bool := ((List.range n).map fun i => b.testBit i).toArray
/-- The marks xs lie in the array at block g. -/
def Arr (w : World) (g : Nat) (xs : List Bool) : Prop := w.heap[g]? = some (.cells (xs.map Value.bool).toArray 54 (0, 0))
theorem Arr.below {w w' : World} {g : Nat} {xs : List Bool} (h : Arr w g xs) (hb : Below w.heap.size w w') : Arr w' g xs := blk_below h hb
theorem Arr.cell {w : World} {g : Nat} {xs : List Bool} (h : Arr w g xs) {i : Nat} (hi : i < xs.length) {b : Bool} (hb : xs.getD i false = b) : w.cell? ⟨g, i, none⟩ = some (.bool b) := by
 rw [blk_cell h i]
 rw [List.getD_eq_getElem?_getD, List.getElem?_eq_getElem hi, Option.getD_some] at hb
 simp [hi, hb]
theorem Arr.frozen {w : World} {g : Nat} {xs : List Bool} (h : Arr w g xs) (i : Nat) : w.frozen? ⟨g, i, none⟩ = false := blk_frozen h i
theorem Arr.set {w : World} {g : Nat} {xs : List Bool} (h : Arr w g xs) (i : Nat) (b : Bool) : Arr (w.setCell ⟨g, i, none⟩ (.bool b)) g (xs.set i b) := by
 have := blk_set h i (.bool b)
 unfold Arr
 rw [this, List.map_set]
 simp
theorem nm_info : (Try.prog.info? 54).map (fun i => i.zero) = some (some (.agg (List.replicate 201 false |>.map Value.bool).toArray)) := by kernel_rfl
theorem nm_z : ∃ Z : Array Value, Z = ((List.replicate 201 false).map Value.bool).toArray ∧ (∀ w : World, (zeroValue 54).run Try.prog w = .ok (.agg Z) w) ∧ (Z = #[]) = False := by
 have h := nm_info
 obtain ⟨Z, hZ⟩ : ∃ Z : Array Value, Z = ((List.replicate 201 false).map Value.bool).toArray := ⟨_, rfl⟩
 rw [← hZ] at h
 refine ⟨Z, hZ, fun w => ?_, eq_false (fun e => ?_)⟩
 ·clear hZ
  obtain ⟨i, hi, hz⟩ := Option.map_eq_some_iff.1 h
  simp [zeroValue, typeInfo, hi, hz]
 ·have := congrArg Array.size (hZ.symm.trans e)
  rw [List.size_toArray, List.length_map, List.length_replicate] at this
  exact absurd this (by decide)
set_option maxHeartbeats 4000000 in
set_option maxRecDepth 100000 in
theorem nm_zero (w : World) : Calls Try.prog 28 #[] w fun e w' => e = .returned (.pointer (some ⟨w.heap.size, 0, none⟩)) ∧ Arr w' w.heap.size (true :: List.replicate 200 false) ∧ Below w.heap.size w w' := by
 have hu_ := Try.underlying54
 have hv_ := Try.underlying53
 obtain ⟨Z, hZ, hz, hne⟩ := nm_z
 have HZ := Aside0.mk hZ
 clear hZ
 go_enter Try.func28, Try.ntmps28
 go_wp2
 go_ret
 refine ⟨rfl, ?_, below_a1 _ _⟩
 have := blk_new w (.cells (Z.setIfInBounds 0 (Value.bool true)) 54 (0, 0))
 unfold Arr
 rw [this, HZ.out]
 rfl
def mkb (xs : List Bool) (i : Nat) : Bool := xs.getD i false
/-- The sums of two sets of numbers. -/
def sumB (a b : Nat → Bool) (n : Nat) : Bool := (List.range (n + 1)).any fun i => a i && b (n - i)
theorem sumB_iff {a b : Nat → Bool} {n : Nat} : sumB a b n = true ↔ ∃ j, j ≤ n ∧ a j = true ∧ b (n - j) = true := by
 unfold sumB
 rw [List.any_eq_true]
 constructor
 ·rintro ⟨j, hj, h⟩
  rw [Bool.and_eq_true] at h
  exact ⟨j, by have := List.mem_range.1 hj; omega, h⟩
 ·rintro ⟨j, hj, h⟩
  exact ⟨j, List.mem_range.2 (by omega), by rw [Bool.and_eq_true]; exact h⟩
theorem mkb_set {xs : List Bool} {i n : Nat} {b : Bool} (hi : i < xs.length) : mkb (xs.set i b) n = if n = i then b else mkb xs n := by
 unfold mkb
 rw [List.getD_eq_getElem?_getD, List.getD_eq_getElem?_getD]
 by_cases h : n = i
 ·subst h
  rw [if_pos rfl, List.getElem?_set_self hi]
  rfl
 ·rw [if_neg h, List.getElem?_set_ne (Ne.symm h)]
def PlusO (a b : Nat → Bool) (i : Nat) (out : List Bool) : Prop := out.length = 201 ∧ ∀ n, n < 201 → (mkb out n = true ↔ ∃ j, j < i ∧ j ≤ n ∧ a j = true ∧ b (n - j) = true)
def PlusI (a b : Nat → Bool) (i k : Nat) (out : List Bool) : Prop := out.length = 201 ∧ ∀ n, n < 201 → (mkb out n = true ↔ (∃ j, j < i ∧ j ≤ n ∧ a j = true ∧ b (n - j) = true) ∨ (i ≤ n ∧ n < i + k ∧ b (n - i) = true))
theorem O_start (a b : Nat → Bool) : PlusO a b 0 (List.replicate 201 false) := by
 refine ⟨List.length_replicate, fun n hn => ⟨fun h => ?_, fun ⟨j, hj, _⟩ => absurd hj (by omega)⟩⟩
 have : mkb (List.replicate 201 false) n = false := by
  unfold mkb
  rw [List.getD_eq_getElem?_getD, List.getElem?_replicate]
  split <;> rfl
 rw [this] at h
 cases h
theorem I_start {a b : Nat → Bool} {i : Nat} {out : List Bool} (h : PlusO a b i out) : PlusI a b i 0 out :=
 ⟨h.1, fun n hn => (h.2 n hn).trans ⟨.inl, fun h => h.elim id (fun ⟨h1, h2, _⟩ => absurd h1 (by omega))⟩⟩
theorem I_step {a b : Nat → Bool} {i k : Nat} {out : List Bool} (h : PlusI a b i k out) (hk : i + k < 201) : PlusI a b i (k + 1) (out.set (i + k) (mkb out (i + k) || b k)) := by
 refine ⟨by rw [List.length_set]; exact h.1, fun n hn => ?_⟩
 rw [mkb_set (by rw [h.1]; exact hk)]
 by_cases e : n = i + k
 ·subst e
  rw [if_pos rfl, Bool.or_eq_true, h.2 _ hn]
  constructor
  ·rintro ((h1 | ⟨_, h2, _⟩) | h1)
   ·exact .inl h1
   ·omega
   ·exact .inr ⟨by omega, by omega, by rw [Nat.add_sub_cancel_left]; exact h1⟩
  ·rintro (h1 | ⟨_, _, h3⟩)
   ·exact .inl (.inl h1)
   ·rw [Nat.add_sub_cancel_left] at h3
    exact .inr h3
 ·rw [if_neg e, h.2 n hn]
  constructor
  ·rintro (h1 | ⟨h1, h2, h3⟩)
   ·exact .inl h1
   ·exact .inr ⟨h1, by omega, h3⟩
  ·rintro (h1 | ⟨h1, h2, h3⟩)
   ·exact .inl h1
   ·exact .inr ⟨h1, by omega, h3⟩
theorem O_off {a b : Nat → Bool} {i : Nat} {out : List Bool} (h : PlusO a b i out) (ha : a i = false) : PlusO a b (i + 1) out := by
 refine ⟨h.1, fun n hn => (h.2 n hn).trans ⟨fun ⟨j, h1, h2⟩ => ⟨j, by omega, h2⟩, fun ⟨j, h1, h2, h3, h4⟩ => ?_⟩⟩
 by_cases e : j = i
 ·subst e
  rw [ha] at h3
  cases h3
 ·exact ⟨j, by omega, h2, h3, h4⟩
theorem O_on {a b : Nat → Bool} {i k : Nat} {out : List Bool} (h : PlusI a b i k out) (hk : i + k = 201) (ha : a i = true) : PlusO a b (i + 1) out := by
 refine ⟨h.1, fun n hn => (h.2 n hn).trans ⟨?_, fun ⟨j, h1, h2, h3, h4⟩ => ?_⟩⟩
 ·rintro (⟨j, h1, h2⟩ | ⟨h1, h2, h3⟩)
  ·exact ⟨j, by omega, h2⟩
  ·exact ⟨i, by omega, h1, ha, h3⟩
 ·by_cases e : j = i
  ·subst e
   exact .inr ⟨h2, by omega, h4⟩
  ·exact .inl ⟨j, by omega, h2, h3, h4⟩
theorem O_end {a b : Nat → Bool} {out : List Bool} (h : PlusO a b 201 out) : ∀ n, n < 201 → mkb out n = sumB a b n := by
 intro n hn
 rw [Bool.eq_iff_iff, h.2 n hn, sumB_iff]
 exact ⟨fun ⟨j, _, h2⟩ => ⟨j, h2⟩, fun ⟨j, h2⟩ => ⟨j, by omega, h2⟩⟩
def NmO (xs ys : List Bool) (w : World) (i : Nat) (out : List Bool) (wr : World) : Prop := PlusO (mkb xs) (mkb ys) i out ∧ Arr wr w.heap.size out ∧ Below w.heap.size w wr
def NmI (xs ys : List Bool) (w : World) (i k : Nat) (out : List Bool) (wr : World) : Prop := PlusI (mkb xs) (mkb ys) i k out ∧ Arr wr w.heap.size out ∧ Below w.heap.size w wr
def pl8.T : Bool × List (List Nat × List Nat) := (true, [([], []), ([], []), ([], []), ([1, 2], [1, 2]), ([], []), ([], []), ([], []), ([5, 6], [5, 6]), ([4], [4]), ([8, 7], [7, 8]), ([9], [9]), ([10], [10]), ([11], [11]), ([11], [11]), ([12, 11], [11, 12]), ([14, 13, 11], [11, 13, 14]), ([15, 11], [11, 15]), ([11, 16], [11, 16]), ([0], [0]), ([18, 3, 0, 1, 2, 3, 4, 5, 6, 7, 8, 9, 10, 11, 12, 13, 14, 15, 16, 17], [3, 18]), ([19, 17, 11, 0, 1, 2, 3, 4, 5, 6, 7, 8, 9, 10, 11, 12, 13, 14, 15, 16, 17], [17, 19])])
def pl8.B : List Nat := [0, 0, 0, 6, 0, 0, 0, 96, 16, 496, 1008, 2032, 4080, 4080, 8176, 32752, 65520, 131056, 1, 524287, 1048575]
theorem pl8.tab : rtab .any (opsOf Try.f30 8) = pl8.T := by kernel_rfl
theorem pl8.bits : waitsOk pl8.T.2 pl8.B = true := by kernel_rfl
set_option maxHeartbeats 8000000 in
set_option maxRecDepth 100000 in
theorem nm_plus (xs ys : List Bool) (g h : Nat) (w : World) (hA : Arr w g xs) (hB : Arr w h ys) (hx : xs.length = 201) (hy : ys.length = 201) :
  Calls Try.prog 30 #[.pointer (some ⟨g, 0, none⟩), .pointer (some ⟨h, 0, none⟩)] w fun e w' => (∃ r zs, e = .returned (.pointer (some ⟨r, 0, none⟩)) ∧ w.heap.size ≤ r ∧ Arr w' r zs ∧ zs.length = 201 ∧ ∀ n, n < 201 → mkb zs n = sumB (mkb xs) (mkb ys) n) ∧ Below w.heap.size w w' := by
 have hu_ := Try.underlying54
 have hv_ := Try.underlying53
 obtain ⟨Z, hZ, hz, hne⟩ := nm_z
 have HZ : Aside0 (Arr (w.alloc (.cells Z 54 (0, 0))) w.heap.size (List.replicate 201 false)) := ⟨by unfold Arr; rw [blk_new, hZ]⟩
 have HA := Aside0.mk hA
 have HB := Aside0.mk hB
 have HX := Aside0.mk hx
 have HY := Aside0.mk hy
 have mixed : Try.prog.follows Departure.mixedOrders = true := by kernel_rfl
 clear hZ hA hB hx hy
 go_enter Try.func30, Try.ntmps30
 go_wp2
 go_loopw [12] (fun v12 wr => ∃ (i : Nat) (out : List Bool), i ≤ 201 ∧ v12 = .int .i64 i ∧ NmO xs ys w i out wr) (fun v12 _ => 201 - (intOf v12).toNat)
 case atStart => exact ⟨0, _, by omega, rfl, O_start _ _, HZ.out, below_a1 _ _⟩
 case round =>
  obtain ⟨i, out, hi, rfl, hN⟩ := hrel
  have HN := Aside0.mk hN
  clear hN HZ
  by_cases hlt : i < 201
  ·have k1 : decide ((i : Int) < 201) = true := decide_eq_true (by omega)
   have k2 : (i : Int) < 201 := by omega
   obtain ⟨ai, eai⟩ : ∃ b, mkb xs i = b := ⟨_, rfl⟩
   have cA := Arr.cell (Arr.below HA.out HN.out.2.2) (i := i) (by rw [HX.out]; exact hlt) eai
   have EA := Aside0.mk eai
   have HI := Aside0.mk hlt
   clear eai hlt hi
   cases ai with
   | false =>
    go_wp2
    go_quiet (fail)
    have HN2 : Aside0 (NmO xs ys w (i + 1) out (wr.drewN nq)) := ⟨O_off HN.out.1 EA.out, Arr.below HN.out.2.1 (below_drewN' _ _), below_step HN.out.2.2 (below_drewN' _ _)⟩
    generalize wr.drewN nq = W0 at HN2 ⊢
    go_wp2
    go_loopw [8] (fun v8 wr2 => v8 = .int .i64 0 ∧ wr2 = W0) (fun _ _ => 0)
    case atStart => exact ⟨rfl, rfl⟩
    case round =>
     obtain ⟨rfl, rfl⟩ := hrel
     go_wp2
     go_roundw
     case rel => exact ⟨i + 1, out, by have := HI.out; omega, by go_num, HN2.out⟩
     case measure => have := HI.out; simp [intOf]; omega
   | true =>
    go_wp2
    go_quiet (fail)
    have HN2 : Aside0 (NmI xs ys w i 0 out (wr.drewN nq)) := ⟨I_start HN.out.1, Arr.below HN.out.2.1 (below_drewN' _ _), below_step HN.out.2.2 (below_drewN' _ _)⟩
    generalize wr.drewN nq = W0 at HN2 ⊢
    go_wp2
    go_loopw [8] (fun v8 wr2 => ∃ (k : Nat) (o2 : List Bool), i + k ≤ 201 ∧ v8 = .int .i64 k ∧ NmI xs ys w i k o2 wr2) (fun v8 _ => 201 - (intOf v8).toNat)
    case atStart => exact ⟨0, out, by have := HI.out; omega, rfl, HN2.out⟩
    case round =>
     obtain ⟨k, o2, hk, rfl, hJ⟩ := hrel
     have HJ := Aside0.mk hJ
     clear hJ HN2
     by_cases hlk : i + k < 201
     ·have k3 : decide ((i : Int) + (k : Int) ≤ 200) = true := decide_eq_true (by omega)
      have k4 : (i : Int) + (k : Int) ≤ 200 := by omega
      have hw : wrap64 ((i : Int) + (k : Int)) = (i : Int) + (k : Int) := by unfold wrap64; omega
      have hw2 : IntKind.i64.wrap ((i : Int) + (k : Int)) = (i : Int) + (k : Int) := by rw [i64_w]; exact hw
      have k7 : (0 : Int) ≤ (i : Int) + (k : Int) := by omega
      have k8 : (i : Int) + (k : Int) < 201 := by omega
      have k9 : ((i : Int) + (k : Int)).toNat = i + k := by omega
      obtain ⟨ob, eob⟩ : ∃ b, mkb o2 (i + k) = b := ⟨_, rfl⟩
      obtain ⟨bk, ebk⟩ : ∃ b, mkb ys k = b := ⟨_, rfl⟩
      have cO := Arr.cell HJ.out.2.1 (i := i + k) (by rw [HJ.out.1.1]; exact hlk) eob
      have cB := Arr.cell (Arr.below HB.out HJ.out.2.2) (i := k) (by rw [HY.out]; omega) ebk
      have HD : Aside0 (NmI xs ys w i k o2 wr.drew) := ⟨HJ.out.1, Arr.below HJ.out.2.1 (below_drew1 (Below.refl _ _)), below_drew1 HJ.out.2.2⟩
      have EO := Aside0.mk eob
      have EB := Aside0.mk ebk
      have HK := Aside0.mk hlk
      have k6 : (k : Int) < 201 := by omega
      clear eob ebk
      go_wp2
      cases ob with
      | true =>
       refine start_ (n := 21) (S := fun w' => w'.cell? ⟨w.heap.size, i + k, none⟩ = some (.bool true) ∧ w'.cell? ⟨h, k, none⟩ = some (.bool bk)) (ds := [20]) (ms 21 0) (by kernel_rfl) rfl (by kernel_rfl) ⟨cO, cB⟩ (fun hHeld => ?_); refine with_tabW pl8.tab pl8.bits (fun HT_ HW_ => ?_)
       generalize wr.drew = wd at hHeld HD ⊢
       have fO := Arr.frozen HD.out.2.1 (i + k)
       have cO2 := hHeld.1
       refine pure_ (i := 0) (N := some 27) (v := ?_) (a' := ?_) (ms 21 1) rfl rfl (any_of HT_.out (by kernel_rfl)) (fun _ _ _ h => h) (Or.inl ⟨by rfl, ?_⟩) ?_ ?_
       rotate_left
       ·intro w'
        go_simp
        with_reducible rfl
       rotate_left
       ·simp only [Act.put, List.setIfInBounds_toArray, List.set_cons_zero, List.set_cons_succ, i64_w, i32_w]
        rfl
       refine pure_ (i := 1) (N := some 28) (v := ?_) (a' := ?_) (ms 21 3) rfl rfl (any_of HT_.out (by kernel_rfl)) (fun _ _ _ h => h) (Or.inl ⟨by rfl, ?_⟩) ?_ ?_
       rotate_left
       ·intro w'
        go_simp
        with_reducible rfl
       rotate_left
       ·simp only [Act.put, List.setIfInBounds_toArray, List.set_cons_zero, List.set_cons_succ, i64_w, i32_w]
        rfl
       refine pure_ (i := 2) (N := some 29) (v := ?_) (a' := ?_) (ms 21 7) rfl rfl (any_of HT_.out (by kernel_rfl)) (fun _ _ _ h => h) (Or.inl ⟨by rfl, ?_⟩) ?_ ?_
       rotate_left
       ·intro w'
        go_simp
        with_reducible rfl
       rotate_left
       ·simp only [Act.put, List.setIfInBounds_toArray, List.set_cons_zero, List.set_cons_succ, i64_w, i32_w]
        rfl
       refine pure_ (i := 3) (N := some 30) (v := ?_) (a' := ?_) (ms 21 15) rfl rfl (any_of HT_.out (by kernel_rfl)) (fun _ _ _ h => h) (Or.inl ⟨by rfl, ?_⟩) ?_ ?_
       rotate_left
       ·intro w'
        go_simp
        with_reducible rfl
       rotate_left
       ·simp only [Act.put, List.setIfInBounds_toArray, List.set_cons_zero, List.set_cons_succ, i64_w, i32_w]
        rfl
       refine pure_ (i := 4) (N := some 31) (v := ?_) (a' := ?_) (ms 21 31) rfl rfl (any_of HT_.out (by kernel_rfl)) (fun _ _ _ h => h) (Or.inl ⟨by rfl, ?_⟩) ?_ ?_
       rotate_left
       ·intro w'
        go_simp
        with_reducible rfl
       rotate_left
       ·simp only [Act.put, List.setIfInBounds_toArray, List.set_cons_zero, List.set_cons_succ, i64_w, i32_w]
        rfl
       refine pure_ (i := 5) (N := some 32) (v := ?_) (a' := ?_) (ms 21 63) rfl rfl (any_of HT_.out (by kernel_rfl)) (fun _ _ _ h => h) (Or.inl ⟨by rfl, ?_⟩) ?_ ?_
       rotate_left
       ·intro w'
        go_simp
        with_reducible rfl
       rotate_left
       ·simp only [Act.put, List.setIfInBounds_toArray, List.set_cons_zero, List.set_cons_succ, i64_w, i32_w]
        rfl
       refine pure_ (i := 6) (N := some 33) (v := ?_) (a' := ?_) (ms 21 127) rfl rfl (any_of HT_.out (by kernel_rfl)) (fun _ _ _ h => h) (Or.inl ⟨by rfl, ?_⟩) ?_ ?_
       rotate_left
       ·intro w'
        go_simp
        with_reducible rfl
       rotate_left
       ·simp only [Act.put, List.setIfInBounds_toArray, List.set_cons_zero, List.set_cons_succ, i64_w, i32_w]
        rfl
       refine pure_ (i := 7) (N := some 34) (v := ?_) (a' := ?_) (ms 21 255) rfl rfl (any_of HT_.out (by kernel_rfl)) (fun _ _ _ h => h) (Or.inl ⟨by rfl, ?_⟩) ?_ ?_
       rotate_left
       ·intro w'
        go_simp
        with_reducible rfl
       rotate_left
       ·simp only [Act.put, List.setIfInBounds_toArray, List.set_cons_zero, List.set_cons_succ, i64_w, i32_w]
        rfl
       refine pure_ (i := 8) (N := some 35) (v := ?_) (a' := ?_) (ms 21 511) rfl rfl (any_of HT_.out (by kernel_rfl)) (fun _ _ _ h => h) (Or.inl ⟨by rfl, ?_⟩) ?_ ?_
       rotate_left
       ·intro w'
        go_simp
        with_reducible rfl
       rotate_left
       ·simp only [Act.put, List.setIfInBounds_toArray, List.set_cons_zero, List.set_cons_succ, i64_w, i32_w]
        rfl
       refine pure_ (i := 9) (N := some 36) (v := ?_) (a' := ?_) (ms 21 1023) rfl rfl (any_of HT_.out (by kernel_rfl)) (fun _ _ _ h => h) (Or.inl ⟨by rfl, ?_⟩) ?_ ?_
       rotate_left
       ·intro w'
        go_simp
        with_reducible rfl
       rotate_left
       ·simp only [Act.put, List.setIfInBounds_toArray, List.set_cons_zero, List.set_cons_succ, i64_w, i32_w]
        rfl
       refine take_ (i := 10) (N := some 37) (v := ?_) (a' := ?_) (ms 21 2047) rfl rfl (take_ofW HT_.out HW_.out (by kernel_rfl)) (fun _ _ _ h => h) (Or.inl ⟨by rfl, ?_⟩) hHeld ?_ ?_
       rotate_left
       ·intro w' hS
        obtain ⟨s0, s1⟩ := hS
        go_simp
        with_reducible rfl
       rotate_left
       ·simp only [Act.put, List.setIfInBounds_toArray, List.set_cons_zero, List.set_cons_succ, i64_w, i32_w]
        rfl
       refine pure_ (i := 11) (N := some 38) (v := ?_) (a' := ?_) (ms 21 4095) rfl rfl (any_of HT_.out (by kernel_rfl)) (fun _ _ _ h => h) (Or.inl ⟨by rfl, ?_⟩) ?_ ?_
       rotate_left
       ·intro w'
        go_simp
        with_reducible rfl
       rotate_left
       ·simp only [Act.put, List.setIfInBounds_toArray, List.set_cons_zero, List.set_cons_succ, i64_w, i32_w]
        rfl
       refine pure_ (i := 12) (N := some 39) (v := undef) (a' := ?_) (ms 21 8191) rfl rfl (any_of HT_.out (by kernel_rfl)) (fun _ _ _ h => h) (Or.inr ⟨by rfl, rfl⟩) ?_ ?_
       rotate_left
       ·simp only [Act.put, List.setIfInBounds_toArray, List.set_cons_zero, List.set_cons_succ, i64_w, i32_w]
        rfl
       refine pure_ (i := 13) (N := some 40) (v := undef) (a' := ?_) (ms 21 16383) rfl rfl (any_of HT_.out (by kernel_rfl)) (fun _ _ _ h => h) (Or.inr ⟨by rfl, rfl⟩) ?_ ?_
       rotate_left
       ·simp only [Act.put, List.setIfInBounds_toArray, List.set_cons_zero, List.set_cons_succ, i64_w, i32_w]
        rfl
       refine pure_ (i := 14) (N := some 41) (v := undef) (a' := ?_) (ms 21 32767) rfl rfl (any_of HT_.out (by kernel_rfl)) (fun _ _ _ h => h) (Or.inr ⟨by rfl, rfl⟩) ?_ ?_
       rotate_left
       ·simp only [Act.put, List.setIfInBounds_toArray, List.set_cons_zero, List.set_cons_succ, i64_w, i32_w]
        rfl
       refine pure_ (i := 15) (N := some 42) (v := undef) (a' := ?_) (ms 21 65535) rfl rfl (any_of HT_.out (by kernel_rfl)) (fun _ _ _ h => h) (Or.inr ⟨by rfl, rfl⟩) ?_ ?_
       rotate_left
       ·simp only [Act.put, List.setIfInBounds_toArray, List.set_cons_zero, List.set_cons_succ, i64_w, i32_w]
        rfl
       refine pure_ (i := 16) (N := some 43) (v := undef) (a' := ?_) (ms 21 131071) rfl rfl (any_of HT_.out (by kernel_rfl)) (fun _ _ _ h => h) (Or.inr ⟨by rfl, rfl⟩) ?_ ?_
       rotate_left
       ·simp only [Act.put, List.setIfInBounds_toArray, List.set_cons_zero, List.set_cons_succ, i64_w, i32_w]
        rfl
       refine pure_ (i := 17) (N := some 44) (v := ?_) (a' := ?_) (ms 21 262143) rfl rfl (any_of HT_.out (by kernel_rfl)) (fun _ _ _ h => h) (Or.inl ⟨by rfl, ?_⟩) ?_ ?_
       rotate_left
       ·intro w'
        go_simp
        with_reducible rfl
       rotate_left
       ·simp only [Act.put, List.setIfInBounds_toArray, List.set_cons_zero, List.set_cons_succ, i64_w, i32_w]
        rfl
       refine pure_ (i := 18) (N := some 45) (v := ?_) (a' := ?_) (ms 21 524287) rfl rfl (any_of HT_.out (by kernel_rfl)) (fun _ _ _ h => h) (Or.inl ⟨by rfl, ?_⟩) ?_ ?_
       rotate_left
       ·intro w'
        go_simp
        with_reducible rfl
       rotate_left
       ·simp only [Act.put, List.setIfInBounds_toArray, List.set_cons_zero, List.set_cons_succ, i64_w, i32_w]
        rfl
       refine pure_ (i := 19) (N := some 46) (v := ?_) (a' := ?_) (ms 21 1048575) rfl rfl (any_of HT_.out (by kernel_rfl)) (fun _ _ _ h => h) (Or.inl ⟨by rfl, ?_⟩) ?_ ?_
       rotate_left
       ·intro w'
        go_simp
        with_reducible rfl
       rotate_left
       ·simp only [Act.put, List.setIfInBounds_toArray, List.set_cons_zero, List.set_cons_succ, i64_w, i32_w]
        rfl
       refine last_ (i := 20) (N := none) (ms 21 2097151) rfl rfl (one_of HT_.out (by kernel_rfl)) (by decide) (fun K hK => ?_)
       refine skip_ (w1 := (wd.setCell ⟨w.heap.size, i + k, none⟩ (.bool true))) (by rfl) rfl ?_ ?_
       ·first | (go_simp; done) | (go_simp; rfl)
       refine hK.out _ _ ?_
       clear hK K
       refine done_ (done_of HT_.out (by kernel_rfl)) ?_
       have HS : Aside0 (NmI xs ys w i (k + 1) (o2.set (i + k) true) (wd.setCell ⟨w.heap.size, i + k, none⟩ (.bool true))) := ⟨(by have h_ := I_step HD.out.1 HK.out; rw [EO.out, EB.out] at h_; simpa using h_), Arr.set HD.out.2.1 _ _, below_set HD.out.2.2 (Nat.le_refl _)⟩
       clear hHeld HT_ HW_ fO cO2 HD
       go_wp2
       go_roundw
       case rel => exact ⟨k + 1, _, by have := HK.out; omega, by go_num, HS.out⟩
       case measure => have := HK.out; simp [intOf]; omega
      | false =>
       refine start_ (n := 21) (S := fun w' => w'.cell? ⟨w.heap.size, i + k, none⟩ = some (.bool false) ∧ w'.cell? ⟨h, k, none⟩ = some (.bool bk)) (ds := [20]) (ms 21 0) (by kernel_rfl) rfl (by kernel_rfl) ⟨cO, cB⟩ (fun hHeld => ?_); refine with_tabW pl8.tab pl8.bits (fun HT_ HW_ => ?_)
       generalize wr.drew = wd at hHeld HD ⊢
       have fO := Arr.frozen HD.out.2.1 (i + k)
       have cO2 := hHeld.1
       refine pure_ (i := 0) (N := some 27) (v := ?_) (a' := ?_) (ms 21 1) rfl rfl (any_of HT_.out (by kernel_rfl)) (fun _ _ _ h => h) (Or.inl ⟨by rfl, ?_⟩) ?_ ?_
       rotate_left
       ·intro w'
        go_simp
        with_reducible rfl
       rotate_left
       ·simp only [Act.put, List.setIfInBounds_toArray, List.set_cons_zero, List.set_cons_succ, i64_w, i32_w]
        rfl
       refine pure_ (i := 1) (N := some 28) (v := ?_) (a' := ?_) (ms 21 3) rfl rfl (any_of HT_.out (by kernel_rfl)) (fun _ _ _ h => h) (Or.inl ⟨by rfl, ?_⟩) ?_ ?_
       rotate_left
       ·intro w'
        go_simp
        with_reducible rfl
       rotate_left
       ·simp only [Act.put, List.setIfInBounds_toArray, List.set_cons_zero, List.set_cons_succ, i64_w, i32_w]
        rfl
       refine pure_ (i := 2) (N := some 29) (v := ?_) (a' := ?_) (ms 21 7) rfl rfl (any_of HT_.out (by kernel_rfl)) (fun _ _ _ h => h) (Or.inl ⟨by rfl, ?_⟩) ?_ ?_
       rotate_left
       ·intro w'
        go_simp
        with_reducible rfl
       rotate_left
       ·simp only [Act.put, List.setIfInBounds_toArray, List.set_cons_zero, List.set_cons_succ, i64_w, i32_w]
        rfl
       refine pure_ (i := 3) (N := some 30) (v := ?_) (a' := ?_) (ms 21 15) rfl rfl (any_of HT_.out (by kernel_rfl)) (fun _ _ _ h => h) (Or.inl ⟨by rfl, ?_⟩) ?_ ?_
       rotate_left
       ·intro w'
        go_simp
        with_reducible rfl
       rotate_left
       ·simp only [Act.put, List.setIfInBounds_toArray, List.set_cons_zero, List.set_cons_succ, i64_w, i32_w]
        rfl
       refine pure_ (i := 4) (N := some 31) (v := ?_) (a' := ?_) (ms 21 31) rfl rfl (any_of HT_.out (by kernel_rfl)) (fun _ _ _ h => h) (Or.inl ⟨by rfl, ?_⟩) ?_ ?_
       rotate_left
       ·intro w'
        go_simp
        with_reducible rfl
       rotate_left
       ·simp only [Act.put, List.setIfInBounds_toArray, List.set_cons_zero, List.set_cons_succ, i64_w, i32_w]
        rfl
       refine pure_ (i := 5) (N := some 32) (v := ?_) (a' := ?_) (ms 21 63) rfl rfl (any_of HT_.out (by kernel_rfl)) (fun _ _ _ h => h) (Or.inl ⟨by rfl, ?_⟩) ?_ ?_
       rotate_left
       ·intro w'
        go_simp
        with_reducible rfl
       rotate_left
       ·simp only [Act.put, List.setIfInBounds_toArray, List.set_cons_zero, List.set_cons_succ, i64_w, i32_w]
        rfl
       refine pure_ (i := 6) (N := some 33) (v := ?_) (a' := ?_) (ms 21 127) rfl rfl (any_of HT_.out (by kernel_rfl)) (fun _ _ _ h => h) (Or.inl ⟨by rfl, ?_⟩) ?_ ?_
       rotate_left
       ·intro w'
        go_simp
        with_reducible rfl
       rotate_left
       ·simp only [Act.put, List.setIfInBounds_toArray, List.set_cons_zero, List.set_cons_succ, i64_w, i32_w]
        rfl
       refine pure_ (i := 7) (N := some 34) (v := ?_) (a' := ?_) (ms 21 255) rfl rfl (any_of HT_.out (by kernel_rfl)) (fun _ _ _ h => h) (Or.inl ⟨by rfl, ?_⟩) ?_ ?_
       rotate_left
       ·intro w'
        go_simp
        with_reducible rfl
       rotate_left
       ·simp only [Act.put, List.setIfInBounds_toArray, List.set_cons_zero, List.set_cons_succ, i64_w, i32_w]
        rfl
       refine pure_ (i := 8) (N := some 35) (v := ?_) (a' := ?_) (ms 21 511) rfl rfl (any_of HT_.out (by kernel_rfl)) (fun _ _ _ h => h) (Or.inl ⟨by rfl, ?_⟩) ?_ ?_
       rotate_left
       ·intro w'
        go_simp
        with_reducible rfl
       rotate_left
       ·simp only [Act.put, List.setIfInBounds_toArray, List.set_cons_zero, List.set_cons_succ, i64_w, i32_w]
        rfl
       refine pure_ (i := 9) (N := some 36) (v := ?_) (a' := ?_) (ms 21 1023) rfl rfl (any_of HT_.out (by kernel_rfl)) (fun _ _ _ h => h) (Or.inl ⟨by rfl, ?_⟩) ?_ ?_
       rotate_left
       ·intro w'
        go_simp
        with_reducible rfl
       rotate_left
       ·simp only [Act.put, List.setIfInBounds_toArray, List.set_cons_zero, List.set_cons_succ, i64_w, i32_w]
        rfl
       refine take_ (i := 10) (N := some 37) (v := ?_) (a' := ?_) (ms 21 2047) rfl rfl (take_ofW HT_.out HW_.out (by kernel_rfl)) (fun _ _ _ h => h) (Or.inl ⟨by rfl, ?_⟩) hHeld ?_ ?_
       rotate_left
       ·intro w' hS
        obtain ⟨s0, s1⟩ := hS
        go_simp
        with_reducible rfl
       rotate_left
       ·simp only [Act.put, List.setIfInBounds_toArray, List.set_cons_zero, List.set_cons_succ, i64_w, i32_w]
        rfl
       refine pure_ (i := 11) (N := some 38) (v := ?_) (a' := ?_) (ms 21 4095) rfl rfl (any_of HT_.out (by kernel_rfl)) (fun _ _ _ h => h) (Or.inl ⟨by rfl, ?_⟩) ?_ ?_
       rotate_left
       ·intro w'
        go_simp
        with_reducible rfl
       rotate_left
       ·simp only [Act.put, List.setIfInBounds_toArray, List.set_cons_zero, List.set_cons_succ, i64_w, i32_w]
        rfl
       refine pure_ (i := 12) (N := some 39) (v := ?_) (a' := ?_) (ms 21 8191) rfl rfl (any_of HT_.out (by kernel_rfl)) (fun _ _ _ h => h) (Or.inl ⟨by rfl, ?_⟩) ?_ ?_
       rotate_left
       ·intro w'
        go_simp
        with_reducible rfl
       rotate_left
       ·simp only [Act.put, List.setIfInBounds_toArray, List.set_cons_zero, List.set_cons_succ, i64_w, i32_w]
        rfl
       refine pure_ (i := 13) (N := some 40) (v := ?_) (a' := ?_) (ms 21 16383) rfl rfl (any_of HT_.out (by kernel_rfl)) (fun _ _ _ h => h) (Or.inl ⟨by rfl, ?_⟩) ?_ ?_
       rotate_left
       ·intro w'
        go_simp
        with_reducible rfl
       rotate_left
       ·simp only [Act.put, List.setIfInBounds_toArray, List.set_cons_zero, List.set_cons_succ, i64_w, i32_w]
        rfl
       refine pure_ (i := 14) (N := some 41) (v := ?_) (a' := ?_) (ms 21 32767) rfl rfl (any_of HT_.out (by kernel_rfl)) (fun _ _ _ h => h) (Or.inl ⟨by rfl, ?_⟩) ?_ ?_
       rotate_left
       ·intro w'
        go_simp
        with_reducible rfl
       rotate_left
       ·simp only [Act.put, List.setIfInBounds_toArray, List.set_cons_zero, List.set_cons_succ, i64_w, i32_w]
        rfl
       refine pure_ (i := 15) (N := some 42) (v := ?_) (a' := ?_) (ms 21 65535) rfl rfl (any_of HT_.out (by kernel_rfl)) (fun _ _ _ h => h) (Or.inl ⟨by rfl, ?_⟩) ?_ ?_
       rotate_left
       ·intro w'
        go_simp
        with_reducible rfl
       rotate_left
       ·simp only [Act.put, List.setIfInBounds_toArray, List.set_cons_zero, List.set_cons_succ, i64_w, i32_w]
        rfl
       refine take_ (i := 16) (N := some 43) (v := ?_) (a' := ?_) (ms 21 131071) rfl rfl (take_ofW HT_.out HW_.out (by kernel_rfl)) (fun _ _ _ h => h) (Or.inl ⟨by rfl, ?_⟩) hHeld ?_ ?_
       rotate_left
       ·intro w' hS
        obtain ⟨s0, s1⟩ := hS
        go_simp
        with_reducible rfl
       rotate_left
       ·simp only [Act.put, List.setIfInBounds_toArray, List.set_cons_zero, List.set_cons_succ, i64_w, i32_w]
        rfl
       refine pure_ (i := 17) (N := some 44) (v := ?_) (a' := ?_) (ms 21 262143) rfl rfl (any_of HT_.out (by kernel_rfl)) (fun _ _ _ h => h) (Or.inl ⟨by rfl, ?_⟩) ?_ ?_
       rotate_left
       ·intro w'
        go_simp
        with_reducible rfl
       rotate_left
       ·simp only [Act.put, List.setIfInBounds_toArray, List.set_cons_zero, List.set_cons_succ, i64_w, i32_w]
        rfl
       refine pure_ (i := 18) (N := some 45) (v := ?_) (a' := ?_) (ms 21 524287) rfl rfl (any_of HT_.out (by kernel_rfl)) (fun _ _ _ h => h) (Or.inl ⟨by rfl, ?_⟩) ?_ ?_
       rotate_left
       ·intro w'
        go_simp
        with_reducible rfl
       rotate_left
       ·simp only [Act.put, List.setIfInBounds_toArray, List.set_cons_zero, List.set_cons_succ, i64_w, i32_w]
        rfl
       refine pure_ (i := 19) (N := some 46) (v := ?_) (a' := ?_) (ms 21 1048575) rfl rfl (any_of HT_.out (by kernel_rfl)) (fun _ _ _ h => h) (Or.inl ⟨by rfl, ?_⟩) ?_ ?_
       rotate_left
       ·intro w'
        go_simp
        with_reducible rfl
       rotate_left
       ·simp only [Act.put, List.setIfInBounds_toArray, List.set_cons_zero, List.set_cons_succ, i64_w, i32_w]
        rfl
       refine last_ (i := 20) (N := none) (ms 21 2097151) rfl rfl (one_of HT_.out (by kernel_rfl)) (by decide) (fun K hK => ?_)
       refine skip_ (w1 := (wd.setCell ⟨w.heap.size, i + k, none⟩ (.bool bk))) (by rfl) rfl ?_ ?_
       ·first | (go_simp; done) | (go_simp; rfl)
       refine hK.out _ _ ?_
       clear hK K
       refine done_ (done_of HT_.out (by kernel_rfl)) ?_
       have HS : Aside0 (NmI xs ys w i (k + 1) (o2.set (i + k) bk) (wd.setCell ⟨w.heap.size, i + k, none⟩ (.bool bk))) := ⟨(by have h_ := I_step HD.out.1 HK.out; rw [EO.out, EB.out] at h_; simpa using h_), Arr.set HD.out.2.1 _ _, below_set HD.out.2.2 (Nat.le_refl _)⟩
       clear hHeld HT_ HW_ fO cO2 HD
       go_wp2
       go_roundw
       case rel => exact ⟨k + 1, _, by have := HK.out; omega, by go_num, HS.out⟩
       case measure => have := HK.out; simp [intOf]; omega
     ·have k3 : decide ((i : Int) + (k : Int) ≤ 200) = false := decide_eq_false (by omega)
      have hw : wrap64 ((i : Int) + (k : Int)) = (i : Int) + (k : Int) := by unfold wrap64; omega
      have hw2 : IntKind.i64.wrap ((i : Int) + (k : Int)) = (i : Int) + (k : Int) := by rw [i64_w]; exact hw
      have HK : Aside0 (i + k = 201) := ⟨by omega⟩
      go_wp2
      go_roundw
      case rel => exact ⟨i + 1, o2, by have := HI.out; omega, by go_num, O_on HJ.out.1 HK.out EA.out, HJ.out.2⟩
      case measure => have := HI.out; simp [intOf]; omega
  ·have k1 : decide ((i : Int) < 201) = false := decide_eq_false (by omega)
   obtain rfl : i = 201 := by omega
   go_wp2
   go_ret
   exact ⟨⟨_, out, rfl, Nat.le_refl _, HN.out.2.1, HN.out.1.1, O_end HN.out.1⟩, HN.out.2.2⟩
/-- The star of a set of numbers. -/
def stB (a : Nat → Bool) : Nat → Bool
 | 0 => true
 | n + 1 => (List.range (n + 1)).any fun i => a (i + 1) && stB a (n - i)
termination_by n => n
decreasing_by omega
theorem stB_zero (a : Nat → Bool) : stB a 0 = true := by rw [stB]
theorem stB_iff {a : Nat → Bool} {n : Nat} (h : 1 ≤ n) : stB a n = true ↔ ∃ j, 1 ≤ j ∧ j ≤ n ∧ a j = true ∧ stB a (n - j) = true := by
 obtain ⟨n, rfl⟩ : ∃ m, n = m + 1 := ⟨n - 1, by omega⟩
 rw [stB, List.any_eq_true]
 constructor
 ·rintro ⟨j, hj, h⟩
  rw [Bool.and_eq_true] at h
  have := List.mem_range.1 hj
  exact ⟨j + 1, by omega, by omega, h.1, by rw [show n + 1 - (j + 1) = n - j by omega]; exact h.2⟩
 ·rintro ⟨j, h1, h2, h3, h4⟩
  refine ⟨j - 1, List.mem_range.2 (by omega), ?_⟩
  rw [Bool.and_eq_true, show j - 1 + 1 = j by omega, show n - (j - 1) = n + 1 - j by omega]
  exact ⟨h3, h4⟩
def StO (a : Nat → Bool) (n : Nat) (out : List Bool) : Prop := out.length = 201 ∧ ∀ m, m < 201 → mkb out m = if m < n then stB a m else false
def StI (a : Nat → Bool) (n k : Nat) (out : List Bool) : Prop := out.length = 201 ∧ (∀ m, m < 201 → m ≠ n → mkb out m = if m < n then stB a m else false) ∧ (mkb out n = true ↔ ∃ j, 1 ≤ j ∧ j < k ∧ a j = true ∧ stB a (n - j) = true)
theorem mkb_rep (m n : Nat) : mkb (List.replicate m false) n = false := by
 unfold mkb
 rw [List.getD_eq_getElem?_getD, List.getElem?_replicate]
 split <;> rfl
theorem StO_start (a : Nat → Bool) : StO a 1 (true :: List.replicate 200 false) := by
 refine ⟨by rw [List.length_cons, List.length_replicate], fun m hm => ?_⟩
 cases m with
 | zero => rw [if_pos (by omega), stB_zero]; rfl
 | succ m =>
  rw [if_neg (by omega)]
  exact mkb_rep 200 m
theorem StI_start {a : Nat → Bool} {n : Nat} {out : List Bool} (h : StO a n out) (hn : n < 201) : StI a n 1 out := by
 refine ⟨h.1, fun m hm _ => h.2 m hm, ?_⟩
 rw [h.2 n hn, if_neg (by omega)]
 exact ⟨fun h => (by cases h), fun ⟨j, h1, h2, _⟩ => absurd h1 (by omega)⟩
theorem StI_step {a : Nat → Bool} {n k : Nat} {out : List Bool} (h : StI a n k out) (hn : n < 201) (h1 : 1 ≤ k) (hk : k ≤ n) : StI a n (k + 1) (out.set n (mkb out n || (a k && mkb out (n - k)))) := by
 refine ⟨by rw [List.length_set]; exact h.1, fun m hm hne => ?_, ?_⟩
 ·rw [mkb_set (by rw [h.1]; exact hn), if_neg hne]
  exact h.2.1 m hm hne
 ·rw [mkb_set (by rw [h.1]; exact hn), if_pos rfl, Bool.or_eq_true, Bool.and_eq_true, h.2.2, h.2.1 (n - k) (by omega) (by omega), if_pos (by omega)]
  constructor
  ·rintro (⟨j, h2, h3, h4⟩ | ⟨h3, h4⟩)
   ·exact ⟨j, h2, by omega, h4⟩
   ·exact ⟨k, h1, by omega, h3, h4⟩
  ·rintro ⟨j, h2, h3, h4, h5⟩
   by_cases e : j = k
   ·subst e
    exact .inr ⟨h4, h5⟩
   ·exact .inl ⟨j, h2, by omega, h4, h5⟩
theorem StI_end {a : Nat → Bool} {n : Nat} {out : List Bool} (h : StI a n (n + 1) out) (h1 : 1 ≤ n) : StO a (n + 1) out := by
 refine ⟨h.1, fun m hm => ?_⟩
 by_cases e : m = n
 ·subst e
  rw [if_pos (by omega), Bool.eq_iff_iff, h.2.2, stB_iff h1]
  exact ⟨fun ⟨j, a1, a2, a3⟩ => ⟨j, a1, by omega, a3⟩, fun ⟨j, a1, a2, a3⟩ => ⟨j, a1, by omega, a3⟩⟩
 ·rw [h.2.1 m hm e]
  by_cases hlt : m < n
  ·rw [if_pos hlt, if_pos (by omega)]
  ·rw [if_neg hlt, if_neg (by omega)]
theorem StO_end {a : Nat → Bool} {out : List Bool} (h : StO a 201 out) : ∀ n, n < 201 → mkb out n = stB a n := fun n hn => by rw [h.2 n hn, if_pos hn]
def NsO (xs : List Bool) (w : World) (n : Nat) (out : List Bool) (wr : World) : Prop := StO (mkb xs) n out ∧ Arr wr w.heap.size out ∧ Below w.heap.size w wr
def NsI (xs : List Bool) (w : World) (n k : Nat) (out : List Bool) (wr : World) : Prop := StI (mkb xs) n k out ∧ Arr wr w.heap.size out ∧ Below w.heap.size w wr
def st8.T : Bool × List (List Nat × List Nat) := (true, [([], []), ([], []), ([], []), ([], []), ([2], [2]), ([4, 3], [3, 4]), ([5], [5]), ([6], [6]), ([7], [7]), ([7], [7]), ([8, 7], [7, 8]), ([10, 9, 7], [7, 9, 10]), ([11, 7], [7, 11]), ([12, 7, 7], [7, 12]), ([13], [13]), ([13], [13]), ([13], [13]), ([15, 16, 13], [13, 15, 16]), ([14, 13], [13, 14]), ([18, 17, 13], [13, 17, 18]), ([19, 13], [13, 19]), ([13, 20, 7], [7, 13, 20]), ([7, 21], [7, 21]), ([0], [0]), ([23, 1, 0, 1, 2, 3, 4, 5, 6, 7, 8, 9, 10, 11, 12, 13, 14, 15, 16, 17, 18, 19, 20, 21, 22], [1, 23]), ([24, 22, 13, 0, 1, 2, 3, 4, 5, 6, 7, 8, 9, 10, 11, 12, 13, 14, 15, 16, 17, 18, 19, 20, 21, 22], [22, 24])])
def st8.B : List Nat := [0, 0, 0, 0, 4, 28, 60, 124, 252, 252, 508, 2044, 4092, 8188, 16380, 16380, 16380, 114684, 32764, 524284, 1048572, 2097148, 4194300, 1, 16777215, 33554431]
theorem st8.tab : rtab .any (opsOf Try.f29 8) = st8.T := by kernel_rfl
theorem st8.bits : waitsOk st8.T.2 st8.B = true := by kernel_rfl
set_option maxHeartbeats 8000000 in
set_option maxRecDepth 100000 in
theorem nm_star (xs : List Bool) (g : Nat) (w : World) (hA : Arr w g xs) (hx : xs.length = 201) :
  Calls Try.prog 29 #[.pointer (some ⟨g, 0, none⟩)] w fun e w' => (∃ r zs, e = .returned (.pointer (some ⟨r, 0, none⟩)) ∧ w.heap.size ≤ r ∧ Arr w' r zs ∧ zs.length = 201 ∧ ∀ n, n < 201 → mkb zs n = stB (mkb xs) n) ∧ Below w.heap.size w w' := by
 have hu_ := Try.underlying54
 have hv_ := Try.underlying53
 have HA := Aside0.mk hA
 have HX := Aside0.mk hx
 have mixed : Try.prog.follows Departure.mixedOrders = true := by kernel_rfl
 clear hA hx
 go_enter Try.func29, Try.ntmps29
 go_wp2_with (first | (go_at_call 28; (with_reducible refine (nm_zero _).mono ?_); rintro e W1 ⟨rfl, hZ, hb⟩; have HZ := Aside0.mk hZ; have HB1 := Aside0.mk hb; clear hZ hb))
 go_loopw [4] (fun v4 wr => ∃ (n : Nat) (out : List Bool), 1 ≤ n ∧ n ≤ 201 ∧ v4 = .int .i64 n ∧ NsO xs w n out wr) (fun v4 _ => 201 - (intOf v4).toNat)
 case atStart => exact ⟨1, _, by omega, by omega, rfl, StO_start _, HZ.out, HB1.out⟩
 case round =>
  obtain ⟨n, out, hn1, hn, rfl, hN⟩ := hrel
  have HN := Aside0.mk hN
  clear hN HZ HB1
  by_cases hlt : n < 201
  ·have k1 : decide ((n : Int) ≤ 200) = true := decide_eq_true (by omega)
   have k2 : (n : Int) ≤ 200 := by omega
   have k2b : (n : Int) < 201 := by omega
   have k2c : n ≤ 200 := by omega
   have HI : Aside0 (1 ≤ n ∧ n < 201) := ⟨hn1, hlt⟩
   clear hn
   go_wp2
   go_loopw [5] (fun v5 wr2 => ∃ (k : Nat) (o2 : List Bool), 1 ≤ k ∧ k ≤ n + 1 ∧ v5 = .int .i64 k ∧ NsI xs w n k o2 wr2) (fun v5 _ => n + 1 - (intOf v5).toNat)
   case atStart => exact ⟨1, out, by omega, by omega, rfl, StI_start HN.out.1 HI.out.2, HN.out.2⟩
   case round =>
    obtain ⟨k, o2, hk1, hk, rfl, hJ⟩ := hrel
    have HJ := Aside0.mk hJ
    clear hJ
    by_cases hlk : k ≤ n
    ·have k3 : decide ((k : Int) ≤ (n : Int)) = true := decide_eq_true (by omega)
     have k4 : (k : Int) ≤ (n : Int) := by omega
     have k6 : (k : Int) < 201 := by omega
     have hw : wrap64 ((n : Int) - (k : Int)) = (n : Int) - (k : Int) := by unfold wrap64; omega
     have hw2 : IntKind.i64.wrap ((n : Int) - (k : Int)) = (n : Int) - (k : Int) := by rw [i64_w]; exact hw
     have k7 : (0 : Int) ≤ (n : Int) - (k : Int) := by omega
     have k8 : (n : Int) - (k : Int) < 201 := by omega
     have k9 : ((n : Int) - (k : Int)).toNat = n - k := by omega
     obtain ⟨ob, eob⟩ : ∃ b, mkb o2 n = b := ⟨_, rfl⟩
     obtain ⟨ak, eak⟩ : ∃ b, mkb xs k = b := ⟨_, rfl⟩
     obtain ⟨bk, ebk⟩ : ∃ b, mkb o2 (n - k) = b := ⟨_, rfl⟩
     have cO := Arr.cell HJ.out.2.1 (i := n) (by rw [HJ.out.1.1]; exact hlt) eob
     have cN := Arr.cell HJ.out.2.1 (i := n - k) (by rw [HJ.out.1.1]; omega) ebk
     have cA := Arr.cell (Arr.below HA.out HJ.out.2.2) (i := k) (by rw [HX.out]; omega) eak
     have HD : Aside0 (NsI xs w n k o2 wr.drew) := ⟨HJ.out.1, Arr.below HJ.out.2.1 (below_drew1 (Below.refl _ _)), below_drew1 HJ.out.2.2⟩
     have HK : Aside0 (1 ≤ k ∧ k ≤ n) := ⟨hk1, hlk⟩
     have EO := Aside0.mk eob
     have EA := Aside0.mk eak
     have EB := Aside0.mk ebk
     clear eob ebk eak hk hk1
     go_wp2
     cases ob with
     | true =>
      refine start_ (n := 26) (S := fun w' => w'.cell? ⟨w.heap.size, n, none⟩ = some (.bool true) ∧ w'.cell? ⟨w.heap.size, n - k, none⟩ = some (.bool bk) ∧ w'.cell? ⟨g, k, none⟩ = some (.bool ak)) (ds := [25]) (ms 26 0) (by kernel_rfl) rfl (by kernel_rfl) ⟨cO, cN, cA⟩ (fun hHeld => ?_); refine with_tabW st8.tab st8.bits (fun HT_ HW_ => ?_)
      generalize wr.drew = wd at hHeld HD ⊢
      have fO := Arr.frozen HD.out.2.1 n
      have cO2 := hHeld.1
      refine pure_ (i := 0) (N := some 16) (v := ?_) (a' := ?_) (ms 26 1) rfl rfl (any_of HT_.out (by kernel_rfl)) (fun _ _ _ h => h) (Or.inl ⟨by rfl, ?_⟩) ?_ ?_
      rotate_left
      ·intro w'
       go_simp
       with_reducible rfl
      rotate_left
      ·simp only [Act.put, List.setIfInBounds_toArray, List.set_cons_zero, List.set_cons_succ, i64_w, i32_w]
       rfl
      refine pure_ (i := 1) (N := some 17) (v := ?_) (a' := ?_) (ms 26 3) rfl rfl (any_of HT_.out (by kernel_rfl)) (fun _ _ _ h => h) (Or.inl ⟨by rfl, ?_⟩) ?_ ?_
      rotate_left
      ·intro w'
       go_simp
       with_reducible rfl
      rotate_left
      ·simp only [Act.put, List.setIfInBounds_toArray, List.set_cons_zero, List.set_cons_succ, i64_w, i32_w]
       rfl
      refine pure_ (i := 2) (N := some 18) (v := ?_) (a' := ?_) (ms 26 7) rfl rfl (any_of HT_.out (by kernel_rfl)) (fun _ _ _ h => h) (Or.inl ⟨by rfl, ?_⟩) ?_ ?_
      rotate_left
      ·intro w'
       go_simp
       with_reducible rfl
      rotate_left
      ·simp only [Act.put, List.setIfInBounds_toArray, List.set_cons_zero, List.set_cons_succ, i64_w, i32_w]
       rfl
      refine pure_ (i := 3) (N := some 19) (v := ?_) (a' := ?_) (ms 26 15) rfl rfl (any_of HT_.out (by kernel_rfl)) (fun _ _ _ h => h) (Or.inl ⟨by rfl, ?_⟩) ?_ ?_
      rotate_left
      ·intro w'
       go_simp
       with_reducible rfl
      rotate_left
      ·simp only [Act.put, List.setIfInBounds_toArray, List.set_cons_zero, List.set_cons_succ, i64_w, i32_w]
       rfl
      refine pure_ (i := 4) (N := some 20) (v := ?_) (a' := ?_) (ms 26 31) rfl rfl (any_of HT_.out (by kernel_rfl)) (fun _ _ _ h => h) (Or.inl ⟨by rfl, ?_⟩) ?_ ?_
      rotate_left
      ·intro w'
       go_simp
       with_reducible rfl
      rotate_left
      ·simp only [Act.put, List.setIfInBounds_toArray, List.set_cons_zero, List.set_cons_succ, i64_w, i32_w]
       rfl
      refine pure_ (i := 5) (N := some 21) (v := ?_) (a' := ?_) (ms 26 63) rfl rfl (any_of HT_.out (by kernel_rfl)) (fun _ _ _ h => h) (Or.inl ⟨by rfl, ?_⟩) ?_ ?_
      rotate_left
      ·intro w'
       go_simp
       with_reducible rfl
      rotate_left
      ·simp only [Act.put, List.setIfInBounds_toArray, List.set_cons_zero, List.set_cons_succ, i64_w, i32_w]
       rfl
      refine take_ (i := 6) (N := some 22) (v := ?_) (a' := ?_) (ms 26 127) rfl rfl (take_ofW HT_.out HW_.out (by kernel_rfl)) (fun _ _ _ h => h) (Or.inl ⟨by rfl, ?_⟩) hHeld ?_ ?_
      rotate_left
      ·intro w' hS
       obtain ⟨s0, s1, s2⟩ := hS
       go_simp
       with_reducible rfl
      rotate_left
      ·simp only [Act.put, List.setIfInBounds_toArray, List.set_cons_zero, List.set_cons_succ, i64_w, i32_w]
       rfl
      refine pure_ (i := 7) (N := some 23) (v := ?_) (a' := ?_) (ms 26 255) rfl rfl (any_of HT_.out (by kernel_rfl)) (fun _ _ _ h => h) (Or.inl ⟨by rfl, ?_⟩) ?_ ?_
      rotate_left
      ·intro w'
       go_simp
       with_reducible rfl
      rotate_left
      ·simp only [Act.put, List.setIfInBounds_toArray, List.set_cons_zero, List.set_cons_succ, i64_w, i32_w]
       rfl
      refine pure_ (i := 8) (N := some 24) (v := undef) (a' := ?_) (ms 26 511) rfl rfl (any_of HT_.out (by kernel_rfl)) (fun _ _ _ h => h) (Or.inr ⟨by rfl, rfl⟩) ?_ ?_
      rotate_left
      ·simp only [Act.put, List.setIfInBounds_toArray, List.set_cons_zero, List.set_cons_succ, i64_w, i32_w]
       rfl
      refine pure_ (i := 9) (N := some 25) (v := undef) (a' := ?_) (ms 26 1023) rfl rfl (any_of HT_.out (by kernel_rfl)) (fun _ _ _ h => h) (Or.inr ⟨by rfl, rfl⟩) ?_ ?_
      rotate_left
      ·simp only [Act.put, List.setIfInBounds_toArray, List.set_cons_zero, List.set_cons_succ, i64_w, i32_w]
       rfl
      refine pure_ (i := 10) (N := some 26) (v := undef) (a' := ?_) (ms 26 2047) rfl rfl (any_of HT_.out (by kernel_rfl)) (fun _ _ _ h => h) (Or.inr ⟨by rfl, rfl⟩) ?_ ?_
      rotate_left
      ·simp only [Act.put, List.setIfInBounds_toArray, List.set_cons_zero, List.set_cons_succ, i64_w, i32_w]
       rfl
      refine pure_ (i := 11) (N := some 27) (v := undef) (a' := ?_) (ms 26 4095) rfl rfl (any_of HT_.out (by kernel_rfl)) (fun _ _ _ h => h) (Or.inr ⟨by rfl, rfl⟩) ?_ ?_
      rotate_left
      ·simp only [Act.put, List.setIfInBounds_toArray, List.set_cons_zero, List.set_cons_succ, i64_w, i32_w]
       rfl
      refine pure_ (i := 12) (N := some 28) (v := undef) (a' := ?_) (ms 26 8191) rfl rfl (any_of HT_.out (by kernel_rfl)) (fun _ _ _ h => h) (Or.inr ⟨by rfl, rfl⟩) ?_ ?_
      rotate_left
      ·simp only [Act.put, List.setIfInBounds_toArray, List.set_cons_zero, List.set_cons_succ, i64_w, i32_w]
       rfl
      refine pure_ (i := 13) (N := some 29) (v := undef) (a' := ?_) (ms 26 16383) rfl rfl (any_of HT_.out (by kernel_rfl)) (fun _ _ _ h => h) (Or.inr ⟨by rfl, rfl⟩) ?_ ?_
      rotate_left
      ·simp only [Act.put, List.setIfInBounds_toArray, List.set_cons_zero, List.set_cons_succ, i64_w, i32_w]
       rfl
      refine pure_ (i := 14) (N := some 30) (v := undef) (a' := ?_) (ms 26 32767) rfl rfl (any_of HT_.out (by kernel_rfl)) (fun _ _ _ h => h) (Or.inr ⟨by rfl, rfl⟩) ?_ ?_
      rotate_left
      ·simp only [Act.put, List.setIfInBounds_toArray, List.set_cons_zero, List.set_cons_succ, i64_w, i32_w]
       rfl
      refine pure_ (i := 15) (N := some 31) (v := undef) (a' := ?_) (ms 26 65535) rfl rfl (any_of HT_.out (by kernel_rfl)) (fun _ _ _ h => h) (Or.inr ⟨by rfl, rfl⟩) ?_ ?_
      rotate_left
      ·simp only [Act.put, List.setIfInBounds_toArray, List.set_cons_zero, List.set_cons_succ, i64_w, i32_w]
       rfl
      refine pure_ (i := 16) (N := some 32) (v := undef) (a' := ?_) (ms 26 131071) rfl rfl (any_of HT_.out (by kernel_rfl)) (fun _ _ _ h => h) (Or.inr ⟨by rfl, rfl⟩) ?_ ?_
      rotate_left
      ·simp only [Act.put, List.setIfInBounds_toArray, List.set_cons_zero, List.set_cons_succ, i64_w, i32_w]
       rfl
      refine pure_ (i := 17) (N := some 33) (v := undef) (a' := ?_) (ms 26 262143) rfl rfl (any_of HT_.out (by kernel_rfl)) (fun _ _ _ h => h) (Or.inr ⟨by rfl, rfl⟩) ?_ ?_
      rotate_left
      ·simp only [Act.put, List.setIfInBounds_toArray, List.set_cons_zero, List.set_cons_succ, i64_w, i32_w]
       rfl
      refine pure_ (i := 18) (N := some 34) (v := undef) (a' := ?_) (ms 26 524287) rfl rfl (any_of HT_.out (by kernel_rfl)) (fun _ _ _ h => h) (Or.inr ⟨by rfl, rfl⟩) ?_ ?_
      rotate_left
      ·simp only [Act.put, List.setIfInBounds_toArray, List.set_cons_zero, List.set_cons_succ, i64_w, i32_w]
       rfl
      refine pure_ (i := 19) (N := some 35) (v := undef) (a' := ?_) (ms 26 1048575) rfl rfl (any_of HT_.out (by kernel_rfl)) (fun _ _ _ h => h) (Or.inr ⟨by rfl, rfl⟩) ?_ ?_
      rotate_left
      ·simp only [Act.put, List.setIfInBounds_toArray, List.set_cons_zero, List.set_cons_succ, i64_w, i32_w]
       rfl
      refine pure_ (i := 20) (N := some 36) (v := undef) (a' := ?_) (ms 26 2097151) rfl rfl (any_of HT_.out (by kernel_rfl)) (fun _ _ _ h => h) (Or.inr ⟨by rfl, rfl⟩) ?_ ?_
      rotate_left
      ·simp only [Act.put, List.setIfInBounds_toArray, List.set_cons_zero, List.set_cons_succ, i64_w, i32_w]
       rfl
      refine pure_ (i := 21) (N := some 37) (v := undef) (a' := ?_) (ms 26 4194303) rfl rfl (any_of HT_.out (by kernel_rfl)) (fun _ _ _ h => h) (Or.inr ⟨by rfl, rfl⟩) ?_ ?_
      rotate_left
      ·simp only [Act.put, List.setIfInBounds_toArray, List.set_cons_zero, List.set_cons_succ, i64_w, i32_w]
       rfl
      refine pure_ (i := 22) (N := some 38) (v := ?_) (a' := ?_) (ms 26 8388607) rfl rfl (any_of HT_.out (by kernel_rfl)) (fun _ _ _ h => h) (Or.inl ⟨by rfl, ?_⟩) ?_ ?_
      rotate_left
      ·intro w'
       go_simp
       with_reducible rfl
      rotate_left
      ·simp only [Act.put, List.setIfInBounds_toArray, List.set_cons_zero, List.set_cons_succ, i64_w, i32_w]
       rfl
      refine pure_ (i := 23) (N := some 39) (v := ?_) (a' := ?_) (ms 26 16777215) rfl rfl (any_of HT_.out (by kernel_rfl)) (fun _ _ _ h => h) (Or.inl ⟨by rfl, ?_⟩) ?_ ?_
      rotate_left
      ·intro w'
       go_simp
       with_reducible rfl
      rotate_left
      ·simp only [Act.put, List.setIfInBounds_toArray, List.set_cons_zero, List.set_cons_succ, i64_w, i32_w]
       rfl
      refine pure_ (i := 24) (N := some 40) (v := ?_) (a' := ?_) (ms 26 33554431) rfl rfl (any_of HT_.out (by kernel_rfl)) (fun _ _ _ h => h) (Or.inl ⟨by rfl, ?_⟩) ?_ ?_
      rotate_left
      ·intro w'
       go_simp
       with_reducible rfl
      rotate_left
      ·simp only [Act.put, List.setIfInBounds_toArray, List.set_cons_zero, List.set_cons_succ, i64_w, i32_w]
       rfl
      refine last_ (i := 25) (N := none) (ms 26 67108863) rfl rfl (one_of HT_.out (by kernel_rfl)) (by decide) (fun K hK => ?_)
      refine skip_ (w1 := (wd.setCell ⟨w.heap.size, n, none⟩ (.bool true))) (by rfl) rfl ?_ ?_
      ·first | (go_simp; done) | (go_simp; rfl)
      refine hK.out _ _ ?_
      clear hK K
      refine done_ (done_of HT_.out (by kernel_rfl)) ?_
      have HS : Aside0 (NsI xs w n (k + 1) (o2.set n true) (wd.setCell ⟨w.heap.size, n, none⟩ (.bool true))) := ⟨(by have h_ := StI_step HD.out.1 hlt HK.out.1 HK.out.2; rw [EO.out, EA.out, EB.out] at h_; simpa using h_), Arr.set HD.out.2.1 _ _, below_set HD.out.2.2 (Nat.le_refl _)⟩
      clear hHeld HT_ HW_ fO cO2 HD
      go_wp2
      go_roundw
      case rel => exact ⟨k + 1, _, by have := HK.out; omega, by have := HK.out; omega, by go_num, HS.out⟩
      case measure => have := HK.out; simp [intOf]; omega
     | false =>
      cases ak with
      | true =>
       refine start_ (n := 26) (S := fun w' => w'.cell? ⟨w.heap.size, n, none⟩ = some (.bool false) ∧ w'.cell? ⟨w.heap.size, n - k, none⟩ = some (.bool bk) ∧ w'.cell? ⟨g, k, none⟩ = some (.bool true)) (ds := [25]) (ms 26 0) (by kernel_rfl) rfl (by kernel_rfl) ⟨cO, cN, cA⟩ (fun hHeld => ?_); refine with_tabW st8.tab st8.bits (fun HT_ HW_ => ?_)
       generalize wr.drew = wd at hHeld HD ⊢
       have fO := Arr.frozen HD.out.2.1 n
       have cO2 := hHeld.1
       refine pure_ (i := 0) (N := some 16) (v := ?_) (a' := ?_) (ms 26 1) rfl rfl (any_of HT_.out (by kernel_rfl)) (fun _ _ _ h => h) (Or.inl ⟨by rfl, ?_⟩) ?_ ?_
       rotate_left
       ·intro w'
        go_simp
        with_reducible rfl
       rotate_left
       ·simp only [Act.put, List.setIfInBounds_toArray, List.set_cons_zero, List.set_cons_succ, i64_w, i32_w]
        rfl
       refine pure_ (i := 1) (N := some 17) (v := ?_) (a' := ?_) (ms 26 3) rfl rfl (any_of HT_.out (by kernel_rfl)) (fun _ _ _ h => h) (Or.inl ⟨by rfl, ?_⟩) ?_ ?_
       rotate_left
       ·intro w'
        go_simp
        with_reducible rfl
       rotate_left
       ·simp only [Act.put, List.setIfInBounds_toArray, List.set_cons_zero, List.set_cons_succ, i64_w, i32_w]
        rfl
       refine pure_ (i := 2) (N := some 18) (v := ?_) (a' := ?_) (ms 26 7) rfl rfl (any_of HT_.out (by kernel_rfl)) (fun _ _ _ h => h) (Or.inl ⟨by rfl, ?_⟩) ?_ ?_
       rotate_left
       ·intro w'
        go_simp
        with_reducible rfl
       rotate_left
       ·simp only [Act.put, List.setIfInBounds_toArray, List.set_cons_zero, List.set_cons_succ, i64_w, i32_w]
        rfl
       refine pure_ (i := 3) (N := some 19) (v := ?_) (a' := ?_) (ms 26 15) rfl rfl (any_of HT_.out (by kernel_rfl)) (fun _ _ _ h => h) (Or.inl ⟨by rfl, ?_⟩) ?_ ?_
       rotate_left
       ·intro w'
        go_simp
        with_reducible rfl
       rotate_left
       ·simp only [Act.put, List.setIfInBounds_toArray, List.set_cons_zero, List.set_cons_succ, i64_w, i32_w]
        rfl
       refine pure_ (i := 4) (N := some 20) (v := ?_) (a' := ?_) (ms 26 31) rfl rfl (any_of HT_.out (by kernel_rfl)) (fun _ _ _ h => h) (Or.inl ⟨by rfl, ?_⟩) ?_ ?_
       rotate_left
       ·intro w'
        go_simp
        with_reducible rfl
       rotate_left
       ·simp only [Act.put, List.setIfInBounds_toArray, List.set_cons_zero, List.set_cons_succ, i64_w, i32_w]
        rfl
       refine pure_ (i := 5) (N := some 21) (v := ?_) (a' := ?_) (ms 26 63) rfl rfl (any_of HT_.out (by kernel_rfl)) (fun _ _ _ h => h) (Or.inl ⟨by rfl, ?_⟩) ?_ ?_
       rotate_left
       ·intro w'
        go_simp
        with_reducible rfl
       rotate_left
       ·simp only [Act.put, List.setIfInBounds_toArray, List.set_cons_zero, List.set_cons_succ, i64_w, i32_w]
        rfl
       refine take_ (i := 6) (N := some 22) (v := ?_) (a' := ?_) (ms 26 127) rfl rfl (take_ofW HT_.out HW_.out (by kernel_rfl)) (fun _ _ _ h => h) (Or.inl ⟨by rfl, ?_⟩) hHeld ?_ ?_
       rotate_left
       ·intro w' hS
        obtain ⟨s0, s1, s2⟩ := hS
        go_simp
        with_reducible rfl
       rotate_left
       ·simp only [Act.put, List.setIfInBounds_toArray, List.set_cons_zero, List.set_cons_succ, i64_w, i32_w]
        rfl
       refine pure_ (i := 7) (N := some 23) (v := ?_) (a' := ?_) (ms 26 255) rfl rfl (any_of HT_.out (by kernel_rfl)) (fun _ _ _ h => h) (Or.inl ⟨by rfl, ?_⟩) ?_ ?_
       rotate_left
       ·intro w'
        go_simp
        with_reducible rfl
       rotate_left
       ·simp only [Act.put, List.setIfInBounds_toArray, List.set_cons_zero, List.set_cons_succ, i64_w, i32_w]
        rfl
       refine pure_ (i := 8) (N := some 24) (v := ?_) (a' := ?_) (ms 26 511) rfl rfl (any_of HT_.out (by kernel_rfl)) (fun _ _ _ h => h) (Or.inl ⟨by rfl, ?_⟩) ?_ ?_
       rotate_left
       ·intro w'
        go_simp
        with_reducible rfl
       rotate_left
       ·simp only [Act.put, List.setIfInBounds_toArray, List.set_cons_zero, List.set_cons_succ, i64_w, i32_w]
        rfl
       refine pure_ (i := 9) (N := some 25) (v := ?_) (a' := ?_) (ms 26 1023) rfl rfl (any_of HT_.out (by kernel_rfl)) (fun _ _ _ h => h) (Or.inl ⟨by rfl, ?_⟩) ?_ ?_
       rotate_left
       ·intro w'
        go_simp
        with_reducible rfl
       rotate_left
       ·simp only [Act.put, List.setIfInBounds_toArray, List.set_cons_zero, List.set_cons_succ, i64_w, i32_w]
        rfl
       refine pure_ (i := 10) (N := some 26) (v := ?_) (a' := ?_) (ms 26 2047) rfl rfl (any_of HT_.out (by kernel_rfl)) (fun _ _ _ h => h) (Or.inl ⟨by rfl, ?_⟩) ?_ ?_
       rotate_left
       ·intro w'
        go_simp
        with_reducible rfl
       rotate_left
       ·simp only [Act.put, List.setIfInBounds_toArray, List.set_cons_zero, List.set_cons_succ, i64_w, i32_w]
        rfl
       refine pure_ (i := 11) (N := some 27) (v := ?_) (a' := ?_) (ms 26 4095) rfl rfl (any_of HT_.out (by kernel_rfl)) (fun _ _ _ h => h) (Or.inl ⟨by rfl, ?_⟩) ?_ ?_
       rotate_left
       ·intro w'
        go_simp
        with_reducible rfl
       rotate_left
       ·simp only [Act.put, List.setIfInBounds_toArray, List.set_cons_zero, List.set_cons_succ, i64_w, i32_w]
        rfl
       refine take_ (i := 12) (N := some 28) (v := ?_) (a' := ?_) (ms 26 8191) rfl rfl (take_ofW HT_.out HW_.out (by kernel_rfl)) (fun _ _ _ h => h) (Or.inl ⟨by rfl, ?_⟩) hHeld ?_ ?_
       rotate_left
       ·intro w' hS
        obtain ⟨s0, s1, s2⟩ := hS
        go_simp
        with_reducible rfl
       rotate_left
       ·simp only [Act.put, List.setIfInBounds_toArray, List.set_cons_zero, List.set_cons_succ, i64_w, i32_w]
        rfl
       refine pure_ (i := 13) (N := some 29) (v := ?_) (a' := ?_) (ms 26 16383) rfl rfl (any_of HT_.out (by kernel_rfl)) (fun _ _ _ h => h) (Or.inl ⟨by rfl, ?_⟩) ?_ ?_
       rotate_left
       ·intro w'
        go_simp
        with_reducible rfl
       rotate_left
       ·simp only [Act.put, List.setIfInBounds_toArray, List.set_cons_zero, List.set_cons_succ, i64_w, i32_w]
        rfl
       refine pure_ (i := 14) (N := some 30) (v := ?_) (a' := ?_) (ms 26 32767) rfl rfl (any_of HT_.out (by kernel_rfl)) (fun _ _ _ h => h) (Or.inl ⟨by rfl, ?_⟩) ?_ ?_
       rotate_left
       ·intro w'
        go_simp
        with_reducible rfl
       rotate_left
       ·simp only [Act.put, List.setIfInBounds_toArray, List.set_cons_zero, List.set_cons_succ, i64_w, i32_w]
        rfl
       refine pure_ (i := 15) (N := some 31) (v := ?_) (a' := ?_) (ms 26 65535) rfl rfl (any_of HT_.out (by kernel_rfl)) (fun _ _ _ h => h) (Or.inl ⟨by rfl, ?_⟩) ?_ ?_
       rotate_left
       ·intro w'
        go_simp
        with_reducible rfl
       rotate_left
       ·simp only [Act.put, List.setIfInBounds_toArray, List.set_cons_zero, List.set_cons_succ, i64_w, i32_w]
        rfl
       refine pure_ (i := 16) (N := some 32) (v := ?_) (a' := ?_) (ms 26 131071) rfl rfl (any_of HT_.out (by kernel_rfl)) (fun _ _ _ h => h) (Or.inl ⟨by rfl, ?_⟩) ?_ ?_
       rotate_left
       ·intro w'
        go_simp
        with_reducible rfl
       rotate_left
       ·simp only [Act.put, List.setIfInBounds_toArray, List.set_cons_zero, List.set_cons_succ, i64_w, i32_w]
        rfl
       refine pure_ (i := 17) (N := some 33) (v := ?_) (a' := ?_) (ms 26 262143) rfl rfl (any_of HT_.out (by kernel_rfl)) (fun _ _ _ h => h) (Or.inl ⟨by rfl, ?_⟩) ?_ ?_
       rotate_left
       ·intro w'
        go_simp
        with_reducible rfl
       rotate_left
       ·simp only [Act.put, List.setIfInBounds_toArray, List.set_cons_zero, List.set_cons_succ, i64_w, i32_w]
        rfl
       refine pure_ (i := 18) (N := some 34) (v := ?_) (a' := ?_) (ms 26 524287) rfl rfl (any_of HT_.out (by kernel_rfl)) (fun _ _ _ h => h) (Or.inl ⟨by rfl, ?_⟩) ?_ ?_
       rotate_left
       ·intro w'
        go_simp
        with_reducible rfl
       rotate_left
       ·simp only [Act.put, List.setIfInBounds_toArray, List.set_cons_zero, List.set_cons_succ, i64_w, i32_w]
        rfl
       refine pure_ (i := 19) (N := some 35) (v := ?_) (a' := ?_) (ms 26 1048575) rfl rfl (any_of HT_.out (by kernel_rfl)) (fun _ _ _ h => h) (Or.inl ⟨by rfl, ?_⟩) ?_ ?_
       rotate_left
       ·intro w'
        go_simp
        with_reducible rfl
       rotate_left
       ·simp only [Act.put, List.setIfInBounds_toArray, List.set_cons_zero, List.set_cons_succ, i64_w, i32_w]
        rfl
       refine take_ (i := 20) (N := some 36) (v := ?_) (a' := ?_) (ms 26 2097151) rfl rfl (take_ofW HT_.out HW_.out (by kernel_rfl)) (fun _ _ _ h => h) (Or.inl ⟨by rfl, ?_⟩) hHeld ?_ ?_
       rotate_left
       ·intro w' hS
        obtain ⟨s0, s1, s2⟩ := hS
        go_simp
        with_reducible rfl
       rotate_left
       ·simp only [Act.put, List.setIfInBounds_toArray, List.set_cons_zero, List.set_cons_succ, i64_w, i32_w]
        rfl
       refine pure_ (i := 21) (N := some 37) (v := ?_) (a' := ?_) (ms 26 4194303) rfl rfl (any_of HT_.out (by kernel_rfl)) (fun _ _ _ h => h) (Or.inl ⟨by rfl, ?_⟩) ?_ ?_
       rotate_left
       ·intro w'
        go_simp
        with_reducible rfl
       rotate_left
       ·simp only [Act.put, List.setIfInBounds_toArray, List.set_cons_zero, List.set_cons_succ, i64_w, i32_w]
        rfl
       refine pure_ (i := 22) (N := some 38) (v := ?_) (a' := ?_) (ms 26 8388607) rfl rfl (any_of HT_.out (by kernel_rfl)) (fun _ _ _ h => h) (Or.inl ⟨by rfl, ?_⟩) ?_ ?_
       rotate_left
       ·intro w'
        go_simp
        with_reducible rfl
       rotate_left
       ·simp only [Act.put, List.setIfInBounds_toArray, List.set_cons_zero, List.set_cons_succ, i64_w, i32_w]
        rfl
       refine pure_ (i := 23) (N := some 39) (v := ?_) (a' := ?_) (ms 26 16777215) rfl rfl (any_of HT_.out (by kernel_rfl)) (fun _ _ _ h => h) (Or.inl ⟨by rfl, ?_⟩) ?_ ?_
       rotate_left
       ·intro w'
        go_simp
        with_reducible rfl
       rotate_left
       ·simp only [Act.put, List.setIfInBounds_toArray, List.set_cons_zero, List.set_cons_succ, i64_w, i32_w]
        rfl
       refine pure_ (i := 24) (N := some 40) (v := ?_) (a' := ?_) (ms 26 33554431) rfl rfl (any_of HT_.out (by kernel_rfl)) (fun _ _ _ h => h) (Or.inl ⟨by rfl, ?_⟩) ?_ ?_
       rotate_left
       ·intro w'
        go_simp
        with_reducible rfl
       rotate_left
       ·simp only [Act.put, List.setIfInBounds_toArray, List.set_cons_zero, List.set_cons_succ, i64_w, i32_w]
        rfl
       refine last_ (i := 25) (N := none) (ms 26 67108863) rfl rfl (one_of HT_.out (by kernel_rfl)) (by decide) (fun K hK => ?_)
       refine skip_ (w1 := (wd.setCell ⟨w.heap.size, n, none⟩ (.bool bk))) (by rfl) rfl ?_ ?_
       ·first | (go_simp; done) | (go_simp; rfl)
       refine hK.out _ _ ?_
       clear hK K
       refine done_ (done_of HT_.out (by kernel_rfl)) ?_
       have HS : Aside0 (NsI xs w n (k + 1) (o2.set n bk) (wd.setCell ⟨w.heap.size, n, none⟩ (.bool bk))) := ⟨(by have h_ := StI_step HD.out.1 hlt HK.out.1 HK.out.2; rw [EO.out, EA.out, EB.out] at h_; simpa using h_), Arr.set HD.out.2.1 _ _, below_set HD.out.2.2 (Nat.le_refl _)⟩
       clear hHeld HT_ HW_ fO cO2 HD
       go_wp2
       go_roundw
       case rel => exact ⟨k + 1, _, by have := HK.out; omega, by have := HK.out; omega, by go_num, HS.out⟩
       case measure => have := HK.out; simp [intOf]; omega
      | false =>
       refine start_ (n := 26) (S := fun w' => w'.cell? ⟨w.heap.size, n, none⟩ = some (.bool false) ∧ w'.cell? ⟨w.heap.size, n - k, none⟩ = some (.bool bk) ∧ w'.cell? ⟨g, k, none⟩ = some (.bool false)) (ds := [25]) (ms 26 0) (by kernel_rfl) rfl (by kernel_rfl) ⟨cO, cN, cA⟩ (fun hHeld => ?_); refine with_tabW st8.tab st8.bits (fun HT_ HW_ => ?_)
       generalize wr.drew = wd at hHeld HD ⊢
       have fO := Arr.frozen HD.out.2.1 n
       have cO2 := hHeld.1
       refine pure_ (i := 0) (N := some 16) (v := ?_) (a' := ?_) (ms 26 1) rfl rfl (any_of HT_.out (by kernel_rfl)) (fun _ _ _ h => h) (Or.inl ⟨by rfl, ?_⟩) ?_ ?_
       rotate_left
       ·intro w'
        go_simp
        with_reducible rfl
       rotate_left
       ·simp only [Act.put, List.setIfInBounds_toArray, List.set_cons_zero, List.set_cons_succ, i64_w, i32_w]
        rfl
       refine pure_ (i := 1) (N := some 17) (v := ?_) (a' := ?_) (ms 26 3) rfl rfl (any_of HT_.out (by kernel_rfl)) (fun _ _ _ h => h) (Or.inl ⟨by rfl, ?_⟩) ?_ ?_
       rotate_left
       ·intro w'
        go_simp
        with_reducible rfl
       rotate_left
       ·simp only [Act.put, List.setIfInBounds_toArray, List.set_cons_zero, List.set_cons_succ, i64_w, i32_w]
        rfl
       refine pure_ (i := 2) (N := some 18) (v := ?_) (a' := ?_) (ms 26 7) rfl rfl (any_of HT_.out (by kernel_rfl)) (fun _ _ _ h => h) (Or.inl ⟨by rfl, ?_⟩) ?_ ?_
       rotate_left
       ·intro w'
        go_simp
        with_reducible rfl
       rotate_left
       ·simp only [Act.put, List.setIfInBounds_toArray, List.set_cons_zero, List.set_cons_succ, i64_w, i32_w]
        rfl
       refine pure_ (i := 3) (N := some 19) (v := ?_) (a' := ?_) (ms 26 15) rfl rfl (any_of HT_.out (by kernel_rfl)) (fun _ _ _ h => h) (Or.inl ⟨by rfl, ?_⟩) ?_ ?_
       rotate_left
       ·intro w'
        go_simp
        with_reducible rfl
       rotate_left
       ·simp only [Act.put, List.setIfInBounds_toArray, List.set_cons_zero, List.set_cons_succ, i64_w, i32_w]
        rfl
       refine pure_ (i := 4) (N := some 20) (v := ?_) (a' := ?_) (ms 26 31) rfl rfl (any_of HT_.out (by kernel_rfl)) (fun _ _ _ h => h) (Or.inl ⟨by rfl, ?_⟩) ?_ ?_
       rotate_left
       ·intro w'
        go_simp
        with_reducible rfl
       rotate_left
       ·simp only [Act.put, List.setIfInBounds_toArray, List.set_cons_zero, List.set_cons_succ, i64_w, i32_w]
        rfl
       refine pure_ (i := 5) (N := some 21) (v := ?_) (a' := ?_) (ms 26 63) rfl rfl (any_of HT_.out (by kernel_rfl)) (fun _ _ _ h => h) (Or.inl ⟨by rfl, ?_⟩) ?_ ?_
       rotate_left
       ·intro w'
        go_simp
        with_reducible rfl
       rotate_left
       ·simp only [Act.put, List.setIfInBounds_toArray, List.set_cons_zero, List.set_cons_succ, i64_w, i32_w]
        rfl
       refine take_ (i := 6) (N := some 22) (v := ?_) (a' := ?_) (ms 26 127) rfl rfl (take_ofW HT_.out HW_.out (by kernel_rfl)) (fun _ _ _ h => h) (Or.inl ⟨by rfl, ?_⟩) hHeld ?_ ?_
       rotate_left
       ·intro w' hS
        obtain ⟨s0, s1, s2⟩ := hS
        go_simp
        with_reducible rfl
       rotate_left
       ·simp only [Act.put, List.setIfInBounds_toArray, List.set_cons_zero, List.set_cons_succ, i64_w, i32_w]
        rfl
       refine pure_ (i := 7) (N := some 23) (v := ?_) (a' := ?_) (ms 26 255) rfl rfl (any_of HT_.out (by kernel_rfl)) (fun _ _ _ h => h) (Or.inl ⟨by rfl, ?_⟩) ?_ ?_
       rotate_left
       ·intro w'
        go_simp
        with_reducible rfl
       rotate_left
       ·simp only [Act.put, List.setIfInBounds_toArray, List.set_cons_zero, List.set_cons_succ, i64_w, i32_w]
        rfl
       refine pure_ (i := 8) (N := some 24) (v := ?_) (a' := ?_) (ms 26 511) rfl rfl (any_of HT_.out (by kernel_rfl)) (fun _ _ _ h => h) (Or.inl ⟨by rfl, ?_⟩) ?_ ?_
       rotate_left
       ·intro w'
        go_simp
        with_reducible rfl
       rotate_left
       ·simp only [Act.put, List.setIfInBounds_toArray, List.set_cons_zero, List.set_cons_succ, i64_w, i32_w]
        rfl
       refine pure_ (i := 9) (N := some 25) (v := ?_) (a' := ?_) (ms 26 1023) rfl rfl (any_of HT_.out (by kernel_rfl)) (fun _ _ _ h => h) (Or.inl ⟨by rfl, ?_⟩) ?_ ?_
       rotate_left
       ·intro w'
        go_simp
        with_reducible rfl
       rotate_left
       ·simp only [Act.put, List.setIfInBounds_toArray, List.set_cons_zero, List.set_cons_succ, i64_w, i32_w]
        rfl
       refine pure_ (i := 10) (N := some 26) (v := ?_) (a' := ?_) (ms 26 2047) rfl rfl (any_of HT_.out (by kernel_rfl)) (fun _ _ _ h => h) (Or.inl ⟨by rfl, ?_⟩) ?_ ?_
       rotate_left
       ·intro w'
        go_simp
        with_reducible rfl
       rotate_left
       ·simp only [Act.put, List.setIfInBounds_toArray, List.set_cons_zero, List.set_cons_succ, i64_w, i32_w]
        rfl
       refine pure_ (i := 11) (N := some 27) (v := ?_) (a' := ?_) (ms 26 4095) rfl rfl (any_of HT_.out (by kernel_rfl)) (fun _ _ _ h => h) (Or.inl ⟨by rfl, ?_⟩) ?_ ?_
       rotate_left
       ·intro w'
        go_simp
        with_reducible rfl
       rotate_left
       ·simp only [Act.put, List.setIfInBounds_toArray, List.set_cons_zero, List.set_cons_succ, i64_w, i32_w]
        rfl
       refine take_ (i := 12) (N := some 28) (v := ?_) (a' := ?_) (ms 26 8191) rfl rfl (take_ofW HT_.out HW_.out (by kernel_rfl)) (fun _ _ _ h => h) (Or.inl ⟨by rfl, ?_⟩) hHeld ?_ ?_
       rotate_left
       ·intro w' hS
        obtain ⟨s0, s1, s2⟩ := hS
        go_simp
        with_reducible rfl
       rotate_left
       ·simp only [Act.put, List.setIfInBounds_toArray, List.set_cons_zero, List.set_cons_succ, i64_w, i32_w]
        rfl
       refine pure_ (i := 13) (N := some 29) (v := ?_) (a' := ?_) (ms 26 16383) rfl rfl (any_of HT_.out (by kernel_rfl)) (fun _ _ _ h => h) (Or.inl ⟨by rfl, ?_⟩) ?_ ?_
       rotate_left
       ·intro w'
        go_simp
        with_reducible rfl
       rotate_left
       ·simp only [Act.put, List.setIfInBounds_toArray, List.set_cons_zero, List.set_cons_succ, i64_w, i32_w]
        rfl
       refine pure_ (i := 14) (N := some 30) (v := undef) (a' := ?_) (ms 26 32767) rfl rfl (any_of HT_.out (by kernel_rfl)) (fun _ _ _ h => h) (Or.inr ⟨by rfl, rfl⟩) ?_ ?_
       rotate_left
       ·simp only [Act.put, List.setIfInBounds_toArray, List.set_cons_zero, List.set_cons_succ, i64_w, i32_w]
        rfl
       refine pure_ (i := 15) (N := some 31) (v := undef) (a' := ?_) (ms 26 65535) rfl rfl (any_of HT_.out (by kernel_rfl)) (fun _ _ _ h => h) (Or.inr ⟨by rfl, rfl⟩) ?_ ?_
       rotate_left
       ·simp only [Act.put, List.setIfInBounds_toArray, List.set_cons_zero, List.set_cons_succ, i64_w, i32_w]
        rfl
       refine pure_ (i := 16) (N := some 32) (v := undef) (a' := ?_) (ms 26 131071) rfl rfl (any_of HT_.out (by kernel_rfl)) (fun _ _ _ h => h) (Or.inr ⟨by rfl, rfl⟩) ?_ ?_
       rotate_left
       ·simp only [Act.put, List.setIfInBounds_toArray, List.set_cons_zero, List.set_cons_succ, i64_w, i32_w]
        rfl
       refine pure_ (i := 17) (N := some 33) (v := undef) (a' := ?_) (ms 26 262143) rfl rfl (any_of HT_.out (by kernel_rfl)) (fun _ _ _ h => h) (Or.inr ⟨by rfl, rfl⟩) ?_ ?_
       rotate_left
       ·simp only [Act.put, List.setIfInBounds_toArray, List.set_cons_zero, List.set_cons_succ, i64_w, i32_w]
        rfl
       refine pure_ (i := 18) (N := some 34) (v := undef) (a' := ?_) (ms 26 524287) rfl rfl (any_of HT_.out (by kernel_rfl)) (fun _ _ _ h => h) (Or.inr ⟨by rfl, rfl⟩) ?_ ?_
       rotate_left
       ·simp only [Act.put, List.setIfInBounds_toArray, List.set_cons_zero, List.set_cons_succ, i64_w, i32_w]
        rfl
       refine pure_ (i := 19) (N := some 35) (v := undef) (a' := ?_) (ms 26 1048575) rfl rfl (any_of HT_.out (by kernel_rfl)) (fun _ _ _ h => h) (Or.inr ⟨by rfl, rfl⟩) ?_ ?_
       rotate_left
       ·simp only [Act.put, List.setIfInBounds_toArray, List.set_cons_zero, List.set_cons_succ, i64_w, i32_w]
        rfl
       refine pure_ (i := 20) (N := some 36) (v := undef) (a' := ?_) (ms 26 2097151) rfl rfl (any_of HT_.out (by kernel_rfl)) (fun _ _ _ h => h) (Or.inr ⟨by rfl, rfl⟩) ?_ ?_
       rotate_left
       ·simp only [Act.put, List.setIfInBounds_toArray, List.set_cons_zero, List.set_cons_succ, i64_w, i32_w]
        rfl
       refine pure_ (i := 21) (N := some 37) (v := ?_) (a' := ?_) (ms 26 4194303) rfl rfl (any_of HT_.out (by kernel_rfl)) (fun _ _ _ h => h) (Or.inl ⟨by rfl, ?_⟩) ?_ ?_
       rotate_left
       ·intro w'
        go_simp
        with_reducible rfl
       rotate_left
       ·simp only [Act.put, List.setIfInBounds_toArray, List.set_cons_zero, List.set_cons_succ, i64_w, i32_w]
        rfl
       refine pure_ (i := 22) (N := some 38) (v := ?_) (a' := ?_) (ms 26 8388607) rfl rfl (any_of HT_.out (by kernel_rfl)) (fun _ _ _ h => h) (Or.inl ⟨by rfl, ?_⟩) ?_ ?_
       rotate_left
       ·intro w'
        go_simp
        with_reducible rfl
       rotate_left
       ·simp only [Act.put, List.setIfInBounds_toArray, List.set_cons_zero, List.set_cons_succ, i64_w, i32_w]
        rfl
       refine pure_ (i := 23) (N := some 39) (v := ?_) (a' := ?_) (ms 26 16777215) rfl rfl (any_of HT_.out (by kernel_rfl)) (fun _ _ _ h => h) (Or.inl ⟨by rfl, ?_⟩) ?_ ?_
       rotate_left
       ·intro w'
        go_simp
        with_reducible rfl
       rotate_left
       ·simp only [Act.put, List.setIfInBounds_toArray, List.set_cons_zero, List.set_cons_succ, i64_w, i32_w]
        rfl
       refine pure_ (i := 24) (N := some 40) (v := ?_) (a' := ?_) (ms 26 33554431) rfl rfl (any_of HT_.out (by kernel_rfl)) (fun _ _ _ h => h) (Or.inl ⟨by rfl, ?_⟩) ?_ ?_
       rotate_left
       ·intro w'
        go_simp
        with_reducible rfl
       rotate_left
       ·simp only [Act.put, List.setIfInBounds_toArray, List.set_cons_zero, List.set_cons_succ, i64_w, i32_w]
        rfl
       refine last_ (i := 25) (N := none) (ms 26 67108863) rfl rfl (one_of HT_.out (by kernel_rfl)) (by decide) (fun K hK => ?_)
       refine skip_ (w1 := (wd.setCell ⟨w.heap.size, n, none⟩ (.bool false))) (by rfl) rfl ?_ ?_
       ·first | (go_simp; done) | (go_simp; rfl)
       refine hK.out _ _ ?_
       clear hK K
       refine done_ (done_of HT_.out (by kernel_rfl)) ?_
       have HS : Aside0 (NsI xs w n (k + 1) (o2.set n false) (wd.setCell ⟨w.heap.size, n, none⟩ (.bool false))) := ⟨(by have h_ := StI_step HD.out.1 hlt HK.out.1 HK.out.2; rw [EO.out, EA.out, EB.out] at h_; simpa using h_), Arr.set HD.out.2.1 _ _, below_set HD.out.2.2 (Nat.le_refl _)⟩
       clear hHeld HT_ HW_ fO cO2 HD
       go_wp2
       go_roundw
       case rel => exact ⟨k + 1, _, by have := HK.out; omega, by have := HK.out; omega, by go_num, HS.out⟩
       case measure => have := HK.out; simp [intOf]; omega
    ·have k3 : decide ((k : Int) ≤ (n : Int)) = false := decide_eq_false (by omega)
     obtain rfl : k = n + 1 := by omega
     clear hk hk1 hlk
     go_wp2
     go_roundw
     case rel => exact ⟨n + 1, o2, by omega, by have := HI.out; omega, by go_num, StI_end HJ.out.1 HI.out.1, HJ.out.2⟩
     case measure => have := HI.out; simp [intOf]; omega
  ·have k1 : decide ((n : Int) ≤ 200) = false := decide_eq_false (by omega)
   obtain rfl : n = 201 := by omega
   go_wp2
   go_ret
   exact ⟨⟨_, out, rfl, Nat.le_refl _, HN.out.2.1, HN.out.1.1, StO_end HN.out.1⟩, HN.out.2.2⟩
/-- The signs are those of a term. -/
inductive Wt : Te → Prop where
 | leaf (c : UInt8) (h : tp_leaf c = true) : Wt (.leaf c)
 | one (c : UInt8) (x : Te) (h : tp_one c = true) (hx : Wt x) : Wt (.one c x)
 | two (c : UInt8) (x y : Te) (h : tp_op c = true) (hx : Wt x) (hy : Wt y) : Wt (.two c x y)
theorem te_wt (n : Nat) : ∀ (l r : List UInt8) (x : Te), te_rest n l = some (x, r) → Wt x := by
 induction n with
 | zero =>
  intro l r x h
  cases h
 | succ n ih =>
  intro l r x h
  cases l with
  | nil => cases h
  | cons c s =>
   rw [te_rest] at h
   by_cases k1 : tp_leaf c = true
   ·rw [if_pos k1] at h
    cases h
    exact .leaf c k1
   rw [if_neg k1] at h
   by_cases k2 : tp_one c = true
   ·rw [if_pos k2] at h
    cases h1 : te_rest n s with
    | none => rw [h1] at h; cases h
    | some p =>
     rw [h1] at h
     obtain ⟨y, q⟩ := p
     cases h
     exact .one c y k2 (ih _ _ _ h1)
   rw [if_neg k2] at h
   by_cases k3 : (c == 40) = true
   ·rw [if_pos k3] at h
    cases h1 : te_rest n s with
    | none => rw [h1] at h; cases h
    | some p =>
     rw [h1] at h
     obtain ⟨y, q⟩ := p
     cases q with
     | nil => cases h
     | cons d q =>
      rw [te_pair] at h
      by_cases k4 : tp_op d = true
      ·rw [if_pos k4] at h
       cases h2 : te_rest n q with
       | none => rw [h2] at h; cases h
       | some p2 =>
        rw [h2] at h
        obtain ⟨z, q2⟩ := p2
        cases q2 with
        | nil => cases h
        | cons e q2 =>
         rw [te_last] at h
         by_cases k5 : (e == 41) = true
         ·rw [if_pos k5] at h
          cases h
          exact .two d y z k4 (ih _ _ _ h1) (ih _ _ _ h2)
         ·rw [if_neg k5] at h
          cases h
      ·rw [if_neg k4] at h
       cases h
   ·rw [if_neg k3] at h
    cases h
theorem te_of_wt {l : List UInt8} {x : Te} (h : te_of l = some x) : Wt x := by
 unfold te_of at h
 split at h
 ·cases h1 : te_rest 61 l with
  | none => rw [h1] at h; cases h
  | some p =>
   rw [h1] at h
   obtain ⟨y, q⟩ := p
   cases q with
   | nil =>
    cases h
    exact te_wt _ _ _ _ h1
   | cons d q => cases h
 ·cases h
/-- The sum of so many of a set. -/
def pwB (a : Nat → Bool) : Nat → Nat → Bool
 | 0 => fun n => n == 0
 | m + 1 => sumB (pwB a m) a
/-- The numbers of a term. -/
def den : Te → Nat → Bool
 | .leaf c => fun n => if (c == 49) = true then n == 0 else if (c == 97) = true then n == 1 else false
 | .one c x => if (c == 42) = true then stB (den x) else pwB (den x) (c.toNat - 48)
 | .two c x y => if (c == 46) = true then sumB (den x) (den y) else fun n => if (c == 43) = true then den x n || den y n else den x n && den y n
theorem sumB_congr {a a' b b' : Nat → Bool} {n : Nat} (h : ∀ i, i ≤ n → a i = a' i) (k : ∀ i, i ≤ n → b i = b' i) : sumB a b n = sumB a' b' n := by
 rw [Bool.eq_iff_iff, sumB_iff, sumB_iff]
 constructor
 ·rintro ⟨j, h1, h2, h3⟩
  exact ⟨j, h1, by rw [← h j h1]; exact h2, by rw [← k (n - j) (by omega)]; exact h3⟩
 ·rintro ⟨j, h1, h2, h3⟩
  exact ⟨j, h1, by rw [h j h1]; exact h2, by rw [k (n - j) (by omega)]; exact h3⟩
theorem stB_congr {a a' : Nat → Bool} : ∀ n, (∀ i, i ≤ n → a i = a' i) → stB a n = stB a' n := by
 intro n
 induction n using Nat.strongRecOn with
 | _ n ih =>
  intro h
  cases n with
  | zero => rw [stB_zero, stB_zero]
  | succ n =>
   rw [Bool.eq_iff_iff, stB_iff (by omega), stB_iff (by omega)]
   constructor
   ·rintro ⟨j, h1, h2, h3, h4⟩
    exact ⟨j, h1, h2, by rw [← h j h2]; exact h3, by rw [← ih (n + 1 - j) (by omega) (fun i hi => h i (by omega))]; exact h4⟩
   ·rintro ⟨j, h1, h2, h3, h4⟩
    exact ⟨j, h1, h2, by rw [h j h2]; exact h3, by rw [ih (n + 1 - j) (by omega) (fun i hi => h i (by omega))]; exact h4⟩
theorem Arr.far {w : World} {g : Nat} {xs : List Bool} (h : Arr w g xs) {p : Addr} (hp : g ≠ p.block) (v : Value) : Arr (w.setCell p v) g xs := blk_far h hp v
theorem Arr.lt {w : World} {g : Nat} {xs : List Bool} (h : Arr w g xs) : g < w.heap.size := blk_lt h
def SetF (f : Nat → Bool) (i : Nat) (out : List Bool) : Prop := out.length = 201 ∧ ∀ m, m < 201 → mkb out m = if m < i then f m else false
theorem SetF_start (f : Nat → Bool) : SetF f 0 (List.replicate 201 false) := ⟨List.length_replicate, fun m hm => by rw [if_neg (by omega)]; exact mkb_rep 201 m⟩
theorem SetF_step {f : Nat → Bool} {i : Nat} {out : List Bool} (h : SetF f i out) (hi : i < 201) : SetF f (i + 1) (out.set i (f i)) := by
 refine ⟨by rw [List.length_set]; exact h.1, fun m hm => ?_⟩
 rw [mkb_set (by rw [h.1]; exact hi)]
 by_cases e : m = i
 ·subst e
  rw [if_pos rfl, if_pos (by omega)]
 ·rw [if_neg e, h.2 m hm]
  by_cases hlt : m < i
  ·rw [if_pos hlt, if_pos (by omega)]
  ·rw [if_neg hlt, if_neg (by omega)]
theorem SetF_end {f : Nat → Bool} {out : List Bool} (h : SetF f 201 out) : ∀ n, n < 201 → mkb out n = f n := fun n hn => by rw [h.2 n hn, if_pos hn]
def NbI (f : Nat → Bool) (w : World) (r1 r2 : Nat) (zs us : List Bool) (i : Nat) (out : List Bool) (wr : World) : Prop := SetF f i out ∧ Arr wr w.heap.size out ∧ Arr wr r1 zs ∧ Arr wr r2 us ∧ Below w.heap.size w wr
/-- What (*term).numbers answers. -/
def NmOut (x : Te) (w : World) (e : Ending) (w' : World) : Prop := (∃ r zs, e = .returned (.pointer (some ⟨r, 0, none⟩)) ∧ w.heap.size ≤ r ∧ Arr w' r zs ∧ zs.length = 201 ∧ ∀ n, n < 201 → mkb zs n = den x n) ∧ Below w.heap.size w w'
theorem nm_leaf_a : ∀ n, n < 201 → mkb ((List.replicate 201 false).set 1 true) n = den (.leaf 97) n := by
 intro n hn
 rw [mkb_set (by rw [List.length_replicate]; omega), mkb_rep]
 show _ = (n == 1)
 by_cases h : n = 1
 ·rw [if_pos h, h]
  rfl
 ·rw [if_neg h]
  exact (beq_eq_false_iff_ne.2 h).symm
theorem nm_leaf_one : ∀ n, n < 201 → mkb (true :: List.replicate 200 false) n = (n == 0) := by
 intro n hn
 cases n with
 | zero => rfl
 | succ n => exact mkb_rep 200 n
theorem nm_new {Z : Array Value} (hZ : Z = ((List.replicate 201 false).map Value.bool).toArray) (w : World) : Arr (w.alloc (.cells Z 54 (0, 0))) w.heap.size (List.replicate 201 false) := by
 unfold Arr
 rw [blk_new, hZ]
theorem set_arr (xs : List Bool) (i : Nat) (b : Bool) : (xs.map Value.bool).toArray.setIfInBounds i (.bool b) = ((xs.set i b).map Value.bool).toArray := by
 rw [List.map_set]
 simp
theorem nm_new1 {Z : Array Value} (hZ : Z = ((List.replicate 201 false).map Value.bool).toArray) (w : World) : Arr (w.alloc (.cells (Z.setIfInBounds 1 (.bool true)) 54 (0, 0))) w.heap.size ((List.replicate 201 false).set 1 true) := by
 unfold Arr
 rw [blk_new, hZ, set_arr]
set_option maxHeartbeats 8000000 in
set_option maxRecDepth 100000 in
theorem nm_leaf (c : UInt8) (hc : tp_leaf c = true) (g : Nat) (w : World) (hA : Stands w (.leaf c) g) : Calls Try.prog 20 #[.pointer (some ⟨g, 0, none⟩)] w (NmOut (.leaf c) w) := by
 have hu_ := Try.underlying54
 have hv_ := Try.underlying53
 have ht_ := Try.underlying48
 obtain ⟨Z, hZ, hz, hne⟩ := nm_z
 have c0 := Stands.sign hA
 have c1 : (w.alloc (.cells Z 54 (0, 0))).cell? ⟨g, 0, none⟩ = some (.int .u8 (c.toNat : Int)) := pw_cell_below (below_a1 _ _) c0
 have HN := Aside0.mk (nm_new hZ w)
 have HN1 := Aside0.mk (nm_new1 hZ w)
 have fz : (w.alloc (.cells Z 54 (0, 0))).frozen? ⟨w.heap.size, 1, none⟩ = false := Arr.frozen HN.out 1
 have cz : (w.alloc (.cells Z 54 (0, 0))).cell? ⟨w.heap.size, 1, none⟩ = some (.bool false) := Arr.cell HN.out (i := 1) (by rw [List.length_replicate]; omega) (mkb_rep 201 1)
 have hc3 : c = 48 ∨ c = 49 ∨ c = 97 := by
  unfold tp_leaf at hc
  simpa [or_assoc] using hc
 clear hZ hA hc c0
 rcases hc3 with rfl | rfl | rfl
 ·replace c1 : (w.alloc (.cells Z 54 (0, 0))).cell? ⟨g, 0, none⟩ = some (.int .u8 48) := c1
  go_enter Try.func20, Try.ntmps20
  go_wp2
  go_ret
  exact ⟨⟨_, _, rfl, Nat.le_refl _, HN.out, List.length_replicate, fun n hn => mkb_rep 201 n⟩, below_a1 _ _⟩
 ·replace c1 : (w.alloc (.cells Z 54 (0, 0))).cell? ⟨g, 0, none⟩ = some (.int .u8 49) := c1
  go_enter Try.func20, Try.ntmps20
  go_wp2_with (first | (go_at_call 28; (with_reducible refine (nm_zero _).mono ?_); rintro e W1 ⟨rfl, hZ, hb⟩; have HZ := Aside0.mk hZ; have HB1 := Aside0.mk hb; clear hZ hb))
  go_ret
  exact ⟨⟨w.heap.size + 1, _, rfl, Nat.le_succ _, (by have := HZ.out; rwa [size_alloc] at this), by rw [List.length_cons, List.length_replicate], nm_leaf_one⟩, below_step (below_a1 _ _) HB1.out⟩
 ·replace c1 : (w.alloc (.cells Z 54 (0, 0))).cell? ⟨g, 0, none⟩ = some (.int .u8 97) := c1
  go_enter Try.func20, Try.ntmps20
  go_wp2
  go_ret
  exact ⟨⟨_, _, rfl, Nat.le_refl _, HN1.out, by rw [List.length_set, List.length_replicate], nm_leaf_a⟩, below_a1 _ _⟩

def nb18.T : Bool × List (List Nat × List Nat) := (true, [([], []), ([0], [0]), ([1], [1]), ([2], [2]), ([3], [3]), ([4], [4]), ([5], [5]), ([], []), ([7], [7]), ([8], [8]), ([9], [9]), ([10], [10]), ([11], [11]), ([12, 6], [12]), ([6, 13, 0, 1, 2, 3, 4, 5, 6], [6]), ([13, 14, 0, 1, 2, 3, 4, 5, 6, 7, 8, 9, 10, 11, 12, 13, 14], [13])])
def nb18.B : List Nat := [0, 1, 3, 7, 15, 31, 63, 0, 128, 384, 896, 1920, 3968, 8191, 16383, 32767]
theorem nb18.tab : rtab .any (opsOf Try.f20 18) = nb18.T := by kernel_rfl
theorem nb18.bits : waitsOk nb18.T.2 nb18.B = true := by kernel_rfl

def nb25.T : Bool × List (List Nat × List Nat) := (true, [([], []), ([0], [0]), ([1], [1]), ([2], [2]), ([3], [3]), ([4], [4]), ([5], [5]), ([], []), ([7], [7]), ([8], [8]), ([9], [9]), ([10], [10]), ([11], [11]), ([12, 6], [12]), ([6, 13, 13], [6, 13]), ([14, 14, 0, 1, 2, 3, 4, 5, 6, 7, 8, 9, 10, 11, 12, 13, 14], [14])])
def nb25.B : List Nat := [0, 1, 3, 7, 15, 31, 63, 0, 128, 384, 896, 1920, 3968, 8191, 16383, 32767]
theorem nb25.tab : rtab .any (opsOf Try.f20 25) = nb25.T := by kernel_rfl
theorem nb25.bits : waitsOk nb25.T.2 nb25.B = true := by kernel_rfl

def nb22.T : Bool × List (List Nat × List Nat) := (true, [([], []), ([], []), ([], []), ([], []), ([2], [2]), ([4, 3], [3, 4]), ([5], [5]), ([6], [6]), ([7], [7]), ([7], [7]), ([8, 7], [7, 8]), ([10, 9, 7], [7, 9, 10]), ([11, 7], [7, 11]), ([7, 12], [7, 12]), ([13, 7], [13]), ([14], [14]), ([15, 14], [14, 15]), ([16, 14], [14, 16]), ([17, 14], [14, 17]), ([18, 14], [14, 18]), ([19, 14, 14], [14, 19]), ([20], [20]), ([20], [20]), ([21, 20], [20, 21]), ([23, 22, 20], [20, 22, 23]), ([24, 20], [20, 24]), ([25, 20, 20], [20, 25]), ([26], [26]), ([26], [26]), ([27, 26], [26, 27]), ([29, 28, 26], [26, 28, 29]), ([30, 26], [26, 30]), ([26, 31, 20], [20, 26, 31]), ([20, 32, 14], [14, 20, 32]), ([14, 33], [14, 33]), ([0], [0]), ([35, 1, 0, 1, 2, 3, 4, 5, 6, 7, 8, 9, 10, 11, 12, 13, 14, 15, 16, 17, 18, 19, 20, 21, 22, 23, 24, 25, 26, 27, 28, 29, 30, 31, 32, 33, 34], [1, 35]), ([36, 34, 26, 0, 1, 2, 3, 4, 5, 6, 7, 8, 9, 10, 11, 12, 13, 14, 15, 16, 17, 18, 19, 20, 21, 22, 23, 24, 25, 26, 27, 28, 29, 30, 31, 32, 33, 34], [34, 36])])
def nb22.B : List Nat := [0, 0, 0, 0, 4, 28, 60, 124, 252, 252, 508, 2044, 4092, 8188, 16380, 32764, 65532, 131068, 262140, 524284, 1048572, 2097148, 2097148, 4194300, 16777212, 33554428, 67108860, 134217724, 134217724, 268435452, 1073741820, 2147483644, 4294967292, 8589934588, 17179869180, 1, 68719476735, 137438953471]
theorem nb22.tab : rtab .any (opsOf Try.f20 22) = nb22.T := by kernel_rfl
theorem nb22.bits : waitsOk nb22.T.2 nb22.B = true := by kernel_rfl

theorem den_star (x : Te) (n : Nat) : den (.one 42 x) n = stB (den x) n := rfl
theorem den_pow {c : UInt8} (hc : (c == 42) = false) (x : Te) (n : Nat) : den (.one c x) n = pwB (den x) (c.toNat - 48) n := by
 rw [den, hc]
 rfl
theorem den_sum (x y : Te) (n : Nat) : den (.two 46 x y) n = sumB (den x) (den y) n := rfl
def opB (p : Bool) (a b : Nat → Bool) (n : Nat) : Bool := if p = true then a n || b n else a n && b n
theorem den_or (x y : Te) (n : Nat) : den (.two 43 x y) n = opB true (den x) (den y) n := rfl
theorem den_and (x y : Te) (n : Nat) : den (.two 38 x y) n = opB false (den x) (den y) n := rfl
theorem opB_congr {p : Bool} {a b a' b' : Nat → Bool} {n : Nat} (h : a n = a' n) (k : b n = b' n) : opB p a b n = opB p a' b' n := by
 unfold opB
 rw [h, k]
def NpI (f : Nat → Bool) (w : World) (r : Nat) (zs : List Bool) (m ro : Nat) (os : List Bool) (wr : World) : Prop := os.length = 201 ∧ (∀ n, n < 201 → mkb os n = pwB f m n) ∧ Arr wr ro os ∧ w.heap.size ≤ ro ∧ Arr wr r zs ∧ Below w.heap.size w wr
set_option maxHeartbeats 8000000 in
set_option maxRecDepth 100000 in
theorem nm_starred (x : Te) (g : Nat) (w : World) (hA : Stands w (.one 42 x) g) (ih : ∀ h W, Stands W x h → Calls Try.prog 20 #[.pointer (some ⟨h, 0, none⟩)] W (NmOut x W)) : Calls Try.prog 20 #[.pointer (some ⟨g, 0, none⟩)] w (NmOut (.one 42 x) w) := by
 have hu_ := Try.underlying54
 have hv_ := Try.underlying53
 have ht_ := Try.underlying48
 obtain ⟨Z, hZ, hz, hne⟩ := nm_z
 obtain ⟨B, h, cap, hA, cB, hx⟩ := hA
 have hb1 := below_a1 w (.cells Z 54 (0, 0))
 have c0 := pw_cell_below hb1 ((blk_cell hA 0).trans (show _ = some (Value.int .u8 42) from rfl))
 have c1 := pw_cell_below hb1 ((blk_cell hA 1).trans (show _ = some (Value.slice (some B) 1 cap) from rfl))
 have cB1 := pw_cell_below hb1 cB
 have IH := Aside0.mk (fun W hb => ih h W (Stands.below hb hx))
 have HB1 := Aside0.mk hb1
 clear hZ hA hx cB hb1
 clear ih
 go_enter Try.func20, Try.ntmps20
 go_wp2_with (first | (go_at_call 20; (with_reducible refine (IH.out _ HB1.out).mono ?_); rintro e W2 ⟨⟨r, zs, rfl, hr, hA2, hl, hd⟩, hb⟩; have HB2 := Aside0.mk (below_step HB1.out hb); have HA2 := Aside0.mk hA2; have HL := Aside0.mk hl; have HD := Aside0.mk hd; clear hr hA2 hl hd hb) | (go_at_call 29; (with_reducible refine (nm_star zs r _ HA2.out HL.out).mono ?_); rintro e W3 ⟨⟨r3, us, rfl, hr3, hA3, hl3, hd3⟩, hb⟩; have HB3 := Aside0.mk (below_step HB2.out hb); have HR3 := Aside0.mk hr3; have HA3 := Aside0.mk hA3; have HL3 := Aside0.mk hl3; have HD3 := Aside0.mk hd3; clear hr3 hA3 hl3 hd3 hb))
 go_ret
 exact ⟨⟨_, _, rfl, Nat.le_trans (below_size HB2.out) HR3.out, HA3.out, HL3.out, fun n hn => (HD3.out n hn).trans (stB_congr n (fun i hi => HD.out i (by omega)))⟩, HB3.out⟩
set_option maxHeartbeats 8000000 in
set_option maxRecDepth 100000 in
theorem nm_times (c : UInt8) (hc : 50 ≤ c.toNat ∧ c.toNat ≤ 53) (x : Te) (g : Nat) (w : World) (hA : Stands w (.one c x) g) (ih : ∀ h W, Stands W x h → Calls Try.prog 20 #[.pointer (some ⟨h, 0, none⟩)] W (NmOut x W)) : Calls Try.prog 20 #[.pointer (some ⟨g, 0, none⟩)] w (NmOut (.one c x) w) := by
 have hu_ := Try.underlying54
 have hv_ := Try.underlying53
 have ht_ := Try.underlying48
 obtain ⟨Z, hZ, hz, hne⟩ := nm_z
 obtain ⟨B, h, cap, hA, cB, hx⟩ := hA
 have hb1 := below_a1 w (.cells Z 54 (0, 0))
 have c00 := ((blk_cell hA 0).trans (show _ = some (Value.int .u8 (c.toNat : Int)) from rfl))
 have c0 := pw_cell_below hb1 c00
 have c1 := pw_cell_below hb1 ((blk_cell hA 1).trans (show _ = some (Value.slice (some B) 1 cap) from rfl))
 have cB1 := pw_cell_below hb1 cB
 have C0 := Aside0.mk c00
 have IH := Aside0.mk (fun W hb => ih h W (Stands.below hb hx))
 have HB1 := Aside0.mk hb1
 have e48 : ((c.toNat : Int) == 48) = false := beq_eq_false_iff_ne.2 (by omega)
 have e49 : ((c.toNat : Int) == 49) = false := beq_eq_false_iff_ne.2 (by omega)
 have e97 : ((c.toNat : Int) == 97) = false := beq_eq_false_iff_ne.2 (by omega)
 have e42 : ((c.toNat : Int) == 42) = false := beq_eq_false_iff_ne.2 (by omega)
 have e43 : ((c.toNat : Int) == 43) = false := beq_eq_false_iff_ne.2 (by omega)
 have e38 : ((c.toNat : Int) == 38) = false := beq_eq_false_iff_ne.2 (by omega)
 have e46 : ((c.toNat : Int) == 46) = false := beq_eq_false_iff_ne.2 (by omega)
 obtain ⟨M, hM⟩ : ∃ M : Nat, M = c.toNat - 48 := ⟨_, rfl⟩
 have eM : IntKind.u8.wrap ((c.toNat : Int) - 48) = (M : Int) := by
  have : IntKind.u8.wrap ((c.toNat : Int) - 48) = ((c.toNat : Int) - 48) % 256 := rfl
  omega
 have HM : Aside0 (M ≤ 5 ∧ M = c.toNat - 48) := ⟨by omega, hM⟩
 have HC : Aside0 ((c == 42) = false) := ⟨beq_eq_false_iff_ne.2 (by rintro rfl; exact absurd hc.1 (by decide))⟩
 clear hZ hA hx cB hb1 c00 hc hM
 clear ih
 go_enter Try.func20, Try.ntmps20
 go_wp2_with (first | (go_at_call 20; (with_reducible refine (IH.out _ HB1.out).mono ?_); rintro e W2 ⟨⟨r, zs, rfl, hr, hA2, hl, hd⟩, hb⟩; have HB2 := Aside0.mk (below_step HB1.out hb); have HA2 := Aside0.mk hA2; have HL := Aside0.mk hl; have HD := Aside0.mk hd; clear hr hA2 hl hd hb) | (go_at_call 28; (with_reducible refine (nm_zero _).mono ?_); rintro e W3 ⟨rfl, hZ3, hb⟩; have HB3 := Aside0.mk (below_step HB2.out hb); have HZ3 := Aside0.mk hZ3; have HA3 := Aside0.mk (Arr.below HA2.out hb); have c3 := pw_cell_below HB3.out C0.out; clear hZ3 hb))
 go_loopw [3, 27] (fun v3 v27 wr => ∃ (m ro : Nat) (os : List Bool), m ≤ M ∧ v3 = .pointer (some ⟨ro, 0, none⟩) ∧ v27 = .int .u8 m ∧ NpI (den x) w r zs m ro os wr) (fun _ v27 _ => M - (intOf v27).toNat)
 case atStart => exact ⟨0, _, _, Nat.zero_le _, rfl, rfl, by rw [List.length_cons, List.length_replicate], nm_leaf_one, HZ3.out, below_size HB2.out, HA3.out, HB3.out⟩
 case round =>
  obtain ⟨m, ro, os, hm, rfl, rfl, hN⟩ := hrel
  have HN := Aside0.mk hN
  clear hN HZ3 HA3 c3 c0 c1 cB1
  by_cases hlt : m < M
  ·have k1 : decide ((m : Int) < (M : Int)) = true := decide_eq_true (by omega)
   have k2 : (m : Int) < (M : Int) := by omega
   have k3 : IntKind.u8.wrap ((m : Int) + 1) = (m : Int) + 1 := by
    have : IntKind.u8.wrap ((m : Int) + 1) = ((m : Int) + 1) % 256 := rfl
    have := HM.out
    omega
   have HK : Aside0 (m < M) := ⟨hlt⟩
   have HO1 : Aside0 (Arr wr ro os) := ⟨HN.out.2.2.1⟩
   have HO2 : Aside0 (Arr wr r zs) := ⟨HN.out.2.2.2.2.1⟩
   have HO3 : Aside0 (os.length = 201) := ⟨HN.out.1⟩
   have HO4 : Aside0 (Below w.heap.size w wr) := ⟨HN.out.2.2.2.2.2⟩
   go_wp2_with (first | (go_at_call 30; (with_reducible refine (nm_plus os zs ro r _ HO1.out HO2.out HO3.out HL.out).mono ?_); rintro e W5 ⟨⟨r5, us, rfl, hr5, hA5, hl5, hd5⟩, hb⟩; have HB5 := Aside0.mk (below_step HO4.out hb); have HR5 := Aside0.mk (Nat.le_trans (below_size HO4.out) hr5); have HA5 := Aside0.mk hA5; have HL5 := Aside0.mk hl5; have HD5 := Aside0.mk hd5; have HZ5 := Aside0.mk (Arr.below HO2.out hb); clear hr5 hA5 hl5 hd5 hb))
   go_roundw
   case rel => exact ⟨m + 1, r5, us, by have := HK.out; omega, rfl, by go_num, HL5.out, fun n hn => (HD5.out n hn).trans (sumB_congr (fun i hi => HN.out.2.1 i (by omega)) (fun i hi => HD.out i (by omega))), HA5.out, HR5.out, HZ5.out, HB5.out⟩
   case measure => have := HK.out; simp [intOf]; omega
  ·have k1 : decide ((m : Int) < (M : Int)) = false := decide_eq_false (by omega)
   obtain rfl : m = M := by omega
   go_wp2
   go_ret
   exact ⟨⟨_, os, rfl, HN.out.2.2.2.1, HN.out.2.2.1, HN.out.1, fun n hn => by rw [den_pow HC.out, ← HM.out.2]; exact HN.out.2.1 n hn⟩, HN.out.2.2.2.2.2⟩

set_option maxHeartbeats 8000000 in
set_option maxRecDepth 100000 in
theorem nm_sum (x y : Te) (g : Nat) (w : World) (hA : Stands w (.two 46 x y) g) (ih : ∀ h W, Stands W x h → Calls Try.prog 20 #[.pointer (some ⟨h, 0, none⟩)] W (NmOut x W)) (ih2 : ∀ h W, Stands W y h → Calls Try.prog 20 #[.pointer (some ⟨h, 0, none⟩)] W (NmOut y W)) : Calls Try.prog 20 #[.pointer (some ⟨g, 0, none⟩)] w (NmOut (.two 46 x y) w) := by
 have hu_ := Try.underlying54
 have hv_ := Try.underlying53
 have ht_ := Try.underlying48
 obtain ⟨Z, hZ, hz, hne⟩ := nm_z
 obtain ⟨B, h, i, cap, hA, cB, cC, hx, hy⟩ := hA
 have hb1 := below_a1 w (.cells Z 54 (0, 0))
 have d0 := (blk_cell hA 0).trans (show _ = some (Value.int .u8 46) from rfl)
 have c1 := (blk_cell hA 1).trans (show _ = some (Value.slice (some B) 2 cap) from rfl)
 have c0 := pw_cell_below hb1 d0
 have D0 := Aside0.mk d0
 have IH := Aside0.mk (fun W hb => ih h W (Stands.below hb hx))
 have IH2 := Aside0.mk (fun W hb => ih2 i W (Stands.below hb hy))
 have HB1 := Aside0.mk hb1
 have HN := Aside0.mk (nm_new hZ w)
 clear hZ hA hx hy hb1 d0
 clear ih ih2
 go_enter Try.func20, Try.ntmps20
 try go_wp2_with fail
 have HN2 : Aside0 (Arr (w.alloc (.cells Z 54 (0, 0))).drew w.heap.size (List.replicate 201 false)) := ⟨Arr.below HN.out (below_drew1 (Below.refl _ _))⟩
 refine start_ (n := 16) (S := fun w' => Below w.heap.size w w') (ds := []) (ms 16 0) (by kernel_rfl) rfl (by kernel_rfl) (below_drew1 HB1.out) (fun hHeld => ?_); refine with_tabW nb25.tab nb25.bits (fun HT_ HW_ => ?_)
 generalize (w.alloc (.cells Z 54 (0, 0))).drew = wd at hHeld HN2 ⊢
 have hwd : w.heap.size < wd.heap.size := Arr.lt HN2.out
 have HW := Aside0.mk hwd
 clear hwd
 refine pure_ (i := 0) (N := some 113) (v := ?_) (a' := ?_) (ms 16 1) rfl rfl (any_of HT_.out (by kernel_rfl)) (fun _ _ _ h => h) (Or.inl ⟨by rfl, ?_⟩) ?_ ?_
 rotate_left
 ·intro w'
  go_simp
  with_reducible rfl
 rotate_left
 ·simp only [Act.put, List.setIfInBounds_toArray, List.set_cons_zero, List.set_cons_succ, i64_w, i32_w]
  rfl
 refine pure_ (i := 1) (N := some 114) (v := ?_) (a' := ?_) (ms 16 3) rfl rfl (any_of HT_.out (by kernel_rfl)) (fun _ _ _ h => h) (Or.inl ⟨by rfl, ?_⟩) ?_ ?_
 rotate_left
 ·intro w'
  go_simp
  with_reducible rfl
 rotate_left
 ·simp only [Act.put, List.setIfInBounds_toArray, List.set_cons_zero, List.set_cons_succ, i64_w, i32_w]
  rfl
 refine pure_ (i := 2) (N := some 115) (v := ?_) (a' := ?_) (ms 16 7) rfl rfl (any_of HT_.out (by kernel_rfl)) (fun _ _ _ h => h) (Or.inl ⟨by rfl, ?_⟩) ?_ ?_
 rotate_left
 ·intro w'
  go_simp
  with_reducible rfl
 rotate_left
 ·simp only [Act.put, List.setIfInBounds_toArray, List.set_cons_zero, List.set_cons_succ, i64_w, i32_w]
  rfl
 refine take_ (i := 3) (N := some 116) (v := ?_) (a' := ?_) (ms 16 15) rfl rfl (take_ofW HT_.out HW_.out (by kernel_rfl)) (fun _ _ _ h => h) (Or.inl ⟨by rfl, ?_⟩) hHeld ?_ ?_
 rotate_left
 ·intro w' hS
  have f1 := pw_cell_below hS c1
  have f2 := pw_cell_below hS cB
  have f3 := pw_cell_below hS cC
  go_simp
  with_reducible rfl
 rotate_left
 ·simp only [Act.put, List.setIfInBounds_toArray, List.set_cons_zero, List.set_cons_succ, i64_w, i32_w]
  rfl
 refine pure_ (i := 4) (N := some 117) (v := ?_) (a' := ?_) (ms 16 31) rfl rfl (any_of HT_.out (by kernel_rfl)) (fun _ _ _ h => h) (Or.inl ⟨by rfl, ?_⟩) ?_ ?_
 rotate_left
 ·intro w'
  go_simp
  with_reducible rfl
 rotate_left
 ·simp only [Act.put, List.setIfInBounds_toArray, List.set_cons_zero, List.set_cons_succ, i64_w, i32_w]
  rfl
 refine take_ (i := 5) (N := some 118) (v := ?_) (a' := ?_) (ms 16 63) rfl rfl (take_ofW HT_.out HW_.out (by kernel_rfl)) (fun _ _ _ h => h) (Or.inl ⟨by rfl, ?_⟩) hHeld ?_ ?_
 rotate_left
 ·intro w' hS
  have f1 := pw_cell_below hS c1
  have f2 := pw_cell_below hS cB
  have f3 := pw_cell_below hS cC
  go_simp
  with_reducible rfl
 rotate_left
 ·simp only [Act.put, List.setIfInBounds_toArray, List.set_cons_zero, List.set_cons_succ, i64_w, i32_w]
  rfl
 refine pure_ (i := 7) (N := some 120) (v := ?_) (a' := ?_) (ms 16 191) rfl rfl (any_of HT_.out (by kernel_rfl)) (fun _ _ _ h => h) (Or.inl ⟨by rfl, ?_⟩) ?_ ?_
 rotate_left
 ·intro w'
  go_simp
  with_reducible rfl
 rotate_left
 ·simp only [Act.put, List.setIfInBounds_toArray, List.set_cons_zero, List.set_cons_succ, i64_w, i32_w]
  rfl
 refine pure_ (i := 8) (N := some 121) (v := ?_) (a' := ?_) (ms 16 447) rfl rfl (any_of HT_.out (by kernel_rfl)) (fun _ _ _ h => h) (Or.inl ⟨by rfl, ?_⟩) ?_ ?_
 rotate_left
 ·intro w'
  go_simp
  with_reducible rfl
 rotate_left
 ·simp only [Act.put, List.setIfInBounds_toArray, List.set_cons_zero, List.set_cons_succ, i64_w, i32_w]
  rfl
 refine pure_ (i := 9) (N := some 122) (v := ?_) (a' := ?_) (ms 16 959) rfl rfl (any_of HT_.out (by kernel_rfl)) (fun _ _ _ h => h) (Or.inl ⟨by rfl, ?_⟩) ?_ ?_
 rotate_left
 ·intro w'
  go_simp
  with_reducible rfl
 rotate_left
 ·simp only [Act.put, List.setIfInBounds_toArray, List.set_cons_zero, List.set_cons_succ, i64_w, i32_w]
  rfl
 refine take_ (i := 10) (N := some 123) (v := ?_) (a' := ?_) (ms 16 1983) rfl rfl (take_ofW HT_.out HW_.out (by kernel_rfl)) (fun _ _ _ h => h) (Or.inl ⟨by rfl, ?_⟩) hHeld ?_ ?_
 rotate_left
 ·intro w' hS
  have f1 := pw_cell_below hS c1
  have f2 := pw_cell_below hS cB
  have f3 := pw_cell_below hS cC
  go_simp
  with_reducible rfl
 rotate_left
 ·simp only [Act.put, List.setIfInBounds_toArray, List.set_cons_zero, List.set_cons_succ, i64_w, i32_w]
  rfl
 refine pure_ (i := 11) (N := some 124) (v := ?_) (a' := ?_) (ms 16 4031) rfl rfl (any_of HT_.out (by kernel_rfl)) (fun _ _ _ h => h) (Or.inl ⟨by rfl, ?_⟩) ?_ ?_
 rotate_left
 ·intro w'
  go_simp
  with_reducible rfl
 rotate_left
 ·simp only [Act.put, List.setIfInBounds_toArray, List.set_cons_zero, List.set_cons_succ, i64_w, i32_w]
  rfl
 refine take_ (i := 12) (N := some 125) (v := ?_) (a' := ?_) (ms 16 8127) rfl rfl (take_ofW HT_.out HW_.out (by kernel_rfl)) (fun _ _ _ h => h) (Or.inl ⟨by rfl, ?_⟩) hHeld ?_ ?_
 rotate_left
 ·intro w' hS
  have f1 := pw_cell_below hS c1
  have f2 := pw_cell_below hS cB
  have f3 := pw_cell_below hS cC
  go_simp
  with_reducible rfl
 rotate_left
 ·simp only [Act.put, List.setIfInBounds_toArray, List.set_cons_zero, List.set_cons_succ, i64_w, i32_w]
  rfl
 refine one_ (i := 6) (N := some 119) (ms 16 8191) rfl rfl (one_of HT_.out (by kernel_rfl)) (by decide) (fun K hK => ?_)
 refine goes_ Try.func20 (by kernel_rfl) rfl #[.pointer (some ⟨h, 0, none⟩)] (by rfl) rfl rfl (by (try simp only [List.map_toArray, List.map_cons, List.map_nil]); first | done | rfl) ?_
 refine (IH.out _ hHeld).mono ?_
 rintro e W2 ⟨⟨r1, zs, rfl, hr, hA2, hl, hd⟩, hb⟩
 refine ⟨_, rfl, ?_⟩
 have HN3 := Aside0.mk (Arr.below HN2.out hb)
 have HA2 := Aside0.mk hA2
 have HL2 := Aside0.mk hl
 have HD2 := Aside0.mk hd
 have HR2 := Aside0.mk (Nat.lt_of_lt_of_le HW.out hr)
 have HW2 := Aside0.mk (Nat.lt_of_lt_of_le HW.out (below_size hb))
 refine hK.out _ _ (below_step hHeld hb) (fun hHeld => ?_)
 clear hb hA2 hl hd hr
 clear hK K
 refine norm_ (a' := ?_) ?_ ?_
 rotate_left
 ·show Act.put _ (some 119) _ = _
  simp only [Act.put, List.setIfInBounds_toArray, List.set_cons_zero, List.set_cons_succ, i64_w, i32_w]
  rfl
 refine one_ (i := 13) (N := some 126) (ms 16 16383) rfl rfl (one_of HT_.out (by kernel_rfl)) (by decide) (fun K hK => ?_)
 refine goes_ Try.func20 (by kernel_rfl) rfl #[.pointer (some ⟨i, 0, none⟩)] (by rfl) rfl rfl (by (try simp only [List.map_toArray, List.map_cons, List.map_nil]); first | done | rfl) ?_
 refine (IH2.out _ hHeld).mono ?_
 rintro e W3 ⟨⟨r2, us, rfl, hr, hA3, hl, hd⟩, hb⟩
 refine ⟨_, rfl, ?_⟩
 have HN4 := Aside0.mk (Arr.below HN3.out hb)
 have HA4 := Aside0.mk (Arr.below HA2.out hb)
 have HA3 := Aside0.mk hA3
 have HL3 := Aside0.mk hl
 have HD3 := Aside0.mk hd
 have HR3 := Aside0.mk (Nat.lt_of_lt_of_le HW2.out hr)
 refine hK.out _ _ (below_step hHeld hb) (fun hHeld => ?_)
 clear hb hA3 hl hd hr
 clear hK K
 refine norm_ (a' := ?_) ?_ ?_
 rotate_left
 ·show Act.put _ (some 126) _ = _
  simp only [Act.put, List.setIfInBounds_toArray, List.set_cons_zero, List.set_cons_succ, i64_w, i32_w]
  rfl
 refine one_ (i := 14) (N := some 127) (ms 16 32767) rfl rfl (one_of HT_.out (by kernel_rfl)) (by decide) (fun K hK => ?_)
 refine goes_ Try.func30 (by kernel_rfl) rfl #[.pointer (some ⟨r1, 0, none⟩), .pointer (some ⟨r2, 0, none⟩)] (by rfl) rfl rfl (by (try simp only [List.map_toArray, List.map_cons, List.map_nil]); first | done | rfl) ?_
 refine (nm_plus zs us r1 r2 _ HA4.out HA3.out HL2.out HL3.out).mono ?_
 rintro e W5 ⟨⟨r5, vs, rfl, hr, hA5, hl, hd⟩, hb⟩
 refine ⟨_, rfl, ?_⟩
 have HA5 := Aside0.mk hA5
 have HL5 := Aside0.mk hl
 have HD5 := Aside0.mk hd
 have HR5 := Aside0.mk (Nat.le_trans (below_size hHeld) hr)
 refine hK.out _ _ (below_step hHeld hb) (fun hHeld => ?_)
 clear hb hA5 hl hd hr
 clear hK K
 refine norm_ (a' := ?_) ?_ ?_
 rotate_left
 ·show Act.put _ (some 127) _ = _
  simp only [Act.put, List.setIfInBounds_toArray, List.set_cons_zero, List.set_cons_succ, i64_w, i32_w]
  rfl
 refine pure_ (i := 15) (N := some 2) (v := ?_) (a' := ?_) (ms 16 65535) rfl rfl (any_of HT_.out (by kernel_rfl)) (fun _ _ _ h => h) (Or.inl ⟨by rfl, ?_⟩) ?_ ?_
 rotate_left
 ·intro w'
  go_simp
  with_reducible rfl
 rotate_left
 ·simp only [Act.put, List.setIfInBounds_toArray, List.set_cons_zero, List.set_cons_succ, i64_w, i32_w]
  rfl
 refine done_ (done_of HT_.out (by kernel_rfl)) ?_
 have HB := Aside0.mk hHeld
 clear hHeld HT_ HW_
 go_wp2
 go_ret
 exact ⟨⟨_, _, rfl, HR5.out, HA5.out, HL5.out, fun n hn => (HD5.out n hn).trans (sumB_congr (fun j hj => HD2.out j (by omega)) (fun j hj => HD3.out j (by omega)))⟩, HB.out⟩
set_option maxHeartbeats 8000000 in
set_option maxRecDepth 100000 in
theorem nm_either (x y : Te) (g : Nat) (w : World) (hA : Stands w (.two 43 x y) g) (ih : ∀ h W, Stands W x h → Calls Try.prog 20 #[.pointer (some ⟨h, 0, none⟩)] W (NmOut x W)) (ih2 : ∀ h W, Stands W y h → Calls Try.prog 20 #[.pointer (some ⟨h, 0, none⟩)] W (NmOut y W)) : Calls Try.prog 20 #[.pointer (some ⟨g, 0, none⟩)] w (NmOut (.two 43 x y) w) := by
 have hu_ := Try.underlying54
 have hv_ := Try.underlying53
 have ht_ := Try.underlying48
 obtain ⟨Z, hZ, hz, hne⟩ := nm_z
 obtain ⟨B, h, i, cap, hA, cB, cC, hx, hy⟩ := hA
 have hb1 := below_a1 w (.cells Z 54 (0, 0))
 have d0 := (blk_cell hA 0).trans (show _ = some (Value.int .u8 43) from rfl)
 have c1 := (blk_cell hA 1).trans (show _ = some (Value.slice (some B) 2 cap) from rfl)
 have c0 := pw_cell_below hb1 d0
 have D0 := Aside0.mk d0
 have IH := Aside0.mk (fun W hb => ih h W (Stands.below hb hx))
 have IH2 := Aside0.mk (fun W hb => ih2 i W (Stands.below hb hy))
 have HB1 := Aside0.mk hb1
 have HN := Aside0.mk (nm_new hZ w)
 clear hZ hA hx hy hb1 d0
 clear ih ih2
 go_enter Try.func20, Try.ntmps20
 try go_wp2_with fail
 have HN2 : Aside0 (Arr (w.alloc (.cells Z 54 (0, 0))).drew w.heap.size (List.replicate 201 false)) := ⟨Arr.below HN.out (below_drew1 (Below.refl _ _))⟩
 refine start_ (n := 16) (S := fun w' => Below w.heap.size w w') (ds := []) (ms 16 0) (by kernel_rfl) rfl (by kernel_rfl) (below_drew1 HB1.out) (fun hHeld => ?_); refine with_tabW nb18.tab nb18.bits (fun HT_ HW_ => ?_)
 generalize (w.alloc (.cells Z 54 (0, 0))).drew = wd at hHeld HN2 ⊢
 have hwd : w.heap.size < wd.heap.size := Arr.lt HN2.out
 have HW := Aside0.mk hwd
 clear hwd
 refine pure_ (i := 0) (N := some 56) (v := ?_) (a' := ?_) (ms 16 1) rfl rfl (any_of HT_.out (by kernel_rfl)) (fun _ _ _ h => h) (Or.inl ⟨by rfl, ?_⟩) ?_ ?_
 rotate_left
 ·intro w'
  go_simp
  with_reducible rfl
 rotate_left
 ·simp only [Act.put, List.setIfInBounds_toArray, List.set_cons_zero, List.set_cons_succ, i64_w, i32_w]
  rfl
 refine pure_ (i := 1) (N := some 57) (v := ?_) (a' := ?_) (ms 16 3) rfl rfl (any_of HT_.out (by kernel_rfl)) (fun _ _ _ h => h) (Or.inl ⟨by rfl, ?_⟩) ?_ ?_
 rotate_left
 ·intro w'
  go_simp
  with_reducible rfl
 rotate_left
 ·simp only [Act.put, List.setIfInBounds_toArray, List.set_cons_zero, List.set_cons_succ, i64_w, i32_w]
  rfl
 refine pure_ (i := 2) (N := some 58) (v := ?_) (a' := ?_) (ms 16 7) rfl rfl (any_of HT_.out (by kernel_rfl)) (fun _ _ _ h => h) (Or.inl ⟨by rfl, ?_⟩) ?_ ?_
 rotate_left
 ·intro w'
  go_simp
  with_reducible rfl
 rotate_left
 ·simp only [Act.put, List.setIfInBounds_toArray, List.set_cons_zero, List.set_cons_succ, i64_w, i32_w]
  rfl
 refine take_ (i := 3) (N := some 59) (v := ?_) (a' := ?_) (ms 16 15) rfl rfl (take_ofW HT_.out HW_.out (by kernel_rfl)) (fun _ _ _ h => h) (Or.inl ⟨by rfl, ?_⟩) hHeld ?_ ?_
 rotate_left
 ·intro w' hS
  have f1 := pw_cell_below hS c1
  have f2 := pw_cell_below hS cB
  have f3 := pw_cell_below hS cC
  go_simp
  with_reducible rfl
 rotate_left
 ·simp only [Act.put, List.setIfInBounds_toArray, List.set_cons_zero, List.set_cons_succ, i64_w, i32_w]
  rfl
 refine pure_ (i := 4) (N := some 60) (v := ?_) (a' := ?_) (ms 16 31) rfl rfl (any_of HT_.out (by kernel_rfl)) (fun _ _ _ h => h) (Or.inl ⟨by rfl, ?_⟩) ?_ ?_
 rotate_left
 ·intro w'
  go_simp
  with_reducible rfl
 rotate_left
 ·simp only [Act.put, List.setIfInBounds_toArray, List.set_cons_zero, List.set_cons_succ, i64_w, i32_w]
  rfl
 refine take_ (i := 5) (N := some 61) (v := ?_) (a' := ?_) (ms 16 63) rfl rfl (take_ofW HT_.out HW_.out (by kernel_rfl)) (fun _ _ _ h => h) (Or.inl ⟨by rfl, ?_⟩) hHeld ?_ ?_
 rotate_left
 ·intro w' hS
  have f1 := pw_cell_below hS c1
  have f2 := pw_cell_below hS cB
  have f3 := pw_cell_below hS cC
  go_simp
  with_reducible rfl
 rotate_left
 ·simp only [Act.put, List.setIfInBounds_toArray, List.set_cons_zero, List.set_cons_succ, i64_w, i32_w]
  rfl
 refine pure_ (i := 7) (N := some 63) (v := ?_) (a' := ?_) (ms 16 191) rfl rfl (any_of HT_.out (by kernel_rfl)) (fun _ _ _ h => h) (Or.inl ⟨by rfl, ?_⟩) ?_ ?_
 rotate_left
 ·intro w'
  go_simp
  with_reducible rfl
 rotate_left
 ·simp only [Act.put, List.setIfInBounds_toArray, List.set_cons_zero, List.set_cons_succ, i64_w, i32_w]
  rfl
 refine pure_ (i := 8) (N := some 64) (v := ?_) (a' := ?_) (ms 16 447) rfl rfl (any_of HT_.out (by kernel_rfl)) (fun _ _ _ h => h) (Or.inl ⟨by rfl, ?_⟩) ?_ ?_
 rotate_left
 ·intro w'
  go_simp
  with_reducible rfl
 rotate_left
 ·simp only [Act.put, List.setIfInBounds_toArray, List.set_cons_zero, List.set_cons_succ, i64_w, i32_w]
  rfl
 refine pure_ (i := 9) (N := some 65) (v := ?_) (a' := ?_) (ms 16 959) rfl rfl (any_of HT_.out (by kernel_rfl)) (fun _ _ _ h => h) (Or.inl ⟨by rfl, ?_⟩) ?_ ?_
 rotate_left
 ·intro w'
  go_simp
  with_reducible rfl
 rotate_left
 ·simp only [Act.put, List.setIfInBounds_toArray, List.set_cons_zero, List.set_cons_succ, i64_w, i32_w]
  rfl
 refine take_ (i := 10) (N := some 66) (v := ?_) (a' := ?_) (ms 16 1983) rfl rfl (take_ofW HT_.out HW_.out (by kernel_rfl)) (fun _ _ _ h => h) (Or.inl ⟨by rfl, ?_⟩) hHeld ?_ ?_
 rotate_left
 ·intro w' hS
  have f1 := pw_cell_below hS c1
  have f2 := pw_cell_below hS cB
  have f3 := pw_cell_below hS cC
  go_simp
  with_reducible rfl
 rotate_left
 ·simp only [Act.put, List.setIfInBounds_toArray, List.set_cons_zero, List.set_cons_succ, i64_w, i32_w]
  rfl
 refine pure_ (i := 11) (N := some 67) (v := ?_) (a' := ?_) (ms 16 4031) rfl rfl (any_of HT_.out (by kernel_rfl)) (fun _ _ _ h => h) (Or.inl ⟨by rfl, ?_⟩) ?_ ?_
 rotate_left
 ·intro w'
  go_simp
  with_reducible rfl
 rotate_left
 ·simp only [Act.put, List.setIfInBounds_toArray, List.set_cons_zero, List.set_cons_succ, i64_w, i32_w]
  rfl
 refine take_ (i := 12) (N := some 68) (v := ?_) (a' := ?_) (ms 16 8127) rfl rfl (take_ofW HT_.out HW_.out (by kernel_rfl)) (fun _ _ _ h => h) (Or.inl ⟨by rfl, ?_⟩) hHeld ?_ ?_
 rotate_left
 ·intro w' hS
  have f1 := pw_cell_below hS c1
  have f2 := pw_cell_below hS cB
  have f3 := pw_cell_below hS cC
  go_simp
  with_reducible rfl
 rotate_left
 ·simp only [Act.put, List.setIfInBounds_toArray, List.set_cons_zero, List.set_cons_succ, i64_w, i32_w]
  rfl
 refine one_ (i := 6) (N := some 62) (ms 16 8191) rfl rfl (one_of HT_.out (by kernel_rfl)) (by decide) (fun K hK => ?_)
 refine goes_ Try.func20 (by kernel_rfl) rfl #[.pointer (some ⟨h, 0, none⟩)] (by rfl) rfl rfl (by (try simp only [List.map_toArray, List.map_cons, List.map_nil]); first | done | rfl) ?_
 refine (IH.out _ hHeld).mono ?_
 rintro e W2 ⟨⟨r1, zs, rfl, hr, hA2, hl, hd⟩, hb⟩
 refine ⟨_, rfl, ?_⟩
 have HN3 := Aside0.mk (Arr.below HN2.out hb)
 have HA2 := Aside0.mk hA2
 have HL2 := Aside0.mk hl
 have HD2 := Aside0.mk hd
 have HR2 := Aside0.mk (Nat.lt_of_lt_of_le HW.out hr)
 have HW2 := Aside0.mk (Nat.lt_of_lt_of_le HW.out (below_size hb))
 refine hK.out _ _ (below_step hHeld hb) (fun hHeld => ?_)
 clear hb hA2 hl hd hr
 clear hK K
 refine norm_ (a' := ?_) ?_ ?_
 rotate_left
 ·show Act.put _ (some 62) _ = _
  simp only [Act.put, List.setIfInBounds_toArray, List.set_cons_zero, List.set_cons_succ, i64_w, i32_w]
  rfl
 refine one_ (i := 13) (N := some 69) (ms 16 16383) rfl rfl (one_of HT_.out (by kernel_rfl)) (by decide) (fun K hK => ?_)
 refine goes_ Try.func20 (by kernel_rfl) rfl #[.pointer (some ⟨i, 0, none⟩)] (by rfl) rfl rfl (by (try simp only [List.map_toArray, List.map_cons, List.map_nil]); first | done | rfl) ?_
 refine (IH2.out _ hHeld).mono ?_
 rintro e W3 ⟨⟨r2, us, rfl, hr, hA3, hl, hd⟩, hb⟩
 refine ⟨_, rfl, ?_⟩
 have HN4 := Aside0.mk (Arr.below HN3.out hb)
 have HA4 := Aside0.mk (Arr.below HA2.out hb)
 have HA3 := Aside0.mk hA3
 have HL3 := Aside0.mk hl
 have HD3 := Aside0.mk hd
 have HR3 := Aside0.mk (Nat.lt_of_lt_of_le HW2.out hr)
 refine hK.out _ _ (below_step hHeld hb) (fun hHeld => ?_)
 clear hb hA3 hl hd hr
 clear hK K
 refine norm_ (a' := ?_) ?_ ?_
 rotate_left
 ·show Act.put _ (some 69) _ = _
  simp only [Act.put, List.setIfInBounds_toArray, List.set_cons_zero, List.set_cons_succ, i64_w, i32_w]
  rfl
 refine pure_ (i := 14) (N := some 4) (v := ?_) (a' := ?_) (ms 16 32767) rfl rfl (any_of HT_.out (by kernel_rfl)) (fun _ _ _ h => h) (Or.inl ⟨by rfl, ?_⟩) ?_ ?_
 rotate_left
 ·intro w'
  go_simp
  with_reducible rfl
 rotate_left
 ·simp only [Act.put, List.setIfInBounds_toArray, List.set_cons_zero, List.set_cons_succ, i64_w, i32_w]
  rfl
 refine pure_ (i := 15) (N := some 5) (v := ?_) (a' := ?_) (ms 16 65535) rfl rfl (any_of HT_.out (by kernel_rfl)) (fun _ _ _ h => h) (Or.inl ⟨by rfl, ?_⟩) ?_ ?_
 rotate_left
 ·intro w'
  go_simp
  with_reducible rfl
 rotate_left
 ·simp only [Act.put, List.setIfInBounds_toArray, List.set_cons_zero, List.set_cons_succ, i64_w, i32_w]
  rfl
 refine done_ (done_of HT_.out (by kernel_rfl)) ?_
 have HB := Aside0.mk hHeld
 clear hHeld HT_ HW_ c0 c1 cB cC HN HN2 HN3 HW HW2 HA2 HB1 IH IH2
 go_wp2
 go_loopw [70] (fun v70 wr => ∃ (j : Nat) (out : List Bool), j ≤ 201 ∧ v70 = .int .i64 j ∧ NbI (opB true (mkb zs) (mkb us)) w r1 r2 zs us j out wr) (fun v70 _ => 201 - (intOf v70).toNat)
 case atStart => exact ⟨0, _, by omega, rfl, SetF_start _, HN4.out, HA4.out, HA3.out, HB.out⟩
 case round =>
  obtain ⟨j, out, hj, rfl, hN⟩ := hrel
  have HJ := Aside0.mk hN
  clear hN HN4 HA4 HA3 HB
  by_cases hlt : j < 201
  ·have k1 : decide ((j : Int) < 201) = true := decide_eq_true (by omega)
   have k2 : (j : Int) < 201 := by omega
   obtain ⟨av, ea⟩ : ∃ b, mkb zs j = b := ⟨_, rfl⟩
   obtain ⟨bv, eb⟩ : ∃ b, mkb us j = b := ⟨_, rfl⟩
   have cA := Arr.cell HJ.out.2.2.1 (i := j) (by rw [HL2.out]; exact hlt) ea
   have cB := Arr.cell HJ.out.2.2.2.1 (i := j) (by rw [HL3.out]; exact hlt) eb
   have cG := pw_cell_below HJ.out.2.2.2.2 D0.out
   have EA := Aside0.mk ea
   have EB := Aside0.mk eb
   have HD : Aside0 (NbI (opB true (mkb zs) (mkb us)) w r1 r2 zs us j out wr.drew) := ⟨HJ.out.1, Arr.below HJ.out.2.1 (below_drew1 (Below.refl _ _)), Arr.below HJ.out.2.2.1 (below_drew1 (Below.refl _ _)), Arr.below HJ.out.2.2.2.1 (below_drew1 (Below.refl _ _)), below_drew1 HJ.out.2.2.2.2⟩
   have HK : Aside0 (j < 201) := ⟨hlt⟩
   clear ea eb hj
   go_wp2
   cases av with
   | true =>
    cases bv with
    | true =>
     refine start_ (n := 38) (S := fun w' => w'.cell? ⟨r1, j, none⟩ = some (.bool true) ∧ w'.cell? ⟨r2, j, none⟩ = some (.bool true) ∧ w'.cell? ⟨g, 0, none⟩ = some (.int .u8 43)) (ds := [37]) (ms 38 0) (by kernel_rfl) rfl (by kernel_rfl) ⟨cA, cB, cG⟩ (fun hHeld => ?_); refine with_tabW nb22.tab nb22.bits (fun HT_ HW_ => ?_)
     generalize wr.drew = wd at hHeld HD ⊢
     have fO := Arr.frozen HD.out.2.1 j
     have cO := Arr.cell HD.out.2.1 (i := j) (by rw [HD.out.1.1]; exact hlt) (show mkb out j = false from by rw [HD.out.1.2 j hlt, if_neg (Nat.lt_irrefl j)])
     refine pure_ (i := 0) (N := some 73) (v := ?_) (a' := ?_) (ms 38 1) rfl rfl (any_of HT_.out (by kernel_rfl)) (fun _ _ _ h => h) (Or.inl ⟨by rfl, ?_⟩) ?_ ?_
     rotate_left
     ·intro w'
      go_simp
      with_reducible rfl
     rotate_left
     ·simp only [Act.put, List.setIfInBounds_toArray, List.set_cons_zero, List.set_cons_succ, i64_w, i32_w]
      rfl
     refine pure_ (i := 1) (N := some 74) (v := ?_) (a' := ?_) (ms 38 3) rfl rfl (any_of HT_.out (by kernel_rfl)) (fun _ _ _ h => h) (Or.inl ⟨by rfl, ?_⟩) ?_ ?_
     rotate_left
     ·intro w'
      go_simp
      with_reducible rfl
     rotate_left
     ·simp only [Act.put, List.setIfInBounds_toArray, List.set_cons_zero, List.set_cons_succ, i64_w, i32_w]
      rfl
     refine pure_ (i := 2) (N := some 75) (v := ?_) (a' := ?_) (ms 38 7) rfl rfl (any_of HT_.out (by kernel_rfl)) (fun _ _ _ h => h) (Or.inl ⟨by rfl, ?_⟩) ?_ ?_
     rotate_left
     ·intro w'
      go_simp
      with_reducible rfl
     rotate_left
     ·simp only [Act.put, List.setIfInBounds_toArray, List.set_cons_zero, List.set_cons_succ, i64_w, i32_w]
      rfl
     refine pure_ (i := 3) (N := some 76) (v := ?_) (a' := ?_) (ms 38 15) rfl rfl (any_of HT_.out (by kernel_rfl)) (fun _ _ _ h => h) (Or.inl ⟨by rfl, ?_⟩) ?_ ?_
     rotate_left
     ·intro w'
      go_simp
      with_reducible rfl
     rotate_left
     ·simp only [Act.put, List.setIfInBounds_toArray, List.set_cons_zero, List.set_cons_succ, i64_w, i32_w]
      rfl
     refine pure_ (i := 4) (N := some 77) (v := ?_) (a' := ?_) (ms 38 31) rfl rfl (any_of HT_.out (by kernel_rfl)) (fun _ _ _ h => h) (Or.inl ⟨by rfl, ?_⟩) ?_ ?_
     rotate_left
     ·intro w'
      go_simp
      with_reducible rfl
     rotate_left
     ·simp only [Act.put, List.setIfInBounds_toArray, List.set_cons_zero, List.set_cons_succ, i64_w, i32_w]
      rfl
     refine pure_ (i := 5) (N := some 78) (v := ?_) (a' := ?_) (ms 38 63) rfl rfl (any_of HT_.out (by kernel_rfl)) (fun _ _ _ h => h) (Or.inl ⟨by rfl, ?_⟩) ?_ ?_
     rotate_left
     ·intro w'
      go_simp
      with_reducible rfl
     rotate_left
     ·simp only [Act.put, List.setIfInBounds_toArray, List.set_cons_zero, List.set_cons_succ, i64_w, i32_w]
      rfl
     refine take_ (i := 6) (N := some 79) (v := ?_) (a' := ?_) (ms 38 127) rfl rfl (take_ofW HT_.out HW_.out (by kernel_rfl)) (fun _ _ _ h => h) (Or.inl ⟨by rfl, ?_⟩) hHeld ?_ ?_
     rotate_left
     ·intro w' hS
      obtain ⟨s0, s1, s2⟩ := hS
      go_simp
      with_reducible rfl
     rotate_left
     ·simp only [Act.put, List.setIfInBounds_toArray, List.set_cons_zero, List.set_cons_succ, i64_w, i32_w]
      rfl
     refine pure_ (i := 7) (N := some 80) (v := ?_) (a' := ?_) (ms 38 255) rfl rfl (any_of HT_.out (by kernel_rfl)) (fun _ _ _ h => h) (Or.inl ⟨by rfl, ?_⟩) ?_ ?_
     rotate_left
     ·intro w'
      go_simp
      with_reducible rfl
     rotate_left
     ·simp only [Act.put, List.setIfInBounds_toArray, List.set_cons_zero, List.set_cons_succ, i64_w, i32_w]
      rfl
     refine pure_ (i := 8) (N := some 81) (v := ?_) (a' := ?_) (ms 38 511) rfl rfl (any_of HT_.out (by kernel_rfl)) (fun _ _ _ h => h) (Or.inl ⟨by rfl, ?_⟩) ?_ ?_
     rotate_left
     ·intro w'
      go_simp
      with_reducible rfl
     rotate_left
     ·simp only [Act.put, List.setIfInBounds_toArray, List.set_cons_zero, List.set_cons_succ, i64_w, i32_w]
      rfl
     refine pure_ (i := 9) (N := some 82) (v := ?_) (a' := ?_) (ms 38 1023) rfl rfl (any_of HT_.out (by kernel_rfl)) (fun _ _ _ h => h) (Or.inl ⟨by rfl, ?_⟩) ?_ ?_
     rotate_left
     ·intro w'
      go_simp
      with_reducible rfl
     rotate_left
     ·simp only [Act.put, List.setIfInBounds_toArray, List.set_cons_zero, List.set_cons_succ, i64_w, i32_w]
      rfl
     refine pure_ (i := 10) (N := some 83) (v := ?_) (a' := ?_) (ms 38 2047) rfl rfl (any_of HT_.out (by kernel_rfl)) (fun _ _ _ h => h) (Or.inl ⟨by rfl, ?_⟩) ?_ ?_
     rotate_left
     ·intro w'
      go_simp
      with_reducible rfl
     rotate_left
     ·simp only [Act.put, List.setIfInBounds_toArray, List.set_cons_zero, List.set_cons_succ, i64_w, i32_w]
      rfl
     refine pure_ (i := 11) (N := some 84) (v := ?_) (a' := ?_) (ms 38 4095) rfl rfl (any_of HT_.out (by kernel_rfl)) (fun _ _ _ h => h) (Or.inl ⟨by rfl, ?_⟩) ?_ ?_
     rotate_left
     ·intro w'
      go_simp
      with_reducible rfl
     rotate_left
     ·simp only [Act.put, List.setIfInBounds_toArray, List.set_cons_zero, List.set_cons_succ, i64_w, i32_w]
      rfl
     refine take_ (i := 12) (N := some 85) (v := ?_) (a' := ?_) (ms 38 8191) rfl rfl (take_ofW HT_.out HW_.out (by kernel_rfl)) (fun _ _ _ h => h) (Or.inl ⟨by rfl, ?_⟩) hHeld ?_ ?_
     rotate_left
     ·intro w' hS
      obtain ⟨s0, s1, s2⟩ := hS
      go_simp
      with_reducible rfl
     rotate_left
     ·simp only [Act.put, List.setIfInBounds_toArray, List.set_cons_zero, List.set_cons_succ, i64_w, i32_w]
      rfl
     refine pure_ (i := 13) (N := some 86) (v := ?_) (a' := ?_) (ms 38 16383) rfl rfl (any_of HT_.out (by kernel_rfl)) (fun _ _ _ h => h) (Or.inl ⟨by rfl, ?_⟩) ?_ ?_
     rotate_left
     ·intro w'
      go_simp
      with_reducible rfl
     rotate_left
     ·simp only [Act.put, List.setIfInBounds_toArray, List.set_cons_zero, List.set_cons_succ, i64_w, i32_w]
      rfl
     refine pure_ (i := 14) (N := some 87) (v := ?_) (a' := ?_) (ms 38 32767) rfl rfl (any_of HT_.out (by kernel_rfl)) (fun _ _ _ h => h) (Or.inl ⟨by rfl, ?_⟩) ?_ ?_
     rotate_left
     ·intro w'
      go_simp
      with_reducible rfl
     rotate_left
     ·simp only [Act.put, List.setIfInBounds_toArray, List.set_cons_zero, List.set_cons_succ, i64_w, i32_w]
      rfl
     refine pure_ (i := 15) (N := some 88) (v := undef) (a' := ?_) (ms 38 65535) rfl rfl (any_of HT_.out (by kernel_rfl)) (fun _ _ _ h => h) (Or.inr ⟨by rfl, rfl⟩) ?_ ?_
     rotate_left
     ·simp only [Act.put, List.setIfInBounds_toArray, List.set_cons_zero, List.set_cons_succ, i64_w, i32_w]
      rfl
     refine pure_ (i := 16) (N := some 89) (v := undef) (a' := ?_) (ms 38 131071) rfl rfl (any_of HT_.out (by kernel_rfl)) (fun _ _ _ h => h) (Or.inr ⟨by rfl, rfl⟩) ?_ ?_
     rotate_left
     ·simp only [Act.put, List.setIfInBounds_toArray, List.set_cons_zero, List.set_cons_succ, i64_w, i32_w]
      rfl
     refine pure_ (i := 17) (N := some 90) (v := undef) (a' := ?_) (ms 38 262143) rfl rfl (any_of HT_.out (by kernel_rfl)) (fun _ _ _ h => h) (Or.inr ⟨by rfl, rfl⟩) ?_ ?_
     rotate_left
     ·simp only [Act.put, List.setIfInBounds_toArray, List.set_cons_zero, List.set_cons_succ, i64_w, i32_w]
      rfl
     refine pure_ (i := 18) (N := some 91) (v := undef) (a' := ?_) (ms 38 524287) rfl rfl (any_of HT_.out (by kernel_rfl)) (fun _ _ _ h => h) (Or.inr ⟨by rfl, rfl⟩) ?_ ?_
     rotate_left
     ·simp only [Act.put, List.setIfInBounds_toArray, List.set_cons_zero, List.set_cons_succ, i64_w, i32_w]
      rfl
     refine pure_ (i := 19) (N := some 92) (v := undef) (a' := ?_) (ms 38 1048575) rfl rfl (any_of HT_.out (by kernel_rfl)) (fun _ _ _ h => h) (Or.inr ⟨by rfl, rfl⟩) ?_ ?_
     rotate_left
     ·simp only [Act.put, List.setIfInBounds_toArray, List.set_cons_zero, List.set_cons_succ, i64_w, i32_w]
      rfl
     refine pure_ (i := 20) (N := some 93) (v := undef) (a' := ?_) (ms 38 2097151) rfl rfl (any_of HT_.out (by kernel_rfl)) (fun _ _ _ h => h) (Or.inr ⟨by rfl, rfl⟩) ?_ ?_
     rotate_left
     ·simp only [Act.put, List.setIfInBounds_toArray, List.set_cons_zero, List.set_cons_succ, i64_w, i32_w]
      rfl
     refine pure_ (i := 21) (N := some 94) (v := undef) (a' := ?_) (ms 38 4194303) rfl rfl (any_of HT_.out (by kernel_rfl)) (fun _ _ _ h => h) (Or.inr ⟨by rfl, rfl⟩) ?_ ?_
     rotate_left
     ·simp only [Act.put, List.setIfInBounds_toArray, List.set_cons_zero, List.set_cons_succ, i64_w, i32_w]
      rfl
     refine pure_ (i := 22) (N := some 95) (v := undef) (a' := ?_) (ms 38 8388607) rfl rfl (any_of HT_.out (by kernel_rfl)) (fun _ _ _ h => h) (Or.inr ⟨by rfl, rfl⟩) ?_ ?_
     rotate_left
     ·simp only [Act.put, List.setIfInBounds_toArray, List.set_cons_zero, List.set_cons_succ, i64_w, i32_w]
      rfl
     refine pure_ (i := 23) (N := some 96) (v := undef) (a' := ?_) (ms 38 16777215) rfl rfl (any_of HT_.out (by kernel_rfl)) (fun _ _ _ h => h) (Or.inr ⟨by rfl, rfl⟩) ?_ ?_
     rotate_left
     ·simp only [Act.put, List.setIfInBounds_toArray, List.set_cons_zero, List.set_cons_succ, i64_w, i32_w]
      rfl
     refine pure_ (i := 24) (N := some 97) (v := undef) (a' := ?_) (ms 38 33554431) rfl rfl (any_of HT_.out (by kernel_rfl)) (fun _ _ _ h => h) (Or.inr ⟨by rfl, rfl⟩) ?_ ?_
     rotate_left
     ·simp only [Act.put, List.setIfInBounds_toArray, List.set_cons_zero, List.set_cons_succ, i64_w, i32_w]
      rfl
     refine pure_ (i := 25) (N := some 98) (v := undef) (a' := ?_) (ms 38 67108863) rfl rfl (any_of HT_.out (by kernel_rfl)) (fun _ _ _ h => h) (Or.inr ⟨by rfl, rfl⟩) ?_ ?_
     rotate_left
     ·simp only [Act.put, List.setIfInBounds_toArray, List.set_cons_zero, List.set_cons_succ, i64_w, i32_w]
      rfl
     refine pure_ (i := 26) (N := some 99) (v := undef) (a' := ?_) (ms 38 134217727) rfl rfl (any_of HT_.out (by kernel_rfl)) (fun _ _ _ h => h) (Or.inr ⟨by rfl, rfl⟩) ?_ ?_
     rotate_left
     ·simp only [Act.put, List.setIfInBounds_toArray, List.set_cons_zero, List.set_cons_succ, i64_w, i32_w]
      rfl
     refine pure_ (i := 27) (N := some 100) (v := undef) (a' := ?_) (ms 38 268435455) rfl rfl (any_of HT_.out (by kernel_rfl)) (fun _ _ _ h => h) (Or.inr ⟨by rfl, rfl⟩) ?_ ?_
     rotate_left
     ·simp only [Act.put, List.setIfInBounds_toArray, List.set_cons_zero, List.set_cons_succ, i64_w, i32_w]
      rfl
     refine pure_ (i := 28) (N := some 101) (v := undef) (a' := ?_) (ms 38 536870911) rfl rfl (any_of HT_.out (by kernel_rfl)) (fun _ _ _ h => h) (Or.inr ⟨by rfl, rfl⟩) ?_ ?_
     rotate_left
     ·simp only [Act.put, List.setIfInBounds_toArray, List.set_cons_zero, List.set_cons_succ, i64_w, i32_w]
      rfl
     refine pure_ (i := 29) (N := some 102) (v := undef) (a' := ?_) (ms 38 1073741823) rfl rfl (any_of HT_.out (by kernel_rfl)) (fun _ _ _ h => h) (Or.inr ⟨by rfl, rfl⟩) ?_ ?_
     rotate_left
     ·simp only [Act.put, List.setIfInBounds_toArray, List.set_cons_zero, List.set_cons_succ, i64_w, i32_w]
      rfl
     refine pure_ (i := 30) (N := some 103) (v := undef) (a' := ?_) (ms 38 2147483647) rfl rfl (any_of HT_.out (by kernel_rfl)) (fun _ _ _ h => h) (Or.inr ⟨by rfl, rfl⟩) ?_ ?_
     rotate_left
     ·simp only [Act.put, List.setIfInBounds_toArray, List.set_cons_zero, List.set_cons_succ, i64_w, i32_w]
      rfl
     refine pure_ (i := 31) (N := some 104) (v := undef) (a' := ?_) (ms 38 4294967295) rfl rfl (any_of HT_.out (by kernel_rfl)) (fun _ _ _ h => h) (Or.inr ⟨by rfl, rfl⟩) ?_ ?_
     rotate_left
     ·simp only [Act.put, List.setIfInBounds_toArray, List.set_cons_zero, List.set_cons_succ, i64_w, i32_w]
      rfl
     refine pure_ (i := 32) (N := some 105) (v := undef) (a' := ?_) (ms 38 8589934591) rfl rfl (any_of HT_.out (by kernel_rfl)) (fun _ _ _ h => h) (Or.inr ⟨by rfl, rfl⟩) ?_ ?_
     rotate_left
     ·simp only [Act.put, List.setIfInBounds_toArray, List.set_cons_zero, List.set_cons_succ, i64_w, i32_w]
      rfl
     refine pure_ (i := 33) (N := some 106) (v := undef) (a' := ?_) (ms 38 17179869183) rfl rfl (any_of HT_.out (by kernel_rfl)) (fun _ _ _ h => h) (Or.inr ⟨by rfl, rfl⟩) ?_ ?_
     rotate_left
     ·simp only [Act.put, List.setIfInBounds_toArray, List.set_cons_zero, List.set_cons_succ, i64_w, i32_w]
      rfl
     refine pure_ (i := 34) (N := some 107) (v := ?_) (a' := ?_) (ms 38 34359738367) rfl rfl (any_of HT_.out (by kernel_rfl)) (fun _ _ _ h => h) (Or.inl ⟨by rfl, ?_⟩) ?_ ?_
     rotate_left
     ·intro w'
      go_simp
      with_reducible rfl
     rotate_left
     ·simp only [Act.put, List.setIfInBounds_toArray, List.set_cons_zero, List.set_cons_succ, i64_w, i32_w]
      rfl
     refine pure_ (i := 35) (N := some 108) (v := ?_) (a' := ?_) (ms 38 68719476735) rfl rfl (any_of HT_.out (by kernel_rfl)) (fun _ _ _ h => h) (Or.inl ⟨by rfl, ?_⟩) ?_ ?_
     rotate_left
     ·intro w'
      go_simp
      with_reducible rfl
     rotate_left
     ·simp only [Act.put, List.setIfInBounds_toArray, List.set_cons_zero, List.set_cons_succ, i64_w, i32_w]
      rfl
     refine pure_ (i := 36) (N := some 109) (v := ?_) (a' := ?_) (ms 38 137438953471) rfl rfl (any_of HT_.out (by kernel_rfl)) (fun _ _ _ h => h) (Or.inl ⟨by rfl, ?_⟩) ?_ ?_
     rotate_left
     ·intro w'
      go_simp
      with_reducible rfl
     rotate_left
     ·simp only [Act.put, List.setIfInBounds_toArray, List.set_cons_zero, List.set_cons_succ, i64_w, i32_w]
      rfl
     refine last_ (i := 37) (N := none) (ms 38 274877906943) rfl rfl (one_of HT_.out (by kernel_rfl)) (by decide) (fun K hK => ?_)
     refine skip_ (w1 := (wd.setCell ⟨w.heap.size, j, none⟩ (.bool true))) (by rfl) rfl ?_ ?_
     ·first | (go_simp; done) | (go_simp; rfl)
     refine hK.out _ _ ?_
     clear hK K
     refine done_ (done_of HT_.out (by kernel_rfl)) ?_
     have HS : Aside0 (NbI (opB true (mkb zs) (mkb us)) w r1 r2 zs us (j + 1) (out.set j true) (wd.setCell ⟨w.heap.size, j, none⟩ (.bool true))) := ⟨(by have h_ := SetF_step HD.out.1 HK.out; rw [show opB true (mkb zs) (mkb us) j = true from by rw [opB, EA.out, EB.out]; rfl] at h_; exact h_), Arr.set HD.out.2.1 _ _, Arr.far HD.out.2.2.1 (Nat.ne_of_gt HR2.out) _, Arr.far HD.out.2.2.2.1 (Nat.ne_of_gt HR3.out) _, below_set HD.out.2.2.2.2 (Nat.le_refl _)⟩
     clear hHeld HT_ HW_ fO cO HD
     go_wp2
     go_roundw
     case rel => exact ⟨j + 1, _, by have := HK.out; omega, by go_num, HS.out⟩
     case measure => have := HK.out; simp [intOf]; omega
    | false =>
     refine start_ (n := 38) (S := fun w' => w'.cell? ⟨r1, j, none⟩ = some (.bool true) ∧ w'.cell? ⟨r2, j, none⟩ = some (.bool false) ∧ w'.cell? ⟨g, 0, none⟩ = some (.int .u8 43)) (ds := [37]) (ms 38 0) (by kernel_rfl) rfl (by kernel_rfl) ⟨cA, cB, cG⟩ (fun hHeld => ?_); refine with_tabW nb22.tab nb22.bits (fun HT_ HW_ => ?_)
     generalize wr.drew = wd at hHeld HD ⊢
     have fO := Arr.frozen HD.out.2.1 j
     have cO := Arr.cell HD.out.2.1 (i := j) (by rw [HD.out.1.1]; exact hlt) (show mkb out j = false from by rw [HD.out.1.2 j hlt, if_neg (Nat.lt_irrefl j)])
     refine pure_ (i := 0) (N := some 73) (v := ?_) (a' := ?_) (ms 38 1) rfl rfl (any_of HT_.out (by kernel_rfl)) (fun _ _ _ h => h) (Or.inl ⟨by rfl, ?_⟩) ?_ ?_
     rotate_left
     ·intro w'
      go_simp
      with_reducible rfl
     rotate_left
     ·simp only [Act.put, List.setIfInBounds_toArray, List.set_cons_zero, List.set_cons_succ, i64_w, i32_w]
      rfl
     refine pure_ (i := 1) (N := some 74) (v := ?_) (a' := ?_) (ms 38 3) rfl rfl (any_of HT_.out (by kernel_rfl)) (fun _ _ _ h => h) (Or.inl ⟨by rfl, ?_⟩) ?_ ?_
     rotate_left
     ·intro w'
      go_simp
      with_reducible rfl
     rotate_left
     ·simp only [Act.put, List.setIfInBounds_toArray, List.set_cons_zero, List.set_cons_succ, i64_w, i32_w]
      rfl
     refine pure_ (i := 2) (N := some 75) (v := ?_) (a' := ?_) (ms 38 7) rfl rfl (any_of HT_.out (by kernel_rfl)) (fun _ _ _ h => h) (Or.inl ⟨by rfl, ?_⟩) ?_ ?_
     rotate_left
     ·intro w'
      go_simp
      with_reducible rfl
     rotate_left
     ·simp only [Act.put, List.setIfInBounds_toArray, List.set_cons_zero, List.set_cons_succ, i64_w, i32_w]
      rfl
     refine pure_ (i := 3) (N := some 76) (v := ?_) (a' := ?_) (ms 38 15) rfl rfl (any_of HT_.out (by kernel_rfl)) (fun _ _ _ h => h) (Or.inl ⟨by rfl, ?_⟩) ?_ ?_
     rotate_left
     ·intro w'
      go_simp
      with_reducible rfl
     rotate_left
     ·simp only [Act.put, List.setIfInBounds_toArray, List.set_cons_zero, List.set_cons_succ, i64_w, i32_w]
      rfl
     refine pure_ (i := 4) (N := some 77) (v := ?_) (a' := ?_) (ms 38 31) rfl rfl (any_of HT_.out (by kernel_rfl)) (fun _ _ _ h => h) (Or.inl ⟨by rfl, ?_⟩) ?_ ?_
     rotate_left
     ·intro w'
      go_simp
      with_reducible rfl
     rotate_left
     ·simp only [Act.put, List.setIfInBounds_toArray, List.set_cons_zero, List.set_cons_succ, i64_w, i32_w]
      rfl
     refine pure_ (i := 5) (N := some 78) (v := ?_) (a' := ?_) (ms 38 63) rfl rfl (any_of HT_.out (by kernel_rfl)) (fun _ _ _ h => h) (Or.inl ⟨by rfl, ?_⟩) ?_ ?_
     rotate_left
     ·intro w'
      go_simp
      with_reducible rfl
     rotate_left
     ·simp only [Act.put, List.setIfInBounds_toArray, List.set_cons_zero, List.set_cons_succ, i64_w, i32_w]
      rfl
     refine take_ (i := 6) (N := some 79) (v := ?_) (a' := ?_) (ms 38 127) rfl rfl (take_ofW HT_.out HW_.out (by kernel_rfl)) (fun _ _ _ h => h) (Or.inl ⟨by rfl, ?_⟩) hHeld ?_ ?_
     rotate_left
     ·intro w' hS
      obtain ⟨s0, s1, s2⟩ := hS
      go_simp
      with_reducible rfl
     rotate_left
     ·simp only [Act.put, List.setIfInBounds_toArray, List.set_cons_zero, List.set_cons_succ, i64_w, i32_w]
      rfl
     refine pure_ (i := 7) (N := some 80) (v := ?_) (a' := ?_) (ms 38 255) rfl rfl (any_of HT_.out (by kernel_rfl)) (fun _ _ _ h => h) (Or.inl ⟨by rfl, ?_⟩) ?_ ?_
     rotate_left
     ·intro w'
      go_simp
      with_reducible rfl
     rotate_left
     ·simp only [Act.put, List.setIfInBounds_toArray, List.set_cons_zero, List.set_cons_succ, i64_w, i32_w]
      rfl
     refine pure_ (i := 8) (N := some 81) (v := ?_) (a' := ?_) (ms 38 511) rfl rfl (any_of HT_.out (by kernel_rfl)) (fun _ _ _ h => h) (Or.inl ⟨by rfl, ?_⟩) ?_ ?_
     rotate_left
     ·intro w'
      go_simp
      with_reducible rfl
     rotate_left
     ·simp only [Act.put, List.setIfInBounds_toArray, List.set_cons_zero, List.set_cons_succ, i64_w, i32_w]
      rfl
     refine pure_ (i := 9) (N := some 82) (v := ?_) (a' := ?_) (ms 38 1023) rfl rfl (any_of HT_.out (by kernel_rfl)) (fun _ _ _ h => h) (Or.inl ⟨by rfl, ?_⟩) ?_ ?_
     rotate_left
     ·intro w'
      go_simp
      with_reducible rfl
     rotate_left
     ·simp only [Act.put, List.setIfInBounds_toArray, List.set_cons_zero, List.set_cons_succ, i64_w, i32_w]
      rfl
     refine pure_ (i := 10) (N := some 83) (v := ?_) (a' := ?_) (ms 38 2047) rfl rfl (any_of HT_.out (by kernel_rfl)) (fun _ _ _ h => h) (Or.inl ⟨by rfl, ?_⟩) ?_ ?_
     rotate_left
     ·intro w'
      go_simp
      with_reducible rfl
     rotate_left
     ·simp only [Act.put, List.setIfInBounds_toArray, List.set_cons_zero, List.set_cons_succ, i64_w, i32_w]
      rfl
     refine pure_ (i := 11) (N := some 84) (v := ?_) (a' := ?_) (ms 38 4095) rfl rfl (any_of HT_.out (by kernel_rfl)) (fun _ _ _ h => h) (Or.inl ⟨by rfl, ?_⟩) ?_ ?_
     rotate_left
     ·intro w'
      go_simp
      with_reducible rfl
     rotate_left
     ·simp only [Act.put, List.setIfInBounds_toArray, List.set_cons_zero, List.set_cons_succ, i64_w, i32_w]
      rfl
     refine take_ (i := 12) (N := some 85) (v := ?_) (a' := ?_) (ms 38 8191) rfl rfl (take_ofW HT_.out HW_.out (by kernel_rfl)) (fun _ _ _ h => h) (Or.inl ⟨by rfl, ?_⟩) hHeld ?_ ?_
     rotate_left
     ·intro w' hS
      obtain ⟨s0, s1, s2⟩ := hS
      go_simp
      with_reducible rfl
     rotate_left
     ·simp only [Act.put, List.setIfInBounds_toArray, List.set_cons_zero, List.set_cons_succ, i64_w, i32_w]
      rfl
     refine pure_ (i := 13) (N := some 86) (v := ?_) (a' := ?_) (ms 38 16383) rfl rfl (any_of HT_.out (by kernel_rfl)) (fun _ _ _ h => h) (Or.inl ⟨by rfl, ?_⟩) ?_ ?_
     rotate_left
     ·intro w'
      go_simp
      with_reducible rfl
     rotate_left
     ·simp only [Act.put, List.setIfInBounds_toArray, List.set_cons_zero, List.set_cons_succ, i64_w, i32_w]
      rfl
     refine pure_ (i := 14) (N := some 87) (v := ?_) (a' := ?_) (ms 38 32767) rfl rfl (any_of HT_.out (by kernel_rfl)) (fun _ _ _ h => h) (Or.inl ⟨by rfl, ?_⟩) ?_ ?_
     rotate_left
     ·intro w'
      go_simp
      with_reducible rfl
     rotate_left
     ·simp only [Act.put, List.setIfInBounds_toArray, List.set_cons_zero, List.set_cons_succ, i64_w, i32_w]
      rfl
     refine pure_ (i := 15) (N := some 88) (v := ?_) (a' := ?_) (ms 38 65535) rfl rfl (any_of HT_.out (by kernel_rfl)) (fun _ _ _ h => h) (Or.inl ⟨by rfl, ?_⟩) ?_ ?_
     rotate_left
     ·intro w'
      go_simp
      with_reducible rfl
     rotate_left
     ·simp only [Act.put, List.setIfInBounds_toArray, List.set_cons_zero, List.set_cons_succ, i64_w, i32_w]
      rfl
     refine pure_ (i := 16) (N := some 89) (v := ?_) (a' := ?_) (ms 38 131071) rfl rfl (any_of HT_.out (by kernel_rfl)) (fun _ _ _ h => h) (Or.inl ⟨by rfl, ?_⟩) ?_ ?_
     rotate_left
     ·intro w'
      go_simp
      with_reducible rfl
     rotate_left
     ·simp only [Act.put, List.setIfInBounds_toArray, List.set_cons_zero, List.set_cons_succ, i64_w, i32_w]
      rfl
     refine pure_ (i := 17) (N := some 90) (v := ?_) (a' := ?_) (ms 38 262143) rfl rfl (any_of HT_.out (by kernel_rfl)) (fun _ _ _ h => h) (Or.inl ⟨by rfl, ?_⟩) ?_ ?_
     rotate_left
     ·intro w'
      go_simp
      with_reducible rfl
     rotate_left
     ·simp only [Act.put, List.setIfInBounds_toArray, List.set_cons_zero, List.set_cons_succ, i64_w, i32_w]
      rfl
     refine take_ (i := 18) (N := some 91) (v := ?_) (a' := ?_) (ms 38 524287) rfl rfl (take_ofW HT_.out HW_.out (by kernel_rfl)) (fun _ _ _ h => h) (Or.inl ⟨by rfl, ?_⟩) hHeld ?_ ?_
     rotate_left
     ·intro w' hS
      obtain ⟨s0, s1, s2⟩ := hS
      go_simp
      with_reducible rfl
     rotate_left
     ·simp only [Act.put, List.setIfInBounds_toArray, List.set_cons_zero, List.set_cons_succ, i64_w, i32_w]
      rfl
     refine pure_ (i := 19) (N := some 92) (v := ?_) (a' := ?_) (ms 38 1048575) rfl rfl (any_of HT_.out (by kernel_rfl)) (fun _ _ _ h => h) (Or.inl ⟨by rfl, ?_⟩) ?_ ?_
     rotate_left
     ·intro w'
      go_simp
      with_reducible rfl
     rotate_left
     ·simp only [Act.put, List.setIfInBounds_toArray, List.set_cons_zero, List.set_cons_succ, i64_w, i32_w]
      rfl
     refine pure_ (i := 20) (N := some 93) (v := ?_) (a' := ?_) (ms 38 2097151) rfl rfl (any_of HT_.out (by kernel_rfl)) (fun _ _ _ h => h) (Or.inl ⟨by rfl, ?_⟩) ?_ ?_
     rotate_left
     ·intro w'
      go_simp
      with_reducible rfl
     rotate_left
     ·simp only [Act.put, List.setIfInBounds_toArray, List.set_cons_zero, List.set_cons_succ, i64_w, i32_w]
      rfl
     refine pure_ (i := 21) (N := some 94) (v := ?_) (a' := ?_) (ms 38 4194303) rfl rfl (any_of HT_.out (by kernel_rfl)) (fun _ _ _ h => h) (Or.inl ⟨by rfl, ?_⟩) ?_ ?_
     rotate_left
     ·intro w'
      go_simp
      with_reducible rfl
     rotate_left
     ·simp only [Act.put, List.setIfInBounds_toArray, List.set_cons_zero, List.set_cons_succ, i64_w, i32_w]
      rfl
     refine pure_ (i := 22) (N := some 95) (v := ?_) (a' := ?_) (ms 38 8388607) rfl rfl (any_of HT_.out (by kernel_rfl)) (fun _ _ _ h => h) (Or.inl ⟨by rfl, ?_⟩) ?_ ?_
     rotate_left
     ·intro w'
      go_simp
      with_reducible rfl
     rotate_left
     ·simp only [Act.put, List.setIfInBounds_toArray, List.set_cons_zero, List.set_cons_succ, i64_w, i32_w]
      rfl
     refine pure_ (i := 23) (N := some 96) (v := ?_) (a' := ?_) (ms 38 16777215) rfl rfl (any_of HT_.out (by kernel_rfl)) (fun _ _ _ h => h) (Or.inl ⟨by rfl, ?_⟩) ?_ ?_
     rotate_left
     ·intro w'
      go_simp
      with_reducible rfl
     rotate_left
     ·simp only [Act.put, List.setIfInBounds_toArray, List.set_cons_zero, List.set_cons_succ, i64_w, i32_w]
      rfl
     refine pure_ (i := 24) (N := some 97) (v := ?_) (a' := ?_) (ms 38 33554431) rfl rfl (any_of HT_.out (by kernel_rfl)) (fun _ _ _ h => h) (Or.inl ⟨by rfl, ?_⟩) ?_ ?_
     rotate_left
     ·intro w'
      go_simp
      with_reducible rfl
     rotate_left
     ·simp only [Act.put, List.setIfInBounds_toArray, List.set_cons_zero, List.set_cons_succ, i64_w, i32_w]
      rfl
     refine take_ (i := 25) (N := some 98) (v := ?_) (a' := ?_) (ms 38 67108863) rfl rfl (take_ofW HT_.out HW_.out (by kernel_rfl)) (fun _ _ _ h => h) (Or.inl ⟨by rfl, ?_⟩) hHeld ?_ ?_
     rotate_left
     ·intro w' hS
      obtain ⟨s0, s1, s2⟩ := hS
      go_simp
      with_reducible rfl
     rotate_left
     ·simp only [Act.put, List.setIfInBounds_toArray, List.set_cons_zero, List.set_cons_succ, i64_w, i32_w]
      rfl
     refine pure_ (i := 26) (N := some 99) (v := ?_) (a' := ?_) (ms 38 134217727) rfl rfl (any_of HT_.out (by kernel_rfl)) (fun _ _ _ h => h) (Or.inl ⟨by rfl, ?_⟩) ?_ ?_
     rotate_left
     ·intro w'
      go_simp
      with_reducible rfl
     rotate_left
     ·simp only [Act.put, List.setIfInBounds_toArray, List.set_cons_zero, List.set_cons_succ, i64_w, i32_w]
      rfl
     refine pure_ (i := 27) (N := some 100) (v := undef) (a' := ?_) (ms 38 268435455) rfl rfl (any_of HT_.out (by kernel_rfl)) (fun _ _ _ h => h) (Or.inr ⟨by rfl, rfl⟩) ?_ ?_
     rotate_left
     ·simp only [Act.put, List.setIfInBounds_toArray, List.set_cons_zero, List.set_cons_succ, i64_w, i32_w]
      rfl
     refine pure_ (i := 28) (N := some 101) (v := undef) (a' := ?_) (ms 38 536870911) rfl rfl (any_of HT_.out (by kernel_rfl)) (fun _ _ _ h => h) (Or.inr ⟨by rfl, rfl⟩) ?_ ?_
     rotate_left
     ·simp only [Act.put, List.setIfInBounds_toArray, List.set_cons_zero, List.set_cons_succ, i64_w, i32_w]
      rfl
     refine pure_ (i := 29) (N := some 102) (v := undef) (a' := ?_) (ms 38 1073741823) rfl rfl (any_of HT_.out (by kernel_rfl)) (fun _ _ _ h => h) (Or.inr ⟨by rfl, rfl⟩) ?_ ?_
     rotate_left
     ·simp only [Act.put, List.setIfInBounds_toArray, List.set_cons_zero, List.set_cons_succ, i64_w, i32_w]
      rfl
     refine pure_ (i := 30) (N := some 103) (v := undef) (a' := ?_) (ms 38 2147483647) rfl rfl (any_of HT_.out (by kernel_rfl)) (fun _ _ _ h => h) (Or.inr ⟨by rfl, rfl⟩) ?_ ?_
     rotate_left
     ·simp only [Act.put, List.setIfInBounds_toArray, List.set_cons_zero, List.set_cons_succ, i64_w, i32_w]
      rfl
     refine pure_ (i := 31) (N := some 104) (v := undef) (a' := ?_) (ms 38 4294967295) rfl rfl (any_of HT_.out (by kernel_rfl)) (fun _ _ _ h => h) (Or.inr ⟨by rfl, rfl⟩) ?_ ?_
     rotate_left
     ·simp only [Act.put, List.setIfInBounds_toArray, List.set_cons_zero, List.set_cons_succ, i64_w, i32_w]
      rfl
     refine pure_ (i := 32) (N := some 105) (v := ?_) (a' := ?_) (ms 38 8589934591) rfl rfl (any_of HT_.out (by kernel_rfl)) (fun _ _ _ h => h) (Or.inl ⟨by rfl, ?_⟩) ?_ ?_
     rotate_left
     ·intro w'
      go_simp
      with_reducible rfl
     rotate_left
     ·simp only [Act.put, List.setIfInBounds_toArray, List.set_cons_zero, List.set_cons_succ, i64_w, i32_w]
      rfl
     refine pure_ (i := 33) (N := some 106) (v := ?_) (a' := ?_) (ms 38 17179869183) rfl rfl (any_of HT_.out (by kernel_rfl)) (fun _ _ _ h => h) (Or.inl ⟨by rfl, ?_⟩) ?_ ?_
     rotate_left
     ·intro w'
      go_simp
      with_reducible rfl
     rotate_left
     ·simp only [Act.put, List.setIfInBounds_toArray, List.set_cons_zero, List.set_cons_succ, i64_w, i32_w]
      rfl
     refine pure_ (i := 34) (N := some 107) (v := ?_) (a' := ?_) (ms 38 34359738367) rfl rfl (any_of HT_.out (by kernel_rfl)) (fun _ _ _ h => h) (Or.inl ⟨by rfl, ?_⟩) ?_ ?_
     rotate_left
     ·intro w'
      go_simp
      with_reducible rfl
     rotate_left
     ·simp only [Act.put, List.setIfInBounds_toArray, List.set_cons_zero, List.set_cons_succ, i64_w, i32_w]
      rfl
     refine pure_ (i := 35) (N := some 108) (v := ?_) (a' := ?_) (ms 38 68719476735) rfl rfl (any_of HT_.out (by kernel_rfl)) (fun _ _ _ h => h) (Or.inl ⟨by rfl, ?_⟩) ?_ ?_
     rotate_left
     ·intro w'
      go_simp
      with_reducible rfl
     rotate_left
     ·simp only [Act.put, List.setIfInBounds_toArray, List.set_cons_zero, List.set_cons_succ, i64_w, i32_w]
      rfl
     refine pure_ (i := 36) (N := some 109) (v := ?_) (a' := ?_) (ms 38 137438953471) rfl rfl (any_of HT_.out (by kernel_rfl)) (fun _ _ _ h => h) (Or.inl ⟨by rfl, ?_⟩) ?_ ?_
     rotate_left
     ·intro w'
      go_simp
      with_reducible rfl
     rotate_left
     ·simp only [Act.put, List.setIfInBounds_toArray, List.set_cons_zero, List.set_cons_succ, i64_w, i32_w]
      rfl
     refine last_ (i := 37) (N := none) (ms 38 274877906943) rfl rfl (one_of HT_.out (by kernel_rfl)) (by decide) (fun K hK => ?_)
     refine skip_ (w1 := (wd.setCell ⟨w.heap.size, j, none⟩ (.bool true))) (by rfl) rfl ?_ ?_
     ·first | (go_simp; done) | (go_simp; rfl)
     refine hK.out _ _ ?_
     clear hK K
     refine done_ (done_of HT_.out (by kernel_rfl)) ?_
     have HS : Aside0 (NbI (opB true (mkb zs) (mkb us)) w r1 r2 zs us (j + 1) (out.set j true) (wd.setCell ⟨w.heap.size, j, none⟩ (.bool true))) := ⟨(by have h_ := SetF_step HD.out.1 HK.out; rw [show opB true (mkb zs) (mkb us) j = true from by rw [opB, EA.out, EB.out]; rfl] at h_; exact h_), Arr.set HD.out.2.1 _ _, Arr.far HD.out.2.2.1 (Nat.ne_of_gt HR2.out) _, Arr.far HD.out.2.2.2.1 (Nat.ne_of_gt HR3.out) _, below_set HD.out.2.2.2.2 (Nat.le_refl _)⟩
     clear hHeld HT_ HW_ fO cO HD
     go_wp2
     go_roundw
     case rel => exact ⟨j + 1, _, by have := HK.out; omega, by go_num, HS.out⟩
     case measure => have := HK.out; simp [intOf]; omega
   | false =>
    cases bv with
    | true =>
     refine start_ (n := 38) (S := fun w' => w'.cell? ⟨r1, j, none⟩ = some (.bool false) ∧ w'.cell? ⟨r2, j, none⟩ = some (.bool true) ∧ w'.cell? ⟨g, 0, none⟩ = some (.int .u8 43)) (ds := [37]) (ms 38 0) (by kernel_rfl) rfl (by kernel_rfl) ⟨cA, cB, cG⟩ (fun hHeld => ?_); refine with_tabW nb22.tab nb22.bits (fun HT_ HW_ => ?_)
     generalize wr.drew = wd at hHeld HD ⊢
     have fO := Arr.frozen HD.out.2.1 j
     have cO := Arr.cell HD.out.2.1 (i := j) (by rw [HD.out.1.1]; exact hlt) (show mkb out j = false from by rw [HD.out.1.2 j hlt, if_neg (Nat.lt_irrefl j)])
     refine pure_ (i := 0) (N := some 73) (v := ?_) (a' := ?_) (ms 38 1) rfl rfl (any_of HT_.out (by kernel_rfl)) (fun _ _ _ h => h) (Or.inl ⟨by rfl, ?_⟩) ?_ ?_
     rotate_left
     ·intro w'
      go_simp
      with_reducible rfl
     rotate_left
     ·simp only [Act.put, List.setIfInBounds_toArray, List.set_cons_zero, List.set_cons_succ, i64_w, i32_w]
      rfl
     refine pure_ (i := 1) (N := some 74) (v := ?_) (a' := ?_) (ms 38 3) rfl rfl (any_of HT_.out (by kernel_rfl)) (fun _ _ _ h => h) (Or.inl ⟨by rfl, ?_⟩) ?_ ?_
     rotate_left
     ·intro w'
      go_simp
      with_reducible rfl
     rotate_left
     ·simp only [Act.put, List.setIfInBounds_toArray, List.set_cons_zero, List.set_cons_succ, i64_w, i32_w]
      rfl
     refine pure_ (i := 2) (N := some 75) (v := ?_) (a' := ?_) (ms 38 7) rfl rfl (any_of HT_.out (by kernel_rfl)) (fun _ _ _ h => h) (Or.inl ⟨by rfl, ?_⟩) ?_ ?_
     rotate_left
     ·intro w'
      go_simp
      with_reducible rfl
     rotate_left
     ·simp only [Act.put, List.setIfInBounds_toArray, List.set_cons_zero, List.set_cons_succ, i64_w, i32_w]
      rfl
     refine pure_ (i := 3) (N := some 76) (v := ?_) (a' := ?_) (ms 38 15) rfl rfl (any_of HT_.out (by kernel_rfl)) (fun _ _ _ h => h) (Or.inl ⟨by rfl, ?_⟩) ?_ ?_
     rotate_left
     ·intro w'
      go_simp
      with_reducible rfl
     rotate_left
     ·simp only [Act.put, List.setIfInBounds_toArray, List.set_cons_zero, List.set_cons_succ, i64_w, i32_w]
      rfl
     refine pure_ (i := 4) (N := some 77) (v := ?_) (a' := ?_) (ms 38 31) rfl rfl (any_of HT_.out (by kernel_rfl)) (fun _ _ _ h => h) (Or.inl ⟨by rfl, ?_⟩) ?_ ?_
     rotate_left
     ·intro w'
      go_simp
      with_reducible rfl
     rotate_left
     ·simp only [Act.put, List.setIfInBounds_toArray, List.set_cons_zero, List.set_cons_succ, i64_w, i32_w]
      rfl
     refine pure_ (i := 5) (N := some 78) (v := ?_) (a' := ?_) (ms 38 63) rfl rfl (any_of HT_.out (by kernel_rfl)) (fun _ _ _ h => h) (Or.inl ⟨by rfl, ?_⟩) ?_ ?_
     rotate_left
     ·intro w'
      go_simp
      with_reducible rfl
     rotate_left
     ·simp only [Act.put, List.setIfInBounds_toArray, List.set_cons_zero, List.set_cons_succ, i64_w, i32_w]
      rfl
     refine take_ (i := 6) (N := some 79) (v := ?_) (a' := ?_) (ms 38 127) rfl rfl (take_ofW HT_.out HW_.out (by kernel_rfl)) (fun _ _ _ h => h) (Or.inl ⟨by rfl, ?_⟩) hHeld ?_ ?_
     rotate_left
     ·intro w' hS
      obtain ⟨s0, s1, s2⟩ := hS
      go_simp
      with_reducible rfl
     rotate_left
     ·simp only [Act.put, List.setIfInBounds_toArray, List.set_cons_zero, List.set_cons_succ, i64_w, i32_w]
      rfl
     refine pure_ (i := 7) (N := some 80) (v := ?_) (a' := ?_) (ms 38 255) rfl rfl (any_of HT_.out (by kernel_rfl)) (fun _ _ _ h => h) (Or.inl ⟨by rfl, ?_⟩) ?_ ?_
     rotate_left
     ·intro w'
      go_simp
      with_reducible rfl
     rotate_left
     ·simp only [Act.put, List.setIfInBounds_toArray, List.set_cons_zero, List.set_cons_succ, i64_w, i32_w]
      rfl
     refine pure_ (i := 8) (N := some 81) (v := undef) (a' := ?_) (ms 38 511) rfl rfl (any_of HT_.out (by kernel_rfl)) (fun _ _ _ h => h) (Or.inr ⟨by rfl, rfl⟩) ?_ ?_
     rotate_left
     ·simp only [Act.put, List.setIfInBounds_toArray, List.set_cons_zero, List.set_cons_succ, i64_w, i32_w]
      rfl
     refine pure_ (i := 9) (N := some 82) (v := undef) (a' := ?_) (ms 38 1023) rfl rfl (any_of HT_.out (by kernel_rfl)) (fun _ _ _ h => h) (Or.inr ⟨by rfl, rfl⟩) ?_ ?_
     rotate_left
     ·simp only [Act.put, List.setIfInBounds_toArray, List.set_cons_zero, List.set_cons_succ, i64_w, i32_w]
      rfl
     refine pure_ (i := 10) (N := some 83) (v := undef) (a' := ?_) (ms 38 2047) rfl rfl (any_of HT_.out (by kernel_rfl)) (fun _ _ _ h => h) (Or.inr ⟨by rfl, rfl⟩) ?_ ?_
     rotate_left
     ·simp only [Act.put, List.setIfInBounds_toArray, List.set_cons_zero, List.set_cons_succ, i64_w, i32_w]
      rfl
     refine pure_ (i := 11) (N := some 84) (v := undef) (a' := ?_) (ms 38 4095) rfl rfl (any_of HT_.out (by kernel_rfl)) (fun _ _ _ h => h) (Or.inr ⟨by rfl, rfl⟩) ?_ ?_
     rotate_left
     ·simp only [Act.put, List.setIfInBounds_toArray, List.set_cons_zero, List.set_cons_succ, i64_w, i32_w]
      rfl
     refine pure_ (i := 12) (N := some 85) (v := undef) (a' := ?_) (ms 38 8191) rfl rfl (any_of HT_.out (by kernel_rfl)) (fun _ _ _ h => h) (Or.inr ⟨by rfl, rfl⟩) ?_ ?_
     rotate_left
     ·simp only [Act.put, List.setIfInBounds_toArray, List.set_cons_zero, List.set_cons_succ, i64_w, i32_w]
      rfl
     refine pure_ (i := 13) (N := some 86) (v := ?_) (a' := ?_) (ms 38 16383) rfl rfl (any_of HT_.out (by kernel_rfl)) (fun _ _ _ h => h) (Or.inl ⟨by rfl, ?_⟩) ?_ ?_
     rotate_left
     ·intro w'
      go_simp
      with_reducible rfl
     rotate_left
     ·simp only [Act.put, List.setIfInBounds_toArray, List.set_cons_zero, List.set_cons_succ, i64_w, i32_w]
      rfl
     refine pure_ (i := 14) (N := some 87) (v := ?_) (a' := ?_) (ms 38 32767) rfl rfl (any_of HT_.out (by kernel_rfl)) (fun _ _ _ h => h) (Or.inl ⟨by rfl, ?_⟩) ?_ ?_
     rotate_left
     ·intro w'
      go_simp
      with_reducible rfl
     rotate_left
     ·simp only [Act.put, List.setIfInBounds_toArray, List.set_cons_zero, List.set_cons_succ, i64_w, i32_w]
      rfl
     refine pure_ (i := 15) (N := some 88) (v := ?_) (a' := ?_) (ms 38 65535) rfl rfl (any_of HT_.out (by kernel_rfl)) (fun _ _ _ h => h) (Or.inl ⟨by rfl, ?_⟩) ?_ ?_
     rotate_left
     ·intro w'
      go_simp
      with_reducible rfl
     rotate_left
     ·simp only [Act.put, List.setIfInBounds_toArray, List.set_cons_zero, List.set_cons_succ, i64_w, i32_w]
      rfl
     refine pure_ (i := 16) (N := some 89) (v := ?_) (a' := ?_) (ms 38 131071) rfl rfl (any_of HT_.out (by kernel_rfl)) (fun _ _ _ h => h) (Or.inl ⟨by rfl, ?_⟩) ?_ ?_
     rotate_left
     ·intro w'
      go_simp
      with_reducible rfl
     rotate_left
     ·simp only [Act.put, List.setIfInBounds_toArray, List.set_cons_zero, List.set_cons_succ, i64_w, i32_w]
      rfl
     refine pure_ (i := 17) (N := some 90) (v := ?_) (a' := ?_) (ms 38 262143) rfl rfl (any_of HT_.out (by kernel_rfl)) (fun _ _ _ h => h) (Or.inl ⟨by rfl, ?_⟩) ?_ ?_
     rotate_left
     ·intro w'
      go_simp
      with_reducible rfl
     rotate_left
     ·simp only [Act.put, List.setIfInBounds_toArray, List.set_cons_zero, List.set_cons_succ, i64_w, i32_w]
      rfl
     refine take_ (i := 18) (N := some 91) (v := ?_) (a' := ?_) (ms 38 524287) rfl rfl (take_ofW HT_.out HW_.out (by kernel_rfl)) (fun _ _ _ h => h) (Or.inl ⟨by rfl, ?_⟩) hHeld ?_ ?_
     rotate_left
     ·intro w' hS
      obtain ⟨s0, s1, s2⟩ := hS
      go_simp
      with_reducible rfl
     rotate_left
     ·simp only [Act.put, List.setIfInBounds_toArray, List.set_cons_zero, List.set_cons_succ, i64_w, i32_w]
      rfl
     refine pure_ (i := 19) (N := some 92) (v := ?_) (a' := ?_) (ms 38 1048575) rfl rfl (any_of HT_.out (by kernel_rfl)) (fun _ _ _ h => h) (Or.inl ⟨by rfl, ?_⟩) ?_ ?_
     rotate_left
     ·intro w'
      go_simp
      with_reducible rfl
     rotate_left
     ·simp only [Act.put, List.setIfInBounds_toArray, List.set_cons_zero, List.set_cons_succ, i64_w, i32_w]
      rfl
     refine pure_ (i := 20) (N := some 93) (v := ?_) (a' := ?_) (ms 38 2097151) rfl rfl (any_of HT_.out (by kernel_rfl)) (fun _ _ _ h => h) (Or.inl ⟨by rfl, ?_⟩) ?_ ?_
     rotate_left
     ·intro w'
      go_simp
      with_reducible rfl
     rotate_left
     ·simp only [Act.put, List.setIfInBounds_toArray, List.set_cons_zero, List.set_cons_succ, i64_w, i32_w]
      rfl
     refine pure_ (i := 21) (N := some 94) (v := ?_) (a' := ?_) (ms 38 4194303) rfl rfl (any_of HT_.out (by kernel_rfl)) (fun _ _ _ h => h) (Or.inl ⟨by rfl, ?_⟩) ?_ ?_
     rotate_left
     ·intro w'
      go_simp
      with_reducible rfl
     rotate_left
     ·simp only [Act.put, List.setIfInBounds_toArray, List.set_cons_zero, List.set_cons_succ, i64_w, i32_w]
      rfl
     refine pure_ (i := 22) (N := some 95) (v := ?_) (a' := ?_) (ms 38 8388607) rfl rfl (any_of HT_.out (by kernel_rfl)) (fun _ _ _ h => h) (Or.inl ⟨by rfl, ?_⟩) ?_ ?_
     rotate_left
     ·intro w'
      go_simp
      with_reducible rfl
     rotate_left
     ·simp only [Act.put, List.setIfInBounds_toArray, List.set_cons_zero, List.set_cons_succ, i64_w, i32_w]
      rfl
     refine pure_ (i := 23) (N := some 96) (v := ?_) (a' := ?_) (ms 38 16777215) rfl rfl (any_of HT_.out (by kernel_rfl)) (fun _ _ _ h => h) (Or.inl ⟨by rfl, ?_⟩) ?_ ?_
     rotate_left
     ·intro w'
      go_simp
      with_reducible rfl
     rotate_left
     ·simp only [Act.put, List.setIfInBounds_toArray, List.set_cons_zero, List.set_cons_succ, i64_w, i32_w]
      rfl
     refine pure_ (i := 24) (N := some 97) (v := ?_) (a' := ?_) (ms 38 33554431) rfl rfl (any_of HT_.out (by kernel_rfl)) (fun _ _ _ h => h) (Or.inl ⟨by rfl, ?_⟩) ?_ ?_
     rotate_left
     ·intro w'
      go_simp
      with_reducible rfl
     rotate_left
     ·simp only [Act.put, List.setIfInBounds_toArray, List.set_cons_zero, List.set_cons_succ, i64_w, i32_w]
      rfl
     refine take_ (i := 25) (N := some 98) (v := ?_) (a' := ?_) (ms 38 67108863) rfl rfl (take_ofW HT_.out HW_.out (by kernel_rfl)) (fun _ _ _ h => h) (Or.inl ⟨by rfl, ?_⟩) hHeld ?_ ?_
     rotate_left
     ·intro w' hS
      obtain ⟨s0, s1, s2⟩ := hS
      go_simp
      with_reducible rfl
     rotate_left
     ·simp only [Act.put, List.setIfInBounds_toArray, List.set_cons_zero, List.set_cons_succ, i64_w, i32_w]
      rfl
     refine pure_ (i := 26) (N := some 99) (v := ?_) (a' := ?_) (ms 38 134217727) rfl rfl (any_of HT_.out (by kernel_rfl)) (fun _ _ _ h => h) (Or.inl ⟨by rfl, ?_⟩) ?_ ?_
     rotate_left
     ·intro w'
      go_simp
      with_reducible rfl
     rotate_left
     ·simp only [Act.put, List.setIfInBounds_toArray, List.set_cons_zero, List.set_cons_succ, i64_w, i32_w]
      rfl
     refine pure_ (i := 27) (N := some 100) (v := ?_) (a' := ?_) (ms 38 268435455) rfl rfl (any_of HT_.out (by kernel_rfl)) (fun _ _ _ h => h) (Or.inl ⟨by rfl, ?_⟩) ?_ ?_
     rotate_left
     ·intro w'
      go_simp
      with_reducible rfl
     rotate_left
     ·simp only [Act.put, List.setIfInBounds_toArray, List.set_cons_zero, List.set_cons_succ, i64_w, i32_w]
      rfl
     refine pure_ (i := 28) (N := some 101) (v := ?_) (a' := ?_) (ms 38 536870911) rfl rfl (any_of HT_.out (by kernel_rfl)) (fun _ _ _ h => h) (Or.inl ⟨by rfl, ?_⟩) ?_ ?_
     rotate_left
     ·intro w'
      go_simp
      with_reducible rfl
     rotate_left
     ·simp only [Act.put, List.setIfInBounds_toArray, List.set_cons_zero, List.set_cons_succ, i64_w, i32_w]
      rfl
     refine pure_ (i := 29) (N := some 102) (v := ?_) (a' := ?_) (ms 38 1073741823) rfl rfl (any_of HT_.out (by kernel_rfl)) (fun _ _ _ h => h) (Or.inl ⟨by rfl, ?_⟩) ?_ ?_
     rotate_left
     ·intro w'
      go_simp
      with_reducible rfl
     rotate_left
     ·simp only [Act.put, List.setIfInBounds_toArray, List.set_cons_zero, List.set_cons_succ, i64_w, i32_w]
      rfl
     refine pure_ (i := 30) (N := some 103) (v := ?_) (a' := ?_) (ms 38 2147483647) rfl rfl (any_of HT_.out (by kernel_rfl)) (fun _ _ _ h => h) (Or.inl ⟨by rfl, ?_⟩) ?_ ?_
     rotate_left
     ·intro w'
      go_simp
      with_reducible rfl
     rotate_left
     ·simp only [Act.put, List.setIfInBounds_toArray, List.set_cons_zero, List.set_cons_succ, i64_w, i32_w]
      rfl
     refine take_ (i := 31) (N := some 104) (v := ?_) (a' := ?_) (ms 38 4294967295) rfl rfl (take_ofW HT_.out HW_.out (by kernel_rfl)) (fun _ _ _ h => h) (Or.inl ⟨by rfl, ?_⟩) hHeld ?_ ?_
     rotate_left
     ·intro w' hS
      obtain ⟨s0, s1, s2⟩ := hS
      go_simp
      with_reducible rfl
     rotate_left
     ·simp only [Act.put, List.setIfInBounds_toArray, List.set_cons_zero, List.set_cons_succ, i64_w, i32_w]
      rfl
     refine pure_ (i := 32) (N := some 105) (v := ?_) (a' := ?_) (ms 38 8589934591) rfl rfl (any_of HT_.out (by kernel_rfl)) (fun _ _ _ h => h) (Or.inl ⟨by rfl, ?_⟩) ?_ ?_
     rotate_left
     ·intro w'
      go_simp
      with_reducible rfl
     rotate_left
     ·simp only [Act.put, List.setIfInBounds_toArray, List.set_cons_zero, List.set_cons_succ, i64_w, i32_w]
      rfl
     refine pure_ (i := 33) (N := some 106) (v := ?_) (a' := ?_) (ms 38 17179869183) rfl rfl (any_of HT_.out (by kernel_rfl)) (fun _ _ _ h => h) (Or.inl ⟨by rfl, ?_⟩) ?_ ?_
     rotate_left
     ·intro w'
      go_simp
      with_reducible rfl
     rotate_left
     ·simp only [Act.put, List.setIfInBounds_toArray, List.set_cons_zero, List.set_cons_succ, i64_w, i32_w]
      rfl
     refine pure_ (i := 34) (N := some 107) (v := ?_) (a' := ?_) (ms 38 34359738367) rfl rfl (any_of HT_.out (by kernel_rfl)) (fun _ _ _ h => h) (Or.inl ⟨by rfl, ?_⟩) ?_ ?_
     rotate_left
     ·intro w'
      go_simp
      with_reducible rfl
     rotate_left
     ·simp only [Act.put, List.setIfInBounds_toArray, List.set_cons_zero, List.set_cons_succ, i64_w, i32_w]
      rfl
     refine pure_ (i := 35) (N := some 108) (v := ?_) (a' := ?_) (ms 38 68719476735) rfl rfl (any_of HT_.out (by kernel_rfl)) (fun _ _ _ h => h) (Or.inl ⟨by rfl, ?_⟩) ?_ ?_
     rotate_left
     ·intro w'
      go_simp
      with_reducible rfl
     rotate_left
     ·simp only [Act.put, List.setIfInBounds_toArray, List.set_cons_zero, List.set_cons_succ, i64_w, i32_w]
      rfl
     refine pure_ (i := 36) (N := some 109) (v := ?_) (a' := ?_) (ms 38 137438953471) rfl rfl (any_of HT_.out (by kernel_rfl)) (fun _ _ _ h => h) (Or.inl ⟨by rfl, ?_⟩) ?_ ?_
     rotate_left
     ·intro w'
      go_simp
      with_reducible rfl
     rotate_left
     ·simp only [Act.put, List.setIfInBounds_toArray, List.set_cons_zero, List.set_cons_succ, i64_w, i32_w]
      rfl
     refine last_ (i := 37) (N := none) (ms 38 274877906943) rfl rfl (one_of HT_.out (by kernel_rfl)) (by decide) (fun K hK => ?_)
     refine skip_ (w1 := (wd.setCell ⟨w.heap.size, j, none⟩ (.bool true))) (by rfl) rfl ?_ ?_
     ·first | (go_simp; done) | (go_simp; rfl)
     refine hK.out _ _ ?_
     clear hK K
     refine done_ (done_of HT_.out (by kernel_rfl)) ?_
     have HS : Aside0 (NbI (opB true (mkb zs) (mkb us)) w r1 r2 zs us (j + 1) (out.set j true) (wd.setCell ⟨w.heap.size, j, none⟩ (.bool true))) := ⟨(by have h_ := SetF_step HD.out.1 HK.out; rw [show opB true (mkb zs) (mkb us) j = true from by rw [opB, EA.out, EB.out]; rfl] at h_; exact h_), Arr.set HD.out.2.1 _ _, Arr.far HD.out.2.2.1 (Nat.ne_of_gt HR2.out) _, Arr.far HD.out.2.2.2.1 (Nat.ne_of_gt HR3.out) _, below_set HD.out.2.2.2.2 (Nat.le_refl _)⟩
     clear hHeld HT_ HW_ fO cO HD
     go_wp2
     go_roundw
     case rel => exact ⟨j + 1, _, by have := HK.out; omega, by go_num, HS.out⟩
     case measure => have := HK.out; simp [intOf]; omega
    | false =>
     refine start_ (n := 38) (S := fun w' => w'.cell? ⟨r1, j, none⟩ = some (.bool false) ∧ w'.cell? ⟨r2, j, none⟩ = some (.bool false) ∧ w'.cell? ⟨g, 0, none⟩ = some (.int .u8 43)) (ds := [37]) (ms 38 0) (by kernel_rfl) rfl (by kernel_rfl) ⟨cA, cB, cG⟩ (fun hHeld => ?_); refine with_tabW nb22.tab nb22.bits (fun HT_ HW_ => ?_)
     generalize wr.drew = wd at hHeld HD ⊢
     have fO := Arr.frozen HD.out.2.1 j
     have cO := Arr.cell HD.out.2.1 (i := j) (by rw [HD.out.1.1]; exact hlt) (show mkb out j = false from by rw [HD.out.1.2 j hlt, if_neg (Nat.lt_irrefl j)])
     refine pure_ (i := 0) (N := some 73) (v := ?_) (a' := ?_) (ms 38 1) rfl rfl (any_of HT_.out (by kernel_rfl)) (fun _ _ _ h => h) (Or.inl ⟨by rfl, ?_⟩) ?_ ?_
     rotate_left
     ·intro w'
      go_simp
      with_reducible rfl
     rotate_left
     ·simp only [Act.put, List.setIfInBounds_toArray, List.set_cons_zero, List.set_cons_succ, i64_w, i32_w]
      rfl
     refine pure_ (i := 1) (N := some 74) (v := ?_) (a' := ?_) (ms 38 3) rfl rfl (any_of HT_.out (by kernel_rfl)) (fun _ _ _ h => h) (Or.inl ⟨by rfl, ?_⟩) ?_ ?_
     rotate_left
     ·intro w'
      go_simp
      with_reducible rfl
     rotate_left
     ·simp only [Act.put, List.setIfInBounds_toArray, List.set_cons_zero, List.set_cons_succ, i64_w, i32_w]
      rfl
     refine pure_ (i := 2) (N := some 75) (v := ?_) (a' := ?_) (ms 38 7) rfl rfl (any_of HT_.out (by kernel_rfl)) (fun _ _ _ h => h) (Or.inl ⟨by rfl, ?_⟩) ?_ ?_
     rotate_left
     ·intro w'
      go_simp
      with_reducible rfl
     rotate_left
     ·simp only [Act.put, List.setIfInBounds_toArray, List.set_cons_zero, List.set_cons_succ, i64_w, i32_w]
      rfl
     refine pure_ (i := 3) (N := some 76) (v := ?_) (a' := ?_) (ms 38 15) rfl rfl (any_of HT_.out (by kernel_rfl)) (fun _ _ _ h => h) (Or.inl ⟨by rfl, ?_⟩) ?_ ?_
     rotate_left
     ·intro w'
      go_simp
      with_reducible rfl
     rotate_left
     ·simp only [Act.put, List.setIfInBounds_toArray, List.set_cons_zero, List.set_cons_succ, i64_w, i32_w]
      rfl
     refine pure_ (i := 4) (N := some 77) (v := ?_) (a' := ?_) (ms 38 31) rfl rfl (any_of HT_.out (by kernel_rfl)) (fun _ _ _ h => h) (Or.inl ⟨by rfl, ?_⟩) ?_ ?_
     rotate_left
     ·intro w'
      go_simp
      with_reducible rfl
     rotate_left
     ·simp only [Act.put, List.setIfInBounds_toArray, List.set_cons_zero, List.set_cons_succ, i64_w, i32_w]
      rfl
     refine pure_ (i := 5) (N := some 78) (v := ?_) (a' := ?_) (ms 38 63) rfl rfl (any_of HT_.out (by kernel_rfl)) (fun _ _ _ h => h) (Or.inl ⟨by rfl, ?_⟩) ?_ ?_
     rotate_left
     ·intro w'
      go_simp
      with_reducible rfl
     rotate_left
     ·simp only [Act.put, List.setIfInBounds_toArray, List.set_cons_zero, List.set_cons_succ, i64_w, i32_w]
      rfl
     refine take_ (i := 6) (N := some 79) (v := ?_) (a' := ?_) (ms 38 127) rfl rfl (take_ofW HT_.out HW_.out (by kernel_rfl)) (fun _ _ _ h => h) (Or.inl ⟨by rfl, ?_⟩) hHeld ?_ ?_
     rotate_left
     ·intro w' hS
      obtain ⟨s0, s1, s2⟩ := hS
      go_simp
      with_reducible rfl
     rotate_left
     ·simp only [Act.put, List.setIfInBounds_toArray, List.set_cons_zero, List.set_cons_succ, i64_w, i32_w]
      rfl
     refine pure_ (i := 7) (N := some 80) (v := ?_) (a' := ?_) (ms 38 255) rfl rfl (any_of HT_.out (by kernel_rfl)) (fun _ _ _ h => h) (Or.inl ⟨by rfl, ?_⟩) ?_ ?_
     rotate_left
     ·intro w'
      go_simp
      with_reducible rfl
     rotate_left
     ·simp only [Act.put, List.setIfInBounds_toArray, List.set_cons_zero, List.set_cons_succ, i64_w, i32_w]
      rfl
     refine pure_ (i := 8) (N := some 81) (v := undef) (a' := ?_) (ms 38 511) rfl rfl (any_of HT_.out (by kernel_rfl)) (fun _ _ _ h => h) (Or.inr ⟨by rfl, rfl⟩) ?_ ?_
     rotate_left
     ·simp only [Act.put, List.setIfInBounds_toArray, List.set_cons_zero, List.set_cons_succ, i64_w, i32_w]
      rfl
     refine pure_ (i := 9) (N := some 82) (v := undef) (a' := ?_) (ms 38 1023) rfl rfl (any_of HT_.out (by kernel_rfl)) (fun _ _ _ h => h) (Or.inr ⟨by rfl, rfl⟩) ?_ ?_
     rotate_left
     ·simp only [Act.put, List.setIfInBounds_toArray, List.set_cons_zero, List.set_cons_succ, i64_w, i32_w]
      rfl
     refine pure_ (i := 10) (N := some 83) (v := undef) (a' := ?_) (ms 38 2047) rfl rfl (any_of HT_.out (by kernel_rfl)) (fun _ _ _ h => h) (Or.inr ⟨by rfl, rfl⟩) ?_ ?_
     rotate_left
     ·simp only [Act.put, List.setIfInBounds_toArray, List.set_cons_zero, List.set_cons_succ, i64_w, i32_w]
      rfl
     refine pure_ (i := 11) (N := some 84) (v := undef) (a' := ?_) (ms 38 4095) rfl rfl (any_of HT_.out (by kernel_rfl)) (fun _ _ _ h => h) (Or.inr ⟨by rfl, rfl⟩) ?_ ?_
     rotate_left
     ·simp only [Act.put, List.setIfInBounds_toArray, List.set_cons_zero, List.set_cons_succ, i64_w, i32_w]
      rfl
     refine pure_ (i := 12) (N := some 85) (v := undef) (a' := ?_) (ms 38 8191) rfl rfl (any_of HT_.out (by kernel_rfl)) (fun _ _ _ h => h) (Or.inr ⟨by rfl, rfl⟩) ?_ ?_
     rotate_left
     ·simp only [Act.put, List.setIfInBounds_toArray, List.set_cons_zero, List.set_cons_succ, i64_w, i32_w]
      rfl
     refine pure_ (i := 13) (N := some 86) (v := ?_) (a' := ?_) (ms 38 16383) rfl rfl (any_of HT_.out (by kernel_rfl)) (fun _ _ _ h => h) (Or.inl ⟨by rfl, ?_⟩) ?_ ?_
     rotate_left
     ·intro w'
      go_simp
      with_reducible rfl
     rotate_left
     ·simp only [Act.put, List.setIfInBounds_toArray, List.set_cons_zero, List.set_cons_succ, i64_w, i32_w]
      rfl
     refine pure_ (i := 14) (N := some 87) (v := ?_) (a' := ?_) (ms 38 32767) rfl rfl (any_of HT_.out (by kernel_rfl)) (fun _ _ _ h => h) (Or.inl ⟨by rfl, ?_⟩) ?_ ?_
     rotate_left
     ·intro w'
      go_simp
      with_reducible rfl
     rotate_left
     ·simp only [Act.put, List.setIfInBounds_toArray, List.set_cons_zero, List.set_cons_succ, i64_w, i32_w]
      rfl
     refine pure_ (i := 15) (N := some 88) (v := ?_) (a' := ?_) (ms 38 65535) rfl rfl (any_of HT_.out (by kernel_rfl)) (fun _ _ _ h => h) (Or.inl ⟨by rfl, ?_⟩) ?_ ?_
     rotate_left
     ·intro w'
      go_simp
      with_reducible rfl
     rotate_left
     ·simp only [Act.put, List.setIfInBounds_toArray, List.set_cons_zero, List.set_cons_succ, i64_w, i32_w]
      rfl
     refine pure_ (i := 16) (N := some 89) (v := ?_) (a' := ?_) (ms 38 131071) rfl rfl (any_of HT_.out (by kernel_rfl)) (fun _ _ _ h => h) (Or.inl ⟨by rfl, ?_⟩) ?_ ?_
     rotate_left
     ·intro w'
      go_simp
      with_reducible rfl
     rotate_left
     ·simp only [Act.put, List.setIfInBounds_toArray, List.set_cons_zero, List.set_cons_succ, i64_w, i32_w]
      rfl
     refine pure_ (i := 17) (N := some 90) (v := ?_) (a' := ?_) (ms 38 262143) rfl rfl (any_of HT_.out (by kernel_rfl)) (fun _ _ _ h => h) (Or.inl ⟨by rfl, ?_⟩) ?_ ?_
     rotate_left
     ·intro w'
      go_simp
      with_reducible rfl
     rotate_left
     ·simp only [Act.put, List.setIfInBounds_toArray, List.set_cons_zero, List.set_cons_succ, i64_w, i32_w]
      rfl
     refine take_ (i := 18) (N := some 91) (v := ?_) (a' := ?_) (ms 38 524287) rfl rfl (take_ofW HT_.out HW_.out (by kernel_rfl)) (fun _ _ _ h => h) (Or.inl ⟨by rfl, ?_⟩) hHeld ?_ ?_
     rotate_left
     ·intro w' hS
      obtain ⟨s0, s1, s2⟩ := hS
      go_simp
      with_reducible rfl
     rotate_left
     ·simp only [Act.put, List.setIfInBounds_toArray, List.set_cons_zero, List.set_cons_succ, i64_w, i32_w]
      rfl
     refine pure_ (i := 19) (N := some 92) (v := ?_) (a' := ?_) (ms 38 1048575) rfl rfl (any_of HT_.out (by kernel_rfl)) (fun _ _ _ h => h) (Or.inl ⟨by rfl, ?_⟩) ?_ ?_
     rotate_left
     ·intro w'
      go_simp
      with_reducible rfl
     rotate_left
     ·simp only [Act.put, List.setIfInBounds_toArray, List.set_cons_zero, List.set_cons_succ, i64_w, i32_w]
      rfl
     refine pure_ (i := 20) (N := some 93) (v := ?_) (a' := ?_) (ms 38 2097151) rfl rfl (any_of HT_.out (by kernel_rfl)) (fun _ _ _ h => h) (Or.inl ⟨by rfl, ?_⟩) ?_ ?_
     rotate_left
     ·intro w'
      go_simp
      with_reducible rfl
     rotate_left
     ·simp only [Act.put, List.setIfInBounds_toArray, List.set_cons_zero, List.set_cons_succ, i64_w, i32_w]
      rfl
     refine pure_ (i := 21) (N := some 94) (v := ?_) (a' := ?_) (ms 38 4194303) rfl rfl (any_of HT_.out (by kernel_rfl)) (fun _ _ _ h => h) (Or.inl ⟨by rfl, ?_⟩) ?_ ?_
     rotate_left
     ·intro w'
      go_simp
      with_reducible rfl
     rotate_left
     ·simp only [Act.put, List.setIfInBounds_toArray, List.set_cons_zero, List.set_cons_succ, i64_w, i32_w]
      rfl
     refine pure_ (i := 22) (N := some 95) (v := ?_) (a' := ?_) (ms 38 8388607) rfl rfl (any_of HT_.out (by kernel_rfl)) (fun _ _ _ h => h) (Or.inl ⟨by rfl, ?_⟩) ?_ ?_
     rotate_left
     ·intro w'
      go_simp
      with_reducible rfl
     rotate_left
     ·simp only [Act.put, List.setIfInBounds_toArray, List.set_cons_zero, List.set_cons_succ, i64_w, i32_w]
      rfl
     refine pure_ (i := 23) (N := some 96) (v := ?_) (a' := ?_) (ms 38 16777215) rfl rfl (any_of HT_.out (by kernel_rfl)) (fun _ _ _ h => h) (Or.inl ⟨by rfl, ?_⟩) ?_ ?_
     rotate_left
     ·intro w'
      go_simp
      with_reducible rfl
     rotate_left
     ·simp only [Act.put, List.setIfInBounds_toArray, List.set_cons_zero, List.set_cons_succ, i64_w, i32_w]
      rfl
     refine pure_ (i := 24) (N := some 97) (v := ?_) (a' := ?_) (ms 38 33554431) rfl rfl (any_of HT_.out (by kernel_rfl)) (fun _ _ _ h => h) (Or.inl ⟨by rfl, ?_⟩) ?_ ?_
     rotate_left
     ·intro w'
      go_simp
      with_reducible rfl
     rotate_left
     ·simp only [Act.put, List.setIfInBounds_toArray, List.set_cons_zero, List.set_cons_succ, i64_w, i32_w]
      rfl
     refine take_ (i := 25) (N := some 98) (v := ?_) (a' := ?_) (ms 38 67108863) rfl rfl (take_ofW HT_.out HW_.out (by kernel_rfl)) (fun _ _ _ h => h) (Or.inl ⟨by rfl, ?_⟩) hHeld ?_ ?_
     rotate_left
     ·intro w' hS
      obtain ⟨s0, s1, s2⟩ := hS
      go_simp
      with_reducible rfl
     rotate_left
     ·simp only [Act.put, List.setIfInBounds_toArray, List.set_cons_zero, List.set_cons_succ, i64_w, i32_w]
      rfl
     refine pure_ (i := 26) (N := some 99) (v := ?_) (a' := ?_) (ms 38 134217727) rfl rfl (any_of HT_.out (by kernel_rfl)) (fun _ _ _ h => h) (Or.inl ⟨by rfl, ?_⟩) ?_ ?_
     rotate_left
     ·intro w'
      go_simp
      with_reducible rfl
     rotate_left
     ·simp only [Act.put, List.setIfInBounds_toArray, List.set_cons_zero, List.set_cons_succ, i64_w, i32_w]
      rfl
     refine pure_ (i := 27) (N := some 100) (v := ?_) (a' := ?_) (ms 38 268435455) rfl rfl (any_of HT_.out (by kernel_rfl)) (fun _ _ _ h => h) (Or.inl ⟨by rfl, ?_⟩) ?_ ?_
     rotate_left
     ·intro w'
      go_simp
      with_reducible rfl
     rotate_left
     ·simp only [Act.put, List.setIfInBounds_toArray, List.set_cons_zero, List.set_cons_succ, i64_w, i32_w]
      rfl
     refine pure_ (i := 28) (N := some 101) (v := ?_) (a' := ?_) (ms 38 536870911) rfl rfl (any_of HT_.out (by kernel_rfl)) (fun _ _ _ h => h) (Or.inl ⟨by rfl, ?_⟩) ?_ ?_
     rotate_left
     ·intro w'
      go_simp
      with_reducible rfl
     rotate_left
     ·simp only [Act.put, List.setIfInBounds_toArray, List.set_cons_zero, List.set_cons_succ, i64_w, i32_w]
      rfl
     refine pure_ (i := 29) (N := some 102) (v := ?_) (a' := ?_) (ms 38 1073741823) rfl rfl (any_of HT_.out (by kernel_rfl)) (fun _ _ _ h => h) (Or.inl ⟨by rfl, ?_⟩) ?_ ?_
     rotate_left
     ·intro w'
      go_simp
      with_reducible rfl
     rotate_left
     ·simp only [Act.put, List.setIfInBounds_toArray, List.set_cons_zero, List.set_cons_succ, i64_w, i32_w]
      rfl
     refine pure_ (i := 30) (N := some 103) (v := ?_) (a' := ?_) (ms 38 2147483647) rfl rfl (any_of HT_.out (by kernel_rfl)) (fun _ _ _ h => h) (Or.inl ⟨by rfl, ?_⟩) ?_ ?_
     rotate_left
     ·intro w'
      go_simp
      with_reducible rfl
     rotate_left
     ·simp only [Act.put, List.setIfInBounds_toArray, List.set_cons_zero, List.set_cons_succ, i64_w, i32_w]
      rfl
     refine take_ (i := 31) (N := some 104) (v := ?_) (a' := ?_) (ms 38 4294967295) rfl rfl (take_ofW HT_.out HW_.out (by kernel_rfl)) (fun _ _ _ h => h) (Or.inl ⟨by rfl, ?_⟩) hHeld ?_ ?_
     rotate_left
     ·intro w' hS
      obtain ⟨s0, s1, s2⟩ := hS
      go_simp
      with_reducible rfl
     rotate_left
     ·simp only [Act.put, List.setIfInBounds_toArray, List.set_cons_zero, List.set_cons_succ, i64_w, i32_w]
      rfl
     refine pure_ (i := 32) (N := some 105) (v := ?_) (a' := ?_) (ms 38 8589934591) rfl rfl (any_of HT_.out (by kernel_rfl)) (fun _ _ _ h => h) (Or.inl ⟨by rfl, ?_⟩) ?_ ?_
     rotate_left
     ·intro w'
      go_simp
      with_reducible rfl
     rotate_left
     ·simp only [Act.put, List.setIfInBounds_toArray, List.set_cons_zero, List.set_cons_succ, i64_w, i32_w]
      rfl
     refine pure_ (i := 33) (N := some 106) (v := ?_) (a' := ?_) (ms 38 17179869183) rfl rfl (any_of HT_.out (by kernel_rfl)) (fun _ _ _ h => h) (Or.inl ⟨by rfl, ?_⟩) ?_ ?_
     rotate_left
     ·intro w'
      go_simp
      with_reducible rfl
     rotate_left
     ·simp only [Act.put, List.setIfInBounds_toArray, List.set_cons_zero, List.set_cons_succ, i64_w, i32_w]
      rfl
     refine pure_ (i := 34) (N := some 107) (v := ?_) (a' := ?_) (ms 38 34359738367) rfl rfl (any_of HT_.out (by kernel_rfl)) (fun _ _ _ h => h) (Or.inl ⟨by rfl, ?_⟩) ?_ ?_
     rotate_left
     ·intro w'
      go_simp
      with_reducible rfl
     rotate_left
     ·simp only [Act.put, List.setIfInBounds_toArray, List.set_cons_zero, List.set_cons_succ, i64_w, i32_w]
      rfl
     refine pure_ (i := 35) (N := some 108) (v := ?_) (a' := ?_) (ms 38 68719476735) rfl rfl (any_of HT_.out (by kernel_rfl)) (fun _ _ _ h => h) (Or.inl ⟨by rfl, ?_⟩) ?_ ?_
     rotate_left
     ·intro w'
      go_simp
      with_reducible rfl
     rotate_left
     ·simp only [Act.put, List.setIfInBounds_toArray, List.set_cons_zero, List.set_cons_succ, i64_w, i32_w]
      rfl
     refine pure_ (i := 36) (N := some 109) (v := ?_) (a' := ?_) (ms 38 137438953471) rfl rfl (any_of HT_.out (by kernel_rfl)) (fun _ _ _ h => h) (Or.inl ⟨by rfl, ?_⟩) ?_ ?_
     rotate_left
     ·intro w'
      go_simp
      with_reducible rfl
     rotate_left
     ·simp only [Act.put, List.setIfInBounds_toArray, List.set_cons_zero, List.set_cons_succ, i64_w, i32_w]
      rfl
     refine last_ (i := 37) (N := none) (ms 38 274877906943) rfl rfl (one_of HT_.out (by kernel_rfl)) (by decide) (fun K hK => ?_)
     refine skip_ (w1 := (wd.setCell ⟨w.heap.size, j, none⟩ (.bool false))) (by rfl) rfl ?_ ?_
     ·first | (go_simp; done) | (go_simp; rfl)
     refine hK.out _ _ ?_
     clear hK K
     refine done_ (done_of HT_.out (by kernel_rfl)) ?_
     have HS : Aside0 (NbI (opB true (mkb zs) (mkb us)) w r1 r2 zs us (j + 1) (out.set j false) (wd.setCell ⟨w.heap.size, j, none⟩ (.bool false))) := ⟨(by have h_ := SetF_step HD.out.1 HK.out; rw [show opB true (mkb zs) (mkb us) j = false from by rw [opB, EA.out, EB.out]; rfl] at h_; exact h_), Arr.set HD.out.2.1 _ _, Arr.far HD.out.2.2.1 (Nat.ne_of_gt HR2.out) _, Arr.far HD.out.2.2.2.1 (Nat.ne_of_gt HR3.out) _, below_set HD.out.2.2.2.2 (Nat.le_refl _)⟩
     clear hHeld HT_ HW_ fO cO HD
     go_wp2
     go_roundw
     case rel => exact ⟨j + 1, _, by have := HK.out; omega, by go_num, HS.out⟩
     case measure => have := HK.out; simp [intOf]; omega
  ·have k1 : decide ((j : Int) < 201) = false := decide_eq_false (by omega)
   obtain rfl : j = 201 := by omega
   go_wp2
   go_ret
   exact ⟨⟨_, out, rfl, Nat.le_refl _, HJ.out.2.1, HJ.out.1.1, fun n hn => (SetF_end HJ.out.1 n hn).trans (opB_congr (HD2.out n hn) (HD3.out n hn))⟩, HJ.out.2.2.2.2⟩
set_option maxHeartbeats 8000000 in
set_option maxRecDepth 100000 in
theorem nm_both (x y : Te) (g : Nat) (w : World) (hA : Stands w (.two 38 x y) g) (ih : ∀ h W, Stands W x h → Calls Try.prog 20 #[.pointer (some ⟨h, 0, none⟩)] W (NmOut x W)) (ih2 : ∀ h W, Stands W y h → Calls Try.prog 20 #[.pointer (some ⟨h, 0, none⟩)] W (NmOut y W)) : Calls Try.prog 20 #[.pointer (some ⟨g, 0, none⟩)] w (NmOut (.two 38 x y) w) := by
 have hu_ := Try.underlying54
 have hv_ := Try.underlying53
 have ht_ := Try.underlying48
 obtain ⟨Z, hZ, hz, hne⟩ := nm_z
 obtain ⟨B, h, i, cap, hA, cB, cC, hx, hy⟩ := hA
 have hb1 := below_a1 w (.cells Z 54 (0, 0))
 have d0 := (blk_cell hA 0).trans (show _ = some (Value.int .u8 38) from rfl)
 have c1 := (blk_cell hA 1).trans (show _ = some (Value.slice (some B) 2 cap) from rfl)
 have c0 := pw_cell_below hb1 d0
 have D0 := Aside0.mk d0
 have IH := Aside0.mk (fun W hb => ih h W (Stands.below hb hx))
 have IH2 := Aside0.mk (fun W hb => ih2 i W (Stands.below hb hy))
 have HB1 := Aside0.mk hb1
 have HN := Aside0.mk (nm_new hZ w)
 clear hZ hA hx hy hb1 d0
 clear ih ih2
 go_enter Try.func20, Try.ntmps20
 try go_wp2_with fail
 have HN2 : Aside0 (Arr (w.alloc (.cells Z 54 (0, 0))).drew w.heap.size (List.replicate 201 false)) := ⟨Arr.below HN.out (below_drew1 (Below.refl _ _))⟩
 refine start_ (n := 16) (S := fun w' => Below w.heap.size w w') (ds := []) (ms 16 0) (by kernel_rfl) rfl (by kernel_rfl) (below_drew1 HB1.out) (fun hHeld => ?_); refine with_tabW nb18.tab nb18.bits (fun HT_ HW_ => ?_)
 generalize (w.alloc (.cells Z 54 (0, 0))).drew = wd at hHeld HN2 ⊢
 have hwd : w.heap.size < wd.heap.size := Arr.lt HN2.out
 have HW := Aside0.mk hwd
 clear hwd
 refine pure_ (i := 0) (N := some 56) (v := ?_) (a' := ?_) (ms 16 1) rfl rfl (any_of HT_.out (by kernel_rfl)) (fun _ _ _ h => h) (Or.inl ⟨by rfl, ?_⟩) ?_ ?_
 rotate_left
 ·intro w'
  go_simp
  with_reducible rfl
 rotate_left
 ·simp only [Act.put, List.setIfInBounds_toArray, List.set_cons_zero, List.set_cons_succ, i64_w, i32_w]
  rfl
 refine pure_ (i := 1) (N := some 57) (v := ?_) (a' := ?_) (ms 16 3) rfl rfl (any_of HT_.out (by kernel_rfl)) (fun _ _ _ h => h) (Or.inl ⟨by rfl, ?_⟩) ?_ ?_
 rotate_left
 ·intro w'
  go_simp
  with_reducible rfl
 rotate_left
 ·simp only [Act.put, List.setIfInBounds_toArray, List.set_cons_zero, List.set_cons_succ, i64_w, i32_w]
  rfl
 refine pure_ (i := 2) (N := some 58) (v := ?_) (a' := ?_) (ms 16 7) rfl rfl (any_of HT_.out (by kernel_rfl)) (fun _ _ _ h => h) (Or.inl ⟨by rfl, ?_⟩) ?_ ?_
 rotate_left
 ·intro w'
  go_simp
  with_reducible rfl
 rotate_left
 ·simp only [Act.put, List.setIfInBounds_toArray, List.set_cons_zero, List.set_cons_succ, i64_w, i32_w]
  rfl
 refine take_ (i := 3) (N := some 59) (v := ?_) (a' := ?_) (ms 16 15) rfl rfl (take_ofW HT_.out HW_.out (by kernel_rfl)) (fun _ _ _ h => h) (Or.inl ⟨by rfl, ?_⟩) hHeld ?_ ?_
 rotate_left
 ·intro w' hS
  have f1 := pw_cell_below hS c1
  have f2 := pw_cell_below hS cB
  have f3 := pw_cell_below hS cC
  go_simp
  with_reducible rfl
 rotate_left
 ·simp only [Act.put, List.setIfInBounds_toArray, List.set_cons_zero, List.set_cons_succ, i64_w, i32_w]
  rfl
 refine pure_ (i := 4) (N := some 60) (v := ?_) (a' := ?_) (ms 16 31) rfl rfl (any_of HT_.out (by kernel_rfl)) (fun _ _ _ h => h) (Or.inl ⟨by rfl, ?_⟩) ?_ ?_
 rotate_left
 ·intro w'
  go_simp
  with_reducible rfl
 rotate_left
 ·simp only [Act.put, List.setIfInBounds_toArray, List.set_cons_zero, List.set_cons_succ, i64_w, i32_w]
  rfl
 refine take_ (i := 5) (N := some 61) (v := ?_) (a' := ?_) (ms 16 63) rfl rfl (take_ofW HT_.out HW_.out (by kernel_rfl)) (fun _ _ _ h => h) (Or.inl ⟨by rfl, ?_⟩) hHeld ?_ ?_
 rotate_left
 ·intro w' hS
  have f1 := pw_cell_below hS c1
  have f2 := pw_cell_below hS cB
  have f3 := pw_cell_below hS cC
  go_simp
  with_reducible rfl
 rotate_left
 ·simp only [Act.put, List.setIfInBounds_toArray, List.set_cons_zero, List.set_cons_succ, i64_w, i32_w]
  rfl
 refine pure_ (i := 7) (N := some 63) (v := ?_) (a' := ?_) (ms 16 191) rfl rfl (any_of HT_.out (by kernel_rfl)) (fun _ _ _ h => h) (Or.inl ⟨by rfl, ?_⟩) ?_ ?_
 rotate_left
 ·intro w'
  go_simp
  with_reducible rfl
 rotate_left
 ·simp only [Act.put, List.setIfInBounds_toArray, List.set_cons_zero, List.set_cons_succ, i64_w, i32_w]
  rfl
 refine pure_ (i := 8) (N := some 64) (v := ?_) (a' := ?_) (ms 16 447) rfl rfl (any_of HT_.out (by kernel_rfl)) (fun _ _ _ h => h) (Or.inl ⟨by rfl, ?_⟩) ?_ ?_
 rotate_left
 ·intro w'
  go_simp
  with_reducible rfl
 rotate_left
 ·simp only [Act.put, List.setIfInBounds_toArray, List.set_cons_zero, List.set_cons_succ, i64_w, i32_w]
  rfl
 refine pure_ (i := 9) (N := some 65) (v := ?_) (a' := ?_) (ms 16 959) rfl rfl (any_of HT_.out (by kernel_rfl)) (fun _ _ _ h => h) (Or.inl ⟨by rfl, ?_⟩) ?_ ?_
 rotate_left
 ·intro w'
  go_simp
  with_reducible rfl
 rotate_left
 ·simp only [Act.put, List.setIfInBounds_toArray, List.set_cons_zero, List.set_cons_succ, i64_w, i32_w]
  rfl
 refine take_ (i := 10) (N := some 66) (v := ?_) (a' := ?_) (ms 16 1983) rfl rfl (take_ofW HT_.out HW_.out (by kernel_rfl)) (fun _ _ _ h => h) (Or.inl ⟨by rfl, ?_⟩) hHeld ?_ ?_
 rotate_left
 ·intro w' hS
  have f1 := pw_cell_below hS c1
  have f2 := pw_cell_below hS cB
  have f3 := pw_cell_below hS cC
  go_simp
  with_reducible rfl
 rotate_left
 ·simp only [Act.put, List.setIfInBounds_toArray, List.set_cons_zero, List.set_cons_succ, i64_w, i32_w]
  rfl
 refine pure_ (i := 11) (N := some 67) (v := ?_) (a' := ?_) (ms 16 4031) rfl rfl (any_of HT_.out (by kernel_rfl)) (fun _ _ _ h => h) (Or.inl ⟨by rfl, ?_⟩) ?_ ?_
 rotate_left
 ·intro w'
  go_simp
  with_reducible rfl
 rotate_left
 ·simp only [Act.put, List.setIfInBounds_toArray, List.set_cons_zero, List.set_cons_succ, i64_w, i32_w]
  rfl
 refine take_ (i := 12) (N := some 68) (v := ?_) (a' := ?_) (ms 16 8127) rfl rfl (take_ofW HT_.out HW_.out (by kernel_rfl)) (fun _ _ _ h => h) (Or.inl ⟨by rfl, ?_⟩) hHeld ?_ ?_
 rotate_left
 ·intro w' hS
  have f1 := pw_cell_below hS c1
  have f2 := pw_cell_below hS cB
  have f3 := pw_cell_below hS cC
  go_simp
  with_reducible rfl
 rotate_left
 ·simp only [Act.put, List.setIfInBounds_toArray, List.set_cons_zero, List.set_cons_succ, i64_w, i32_w]
  rfl
 refine one_ (i := 6) (N := some 62) (ms 16 8191) rfl rfl (one_of HT_.out (by kernel_rfl)) (by decide) (fun K hK => ?_)
 refine goes_ Try.func20 (by kernel_rfl) rfl #[.pointer (some ⟨h, 0, none⟩)] (by rfl) rfl rfl (by (try simp only [List.map_toArray, List.map_cons, List.map_nil]); first | done | rfl) ?_
 refine (IH.out _ hHeld).mono ?_
 rintro e W2 ⟨⟨r1, zs, rfl, hr, hA2, hl, hd⟩, hb⟩
 refine ⟨_, rfl, ?_⟩
 have HN3 := Aside0.mk (Arr.below HN2.out hb)
 have HA2 := Aside0.mk hA2
 have HL2 := Aside0.mk hl
 have HD2 := Aside0.mk hd
 have HR2 := Aside0.mk (Nat.lt_of_lt_of_le HW.out hr)
 have HW2 := Aside0.mk (Nat.lt_of_lt_of_le HW.out (below_size hb))
 refine hK.out _ _ (below_step hHeld hb) (fun hHeld => ?_)
 clear hb hA2 hl hd hr
 clear hK K
 refine norm_ (a' := ?_) ?_ ?_
 rotate_left
 ·show Act.put _ (some 62) _ = _
  simp only [Act.put, List.setIfInBounds_toArray, List.set_cons_zero, List.set_cons_succ, i64_w, i32_w]
  rfl
 refine one_ (i := 13) (N := some 69) (ms 16 16383) rfl rfl (one_of HT_.out (by kernel_rfl)) (by decide) (fun K hK => ?_)
 refine goes_ Try.func20 (by kernel_rfl) rfl #[.pointer (some ⟨i, 0, none⟩)] (by rfl) rfl rfl (by (try simp only [List.map_toArray, List.map_cons, List.map_nil]); first | done | rfl) ?_
 refine (IH2.out _ hHeld).mono ?_
 rintro e W3 ⟨⟨r2, us, rfl, hr, hA3, hl, hd⟩, hb⟩
 refine ⟨_, rfl, ?_⟩
 have HN4 := Aside0.mk (Arr.below HN3.out hb)
 have HA4 := Aside0.mk (Arr.below HA2.out hb)
 have HA3 := Aside0.mk hA3
 have HL3 := Aside0.mk hl
 have HD3 := Aside0.mk hd
 have HR3 := Aside0.mk (Nat.lt_of_lt_of_le HW2.out hr)
 refine hK.out _ _ (below_step hHeld hb) (fun hHeld => ?_)
 clear hb hA3 hl hd hr
 clear hK K
 refine norm_ (a' := ?_) ?_ ?_
 rotate_left
 ·show Act.put _ (some 69) _ = _
  simp only [Act.put, List.setIfInBounds_toArray, List.set_cons_zero, List.set_cons_succ, i64_w, i32_w]
  rfl
 refine pure_ (i := 14) (N := some 4) (v := ?_) (a' := ?_) (ms 16 32767) rfl rfl (any_of HT_.out (by kernel_rfl)) (fun _ _ _ h => h) (Or.inl ⟨by rfl, ?_⟩) ?_ ?_
 rotate_left
 ·intro w'
  go_simp
  with_reducible rfl
 rotate_left
 ·simp only [Act.put, List.setIfInBounds_toArray, List.set_cons_zero, List.set_cons_succ, i64_w, i32_w]
  rfl
 refine pure_ (i := 15) (N := some 5) (v := ?_) (a' := ?_) (ms 16 65535) rfl rfl (any_of HT_.out (by kernel_rfl)) (fun _ _ _ h => h) (Or.inl ⟨by rfl, ?_⟩) ?_ ?_
 rotate_left
 ·intro w'
  go_simp
  with_reducible rfl
 rotate_left
 ·simp only [Act.put, List.setIfInBounds_toArray, List.set_cons_zero, List.set_cons_succ, i64_w, i32_w]
  rfl
 refine done_ (done_of HT_.out (by kernel_rfl)) ?_
 have HB := Aside0.mk hHeld
 clear hHeld HT_ HW_ c0 c1 cB cC HN HN2 HN3 HW HW2 HA2 HB1 IH IH2
 go_wp2
 go_loopw [70] (fun v70 wr => ∃ (j : Nat) (out : List Bool), j ≤ 201 ∧ v70 = .int .i64 j ∧ NbI (opB false (mkb zs) (mkb us)) w r1 r2 zs us j out wr) (fun v70 _ => 201 - (intOf v70).toNat)
 case atStart => exact ⟨0, _, by omega, rfl, SetF_start _, HN4.out, HA4.out, HA3.out, HB.out⟩
 case round =>
  obtain ⟨j, out, hj, rfl, hN⟩ := hrel
  have HJ := Aside0.mk hN
  clear hN HN4 HA4 HA3 HB
  by_cases hlt : j < 201
  ·have k1 : decide ((j : Int) < 201) = true := decide_eq_true (by omega)
   have k2 : (j : Int) < 201 := by omega
   obtain ⟨av, ea⟩ : ∃ b, mkb zs j = b := ⟨_, rfl⟩
   obtain ⟨bv, eb⟩ : ∃ b, mkb us j = b := ⟨_, rfl⟩
   have cA := Arr.cell HJ.out.2.2.1 (i := j) (by rw [HL2.out]; exact hlt) ea
   have cB := Arr.cell HJ.out.2.2.2.1 (i := j) (by rw [HL3.out]; exact hlt) eb
   have cG := pw_cell_below HJ.out.2.2.2.2 D0.out
   have EA := Aside0.mk ea
   have EB := Aside0.mk eb
   have HD : Aside0 (NbI (opB false (mkb zs) (mkb us)) w r1 r2 zs us j out wr.drew) := ⟨HJ.out.1, Arr.below HJ.out.2.1 (below_drew1 (Below.refl _ _)), Arr.below HJ.out.2.2.1 (below_drew1 (Below.refl _ _)), Arr.below HJ.out.2.2.2.1 (below_drew1 (Below.refl _ _)), below_drew1 HJ.out.2.2.2.2⟩
   have HK : Aside0 (j < 201) := ⟨hlt⟩
   clear ea eb hj
   go_wp2
   cases av with
   | true =>
    cases bv with
    | true =>
     refine start_ (n := 38) (S := fun w' => w'.cell? ⟨r1, j, none⟩ = some (.bool true) ∧ w'.cell? ⟨r2, j, none⟩ = some (.bool true) ∧ w'.cell? ⟨g, 0, none⟩ = some (.int .u8 38)) (ds := [37]) (ms 38 0) (by kernel_rfl) rfl (by kernel_rfl) ⟨cA, cB, cG⟩ (fun hHeld => ?_); refine with_tabW nb22.tab nb22.bits (fun HT_ HW_ => ?_)
     generalize wr.drew = wd at hHeld HD ⊢
     have fO := Arr.frozen HD.out.2.1 j
     have cO := Arr.cell HD.out.2.1 (i := j) (by rw [HD.out.1.1]; exact hlt) (show mkb out j = false from by rw [HD.out.1.2 j hlt, if_neg (Nat.lt_irrefl j)])
     refine pure_ (i := 0) (N := some 73) (v := ?_) (a' := ?_) (ms 38 1) rfl rfl (any_of HT_.out (by kernel_rfl)) (fun _ _ _ h => h) (Or.inl ⟨by rfl, ?_⟩) ?_ ?_
     rotate_left
     ·intro w'
      go_simp
      with_reducible rfl
     rotate_left
     ·simp only [Act.put, List.setIfInBounds_toArray, List.set_cons_zero, List.set_cons_succ, i64_w, i32_w]
      rfl
     refine pure_ (i := 1) (N := some 74) (v := ?_) (a' := ?_) (ms 38 3) rfl rfl (any_of HT_.out (by kernel_rfl)) (fun _ _ _ h => h) (Or.inl ⟨by rfl, ?_⟩) ?_ ?_
     rotate_left
     ·intro w'
      go_simp
      with_reducible rfl
     rotate_left
     ·simp only [Act.put, List.setIfInBounds_toArray, List.set_cons_zero, List.set_cons_succ, i64_w, i32_w]
      rfl
     refine pure_ (i := 2) (N := some 75) (v := ?_) (a' := ?_) (ms 38 7) rfl rfl (any_of HT_.out (by kernel_rfl)) (fun _ _ _ h => h) (Or.inl ⟨by rfl, ?_⟩) ?_ ?_
     rotate_left
     ·intro w'
      go_simp
      with_reducible rfl
     rotate_left
     ·simp only [Act.put, List.setIfInBounds_toArray, List.set_cons_zero, List.set_cons_succ, i64_w, i32_w]
      rfl
     refine pure_ (i := 3) (N := some 76) (v := ?_) (a' := ?_) (ms 38 15) rfl rfl (any_of HT_.out (by kernel_rfl)) (fun _ _ _ h => h) (Or.inl ⟨by rfl, ?_⟩) ?_ ?_
     rotate_left
     ·intro w'
      go_simp
      with_reducible rfl
     rotate_left
     ·simp only [Act.put, List.setIfInBounds_toArray, List.set_cons_zero, List.set_cons_succ, i64_w, i32_w]
      rfl
     refine pure_ (i := 4) (N := some 77) (v := ?_) (a' := ?_) (ms 38 31) rfl rfl (any_of HT_.out (by kernel_rfl)) (fun _ _ _ h => h) (Or.inl ⟨by rfl, ?_⟩) ?_ ?_
     rotate_left
     ·intro w'
      go_simp
      with_reducible rfl
     rotate_left
     ·simp only [Act.put, List.setIfInBounds_toArray, List.set_cons_zero, List.set_cons_succ, i64_w, i32_w]
      rfl
     refine pure_ (i := 5) (N := some 78) (v := ?_) (a' := ?_) (ms 38 63) rfl rfl (any_of HT_.out (by kernel_rfl)) (fun _ _ _ h => h) (Or.inl ⟨by rfl, ?_⟩) ?_ ?_
     rotate_left
     ·intro w'
      go_simp
      with_reducible rfl
     rotate_left
     ·simp only [Act.put, List.setIfInBounds_toArray, List.set_cons_zero, List.set_cons_succ, i64_w, i32_w]
      rfl
     refine take_ (i := 6) (N := some 79) (v := ?_) (a' := ?_) (ms 38 127) rfl rfl (take_ofW HT_.out HW_.out (by kernel_rfl)) (fun _ _ _ h => h) (Or.inl ⟨by rfl, ?_⟩) hHeld ?_ ?_
     rotate_left
     ·intro w' hS
      obtain ⟨s0, s1, s2⟩ := hS
      go_simp
      with_reducible rfl
     rotate_left
     ·simp only [Act.put, List.setIfInBounds_toArray, List.set_cons_zero, List.set_cons_succ, i64_w, i32_w]
      rfl
     refine pure_ (i := 7) (N := some 80) (v := ?_) (a' := ?_) (ms 38 255) rfl rfl (any_of HT_.out (by kernel_rfl)) (fun _ _ _ h => h) (Or.inl ⟨by rfl, ?_⟩) ?_ ?_
     rotate_left
     ·intro w'
      go_simp
      with_reducible rfl
     rotate_left
     ·simp only [Act.put, List.setIfInBounds_toArray, List.set_cons_zero, List.set_cons_succ, i64_w, i32_w]
      rfl
     refine pure_ (i := 8) (N := some 81) (v := ?_) (a' := ?_) (ms 38 511) rfl rfl (any_of HT_.out (by kernel_rfl)) (fun _ _ _ h => h) (Or.inl ⟨by rfl, ?_⟩) ?_ ?_
     rotate_left
     ·intro w'
      go_simp
      with_reducible rfl
     rotate_left
     ·simp only [Act.put, List.setIfInBounds_toArray, List.set_cons_zero, List.set_cons_succ, i64_w, i32_w]
      rfl
     refine pure_ (i := 9) (N := some 82) (v := ?_) (a' := ?_) (ms 38 1023) rfl rfl (any_of HT_.out (by kernel_rfl)) (fun _ _ _ h => h) (Or.inl ⟨by rfl, ?_⟩) ?_ ?_
     rotate_left
     ·intro w'
      go_simp
      with_reducible rfl
     rotate_left
     ·simp only [Act.put, List.setIfInBounds_toArray, List.set_cons_zero, List.set_cons_succ, i64_w, i32_w]
      rfl
     refine pure_ (i := 10) (N := some 83) (v := ?_) (a' := ?_) (ms 38 2047) rfl rfl (any_of HT_.out (by kernel_rfl)) (fun _ _ _ h => h) (Or.inl ⟨by rfl, ?_⟩) ?_ ?_
     rotate_left
     ·intro w'
      go_simp
      with_reducible rfl
     rotate_left
     ·simp only [Act.put, List.setIfInBounds_toArray, List.set_cons_zero, List.set_cons_succ, i64_w, i32_w]
      rfl
     refine pure_ (i := 11) (N := some 84) (v := ?_) (a' := ?_) (ms 38 4095) rfl rfl (any_of HT_.out (by kernel_rfl)) (fun _ _ _ h => h) (Or.inl ⟨by rfl, ?_⟩) ?_ ?_
     rotate_left
     ·intro w'
      go_simp
      with_reducible rfl
     rotate_left
     ·simp only [Act.put, List.setIfInBounds_toArray, List.set_cons_zero, List.set_cons_succ, i64_w, i32_w]
      rfl
     refine take_ (i := 12) (N := some 85) (v := ?_) (a' := ?_) (ms 38 8191) rfl rfl (take_ofW HT_.out HW_.out (by kernel_rfl)) (fun _ _ _ h => h) (Or.inl ⟨by rfl, ?_⟩) hHeld ?_ ?_
     rotate_left
     ·intro w' hS
      obtain ⟨s0, s1, s2⟩ := hS
      go_simp
      with_reducible rfl
     rotate_left
     ·simp only [Act.put, List.setIfInBounds_toArray, List.set_cons_zero, List.set_cons_succ, i64_w, i32_w]
      rfl
     refine pure_ (i := 13) (N := some 86) (v := ?_) (a' := ?_) (ms 38 16383) rfl rfl (any_of HT_.out (by kernel_rfl)) (fun _ _ _ h => h) (Or.inl ⟨by rfl, ?_⟩) ?_ ?_
     rotate_left
     ·intro w'
      go_simp
      with_reducible rfl
     rotate_left
     ·simp only [Act.put, List.setIfInBounds_toArray, List.set_cons_zero, List.set_cons_succ, i64_w, i32_w]
      rfl
     refine pure_ (i := 14) (N := some 87) (v := ?_) (a' := ?_) (ms 38 32767) rfl rfl (any_of HT_.out (by kernel_rfl)) (fun _ _ _ h => h) (Or.inl ⟨by rfl, ?_⟩) ?_ ?_
     rotate_left
     ·intro w'
      go_simp
      with_reducible rfl
     rotate_left
     ·simp only [Act.put, List.setIfInBounds_toArray, List.set_cons_zero, List.set_cons_succ, i64_w, i32_w]
      rfl
     refine pure_ (i := 15) (N := some 88) (v := undef) (a' := ?_) (ms 38 65535) rfl rfl (any_of HT_.out (by kernel_rfl)) (fun _ _ _ h => h) (Or.inr ⟨by rfl, rfl⟩) ?_ ?_
     rotate_left
     ·simp only [Act.put, List.setIfInBounds_toArray, List.set_cons_zero, List.set_cons_succ, i64_w, i32_w]
      rfl
     refine pure_ (i := 16) (N := some 89) (v := undef) (a' := ?_) (ms 38 131071) rfl rfl (any_of HT_.out (by kernel_rfl)) (fun _ _ _ h => h) (Or.inr ⟨by rfl, rfl⟩) ?_ ?_
     rotate_left
     ·simp only [Act.put, List.setIfInBounds_toArray, List.set_cons_zero, List.set_cons_succ, i64_w, i32_w]
      rfl
     refine pure_ (i := 17) (N := some 90) (v := undef) (a' := ?_) (ms 38 262143) rfl rfl (any_of HT_.out (by kernel_rfl)) (fun _ _ _ h => h) (Or.inr ⟨by rfl, rfl⟩) ?_ ?_
     rotate_left
     ·simp only [Act.put, List.setIfInBounds_toArray, List.set_cons_zero, List.set_cons_succ, i64_w, i32_w]
      rfl
     refine pure_ (i := 18) (N := some 91) (v := undef) (a' := ?_) (ms 38 524287) rfl rfl (any_of HT_.out (by kernel_rfl)) (fun _ _ _ h => h) (Or.inr ⟨by rfl, rfl⟩) ?_ ?_
     rotate_left
     ·simp only [Act.put, List.setIfInBounds_toArray, List.set_cons_zero, List.set_cons_succ, i64_w, i32_w]
      rfl
     refine pure_ (i := 19) (N := some 92) (v := undef) (a' := ?_) (ms 38 1048575) rfl rfl (any_of HT_.out (by kernel_rfl)) (fun _ _ _ h => h) (Or.inr ⟨by rfl, rfl⟩) ?_ ?_
     rotate_left
     ·simp only [Act.put, List.setIfInBounds_toArray, List.set_cons_zero, List.set_cons_succ, i64_w, i32_w]
      rfl
     refine pure_ (i := 20) (N := some 93) (v := undef) (a' := ?_) (ms 38 2097151) rfl rfl (any_of HT_.out (by kernel_rfl)) (fun _ _ _ h => h) (Or.inr ⟨by rfl, rfl⟩) ?_ ?_
     rotate_left
     ·simp only [Act.put, List.setIfInBounds_toArray, List.set_cons_zero, List.set_cons_succ, i64_w, i32_w]
      rfl
     refine pure_ (i := 21) (N := some 94) (v := undef) (a' := ?_) (ms 38 4194303) rfl rfl (any_of HT_.out (by kernel_rfl)) (fun _ _ _ h => h) (Or.inr ⟨by rfl, rfl⟩) ?_ ?_
     rotate_left
     ·simp only [Act.put, List.setIfInBounds_toArray, List.set_cons_zero, List.set_cons_succ, i64_w, i32_w]
      rfl
     refine pure_ (i := 22) (N := some 95) (v := undef) (a' := ?_) (ms 38 8388607) rfl rfl (any_of HT_.out (by kernel_rfl)) (fun _ _ _ h => h) (Or.inr ⟨by rfl, rfl⟩) ?_ ?_
     rotate_left
     ·simp only [Act.put, List.setIfInBounds_toArray, List.set_cons_zero, List.set_cons_succ, i64_w, i32_w]
      rfl
     refine pure_ (i := 23) (N := some 96) (v := undef) (a' := ?_) (ms 38 16777215) rfl rfl (any_of HT_.out (by kernel_rfl)) (fun _ _ _ h => h) (Or.inr ⟨by rfl, rfl⟩) ?_ ?_
     rotate_left
     ·simp only [Act.put, List.setIfInBounds_toArray, List.set_cons_zero, List.set_cons_succ, i64_w, i32_w]
      rfl
     refine pure_ (i := 24) (N := some 97) (v := undef) (a' := ?_) (ms 38 33554431) rfl rfl (any_of HT_.out (by kernel_rfl)) (fun _ _ _ h => h) (Or.inr ⟨by rfl, rfl⟩) ?_ ?_
     rotate_left
     ·simp only [Act.put, List.setIfInBounds_toArray, List.set_cons_zero, List.set_cons_succ, i64_w, i32_w]
      rfl
     refine pure_ (i := 25) (N := some 98) (v := undef) (a' := ?_) (ms 38 67108863) rfl rfl (any_of HT_.out (by kernel_rfl)) (fun _ _ _ h => h) (Or.inr ⟨by rfl, rfl⟩) ?_ ?_
     rotate_left
     ·simp only [Act.put, List.setIfInBounds_toArray, List.set_cons_zero, List.set_cons_succ, i64_w, i32_w]
      rfl
     refine pure_ (i := 26) (N := some 99) (v := undef) (a' := ?_) (ms 38 134217727) rfl rfl (any_of HT_.out (by kernel_rfl)) (fun _ _ _ h => h) (Or.inr ⟨by rfl, rfl⟩) ?_ ?_
     rotate_left
     ·simp only [Act.put, List.setIfInBounds_toArray, List.set_cons_zero, List.set_cons_succ, i64_w, i32_w]
      rfl
     refine pure_ (i := 27) (N := some 100) (v := undef) (a' := ?_) (ms 38 268435455) rfl rfl (any_of HT_.out (by kernel_rfl)) (fun _ _ _ h => h) (Or.inr ⟨by rfl, rfl⟩) ?_ ?_
     rotate_left
     ·simp only [Act.put, List.setIfInBounds_toArray, List.set_cons_zero, List.set_cons_succ, i64_w, i32_w]
      rfl
     refine pure_ (i := 28) (N := some 101) (v := undef) (a' := ?_) (ms 38 536870911) rfl rfl (any_of HT_.out (by kernel_rfl)) (fun _ _ _ h => h) (Or.inr ⟨by rfl, rfl⟩) ?_ ?_
     rotate_left
     ·simp only [Act.put, List.setIfInBounds_toArray, List.set_cons_zero, List.set_cons_succ, i64_w, i32_w]
      rfl
     refine pure_ (i := 29) (N := some 102) (v := undef) (a' := ?_) (ms 38 1073741823) rfl rfl (any_of HT_.out (by kernel_rfl)) (fun _ _ _ h => h) (Or.inr ⟨by rfl, rfl⟩) ?_ ?_
     rotate_left
     ·simp only [Act.put, List.setIfInBounds_toArray, List.set_cons_zero, List.set_cons_succ, i64_w, i32_w]
      rfl
     refine pure_ (i := 30) (N := some 103) (v := undef) (a' := ?_) (ms 38 2147483647) rfl rfl (any_of HT_.out (by kernel_rfl)) (fun _ _ _ h => h) (Or.inr ⟨by rfl, rfl⟩) ?_ ?_
     rotate_left
     ·simp only [Act.put, List.setIfInBounds_toArray, List.set_cons_zero, List.set_cons_succ, i64_w, i32_w]
      rfl
     refine pure_ (i := 31) (N := some 104) (v := undef) (a' := ?_) (ms 38 4294967295) rfl rfl (any_of HT_.out (by kernel_rfl)) (fun _ _ _ h => h) (Or.inr ⟨by rfl, rfl⟩) ?_ ?_
     rotate_left
     ·simp only [Act.put, List.setIfInBounds_toArray, List.set_cons_zero, List.set_cons_succ, i64_w, i32_w]
      rfl
     refine pure_ (i := 32) (N := some 105) (v := undef) (a' := ?_) (ms 38 8589934591) rfl rfl (any_of HT_.out (by kernel_rfl)) (fun _ _ _ h => h) (Or.inr ⟨by rfl, rfl⟩) ?_ ?_
     rotate_left
     ·simp only [Act.put, List.setIfInBounds_toArray, List.set_cons_zero, List.set_cons_succ, i64_w, i32_w]
      rfl
     refine pure_ (i := 33) (N := some 106) (v := undef) (a' := ?_) (ms 38 17179869183) rfl rfl (any_of HT_.out (by kernel_rfl)) (fun _ _ _ h => h) (Or.inr ⟨by rfl, rfl⟩) ?_ ?_
     rotate_left
     ·simp only [Act.put, List.setIfInBounds_toArray, List.set_cons_zero, List.set_cons_succ, i64_w, i32_w]
      rfl
     refine pure_ (i := 34) (N := some 107) (v := ?_) (a' := ?_) (ms 38 34359738367) rfl rfl (any_of HT_.out (by kernel_rfl)) (fun _ _ _ h => h) (Or.inl ⟨by rfl, ?_⟩) ?_ ?_
     rotate_left
     ·intro w'
      go_simp
      with_reducible rfl
     rotate_left
     ·simp only [Act.put, List.setIfInBounds_toArray, List.set_cons_zero, List.set_cons_succ, i64_w, i32_w]
      rfl
     refine pure_ (i := 35) (N := some 108) (v := ?_) (a' := ?_) (ms 38 68719476735) rfl rfl (any_of HT_.out (by kernel_rfl)) (fun _ _ _ h => h) (Or.inl ⟨by rfl, ?_⟩) ?_ ?_
     rotate_left
     ·intro w'
      go_simp
      with_reducible rfl
     rotate_left
     ·simp only [Act.put, List.setIfInBounds_toArray, List.set_cons_zero, List.set_cons_succ, i64_w, i32_w]
      rfl
     refine pure_ (i := 36) (N := some 109) (v := ?_) (a' := ?_) (ms 38 137438953471) rfl rfl (any_of HT_.out (by kernel_rfl)) (fun _ _ _ h => h) (Or.inl ⟨by rfl, ?_⟩) ?_ ?_
     rotate_left
     ·intro w'
      go_simp
      with_reducible rfl
     rotate_left
     ·simp only [Act.put, List.setIfInBounds_toArray, List.set_cons_zero, List.set_cons_succ, i64_w, i32_w]
      rfl
     refine last_ (i := 37) (N := none) (ms 38 274877906943) rfl rfl (one_of HT_.out (by kernel_rfl)) (by decide) (fun K hK => ?_)
     refine skip_ (w1 := (wd.setCell ⟨w.heap.size, j, none⟩ (.bool true))) (by rfl) rfl ?_ ?_
     ·first | (go_simp; done) | (go_simp; rfl)
     refine hK.out _ _ ?_
     clear hK K
     refine done_ (done_of HT_.out (by kernel_rfl)) ?_
     have HS : Aside0 (NbI (opB false (mkb zs) (mkb us)) w r1 r2 zs us (j + 1) (out.set j true) (wd.setCell ⟨w.heap.size, j, none⟩ (.bool true))) := ⟨(by have h_ := SetF_step HD.out.1 HK.out; rw [show opB false (mkb zs) (mkb us) j = true from by rw [opB, EA.out, EB.out]; rfl] at h_; exact h_), Arr.set HD.out.2.1 _ _, Arr.far HD.out.2.2.1 (Nat.ne_of_gt HR2.out) _, Arr.far HD.out.2.2.2.1 (Nat.ne_of_gt HR3.out) _, below_set HD.out.2.2.2.2 (Nat.le_refl _)⟩
     clear hHeld HT_ HW_ fO cO HD
     go_wp2
     go_roundw
     case rel => exact ⟨j + 1, _, by have := HK.out; omega, by go_num, HS.out⟩
     case measure => have := HK.out; simp [intOf]; omega
    | false =>
     refine start_ (n := 38) (S := fun w' => w'.cell? ⟨r1, j, none⟩ = some (.bool true) ∧ w'.cell? ⟨r2, j, none⟩ = some (.bool false) ∧ w'.cell? ⟨g, 0, none⟩ = some (.int .u8 38)) (ds := [37]) (ms 38 0) (by kernel_rfl) rfl (by kernel_rfl) ⟨cA, cB, cG⟩ (fun hHeld => ?_); refine with_tabW nb22.tab nb22.bits (fun HT_ HW_ => ?_)
     generalize wr.drew = wd at hHeld HD ⊢
     have fO := Arr.frozen HD.out.2.1 j
     have cO := Arr.cell HD.out.2.1 (i := j) (by rw [HD.out.1.1]; exact hlt) (show mkb out j = false from by rw [HD.out.1.2 j hlt, if_neg (Nat.lt_irrefl j)])
     refine pure_ (i := 0) (N := some 73) (v := ?_) (a' := ?_) (ms 38 1) rfl rfl (any_of HT_.out (by kernel_rfl)) (fun _ _ _ h => h) (Or.inl ⟨by rfl, ?_⟩) ?_ ?_
     rotate_left
     ·intro w'
      go_simp
      with_reducible rfl
     rotate_left
     ·simp only [Act.put, List.setIfInBounds_toArray, List.set_cons_zero, List.set_cons_succ, i64_w, i32_w]
      rfl
     refine pure_ (i := 1) (N := some 74) (v := ?_) (a' := ?_) (ms 38 3) rfl rfl (any_of HT_.out (by kernel_rfl)) (fun _ _ _ h => h) (Or.inl ⟨by rfl, ?_⟩) ?_ ?_
     rotate_left
     ·intro w'
      go_simp
      with_reducible rfl
     rotate_left
     ·simp only [Act.put, List.setIfInBounds_toArray, List.set_cons_zero, List.set_cons_succ, i64_w, i32_w]
      rfl
     refine pure_ (i := 2) (N := some 75) (v := ?_) (a' := ?_) (ms 38 7) rfl rfl (any_of HT_.out (by kernel_rfl)) (fun _ _ _ h => h) (Or.inl ⟨by rfl, ?_⟩) ?_ ?_
     rotate_left
     ·intro w'
      go_simp
      with_reducible rfl
     rotate_left
     ·simp only [Act.put, List.setIfInBounds_toArray, List.set_cons_zero, List.set_cons_succ, i64_w, i32_w]
      rfl
     refine pure_ (i := 3) (N := some 76) (v := ?_) (a' := ?_) (ms 38 15) rfl rfl (any_of HT_.out (by kernel_rfl)) (fun _ _ _ h => h) (Or.inl ⟨by rfl, ?_⟩) ?_ ?_
     rotate_left
     ·intro w'
      go_simp
      with_reducible rfl
     rotate_left
     ·simp only [Act.put, List.setIfInBounds_toArray, List.set_cons_zero, List.set_cons_succ, i64_w, i32_w]
      rfl
     refine pure_ (i := 4) (N := some 77) (v := ?_) (a' := ?_) (ms 38 31) rfl rfl (any_of HT_.out (by kernel_rfl)) (fun _ _ _ h => h) (Or.inl ⟨by rfl, ?_⟩) ?_ ?_
     rotate_left
     ·intro w'
      go_simp
      with_reducible rfl
     rotate_left
     ·simp only [Act.put, List.setIfInBounds_toArray, List.set_cons_zero, List.set_cons_succ, i64_w, i32_w]
      rfl
     refine pure_ (i := 5) (N := some 78) (v := ?_) (a' := ?_) (ms 38 63) rfl rfl (any_of HT_.out (by kernel_rfl)) (fun _ _ _ h => h) (Or.inl ⟨by rfl, ?_⟩) ?_ ?_
     rotate_left
     ·intro w'
      go_simp
      with_reducible rfl
     rotate_left
     ·simp only [Act.put, List.setIfInBounds_toArray, List.set_cons_zero, List.set_cons_succ, i64_w, i32_w]
      rfl
     refine take_ (i := 6) (N := some 79) (v := ?_) (a' := ?_) (ms 38 127) rfl rfl (take_ofW HT_.out HW_.out (by kernel_rfl)) (fun _ _ _ h => h) (Or.inl ⟨by rfl, ?_⟩) hHeld ?_ ?_
     rotate_left
     ·intro w' hS
      obtain ⟨s0, s1, s2⟩ := hS
      go_simp
      with_reducible rfl
     rotate_left
     ·simp only [Act.put, List.setIfInBounds_toArray, List.set_cons_zero, List.set_cons_succ, i64_w, i32_w]
      rfl
     refine pure_ (i := 7) (N := some 80) (v := ?_) (a' := ?_) (ms 38 255) rfl rfl (any_of HT_.out (by kernel_rfl)) (fun _ _ _ h => h) (Or.inl ⟨by rfl, ?_⟩) ?_ ?_
     rotate_left
     ·intro w'
      go_simp
      with_reducible rfl
     rotate_left
     ·simp only [Act.put, List.setIfInBounds_toArray, List.set_cons_zero, List.set_cons_succ, i64_w, i32_w]
      rfl
     refine pure_ (i := 8) (N := some 81) (v := ?_) (a' := ?_) (ms 38 511) rfl rfl (any_of HT_.out (by kernel_rfl)) (fun _ _ _ h => h) (Or.inl ⟨by rfl, ?_⟩) ?_ ?_
     rotate_left
     ·intro w'
      go_simp
      with_reducible rfl
     rotate_left
     ·simp only [Act.put, List.setIfInBounds_toArray, List.set_cons_zero, List.set_cons_succ, i64_w, i32_w]
      rfl
     refine pure_ (i := 9) (N := some 82) (v := ?_) (a' := ?_) (ms 38 1023) rfl rfl (any_of HT_.out (by kernel_rfl)) (fun _ _ _ h => h) (Or.inl ⟨by rfl, ?_⟩) ?_ ?_
     rotate_left
     ·intro w'
      go_simp
      with_reducible rfl
     rotate_left
     ·simp only [Act.put, List.setIfInBounds_toArray, List.set_cons_zero, List.set_cons_succ, i64_w, i32_w]
      rfl
     refine pure_ (i := 10) (N := some 83) (v := ?_) (a' := ?_) (ms 38 2047) rfl rfl (any_of HT_.out (by kernel_rfl)) (fun _ _ _ h => h) (Or.inl ⟨by rfl, ?_⟩) ?_ ?_
     rotate_left
     ·intro w'
      go_simp
      with_reducible rfl
     rotate_left
     ·simp only [Act.put, List.setIfInBounds_toArray, List.set_cons_zero, List.set_cons_succ, i64_w, i32_w]
      rfl
     refine pure_ (i := 11) (N := some 84) (v := ?_) (a' := ?_) (ms 38 4095) rfl rfl (any_of HT_.out (by kernel_rfl)) (fun _ _ _ h => h) (Or.inl ⟨by rfl, ?_⟩) ?_ ?_
     rotate_left
     ·intro w'
      go_simp
      with_reducible rfl
     rotate_left
     ·simp only [Act.put, List.setIfInBounds_toArray, List.set_cons_zero, List.set_cons_succ, i64_w, i32_w]
      rfl
     refine take_ (i := 12) (N := some 85) (v := ?_) (a' := ?_) (ms 38 8191) rfl rfl (take_ofW HT_.out HW_.out (by kernel_rfl)) (fun _ _ _ h => h) (Or.inl ⟨by rfl, ?_⟩) hHeld ?_ ?_
     rotate_left
     ·intro w' hS
      obtain ⟨s0, s1, s2⟩ := hS
      go_simp
      with_reducible rfl
     rotate_left
     ·simp only [Act.put, List.setIfInBounds_toArray, List.set_cons_zero, List.set_cons_succ, i64_w, i32_w]
      rfl
     refine pure_ (i := 13) (N := some 86) (v := ?_) (a' := ?_) (ms 38 16383) rfl rfl (any_of HT_.out (by kernel_rfl)) (fun _ _ _ h => h) (Or.inl ⟨by rfl, ?_⟩) ?_ ?_
     rotate_left
     ·intro w'
      go_simp
      with_reducible rfl
     rotate_left
     ·simp only [Act.put, List.setIfInBounds_toArray, List.set_cons_zero, List.set_cons_succ, i64_w, i32_w]
      rfl
     refine pure_ (i := 14) (N := some 87) (v := ?_) (a' := ?_) (ms 38 32767) rfl rfl (any_of HT_.out (by kernel_rfl)) (fun _ _ _ h => h) (Or.inl ⟨by rfl, ?_⟩) ?_ ?_
     rotate_left
     ·intro w'
      go_simp
      with_reducible rfl
     rotate_left
     ·simp only [Act.put, List.setIfInBounds_toArray, List.set_cons_zero, List.set_cons_succ, i64_w, i32_w]
      rfl
     refine pure_ (i := 15) (N := some 88) (v := ?_) (a' := ?_) (ms 38 65535) rfl rfl (any_of HT_.out (by kernel_rfl)) (fun _ _ _ h => h) (Or.inl ⟨by rfl, ?_⟩) ?_ ?_
     rotate_left
     ·intro w'
      go_simp
      with_reducible rfl
     rotate_left
     ·simp only [Act.put, List.setIfInBounds_toArray, List.set_cons_zero, List.set_cons_succ, i64_w, i32_w]
      rfl
     refine pure_ (i := 16) (N := some 89) (v := ?_) (a' := ?_) (ms 38 131071) rfl rfl (any_of HT_.out (by kernel_rfl)) (fun _ _ _ h => h) (Or.inl ⟨by rfl, ?_⟩) ?_ ?_
     rotate_left
     ·intro w'
      go_simp
      with_reducible rfl
     rotate_left
     ·simp only [Act.put, List.setIfInBounds_toArray, List.set_cons_zero, List.set_cons_succ, i64_w, i32_w]
      rfl
     refine pure_ (i := 17) (N := some 90) (v := ?_) (a' := ?_) (ms 38 262143) rfl rfl (any_of HT_.out (by kernel_rfl)) (fun _ _ _ h => h) (Or.inl ⟨by rfl, ?_⟩) ?_ ?_
     rotate_left
     ·intro w'
      go_simp
      with_reducible rfl
     rotate_left
     ·simp only [Act.put, List.setIfInBounds_toArray, List.set_cons_zero, List.set_cons_succ, i64_w, i32_w]
      rfl
     refine take_ (i := 18) (N := some 91) (v := ?_) (a' := ?_) (ms 38 524287) rfl rfl (take_ofW HT_.out HW_.out (by kernel_rfl)) (fun _ _ _ h => h) (Or.inl ⟨by rfl, ?_⟩) hHeld ?_ ?_
     rotate_left
     ·intro w' hS
      obtain ⟨s0, s1, s2⟩ := hS
      go_simp
      with_reducible rfl
     rotate_left
     ·simp only [Act.put, List.setIfInBounds_toArray, List.set_cons_zero, List.set_cons_succ, i64_w, i32_w]
      rfl
     refine pure_ (i := 19) (N := some 92) (v := ?_) (a' := ?_) (ms 38 1048575) rfl rfl (any_of HT_.out (by kernel_rfl)) (fun _ _ _ h => h) (Or.inl ⟨by rfl, ?_⟩) ?_ ?_
     rotate_left
     ·intro w'
      go_simp
      with_reducible rfl
     rotate_left
     ·simp only [Act.put, List.setIfInBounds_toArray, List.set_cons_zero, List.set_cons_succ, i64_w, i32_w]
      rfl
     refine pure_ (i := 20) (N := some 93) (v := ?_) (a' := ?_) (ms 38 2097151) rfl rfl (any_of HT_.out (by kernel_rfl)) (fun _ _ _ h => h) (Or.inl ⟨by rfl, ?_⟩) ?_ ?_
     rotate_left
     ·intro w'
      go_simp
      with_reducible rfl
     rotate_left
     ·simp only [Act.put, List.setIfInBounds_toArray, List.set_cons_zero, List.set_cons_succ, i64_w, i32_w]
      rfl
     refine pure_ (i := 21) (N := some 94) (v := undef) (a' := ?_) (ms 38 4194303) rfl rfl (any_of HT_.out (by kernel_rfl)) (fun _ _ _ h => h) (Or.inr ⟨by rfl, rfl⟩) ?_ ?_
     rotate_left
     ·simp only [Act.put, List.setIfInBounds_toArray, List.set_cons_zero, List.set_cons_succ, i64_w, i32_w]
      rfl
     refine pure_ (i := 22) (N := some 95) (v := undef) (a' := ?_) (ms 38 8388607) rfl rfl (any_of HT_.out (by kernel_rfl)) (fun _ _ _ h => h) (Or.inr ⟨by rfl, rfl⟩) ?_ ?_
     rotate_left
     ·simp only [Act.put, List.setIfInBounds_toArray, List.set_cons_zero, List.set_cons_succ, i64_w, i32_w]
      rfl
     refine pure_ (i := 23) (N := some 96) (v := undef) (a' := ?_) (ms 38 16777215) rfl rfl (any_of HT_.out (by kernel_rfl)) (fun _ _ _ h => h) (Or.inr ⟨by rfl, rfl⟩) ?_ ?_
     rotate_left
     ·simp only [Act.put, List.setIfInBounds_toArray, List.set_cons_zero, List.set_cons_succ, i64_w, i32_w]
      rfl
     refine pure_ (i := 24) (N := some 97) (v := undef) (a' := ?_) (ms 38 33554431) rfl rfl (any_of HT_.out (by kernel_rfl)) (fun _ _ _ h => h) (Or.inr ⟨by rfl, rfl⟩) ?_ ?_
     rotate_left
     ·simp only [Act.put, List.setIfInBounds_toArray, List.set_cons_zero, List.set_cons_succ, i64_w, i32_w]
      rfl
     refine pure_ (i := 25) (N := some 98) (v := undef) (a' := ?_) (ms 38 67108863) rfl rfl (any_of HT_.out (by kernel_rfl)) (fun _ _ _ h => h) (Or.inr ⟨by rfl, rfl⟩) ?_ ?_
     rotate_left
     ·simp only [Act.put, List.setIfInBounds_toArray, List.set_cons_zero, List.set_cons_succ, i64_w, i32_w]
      rfl
     refine pure_ (i := 26) (N := some 99) (v := undef) (a' := ?_) (ms 38 134217727) rfl rfl (any_of HT_.out (by kernel_rfl)) (fun _ _ _ h => h) (Or.inr ⟨by rfl, rfl⟩) ?_ ?_
     rotate_left
     ·simp only [Act.put, List.setIfInBounds_toArray, List.set_cons_zero, List.set_cons_succ, i64_w, i32_w]
      rfl
     refine pure_ (i := 27) (N := some 100) (v := undef) (a' := ?_) (ms 38 268435455) rfl rfl (any_of HT_.out (by kernel_rfl)) (fun _ _ _ h => h) (Or.inr ⟨by rfl, rfl⟩) ?_ ?_
     rotate_left
     ·simp only [Act.put, List.setIfInBounds_toArray, List.set_cons_zero, List.set_cons_succ, i64_w, i32_w]
      rfl
     refine pure_ (i := 28) (N := some 101) (v := undef) (a' := ?_) (ms 38 536870911) rfl rfl (any_of HT_.out (by kernel_rfl)) (fun _ _ _ h => h) (Or.inr ⟨by rfl, rfl⟩) ?_ ?_
     rotate_left
     ·simp only [Act.put, List.setIfInBounds_toArray, List.set_cons_zero, List.set_cons_succ, i64_w, i32_w]
      rfl
     refine pure_ (i := 29) (N := some 102) (v := undef) (a' := ?_) (ms 38 1073741823) rfl rfl (any_of HT_.out (by kernel_rfl)) (fun _ _ _ h => h) (Or.inr ⟨by rfl, rfl⟩) ?_ ?_
     rotate_left
     ·simp only [Act.put, List.setIfInBounds_toArray, List.set_cons_zero, List.set_cons_succ, i64_w, i32_w]
      rfl
     refine pure_ (i := 30) (N := some 103) (v := undef) (a' := ?_) (ms 38 2147483647) rfl rfl (any_of HT_.out (by kernel_rfl)) (fun _ _ _ h => h) (Or.inr ⟨by rfl, rfl⟩) ?_ ?_
     rotate_left
     ·simp only [Act.put, List.setIfInBounds_toArray, List.set_cons_zero, List.set_cons_succ, i64_w, i32_w]
      rfl
     refine pure_ (i := 31) (N := some 104) (v := undef) (a' := ?_) (ms 38 4294967295) rfl rfl (any_of HT_.out (by kernel_rfl)) (fun _ _ _ h => h) (Or.inr ⟨by rfl, rfl⟩) ?_ ?_
     rotate_left
     ·simp only [Act.put, List.setIfInBounds_toArray, List.set_cons_zero, List.set_cons_succ, i64_w, i32_w]
      rfl
     refine pure_ (i := 32) (N := some 105) (v := undef) (a' := ?_) (ms 38 8589934591) rfl rfl (any_of HT_.out (by kernel_rfl)) (fun _ _ _ h => h) (Or.inr ⟨by rfl, rfl⟩) ?_ ?_
     rotate_left
     ·simp only [Act.put, List.setIfInBounds_toArray, List.set_cons_zero, List.set_cons_succ, i64_w, i32_w]
      rfl
     refine pure_ (i := 33) (N := some 106) (v := ?_) (a' := ?_) (ms 38 17179869183) rfl rfl (any_of HT_.out (by kernel_rfl)) (fun _ _ _ h => h) (Or.inl ⟨by rfl, ?_⟩) ?_ ?_
     rotate_left
     ·intro w'
      go_simp
      with_reducible rfl
     rotate_left
     ·simp only [Act.put, List.setIfInBounds_toArray, List.set_cons_zero, List.set_cons_succ, i64_w, i32_w]
      rfl
     refine pure_ (i := 34) (N := some 107) (v := ?_) (a' := ?_) (ms 38 34359738367) rfl rfl (any_of HT_.out (by kernel_rfl)) (fun _ _ _ h => h) (Or.inl ⟨by rfl, ?_⟩) ?_ ?_
     rotate_left
     ·intro w'
      go_simp
      with_reducible rfl
     rotate_left
     ·simp only [Act.put, List.setIfInBounds_toArray, List.set_cons_zero, List.set_cons_succ, i64_w, i32_w]
      rfl
     refine pure_ (i := 35) (N := some 108) (v := ?_) (a' := ?_) (ms 38 68719476735) rfl rfl (any_of HT_.out (by kernel_rfl)) (fun _ _ _ h => h) (Or.inl ⟨by rfl, ?_⟩) ?_ ?_
     rotate_left
     ·intro w'
      go_simp
      with_reducible rfl
     rotate_left
     ·simp only [Act.put, List.setIfInBounds_toArray, List.set_cons_zero, List.set_cons_succ, i64_w, i32_w]
      rfl
     refine pure_ (i := 36) (N := some 109) (v := ?_) (a' := ?_) (ms 38 137438953471) rfl rfl (any_of HT_.out (by kernel_rfl)) (fun _ _ _ h => h) (Or.inl ⟨by rfl, ?_⟩) ?_ ?_
     rotate_left
     ·intro w'
      go_simp
      with_reducible rfl
     rotate_left
     ·simp only [Act.put, List.setIfInBounds_toArray, List.set_cons_zero, List.set_cons_succ, i64_w, i32_w]
      rfl
     refine last_ (i := 37) (N := none) (ms 38 274877906943) rfl rfl (one_of HT_.out (by kernel_rfl)) (by decide) (fun K hK => ?_)
     refine skip_ (w1 := (wd.setCell ⟨w.heap.size, j, none⟩ (.bool false))) (by rfl) rfl ?_ ?_
     ·first | (go_simp; done) | (go_simp; rfl)
     refine hK.out _ _ ?_
     clear hK K
     refine done_ (done_of HT_.out (by kernel_rfl)) ?_
     have HS : Aside0 (NbI (opB false (mkb zs) (mkb us)) w r1 r2 zs us (j + 1) (out.set j false) (wd.setCell ⟨w.heap.size, j, none⟩ (.bool false))) := ⟨(by have h_ := SetF_step HD.out.1 HK.out; rw [show opB false (mkb zs) (mkb us) j = false from by rw [opB, EA.out, EB.out]; rfl] at h_; exact h_), Arr.set HD.out.2.1 _ _, Arr.far HD.out.2.2.1 (Nat.ne_of_gt HR2.out) _, Arr.far HD.out.2.2.2.1 (Nat.ne_of_gt HR3.out) _, below_set HD.out.2.2.2.2 (Nat.le_refl _)⟩
     clear hHeld HT_ HW_ fO cO HD
     go_wp2
     go_roundw
     case rel => exact ⟨j + 1, _, by have := HK.out; omega, by go_num, HS.out⟩
     case measure => have := HK.out; simp [intOf]; omega
   | false =>
    cases bv with
    | true =>
     refine start_ (n := 38) (S := fun w' => w'.cell? ⟨r1, j, none⟩ = some (.bool false) ∧ w'.cell? ⟨r2, j, none⟩ = some (.bool true) ∧ w'.cell? ⟨g, 0, none⟩ = some (.int .u8 38)) (ds := [37]) (ms 38 0) (by kernel_rfl) rfl (by kernel_rfl) ⟨cA, cB, cG⟩ (fun hHeld => ?_); refine with_tabW nb22.tab nb22.bits (fun HT_ HW_ => ?_)
     generalize wr.drew = wd at hHeld HD ⊢
     have fO := Arr.frozen HD.out.2.1 j
     have cO := Arr.cell HD.out.2.1 (i := j) (by rw [HD.out.1.1]; exact hlt) (show mkb out j = false from by rw [HD.out.1.2 j hlt, if_neg (Nat.lt_irrefl j)])
     refine pure_ (i := 0) (N := some 73) (v := ?_) (a' := ?_) (ms 38 1) rfl rfl (any_of HT_.out (by kernel_rfl)) (fun _ _ _ h => h) (Or.inl ⟨by rfl, ?_⟩) ?_ ?_
     rotate_left
     ·intro w'
      go_simp
      with_reducible rfl
     rotate_left
     ·simp only [Act.put, List.setIfInBounds_toArray, List.set_cons_zero, List.set_cons_succ, i64_w, i32_w]
      rfl
     refine pure_ (i := 1) (N := some 74) (v := ?_) (a' := ?_) (ms 38 3) rfl rfl (any_of HT_.out (by kernel_rfl)) (fun _ _ _ h => h) (Or.inl ⟨by rfl, ?_⟩) ?_ ?_
     rotate_left
     ·intro w'
      go_simp
      with_reducible rfl
     rotate_left
     ·simp only [Act.put, List.setIfInBounds_toArray, List.set_cons_zero, List.set_cons_succ, i64_w, i32_w]
      rfl
     refine pure_ (i := 2) (N := some 75) (v := ?_) (a' := ?_) (ms 38 7) rfl rfl (any_of HT_.out (by kernel_rfl)) (fun _ _ _ h => h) (Or.inl ⟨by rfl, ?_⟩) ?_ ?_
     rotate_left
     ·intro w'
      go_simp
      with_reducible rfl
     rotate_left
     ·simp only [Act.put, List.setIfInBounds_toArray, List.set_cons_zero, List.set_cons_succ, i64_w, i32_w]
      rfl
     refine pure_ (i := 3) (N := some 76) (v := ?_) (a' := ?_) (ms 38 15) rfl rfl (any_of HT_.out (by kernel_rfl)) (fun _ _ _ h => h) (Or.inl ⟨by rfl, ?_⟩) ?_ ?_
     rotate_left
     ·intro w'
      go_simp
      with_reducible rfl
     rotate_left
     ·simp only [Act.put, List.setIfInBounds_toArray, List.set_cons_zero, List.set_cons_succ, i64_w, i32_w]
      rfl
     refine pure_ (i := 4) (N := some 77) (v := ?_) (a' := ?_) (ms 38 31) rfl rfl (any_of HT_.out (by kernel_rfl)) (fun _ _ _ h => h) (Or.inl ⟨by rfl, ?_⟩) ?_ ?_
     rotate_left
     ·intro w'
      go_simp
      with_reducible rfl
     rotate_left
     ·simp only [Act.put, List.setIfInBounds_toArray, List.set_cons_zero, List.set_cons_succ, i64_w, i32_w]
      rfl
     refine pure_ (i := 5) (N := some 78) (v := ?_) (a' := ?_) (ms 38 63) rfl rfl (any_of HT_.out (by kernel_rfl)) (fun _ _ _ h => h) (Or.inl ⟨by rfl, ?_⟩) ?_ ?_
     rotate_left
     ·intro w'
      go_simp
      with_reducible rfl
     rotate_left
     ·simp only [Act.put, List.setIfInBounds_toArray, List.set_cons_zero, List.set_cons_succ, i64_w, i32_w]
      rfl
     refine take_ (i := 6) (N := some 79) (v := ?_) (a' := ?_) (ms 38 127) rfl rfl (take_ofW HT_.out HW_.out (by kernel_rfl)) (fun _ _ _ h => h) (Or.inl ⟨by rfl, ?_⟩) hHeld ?_ ?_
     rotate_left
     ·intro w' hS
      obtain ⟨s0, s1, s2⟩ := hS
      go_simp
      with_reducible rfl
     rotate_left
     ·simp only [Act.put, List.setIfInBounds_toArray, List.set_cons_zero, List.set_cons_succ, i64_w, i32_w]
      rfl
     refine pure_ (i := 7) (N := some 80) (v := ?_) (a' := ?_) (ms 38 255) rfl rfl (any_of HT_.out (by kernel_rfl)) (fun _ _ _ h => h) (Or.inl ⟨by rfl, ?_⟩) ?_ ?_
     rotate_left
     ·intro w'
      go_simp
      with_reducible rfl
     rotate_left
     ·simp only [Act.put, List.setIfInBounds_toArray, List.set_cons_zero, List.set_cons_succ, i64_w, i32_w]
      rfl
     refine pure_ (i := 8) (N := some 81) (v := undef) (a' := ?_) (ms 38 511) rfl rfl (any_of HT_.out (by kernel_rfl)) (fun _ _ _ h => h) (Or.inr ⟨by rfl, rfl⟩) ?_ ?_
     rotate_left
     ·simp only [Act.put, List.setIfInBounds_toArray, List.set_cons_zero, List.set_cons_succ, i64_w, i32_w]
      rfl
     refine pure_ (i := 9) (N := some 82) (v := undef) (a' := ?_) (ms 38 1023) rfl rfl (any_of HT_.out (by kernel_rfl)) (fun _ _ _ h => h) (Or.inr ⟨by rfl, rfl⟩) ?_ ?_
     rotate_left
     ·simp only [Act.put, List.setIfInBounds_toArray, List.set_cons_zero, List.set_cons_succ, i64_w, i32_w]
      rfl
     refine pure_ (i := 10) (N := some 83) (v := undef) (a' := ?_) (ms 38 2047) rfl rfl (any_of HT_.out (by kernel_rfl)) (fun _ _ _ h => h) (Or.inr ⟨by rfl, rfl⟩) ?_ ?_
     rotate_left
     ·simp only [Act.put, List.setIfInBounds_toArray, List.set_cons_zero, List.set_cons_succ, i64_w, i32_w]
      rfl
     refine pure_ (i := 11) (N := some 84) (v := undef) (a' := ?_) (ms 38 4095) rfl rfl (any_of HT_.out (by kernel_rfl)) (fun _ _ _ h => h) (Or.inr ⟨by rfl, rfl⟩) ?_ ?_
     rotate_left
     ·simp only [Act.put, List.setIfInBounds_toArray, List.set_cons_zero, List.set_cons_succ, i64_w, i32_w]
      rfl
     refine pure_ (i := 12) (N := some 85) (v := undef) (a' := ?_) (ms 38 8191) rfl rfl (any_of HT_.out (by kernel_rfl)) (fun _ _ _ h => h) (Or.inr ⟨by rfl, rfl⟩) ?_ ?_
     rotate_left
     ·simp only [Act.put, List.setIfInBounds_toArray, List.set_cons_zero, List.set_cons_succ, i64_w, i32_w]
      rfl
     refine pure_ (i := 13) (N := some 86) (v := ?_) (a' := ?_) (ms 38 16383) rfl rfl (any_of HT_.out (by kernel_rfl)) (fun _ _ _ h => h) (Or.inl ⟨by rfl, ?_⟩) ?_ ?_
     rotate_left
     ·intro w'
      go_simp
      with_reducible rfl
     rotate_left
     ·simp only [Act.put, List.setIfInBounds_toArray, List.set_cons_zero, List.set_cons_succ, i64_w, i32_w]
      rfl
     refine pure_ (i := 14) (N := some 87) (v := ?_) (a' := ?_) (ms 38 32767) rfl rfl (any_of HT_.out (by kernel_rfl)) (fun _ _ _ h => h) (Or.inl ⟨by rfl, ?_⟩) ?_ ?_
     rotate_left
     ·intro w'
      go_simp
      with_reducible rfl
     rotate_left
     ·simp only [Act.put, List.setIfInBounds_toArray, List.set_cons_zero, List.set_cons_succ, i64_w, i32_w]
      rfl
     refine pure_ (i := 15) (N := some 88) (v := ?_) (a' := ?_) (ms 38 65535) rfl rfl (any_of HT_.out (by kernel_rfl)) (fun _ _ _ h => h) (Or.inl ⟨by rfl, ?_⟩) ?_ ?_
     rotate_left
     ·intro w'
      go_simp
      with_reducible rfl
     rotate_left
     ·simp only [Act.put, List.setIfInBounds_toArray, List.set_cons_zero, List.set_cons_succ, i64_w, i32_w]
      rfl
     refine pure_ (i := 16) (N := some 89) (v := ?_) (a' := ?_) (ms 38 131071) rfl rfl (any_of HT_.out (by kernel_rfl)) (fun _ _ _ h => h) (Or.inl ⟨by rfl, ?_⟩) ?_ ?_
     rotate_left
     ·intro w'
      go_simp
      with_reducible rfl
     rotate_left
     ·simp only [Act.put, List.setIfInBounds_toArray, List.set_cons_zero, List.set_cons_succ, i64_w, i32_w]
      rfl
     refine pure_ (i := 17) (N := some 90) (v := ?_) (a' := ?_) (ms 38 262143) rfl rfl (any_of HT_.out (by kernel_rfl)) (fun _ _ _ h => h) (Or.inl ⟨by rfl, ?_⟩) ?_ ?_
     rotate_left
     ·intro w'
      go_simp
      with_reducible rfl
     rotate_left
     ·simp only [Act.put, List.setIfInBounds_toArray, List.set_cons_zero, List.set_cons_succ, i64_w, i32_w]
      rfl
     refine take_ (i := 18) (N := some 91) (v := ?_) (a' := ?_) (ms 38 524287) rfl rfl (take_ofW HT_.out HW_.out (by kernel_rfl)) (fun _ _ _ h => h) (Or.inl ⟨by rfl, ?_⟩) hHeld ?_ ?_
     rotate_left
     ·intro w' hS
      obtain ⟨s0, s1, s2⟩ := hS
      go_simp
      with_reducible rfl
     rotate_left
     ·simp only [Act.put, List.setIfInBounds_toArray, List.set_cons_zero, List.set_cons_succ, i64_w, i32_w]
      rfl
     refine pure_ (i := 19) (N := some 92) (v := ?_) (a' := ?_) (ms 38 1048575) rfl rfl (any_of HT_.out (by kernel_rfl)) (fun _ _ _ h => h) (Or.inl ⟨by rfl, ?_⟩) ?_ ?_
     rotate_left
     ·intro w'
      go_simp
      with_reducible rfl
     rotate_left
     ·simp only [Act.put, List.setIfInBounds_toArray, List.set_cons_zero, List.set_cons_succ, i64_w, i32_w]
      rfl
     refine pure_ (i := 20) (N := some 93) (v := ?_) (a' := ?_) (ms 38 2097151) rfl rfl (any_of HT_.out (by kernel_rfl)) (fun _ _ _ h => h) (Or.inl ⟨by rfl, ?_⟩) ?_ ?_
     rotate_left
     ·intro w'
      go_simp
      with_reducible rfl
     rotate_left
     ·simp only [Act.put, List.setIfInBounds_toArray, List.set_cons_zero, List.set_cons_succ, i64_w, i32_w]
      rfl
     refine pure_ (i := 21) (N := some 94) (v := undef) (a' := ?_) (ms 38 4194303) rfl rfl (any_of HT_.out (by kernel_rfl)) (fun _ _ _ h => h) (Or.inr ⟨by rfl, rfl⟩) ?_ ?_
     rotate_left
     ·simp only [Act.put, List.setIfInBounds_toArray, List.set_cons_zero, List.set_cons_succ, i64_w, i32_w]
      rfl
     refine pure_ (i := 22) (N := some 95) (v := undef) (a' := ?_) (ms 38 8388607) rfl rfl (any_of HT_.out (by kernel_rfl)) (fun _ _ _ h => h) (Or.inr ⟨by rfl, rfl⟩) ?_ ?_
     rotate_left
     ·simp only [Act.put, List.setIfInBounds_toArray, List.set_cons_zero, List.set_cons_succ, i64_w, i32_w]
      rfl
     refine pure_ (i := 23) (N := some 96) (v := undef) (a' := ?_) (ms 38 16777215) rfl rfl (any_of HT_.out (by kernel_rfl)) (fun _ _ _ h => h) (Or.inr ⟨by rfl, rfl⟩) ?_ ?_
     rotate_left
     ·simp only [Act.put, List.setIfInBounds_toArray, List.set_cons_zero, List.set_cons_succ, i64_w, i32_w]
      rfl
     refine pure_ (i := 24) (N := some 97) (v := undef) (a' := ?_) (ms 38 33554431) rfl rfl (any_of HT_.out (by kernel_rfl)) (fun _ _ _ h => h) (Or.inr ⟨by rfl, rfl⟩) ?_ ?_
     rotate_left
     ·simp only [Act.put, List.setIfInBounds_toArray, List.set_cons_zero, List.set_cons_succ, i64_w, i32_w]
      rfl
     refine pure_ (i := 25) (N := some 98) (v := undef) (a' := ?_) (ms 38 67108863) rfl rfl (any_of HT_.out (by kernel_rfl)) (fun _ _ _ h => h) (Or.inr ⟨by rfl, rfl⟩) ?_ ?_
     rotate_left
     ·simp only [Act.put, List.setIfInBounds_toArray, List.set_cons_zero, List.set_cons_succ, i64_w, i32_w]
      rfl
     refine pure_ (i := 26) (N := some 99) (v := undef) (a' := ?_) (ms 38 134217727) rfl rfl (any_of HT_.out (by kernel_rfl)) (fun _ _ _ h => h) (Or.inr ⟨by rfl, rfl⟩) ?_ ?_
     rotate_left
     ·simp only [Act.put, List.setIfInBounds_toArray, List.set_cons_zero, List.set_cons_succ, i64_w, i32_w]
      rfl
     refine pure_ (i := 27) (N := some 100) (v := undef) (a' := ?_) (ms 38 268435455) rfl rfl (any_of HT_.out (by kernel_rfl)) (fun _ _ _ h => h) (Or.inr ⟨by rfl, rfl⟩) ?_ ?_
     rotate_left
     ·simp only [Act.put, List.setIfInBounds_toArray, List.set_cons_zero, List.set_cons_succ, i64_w, i32_w]
      rfl
     refine pure_ (i := 28) (N := some 101) (v := undef) (a' := ?_) (ms 38 536870911) rfl rfl (any_of HT_.out (by kernel_rfl)) (fun _ _ _ h => h) (Or.inr ⟨by rfl, rfl⟩) ?_ ?_
     rotate_left
     ·simp only [Act.put, List.setIfInBounds_toArray, List.set_cons_zero, List.set_cons_succ, i64_w, i32_w]
      rfl
     refine pure_ (i := 29) (N := some 102) (v := undef) (a' := ?_) (ms 38 1073741823) rfl rfl (any_of HT_.out (by kernel_rfl)) (fun _ _ _ h => h) (Or.inr ⟨by rfl, rfl⟩) ?_ ?_
     rotate_left
     ·simp only [Act.put, List.setIfInBounds_toArray, List.set_cons_zero, List.set_cons_succ, i64_w, i32_w]
      rfl
     refine pure_ (i := 30) (N := some 103) (v := undef) (a' := ?_) (ms 38 2147483647) rfl rfl (any_of HT_.out (by kernel_rfl)) (fun _ _ _ h => h) (Or.inr ⟨by rfl, rfl⟩) ?_ ?_
     rotate_left
     ·simp only [Act.put, List.setIfInBounds_toArray, List.set_cons_zero, List.set_cons_succ, i64_w, i32_w]
      rfl
     refine pure_ (i := 31) (N := some 104) (v := undef) (a' := ?_) (ms 38 4294967295) rfl rfl (any_of HT_.out (by kernel_rfl)) (fun _ _ _ h => h) (Or.inr ⟨by rfl, rfl⟩) ?_ ?_
     rotate_left
     ·simp only [Act.put, List.setIfInBounds_toArray, List.set_cons_zero, List.set_cons_succ, i64_w, i32_w]
      rfl
     refine pure_ (i := 32) (N := some 105) (v := undef) (a' := ?_) (ms 38 8589934591) rfl rfl (any_of HT_.out (by kernel_rfl)) (fun _ _ _ h => h) (Or.inr ⟨by rfl, rfl⟩) ?_ ?_
     rotate_left
     ·simp only [Act.put, List.setIfInBounds_toArray, List.set_cons_zero, List.set_cons_succ, i64_w, i32_w]
      rfl
     refine pure_ (i := 33) (N := some 106) (v := ?_) (a' := ?_) (ms 38 17179869183) rfl rfl (any_of HT_.out (by kernel_rfl)) (fun _ _ _ h => h) (Or.inl ⟨by rfl, ?_⟩) ?_ ?_
     rotate_left
     ·intro w'
      go_simp
      with_reducible rfl
     rotate_left
     ·simp only [Act.put, List.setIfInBounds_toArray, List.set_cons_zero, List.set_cons_succ, i64_w, i32_w]
      rfl
     refine pure_ (i := 34) (N := some 107) (v := ?_) (a' := ?_) (ms 38 34359738367) rfl rfl (any_of HT_.out (by kernel_rfl)) (fun _ _ _ h => h) (Or.inl ⟨by rfl, ?_⟩) ?_ ?_
     rotate_left
     ·intro w'
      go_simp
      with_reducible rfl
     rotate_left
     ·simp only [Act.put, List.setIfInBounds_toArray, List.set_cons_zero, List.set_cons_succ, i64_w, i32_w]
      rfl
     refine pure_ (i := 35) (N := some 108) (v := ?_) (a' := ?_) (ms 38 68719476735) rfl rfl (any_of HT_.out (by kernel_rfl)) (fun _ _ _ h => h) (Or.inl ⟨by rfl, ?_⟩) ?_ ?_
     rotate_left
     ·intro w'
      go_simp
      with_reducible rfl
     rotate_left
     ·simp only [Act.put, List.setIfInBounds_toArray, List.set_cons_zero, List.set_cons_succ, i64_w, i32_w]
      rfl
     refine pure_ (i := 36) (N := some 109) (v := ?_) (a' := ?_) (ms 38 137438953471) rfl rfl (any_of HT_.out (by kernel_rfl)) (fun _ _ _ h => h) (Or.inl ⟨by rfl, ?_⟩) ?_ ?_
     rotate_left
     ·intro w'
      go_simp
      with_reducible rfl
     rotate_left
     ·simp only [Act.put, List.setIfInBounds_toArray, List.set_cons_zero, List.set_cons_succ, i64_w, i32_w]
      rfl
     refine last_ (i := 37) (N := none) (ms 38 274877906943) rfl rfl (one_of HT_.out (by kernel_rfl)) (by decide) (fun K hK => ?_)
     refine skip_ (w1 := (wd.setCell ⟨w.heap.size, j, none⟩ (.bool false))) (by rfl) rfl ?_ ?_
     ·first | (go_simp; done) | (go_simp; rfl)
     refine hK.out _ _ ?_
     clear hK K
     refine done_ (done_of HT_.out (by kernel_rfl)) ?_
     have HS : Aside0 (NbI (opB false (mkb zs) (mkb us)) w r1 r2 zs us (j + 1) (out.set j false) (wd.setCell ⟨w.heap.size, j, none⟩ (.bool false))) := ⟨(by have h_ := SetF_step HD.out.1 HK.out; rw [show opB false (mkb zs) (mkb us) j = false from by rw [opB, EA.out, EB.out]; rfl] at h_; exact h_), Arr.set HD.out.2.1 _ _, Arr.far HD.out.2.2.1 (Nat.ne_of_gt HR2.out) _, Arr.far HD.out.2.2.2.1 (Nat.ne_of_gt HR3.out) _, below_set HD.out.2.2.2.2 (Nat.le_refl _)⟩
     clear hHeld HT_ HW_ fO cO HD
     go_wp2
     go_roundw
     case rel => exact ⟨j + 1, _, by have := HK.out; omega, by go_num, HS.out⟩
     case measure => have := HK.out; simp [intOf]; omega
    | false =>
     refine start_ (n := 38) (S := fun w' => w'.cell? ⟨r1, j, none⟩ = some (.bool false) ∧ w'.cell? ⟨r2, j, none⟩ = some (.bool false) ∧ w'.cell? ⟨g, 0, none⟩ = some (.int .u8 38)) (ds := [37]) (ms 38 0) (by kernel_rfl) rfl (by kernel_rfl) ⟨cA, cB, cG⟩ (fun hHeld => ?_); refine with_tabW nb22.tab nb22.bits (fun HT_ HW_ => ?_)
     generalize wr.drew = wd at hHeld HD ⊢
     have fO := Arr.frozen HD.out.2.1 j
     have cO := Arr.cell HD.out.2.1 (i := j) (by rw [HD.out.1.1]; exact hlt) (show mkb out j = false from by rw [HD.out.1.2 j hlt, if_neg (Nat.lt_irrefl j)])
     refine pure_ (i := 0) (N := some 73) (v := ?_) (a' := ?_) (ms 38 1) rfl rfl (any_of HT_.out (by kernel_rfl)) (fun _ _ _ h => h) (Or.inl ⟨by rfl, ?_⟩) ?_ ?_
     rotate_left
     ·intro w'
      go_simp
      with_reducible rfl
     rotate_left
     ·simp only [Act.put, List.setIfInBounds_toArray, List.set_cons_zero, List.set_cons_succ, i64_w, i32_w]
      rfl
     refine pure_ (i := 1) (N := some 74) (v := ?_) (a' := ?_) (ms 38 3) rfl rfl (any_of HT_.out (by kernel_rfl)) (fun _ _ _ h => h) (Or.inl ⟨by rfl, ?_⟩) ?_ ?_
     rotate_left
     ·intro w'
      go_simp
      with_reducible rfl
     rotate_left
     ·simp only [Act.put, List.setIfInBounds_toArray, List.set_cons_zero, List.set_cons_succ, i64_w, i32_w]
      rfl
     refine pure_ (i := 2) (N := some 75) (v := ?_) (a' := ?_) (ms 38 7) rfl rfl (any_of HT_.out (by kernel_rfl)) (fun _ _ _ h => h) (Or.inl ⟨by rfl, ?_⟩) ?_ ?_
     rotate_left
     ·intro w'
      go_simp
      with_reducible rfl
     rotate_left
     ·simp only [Act.put, List.setIfInBounds_toArray, List.set_cons_zero, List.set_cons_succ, i64_w, i32_w]
      rfl
     refine pure_ (i := 3) (N := some 76) (v := ?_) (a' := ?_) (ms 38 15) rfl rfl (any_of HT_.out (by kernel_rfl)) (fun _ _ _ h => h) (Or.inl ⟨by rfl, ?_⟩) ?_ ?_
     rotate_left
     ·intro w'
      go_simp
      with_reducible rfl
     rotate_left
     ·simp only [Act.put, List.setIfInBounds_toArray, List.set_cons_zero, List.set_cons_succ, i64_w, i32_w]
      rfl
     refine pure_ (i := 4) (N := some 77) (v := ?_) (a' := ?_) (ms 38 31) rfl rfl (any_of HT_.out (by kernel_rfl)) (fun _ _ _ h => h) (Or.inl ⟨by rfl, ?_⟩) ?_ ?_
     rotate_left
     ·intro w'
      go_simp
      with_reducible rfl
     rotate_left
     ·simp only [Act.put, List.setIfInBounds_toArray, List.set_cons_zero, List.set_cons_succ, i64_w, i32_w]
      rfl
     refine pure_ (i := 5) (N := some 78) (v := ?_) (a' := ?_) (ms 38 63) rfl rfl (any_of HT_.out (by kernel_rfl)) (fun _ _ _ h => h) (Or.inl ⟨by rfl, ?_⟩) ?_ ?_
     rotate_left
     ·intro w'
      go_simp
      with_reducible rfl
     rotate_left
     ·simp only [Act.put, List.setIfInBounds_toArray, List.set_cons_zero, List.set_cons_succ, i64_w, i32_w]
      rfl
     refine take_ (i := 6) (N := some 79) (v := ?_) (a' := ?_) (ms 38 127) rfl rfl (take_ofW HT_.out HW_.out (by kernel_rfl)) (fun _ _ _ h => h) (Or.inl ⟨by rfl, ?_⟩) hHeld ?_ ?_
     rotate_left
     ·intro w' hS
      obtain ⟨s0, s1, s2⟩ := hS
      go_simp
      with_reducible rfl
     rotate_left
     ·simp only [Act.put, List.setIfInBounds_toArray, List.set_cons_zero, List.set_cons_succ, i64_w, i32_w]
      rfl
     refine pure_ (i := 7) (N := some 80) (v := ?_) (a' := ?_) (ms 38 255) rfl rfl (any_of HT_.out (by kernel_rfl)) (fun _ _ _ h => h) (Or.inl ⟨by rfl, ?_⟩) ?_ ?_
     rotate_left
     ·intro w'
      go_simp
      with_reducible rfl
     rotate_left
     ·simp only [Act.put, List.setIfInBounds_toArray, List.set_cons_zero, List.set_cons_succ, i64_w, i32_w]
      rfl
     refine pure_ (i := 8) (N := some 81) (v := undef) (a' := ?_) (ms 38 511) rfl rfl (any_of HT_.out (by kernel_rfl)) (fun _ _ _ h => h) (Or.inr ⟨by rfl, rfl⟩) ?_ ?_
     rotate_left
     ·simp only [Act.put, List.setIfInBounds_toArray, List.set_cons_zero, List.set_cons_succ, i64_w, i32_w]
      rfl
     refine pure_ (i := 9) (N := some 82) (v := undef) (a' := ?_) (ms 38 1023) rfl rfl (any_of HT_.out (by kernel_rfl)) (fun _ _ _ h => h) (Or.inr ⟨by rfl, rfl⟩) ?_ ?_
     rotate_left
     ·simp only [Act.put, List.setIfInBounds_toArray, List.set_cons_zero, List.set_cons_succ, i64_w, i32_w]
      rfl
     refine pure_ (i := 10) (N := some 83) (v := undef) (a' := ?_) (ms 38 2047) rfl rfl (any_of HT_.out (by kernel_rfl)) (fun _ _ _ h => h) (Or.inr ⟨by rfl, rfl⟩) ?_ ?_
     rotate_left
     ·simp only [Act.put, List.setIfInBounds_toArray, List.set_cons_zero, List.set_cons_succ, i64_w, i32_w]
      rfl
     refine pure_ (i := 11) (N := some 84) (v := undef) (a' := ?_) (ms 38 4095) rfl rfl (any_of HT_.out (by kernel_rfl)) (fun _ _ _ h => h) (Or.inr ⟨by rfl, rfl⟩) ?_ ?_
     rotate_left
     ·simp only [Act.put, List.setIfInBounds_toArray, List.set_cons_zero, List.set_cons_succ, i64_w, i32_w]
      rfl
     refine pure_ (i := 12) (N := some 85) (v := undef) (a' := ?_) (ms 38 8191) rfl rfl (any_of HT_.out (by kernel_rfl)) (fun _ _ _ h => h) (Or.inr ⟨by rfl, rfl⟩) ?_ ?_
     rotate_left
     ·simp only [Act.put, List.setIfInBounds_toArray, List.set_cons_zero, List.set_cons_succ, i64_w, i32_w]
      rfl
     refine pure_ (i := 13) (N := some 86) (v := ?_) (a' := ?_) (ms 38 16383) rfl rfl (any_of HT_.out (by kernel_rfl)) (fun _ _ _ h => h) (Or.inl ⟨by rfl, ?_⟩) ?_ ?_
     rotate_left
     ·intro w'
      go_simp
      with_reducible rfl
     rotate_left
     ·simp only [Act.put, List.setIfInBounds_toArray, List.set_cons_zero, List.set_cons_succ, i64_w, i32_w]
      rfl
     refine pure_ (i := 14) (N := some 87) (v := ?_) (a' := ?_) (ms 38 32767) rfl rfl (any_of HT_.out (by kernel_rfl)) (fun _ _ _ h => h) (Or.inl ⟨by rfl, ?_⟩) ?_ ?_
     rotate_left
     ·intro w'
      go_simp
      with_reducible rfl
     rotate_left
     ·simp only [Act.put, List.setIfInBounds_toArray, List.set_cons_zero, List.set_cons_succ, i64_w, i32_w]
      rfl
     refine pure_ (i := 15) (N := some 88) (v := ?_) (a' := ?_) (ms 38 65535) rfl rfl (any_of HT_.out (by kernel_rfl)) (fun _ _ _ h => h) (Or.inl ⟨by rfl, ?_⟩) ?_ ?_
     rotate_left
     ·intro w'
      go_simp
      with_reducible rfl
     rotate_left
     ·simp only [Act.put, List.setIfInBounds_toArray, List.set_cons_zero, List.set_cons_succ, i64_w, i32_w]
      rfl
     refine pure_ (i := 16) (N := some 89) (v := ?_) (a' := ?_) (ms 38 131071) rfl rfl (any_of HT_.out (by kernel_rfl)) (fun _ _ _ h => h) (Or.inl ⟨by rfl, ?_⟩) ?_ ?_
     rotate_left
     ·intro w'
      go_simp
      with_reducible rfl
     rotate_left
     ·simp only [Act.put, List.setIfInBounds_toArray, List.set_cons_zero, List.set_cons_succ, i64_w, i32_w]
      rfl
     refine pure_ (i := 17) (N := some 90) (v := ?_) (a' := ?_) (ms 38 262143) rfl rfl (any_of HT_.out (by kernel_rfl)) (fun _ _ _ h => h) (Or.inl ⟨by rfl, ?_⟩) ?_ ?_
     rotate_left
     ·intro w'
      go_simp
      with_reducible rfl
     rotate_left
     ·simp only [Act.put, List.setIfInBounds_toArray, List.set_cons_zero, List.set_cons_succ, i64_w, i32_w]
      rfl
     refine take_ (i := 18) (N := some 91) (v := ?_) (a' := ?_) (ms 38 524287) rfl rfl (take_ofW HT_.out HW_.out (by kernel_rfl)) (fun _ _ _ h => h) (Or.inl ⟨by rfl, ?_⟩) hHeld ?_ ?_
     rotate_left
     ·intro w' hS
      obtain ⟨s0, s1, s2⟩ := hS
      go_simp
      with_reducible rfl
     rotate_left
     ·simp only [Act.put, List.setIfInBounds_toArray, List.set_cons_zero, List.set_cons_succ, i64_w, i32_w]
      rfl
     refine pure_ (i := 19) (N := some 92) (v := ?_) (a' := ?_) (ms 38 1048575) rfl rfl (any_of HT_.out (by kernel_rfl)) (fun _ _ _ h => h) (Or.inl ⟨by rfl, ?_⟩) ?_ ?_
     rotate_left
     ·intro w'
      go_simp
      with_reducible rfl
     rotate_left
     ·simp only [Act.put, List.setIfInBounds_toArray, List.set_cons_zero, List.set_cons_succ, i64_w, i32_w]
      rfl
     refine pure_ (i := 20) (N := some 93) (v := ?_) (a' := ?_) (ms 38 2097151) rfl rfl (any_of HT_.out (by kernel_rfl)) (fun _ _ _ h => h) (Or.inl ⟨by rfl, ?_⟩) ?_ ?_
     rotate_left
     ·intro w'
      go_simp
      with_reducible rfl
     rotate_left
     ·simp only [Act.put, List.setIfInBounds_toArray, List.set_cons_zero, List.set_cons_succ, i64_w, i32_w]
      rfl
     refine pure_ (i := 21) (N := some 94) (v := undef) (a' := ?_) (ms 38 4194303) rfl rfl (any_of HT_.out (by kernel_rfl)) (fun _ _ _ h => h) (Or.inr ⟨by rfl, rfl⟩) ?_ ?_
     rotate_left
     ·simp only [Act.put, List.setIfInBounds_toArray, List.set_cons_zero, List.set_cons_succ, i64_w, i32_w]
      rfl
     refine pure_ (i := 22) (N := some 95) (v := undef) (a' := ?_) (ms 38 8388607) rfl rfl (any_of HT_.out (by kernel_rfl)) (fun _ _ _ h => h) (Or.inr ⟨by rfl, rfl⟩) ?_ ?_
     rotate_left
     ·simp only [Act.put, List.setIfInBounds_toArray, List.set_cons_zero, List.set_cons_succ, i64_w, i32_w]
      rfl
     refine pure_ (i := 23) (N := some 96) (v := undef) (a' := ?_) (ms 38 16777215) rfl rfl (any_of HT_.out (by kernel_rfl)) (fun _ _ _ h => h) (Or.inr ⟨by rfl, rfl⟩) ?_ ?_
     rotate_left
     ·simp only [Act.put, List.setIfInBounds_toArray, List.set_cons_zero, List.set_cons_succ, i64_w, i32_w]
      rfl
     refine pure_ (i := 24) (N := some 97) (v := undef) (a' := ?_) (ms 38 33554431) rfl rfl (any_of HT_.out (by kernel_rfl)) (fun _ _ _ h => h) (Or.inr ⟨by rfl, rfl⟩) ?_ ?_
     rotate_left
     ·simp only [Act.put, List.setIfInBounds_toArray, List.set_cons_zero, List.set_cons_succ, i64_w, i32_w]
      rfl
     refine pure_ (i := 25) (N := some 98) (v := undef) (a' := ?_) (ms 38 67108863) rfl rfl (any_of HT_.out (by kernel_rfl)) (fun _ _ _ h => h) (Or.inr ⟨by rfl, rfl⟩) ?_ ?_
     rotate_left
     ·simp only [Act.put, List.setIfInBounds_toArray, List.set_cons_zero, List.set_cons_succ, i64_w, i32_w]
      rfl
     refine pure_ (i := 26) (N := some 99) (v := undef) (a' := ?_) (ms 38 134217727) rfl rfl (any_of HT_.out (by kernel_rfl)) (fun _ _ _ h => h) (Or.inr ⟨by rfl, rfl⟩) ?_ ?_
     rotate_left
     ·simp only [Act.put, List.setIfInBounds_toArray, List.set_cons_zero, List.set_cons_succ, i64_w, i32_w]
      rfl
     refine pure_ (i := 27) (N := some 100) (v := undef) (a' := ?_) (ms 38 268435455) rfl rfl (any_of HT_.out (by kernel_rfl)) (fun _ _ _ h => h) (Or.inr ⟨by rfl, rfl⟩) ?_ ?_
     rotate_left
     ·simp only [Act.put, List.setIfInBounds_toArray, List.set_cons_zero, List.set_cons_succ, i64_w, i32_w]
      rfl
     refine pure_ (i := 28) (N := some 101) (v := undef) (a' := ?_) (ms 38 536870911) rfl rfl (any_of HT_.out (by kernel_rfl)) (fun _ _ _ h => h) (Or.inr ⟨by rfl, rfl⟩) ?_ ?_
     rotate_left
     ·simp only [Act.put, List.setIfInBounds_toArray, List.set_cons_zero, List.set_cons_succ, i64_w, i32_w]
      rfl
     refine pure_ (i := 29) (N := some 102) (v := undef) (a' := ?_) (ms 38 1073741823) rfl rfl (any_of HT_.out (by kernel_rfl)) (fun _ _ _ h => h) (Or.inr ⟨by rfl, rfl⟩) ?_ ?_
     rotate_left
     ·simp only [Act.put, List.setIfInBounds_toArray, List.set_cons_zero, List.set_cons_succ, i64_w, i32_w]
      rfl
     refine pure_ (i := 30) (N := some 103) (v := undef) (a' := ?_) (ms 38 2147483647) rfl rfl (any_of HT_.out (by kernel_rfl)) (fun _ _ _ h => h) (Or.inr ⟨by rfl, rfl⟩) ?_ ?_
     rotate_left
     ·simp only [Act.put, List.setIfInBounds_toArray, List.set_cons_zero, List.set_cons_succ, i64_w, i32_w]
      rfl
     refine pure_ (i := 31) (N := some 104) (v := undef) (a' := ?_) (ms 38 4294967295) rfl rfl (any_of HT_.out (by kernel_rfl)) (fun _ _ _ h => h) (Or.inr ⟨by rfl, rfl⟩) ?_ ?_
     rotate_left
     ·simp only [Act.put, List.setIfInBounds_toArray, List.set_cons_zero, List.set_cons_succ, i64_w, i32_w]
      rfl
     refine pure_ (i := 32) (N := some 105) (v := undef) (a' := ?_) (ms 38 8589934591) rfl rfl (any_of HT_.out (by kernel_rfl)) (fun _ _ _ h => h) (Or.inr ⟨by rfl, rfl⟩) ?_ ?_
     rotate_left
     ·simp only [Act.put, List.setIfInBounds_toArray, List.set_cons_zero, List.set_cons_succ, i64_w, i32_w]
      rfl
     refine pure_ (i := 33) (N := some 106) (v := ?_) (a' := ?_) (ms 38 17179869183) rfl rfl (any_of HT_.out (by kernel_rfl)) (fun _ _ _ h => h) (Or.inl ⟨by rfl, ?_⟩) ?_ ?_
     rotate_left
     ·intro w'
      go_simp
      with_reducible rfl
     rotate_left
     ·simp only [Act.put, List.setIfInBounds_toArray, List.set_cons_zero, List.set_cons_succ, i64_w, i32_w]
      rfl
     refine pure_ (i := 34) (N := some 107) (v := ?_) (a' := ?_) (ms 38 34359738367) rfl rfl (any_of HT_.out (by kernel_rfl)) (fun _ _ _ h => h) (Or.inl ⟨by rfl, ?_⟩) ?_ ?_
     rotate_left
     ·intro w'
      go_simp
      with_reducible rfl
     rotate_left
     ·simp only [Act.put, List.setIfInBounds_toArray, List.set_cons_zero, List.set_cons_succ, i64_w, i32_w]
      rfl
     refine pure_ (i := 35) (N := some 108) (v := ?_) (a' := ?_) (ms 38 68719476735) rfl rfl (any_of HT_.out (by kernel_rfl)) (fun _ _ _ h => h) (Or.inl ⟨by rfl, ?_⟩) ?_ ?_
     rotate_left
     ·intro w'
      go_simp
      with_reducible rfl
     rotate_left
     ·simp only [Act.put, List.setIfInBounds_toArray, List.set_cons_zero, List.set_cons_succ, i64_w, i32_w]
      rfl
     refine pure_ (i := 36) (N := some 109) (v := ?_) (a' := ?_) (ms 38 137438953471) rfl rfl (any_of HT_.out (by kernel_rfl)) (fun _ _ _ h => h) (Or.inl ⟨by rfl, ?_⟩) ?_ ?_
     rotate_left
     ·intro w'
      go_simp
      with_reducible rfl
     rotate_left
     ·simp only [Act.put, List.setIfInBounds_toArray, List.set_cons_zero, List.set_cons_succ, i64_w, i32_w]
      rfl
     refine last_ (i := 37) (N := none) (ms 38 274877906943) rfl rfl (one_of HT_.out (by kernel_rfl)) (by decide) (fun K hK => ?_)
     refine skip_ (w1 := (wd.setCell ⟨w.heap.size, j, none⟩ (.bool false))) (by rfl) rfl ?_ ?_
     ·first | (go_simp; done) | (go_simp; rfl)
     refine hK.out _ _ ?_
     clear hK K
     refine done_ (done_of HT_.out (by kernel_rfl)) ?_
     have HS : Aside0 (NbI (opB false (mkb zs) (mkb us)) w r1 r2 zs us (j + 1) (out.set j false) (wd.setCell ⟨w.heap.size, j, none⟩ (.bool false))) := ⟨(by have h_ := SetF_step HD.out.1 HK.out; rw [show opB false (mkb zs) (mkb us) j = false from by rw [opB, EA.out, EB.out]; rfl] at h_; exact h_), Arr.set HD.out.2.1 _ _, Arr.far HD.out.2.2.1 (Nat.ne_of_gt HR2.out) _, Arr.far HD.out.2.2.2.1 (Nat.ne_of_gt HR3.out) _, below_set HD.out.2.2.2.2 (Nat.le_refl _)⟩
     clear hHeld HT_ HW_ fO cO HD
     go_wp2
     go_roundw
     case rel => exact ⟨j + 1, _, by have := HK.out; omega, by go_num, HS.out⟩
     case measure => have := HK.out; simp [intOf]; omega
  ·have k1 : decide ((j : Int) < 201) = false := decide_eq_false (by omega)
   obtain rfl : j = 201 := by omega
   go_wp2
   go_ret
   exact ⟨⟨_, out, rfl, Nat.le_refl _, HJ.out.2.1, HJ.out.1.1, fun n hn => (SetF_end HJ.out.1 n hn).trans (opB_congr (HD2.out n hn) (HD3.out n hn))⟩, HJ.out.2.2.2.2⟩
theorem tp_one_cases {c : UInt8} (h : tp_one c = true) : c = 42 ∨ (50 ≤ c.toNat ∧ c.toNat ≤ 53) := by
 unfold tp_one at h
 simpa using h
theorem tp_op_cases {c : UInt8} (h : tp_op c = true) : c = 43 ∨ c = 46 ∨ c = 38 := by
 unfold tp_op at h
 simpa [or_assoc] using h
theorem nm_numbers : ∀ {x : Te}, Wt x → ∀ (g : Nat) (w : World), Stands w x g → Calls Try.prog 20 #[.pointer (some ⟨g, 0, none⟩)] w (NmOut x w)
 | _, .leaf c h, g, w, hA => nm_leaf c h g w hA
 | _, .one c x h hx, g, w, hA => by
  rcases tp_one_cases h with rfl | hc
  ·exact nm_starred x g w hA (fun h W hA => nm_numbers hx h W hA)
  ·exact nm_times c hc x g w hA (fun h W hA => nm_numbers hx h W hA)
 | _, .two c x y h hx hy, g, w, hA => by
  rcases tp_op_cases h with rfl | rfl | rfl
  ·exact nm_either x y g w hA (fun h W hA => nm_numbers hx h W hA) (fun h W hA => nm_numbers hy h W hA)
  ·exact nm_sum x y g w hA (fun h W hA => nm_numbers hx h W hA) (fun h W hA => nm_numbers hy h W hA)
  ·exact nm_both x y g w hA (fun h W hA => nm_numbers hx h W hA) (fun h W hA => nm_numbers hy h W hA)
def th_out (l : List UInt8) (n : Int) : Bool := match te_of l with
 | none => false
 | some x => decide (0 ≤ n) && (decide (n ≤ 200) && den x n.toNat)
end X

theorem th_in (n : Int) : impl_in.f n 0 200 = some (decide (0 ≤ n) && decide (n ≤ 200)) := by
 unfold impl_in.f
 by_cases h : n ≥ 0
 ·rw [if_pos h, decide_eq_true (show 0 ≤ n from h)]
  simp
 ·rw [if_neg h, decide_eq_false (show ¬ 0 ≤ n from h)]
  simp
def impl_TermHas.f (a0 : ByteArray) (a1 : Int) : Option Bool := some (X.th_out a0.data.toList a1)
set_option maxHeartbeats 4000000 in
set_option maxRecDepth 100000 in
theorem impl_TermHas.calls0 (a0 : ByteArray) (a1 : Int) (w : World) :
  Calls Try.prog 11 #[.string a0, .int .i64 a1] w fun e w' => e = .returned (.bool (X.th_out a0.data.toList a1)) ∧ Below w.heap.size w w' := by
 have hv_ := Try.underlying54
 have HC := Aside0.mk (X.te_termOf a0)
 cases ho : X.te_of a0.data.toList with
 | none =>
  have hT : X.th_out a0.data.toList a1 = false := by rw [X.th_out, ho]
  have HO := Aside0.mk ho
  rw [hT]
  clear ho hT
  go_enter Try.func11, Try.ntmps11
  go_wp2_with (first | (go_at_call 14; (with_reducible refine (HC.out _).mono ?_); rintro e W2 ⟨h, hb⟩; have HB2 := Aside0.mk hb; rw [HO.out] at h; obtain rfl : e = _ := h; clear hb))
  go_ret
  exact ⟨rfl, HB2.out⟩
 | some x =>
  have HO := Aside0.mk ho
  have HW := Aside0.mk (X.te_of_wt ho)
  by_cases hin : 0 ≤ a1 ∧ a1 ≤ 200
  ·obtain ⟨n, rfl⟩ := Int.eq_ofNat_of_zero_le hin.1
   have hT : X.th_out a0.data.toList (n : Int) = X.den x n := by
    rw [X.th_out, ho]
    show (decide (0 ≤ (n : Int)) && (decide ((n : Int) ≤ 200) && X.den x (n : Int).toNat)) = _
    rw [decide_eq_true hin.1, decide_eq_true hin.2, Int.toNat_natCast]
    rfl
   have hI := th_in (n : Int)
   rw [decide_eq_true hin.1, decide_eq_true hin.2] at hI
   have HI := Aside0.mk hI
   have k1 : (n : Int) < 201 := by omega
   have k2 : n < 201 := by omega
   have K2 := Aside0.mk k2
   obtain ⟨b, eb⟩ : ∃ b, X.den x n = b := ⟨_, rfl⟩
   rw [hT, eb]
   have EB := Aside0.mk eb
   clear ho hT hI hin eb
   go_enter Try.func11, Try.ntmps11
   go_wp2_with (first | (go_at_call 14; (with_reducible refine (HC.out _).mono ?_); rintro e W2 ⟨h, hb⟩; have HB2 := Aside0.mk hb; rw [HO.out] at h; obtain ⟨g, rfl, hA⟩ := h; have HA := Aside0.mk hA; clear hb hA) | (go_at_call 19; (with_reducible refine (impl_in.calls _ _ _ _ _ HI.out).mono ?_); rintro e w' ⟨rfl, hd⟩; have HB3 := Aside0.mk (below_step HB2.out hd.below); have HA3 := Aside0.mk (X.Stands.below hd.below HA.out); clear hd) | (go_at_call 20; (with_reducible refine (X.nm_numbers HW.out _ _ HA3.out).mono ?_); rintro e W4 ⟨⟨r, zs, rfl, hr, hA4, hl, hd⟩, hb⟩; have HB4 := Aside0.mk (below_step HB3.out hb); have cz := X.Arr.cell hA4 (i := n) (by rw [hl]; exact K2.out) ((hd n K2.out).trans EB.out); clear hr hA4 hl hd hb))
   go_ret
   exact ⟨rfl, HB4.out⟩
  ·have hT : X.th_out a0.data.toList a1 = false := by
    rw [X.th_out, ho]
    show (decide (0 ≤ a1) && (decide (a1 ≤ 200) && _)) = false
    by_cases h0 : 0 ≤ a1
    ·rw [decide_eq_false (fun h => hin ⟨h0, h⟩)]
     simp
    ·rw [decide_eq_false h0]
     rfl
   have hI : impl_in.f a1 0 200 = some false := by
    rw [th_in]
    by_cases h0 : 0 ≤ a1
    ·rw [decide_eq_false (fun h => hin ⟨h0, h⟩)]
     simp
    ·rw [decide_eq_false h0]
     rfl
   have HI := Aside0.mk hI
   rw [hT]
   clear ho hT hI hin
   go_enter Try.func11, Try.ntmps11
   go_wp2_with (first | (go_at_call 14; (with_reducible refine (HC.out _).mono ?_); rintro e W2 ⟨h, hb⟩; have HB2 := Aside0.mk hb; rw [HO.out] at h; obtain ⟨g, rfl, hA⟩ := h; clear hb hA) | (go_at_call 19; (with_reducible refine (impl_in.calls _ _ _ _ _ HI.out).mono ?_); rintro e w' ⟨rfl, hd⟩; have HB3 := Aside0.mk (below_step HB2.out hd.below); clear hd))
   go_ret
   exact ⟨rfl, HB3.out⟩
theorem impl_TermHas.calls (a0 : ByteArray) (a1 : Int) (r : Bool) (w : World) (h : impl_TermHas.f a0 a1 = some r) :
  Calls Try.prog 11 #[.string a0, .int .i64 a1] w fun e w' => e = .returned (.bool r) ∧ Below w.heap.size w w' := by
 obtain rfl := Option.some.inj h
 exact impl_TermHas.calls0 a0 a1 w

end Go.Proofs.Ytijmkmbepjjphaa.G
