-- Made by gprint.py (the kit's print with contracts of this session's own among its functions).
import Derived.Test.YtijmkmbepjjphaaG0
import Derived.Test.YtijmkmbepjjphaaG2
namespace Go.Proofs.Ytijmkmbepjjphaa.G
open Go.RowKit Go.Proofs.YtijmkmbepjjphaaW.PrintWords Go.Proofs.YtijmkmbepjjphaaW.PrintLast Go.Proofs.YtijmkmbepjjphaaW.PrintMore
attribute [local go_sem] max2_int min2_int max_two min_two max_three min_three max_four min_four   -- for this text's walks alone
set_option linter.unusedVariables false
set_option linter.unusedSimpArgs false

/-! ### spec_l7Read: function 21 -/
namespace X
theorem ts_blk {w : World} {g : Nat} {u v : Value} {T : TypeId} (h : w.heap[g]? = some (.cells #[u, v] T (0, 0))) (x y : Value) : ((w.setCell ⟨g, 0, none⟩ x).setCell ⟨g, 1, none⟩ y).heap[g]? = some (.cells #[x, y] T (0, 0)) :=
 blk_set (blk_set h 0 x) 1 y
theorem ts_third (w : World) (a b c : Obj) : (((w.alloc a).alloc b).alloc c).heap[w.heap.size + 1 + 1]? = some c := by
 have := blk_new ((w.alloc a).alloc b) c
 rwa [show ((w.alloc a).alloc b).heap.size = w.heap.size + 1 + 1 from by rw [World.alloc, World.alloc]; simp only [Array.size_push]] at this
def ts_num (s : ByteArray) : Option (List UInt8) → Int
 | none => 0
 | some r => ((s.size - r.length : Nat) : Int)
def sr_none : S28 := ⟨48, []⟩
def sr_t2 (d : UInt8) (a b : S28) : Option (List UInt8) → S28
 | some (e :: _) => if (e == 41) = true then ⟨(d.toNat : Int), [a, b]⟩ else sr_none
 | _ => sr_none
def sr_t1 (f : List UInt8 → S28) (g : List UInt8 → Option (List UInt8)) (a : S28) : Option (List UInt8) → S28
 | some (d :: r) => if tp_op d = true then sr_t2 d a (f r) (g r) else sr_none
 | _ => sr_none
/-- The tree that the reference reads. -/
def sr_tree : Nat → List UInt8 → S28
 | 0, _ => sr_none
 | _ + 1, [] => sr_none
 | n + 1, c :: s =>
  if tp_leaf c = true then ⟨(c.toNat : Int), []⟩
  else if tp_one c = true then ⟨(c.toNat : Int), [sr_tree n s]⟩
  else if (c == 40) = true then sr_t1 (sr_tree n) (tp_rest n) (sr_tree n s) (tp_rest n s)
  else sr_none
def ts_out (s : ByteArray) (B : Nat) (w' : World) (o : Option (List UInt8)) (q : S28) (e : Ending) : Prop :=
 ∃ (x : Int) (A : Option Addr) (n c : Nat), e = .returned (.tuple #[.agg #[.int .u8 x, .slice A n c], .int .i64 (ts_num s o)]) ∧ x = q.f0 ∧ Kd.R k28 28 w' B (fun _ => True) (.slice A n c) q.f1
theorem ts_is {s : ByteArray} {B : Nat} {w' : World} {o : Option (List UInt8)} {q : S28} {x k : Int} {A : Option Addr} {n c : Nat} (h : k = ts_num s o) (hx : x = q.f0) (hr : Kd.R k28 28 w' B (fun _ => True) (.slice A n c) q.f1) : ts_out s B w' o q (.returned (.tuple #[.agg #[.int .u8 x, .slice A n c], .int .i64 k])) := ⟨x, A, n, c, by rw [h], hx, hr⟩
theorem ts_second (w : World) (a b c : Obj) : (((w.alloc a).alloc b).alloc c).heap[w.heap.size + 1]? = some b := by
 have := blk_alloc (blk_new (w.alloc a) b) c
 rwa [show (w.alloc a).heap.size = w.heap.size + 1 from by rw [World.alloc]; simp only [Array.size_push]] at this
theorem blk_off {w : World} {g : Nat} {o : Obj} (h : w.heap[g]? = some o) {p : Addr} (hne : g ≠ p.block) (v : Value) : (w.setCell p v).heap[g]? = some o := (Below.heap_setCell w p v g hne).trans h
theorem row_nil {w : World} {B g : Nat} (h : w.heap[g]? = some (.cells #[] 28 (0, 0))) (hB : B ≤ g) : Kd.R k28 28 w B (fun _ => True) (.slice (some ⟨g, 0, none⟩) 0 0) [] :=
 ⟨fun _ _ => trivial, [], ⟨rfl, .inr ⟨g, 0, #[], rfl, hB, h, Nat.le_refl _, Nat.zero_le _, rfl, rfl⟩⟩, Reps.none _ _⟩
theorem row_one {w : World} {B g : Nat} {x : S28} {v : Value} (h : w.heap[g]? = some (.cells #[.int .u8 x.f0, v] 28 (0, 0))) (hB : B ≤ g) (hr : Kd.R k28 28 w B (fun k => k ≠ g) v x.f1) : Kd.R k28 28 w B (fun _ => True) (.slice (some ⟨g, 0, none⟩) 1 1) [x] :=
 ⟨fun _ _ => trivial, [.int .u8 x.f0, v], ⟨rfl, .inr ⟨g, 1, #[.int .u8 x.f0, v], rfl, hB, h, Nat.le_refl _, by decide, rfl, rfl⟩⟩,
  Reps.c2 (k28_mkM w B _ x (Kd.R_mono hr (fun k hk => ⟨trivial, fun e => hk (Option.some.inj e)⟩))) (Reps.none _ _)⟩
theorem row_two {w : World} {B g : Nat} {x y : S28} {v u : Value} (h : w.heap[g]? = some (.cells #[.int .u8 x.f0, v, .int .u8 y.f0, u] 28 (0, 0))) (hB : B ≤ g) (hr : Kd.R k28 28 w B (fun k => k ≠ g) v x.f1) (hs : Kd.R k28 28 w B (fun k => k ≠ g) u y.f1) : Kd.R k28 28 w B (fun _ => True) (.slice (some ⟨g, 0, none⟩) 2 2) [x, y] :=
 ⟨fun _ _ => trivial, [.int .u8 x.f0, v, .int .u8 y.f0, u], ⟨rfl, .inr ⟨g, 2, #[.int .u8 x.f0, v, .int .u8 y.f0, u], rfl, hB, h, Nat.le_refl _, by decide, rfl, rfl⟩⟩,
  Reps.c2 (k28_mkM w B _ x (Kd.R_mono hr (fun k hk => ⟨trivial, fun e => hk (Option.some.inj e)⟩))) (Reps.c2 (k28_mkM w B _ y (Kd.R_mono hs (fun k hk => ⟨trivial, fun e => hk (Option.some.inj e)⟩))) (Reps.none _ _))⟩
theorem row_in {w : World} {B B' N : Nat} {v : Value} {xs : List S28} (h : Kd.R k28 28 w B (fun _ => True) v xs) (hB : B' < B) (hN : w.heap.size ≤ N) : Kd.R k28 28 w B' (fun k => B' < k ∧ k < N) v xs :=
 Kd.R_lower (Kd.R_mono (Kd.R_bound h) (fun k hk => ⟨Nat.lt_of_lt_of_le hB hk.2.1, Nat.lt_of_lt_of_le hk.2.2.1 hN⟩)) (Nat.le_of_lt hB)
theorem row_leaf (w : World) (a b c : Obj) : Kd.R k28 28 ((((w.alloc a).alloc b).alloc c).alloc (.cells #[] 28 (0, 0))) w.heap.size (fun _ => True) (.slice (some ⟨w.heap.size + 1 + 1 + 1, 0, none⟩) 0 0) [] := by
 have := blk_new (((w.alloc a).alloc b).alloc c) (.cells #[] 28 (0, 0))
 rw [size_alloc, size_alloc, size_alloc] at this
 exact row_nil this (by omega)
theorem row_star {w W2 : World} {q : S28} {x : Int} {A : Option Addr} {m ca : Nat} (hx : x = q.f0) (hr : Kd.R k28 28 W2 w.heap.size (fun k => w.heap.size < k ∧ k < W2.heap.size) (.slice A m ca) q.f1) (hs : w.heap.size ≤ W2.heap.size) (o : Obj) (v0 v1 : Value) :
  Kd.R k28 28 ((((W2.alloc o).alloc (.cells #[.int .u8 x, .slice A m ca] 28 (0, 0))).setCell ⟨w.heap.size, 0, none⟩ v0).setCell ⟨w.heap.size, 1, none⟩ v1) w.heap.size (fun _ => True) (.slice (some ⟨W2.heap.size + 1, 0, none⟩) 1 1) [q] := by
 subst hx
 have h := blk_new (W2.alloc o) (.cells #[.int .u8 q.f0, .slice A m ca] 28 (0, 0))
 rw [size_alloc] at h
 refine row_one (blk_off (blk_off h (show W2.heap.size + 1 ≠ w.heap.size by omega) _) (show W2.heap.size + 1 ≠ w.heap.size by omega) _) (by omega) ?_
 refine Kd.R_mono (Kd.R_far (Kd.R_far (Kd.R_alloc (Kd.R_alloc hr _) _) (fun k hk => ?_) _) (fun k hk => ?_) _) (fun k hk => ?_)
 ·exact Nat.ne_of_gt hk.1
 ·exact Nat.ne_of_gt hk.1
 ·have := hk.2
  omega
theorem row_pair {w W4 : World} {q r : S28} {x y : Int} {A C : Option Addr} {m ca n cb N : Nat} (hx : x = q.f0) (hy : y = r.f0) (hr : Kd.R k28 28 W4 w.heap.size (fun k => w.heap.size < k ∧ k < N) (.slice A m ca) q.f1) (hN : N < W4.heap.size) (hq : Kd.R k28 28 W4 w.heap.size (fun k => w.heap.size < k ∧ k < W4.heap.size) (.slice C n cb) r.f1) (hs : w.heap.size ≤ N) (o : Obj) (v0 v1 : Value) :
  Kd.R k28 28 ((((W4.alloc o).alloc (.cells #[.int .u8 x, .slice A m ca, .int .u8 y, .slice C n cb] 28 (0, 0))).setCell ⟨w.heap.size, 0, none⟩ v0).setCell ⟨w.heap.size, 1, none⟩ v1) w.heap.size (fun _ => True) (.slice (some ⟨W4.heap.size + 1, 0, none⟩) 2 2) [q, r] := by
 subst hx
 subst hy
 have h := blk_new (W4.alloc o) (.cells #[.int .u8 q.f0, .slice A m ca, .int .u8 r.f0, .slice C n cb] 28 (0, 0))
 rw [size_alloc] at h
 refine row_two (blk_off (blk_off h (show W4.heap.size + 1 ≠ w.heap.size by omega) _) (show W4.heap.size + 1 ≠ w.heap.size by omega) _) (by omega) ?_ ?_
 ·refine Kd.R_mono (Kd.R_far (Kd.R_far (Kd.R_alloc (Kd.R_alloc hr _) _) (fun k hk => ?_) _) (fun k hk => ?_) _) (fun k hk => ?_)
  ·exact Nat.ne_of_gt hk.1
  ·exact Nat.ne_of_gt hk.1
  ·have := hk.2
   omega
 ·refine Kd.R_mono (Kd.R_far (Kd.R_far (Kd.R_alloc (Kd.R_alloc hq _) _) (fun k hk => ?_) _) (fun k hk => ?_) _) (fun k hk => ?_)
  ·exact Nat.ne_of_gt hk.1
  ·exact Nat.ne_of_gt hk.1
  ·have := hk.2
   omega
theorem tp_suf (n : Nat) : ∀ (l r : List UInt8), tp_rest n l = some r → ∃ k, r = l.drop k := by
 induction n with
 | zero =>
  intro l r h
  simp [tp_rest] at h
 | succ n ih =>
  intro l r h
  cases l with
  | nil => simp [tp_rest] at h
  | cons c s =>
   rw [tp_rest] at h
   split at h
   ·cases h
    exact ⟨1, rfl⟩
   ·split at h
    ·obtain ⟨k, hk⟩ := ih _ _ h
     exact ⟨k + 1, hk⟩
    ·split at h
     ·cases h1 : tp_rest n s with
      | none =>
       rw [h1] at h
       simp [tp_two] at h
      | some r1 =>
       rw [h1] at h
       cases r1 with
       | nil => simp [tp_two] at h
       | cons d r1 =>
        rw [tp_two] at h
        split at h
        ·cases h2 : tp_rest n r1 with
         | none =>
          rw [h2] at h
          simp [tp_last] at h
         | some r2 =>
          rw [h2] at h
          cases r2 with
          | nil => simp [tp_last] at h
          | cons e q =>
           rw [tp_last] at h
           split at h
           ·obtain rfl := Option.some.inj h
            obtain ⟨k1, a1⟩ := ih _ _ h1
            obtain ⟨k2, a2⟩ := ih _ _ h2
            refine ⟨(k1 + 1 + k2 + 1) + 1, ?_⟩
            rw [List.drop_succ_cons, ← List.drop_drop, ← List.drop_drop, ← List.drop_drop, ← a1]
            show q = List.drop 1 (List.drop k2 r1)
            rw [← a2]
            rfl
           ·cases h
        ·cases h
     ·cases h
theorem ts_at {s : ByteArray} {i : Nat} {c : UInt8} {l : List UInt8} (h : s.data.toList.drop i = c :: l) : ∃ hlt : i < s.size, ((s[i]'hlt).toNat : Int) = (c.toNat : Int) ∧ l.length + i + 1 = s.size ∧ s.data.toList.drop (i + 1) = l := by
 have h1 := congrArg List.length h
 rw [List.length_drop] at h1
 have h2 : s.size = s.data.toList.length := Lib.size_eq s
 simp at h1
 have hlt : i < s.size := by omega
 refine ⟨hlt, ?_, by omega, by rw [← List.drop_drop, h]; rfl⟩
 have h3 : s.data.toList[i]'(by omega) = c := by
  have := List.getElem?_drop (xs := s.data.toList) (i := i) (j := 0)
  rw [h] at this
  rw [Nat.add_zero] at this
  exact (List.getElem?_eq_some_iff.1 this.symm).2
 rw [← h3]
 rfl
/-- What is left behind the part from i on lies at its own place. -/
theorem ts_place {s : ByteArray} {i n : Nat} {r : List UInt8} (h : tp_rest n (s.data.toList.drop i) = some r) : r = s.data.toList.drop (s.size - r.length) := by
 obtain ⟨k, hk⟩ := tp_suf _ _ _ h
 rw [List.drop_drop] at hk
 have h2 : s.size = s.data.toList.length := Lib.size_eq s
 have hl := congrArg List.length hk
 rw [List.length_drop] at hl
 by_cases hc : i + k ≤ s.size
 ·rw [show s.size - r.length = i + k from by omega]
  exact hk
 ·rw [show r = [] from List.length_eq_zero_iff.1 (by omega)]
  symm
  exact List.drop_eq_nil_iff.2 (by simp only [List.length_nil]; omega)
set_option maxHeartbeats 8000000 in
set_option maxRecDepth 100000 in
theorem ts_read (s : ByteArray) (hm : s.size ≤ 1000) (n : Nat) : ∀ (i : Nat) (w : World), i ≤ s.size → s.size - i < n →
  Calls Try.prog 21 #[.string s, .int .i64 (i : Int)] w fun e w' => ts_out s w.heap.size w' (tp_rest n (s.data.toList.drop i)) (sr_tree n (s.data.toList.drop i)) e ∧ Below w.heap.size w w' := by
 induction n with
 | zero =>
  intro i w h1 h2
  omega
 | succ n ih =>
  intro i w hi hn
  have IH := Aside0.mk (show ∀ (j : Int) (i : Nat) (w : World), j = (i : Int) → i ≤ s.size → s.size - i < n →
   Calls Try.prog 21 #[.string s, .int .i64 j] w fun e w' => ts_out s w.heap.size w' (tp_rest n (s.data.toList.drop i)) (sr_tree n (s.data.toList.drop i)) e ∧ Below w.heap.size w w' from fun j i w hj h1 h2 => by subst hj; exact ih i w h1 h2)
  have hu_ := Try.underlying28
  have mixed : Try.prog.follows Departure.mixedOrders = true := by kernel_rfl
  clear ih
  match hl : s.data.toList.drop i with
  | [] =>
   have hz : i = s.size := by
    have h1 := congrArg List.length hl
    rw [List.length_drop] at h1
    have h2 : s.size = s.data.toList.length := Lib.size_eq s
    simp at h1
    omega
   subst hz
   clear hl hn
   go_enter Try.func21, Try.ntmps21
   go_wp2
   refine bodyPost_ret (results_ct rfl _ _ w.heap.size 28 #[.int .u8 ?_, .slice ?_ ?_ ?_] (0, 0) _ rfl ?_ hu_ rfl (by kernel_rfl)) rfl ?_
   rotate_left 4
   with_reducible repeat (first | exact blk_new _ _ | refine blk_alloc ?_ _ | refine blk_drewN ?_ _ | refine blk_drew ?_)
   refine ⟨ts_is ?_ rfl (row_nil (by with_reducible repeat (first | exact BE4.out | exact BE.out | exact ts_second _ _ _ _ | refine blk_alloc ?_ _ | refine blk_drewN ?_ _ | refine blk_drew ?_ | refine blk_off ?_ (Nat.succ_ne_self _) _)) (Nat.le_succ _)), by with_reducible repeat (first | exact Below.refl _ _ | apply below_alloc | apply pw_below_drewN | apply below_drew1)⟩
   rfl
  | c :: l =>
   have hlt : i < s.size := by
    have h1 := congrArg List.length hl
    rw [List.length_drop] at h1
    have h2 : s.size = s.data.toList.length := Lib.size_eq s
    simp at h1
    omega
   have hx : ((s[i]'hlt).toNat : Int) = (c.toNat : Int) := by
    have h3 : s.data.toList[i]'(by have h2 : s.size = s.data.toList.length := Lib.size_eq s; omega) = c := by
     have := List.getElem?_drop (xs := s.data.toList) (i := i) (j := 0)
     rw [hl] at this
     rw [Nat.add_zero] at this
     exact (List.getElem?_eq_some_iff.1 this.symm).2
    rw [← h3]
    rfl
   have hd : s.data.toList.drop (i + 1) = l := by
    rw [← List.drop_drop, hl]
    rfl
   have HD := Aside0.mk hd
   have HN : Aside0 (l.length + i + 1 = s.size) := by
    have h1 := congrArg List.length hl
    rw [List.length_drop] at h1
    have h2 : s.size = s.data.toList.length := Lib.size_eq s
    simp at h1
    exact ⟨by omega⟩
   have HL := Aside0.mk hl
   have hli : (i : Int) < (s.size : Int) := by omega
   have hsm : (s.size : Int) ≤ 1000 := by omega
   clear hl hd
   by_cases k1 : tp_leaf c = true
   ·have hr : tp_rest (n + 1) (c :: l) = some l := by
     rw [tp_rest, if_pos k1]
    rw [hr, show sr_tree (n + 1) (c :: l) = ⟨(c.toNat : Int), []⟩ from by rw [sr_tree, if_pos k1]]
    have hc : c = 48 ∨ c = 49 ∨ c = 97 := by
     unfold tp_leaf at k1
     simpa [or_assoc] using k1
    clear k1 hr
    rcases hc with rfl | rfl | rfl
    all_goals
     go_enter Try.func21, Try.ntmps21
     go_wp2
     refine bodyPost_ret (results_ct rfl _ _ w.heap.size 28 #[.int .u8 ?_, .slice ?_ ?_ ?_] (0, 0) _ rfl ?_ hu_ rfl (by kernel_rfl)) rfl ?_
     rotate_left 4
     with_reducible repeat (first | exact blk_new _ _ | refine blk_alloc ?_ _ | refine blk_drewN ?_ _ | refine blk_drew ?_)
     refine ⟨ts_is ?_ rfl (row_leaf _ _ _ _), by with_reducible repeat (first | exact Below.refl _ _ | apply below_alloc | apply pw_below_drewN | apply below_drew1)⟩
     simp only [ts_num]
     have := HN.out
     omega
   ·by_cases k2 : tp_one c = true
    ·have hr : tp_rest (n + 1) (c :: l) = tp_rest n l := by
      rw [tp_rest, if_neg k1, if_pos k2]
     rw [hr, show sr_tree (n + 1) (c :: l) = ⟨(c.toNat : Int), [sr_tree n l]⟩ from by rw [sr_tree, if_neg k1, if_pos k2]]
     have hc : c = 42 ∨ c = 50 ∨ c = 51 ∨ c = 52 ∨ c = 53 := by
      unfold tp_one at k2
      simp only [Bool.or_eq_true, beq_iff_eq, Bool.and_eq_true, decide_eq_true_eq] at k2
      rcases k2 with z | ⟨z1, z2⟩
      ·exact .inl z
      ·have : c.toNat = 50 ∨ c.toNat = 51 ∨ c.toNat = 52 ∨ c.toNat = 53 := by omega
       rcases this with z | z | z | z
       ·exact .inr (.inl (UInt8.toNat_inj.1 z))
       ·exact .inr (.inr (.inl (UInt8.toNat_inj.1 z)))
       ·exact .inr (.inr (.inr (.inl (UInt8.toNat_inj.1 z))))
       ·exact .inr (.inr (.inr (.inr (UInt8.toNat_inj.1 z))))
     clear k1 k2 hr
     rcases hc with rfl | rfl | rfl | rfl | rfl
     all_goals
      go_enter Try.func21, Try.ntmps21
      go_wp2_with fail
      refine (IH.out _ (i + 1) _ (by omega) (by omega) (by omega)).mono ?_
      rintro e W2 ⟨⟨x, A, m, ca, rfl, hxx, hR⟩, hb⟩
      rw [HD.out] at hxx hR ⊢
      have HXX := Aside0.mk hxx
      have HR2 := Aside0.mk (row_in (B' := w.heap.size) (N := W2.heap.size) hR (by simp only [size_alloc]; omega) (Nat.le_refl _))
      have BE := Aside0.mk (blk_below (ts_second _ _ _ _) hb)
      clear hxx hR
      have HB2 := Aside0.mk (below_step (w := w) (by with_reducible repeat (first | exact Below.refl _ _ | apply below_alloc | apply pw_below_drewN | apply below_drew1)) hb)
      obtain ⟨u, v, bk⟩ : ∃ u v, W2.heap[w.heap.size]? = some (.cells #[u, v] 28 (0, 0)) := by
       refine ⟨?_, ?_, ?_⟩
       rotate_left 2
       refine blk_below ?_ hb
       with_reducible repeat (first | exact blk_new _ _ | refine blk_alloc ?_ _ | refine blk_drewN ?_ _ | refine blk_drew ?_)
      have BK := Aside0.mk bk
      have cA : ∀ o1 o2 : Obj, ((W2.alloc o1).alloc o2).cell? ⟨w.heap.size, 0, none⟩ = some u := fun o1 o2 => (blk_cell (blk_alloc (blk_alloc BK.out o1) o2) 0).trans rfl
      have fA : ∀ o1 o2 : Obj, ((W2.alloc o1).alloc o2).frozen? ⟨w.heap.size, 0, none⟩ = false := fun o1 o2 => blk_frozen (blk_alloc (blk_alloc BK.out o1) o2) 0
      have cB : ∀ (o1 o2 : Obj) (y : Value), (((W2.alloc o1).alloc o2).setCell ⟨w.heap.size, 0, none⟩ y).cell? ⟨w.heap.size, 1, none⟩ = some v := fun o1 o2 y => (blk_cell (blk_set (blk_alloc (blk_alloc BK.out o1) o2) 0 y) 1).trans rfl
      have fB : ∀ (o1 o2 : Obj) (y : Value), (((W2.alloc o1).alloc o2).setCell ⟨w.heap.size, 0, none⟩ y).frozen? ⟨w.heap.size, 1, none⟩ = false := fun o1 o2 y => blk_frozen (blk_set (blk_alloc (blk_alloc BK.out o1) o2) 0 y) 1
      clear hb bk
      go_wp2
      refine bodyPost_ret (results_ct rfl _ _ w.heap.size 28 #[.int .u8 ?_, .slice ?_ ?_ ?_] (0, 0) _ rfl ?_ hu_ rfl (by kernel_rfl)) rfl ?_
      rotate_left 4
      with_reducible repeat (first | exact ts_blk (blk_alloc (blk_alloc BK.out _) _) _ _ | refine blk_alloc ?_ _ | refine blk_drewN ?_ _ | refine blk_drew ?_)
      exact ⟨ts_is rfl rfl (row_star HXX.out HR2.out (below_size HB2.out) _ _ _), by with_reducible repeat (first | exact HB2.out | apply below_alloc | apply pw_below_drewN | apply below_drew1 | refine below_set ?_ (Nat.le_refl _))⟩
    ·by_cases k3 : (c == 40) = true
     ·have hr : tp_rest (n + 1) (c :: l) = tp_two (tp_rest n) (tp_rest n l) := by
       rw [tp_rest, if_neg k1, if_neg k2, if_pos k3]
      rw [hr, show sr_tree (n + 1) (c :: l) = sr_t1 (sr_tree n) (tp_rest n) (sr_tree n l) (tp_rest n l) from by rw [sr_tree, if_neg k1, if_neg k2, if_pos k3]]
      obtain rfl : c = 40 := by simpa using k3
      clear k1 k2 k3 hr
      go_enter Try.func21, Try.ntmps21
      go_wp2_with fail
      refine (IH.out _ (i + 1) _ (by omega) (by omega) (by omega)).mono ?_
      rintro e W2 ⟨⟨x, A, m, ca, rfl, hxx, hR⟩, hb⟩
      rw [HD.out] at hxx hR ⊢
      have HXX := Aside0.mk hxx
      have HR2 := Aside0.mk (row_in (B' := w.heap.size) (N := W2.heap.size) hR (by simp only [size_alloc]; omega) (Nat.le_refl _))
      have BE := Aside0.mk (blk_below (ts_second _ _ _ _) hb)
      clear hxx hR
      have HB2 := Aside0.mk (below_step (w := w) (by with_reducible repeat (first | exact Below.refl _ _ | apply below_alloc | apply pw_below_drewN | apply below_drew1)) hb)
      obtain ⟨u, v, bk⟩ : ∃ u v, W2.heap[w.heap.size]? = some (.cells #[u, v] 28 (0, 0)) := by
       refine ⟨?_, ?_, ?_⟩
       rotate_left 2
       refine blk_below ?_ hb
       with_reducible repeat (first | exact blk_new _ _ | refine blk_alloc ?_ _ | refine blk_drewN ?_ _ | refine blk_drew ?_)
      have BK := Aside0.mk bk
      have cA : ∀ o1 : Obj, (W2.alloc o1).cell? ⟨w.heap.size, 0, none⟩ = some u := fun o1 => (blk_cell (blk_alloc BK.out o1) 0).trans rfl
      have fA : ∀ o1 : Obj, (W2.alloc o1).frozen? ⟨w.heap.size, 0, none⟩ = false := fun o1 => blk_frozen (blk_alloc BK.out o1) 0
      have cB : ∀ (o1 : Obj) (y : Value), ((W2.alloc o1).setCell ⟨w.heap.size, 0, none⟩ y).cell? ⟨w.heap.size, 1, none⟩ = some v := fun o1 y => (blk_cell (blk_set (blk_alloc BK.out o1) 0 y) 1).trans rfl
      have fB : ∀ (o1 : Obj) (y : Value), ((W2.alloc o1).setCell ⟨w.heap.size, 0, none⟩ y).frozen? ⟨w.heap.size, 1, none⟩ = false := fun o1 y => blk_frozen (blk_set (blk_alloc BK.out o1) 0 y) 1
      have bn : W2.heap[w.heap.size + 1 + 1]? = some (.cells #[.int .u8 48, .slice (some ⟨w.heap.size + 1, 0, none⟩) 0 0] 28 (0, 0)) := blk_below (ts_third _ _ _ _) hb
      have BN := Aside0.mk bn
      have cN : ∀ o1 : Obj, (W2.alloc o1).cell? ⟨w.heap.size + 1 + 1, 0, none⟩ = some (.int .u8 48) := fun o1 => (blk_cell (blk_alloc BN.out o1) 0).trans rfl
      have cM : ∀ o1 : Obj, (W2.alloc o1).cell? ⟨w.heap.size + 1 + 1, 1, none⟩ = some (.slice (some ⟨w.heap.size + 1, 0, none⟩) 0 0) := fun o1 => (blk_cell (blk_alloc BN.out o1) 1).trans rfl
      clear hb bk bn
      cases hq : tp_rest n l with
      | none =>
       have HQ := Aside0.mk hq
       clear hq
       simp only [ts_num]
       go_wp2
       refine bodyPost_ret (results_ct rfl _ _ w.heap.size 28 #[.int .u8 ?_, .slice ?_ ?_ ?_] (0, 0) _ rfl ?_ hu_ rfl (by kernel_rfl)) rfl ?_
       rotate_left 4
       with_reducible repeat (first | exact ts_blk (blk_alloc BK.out _) _ _ | refine blk_alloc ?_ _ | refine blk_drewN ?_ _ | refine blk_drew ?_)
       rw [HQ.out]
       exact ⟨ts_is rfl rfl (row_nil (by with_reducible repeat (first | exact BE4.out | exact BE.out | exact ts_second _ _ _ _ | refine blk_alloc ?_ _ | refine blk_drewN ?_ _ | refine blk_drew ?_ | refine blk_off ?_ (Nat.succ_ne_self _) _)) (Nat.le_succ _)), by with_reducible repeat (first | exact HB2.out | apply below_alloc | apply pw_below_drewN | apply below_drew1 | refine below_set ?_ (Nat.le_refl _))⟩
      | some r =>
       have HQ := Aside0.mk hq
       have hp := hq
       rw [← HD.out] at hp
       have hpl := ts_place hp
       clear hp
       have hlen := tp_len n _ _ HQ.out
       have hln := HN.out
       clear hq
       simp only [ts_num]
       obtain ⟨M, hM⟩ : ∃ M, M = s.size - r.length := ⟨_, rfl⟩
       rw [← hM] at hpl ⊢
       have hM0 : 0 < M := by omega
       have hMs : M ≤ s.size := by omega
       have HH := Aside0.mk hM
       clear hM hln
       have hMi : (((M : Nat) : Int) == 0) = false := beq_eq_false_iff_ne.2 (by omega)
       match hr : r, hpl with
       | [], hpl =>
        have hMe : (s.size : Int) ≤ (M : Int) := by
         have h2 : s.size = s.data.toList.length := Lib.size_eq s
         have h3 := List.drop_eq_nil_iff.1 hpl.symm
         rw [← h2] at h3
         omega
        clear hpl
        go_wp2
        refine bodyPost_ret (results_ct rfl _ _ w.heap.size 28 #[.int .u8 ?_, .slice ?_ ?_ ?_] (0, 0) _ rfl ?_ hu_ rfl (by kernel_rfl)) rfl ?_
        rotate_left 4
        with_reducible repeat (first | exact ts_blk (blk_alloc BK.out _) _ _ | refine blk_alloc ?_ _ | refine blk_drewN ?_ _ | refine blk_drew ?_)
        rw [HQ.out]
        exact ⟨ts_is rfl rfl (row_nil (by with_reducible repeat (first | exact BE4.out | exact BE.out | exact ts_second _ _ _ _ | refine blk_alloc ?_ _ | refine blk_drewN ?_ _ | refine blk_drew ?_ | refine blk_off ?_ (Nat.succ_ne_self _) _)) (Nat.le_succ _)), by with_reducible repeat (first | exact HB2.out | apply below_alloc | apply pw_below_drewN | apply below_drew1 | refine below_set ?_ (Nat.le_refl _))⟩
       | d :: r, hpl =>
        obtain ⟨hlt, hdx, hdn, hdd⟩ := ts_at hpl.symm
        have HDD := Aside0.mk hdd
        have hlt2 : (M : Int) < (s.size : Int) := by omega
        have hlt3 : ((s.size : Int) ≤ (M : Int)) = False := eq_false (by omega)
        clear hpl hdd hr
        by_cases hop : tp_op d = true
        ·have RT : tp_two (tp_rest n) (tp_rest n l) = tp_last (tp_rest n r) := by
          rw [HQ.out, tp_two, if_pos hop]
         have RTT : Aside0 (sr_t1 (sr_tree n) (tp_rest n) (sr_tree n l) (tp_rest n l) = sr_t2 d (sr_tree n l) (sr_tree n r) (tp_rest n r)) := ⟨by rw [HQ.out, sr_t1, if_pos hop]⟩
         have RT0 := Aside0.mk RT
         have hc : d = 43 ∨ d = 46 ∨ d = 38 := by
          unfold tp_op at hop
          simpa [or_assoc] using hop
         clear RT hop
         rcases hc with rfl | rfl | rfl
         all_goals
          go_wp2_with fail
          refine (IH.out _ (M + 1) _ (by omega) (by omega) (by have := HN.out; rw [List.length_cons] at hlen; omega)).mono ?_
          rintro e W4 ⟨⟨x4, A4, m4, ca4, rfl, hxx, hR⟩, hb⟩
          rw [HDD.out] at hxx hR ⊢
          have HXX4 := Aside0.mk hxx
          have HS2 := Aside0.mk (below_size HB2.out)
          have HR4 := Aside0.mk (row_in (B' := w.heap.size) (N := W4.heap.size) hR (by have := HS2.out; simp only [size_alloc]; omega) (Nat.le_refl _))
          have HR24 := Aside0.mk (Kd.R_below (Kd.R_alloc HR2.out _) hb)
          have HN24 : Aside0 (W2.heap.size < W4.heap.size) := ⟨by have := below_size hb; simp only [size_alloc] at this; omega⟩
          have BE4 := Aside0.mk (blk_below (blk_alloc BE.out _) hb)
          clear hxx hR
          have HB4 := Aside0.mk (below_step (w := w) (by with_reducible repeat (first | exact HB2.out | apply below_alloc | apply pw_below_drewN | apply below_drew1)) hb)
          have BK4 : Aside0 (W4.heap[w.heap.size]? = some (.cells #[u, v] 28 (0, 0))) := ⟨blk_below (blk_alloc BK.out _) hb⟩
          have BN4 : Aside0 (W4.heap[w.heap.size + 1 + 1]? = some (.cells #[.int .u8 48, .slice (some ⟨w.heap.size + 1, 0, none⟩) 0 0] 28 (0, 0))) := ⟨blk_below (blk_alloc BN.out _) hb⟩
          have BC4 : Aside0 (W4.heap[W2.heap.size]? = some (.cells #[.int .u8 x, .slice A m ca] 28 (0, 0))) := ⟨blk_below (blk_new _ _) hb⟩
          clear hb cA fA cB fB cN cM
          have cAW41 : ∀ o1 : Obj, ((W4).alloc o1).cell? ⟨w.heap.size, 0, none⟩ = some u := fun o1 => (blk_cell (blk_alloc (BK4.out) o1) 0).trans rfl
          have fAW41 : ∀ o1 : Obj, ((W4).alloc o1).frozen? ⟨w.heap.size, 0, none⟩ = false := fun o1 => blk_frozen (blk_alloc (BK4.out) o1) 0
          have cBW41 : ∀ o1 : Obj, ∀ y : Value, (((W4).alloc o1).setCell ⟨w.heap.size, 0, none⟩ y).cell? ⟨w.heap.size, 1, none⟩ = some v := fun o1 y => (blk_cell (blk_set (blk_alloc (BK4.out) o1) 0 y) 1).trans rfl
          have fBW41 : ∀ o1 : Obj, ∀ y : Value, (((W4).alloc o1).setCell ⟨w.heap.size, 0, none⟩ y).frozen? ⟨w.heap.size, 1, none⟩ = false := fun o1 y => blk_frozen (blk_set (blk_alloc (BK4.out) o1) 0 y) 1
          have cNW41 : ∀ o1 : Obj, ((W4).alloc o1).cell? ⟨w.heap.size + 1 + 1, 0, none⟩ = some (.int .u8 48) := fun o1 => (blk_cell (blk_alloc (BN4.out) o1) 0).trans rfl
          have cMW41 : ∀ o1 : Obj, ((W4).alloc o1).cell? ⟨w.heap.size + 1 + 1, 1, none⟩ = some (.slice (some ⟨w.heap.size + 1, 0, none⟩) 0 0) := fun o1 => (blk_cell (blk_alloc (BN4.out) o1) 1).trans rfl
          have cAW42 : ∀ o1 o2 : Obj, (((W4).alloc o1).alloc o2).cell? ⟨w.heap.size, 0, none⟩ = some u := fun o1 o2 => (blk_cell (blk_alloc (blk_alloc (BK4.out) o1) o2) 0).trans rfl
          have fAW42 : ∀ o1 o2 : Obj, (((W4).alloc o1).alloc o2).frozen? ⟨w.heap.size, 0, none⟩ = false := fun o1 o2 => blk_frozen (blk_alloc (blk_alloc (BK4.out) o1) o2) 0
          have cBW42 : ∀ o1 o2 : Obj, ∀ y : Value, ((((W4).alloc o1).alloc o2).setCell ⟨w.heap.size, 0, none⟩ y).cell? ⟨w.heap.size, 1, none⟩ = some v := fun o1 o2 y => (blk_cell (blk_set (blk_alloc (blk_alloc (BK4.out) o1) o2) 0 y) 1).trans rfl
          have fBW42 : ∀ o1 o2 : Obj, ∀ y : Value, ((((W4).alloc o1).alloc o2).setCell ⟨w.heap.size, 0, none⟩ y).frozen? ⟨w.heap.size, 1, none⟩ = false := fun o1 o2 y => blk_frozen (blk_set (blk_alloc (blk_alloc (BK4.out) o1) o2) 0 y) 1
          have cAW43 : ∀ o1 o2 o3 : Obj, ((((W4).alloc o1).alloc o2).alloc o3).cell? ⟨w.heap.size, 0, none⟩ = some u := fun o1 o2 o3 => (blk_cell (blk_alloc (blk_alloc (blk_alloc (BK4.out) o1) o2) o3) 0).trans rfl
          have fAW43 : ∀ o1 o2 o3 : Obj, ((((W4).alloc o1).alloc o2).alloc o3).frozen? ⟨w.heap.size, 0, none⟩ = false := fun o1 o2 o3 => blk_frozen (blk_alloc (blk_alloc (blk_alloc (BK4.out) o1) o2) o3) 0
          have cBW43 : ∀ o1 o2 o3 : Obj, ∀ y : Value, (((((W4).alloc o1).alloc o2).alloc o3).setCell ⟨w.heap.size, 0, none⟩ y).cell? ⟨w.heap.size, 1, none⟩ = some v := fun o1 o2 o3 y => (blk_cell (blk_set (blk_alloc (blk_alloc (blk_alloc (BK4.out) o1) o2) o3) 0 y) 1).trans rfl
          have fBW43 : ∀ o1 o2 o3 : Obj, ∀ y : Value, (((((W4).alloc o1).alloc o2).alloc o3).setCell ⟨w.heap.size, 0, none⟩ y).frozen? ⟨w.heap.size, 1, none⟩ = false := fun o1 o2 o3 y => blk_frozen (blk_set (blk_alloc (blk_alloc (blk_alloc (BK4.out) o1) o2) o3) 0 y) 1
          have cC : ∀ o1 : Obj, (W4.alloc o1).cell? ⟨W2.heap.size, 0, none⟩ = some (.int .u8 x) := fun o1 => (blk_cell (blk_alloc BC4.out o1) 0).trans rfl
          have cD : ∀ o1 : Obj, (W4.alloc o1).cell? ⟨W2.heap.size, 1, none⟩ = some (.slice A m ca) := fun o1 => (blk_cell (blk_alloc BC4.out o1) 1).trans rfl
          cases hq2 : tp_rest n r with
          | none =>
           have HQ2 := Aside0.mk hq2
           clear hq2
           simp only [ts_num]
           go_wp2
           refine bodyPost_ret (results_ct rfl _ _ w.heap.size 28 #[.int .u8 ?_, .slice ?_ ?_ ?_] (0, 0) _ rfl ?_ hu_ rfl (by kernel_rfl)) rfl ?_
           rotate_left 4
           with_reducible repeat (first | exact ts_blk (blk_alloc BK4.out _) _ _ | refine blk_alloc ?_ _ | refine blk_drewN ?_ _ | refine blk_drew ?_)
           rw [RT0.out, RTT.out, HQ2.out]
           exact ⟨ts_is rfl rfl (row_nil (by with_reducible repeat (first | exact BE4.out | exact BE.out | exact ts_second _ _ _ _ | refine blk_alloc ?_ _ | refine blk_drewN ?_ _ | refine blk_drew ?_ | refine blk_off ?_ (Nat.succ_ne_self _) _)) (Nat.le_succ _)), by with_reducible repeat (first | exact HB4.out | apply below_alloc | apply pw_below_drewN | apply below_drew1 | refine below_set ?_ (Nat.le_refl _))⟩
          | some r2 =>
           have HQ2 := Aside0.mk hq2
           have hp := hq2
           rw [← HDD.out] at hp
           have hpl := ts_place hp
           clear hp
           have hlen2 := tp_len n _ _ HQ2.out
           clear hq2
           simp only [ts_num]
           obtain ⟨E, hE⟩ : ∃ E, E = s.size - r2.length := ⟨_, rfl⟩
           rw [← hE] at hpl ⊢
           have hE0 : 0 < E := by omega
           have hEs : E ≤ s.size := by omega
           have HE := Aside0.mk hE
           clear hE hdn
           have hEi : (((E : Nat) : Int) == 0) = false := beq_eq_false_iff_ne.2 (by omega)
           match hr2 : r2, hpl with
           | [], hpl =>
            have hEe : (s.size : Int) ≤ (E : Int) := by
             have h2 : s.size = s.data.toList.length := Lib.size_eq s
             have h3 := List.drop_eq_nil_iff.1 hpl.symm
             rw [← h2] at h3
             omega
            clear hpl
            go_wp2
            refine bodyPost_ret (results_ct rfl _ _ w.heap.size 28 #[.int .u8 ?_, .slice ?_ ?_ ?_] (0, 0) _ rfl ?_ hu_ rfl (by kernel_rfl)) rfl ?_
            rotate_left 4
            with_reducible repeat (first | exact ts_blk (blk_alloc BK4.out _) _ _ | refine blk_alloc ?_ _ | refine blk_drewN ?_ _ | refine blk_drew ?_)
            rw [RT0.out, RTT.out, HQ2.out]
            exact ⟨ts_is rfl rfl (row_nil (by with_reducible repeat (first | exact BE4.out | exact BE.out | exact ts_second _ _ _ _ | refine blk_alloc ?_ _ | refine blk_drewN ?_ _ | refine blk_drew ?_ | refine blk_off ?_ (Nat.succ_ne_self _) _)) (Nat.le_succ _)), by with_reducible repeat (first | exact HB4.out | apply below_alloc | apply pw_below_drewN | apply below_drew1 | refine below_set ?_ (Nat.le_refl _))⟩
           | f :: r2, hpl =>
            obtain ⟨helt, hex, hen, hee⟩ := ts_at hpl.symm
            have HN2 := Aside0.mk hen
            have helt2 : (E : Int) < (s.size : Int) := by omega
            clear hpl hr2 hee hen
            by_cases hf : (f == 41) = true
            ·obtain rfl : f = 41 := by simpa using hf
             clear hf
             go_wp2
             go_region_o
             all_goals
              go_wp2
              refine bodyPost_ret (results_ct rfl _ _ w.heap.size 28 #[.int .u8 ?_, .slice ?_ ?_ ?_] (0, 0) _ rfl ?_ hu_ rfl (by kernel_rfl)) rfl ?_
              rotate_left 4
              with_reducible repeat (first | exact ts_blk (blk_alloc (blk_alloc BK4.out _) _) _ _ | refine blk_alloc ?_ _ | refine blk_drewN ?_ _ | refine blk_drew ?_)
              rw [RT0.out, RTT.out, HQ2.out, tp_last, sr_t2, if_pos (show ((41 : UInt8) == 41) = true from rfl), if_pos (show ((41 : UInt8) == 41) = true from rfl)]
              refine ⟨ts_is (by have := HN2.out; simp only [ts_num]; omega) rfl (by with_reducible repeat (first | exact row_pair HXX.out HXX4.out HR24.out HN24.out HR4.out HS2.out _ _ _ | refine Kd.R_drewN ?_ _ | refine Kd.R_drew ?_)), by with_reducible repeat (first | exact HB4.out | apply below_alloc | apply pw_below_drewN | apply below_drew1 | refine below_set ?_ (Nat.le_refl _))⟩
            ·have RT2 : tp_two (tp_rest n) (tp_rest n l) = none := by
              rw [RT0.out, HQ2.out, tp_last, if_neg hf]
             have RTT2 : Aside0 (sr_t1 (sr_tree n) (tp_rest n) (sr_tree n l) (tp_rest n l) = sr_none) := ⟨by rw [RTT.out, HQ2.out, sr_t2, if_neg hf]⟩
             have RT20 := Aside0.mk RT2
             have e1 : ((f.toNat : Int) == 41) = false := beq_eq_false_iff_ne.2 (fun e => hf (by rw [show f = 41 from UInt8.toNat_inj.1 (Int.ofNat.inj e)]; rfl))
             obtain ⟨dn, hdn⟩ : ∃ dn : Int, (f.toNat : Int) = dn := ⟨_, rfl⟩
             rw [hdn] at hex e1
             have g1 : (dn != 41) = true := by rw [bne, e1]; rfl
             clear hdn e1 hf RT2
             go_wp2
             refine bodyPost_ret (results_ct rfl _ _ w.heap.size 28 #[.int .u8 ?_, .slice ?_ ?_ ?_] (0, 0) _ rfl ?_ hu_ rfl (by kernel_rfl)) rfl ?_
             rotate_left 4
             with_reducible repeat (first | exact ts_blk (blk_alloc BK4.out _) _ _ | refine blk_alloc ?_ _ | refine blk_drewN ?_ _ | refine blk_drew ?_)
             rw [RT20.out, RTT2.out]
             exact ⟨ts_is rfl rfl (row_nil (by with_reducible repeat (first | exact BE4.out | exact BE.out | exact ts_second _ _ _ _ | refine blk_alloc ?_ _ | refine blk_drewN ?_ _ | refine blk_drew ?_ | refine blk_off ?_ (Nat.succ_ne_self _) _)) (Nat.le_succ _)), by with_reducible repeat (first | exact HB4.out | apply below_alloc | apply pw_below_drewN | apply below_drew1 | refine below_set ?_ (Nat.le_refl _))⟩
        ·have RT : tp_two (tp_rest n) (tp_rest n l) = none := by
          rw [HQ.out, tp_two, if_neg hop]
         have RTT : Aside0 (sr_t1 (sr_tree n) (tp_rest n) (sr_tree n l) (tp_rest n l) = sr_none) := ⟨by rw [HQ.out, sr_t1, if_neg hop]⟩
         have RT0 := Aside0.mk RT
         have ne : ∀ x : UInt8, x ≠ d → ((d.toNat : Int) ≠ (x.toNat : Int)) := fun x hx e => hx (UInt8.toNat_inj.1 (by omega))
         have e1 : ((d.toNat : Int) == 43) = false := beq_eq_false_iff_ne.2 (ne 43 (by rintro rfl; exact hop rfl))
         have e2 : ((d.toNat : Int) == 46) = false := beq_eq_false_iff_ne.2 (ne 46 (by rintro rfl; exact hop rfl))
         have e3 : ((d.toNat : Int) == 38) = false := beq_eq_false_iff_ne.2 (ne 38 (by rintro rfl; exact hop rfl))
         clear RT hop ne
         obtain ⟨dn, hdn⟩ : ∃ dn : Int, (d.toNat : Int) = dn := ⟨_, rfl⟩
         rw [hdn] at hdx e1 e2 e3
         have g1 : (dn != 43) = true := by rw [bne, e1]; rfl
         have g2 : (dn != 46) = true := by rw [bne, e2]; rfl
         have g3 : (dn != 38) = true := by rw [bne, e3]; rfl
         clear hdn e1 e2 e3 hlt3
         go_wp2
         refine bodyPost_ret (results_ct rfl _ _ w.heap.size 28 #[.int .u8 ?_, .slice ?_ ?_ ?_] (0, 0) _ rfl ?_ hu_ rfl (by kernel_rfl)) rfl ?_
         rotate_left 4
         with_reducible repeat (first | exact ts_blk (blk_alloc BK.out _) _ _ | refine blk_alloc ?_ _ | refine blk_drewN ?_ _ | refine blk_drew ?_)
         rw [RT0.out, RTT.out]
         exact ⟨ts_is rfl rfl (row_nil (by with_reducible repeat (first | exact BE4.out | exact BE.out | exact ts_second _ _ _ _ | refine blk_alloc ?_ _ | refine blk_drewN ?_ _ | refine blk_drew ?_ | refine blk_off ?_ (Nat.succ_ne_self _) _)) (Nat.le_succ _)), by with_reducible repeat (first | exact HB2.out | apply below_alloc | apply pw_below_drewN | apply below_drew1 | refine below_set ?_ (Nat.le_refl _))⟩
     ·have hr : tp_rest (n + 1) (c :: l) = none := by
       rw [tp_rest, if_neg k1, if_neg k2, if_neg k3]
      rw [hr, show sr_tree (n + 1) (c :: l) = sr_none from by rw [sr_tree, if_neg k1, if_neg k2, if_neg k3]]
      have ne : ∀ x : UInt8, x ≠ c → ((c.toNat : Int) ≠ (x.toNat : Int)) := fun x hx e => hx (UInt8.toNat_inj.1 (by omega))
      have e1 : ((c.toNat : Int) == 48) = false := beq_eq_false_iff_ne.2 (ne 48 (by rintro rfl; exact k1 rfl))
      have e2 : ((c.toNat : Int) == 49) = false := beq_eq_false_iff_ne.2 (ne 49 (by rintro rfl; exact k1 rfl))
      have e3 : ((c.toNat : Int) == 97) = false := beq_eq_false_iff_ne.2 (ne 97 (by rintro rfl; exact k1 rfl))
      have e4 : ((c.toNat : Int) == 42) = false := beq_eq_false_iff_ne.2 (ne 42 (by rintro rfl; exact k2 rfl))
      have e5 : ((c.toNat : Int) == 40) = false := beq_eq_false_iff_ne.2 (ne 40 (by rintro rfl; exact k3 rfl))
      have e6 : ¬ (50 ≤ (c.toNat : Int) ∧ (c.toNat : Int) ≤ 53) := by
       rintro ⟨z1, z2⟩
       exact k2 (by unfold tp_one; rw [decide_eq_true (show c.toNat ≤ 53 by omega), (show decide (50 ≤ c.toNat) = true from decide_eq_true (by omega))]; simp)
      obtain ⟨dn, hdn⟩ : ∃ dn : Int, (c.toNat : Int) = dn := ⟨_, rfl⟩
      rw [hdn] at hx e1 e2 e3 e4 e5 e6
      have g5 : (dn != 40) = true := by rw [bne, e5]; rfl
      have e7 : (dn ≥ 50 ∧ dn ≤ 53) = False := eq_false (fun z => e6 z)
      clear k1 k2 k3 hr ne hdn
      go_enter Try.func21, Try.ntmps21
      go_wp2
      all_goals first | omega | skip
      all_goals
       refine bodyPost_ret (results_ct rfl _ _ w.heap.size 28 #[.int .u8 ?_, .slice ?_ ?_ ?_] (0, 0) _ rfl ?_ hu_ rfl (by kernel_rfl)) rfl ?_
       rotate_left 4
       with_reducible repeat (first | exact blk_new _ _ | refine blk_alloc ?_ _ | refine blk_drewN ?_ _ | refine blk_drew ?_)
       skip
       exact ⟨ts_is rfl rfl (row_nil (by with_reducible repeat (first | exact BE4.out | exact BE.out | exact ts_second _ _ _ _ | refine blk_alloc ?_ _ | refine blk_drewN ?_ _ | refine blk_drew ?_ | refine blk_off ?_ (Nat.succ_ne_self _) _)) (Nat.le_succ _)), by with_reducible repeat (first | exact Below.refl _ _ | apply below_alloc | apply pw_below_drewN | apply below_drew1 | refine below_set ?_ (Nat.le_refl _))⟩
end X
def spec_l7Read.f (a0 : ByteArray) (a1 : Int) : Option (Int × List S28 × Int) := if a0.size ≤ 60 ∧ 0 ≤ a1 ∧ a1 ≤ (a0.size : Int) then some ((X.sr_tree 61 (a0.data.toList.drop a1.toNat)).f0, (X.sr_tree 61 (a0.data.toList.drop a1.toNat)).f1, X.ts_num a0 (X.tp_rest 61 (a0.data.toList.drop a1.toNat))) else none
theorem spec_l7Read.calls (a0 : ByteArray) (a1 : Int) (r1_0 : Int) (r1_1 : List S28) (r2 : Int) (w : World) (h : spec_l7Read.f a0 a1 = some (r1_0, r1_1, r2)) :
  Calls Try.prog 21 #[.string a0, .int .i64 a1] w fun e w' => ∃ v1_1, e = .returned (.tuple #[.agg #[.int .u8 r1_0, v1_1], .int .i64 r2]) ∧ Kd.R k28 28 w' w.heap.size (fun _ => True) v1_1 r1_1 ∧ Below w.heap.size w w' := by
 unfold spec_l7Read.f at h
 by_cases hc : a0.size ≤ 60 ∧ 0 ≤ a1 ∧ a1 ≤ (a0.size : Int)
 ·rw [if_pos hc] at h
  have h2 := Option.some.inj h
  obtain ⟨h3, h4⟩ := Prod.mk.inj h2
  obtain ⟨h4, h5⟩ := Prod.mk.inj h4
  obtain ⟨i, rfl⟩ := Int.eq_ofNat_of_zero_le hc.2.1
  rw [Int.toNat_natCast] at h3 h4 h5
  refine (X.ts_read a0 (by omega) 61 i w (by omega) (by omega)).mono ?_
  rintro e w' ⟨⟨x, A, n, c, rfl, hx, hr⟩, hb⟩
  subst hx
  rw [h5, h3]
  rw [h4] at hr
  exact ⟨_, rfl, hr, hb⟩
 ·rw [if_neg hc] at h
  cases h

end Go.Proofs.Ytijmkmbepjjphaa.G
