-- Made by gprint.py (the kit's print with contracts of this session's own among its functions).
import Derived.Test.YtdiaifmlockohaaG0
namespace Go.Proofs.Ytdiaifmlockohaa.G
open Go.RowKit Go.Proofs.YtdiaifmlockohaaW.PrintWords Go.Proofs.YtdiaifmlockohaaW.PrintLast Go.Proofs.YtdiaifmlockohaaW.PrintMore
attribute [local go_sem] max2_int min2_int max_two min_two max_three min_three max_four min_four   -- for this text's walks alone
set_option linter.unusedVariables false
set_option linter.unusedSimpArgs false

/-! ### impl_moving: function 23 -/
set_option maxHeartbeats 2000000 in
theorem mv_zero (a b : Int) (w : World) :
  Calls Try.prog 38 #[.agg #[.int .i64 a, .int .i64 b]] w fun e w' => e = .returned (.bool (b == 0)) ∧ Below w.heap.size w w' := by
 have hu := Try.underlying42
 go_enter Try.func38, Try.ntmps38
 go_wp2
 go_ret
 exact ⟨rfl, below_alloc (Below.refl _ _) _⟩
/-- The first row whose step is 0, from place j on. -/
def fz : List S42 → Nat → Int
 | [], _ => -1
 | x :: l, j => if x.f1 = 0 then (j : Int) else fz l (j + 1)
/-- Row q of a block's cells. -/
def Has (cs : Array Value) (q : Nat) (x : S42) : Prop := cs[q * 2]? = some (.int .i64 x.f0) ∧ cs[q * 2 + 1]? = some (.int .i64 x.f1)
def HasAll (cs : Array Value) (xs : List S42) : Prop := ∀ q x, xs[q]? = some x → Has cs q x
theorem has_at {W : World} {g : Nat} {cs : Array Value} {q : Nat} {x : S42} (hb : W.heap[g]? = some (.cells cs 42 (0, 0))) (h : Has cs q x) : W.cell? ⟨g, q * 2, none⟩ = some (.int .i64 x.f0) ∧ W.cell? ⟨g, q * 2 + 1, none⟩ = some (.int .i64 x.f1) :=
 ⟨(blk_cell hb _).trans h.1, (blk_cell hb _).trans h.2⟩
set_option maxRecDepth 100000 in
set_option maxHeartbeats 2000000 in
theorem ix_zero (g c : Nat) (xs : List S42) (w : World) (cs : Array Value) (hm : xs.length ≤ 1000000000) (hbk : w.heap[g]? = some (.cells cs 42 (0, 0))) (hx : HasAll cs xs) :
  Calls Try.prog 44 #[.slice (some ⟨g, 0, none⟩) xs.length c, .func (.func 38) #[] #[]] w fun e w' => e = .returned (.int .i64 (fz xs 0)) ∧ Below w.heap.size w w' := by
 have hu := Try.underlying42
 have HR := Aside0.mk hx
 have BK := Aside0.mk hbk
 clear hx hbk
 obtain ⟨n, hn⟩ : ∃ n, xs.length = n := ⟨_, rfl⟩
 rw [hn] at hm ⊢
 have HN := Aside0.mk hn
 clear hn
 go_enter Try.func44, Try.ntmps44
 go_wp2
 go_loopw [5, 8] (fun _ i wr => ∃ k : Nat, k ≤ n ∧ i = .int .i64 k ∧ fz (xs.drop k) k = fz xs 0 ∧ Below w.heap.size w wr) (fun _ i _ => n - (intOf i).toNat)
 case atStart => exact ⟨0, Nat.zero_le _, rfl, rfl, Below.refl _ _⟩
 case round =>
  obtain ⟨k, hk, rfl, hf, hb⟩ := hrel
  by_cases hlt : k < n
  ·have HF := Aside0.mk hf
   clear hf
   obtain ⟨x, hx, hd⟩ : ∃ x, xs[k]? = some x ∧ xs.drop k = x :: xs.drop (k + 1) := by
    have hk2 : k < xs.length := by rw [HN.out]; exact hlt
    exact ⟨xs[k], List.getElem?_eq_getElem hk2, List.drop_eq_getElem_cons hk2⟩
   obtain ⟨q0, q1⟩ := has_at (blk_below BK.out hb) (HR.out k x hx)
   have HD := Aside0.mk hd
   have HB := Aside0.mk hb
   clear hb hx hd
   by_cases hz : x.f1 = 0
   ·have hz1 : (x.f1 == 0) = true := beq_iff_eq.2 hz
    go_wp2_with (go_at_call 38; refine (mv_zero _ _ _).mono ?_; rintro e w' ⟨rfl, hb2⟩)
    go_ret
    exact ⟨by rw [← HF.out, HD.out, fz, if_pos hz]; rfl, below_step HB.out hb2⟩
   ·have hz1 : (x.f1 == 0) = false := beq_eq_false_iff_ne.2 hz
    go_wp2_with (go_at_call 38; refine (mv_zero _ _ _).mono ?_; rintro e w' ⟨rfl, hb2⟩)
    go_roundw
    case rel => exact ⟨k + 1, by omega, by go_num, by rw [← HF.out, HD.out, fz, if_neg hz], below_step HB.out hb2⟩
    case measure => simp [intOf]; omega
  ·obtain rfl : k = n := by omega
   have HF := Aside0.mk hf
   clear hf
   go_wp2
   go_ret
   exact ⟨by rw [← HF.out, List.drop_of_length_le (by rw [HN.out]; omega), fz]; rfl, hb⟩
def keep (xs : List S42) : List S42 := xs.filter (fun x => x.f1 != 0)
theorem fz_none : ∀ (xs : List S42) (j : Nat), fz xs j = -1 → keep xs = xs
 | [], _, _ => rfl
 | x :: l, j, h => by
  rw [fz] at h
  by_cases c : x.f1 = 0
  ·rw [if_pos c] at h
   omega
  ·rw [if_neg c] at h
   unfold keep at *
   rw [List.filter_cons_of_pos (by simpa using c)]
   exact congrArg _ (fz_none l (j + 1) h)
theorem fz_some : ∀ (xs : List S42) (j : Nat), fz xs j ≠ -1 → ∃ i, fz xs j = ((j + i : Nat) : Int) ∧ i < xs.length ∧ keep (xs.take (i + 1)) = xs.take i
 | [], _, h => absurd rfl h
 | x :: l, j, h => by
  rw [fz] at h ⊢
  by_cases c : x.f1 = 0
  ·rw [if_pos c]
   refine ⟨0, by simp, by simp, ?_⟩
   unfold keep
   simp [c]
  ·rw [if_neg c] at h ⊢
   obtain ⟨i, h1, h2, h3⟩ := fz_some l (j + 1) h
   refine ⟨i + 1, by rw [h1]; omega, by simpa using h2, ?_⟩
   unfold keep at *
   rw [List.take_succ_cons, List.take_succ_cons, List.filter_cons_of_pos (by simpa using c), h3]
theorem keep_len (xs : List S42) : (keep xs).length ≤ xs.length := List.length_filter_le _ _
theorem has_set {cs : Array Value} {i q : Nat} {x y : S42} (hi : i * 2 + 1 < cs.size) (h : if q = i then y = x else Has cs q y) : Has ((cs.setIfInBounds (i * 2) (.int .i64 x.f0)).setIfInBounds (i * 2 + 1) (.int .i64 x.f1)) q y := by
 unfold Has
 by_cases c : q = i
 ·rw [if_pos c] at h
  subst h c
  constructor
  ·rw [Array.getElem?_setIfInBounds_ne (by omega), Array.getElem?_setIfInBounds_self_of_lt (by omega)]
  ·rw [Array.getElem?_setIfInBounds_self_of_lt (by simpa using hi)]
 ·rw [if_neg c] at h
  obtain ⟨h1, h2⟩ := h
  constructor
  ·rw [Array.getElem?_setIfInBounds_ne (by omega), Array.getElem?_setIfInBounds_ne (by omega), h1]
  ·rw [Array.getElem?_setIfInBounds_ne (by omega), Array.getElem?_setIfInBounds_ne (by omega), h2]
theorem zero_cells (n : Nat) : (Builtin.zeroCells #[.int .i64 0, .int .i64 0] n).toList = List.replicate (n * 2) (.int .i64 0) := by
 simp only [Builtin.zeroCells]
 apply List.ext_getElem
 ·simp
 ·intro i h1 h2
  have : i % 2 = 0 ∨ i % 2 = 1 := by omega
  simp
  rcases this with h | h <;> simp [h]
theorem clear_rows (W : World) (ty : TypeId) (g o n c : Nat) (hn : 0 < n) (hc : ∀ j, j < n * 2 → (W.cell? ⟨g, o + j, none⟩).isSome = true) (hf : ∀ j, j < n * 2 → W.frozen? ⟨g, o + j, none⟩ = false) :
  (Builtin.clear_ #[37] ty #[.slice (some ⟨g, o, none⟩) n c]).run Try.prog W = .ok (.tuple #[]) (W.setCells g o (List.replicate (n * 2) (.int .i64 0))) := by
 have hst := run_storeCells_cells (P := Try.prog) g o (List.replicate (n * 2) (.int .i64 0)) 0 W (by simpa using hc) (by simpa using hf) (by intro v hv'; rw [List.eq_of_mem_replicate hv']; rfl)
 have hv : ∀ w, (zeroValue 42).run Try.prog w = .ok (.agg #[.int .i64 0, .int .i64 0]) w := fun w => by kernel_rfl
 have hzc := zero_cells n
 simp only [Nat.add_zero] at hst
 obtain ⟨m, rfl⟩ : ∃ m, n = m + 1 := ⟨n - 1, by omega⟩
 simp [Builtin.clear_, run_underlying Try.underlying37, hv, Value.cells, hzc, hst]
theorem setCells_blk {g t : Nat} : ∀ (vs : List Value) (o : Nat) (W : World) (cs : Array Value), W.heap[g]? = some (.cells cs t (0, 0)) → ∃ cs', (W.setCells g o vs).heap[g]? = some (.cells cs' t (0, 0)) ∧ cs'.size = cs.size ∧ ∀ i, i < o → cs'[i]? = cs[i]?
 | [], _, _, cs, h => ⟨cs, h, rfl, fun _ _ => rfl⟩
 | v :: r, o, W, cs, h => by
  obtain ⟨cs', h1, h2, h3⟩ := setCells_blk r (o + 1) (W.setCell ⟨g, o, none⟩ v) _ (blk_set h o v)
  refine ⟨cs', h1, by simpa using h2, fun i hi => ?_⟩
  rw [h3 i (by omega), Array.getElem?_setIfInBounds_ne (by omega)]
theorem setCells_below {B g : Nat} (hB : B ≤ g) {w : World} : ∀ (vs : List Value) (o : Nat) (W : World), Below B w W → Below B w (W.setCells g o vs)
 | [], _, _, h => h
 | v :: r, o, W, h => setCells_below hB r (o + 1) _ (h.setCell (p := ⟨g, o, none⟩) hB v)
def DelPost (g c B : Nat) (xs : List S42) (w : World) (e : Ending) (w' : World) : Prop :=
 ∃ (cs' : Array Value), e = .returned (.slice (some ⟨g, 0, none⟩) (keep xs).length c) ∧ w'.heap[g]? = some (.cells cs' 42 (0, 0)) ∧ cs'.size = c * 2 ∧ HasAll cs' (keep xs) ∧ Below B w w'
def DelI (g c B i j : Nat) (xs : List S42) (w wr : World) : Prop :=
 ∃ cs' : Array Value, i < j ∧ j ≤ xs.length ∧ i = (keep (xs.take j)).length ∧ wr.heap[g]? = some (.cells cs' 42 (0, 0)) ∧ cs'.size = c * 2 ∧ HasAll cs' (keep (xs.take j)) ∧ (∀ q x, j ≤ q → xs[q]? = some x → Has cs' q x) ∧ Below B w wr
set_option maxRecDepth 100000 in
set_option maxHeartbeats 4000000 in
theorem del_zero (g c B : Nat) (xs : List S42) (w : World) (cs : Array Value) (hm : xs.length ≤ 1000000000) (hbk : w.heap[g]? = some (.cells cs 42 (0, 0))) (hsz : cs.size = c * 2) (hc : xs.length ≤ c) (hc2 : c ≤ 9223372036854775807) (hx : HasAll cs xs) (hB : B ≤ g) (hBw : B ≤ w.heap.size) :
  Calls Try.prog 36 #[.slice (some ⟨g, 0, none⟩) xs.length c, .func (.func 38) #[] #[]] w (DelPost g c B xs w) := by
 have hu := Try.underlying42
 have HX := Aside0.mk hx
 have BK := Aside0.mk hbk
 have SZ := Aside0.mk hsz
 have IX := Aside0.mk (ix_zero g c xs w cs hm hbk hx)
 clear hx hbk hsz
 obtain ⟨n, hn⟩ : ∃ n, xs.length = n := ⟨_, rfl⟩
 rw [hn] at hm hc IX ⊢
 have HN := Aside0.mk hn
 clear hn
 by_cases h0 : fz xs 0 = -1
 ·have hk := fz_none xs 0 h0
  rw [h0] at IX
  have HK := Aside0.mk hk
  clear hk h0
  go_enter Try.func36, Try.ntmps36
  go_wp2_with (go_at_call 44; refine IX.out.mono ?_; rintro e w' ⟨rfl, hb⟩)
  go_ret
  exact ⟨cs, by rw [HK.out, HN.out]; rfl, blk_below BK.out hb, SZ.out, by rw [HK.out]; exact HX.out, hb.mono hBw⟩
 ·obtain ⟨i0, e0, hi0, hk0⟩ := fz_some xs 0 h0
  rw [Nat.zero_add] at e0
  rw [e0] at IX
  have HI0 := Aside0.mk hi0
  have HK0 := Aside0.mk hk0
  have hlt0 : i0 < n := by rw [← HN.out]; exact hi0
  have hi1 : (((i0 : Nat) : Int) == -1) = false := beq_eq_false_iff_ne.2 (by omega)
  clear h0 e0 hi0 hk0
  go_enter Try.func36, Try.ntmps36
  go_wp2_with (go_at_call 44; refine IX.out.mono ?_; rintro e w1 ⟨rfl, hb⟩; have HB1 := Aside0.mk hb; clear hb)
  go_loopw [5, 6] (fun i j wr => ∃ (a b : Nat), i = .int .i64 a ∧ j = .int .i64 b ∧ DelI g c B a b xs w wr) (fun _ j _ => n - (intOf j).toNat)
  case atStart =>
   refine ⟨i0, i0 + 1, rfl, by go_num, cs, by omega, by rw [HN.out]; omega, ?_, blk_below BK.out HB1.out, SZ.out, ?_, fun q x _ hq => HX.out q x hq, HB1.out.mono hBw⟩
   ·rw [HK0.out, List.length_take]
    have := HI0.out
    omega
   ·rw [HK0.out]
    intro q x hq
    rw [List.getElem?_take] at hq
    split at hq
    ·exact HX.out q x hq
    ·cases hq
  case round =>
   obtain ⟨a, b, rfl, rfl, hI⟩ := hrel
   have HI := Aside0.mk hI
   obtain ⟨cs', hab, hbn, ha, hbk, hsz, hfront, hback, hbel⟩ := hI
   have ha2 : a < n := by rw [HN.out] at hbn; omega
   have HA := Aside0.mk ha
   have BKG := Aside0.mk hbk
   have SZ' := Aside0.mk hsz
   have HF := Aside0.mk hfront
   have HBK := Aside0.mk hback
   have HBE := Aside0.mk hbel
   have hBwr : B ≤ wr.heap.size := Nat.le_trans hBw hbel.size
   rw [HN.out] at hbn
   clear ha hfront
   by_cases hlt : b < n
   ·obtain ⟨x, hx⟩ : ∃ x, xs[b]? = some x := ⟨_, List.getElem?_eq_getElem (by rw [HN.out]; exact hlt)⟩
    obtain ⟨q0, q1⟩ := has_at hbk (hback b x (Nat.le_refl _) hx)
    have htk : xs.take (b + 1) = xs.take b ++ [x] := by
     have hb2 : b < xs.length := by rw [HN.out]; exact hlt
     rw [List.take_succ_eq_append_getElem hb2]
     rw [List.getElem?_eq_getElem hb2] at hx
     rw [Option.some.inj hx]
    have HX1 := Aside0.mk hx
    have HTK := Aside0.mk htk
    obtain ⟨u0, hu0⟩ : ∃ u0, cs'[a * 2]? = some u0 := ⟨_, Array.getElem?_eq_getElem (by omega)⟩
    obtain ⟨u1, hu1⟩ : ∃ u1, cs'[a * 2 + 1]? = some u1 := ⟨_, Array.getElem?_eq_getElem (by omega)⟩
    have HU0 := Aside0.mk hu0
    have HU1 := Aside0.mk hu1
    clear hbk hsz hback hbel hx htk hu0 hu1
    by_cases hz : x.f1 = 0
    ·have hz1 : (x.f1 == 0) = true := beq_iff_eq.2 hz
     have hkp : keep (xs.take (b + 1)) = keep (xs.take b) := by
      rw [HTK.out]
      unfold keep
      rw [List.filter_append, List.filter_cons_of_neg (by simpa using hz)]
      simp
     have HKP := Aside0.mk hkp
     clear hkp
     go_wp2_with (go_at_call 38; refine (mv_zero _ _ _).mono ?_; rintro e w' ⟨rfl, hb2⟩; have HB2 := Aside0.mk hb2; clear hb2)
     go_roundw
     case rel => exact ⟨a, b + 1, rfl, by go_num, cs', by omega, by rw [HN.out]; omega, by rw [HKP.out]; exact HA.out, blk_below (blk_alloc BKG.out _) HB2.out, SZ'.out, by rw [HKP.out]; exact HF.out, fun q y hq hy => HBK.out q y (by omega) hy, (HBE.out.alloc hBwr _).trans (HB2.out.mono (by simp; omega))⟩
     case measure => simp [intOf]; omega
    ·have hz1 : (x.f1 == 0) = false := beq_eq_false_iff_ne.2 hz
     have hkp : keep (xs.take (b + 1)) = keep (xs.take b) ++ [x] := by
      rw [HTK.out]
      unfold keep
      rw [List.filter_append, List.filter_cons_of_pos (by simpa using hz)]
      simp
     have HKP := Aside0.mk hkp
     clear hkp
     go_wp2_with (go_at_call 38; refine (mv_zero _ _ _).mono ?_; rintro e W2 ⟨rfl, hb2⟩; have bkg := blk_below (blk_alloc BKG.out _) hb2; have bkb := blk_below (blk_new wr _) hb2; have c0 : W2.cell? ⟨wr.heap.size, 0, none⟩ = some (.int .i64 x.f0) := (blk_cell bkb 0).trans rfl; have c1 : W2.cell? ⟨wr.heap.size, 1, none⟩ = some (.int .i64 x.f1) := (blk_cell bkb 1).trans rfl; have d0 : W2.cell? ⟨g, a * 2, none⟩ = some u0 := (blk_cell bkg _).trans HU0.out; have d1 : W2.cell? ⟨g, a * 2 + 1, none⟩ = some u1 := (blk_cell bkg _).trans HU1.out; have f0 := blk_frozen bkg (a * 2); have f1 := blk_frozen bkg (a * 2 + 1); have BKG2 := Aside0.mk bkg; have HB2 := Aside0.mk hb2; clear hb2 bkg bkb)
     go_roundw
     case rel =>
      have hlen : (keep (xs.take b)).length = a := HA.out.symm
      refine ⟨a + 1, b + 1, by go_num, by go_num, _, by omega, by rw [HN.out]; omega, by rw [HKP.out, List.length_append, hlen]; rfl, blk_set (blk_set BKG2.out _ _) _ _, by simpa using SZ'.out, ?_, ?_, ?_⟩
      ·rw [HKP.out]
       intro q y hq
       refine has_set (x := x) (by have := SZ'.out; omega) ?_
       by_cases c : q = a
       ·rw [if_pos c]
        rw [c, ← hlen, List.getElem?_append_right (Nat.le_refl _), Nat.sub_self] at hq
        exact (Option.some.inj hq).symm
       ·rw [if_neg c]
        rw [List.getElem?_append_left ?_] at hq
        ·exact HF.out q y hq
        ·have := (List.getElem?_eq_some_iff.1 hq).1
         rw [List.length_append, hlen] at this
         simp at this
         omega
      ·intro q y hq hy
       refine has_set (x := x) (by have := SZ'.out; omega) ?_
       rw [if_neg (by omega)]
       exact HBK.out q y (by omega) hy
      ·exact (((HBE.out.alloc hBwr _).trans (HB2.out.mono (by simp; omega))).setCell (p := ⟨g, a * 2, none⟩) hB _).setCell (p := ⟨g, a * 2 + 1, none⟩) hB _
     case measure => simp [intOf]; omega
   ·obtain rfl : b = n := by omega
    have htk : xs.take b = xs := List.take_of_length_le (by rw [HN.out]; omega)
    rw [htk] at HA HF
    have hcl : ∀ ty, (Builtin.clear_ #[37] ty #[.slice (some ⟨g, a * 2, none⟩) (b - a) (c - a)]).run Try.prog wr = .ok (.tuple #[]) (wr.setCells g (a * 2) (List.replicate ((b - a) * 2) (.int .i64 0))) := fun ty =>
     clear_rows wr ty g (a * 2) (b - a) (c - a) (by omega) (fun j hj => by rw [blk_cell hbk]; rw [Array.getElem?_eq_getElem (by omega)]; rfl) (fun j hj => blk_frozen hbk _)
    clear hbk hsz hback hbel htk
    have hca : ¬ (c = a) := by omega
    have hca2 : ¬ (a = c) := by omega
    go_wp2
    go_ret
    obtain ⟨cs2, h1, h2, h3⟩ := setCells_blk (List.replicate ((b - a) * 2) (.int .i64 0)) (a * 2) wr cs' BKG.out
    refine ⟨cs2, by rw [← HA.out]; rfl, h1, by rw [h2]; exact SZ'.out, fun q y hq => ?_, setCells_below hB _ _ _ HBE.out⟩
    have hqa : q < a := by
     rw [HA.out]
     exact (List.getElem?_eq_some_iff.1 hq).1
    obtain ⟨g1, g2⟩ := HF.out q y hq
    exact ⟨by rw [h3 _ (by omega)]; exact g1, by rw [h3 _ (by omega)]; exact g2⟩
/-- Out of a row of the call's own: its block. -/
theorem rows_blk {W : World} {base g n c : Nat} {ok : Nat → Prop} {xs : List S42} (h : Kd.R k42 42 W base ok (.slice (some ⟨g, 0, none⟩) n c) xs) :
  ∃ cs : Array Value, W.heap[g]? = some (.cells cs 42 (0, 0)) ∧ cs.size = c * 2 ∧ HasAll cs xs ∧ base ≤ g ∧ n = xs.length ∧ xs.length ≤ c ∧ c ≤ maxLen := by
 obtain ⟨_, inner, ho, hr⟩ := h
 obtain ⟨hl, hh | ⟨g', cap, cur, hv, hb, hc, h1, h2, h3, h4⟩⟩ := ho
 ·cases hh.1
 ·injection hv with e1 e2 e3
  injection e1 with e1
  injection e1 with e1 _ _
  subst e1 e3
  refine ⟨cur, hc, h3, fun q x hq => ?_, hb, e2, h1, h2⟩
  have hp : (inner.drop (q * 2)).take 2 = [.int .i64 x.f0, .int .i64 x.f1] := k42_openM (hr.2 q x hq)
  have hq2 : q < xs.length := (List.getElem?_eq_some_iff.1 hq).1
  have hget : ∀ i, i < 2 → cur[q * 2 + i]? = ((inner.drop (q * 2)).take 2)[i]? := by
   intro i hi
   rw [List.getElem?_take_of_lt hi, List.getElem?_drop, ← h4, List.getElem?_take_of_lt (by show _ < xs.length * 2; omega)]
   rw [Array.getElem?_toList]
  refine ⟨?_, ?_⟩
  ·have := hget 0 (by omega)
   rw [Nat.add_zero] at this
   rw [this, hp]
   rfl
  ·rw [hget 1 (by omega), hp]
   rfl
/-- A block's first rows: a row of the call's own. -/
theorem blk_rows {W : World} {base g c : Nat} {cs : Array Value} {xs : List S42} (hb : W.heap[g]? = some (.cells cs 42 (0, 0))) (hs : cs.size = c * 2) (hx : HasAll cs xs) (hg : base ≤ g) (hl : xs.length ≤ c) (hc : c ≤ maxLen) :
  Kd.R k42 42 W base (fun _ => True) (.slice (some ⟨g, 0, none⟩) xs.length c) xs := by
 have hsz : cs.toList.length = c * 2 := by rw [Array.length_toList]; exact hs
 have hlen : (cs.toList.take (xs.length * 2)).length = xs.length * 2 := by rw [List.length_take, hsz]; omega
 refine ⟨fun _ _ => trivial, cs.toList.take (xs.length * 2), ⟨hlen, .inr ⟨g, c, cs, rfl, hg, hb, hl, hc, hs, rfl⟩⟩, hlen, fun q x hq => ?_⟩
 have hq2 : q < xs.length := (List.getElem?_eq_some_iff.1 hq).1
 have e : ((cs.toList.take (xs.length * 2)).drop (q * 2)).take 2 = [.int .i64 x.f0, .int .i64 x.f1] := by
  obtain ⟨g1, g2⟩ := hx q x hq
  refine List.ext_getElem? fun i => ?_
  by_cases c0 : i = 0
  ·subst c0
   rw [List.getElem?_take_of_lt (by omega), List.getElem?_drop, List.getElem?_take_of_lt (by omega), Array.getElem?_toList, Nat.add_zero, g1]
   rfl
  ·by_cases c1 : i = 1
   ·subst c1
    rw [List.getElem?_take_of_lt (by omega), List.getElem?_drop, List.getElem?_take_of_lt (by omega), Array.getElem?_toList, g2]
    rfl
   ·rw [List.getElem?_eq_none (by rw [List.length_take]; omega), List.getElem?_eq_none (by simp; omega)]
 show k42.M W base _ x (((cs.toList.take (xs.length * 2)).drop (q * 2)).take 2)
 rw [e]
 exact k42_mkM _ _ _ _
set_option maxHeartbeats 2000000 in
theorem ix_nil (A : Option Addr) (c : Nat) (w : World) :
  Calls Try.prog 44 #[.slice A 0 c, .func (.func 38) #[] #[]] w fun e w' => e = .returned (.int .i64 (-1)) ∧ w = w' := by
 go_enter Try.func44, Try.ntmps44
 go_wp2
 go_loopw [5, 8] (fun _ i wr => i = .int .i64 0 ∧ w = wr) (fun _ i _ => 0)
 case atStart => exact ⟨rfl, rfl⟩
 case round =>
  obtain ⟨rfl, rfl⟩ := hrel
  go_wp2
  go_ret
  exact ⟨rfl, rfl⟩
set_option maxHeartbeats 2000000 in
theorem del_nil (A : Option Addr) (c : Nat) (w : World) :
  Calls Try.prog 36 #[.slice A 0 c, .func (.func 38) #[] #[]] w fun e w' => e = .returned (.slice A 0 c) ∧ w = w' := by
 go_enter Try.func36, Try.ntmps36
 go_wp2_with (go_at_call 44; refine (ix_nil A c _).mono ?_; rintro e w' ⟨rfl, rfl⟩)
 go_ret
 exact ⟨rfl, rfl⟩
set_option maxHeartbeats 2000000 in
set_option maxRecDepth 100000 in
theorem cl_rows (A0 : Option Addr) (c0 : Nat) (l0 : List S42) (w : World) (hr0 : Kd.C k42 w A0 l0.length l0) (hc0 : l0.length ≤ c0) (hs : l0.length ≤ 2000000) :
  Calls Try.prog 37 #[.slice A0 l0.length c0] w fun e w' => ∃ v0_ : Value, e = .returned v0_ ∧ Kd.R k42 42 w' w.heap.size (fun _ => True) v0_ l0 ∧ Below w.heap.size w w' := by
 have HR := Aside0.mk hr0
 have HC := Aside0.mk hc0
 have HL := Aside0.mk hs
 clear hr0 hc0 hs
 cases A0 with
 | none =>
  have hz : l0 = [] := by
   cases l0 with
   | nil => rfl
   | cons b l =>
    obtain ⟨ad, e, _⟩ := HR.out.2.2 (by simp)
    cases e
  subst hz
  go_enter Try.func37, Try.ntmps37
  go_wp2
  rw [Go.run_eql_slice_nil _ _ _ _ _ _ Try.underlying37]
  simp only [Result.andThen, Option.isNone_none]
  rw [Oper.upon_value]
  go_wp2
  go_ret
  exact ⟨_, rfl, Kd.R_nil _ _ _ _ _, Below.refl _ _⟩
 | some ad =>
  go_enter Try.func37, Try.ntmps37
  go_wp2
  rw [Go.run_eql_slice_nil _ _ _ _ _ _ Try.underlying37]
  simp only [Result.andThen, Option.isNone_some]
  rw [Oper.upon_value]
  go_wp2_with (first | ((with_reducible refine gate_dst (N := 5) rfl ?_); refine Kd.R_lit k42 _ 42 ?hg (N := 5) ?hd (xs := ([] : List S42)) (inner := []) (ok := fun _ => True) (okp := fun _ => True) ?hr ?hp (fun _ hk => hk) trivial (Below.refl _ _) (Nat.le_refl _) (by simp) ?_; (case hd => rfl); (case hg => rfl); (case hr => first | (go_simp; done) | (go_simp; rfl)); (case hp => exact (Reps.none _ _)); intro v2 w2 ho hb hg_ hnew_; clear hg_ hnew_; have HO := Aside0.mk ho; have HB := Aside0.mk hb; clear ho hb) | ((with_reducible refine gate_builtin (b := .append) (xs := #[.tmp 5, .tmp 6]) rfl ?_); at_builtin; refine Kd.R_append_rows k42 (Rr := k42.K w2) (w0 := w) w.heap.size rfl (.tmp 5) (.tmp 6) 37 42 (.agg #[(.int .i64 0), (.int .i64 0)]) 16 rfl Try.underlying37 info42 rfl (by decide) (by omega) v2 [] l0 _ _ _ (fun _ => True) (fun _ => False) rfl rfl ?aO ?aR (fun x cs h => by rw [k42_open h]; exact k42_mkM _ _ _ _) (fun _ h => h.elim) ?aF ?aB ?aS ?aL ?_; (case aR => exact Kd.C_below HR.out HB.out); (case aO => exact HO.out); (case aF => exact (fun _ _ => trivial)); (case aB => exact HB.out); (case aS => exact below_size HB.out); (case aL => have := HL.out; simp; omega); intro v3 w3 ho3 hb3 hg3 hat3; clear hg3 hat3; have HO3 := Aside0.mk ho3; have HB3 := Aside0.mk hb3; clear ho3 hb3))
  go_ret
  exact ⟨_, rfl, HO3.out, HB3.out⟩
def impl_moving.f (l0 : List S42) : Option (List S42) := if l0.length ≤ 2000000 then some (keep l0) else none
set_option maxHeartbeats 2000000 in
set_option maxRecDepth 100000 in
theorem impl_moving.calls (A0 : Option Addr) (c0 : Nat) (l0 : List S42) (r : List S42) (w : World) (hr0 : Kd.C k42 w A0 l0.length l0) (hc0 : l0.length ≤ c0) (h : impl_moving.f l0 = some r) :
  Calls Try.prog 23 #[.slice A0 l0.length c0] w fun e w' => ∃ v0_ : Value, e = .returned v0_ ∧ Kd.R k42 42 w' w.heap.size (fun _ => True) v0_ r ∧ Below w.heap.size w w' := by
 unfold impl_moving.f at h
 by_cases hs : l0.length ≤ 2000000
 case neg => rw [if_neg hs] at h; cases h
 rw [if_pos hs, Option.some.injEq] at h
 subst h
 have CL := Aside0.mk (fun w1 h => cl_rows A0 c0 l0 w1 h hc0 hs)
 have HR := Aside0.mk hr0
 have HL := Aside0.mk hs
 clear hr0 hc0 hs
 by_cases hn : l0.length = 0
 ·have hz : l0 = [] := List.eq_nil_of_length_eq_zero hn
  have hk : keep l0 = l0 := by rw [hz]; rfl
  have DN : Aside0 (∀ (A : Option Addr) (c : Nat) (w : World), Calls Try.prog 36 #[.slice A l0.length c, .func (.func 38) #[] #[]] w fun e w' => e = .returned (.slice A l0.length c) ∧ w = w') := ⟨fun A c w => by rw [hn]; exact del_nil A c w⟩
  rw [hk]
  clear hn hz hk
  go_enter Try.func23, Try.ntmps23
  go_wp2_with (go_at_call 37; (with_reducible refine (CL.out _ HR.out).mono ?_); rintro e w1 ⟨v, rfl, hv, hb⟩; obtain ⟨A, c, rfl⟩ := Kd.R_slice hv; have HV := Aside0.mk hv; have HB := Aside0.mk hb; clear hv hb)
  refine (DN.out _ _ _).mono ?_
  rintro e w' ⟨rfl, rfl⟩
  go_wp2
  go_ret
  exact ⟨_, rfl, HV.out, HB.out⟩
 ·have hne : 0 < l0.length := by omega
  clear hn
  go_enter Try.func23, Try.ntmps23
  go_wp2_with (go_at_call 37; (with_reducible refine (CL.out _ HR.out).mono ?_); rintro e w1 ⟨v, rfl, hv, hb⟩; obtain ⟨A, c, rfl⟩ := Kd.R_slice hv; have HV := Aside0.mk hv; have HB := Aside0.mk hb; clear hv hb)
  obtain ⟨ad, e1, _⟩ := (Kd.R_reads' HV.out).2.2.2.2 hne
  subst e1
  obtain ⟨g, rfl⟩ := Kd.R_head HV.out
  obtain ⟨cs, h1, h2, h3, h4, _, h5, h6⟩ := rows_blk HV.out
  have hg : g < w1.heap.size := blk_lt h1
  refine (del_zero g c w.heap.size l0 w1 cs (by have := HL.out; omega) h1 h2 h5 h6 h3 h4 (below_size HB.out)).mono ?_
  rintro e w' ⟨cs', rfl, g1, g2, g3, g4⟩
  have G1 := Aside0.mk (blk_rows (base := w.heap.size) g1 g2 g3 h4 (Nat.le_trans (keep_len l0) h5) h6)
  have G4 := Aside0.mk g4
  clear g1 g2 g3 g4 h1 h2 h3
  go_wp2
  go_ret
  exact ⟨_, rfl, G1.out, HB.out.trans G4.out⟩

/-! ### impl_gcd: function 25 -/
def impl_gcd.l0 : Nat → Int → Int → Option (Int)
 | 0, _, _ => none
 | k + 1, x0, x1 => if x1 = 0 then (some x0) else (impl_gcd.l0 k x1 (Int.tmod x0 x1))
def impl_gcd.f (k : Nat) (a0 : Int) (a1 : Int) : Option (Int) := impl_gcd.l0 k a0 a1
theorem impl_gcd.mono_l : ∀ k, (∀ y0 y1, LeO (impl_gcd.l0 k y0 y1) (impl_gcd.l0 (k + 1) y0 y1))
 | 0 => fun _ _ r h => by simp [impl_gcd.l0] at h
 | k + 1 => by
  have ih0 := impl_gcd.mono_l k
  ·intro y0 y1
   unfold impl_gcd.l0
   repeat' first
   | (with_reducible exact ih0 _ _)
   | (with_reducible exact LeO.refl _)
   | (with_reducible exact LeO.none _)
   | (with_reducible refine LeO.ite ?_ ?_)
   | (with_reducible refine LeO.bind ?_ (fun _ => ?_))
   | exact ih0 _ _
   | exact LeO.none _
   | refine LeO.ite ?_ ?_
   | refine LeO.bind ?_ (fun _ => ?_)
theorem impl_gcd.mono : ∀ a0 a1 k, LeO (impl_gcd.f k a0 a1) (impl_gcd.f (k + 1) a0 a1) := by
 intro a0 a1 k
 have ih0 := impl_gcd.mono_l k
 unfold impl_gcd.f
 repeat' first
   | (with_reducible exact ih0 _ _)
   | (with_reducible exact LeO.refl _)
   | (with_reducible exact LeO.none _)
   | (with_reducible refine LeO.ite ?_ ?_)
   | (with_reducible refine LeO.bind ?_ (fun _ => ?_))
   | exact ih0 _ _
   | exact LeO.none _
   | refine LeO.ite ?_ ?_
   | refine LeO.bind ?_ (fun _ => ?_)
set_option maxHeartbeats 8000000 in
set_option maxRecDepth 100000 in
theorem impl_gcd.calls (k : Nat) (a0 : Int) (a1 : Int) (r : Int) (w : World) (h : impl_gcd.f k a0 a1 = some r) :
  Calls Try.prog 25 #[.int .i64 a0, .int .i64 a1] w fun e w' => e = .returned (.int .i64 r) ∧ Drawn0 w w' := by
 have H : (impl_gcd.l0 k a0 a1) = some r := h
 clear h
 have H' := Aside0.mk H
 clear H
 go_enter Try.func25, Try.ntmps25
 go_wp2
 repeat (go_quiet (fail); (try simp only [IntWalk.i64_left]); try go_wp2)
 go_loopg [0, 1] k (fun kq v0 v1 w' => ∃ (x0_1 : Int) (x1_1 : Int), v0 = .int .i64 x0_1 ∧ v1 = .int .i64 x1_1 ∧ Aside0 (impl_gcd.l0 kq x0_1 x1_1 = some r) ∧ Aside0 (kq ≤ k) ∧ Drawn0 w w')
 case atStart => exact ⟨(a0), (a1), (by first | rfl | (simp; done) | (simp [*]; done) | (simp only [IntKind.wrap_i64, wrap64]; done)), (by first | rfl | (simp; done) | (simp [*]; done) | (simp only [IntKind.wrap_i64, wrap64]; done)), H', ⟨Nat.le_refl _⟩, by repeat (first | exact Drawn0.refl _ | apply Drawn0.step)⟩
 case round =>
  clear H'
  try clear c2
  try clear p2
  obtain ⟨x0_1, x1_1, rfl, rfl, HA, HK1, ⟨m1, rfl⟩⟩ := hrel
  cases gk with
  | zero => exact absurd HA.out (by simp [impl_gcd.l0])
  | succ k1 =>
   have H := HA.out
   clear HA
   simp only [impl_gcd.l0] at H
   by_cases c3 : x1_1 = 0
   ·rw [if_pos c3] at H
    have c3b0 : (x1_1 == 0) = true := beq_iff_eq.mpr c3
    have c3b1 : (x1_1 != 0) = false := bne_eq_false_iff_eq.mpr c3
    clear c3
    obtain rfl := Option.some.inj H
    go_wp2
    repeat (go_quiet (fail); (try simp only [IntWalk.i64_left]); try go_wp2)
    go_ret
    exact ⟨by first | rfl | (simp; done) | (simp [*]; done), by repeat (first | exact Drawn0.refl _ | apply Drawn0.step)⟩
   ·rw [if_neg c3] at H
    have c3b0 : (x1_1 == 0) = false := beq_eq_false_iff_ne.mpr c3
    have c3b1 : (x1_1 != 0) = true := bne_iff_ne.mpr c3
    have H' := Aside0.mk H
    clear H
    go_wp2
    repeat (go_quiet (fail); (try simp only [IntWalk.i64_left]); try go_wp2)
    go_roundg k1
    case measure => have := HK1.out; omega
    case rel => exact ⟨(x1_1), (Int.tmod x0_1 x1_1), (by first | rfl | (simp; done) | (simp [*]; done) | (simp only [IntKind.wrap_i64, wrap64]; done)), (by first | rfl | (simp; done) | (simp [*]; done) | (simp only [IntKind.wrap_i64, wrap64]; done)), H', ⟨by have := HK1.out; omega⟩, by repeat (first | exact Drawn0.refl _ | apply Drawn0.step)⟩

/-! ### impl_lcm: function 24 -/
def impl_lcm.f (k : Nat) (a0 : Int) (a1 : Int) : Option (Int) := (impl_gcd.f k a0 a1).bind fun t147 => (if t147 = 0 then (none) else (some (wrap64 ((wrap64 (Int.tdiv a0 t147)) * a1))))
theorem impl_lcm.mono : ∀ a0 a1 k, LeO (impl_lcm.f k a0 a1) (impl_lcm.f (k + 1) a0 a1) := by
 intro a0 a1 k
 unfold impl_lcm.f
 repeat' first
   | (with_reducible exact impl_gcd.mono _ _ _)
   | (with_reducible exact LeO.refl _)
   | (with_reducible exact LeO.none _)
   | (with_reducible refine LeO.ite ?_ ?_)
   | (with_reducible refine LeO.bind ?_ (fun _ => ?_))
   | exact impl_gcd.mono _ _ _
   | exact LeO.none _
   | refine LeO.ite ?_ ?_
   | refine LeO.bind ?_ (fun _ => ?_)
set_option maxHeartbeats 8000000 in
set_option maxRecDepth 100000 in
theorem impl_lcm.calls (k : Nat) (a0 : Int) (a1 : Int) (r : Int) (w : World) (h : impl_lcm.f k a0 a1 = some r) :
  Calls Try.prog 24 #[.int .i64 a0, .int .i64 a1] w fun e w' => e = .returned (.int .i64 r) ∧ Drawn0 w w' := by
 have H : ((impl_gcd.f k a0 a1).bind fun t147 => (if t147 = 0 then (none) else (some (wrap64 ((wrap64 (Int.tdiv a0 t147)) * a1))))) = some r := h
 clear h
 replace H := Option.bind_eq_some_iff.mp H
 obtain ⟨t147, A30, H⟩ := H
 replace H : (if t147 = 0 then (none) else (some (wrap64 ((wrap64 (Int.tdiv a0 t147)) * a1)))) = some r := H
 have A3 := Aside0.mk A30
 clear A30
 by_cases c4 : t147 = 0
 ·rw [if_pos c4] at H
  exact absurd H (by simp)
 ·rw [if_neg c4] at H
  have c4b0 : (t147 == 0) = false := beq_eq_false_iff_ne.mpr c4
  have c4b1 : (t147 != 0) = true := bne_iff_ne.mpr c4
  obtain rfl := Option.some.inj H
  go_enter Try.func24, Try.ntmps24
  go_wp2_with (first | ((with_reducible refine gate_callee (f := 25) rfl ?_); refine goesL_ (some 8) rfl rfl Try.func25 (by kernel_rfl) rfl #[.int .i64 a0, .int .i64 a1] rfl (by (try simp only [List.map_toArray, List.map_cons, List.map_nil]); first | done | rfl | (simp only [List.length_drop, List.length_take]; rfl)) ?_; (with_reducible refine (impl_gcd.calls k a0 a1 t147 _ A3.out).mono ?_); rintro e w' ⟨rfl, ⟨nd, rfl⟩⟩; refine ⟨_, rfl, ?_⟩))
  go_ret
  exact ⟨by first | rfl | (simp; done) | (simp [*]; done), by repeat (first | exact Drawn0.refl _ | apply Drawn0.step)⟩

end Go.Proofs.Ytdiaifmlockohaa.G
