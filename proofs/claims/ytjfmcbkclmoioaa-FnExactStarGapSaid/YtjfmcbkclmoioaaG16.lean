-- Made by gprint.py (the kit's print with contracts of this session's own among its functions).
import Derived.Test.YtjfmcbkclmoioaaG0
import Derived.Test.YtjfmcbkclmoioaaG13
import Derived.Test.YtjfmcbkclmoioaaG15
namespace Go.Proofs.Ytjfmcbkclmoioaa.G
open Go.RowKit Go.Proofs.YtjfmcbkclmoioaaW.PrintWords Go.Proofs.YtjfmcbkclmoioaaW.PrintLast Go.Proofs.YtjfmcbkclmoioaaW.PrintMore
attribute [local go_sem] max2_int min2_int max_two min_two max_three min_three max_four min_four   -- for this text's walks alone
set_option linter.unusedVariables false
set_option linter.unusedSimpArgs false

/-! ### impl_StarGap: function 5 -/
section
open Go.Shelf
attribute [local go_sem] Oper.semAt_some
def bw_upto {α : Type} (f : Nat → α) (k : Nat) : List α := (List.range k).map f
theorem bw_succ {α : Type} (f : Nat → α) (k : Nat) : bw_upto f (k + 1) = bw_upto f k ++ [f k] := by simp [bw_upto, List.range_succ]
theorem bw_length {α : Type} (f : Nat → α) (k : Nat) : (bw_upto f k).length = k := by simp [bw_upto]
/-- What comes in round k: the last places first. -/
def bw_at (zs : List Bool) (k : Nat) : Nat × Bool := (zs.length - 1 - k, zs[zs.length - 1 - k]?.getD false)
set_option maxRecDepth 100000 in
set_option maxHeartbeats 2000000 in
theorem bw_in (F : Fence) (n : Nat) (h8 : F.fn 17) (hro : F.round = none) (hn : 1 ≤ n) (l Bs n₀ b off cap : Nat) (zs : List Bool) (hreach : zs.length ≤ 1000000) (hb : b < n₀) (J Jx : List (Nat × Bool) → World → Prop)
  (hY : ∀ pre x W, J pre W → pre.length < zs.length → YieldAt F (n - 1) Try.prog l #[.int .i64 (x.1 : Int), .bool x.2] W fun e W' =>
   (e = .returned (.bool true) ∧ J (pre ++ [x]) W' ∧ Below n₀ W W') ∨ (e = .returned (.bool false) ∧ Jx (pre ++ [x]) W'))
  (W : World) (hBs : W.cell? ⟨Bs, 0, none⟩ = some (.slice (some ⟨b, off, none⟩) zs.length cap)) (hc : ∀ j, j < zs.length → W.cell? ⟨b, off + j, none⟩ = some (.bool (zs[j]?.getD false))) (hBn : Bs < n₀) (h0 : J [] W) :
  CallsIn F n Try.prog 17 #[.func (.yield l) #[] #[], .pointer (some ⟨Bs, 0, none⟩)] W fun e W' => (∃ v, e = .returned v) ∧
   ((∃ ys, ys = bw_upto (bw_at zs) zs.length ∧ J ys W') ∨ (∃ pre, (∃ k, k ≤ zs.length ∧ pre = bw_upto (bw_at zs) k) ∧ Jx pre W')) := by
 obtain ⟨len, hlen⟩ : ∃ len, zs.length = len := ⟨_, rfl⟩
 rw [hlen] at hY hBs hc hreach ⊢
 have HL := Aside0.mk hlen
 clear hlen
 have w1 : IntKind.i64.wrap ((len : Int) - 1) = (len : Int) - 1 := by rw [IntKind.wrap_i64]; omega
 refine callsIn_of_wp Try.func17 rfl h8 ?_ hro
 simp only [Try.ntmps17, List.size_toArray, List.length_cons, List.length_nil, Nat.reduceAdd, Nat.reduceSub, Array.replicate_succ, Array.replicate_zero, List.push_toArray, List.append_toArray, List.nil_append, List.cons_append]
 gi_wp2
 gi_loopw [3] (fun i wr => ∃ (k : Nat) (m : Int), k ≤ len ∧ m = (len : Int) - 1 - (k : Int) ∧ i = .int .i64 m ∧ J (bw_upto (bw_at zs) k) wr ∧ Below n₀ W wr)
  (fun i _ => (intOf i + 1).toNat)
 case atStart => exact ⟨0, _, Nat.zero_le _, by simp, rfl, h0, Below.refl _ _⟩
 case round =>
  obtain ⟨k, m, hk, hm, rfl, hJs, hnx⟩ := hrel
  have hBs' : wr.cell? ⟨Bs, 0, none⟩ = some (.slice (some ⟨b, off, none⟩) len cap) := (hnx.cell (p := ⟨Bs, 0, none⟩) hBn).trans hBs
  by_cases hlt : k < len
  ·obtain ⟨j, rfl⟩ : ∃ j : Nat, m = (j : Int) := ⟨(len - 1 - k), by omega⟩
   have hj : j < len := by omega
   have hj0 : (0 : Int) ≤ (j : Int) := by omega
   have ej : bw_at zs k = (j, zs[j]?.getD false) := by
    unfold bw_at
    rw [HL.out, show len - 1 - k = j by omega]
   have EJ := Aside0.mk ej
   have HM := Aside0.mk hm
   have hcx' : wr.cell? ⟨b, off + j, none⟩ = some (.bool (zs[j]?.getD false)) := (hnx.cell (p := ⟨b, off + j, none⟩) hb).trans (hc j hj)
   obtain ⟨fn, tmps, assign, body, hy, hR⟩ := hY _ (j, zs[j]?.getD false) wr hJs (by rw [bw_length]; exact hlt)
   dsimp only at hy
   clear ej hm hc hBs
   gi_wp2
   refine hR.mono ?_
   rintro e W3 (⟨rfl, hJ3, hk3⟩ | ⟨rfl, hJx3⟩)
   ·-- THE ROUND GOES ON
    gi_wp2
    go_roundw
    case rel => exact ⟨k + 1, (j : Int) - 1, by omega, by have := HM.out; omega, rfl, by rw [bw_succ, EJ.out]; exact hJ3, hnx.trans hk3⟩
    case measure => simp [intOf]
   ·gi_wp2
    refine bodyPost_ret (results_none rfl _ _ _) rfl ?_
    exact ⟨⟨_, rfl⟩, .inr ⟨_, ⟨k + 1, by omega, by rw [bw_succ, EJ.out]⟩, hJx3⟩⟩
  ·obtain rfl : k = len := by omega
   have hm1 : m < 0 := by omega
   clear hm
   gi_wp2
   go_end0
   exact ⟨⟨_, rfl⟩, .inl ⟨_, rfl, hJs⟩⟩
set_option maxHeartbeats 1000000 in
theorem bw_make (F : Fence) (n : Nat) (h6 : F.fn 11) (hro : F.round = none) (a : Option Addr) (len cap : Nat) (w : World) :
  CallsIn F n Try.prog 11 #[.slice a len cap] w fun e w' => e = .returned (.func (.func 17) #[] #[.pointer (some ⟨w.heap.size, 0, none⟩)]) ∧ w' = w.alloc (.cells #[.slice a len cap] 25) := by
 refine callsIn_of_wp Try.func11 rfl h6 ?_ hro
 simp only [Try.ntmps11, List.size_toArray, List.length_cons, List.length_nil, Nat.reduceAdd, Nat.reduceSub, Array.replicate_succ, Array.replicate_zero, List.push_toArray, List.append_toArray, List.nil_append, List.cons_append]
 gi_wp2
 go_ret
 exact ⟨rfl, rfl⟩
theorem bw_stops (F : Fence) (n : Nat) (h8 : F.fn 17) (hro : F.round = none) (hn : 1 ≤ n) (Bs n₀ b off cap : Nat) (zs : List Bool) (hreach : zs.length ≤ 1000000) (w : World) (hBs : Bs < n₀) (hb : b < n₀) (hn₀ : n₀ ≤ w.heap.size)
  (hc : w.cell? ⟨Bs, 0, none⟩ = some (.slice (some ⟨b, off, none⟩) zs.length cap)) (hI : ∀ j, j < zs.length → w.cell? ⟨b, off + j, none⟩ = some (.bool (zs[j]?.getD false))) :
  SeqStopsK F n Try.prog 17 #[.pointer (some ⟨Bs, 0, none⟩)] (fun x : Nat × Bool => #[Value.int .i64 (x.1 : Int), Value.bool x.2]) (Below n₀) (fun ys => ys = bw_upto (bw_at zs) zs.length)
   (fun pre => ∃ k, k ≤ zs.length ∧ pre = bw_upto (bw_at zs) k) zs.length w := fun l J Jx W hW _ _ hY h0 => by
 have hc' := (hW.cell (p := ⟨Bs, 0, none⟩) (by show Bs < _; omega)).trans hc
 exact bw_in F n h8 hro hn l Bs n₀ b off cap zs hreach hb J Jx hY W hc' (fun j hj => (hW.cell (p := ⟨b, off + j, none⟩) (by show b < _; omega)).trans (hI j hj)) hBs h0
/-- What the loop over the places answers. -/
def gapGo : List (Nat × Bool) → Int × Bool
 | [] => (0, false)
 | (n, is) :: rest => if is = true then gapGo rest else if wrap64 (1000 - (n : Int)) ≤ 200 then (0, false) else ((n : Int), true)
def gapOut (l : List Bool) : Int × Bool := gapGo (bw_upto (bw_at l) l.length)
def impl_StarGap.f (k : Nat) (a0 : ByteArray) : Option (Int × Bool) := (impl_small.f k a0).bind fun b => if b.2.2 = true then (impl_star.f k b.1 b.2.1 1000).bind (fun l => if l.length = 1000 then some (gapOut l) else none) else some (0, false)
theorem impl_StarGap.mono : ∀ a0 k, LeO (impl_StarGap.f k a0) (impl_StarGap.f (k + 1) a0) := by
 intro a0 k
 unfold impl_StarGap.f
 refine LeO.bind (impl_small.mono _ _) (fun b => ?_)
 refine LeO.ite ?_ (LeO.refl _)
 exact LeO.bind (impl_star.mono _ _ _ _) (fun _ => LeO.refl _)
def GapI (w : World) (pre : List (Nat × Bool)) (W : World) : Prop := ((∀ p ∈ pre, p.2 = true) ∧ W.cell? ⟨w.heap.size, 0, none⟩ = some (.int .i64 0) ∧ W.frozen? ⟨w.heap.size, 0, none⟩ = false ∧ W.cell? ⟨w.heap.size + 1, 0, none⟩ = some (.bool false) ∧ W.frozen? ⟨w.heap.size + 1, 0, none⟩ = false) ∧ Below w.heap.size w W
def GapX (w : World) (c : Code) (pre : List (Nat × Bool)) (W : World) : Prop := (c = .ret ∧ ∃ ini n, pre = ini ++ [(n, false)] ∧ (∀ p ∈ ini, p.2 = true) ∧ W.cell? ⟨w.heap.size, 0, none⟩ = some (.int .i64 (gapGo [(n, false)]).1) ∧ W.cell? ⟨w.heap.size + 1, 0, none⟩ = some (.bool (gapGo [(n, false)]).2)) ∧ Below w.heap.size w W
theorem gapI_own {B : Nat} (w : World) (h : w.heap.size ≤ B) : OwnFrom B (GapI w) :=
 OwnFrom.and (Own.from (fun s A B row hs hg hr => ⟨hs.1, cell_kept hs.2.1 hg hr, (frozen_kept hs.2.1 hg hr).trans hs.2.2.1, cell_kept hs.2.2.2.1 hg hr, (frozen_kept hs.2.2.2.1 hg hr).trans hs.2.2.2.2⟩) _) (ownFrom_below (Nat.le_refl _) h)
theorem gapX_own {B : Nat} (w : World) (c : Code) (h : w.heap.size ≤ B) : OwnFrom B (GapX w c) :=
 OwnFrom.and (Own.from (fun s A B row hs hg hr => by obtain ⟨hc, ini, n, e1, e2, e3, e4⟩ := hs; exact ⟨hc, ini, n, e1, e2, cell_kept e3 hg hr, cell_kept e4 hg hr⟩) _) (ownFrom_below (Nat.le_refl _) h)
theorem two_set {W : World} {B : Nat} {v0 v1 x y : Value} (c0 : W.cell? ⟨B, 0, none⟩ = some x) (c1 : W.cell? ⟨B + 1, 0, none⟩ = some y) :
  ((W.setCell ⟨B, 0, none⟩ v0).setCell ⟨B + 1, 0, none⟩ v1).cell? ⟨B, 0, none⟩ = some v0 ∧ ((W.setCell ⟨B, 0, none⟩ v0).setCell ⟨B + 1, 0, none⟩ v1).cell? ⟨B + 1, 0, none⟩ = some v1 := by
 refine ⟨(World.cell?_setCell_far _ _ _ _ (by simp)).trans (World.cell?_setCell_same' _ _ _ (by rw [c0]; rfl)), World.cell?_setCell_same' _ _ _ ?_⟩
 rw [World.cell?_setCell_far _ _ _ _ (by simp), c1]
 rfl
theorem gapGo_all : ∀ (l r : List (Nat × Bool)), (∀ p ∈ l, p.2 = true) → gapGo (l ++ r) = gapGo r
 | [], _, _ => rfl
 | (n, b) :: l, r, h => by
  have hb : b = true := h (n, b) List.mem_cons_self
  rw [List.cons_append, gapGo, if_pos hb]
  exact gapGo_all l r (fun p hp => h p (List.mem_cons_of_mem _ hp))
theorem gapGo_first (n : Nat) (r : List (Nat × Bool)) : gapGo ((n, false) :: r) = gapGo [(n, false)] := by
 simp only [gapGo, Bool.false_eq_true, if_false]
theorem bw_pre (l : List Bool) (k : Nat) (hk : k ≤ l.length) : ∃ r, bw_upto (bw_at l) l.length = bw_upto (bw_at l) k ++ r := by
 refine ⟨((List.range (l.length - k)).map (fun j => bw_at l (k + j))), ?_⟩
 unfold bw_upto
 conv => lhs; rw [show l.length = k + (l.length - k) by omega, List.range_add, List.map_append, List.map_map]
 rfl
set_option maxRecDepth 100000 in
set_option maxHeartbeats 4000000 in
theorem impl_StarGap.calls (k : Nat) (a0 : ByteArray) (r1 : Int) (r2 : Bool) (w : World) (h : impl_StarGap.f k a0 = some (r1, r2)) :
  Calls Try.prog 5 #[.string a0] w fun e w' => e = .returned (.tuple #[.int .i64 r1, .bool r2]) ∧ Below w.heap.size w w' := by
 unfold impl_StarGap.f at h
 obtain ⟨⟨t, q, ok⟩, hs, h'⟩ := Option.bind_eq_some_iff.mp h
 clear h
 have hu_ := Try.underlying33
 refine (callsIn_wide (n := 6)).1 ?_
 refine callsIn_of_wp_marks Try.func5 rfl trivial ?_ rfl
 simp only [Try.ntmps5, List.size_toArray, List.length_cons, List.length_nil, Nat.reduceAdd, Nat.reduceSub, Array.replicate_succ, Array.replicate_zero, List.push_toArray, List.append_toArray, List.nil_append, List.cons_append]
 have SM := Aside0.mk (fun w => impl_small.calls k a0 t q ok w hs)
 clear hs
 by_cases c : ok = true
 ·subst c
  dsimp only at h'
  rw [if_pos rfl] at h'
  obtain ⟨l, hl, h2⟩ := Option.bind_eq_some_iff.mp h'
  have HH := Aside0.mk h2
  have HL := Aside0.mk hl
  clear h' h2 hl
  gi_wp2_with (refine ⟨trivial, ?_⟩; gi_at_call 9; refine (callsIn_wide.2 (SM.out _)).mono ?_; rintro e w2 ⟨v0, v1, rfl, h0, h1, hb⟩; obtain ⟨A0, c0, rfl⟩ := Kd.R_slice h0; obtain ⟨A1, c1, rfl⟩ := Kd.R_slice h1; have H0 := Aside0.mk h0; have H1 := Aside0.mk h1; have HB := Aside0.mk hb; clear h0 h1 hb)
  refine ⟨trivial, ?_⟩
  refine (callsIn_wide.2 (impl_star.calls k A0 c0 t A1 c1 q 1000 l _ (Kd.C_alloc (Kd.R_reads' H0.out).2.2 _) (Kd.R_reads' H0.out).2.1 (Kd.C_alloc (Kd.R_reads' H1.out).2.2 _) (Kd.R_reads' H1.out).2.1 HL.out)).mono ?_
  rintro e w3 ⟨v, rfl, hv, hb⟩
  obtain ⟨A2, c2, rfl⟩ := Kd.R_slice hv
  have HV := Aside0.mk hv
  have HB3 := Aside0.mk hb
  clear hv hb
  by_cases c1 : l.length = 1000
  case neg => exact absurd HH.out (by rw [if_neg c1]; simp)
  have hg : gapOut l = (r1, r2) := by
   have := HH.out
   rw [if_pos c1] at this
   exact Option.some.inj this
  have HG := Aside0.mk hg
  have HC1 := Aside0.mk c1
  obtain ⟨ad, rfl, hcells⟩ := (Kd.reads_of_C (d := false) (Kd.R_reads' HV.out).2.2).2.2 (by omega)
  obtain ⟨g, rfl⟩ := Kd.R_head HV.out
  have hgl : g < w3.heap.size := by
   by_cases z : g < w3.heap.size
   ·exact z
   ·have := hcells 0 (by omega)
    simp [World.cell?, Array.getElem?_eq_none (Nat.le_of_not_lt z), Addr.add] at this
  have HCE := Aside0.mk hcells
  have HGL := Aside0.mk hgl
  clear hg c1 hcells hgl HH
  gi_wp2
  refine ⟨trivial, ?_⟩
  refine (bw_make Fence.wide _ trivial rfl _ _ _ _).mono ?_
  rintro e w' ⟨rfl, rfl⟩
  gi_wp2
  have b2 : Below w.heap.size w w2 := below_step (below_alloc (below_alloc (Below.refl _ _) _) _) HB.out
  have b3 : Below w.heap.size w w3 := below_step (below_alloc b2 _) HB3.out
  have b4 : Below w.heap.size w (w3.alloc (.cells #[.slice (some ⟨g, 0, none⟩) l.length c2] 25)) := below_alloc b3 _
  have B4 := Aside0.mk b4
  have s2 : w.heap.size + 1 < w2.heap.size := by
   have := HB.out.size
   simp at this
   omega
  have s3 : w2.heap.size < w3.heap.size := by
   have := HB3.out.size
   simp at this
   omega
  have hb4 := below_alloc (below_step (below_alloc HB.out (.cells #[.slice A0 t.length c0, .slice A1 q.length c1] 33)) HB3.out) (.cells #[.slice (some ⟨g, 0, none⟩) l.length c2] 25)
  have x0 := (Boxed.new w 3 (.int .i64 0)).alloc (.cells #[.bool false] 4)
  have x1 := Boxed.new (w.alloc (.cells #[.int .i64 0] 3)) 4 (.bool false)
  rw [World.size_alloc] at x1
  have k0 : (w3.alloc (.cells #[.slice (some ⟨g, 0, none⟩) l.length c2] 25)).cell? ⟨w.heap.size, 0, none⟩ = some (.int .i64 0) := (hb4.cell (p := ⟨w.heap.size, 0, none⟩) (by simp; omega)).trans x0.cell
  have k1 : (w3.alloc (.cells #[.slice (some ⟨g, 0, none⟩) l.length c2] 25)).cell? ⟨w.heap.size + 1, 0, none⟩ = some (.bool false) := (hb4.cell (p := ⟨w.heap.size + 1, 0, none⟩) (by simp)).trans x1.cell
  have f0 : (w3.alloc (.cells #[.slice (some ⟨g, 0, none⟩) l.length c2] 25)).frozen? ⟨w.heap.size, 0, none⟩ = false := (hb4.frozen (p := ⟨w.heap.size, 0, none⟩) (by simp; omega)).trans x0.frozen
  have f1 : (w3.alloc (.cells #[.slice (some ⟨g, 0, none⟩) l.length c2] 25)).frozen? ⟨w.heap.size + 1, 0, none⟩ = false := (hb4.frozen (p := ⟨w.heap.size + 1, 0, none⟩) (by simp)).trans x1.frozen
  have kb : (w3.alloc (.cells #[.slice (some ⟨g, 0, none⟩) l.length c2] 25)).cell? ⟨w3.heap.size, 0, none⟩ = some (.slice (some ⟨g, 0, none⟩) l.length c2) := (Boxed.new w3 25 (.slice (some ⟨g, 0, none⟩) l.length c2)).cell
  have kc : ∀ j, j < l.length → (w3.alloc (.cells #[.slice (some ⟨g, 0, none⟩) l.length c2] 25)).cell? ⟨g, 0 + j, none⟩ = some (.bool (l[j]?.getD false)) := fun j hj => by
   have := (HCE.out) j hj
   rw [List.getD_eq_getElem?_getD, add_at] at this
   exact ((below_alloc (Below.refl _ w3) (.cells #[.slice (some ⟨g, 0, none⟩) l.length c2] 25)).cell (p := ⟨g, 0 + j, none⟩) HGL.out).trans this
  clear b2 b3 b4 hb4 x0 x1
  refine wpIn_rangeFunc_ownG (F := Fence.wide) rfl (by omega) (gf := 17) (lb := #[.pointer (some ⟨w3.heap.size, 0, none⟩)]) rfl trivial (enters_of Try.func17 (by kernel_rfl) rfl)
   (bw_stops Fence.wide _ trivial rfl (by omega) w3.heap.size (w3.heap.size + 1) g 0 c2 l (by have := HC1.out; omega) _ (by omega) (by have := HGL.out; omega) (by simp) kb kc) belowK_t (belowK_b (by simp)) (Below.refl _ _) (fun _ => rfl)
   (GapI w) (GapX w) (gapI_own w (by simp; omega)) (fun c => gapX_own w c (by simp; omega))
   ⟨⟨by simp, k0, f0, k1, f1⟩, B4.out⟩
   (fun x => { tmps := #[.string a0, undef, .pointer (some ⟨w.heap.size, 0, none⟩), .pointer (some ⟨w.heap.size + 1, 0, none⟩), .pointer (some ⟨w2.heap.size, 0, none⟩), .bool true, .slice (some ⟨g, 0, none⟩) l.length c2, .int .i64 (x.1 : Int), .bool x.2,
    .tuple #[.agg #[.slice A0 t.length c0, .slice A1 q.length c1], .bool true], .string a0, .tuple #[.agg #[.slice A0 t.length c0, .slice A1 q.length c1], .bool true], .agg #[.slice A0 t.length c0, .slice A1 q.length c1], .bool true, .bool true, .bool false, .agg #[.slice A0 t.length c0, .slice A1 q.length c1],
    .slice (some ⟨g, 0, none⟩) l.length c2, .slice (some ⟨g, 0, none⟩) l.length c2, .func (.func 17) #[] #[.pointer (some ⟨w3.heap.size, 0, none⟩)], .int .i64 (x.1 : Int), .bool x.2, undef, undef, undef, undef, undef, undef, undef, undef, undef, undef], defers := [] }) ?assign ?body ?done ?stop
  case assign =>
   intro l x W K hK
   gi_wp2
   exact hK
  case body =>
   rintro lc pre ⟨xn, xb⟩ W ⟨⟨hp, hc0, hf0, hc1, hf1⟩, hB⟩ _
   have HP := Aside0.mk hp
   clear hp
   dsimp only
   cases xb
   ·by_cases ht : wrap64 (1000 - (xn : Int)) ≤ 200
    ·gi_wp2
     have e : gapGo [(xn, false)] = (0, false) := by simp [gapGo, ht]
     exact ⟨((KeepsOthers.setCell _ _ _).trans (KeepsOthers.setCell _ _ _)).from _, ⟨rfl, pre, xn, rfl, HP.out, by rw [e]; exact (two_set hc0 hc1).1, by rw [e]; exact (two_set hc0 hc1).2⟩, (hB.setCell (p := ⟨w.heap.size, 0, none⟩) (Nat.le_refl _) _).setCell (p := ⟨w.heap.size + 1, 0, none⟩) (Nat.le_succ _) _⟩
    ·gi_wp2
     have e : gapGo [(xn, false)] = ((xn : Int), true) := by simp [gapGo, ht]
     exact ⟨((KeepsOthers.setCell _ _ _).trans (KeepsOthers.setCell _ _ _)).from _, ⟨rfl, pre, xn, rfl, HP.out, by rw [e]; exact (two_set hc0 hc1).1, by rw [e]; exact (two_set hc0 hc1).2⟩, (hB.setCell (p := ⟨w.heap.size, 0, none⟩) (Nat.le_refl _) _).setCell (p := ⟨w.heap.size + 1, 0, none⟩) (Nat.le_succ _) _⟩
   ·gi_wp2
    exact ⟨KeepsFrom.refl _ _, Below.refl _ _, ⟨fun p hp' => (List.mem_append.1 hp').elim (HP.out p) (fun e => by simp at e; subst e; rfl), hc0, hf0, hc1, hf1⟩, hB⟩
  case done =>
   rintro D ys W hD rfl ⟨⟨hne, hc0, hf0, hc1, hf1⟩, hB⟩ hK
   have NE := Aside0.mk hne
   clear hne
   gi_wp2
   have hK' := ((KeepsOthers.setCell W ⟨w.heap.size, 0, none⟩ (.int .i64 0)).trans (KeepsOthers.setCell _ ⟨w.heap.size + 1, 0, none⟩ (.bool false))).same D _ hK rfl
   refine ⟨by simp, .inl ⟨_, _, rfl, run_takeDeferred hK', ?_⟩⟩
   have hcA := cell_kept (two_set (v0 := .int .i64 0) (v1 := .bool false) hc0 hc1).1 (grownBy_putObj' _ D (.deferred none)) (fun r e => by cases e; exact ⟨_, hK', rfl⟩)
   have hcB := cell_kept (two_set (v0 := .int .i64 0) (v1 := .bool false) hc0 hc1).2 (grownBy_putObj' _ D (.deferred none)) (fun r e => by cases e; exact ⟨_, hK', rfl⟩)
   have e : (r1, r2) = (0, false) := by
    rw [← HG.out]
    unfold gapOut
    have := gapGo_all _ [] NE.out
    rw [List.append_nil] at this
    exact this
   cases e
   refine ⟨.tuple #[.int .i64 0, .bool false], ?_, rfl, ((hB.setCell (p := ⟨w.heap.size, 0, none⟩) (Nat.le_refl _) _).setCell (p := ⟨w.heap.size + 1, 0, none⟩) (Nat.le_succ _) _).trans (belowK_b (w := w) (Nat.le_refl _) _ D _ _ (by simp at hD; omega) hK' rfl rfl)⟩
   simp [results, Try.f5, go_sem, hcA, hcB]
  case stop =>
   rintro D c pre W hD ⟨k, hk, rfl⟩ ⟨⟨rfl, ini, n, e1, e2, e3, e4⟩, hB⟩ hK
   have hk := Aside0.mk hk
   have e1 := Aside0.mk e1
   have e2 := Aside0.mk e2
   gi_wp2
   refine ⟨by simp, .inl ⟨_, _, rfl, run_takeDeferred hK, ?_⟩⟩
   have hcA := cell_kept e3 (grownBy_putObj' _ D (.deferred none)) (fun r e => by cases e; exact ⟨_, hK, rfl⟩)
   have hcB := cell_kept e4 (grownBy_putObj' _ D (.deferred none)) (fun r e => by cases e; exact ⟨_, hK, rfl⟩)
   have e : (r1, r2) = gapGo [(n, false)] := by
    rw [← HG.out]
    unfold gapOut
    obtain ⟨r, hr⟩ := bw_pre l k hk.out
    rw [hr, e1.out, List.append_assoc, gapGo_all _ _ e2.out]
    exact gapGo_first n r
   rw [← e] at hcA hcB
   refine ⟨.tuple #[.int .i64 r1, .bool r2], ?_, rfl, hB.trans (belowK_b (w := w) (Nat.le_refl _) W D _ _ (by simp at hD; omega) hK rfl rfl)⟩
   simp [results, Try.f5, go_sem, hcA, hcB]
 ·have hok : ok = false := Bool.eq_false_iff.2 c
  subst hok
  dsimp only at h'
  rw [if_neg (by decide)] at h'
  obtain ⟨rfl, rfl⟩ := Prod.mk.inj (Option.some.inj h')
  clear h' c
  gi_wp2_with (refine ⟨trivial, ?_⟩; gi_at_call 9; refine (callsIn_wide.2 (SM.out _)).mono ?_; rintro e w2 ⟨v0, v1, rfl, h0, h1, hb⟩; obtain ⟨A0, c0, rfl⟩ := Kd.R_slice h0; obtain ⟨A1, c1, rfl⟩ := Kd.R_slice h1; have x0 := (Boxed.new w 3 (.int .i64 0)).alloc (.cells #[.bool false] 4); have x1 := Boxed.new (w.alloc (.cells #[.int .i64 0] 3)) 4 (.bool false); rw [World.size_alloc] at x1; have k0 : ∀ o, (w2.alloc o).cell? ⟨w.heap.size, 0, none⟩ = some (.int .i64 0) := (fun o => ((below_alloc hb o).cell (p := ⟨w.heap.size, 0, none⟩) (by simp; omega)).trans x0.cell); have k1 : ∀ o, (w2.alloc o).cell? ⟨w.heap.size + 1, 0, none⟩ = some (.bool false) := (fun o => ((below_alloc hb o).cell (p := ⟨w.heap.size + 1, 0, none⟩) (by simp)).trans x1.cell); have f0 : ∀ o, (w2.alloc o).frozen? ⟨w.heap.size, 0, none⟩ = false := (fun o => ((below_alloc hb o).frozen (p := ⟨w.heap.size, 0, none⟩) (by simp; omega)).trans x0.frozen); have f1 : ∀ o, (w2.alloc o).frozen? ⟨w.heap.size + 1, 0, none⟩ = false := (fun o => ((below_alloc hb o).frozen (p := ⟨w.heap.size + 1, 0, none⟩) (by simp)).trans x1.frozen); have s2 : w.heap.size + 1 < w2.heap.size := (by have := hb.size; simp at this; omega); have H0 := Aside0.mk h0; have H1 := Aside0.mk h1; have HB := Aside0.mk hb; clear h0 h1 hb x0 x1)
  have ct := two_set (v0 := .int .i64 0) (v1 := .bool false) (k0 (.cells #[.slice A0 t.length c0, .slice A1 q.length c1] 33)) (k1 (.cells #[.slice A0 t.length c0, .slice A1 q.length c1] 33))
  have hcA := ct.1
  have hcB := ct.2
  refine ⟨.tuple #[.int .i64 0, .bool false], ?_, rfl, ?_⟩
  ·simp [results, Try.f5, go_sem, hcA, hcB]
  ·exact ((below_alloc (below_step (below_alloc (below_alloc (Below.refl _ _) _) _) HB.out) _).setCell (p := ⟨w.heap.size, 0, none⟩) (Nat.le_refl _) _).setCell (p := ⟨w.heap.size + 1, 0, none⟩) (Nat.le_succ _) _
end

end Go.Proofs.Ytjfmcbkclmoioaa.G
