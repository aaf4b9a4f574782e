-- Made by gprint.py (the kit's print with contracts of this session's own among its functions).
import Derived.Test.YtkapeoigpdppeaaG0
namespace Go.Proofs.Ytkapeoigpdppeaa.G
open Go.RowKit Go.Proofs.YtkapeoigpdppeaaW.PrintWords Go.Proofs.YtkapeoigpdppeaaW.PrintLast Go.Proofs.YtkapeoigpdppeaaW.PrintMore
attribute [local go_sem] max2_int min2_int max_two min_two max_three min_three max_four min_four   -- for this text's walks alone
set_option linter.unusedVariables false
set_option linter.unusedSimpArgs false

/-! ### impl_in: function 32 -/
def impl_in.f (a0 : Int) (a1 : Int) (a2 : Int) : Option (Bool) := if a0 ≥ a1 then (some (decide (a0 ≤ a2))) else (some false)
set_option maxHeartbeats 8000000 in
set_option maxRecDepth 100000 in
theorem impl_in.calls (a0 : Int) (a1 : Int) (a2 : Int) (r : Bool) (w : World) (h : impl_in.f a0 a1 a2 = some r) :
  Calls Try.prog 32 #[.int .i64 a0, .int .i64 a1, .int .i64 a2] w fun e w' => e = .returned (.bool r) ∧ Drawn0 w w' := by
 have H : (if a0 ≥ a1 then (some (decide (a0 ≤ a2))) else (some false)) = some r := h
 clear h
 by_cases c4 : a0 ≥ a1
 ·rw [if_pos c4] at H
  have c4b0 : decide (a1 ≤ a0) = true := decide_eq_true c4
  clear c4
  obtain rfl := Option.some.inj H
  go_enter Try.func32, Try.ntmps32
  go_wp2
  go_ret
  exact ⟨by first | rfl | (simp; done) | (simp [*]; done), by repeat (first | exact Drawn0.refl _ | apply Drawn0.step)⟩
 ·rw [if_neg c4] at H
  have c4b0 : decide (a1 ≤ a0) = false := decide_eq_false c4
  clear c4
  obtain rfl := Option.some.inj H
  go_enter Try.func32, Try.ntmps32
  go_wp2
  go_ret
  exact ⟨by first | rfl | (simp; done) | (simp [*]; done), by repeat (first | exact Drawn0.refl _ | apply Drawn0.step)⟩

/-! ### stringslite_IndexByte: function 52 -/
def stringslite_IndexByte.f (a0 : ByteArray) (a1 : Int) : Option Int := some (Lib.indexByte a0.data.toList a1.toNat.toUInt8)
set_option maxHeartbeats 1000000 in
set_option maxRecDepth 100000 in
theorem ixb_calls (a0 : ByteArray) (a1 : Int) (w : World) :
  Calls Try.prog 52 #[.string a0, .int .u8 a1] w fun e w' => e = .returned (.int .i64 (Lib.indexByte a0.data.toList a1.toNat.toUInt8)) ∧ w' = w := by
 go_enter Try.func52, Try.ntmps52
 go_wp2
 rw [run_callFunc_extern Try.func56 (by kernel_rfl) (by kernel_rfl) (by kernel_rfl) (e := Extern.BytealgIndexByte.indexByte) (by kernel_rfl), Lib.run_indexByteString]
 simp only [Result.andThen]
 rw [Oper.upon_value]
 go_wp2
 go_ret
 exact ⟨rfl, rfl⟩
theorem stringslite_IndexByte.calls (a0 : ByteArray) (a1 : Int) (r : Int) (w : World) (h : stringslite_IndexByte.f a0 a1 = some r) :
  Calls Try.prog 52 #[.string a0, .int .u8 a1] w fun e w' => e = .returned (.int .i64 r) ∧ Drawn0 w w' := by
 obtain rfl := Option.some.inj h
 exact (ixb_calls a0 a1 w).mono fun e w' ⟨he, hw⟩ => ⟨he, by subst hw; exact Drawn0.refl _⟩

/-! ### stringslite_Index: function 50 -/
/-- At a text of one byte alone. -/
def stringslite_Index.f (a0 : ByteArray) (a1 : ByteArray) : Option Int := if a1.size = 1 then some (Lib.indexByte a0.data.toList (a1.data.toList.getD 0 0)) else none
theorem ix_one {s : ByteArray} (h : s.size = 1) : s = ⟨#[s.data.toList.getD 0 0]⟩ := by
 obtain ⟨⟨l⟩⟩ := s
 match l, h with
 | [c], _ => rfl
set_option maxHeartbeats 2000000 in
set_option maxRecDepth 100000 in
theorem ix_calls (s : ByteArray) (c : UInt8) (w : World) :
  Calls Try.prog 50 #[.string s, .string ⟨#[c]⟩] w fun e w' => e = .returned (.int .i64 (Lib.indexByte s.data.toList c)) ∧ w' = w := by
 go_enter Try.func50, Try.ntmps50
 go_wp2_with (go_at_call 52; refine (ixb_calls _ _ _).mono ?_; rintro e w' ⟨rfl, rfl⟩)
 ·have h : ([c] == s.toList) = true := by assumption
  go_ret
  refine ⟨?_, rfl⟩
  have e : s.data.toList = [c] := by rw [← Lib.toList_data]; exact (beq_iff_eq.1 h).symm
  rw [e]
  simp [Lib.indexByte]
 ·go_ret
  exact ⟨rfl, rfl⟩
theorem stringslite_Index.calls (a0 : ByteArray) (a1 : ByteArray) (r : Int) (w : World) (h : stringslite_Index.f a0 a1 = some r) :
  Calls Try.prog 50 #[.string a0, .string a1] w fun e w' => e = .returned (.int .i64 r) ∧ Drawn0 w w' := by
 unfold stringslite_Index.f at h
 by_cases h1 : a1.size = 1
 ·rw [if_pos h1] at h
  obtain rfl := Option.some.inj h
  rw [ix_one h1]
  exact (ix_calls a0 _ w).mono fun e w' ⟨he, hw⟩ => ⟨he, by subst hw; exact Drawn0.refl _⟩
 ·rw [if_neg h1] at h
  cases h

/-! ### strings_Index: function 38 -/
def strings_Index.f (a0 : ByteArray) (a1 : ByteArray) : Option (Int) := (stringslite_Index.f a0 a1).bind fun t101 => (some t101)
set_option maxHeartbeats 8000000 in
set_option maxRecDepth 100000 in
theorem strings_Index.calls (a0 : ByteArray) (a1 : ByteArray) (r : Int) (w : World) (h : strings_Index.f a0 a1 = some r) :
  Calls Try.prog 38 #[.string a0, .string a1] w fun e w' => e = .returned (.int .i64 r) ∧ Drawn0 w w' := by
 have H : ((stringslite_Index.f a0 a1).bind fun t101 => (some t101)) = some r := h
 clear h
 replace H := Option.bind_eq_some_iff.mp H
 obtain ⟨t101, A30, H⟩ := H
 replace H : (some t101) = some r := H
 have A3 := Aside0.mk A30
 clear A30
 obtain rfl := Option.some.inj H
 go_enter Try.func38, Try.ntmps38
 go_wp2_with (first | ((with_reducible refine gate_callee (f := 50) rfl ?_); refine goesL_ (some 7) rfl rfl Try.func50 (by kernel_rfl) rfl #[.string a0, .string a1] rfl (by (try simp only [List.map_toArray, List.map_cons, List.map_nil]); first | done | rfl | (simp only [List.length_drop, List.length_take]; rfl)) ?_; (with_reducible refine (stringslite_Index.calls a0 a1 t101 _ A3.out).mono ?_); rintro e w' ⟨rfl, ⟨nd, rfl⟩⟩; refine ⟨_, rfl, ?_⟩))
 go_ret
 exact ⟨by first | rfl | (simp; done) | (simp [*]; done), by repeat (first | exact Drawn0.refl _ | apply Drawn0.step)⟩

/-! ### strings_Contains: function 49 -/
def strings_Contains.f (a0 : ByteArray) (a1 : ByteArray) : Option (Bool) := (strings_Index.f a0 a1).bind fun t102 => (some (decide (t102 ≥ 0)))
set_option maxHeartbeats 8000000 in
set_option maxRecDepth 100000 in
theorem strings_Contains.calls (a0 : ByteArray) (a1 : ByteArray) (r : Bool) (w : World) (h : strings_Contains.f a0 a1 = some r) :
  Calls Try.prog 49 #[.string a0, .string a1] w fun e w' => e = .returned (.bool r) ∧ Drawn0 w w' := by
 have H : ((strings_Index.f a0 a1).bind fun t102 => (some (decide (t102 ≥ 0)))) = some r := h
 clear h
 replace H := Option.bind_eq_some_iff.mp H
 obtain ⟨t102, A30, H⟩ := H
 replace H : (some (decide (t102 ≥ 0))) = some r := H
 have A3 := Aside0.mk A30
 clear A30
 obtain rfl := Option.some.inj H
 go_enter Try.func49, Try.ntmps49
 go_wp2_with (first | ((with_reducible refine gate_callee (f := 38) rfl ?_); refine goesL_ (some 7) rfl rfl Try.func38 (by kernel_rfl) rfl #[.string a0, .string a1] rfl (by (try simp only [List.map_toArray, List.map_cons, List.map_nil]); first | done | rfl | (simp only [List.length_drop, List.length_take]; rfl)) ?_; (with_reducible refine (strings_Index.calls a0 a1 t102 _ A3.out).mono ?_); rintro e w' ⟨rfl, ⟨nd, rfl⟩⟩; refine ⟨_, rfl, ?_⟩))
 go_ret
 exact ⟨by first | rfl | (simp; done) | (simp [*]; done), by repeat (first | exact Drawn0.refl _ | apply Drawn0.step)⟩

/-! ### impl_TermIn: function 11 -/
def tp_ptr : Kd (Option Addr) := Kd.scalar Value.pointer (fun _ => rfl)
theorem tp_info : (Try.prog.info? 36).map (fun i => (i.zero, i.size, i.bytes)) = some (some (.pointer none), 1, 8) := by kernel_rfl
def tp_leaf (c : UInt8) : Bool := c == 48 || c == 49 || c == 97
def tp_one (c : UInt8) : Bool := c == 42 || (50 ≤ c.toNat && c.toNat ≤ 53)
def tp_op (c : UInt8) : Bool := c == 43 || c == 46 || c == 38
def tp_last : Option (List UInt8) → Option (List UInt8)
 | some (e :: q) => if (e == 41) = true then some q else none
 | _ => none
def tp_two (f : List UInt8 → Option (List UInt8)) : Option (List UInt8) → Option (List UInt8)
 | some (d :: r) => if tp_op d = true then tp_last (f r) else none
 | _ => none
/-- What is left behind a term; none if there is no term. -/
def tp_rest : Nat → List UInt8 → Option (List UInt8)
 | 0, _ => none
 | _ + 1, [] => none
 | n + 1, c :: s =>
  if tp_leaf c = true then some s
  else if tp_one c = true then tp_rest n s
  else if (c == 40) = true then tp_two (tp_rest n) (tp_rest n s)
  else none
theorem tp_idy (d : UInt8) : decide ((Lib.indexByte [41] d : Int) ≥ 0) = (d == 41) := by
 by_cases h : d = 41
 ·subst h
  rfl
 ·rw [Lib.indexByte, if_neg (by simpa using fun e => h e.symm), (show (d == 41) = false from beq_eq_false_iff_ne.2 h)]
  rfl
theorem tp_idx (d : UInt8) : decide ((Lib.indexByte [43, 46, 38] d : Int) ≥ 0) = tp_op d := by
 by_cases h : d = 43
 ·subst h
  rfl
 by_cases h2 : d = 46
 ·subst h2
  rfl
 by_cases h3 : d = 38
 ·subst h3
  rfl
 ·have e : tp_op d = false := by
   rw [tp_op, (show (d == 43) = false from beq_eq_false_iff_ne.2 h), (show (d == 46) = false from beq_eq_false_iff_ne.2 h2), (show (d == 38) = false from beq_eq_false_iff_ne.2 h3)]
   rfl
  have g3 : Lib.indexByte [38] d = -1 := by
   rw [Lib.indexByte, if_neg (by simpa using fun e => h3 e.symm)]
   rfl
  have g2 : Lib.indexByte [46, 38] d = -1 := by
   rw [Lib.indexByte, if_neg (by simpa using fun e => h2 e.symm), g3]
   rfl
  have g1 : Lib.indexByte [43, 46, 38] d = -1 := by
   rw [Lib.indexByte, if_neg (by simpa using fun e => h e.symm), g2]
   rfl
  rw [e, g1]
  rfl
theorem tp_blk {w : World} {g : Nat} {u v x : Value} {T : TypeId} (h : w.heap[g]? = some (.cells #[u, v] T (0, 0))) (o : Obj) (n : Nat) (y : Value) : ((((w.setCell ⟨g, 1, none⟩ x).alloc o).drewN n).setCell ⟨g, 0, none⟩ y).heap[g]? = some (.cells #[y, x] T (0, 0)) :=
 blk_set (blk_drewN (blk_alloc (blk_set h 1 x) o) n) 0 y
theorem tp_bytes {t : ByteArray} {q : List UInt8} (h : t.data.toList = q) : t = ⟨q.toArray⟩ := by
 obtain ⟨⟨p⟩⟩ := t
 simp at h
 rw [h]
theorem tp_tail {t : ByteArray} {d : UInt8} {r : List UInt8} (h : t.data.toList = d :: r) : (t.extract 1 (r.length + 1)).data.toList = r ∧ (t.extract 1 (r.length + 1)).size = r.length := by
 have e : (t.extract 1 (r.length + 1)).data.toList = r := by
  rw [Lib.extract_eq, h]
  simp
 exact ⟨e, by rw [Lib.size_eq, e]⟩
theorem tp_len (n : Nat) : ∀ (l r : List UInt8), tp_rest n l = some r → r.length < l.length := by
 induction n with
 | zero =>
  intro l r h
  simp [tp_rest] at h
 | succ n ih =>
  intro l r h
  cases l with
  | nil => simp [tp_rest] at h
  | cons c s =>
   rw [tp_rest] at h
   split at h
   ·cases h
    simp
   ·split at h
    ·have := ih _ _ h
     simp
     omega
    ·split at h
     ·cases h1 : tp_rest n s with
      | none =>
       rw [h1] at h
       simp [tp_two] at h
      | some r1 =>
       rw [h1] at h
       cases r1 with
       | nil => simp [tp_two] at h
       | cons d r1 =>
        rw [tp_two] at h
        split at h
        ·cases h2 : tp_rest n r1 with
         | none =>
          rw [h2] at h
          simp [tp_last] at h
         | some r2 =>
          rw [h2] at h
          cases r2 with
          | nil => simp [tp_last] at h
          | cons e q =>
           rw [tp_last] at h
           split at h
           ·cases h
            have a1 := ih _ _ h1
            have a2 := ih _ _ h2
            simp at a1 a2 ⊢
            omega
           ·cases h
        ·cases h
     ·cases h
theorem tp_head {t : ByteArray} {d : UInt8} {r : List UInt8} (h : t.data.toList = d :: r) : t.extract 0 1 = ⟨#[d]⟩ := by
 have e : (t.extract 0 1).data.toList = [d] := by
  rw [Lib.extract_eq, h]
  simp
 exact tp_bytes e
theorem tp_has {t : ByteArray} {d : UInt8} {r : List UInt8} (h : t.data.toList = d :: r) : strings_Contains.f ⟨#[43, 46, 38]⟩ (t.extract 0 1) = some (tp_op d) := by
 rw [tp_head h, ← tp_idx]
 rfl
theorem tp_hay {t : ByteArray} {d : UInt8} {r : List UInt8} (h : t.data.toList = d :: r) : strings_Contains.f ⟨#[41]⟩ (t.extract 0 1) = some (d == 41) := by
 rw [tp_head h, ← tp_idy]
 rfl
def tp_out (o : Option (List UInt8)) (e : Ending) : Prop := match o with
 | none => e = .returned (.tuple #[.pointer none, .string ⟨#[]⟩])
 | some r => ∃ (g : Nat) (t : ByteArray), t.data.toList = r ∧ e = .returned (.tuple #[.pointer (some ⟨g, 0, none⟩), .string t])
set_option maxHeartbeats 8000000 in
set_option maxRecDepth 100000 in
theorem tp_parse (n : Nat) : ∀ (s : ByteArray) (w : World), s.size < n → s.size ≤ 1000 →
  Calls Try.prog 35 #[.string s] w fun e w' => tp_out (tp_rest n s.data.toList) e ∧ Below w.heap.size w w' := by
 induction n with
 | zero =>
  intro s w h
  omega
 | succ n ih =>
  intro s w hs hm
  have IH := Aside0.mk ih
  have hu_ := Try.underlying63
  clear ih
  match hl : s.data.toList with
  | [] =>
   have e : s = ⟨#[]⟩ := by
    obtain ⟨⟨q⟩⟩ := s
    simp at hl
    rw [hl]
   subst e
   go_enter Try.func35, Try.ntmps35
   go_wp2
   go_ret2
   exact ⟨rfl, Below.refl _ _⟩
  | c :: l =>
   have hsz : s.size = l.length + 1 := by
    have : s.size = s.data.toList.length := Lib.size_eq s
    rw [this, hl]
    rfl
   have hne : (s.toList == []) = false := by
    rw [Lib.toList_data, hl]
    rfl
   have hne2 : ([] == s.toList) = false := by
    rw [Lib.toList_data, hl]
    rfl
   have h0 : 0 < s.size := by omega
   have hb := bt_at s 0
   have hbc : bt s 0 = (c.toNat : Int) := by
    unfold bt
    rw [dif_pos (by simpa using h0)]
    have : s.data.toList[0]'(by rw [hl]; simp) = c := by simp [hl]
    rw [← this]
    rfl
   have hx : ((s[0]'h0).toNat : Int) = (c.toNat : Int) := by
    rw [← hbc]
    unfold bt
    rw [dif_pos (by simpa using h0)]
    rfl
   have HSZ := Aside0.mk hsz
   have HL := Aside0.mk hl
   have hX : (s.extract 1 s.size).data.toList = l := by
    rw [Lib.extract_eq, hl]
    simp
    exact List.take_of_length_le (by omega)
   have hXs : (s.extract 1 s.size).size = l.length := by
    have : (s.extract 1 s.size).size = (s.extract 1 s.size).data.toList.length := Lib.size_eq _
    rw [this, hX]
   have HX := Aside0.mk hX
   have HXS := Aside0.mk hXs
   have mixed : Try.prog.follows Departure.mixedOrders = true := by kernel_rfl
   clear hsz hl hbc hb hX hXs
   by_cases k1 : tp_leaf c = true
   ·have hr : tp_rest (n + 1) (c :: l) = some l := by
     rw [tp_rest, if_pos k1]
    rw [hr]
    have hc : c = 48 ∨ c = 49 ∨ c = 97 := by
     unfold tp_leaf at k1
     simpa [or_assoc] using k1
    clear k1 hr
    rcases hc with rfl | rfl | rfl
    all_goals
     go_enter Try.func35, Try.ntmps35
     go_wp2
     go_region_o
     all_goals (go_wp2; go_ret2; exact ⟨⟨_, _, HX.out, rfl⟩, below_drew1 (below_alloc (Below.refl _ _) _)⟩)
   ·by_cases k2 : tp_one c = true
    ·have hr : tp_rest (n + 1) (c :: l) = tp_rest n l := by
      rw [tp_rest, if_neg k1, if_pos k2]
     rw [hr]
     have hc : c = 42 ∨ c = 50 ∨ c = 51 ∨ c = 52 ∨ c = 53 := by
      unfold tp_one at k2
      simp only [Bool.or_eq_true, beq_iff_eq, Bool.and_eq_true, decide_eq_true_eq] at k2
      rcases k2 with z | ⟨z1, z2⟩
      ·exact .inl z
      ·have : c.toNat = 50 ∨ c.toNat = 51 ∨ c.toNat = 52 ∨ c.toNat = 53 := by omega
       rcases this with z | z | z | z
       ·exact .inr (.inl (UInt8.toNat_inj.1 z))
       ·exact .inr (.inr (.inl (UInt8.toNat_inj.1 z)))
       ·exact .inr (.inr (.inr (.inl (UInt8.toNat_inj.1 z))))
       ·exact .inr (.inr (.inr (.inr (UInt8.toNat_inj.1 z))))
     clear k1 k2 hr
     rcases hc with rfl | rfl | rfl | rfl | rfl
     all_goals
      go_enter Try.func35, Try.ntmps35
      go_wp2_with (first | (go_at_call 32; (with_reducible refine (impl_in.calls _ _ _ true _ (by decide)).mono ?_); rintro e w' ⟨rfl, ⟨nd, rfl⟩⟩))
      refine wp_loop_rounds 3 ?_
      rw [rounds_succ]
      go_wp2_with fail
      refine (IH.out (s.extract 1 s.size) _ (by have := HXS.out; have := HSZ.out; omega) (by have := HXS.out; have := HSZ.out; omega)).mono ?_
      rintro e W2 ⟨ho, hb⟩
      rw [HX.out] at ho
      have HB2 := Aside0.mk (below_step (w := w) (by repeat (first | exact Below.refl _ _ | apply below_alloc | apply pw_below_drewN | apply below_drew1)) hb)
      obtain ⟨u, bk⟩ : ∃ u, W2.heap[w.heap.size]? = some (.cells #[u, .slice none 0 0] 63 (0, 0)) := ⟨_, blk_below (by (with_reducible repeat (first | refine blk_drewN ?_ _ | refine blk_drew ?_)); exact blk_new w _) hb⟩
      have BK := Aside0.mk bk
      have c1 : W2.cell? ⟨w.heap.size, 1, none⟩ = some (.slice none 0 0) := (blk_cell bk 1).trans rfl
      clear hb bk
      cases hq : tp_rest n l with
      | none =>
       rw [hq] at ho
       obtain rfl : e = _ := ho
       have HQ := Aside0.mk hq
       clear hq
       go_wp2
       go_ret2
       rw [HQ.out]
       exact ⟨rfl, HB2.out⟩
      | some r =>
       rw [hq] at ho
       obtain ⟨g2, t2, ht2, rfl⟩ := ho
       have HT2 := Aside0.mk ht2
       have HQ := Aside0.mk hq
       clear hq ht2
       have cA : ∀ o1 o2 : Obj, ((W2.alloc o1).alloc o2).cell? ⟨w.heap.size, 1, none⟩ = some (.slice none 0 0) := fun o1 o2 => (blk_cell (blk_alloc (blk_alloc BK.out o1) o2) 1).trans rfl
       have fA : ∀ o1 o2 : Obj, ((W2.alloc o1).alloc o2).frozen? ⟨w.heap.size, 1, none⟩ = false := fun o1 o2 => blk_frozen (blk_alloc (blk_alloc BK.out o1) o2) 1
       have cB : ∀ o1 o2 : Obj, ((W2.alloc o1).alloc o2).drew.cell? ⟨w.heap.size, 1, none⟩ = some (.slice none 0 0) := fun o1 o2 => (blk_cell (blk_drew (blk_alloc (blk_alloc BK.out o1) o2)) 1).trans rfl
       have fB : ∀ o1 o2 : Obj, ((W2.alloc o1).alloc o2).drew.frozen? ⟨w.heap.size, 1, none⟩ = false := fun o1 o2 => blk_frozen (blk_drew (blk_alloc (blk_alloc BK.out o1) o2)) 1
       go_wp2
       rw [rounds_succ]
       go_wp2
       go_ret2
       rw [HQ.out]
       exact ⟨⟨_, _, HT2.out, rfl⟩, by repeat (first | exact HB2.out | apply below_drew1 | apply below_alloc | refine below_set ?_ (Nat.le_refl _))⟩
    ·by_cases k3 : (c == 40) = true
     ·have hr : tp_rest (n + 1) (c :: l) = tp_two (tp_rest n) (tp_rest n l) := by
       rw [tp_rest, if_neg k1, if_neg k2, if_pos k3]
      rw [hr]
      obtain rfl : c = 40 := by simpa using k3
      clear k1 k2 k3 hr
      go_enter Try.func35, Try.ntmps35
      go_wp2_with (first | (go_at_call 32; (with_reducible refine (impl_in.calls _ _ _ false _ (by decide)).mono ?_); rintro e w' ⟨rfl, ⟨nd, rfl⟩⟩))
      refine wp_loop_rounds 4 ?_
      rw [rounds_succ]
      go_wp2_with fail
      refine (IH.out (s.extract 1 s.size) _ (by have := HXS.out; have := HSZ.out; omega) (by have := HXS.out; have := HSZ.out; omega)).mono ?_
      rintro e W2 ⟨ho, hb⟩
      rw [HX.out] at ho
      have HB2 := Aside0.mk (below_step (w := w) (by repeat (first | exact Below.refl _ _ | apply below_alloc | apply pw_below_drewN | apply below_drew1)) hb)
      obtain ⟨u, bk⟩ : ∃ u, W2.heap[w.heap.size]? = some (.cells #[u, .slice none 0 0] 63 (0, 0)) := ⟨_, blk_below (by (with_reducible repeat (first | refine blk_drewN ?_ _ | refine blk_drew ?_)); exact blk_new w _) hb⟩
      have BK := Aside0.mk bk
      have c1 : W2.cell? ⟨w.heap.size, 1, none⟩ = some (.slice none 0 0) := (blk_cell bk 1).trans rfl
      clear hb bk
      cases hq : tp_rest n l with
      | none =>
       rw [hq] at ho
       obtain rfl : e = _ := ho
       have HQ := Aside0.mk hq
       clear hq
       go_wp2
       go_ret2
       rw [HQ.out]
       exact ⟨rfl, HB2.out⟩
      | some r =>
       rw [hq] at ho
       obtain ⟨g2, t2, ht2, rfl⟩ := ho
       have HT2 := Aside0.mk ht2
       have HQ := Aside0.mk hq
       clear hq ht2
       go_wp2_with (first | ((with_reducible refine gate_builtin (b := .append) (xs := #[.tmp 65, .tmp 67]) rfl ?_); at_builtin; refine Kd.R_append tp_ptr (w0 := w) w.heap.size rfl (.tmp 65) (.tmp 67) 61 36 (.pointer none) 8 rfl Try.underlying61 tp_info rfl (by decide) (by omega) (.slice none 0 0) [] (some ⟨g2, 0, none⟩) [.pointer (some ⟨g2, 0, none⟩)] (fun k => w.heap.size < k) (fun _ => False) rfl rfl ?aP (fun _ hk => hk.elim) ?aF ?aO ?aB ?aS ?aL ?_))
       case aP => exact rfl
       case aB => exact HB2.out
       case aF => exact (fun _ hk => Nat.lt_of_lt_of_le (blk_lt BK.out) hk)
       case aO => exact Kd.R_nil _ _ _ _ _
       case aS => exact Nat.le_of_lt (blk_lt BK.out)
       case aL => simp
       intro v9 w9 ho9 hb9 hg9 hat9
       have HO9 := Aside0.mk ho9
       obtain ⟨Ao9, co9, e9⟩ := Kd.R_slice ho9
       replace e9 : v9 = .slice Ao9 1 co9 := e9
       subst e9
       have bk9 := blk_grown BK.out hg9 (by simp [Value.ownBlock])
       have d1 : w9.cell? ⟨w.heap.size, 1, none⟩ = some (.slice none 0 0) := (blk_cell bk9 1).trans rfl
       have f1 := blk_frozen bk9 1
       have HB10 := Aside0.mk (below_set (j := 1) (v := .slice Ao9 1 co9) hb9 (Nat.le_refl _))
       have BK9 := Aside0.mk bk9
       clear ho9 hb9 hg9 hat9 bk9
       cases r with
       | nil =>
        have tne : (t2.toList == []) = true := by
         rw [Lib.toList_data, HT2.out]
         rfl
        have tne2 : ([] == t2.toList) = true := by
         rw [Lib.toList_data, HT2.out]
         rfl
        go_wp2
        go_ret2
        rw [HQ.out]
        exact ⟨rfl, by with_reducible repeat (first | exact HB10.out | apply below_drew1 | apply below_alloc | refine below_set ?_ (Nat.le_refl _))⟩
       | cons d r =>
        have tne : (t2.toList == []) = false := by
         rw [Lib.toList_data, HT2.out]
         rfl
        have tne2 : ([] == t2.toList) = false := by
         rw [Lib.toList_data, HT2.out]
         rfl
        have tsz : t2.size = r.length + 1 := by
         have : t2.size = t2.data.toList.length := Lib.size_eq t2
         rw [this, HT2.out]
         rfl
        have t0 : 0 < t2.size := by omega
        have cD : ∀ (v : Value) (o : Obj), ((w9.setCell ⟨w.heap.size, 1, none⟩ v).alloc o).cell? ⟨w.heap.size, 0, none⟩ = some u := fun v o => (blk_cell (blk_alloc (blk_set BK9.out 1 v) o) 0).trans rfl
        have fD : ∀ (v : Value) (o : Obj), ((w9.setCell ⟨w.heap.size, 1, none⟩ v).alloc o).frozen? ⟨w.heap.size, 0, none⟩ = false := fun v o => blk_frozen (blk_alloc (blk_set BK9.out 1 v) o) 0
        go_wp2_with (first | (go_at_call 49; (with_reducible refine (strings_Contains.calls _ _ (tp_op d) _ (tp_has HT2.out)).mono ?_); rintro e w' ⟨rfl, ⟨nd2, rfl⟩⟩))
        ·have hd : tp_op d = false := by simpa using (by assumption : (!tp_op d) = true)
         go_ret2
         rw [HQ.out]
         refine ⟨?_, by with_reducible repeat (first | exact HB10.out | apply pw_below_drewN | apply below_drew1 | apply below_alloc | refine below_set ?_ (Nat.le_refl _))⟩
         rw [tp_two, if_neg (by rw [hd]; decide)]
         rfl
        ·have hd : tp_op d = true := by simpa using (by assumption : (!tp_op d) = false)
         have hll := tp_len n _ _ HQ.out
         rw [List.length_cons] at hll
         obtain ⟨hx2, hxs2⟩ := tp_tail HT2.out
         have HX2 := Aside0.mk hx2
         clear hx2
         have RT : tp_two (tp_rest n) (tp_rest n l) = tp_last (tp_rest n r) := by
          rw [HQ.out, tp_two, if_pos hd]
         have RT0 := Aside0.mk RT
         clear RT hd
         rw [rounds_succ]
         go_wp2_with fail
         refine (IH.out (t2.extract 1 (r.length + 1)) _ (by have := HSZ.out; omega) (by have := HSZ.out; omega)).mono ?_
         rintro e W4 ⟨ho, hb⟩
         rw [HX2.out] at ho
         have HB4 := Aside0.mk (below_step (w := w) (by with_reducible repeat (first | exact HB10.out | apply pw_below_drewN | apply below_drew1 | apply below_alloc | refine below_set ?_ (Nat.le_refl _))) hb)
         have ho4 : tp_ptr.R 36 W4 w.heap.size (fun k => w.heap.size < k) (.slice Ao9 1 co9) [some ⟨g2, 0, none⟩] := by
          refine Kd.R_below ?_ hb
          with_reducible repeat (first | refine Kd.R_drewN ?_ _ | refine Kd.R_drew ?_ | refine Kd.R_alloc ?_ _ | refine Kd.R_far ?_ (fun k hk => Nat.ne_of_gt hk) _)
          exact HO9.out
         have HO4 := Aside0.mk ho4
         obtain ⟨u4, bk4⟩ : ∃ u4, W4.heap[w.heap.size]? = some (.cells #[u4, .slice Ao9 1 co9] 63 (0, 0)) := by
          exact ⟨_, blk_below (tp_blk BK9.out _ _ _) hb⟩
         have BK4 := Aside0.mk bk4
         have c4 : W4.cell? ⟨w.heap.size, 1, none⟩ = some (.slice Ao9 1 co9) := (blk_cell bk4 1).trans rfl
         clear hb bk4 ho4 cD fD
         cases hq2 : tp_rest n r with
         | none =>
          rw [hq2] at ho
          obtain rfl : e = _ := ho
          have HQ2 := Aside0.mk hq2
          clear hq2
          go_wp2
          go_ret2
          rw [RT0.out, HQ2.out]
          exact ⟨rfl, HB4.out⟩
         | some r2 =>
          rw [hq2] at ho
          obtain ⟨g4, t4, ht4, rfl⟩ := ho
          have HT4 := Aside0.mk ht4
          have HQ2 := Aside0.mk hq2
          clear hq2 ht4
          go_wp2_with (first | ((with_reducible refine gate_builtin (b := .append) (xs := #[.tmp 65, .tmp 67]) rfl ?_); at_builtin; refine Kd.R_append tp_ptr (w0 := w) w.heap.size rfl (.tmp 65) (.tmp 67) 61 36 (.pointer none) 8 rfl Try.underlying61 tp_info rfl (by decide) (by omega) (.slice Ao9 1 co9) [some ⟨g2, 0, none⟩] (some ⟨g4, 0, none⟩) [.pointer (some ⟨g4, 0, none⟩)] (fun k => w.heap.size < k) (fun _ => False) rfl rfl ?aP (fun _ hk => hk.elim) ?aF ?aO ?aB ?aS ?aL ?_))
          case aP => exact rfl
          case aB => exact HB4.out
          case aF => exact (fun _ hk => Nat.lt_of_lt_of_le (blk_lt BK4.out) hk)
          case aO => exact HO4.out
          case aS => exact Nat.le_of_lt (blk_lt BK4.out)
          case aL => simp
          intro v5 w5 ho5 hb5 hg5 hat5
          obtain ⟨Ao5, co5, e5⟩ := Kd.R_slice ho5
          replace e5 : v5 = .slice Ao5 2 co5 := e5
          subst e5
          have bk5 := blk_grown BK4.out hg5 (fun he => absurd (HO4.out.1 _ he.symm) (Nat.lt_irrefl _))
          have d5 : w5.cell? ⟨w.heap.size, 1, none⟩ = some (.slice Ao9 1 co9) := (blk_cell bk5 1).trans rfl
          have f5 := blk_frozen bk5 1
          have HB5 := Aside0.mk (below_set (j := 1) (v := .slice Ao5 2 co5) hb5 (Nat.le_refl _))
          clear ho5 hb5 hg5 hat5 bk5
          cases r2 with
          | nil =>
           have tne : (t4.toList == []) = true := by
            rw [Lib.toList_data, HT4.out]
            rfl
           have tne2 : ([] == t4.toList) = true := by
            rw [Lib.toList_data, HT4.out]
            rfl
           go_wp2
           go_ret2
           rw [RT0.out, HQ2.out]
           exact ⟨rfl, by with_reducible repeat (first | exact HB5.out | apply pw_below_drewN | apply below_drew1 | apply below_alloc | refine below_set ?_ (Nat.le_refl _))⟩
          | cons d4 r4 =>
           have tne : (t4.toList == []) = false := by
            rw [Lib.toList_data, HT4.out]
            rfl
           have tne2 : ([] == t4.toList) = false := by
            rw [Lib.toList_data, HT4.out]
            rfl
           have tsz : t4.size = r4.length + 1 := by
            have : t4.size = t4.data.toList.length := Lib.size_eq t4
            rw [this, HT4.out]
            rfl
           have t0 : 0 < t4.size := by omega
           go_wp2_with (first | (go_at_call 49; (with_reducible refine (strings_Contains.calls _ _ (d4 == 41) _ (tp_hay HT4.out)).mono ?_); rintro e w' ⟨rfl, ⟨nd4, rfl⟩⟩))
           ·have hd : (d4 == 41) = false := by simpa using (by assumption : (!(d4 == 41)) = true)
            go_ret2
            rw [RT0.out, HQ2.out]
            refine ⟨?_, by with_reducible repeat (first | exact HB5.out | apply pw_below_drewN | apply below_drew1 | apply below_alloc | refine below_set ?_ (Nat.le_refl _))⟩
            rw [tp_last, if_neg (by rw [hd]; decide)]
            rfl
           ·have hd : (d4 == 41) = true := by simpa using (by assumption : (!(d4 == 41)) = false)
            rw [rounds_succ]
            go_wp2
            go_ret2
            rw [RT0.out, HQ2.out, tp_last, if_pos hd]
            exact ⟨⟨_, _, (tp_tail HT4.out).1, rfl⟩, by with_reducible repeat (first | exact HB5.out | apply pw_below_drewN | apply below_drew1 | apply below_alloc | refine below_set ?_ (Nat.le_refl _))⟩
     ·have hr : tp_rest (n + 1) (c :: l) = none := by
       rw [tp_rest, if_neg k1, if_neg k2, if_neg k3]
      rw [hr]
      have ne : ∀ x : UInt8, x ≠ c → ((c.toNat : Int) ≠ (x.toNat : Int)) := fun x hx e => hx (UInt8.toNat_inj.1 (by omega))
      have e1 : ((c.toNat : Int) == 48) = false := beq_eq_false_iff_ne.2 (ne 48 (by rintro rfl; exact k1 rfl))
      have e2 : ((c.toNat : Int) == 49) = false := beq_eq_false_iff_ne.2 (ne 49 (by rintro rfl; exact k1 rfl))
      have e3 : ((c.toNat : Int) == 97) = false := beq_eq_false_iff_ne.2 (ne 97 (by rintro rfl; exact k1 rfl))
      have e4 : ((c.toNat : Int) == 42) = false := beq_eq_false_iff_ne.2 (ne 42 (by rintro rfl; exact k2 rfl))
      have e5 : ((c.toNat : Int) == 40) = false := beq_eq_false_iff_ne.2 (ne 40 (by rintro rfl; exact k3 rfl))
      have e6 : impl_in.f (wrap64 (c.toNat : Int)) 50 53 = some false := by
       have hc := c.toNat_lt
       rw [show wrap64 (c.toNat : Int) = (c.toNat : Int) from by unfold wrap64; omega]
       have h1 : ¬ (50 ≤ c.toNat ∧ c.toNat ≤ 53) := by
        rintro ⟨z1, z2⟩
        exact k2 (by unfold tp_one; rw [decide_eq_true z2, (show decide (50 ≤ c.toNat) = true from decide_eq_true z1)]; simp)
       simp [impl_in.f]
       omega
      have E6 := Aside0.mk e6
      clear k1 k2 k3 hr ne e6
      go_enter Try.func35, Try.ntmps35
      go_wp2_with (first | (go_at_call 32; (with_reducible refine (impl_in.calls _ _ _ false _ E6.out).mono ?_); rintro e w' ⟨rfl, ⟨nd, rfl⟩⟩))
      go_ret2
      exact ⟨rfl, by with_reducible repeat (first | exact Below.refl _ _ | apply below_alloc | apply pw_below_drewN | apply below_drew1)⟩
def tp_in (l : List UInt8) : Bool := decide (l.length ≤ 60) && (tp_rest 61 l == some [])
theorem tp_nil {t : ByteArray} (h : t.data.toList = []) : t = ⟨#[]⟩ := tp_bytes h
set_option maxHeartbeats 8000000 in
set_option maxRecDepth 100000 in
theorem tp_termOf (s : ByteArray) (w : World) :
  Calls Try.prog 23 #[.string s] w fun e w' => (∃ p : Option Addr, e = .returned (.pointer p) ∧ p.isSome = tp_in s.data.toList) ∧ Below w.heap.size w w' := by
 have hsz : s.size = s.data.toList.length := Lib.size_eq s
 by_cases hl : s.size ≤ 60
 ·have PC := Aside0.mk (tp_parse 61 s)
  have HD := Aside0.mk (show decide (s.data.toList.length ≤ 60) = true from decide_eq_true (by omega))
  have HL := Aside0.mk hl
  clear hsz
  go_enter Try.func23, Try.ntmps23
  go_wp2_with fail
  refine (PC.out _ (by have := HL.out; omega) (by have := HL.out; omega)).mono ?_
  rintro e W2 ⟨ho, hb⟩
  cases hq : tp_rest 61 s.data.toList with
  | none =>
   rw [hq] at ho
   obtain rfl : e = _ := ho
   have HQ := Aside0.mk hq
   have HB := Aside0.mk hb
   clear hq hb
   go_wp2
   go_ret
   refine ⟨⟨none, rfl, ?_⟩, HB.out⟩
   rw [tp_in, HD.out, HQ.out]
   rfl
  | some r =>
   rw [hq] at ho
   obtain ⟨g, t, ht, rfl⟩ := ho
   have HQ := Aside0.mk hq
   have HB := Aside0.mk hb
   clear hq hb
   cases r with
   | nil =>
    obtain rfl := tp_nil ht
    clear ht
    go_wp2
    go_ret
    refine ⟨⟨some ⟨g, 0, none⟩, rfl, ?_⟩, HB.out⟩
    rw [tp_in, HD.out, HQ.out]
    rfl
   | cons c r =>
    have tne : (t.toList == []) = false := by
     rw [Lib.toList_data, ht]
     rfl
    have tne2 : ([] == t.toList) = false := by
     rw [Lib.toList_data, ht]
     rfl
    clear ht
    go_wp2
    go_ret
    refine ⟨⟨none, rfl, ?_⟩, HB.out⟩
    rw [tp_in, HD.out, HQ.out]
    rfl
 ·have hd : tp_in s.data.toList = false := by
   rw [tp_in, decide_eq_false (by omega)]
   rfl
  rw [hd]
  clear hsz hd
  go_enter Try.func23, Try.ntmps23
  go_wp2
  go_ret
  exact ⟨⟨none, rfl, rfl⟩, Below.refl _ _⟩
def impl_TermIn.f (a0 : ByteArray) : Option Bool := some (tp_in a0.data.toList)
theorem impl_TermIn.calls (a0 : ByteArray) (r : Bool) (w : World) (h : impl_TermIn.f a0 = some r) :
  Calls Try.prog 11 #[.string a0] w fun e w' => e = .returned (.bool r) ∧ Below w.heap.size w w' := by
 obtain rfl := Option.some.inj h
 clear h
 go_enter Try.func11, Try.ntmps11
 go_wp2_with (first | (go_at_call 23; (with_reducible refine (tp_termOf _ _).mono ?_); rintro e w' ⟨⟨p, rfl, hp⟩, hb⟩))
 go_ret
 exact ⟨rfl, by with_reducible repeat (first | exact hb | apply below_alloc | apply pw_below_drewN | apply below_drew1)⟩

end Go.Proofs.Ytkapeoigpdppeaa.G
