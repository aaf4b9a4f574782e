-- Made by gprint.py (the kit's print with contracts of this session's own among its functions).
import Derived.Test.YtijmkmbepjjphaaG0
import Derived.Test.YtijmkmbepjjphaaG1
namespace Go.Proofs.Ytijmkmbepjjphaa.G
open Go.RowKit Go.Proofs.YtijmkmbepjjphaaW.PrintWords Go.Proofs.YtijmkmbepjjphaaW.PrintLast Go.Proofs.YtijmkmbepjjphaaW.PrintMore
attribute [local go_sem] max2_int min2_int max_two min_two max_three min_three max_four min_four   -- for this text's walks alone
set_option linter.unusedVariables false
set_option linter.unusedSimpArgs false

/-! ### impl_TermTidy: function 7 -/
namespace X
/-- A term as a tree: its sign, and its parts. -/
inductive Tm where
 | mk (c : UInt8) (ps : List Tm)
def kd_none : Kd Tm where
 sz := 1
 E := []
 K := fun _ _ _ => False
 M := fun _ _ _ _ _ => False
 K_len := fun h => h.elim
 K_one := fun h => h.elim
 K_below := fun _ h => h
 K_of_M := fun h => h
 M_mono := fun _ h => h
 M_bound := fun h => h.elim
 M_move := fun _ h => h
 M_lower := fun _ h => h
/-- A pointer to a term of its own, whose parts are told by d. -/
def kd_up (d : Kd Tm) : Kd Tm where
 sz := 1
 E := 48 :: 32 :: d.E
 K := fun w t cs => ∃ (g : Nat) (A : Option Addr) (cap : Nat) (c : UInt8) (ps : List Tm), t = .mk c ps ∧ cs = [.pointer (some ⟨g, 0, none⟩)] ∧ w.heap[g]? = some (.cells #[.int .u8 (c.toNat : Int), .slice A ps.length cap] 48 (0, 0)) ∧ ps.length ≤ cap ∧ d.C w A ps.length ps
 M := fun w base ok t cs => ∃ (g : Nat) (v : Value) (c : UInt8) (ps : List Tm), t = .mk c ps ∧ cs = [.pointer (some ⟨g, 0, none⟩)] ∧ ok g ∧ base ≤ g ∧ w.heap[g]? = some (.cells #[.int .u8 (c.toNat : Int), v] 48 (0, 0)) ∧ d.R 32 w base ok v ps
 K_len := by
  rintro w x cs ⟨g, A, cap, c, ps, rfl, rfl, _⟩
  rfl
 K_one := by
  rintro w x cs ⟨g, A, cap, c, ps, rfl, rfl, _⟩ u hu
  rw [List.mem_singleton.1 hu]
  rfl
 K_below := by
  rintro w w1 x cs hb ⟨g, A, cap, c, ps, rfl, rfl, h1, h2, h3⟩
  exact ⟨g, A, cap, c, ps, rfl, rfl, blk_below h1 hb, h2, Kd.C_below h3 hb⟩
 K_of_M := by
  rintro w base ok x cs ⟨g, v, c, ps, rfl, rfl, _, _, h1, h2⟩
  obtain ⟨A, cap, rfl, hl, hr⟩ := Kd.R_reads h2
  exact ⟨g, A, cap, c, ps, rfl, rfl, h1, hl, hr⟩
 M_mono := by
  rintro w base ok ok' x cs hok ⟨g, v, c, ps, rfl, rfl, h0, hb, h1, h2⟩
  exact ⟨g, v, c, ps, rfl, rfl, hok _ h0, hb, h1, Kd.R_mono h2 hok⟩
 M_bound := by
  rintro w base ok x cs ⟨g, v, c, ps, rfl, rfl, h0, hb, h1, h2⟩
  refine ⟨g, v, c, ps, rfl, rfl, ⟨h0, hb, blk_lt h1, _, List.mem_cons_self, _, h1⟩, hb, h1, Kd.R_mono (Kd.R_bound h2) ?_⟩
  rintro k ⟨k1, k2, k3, q, k4, k5⟩
  exact ⟨k1, k2, k3, q, List.mem_cons_of_mem _ k4, k5⟩
 M_move := by
  rintro w w1 base ok x cs hm ⟨g, v, c, ps, rfl, rfl, h0, hb, h1, h2⟩
  exact ⟨g, v, c, ps, rfl, rfl, h0, hb, (hm g h0).trans h1, Kd.R_move h2 hm⟩
 M_lower := by
  rintro w base base' ok x cs hb' ⟨g, v, c, ps, rfl, rfl, h0, hb, h1, h2⟩
  exact ⟨g, v, c, ps, rfl, rfl, h0, Nat.le_trans hb' hb, h1, Kd.R_lower h2 hb'⟩
def kd : Nat → Kd Tm
 | 0 => kd_none
 | n + 1 => kd_up (kd n)
theorem kd_sz (n : Nat) : (kd n).sz = 1 := by cases n <;> rfl

theorem tp_info : (Try.prog.info? 32).map (fun i => (i.zero, i.size, i.bytes)) = some (some (.pointer none), 1, 8) := by kernel_rfl
def tp_leaf (c : UInt8) : Bool := c == 48 || c == 49 || c == 97
def tp_one (c : UInt8) : Bool := c == 42 || (50 ≤ c.toNat && c.toNat ≤ 53)
def tp_op (c : UInt8) : Bool := c == 43 || c == 46 || c == 38
def tp_last : Option (List UInt8) → Option (List UInt8)
 | some (e :: q) => if (e == 41) = true then some q else none
 | _ => none
def tp_two (f : List UInt8 → Option (List UInt8)) : Option (List UInt8) → Option (List UInt8)
 | some (d :: r) => if tp_op d = true then tp_last (f r) else none
 | _ => none
/-- What is left behind a term; none if there is no term. -/
def tp_rest : Nat → List UInt8 → Option (List UInt8)
 | 0, _ => none
 | _ + 1, [] => none
 | n + 1, c :: s =>
  if tp_leaf c = true then some s
  else if tp_one c = true then tp_rest n s
  else if (c == 40) = true then tp_two (tp_rest n) (tp_rest n s)
  else none
theorem tp_idy (d : UInt8) : decide ((Lib.indexByte [41] d : Int) ≥ 0) = (d == 41) := by
 by_cases h : d = 41
 ·subst h
  rfl
 ·rw [Lib.indexByte, if_neg (by simpa using fun e => h e.symm), (show (d == 41) = false from beq_eq_false_iff_ne.2 h)]
  rfl
theorem tp_idx (d : UInt8) : decide ((Lib.indexByte [43, 46, 38] d : Int) ≥ 0) = tp_op d := by
 by_cases h : d = 43
 ·subst h
  rfl
 by_cases h2 : d = 46
 ·subst h2
  rfl
 by_cases h3 : d = 38
 ·subst h3
  rfl
 ·have e : tp_op d = false := by
   rw [tp_op, (show (d == 43) = false from beq_eq_false_iff_ne.2 h), (show (d == 46) = false from beq_eq_false_iff_ne.2 h2), (show (d == 38) = false from beq_eq_false_iff_ne.2 h3)]
   rfl
  have g3 : Lib.indexByte [38] d = -1 := by
   rw [Lib.indexByte, if_neg (by simpa using fun e => h3 e.symm)]
   rfl
  have g2 : Lib.indexByte [46, 38] d = -1 := by
   rw [Lib.indexByte, if_neg (by simpa using fun e => h2 e.symm), g3]
   rfl
  have g1 : Lib.indexByte [43, 46, 38] d = -1 := by
   rw [Lib.indexByte, if_neg (by simpa using fun e => h e.symm), g2]
   rfl
  rw [e, g1]
  rfl
theorem tp_blk {w : World} {g : Nat} {u v x : Value} {T : TypeId} (h : w.heap[g]? = some (.cells #[u, v] T (0, 0))) (o : Obj) (n : Nat) (y : Value) : ((((w.setCell ⟨g, 1, none⟩ x).alloc o).drewN n).setCell ⟨g, 0, none⟩ y).heap[g]? = some (.cells #[y, x] T (0, 0)) :=
 blk_set (blk_drewN (blk_alloc (blk_set h 1 x) o) n) 0 y
theorem tp_bytes {t : ByteArray} {q : List UInt8} (h : t.data.toList = q) : t = ⟨q.toArray⟩ := by
 obtain ⟨⟨p⟩⟩ := t
 simp at h
 rw [h]
theorem tp_tail {t : ByteArray} {d : UInt8} {r : List UInt8} (h : t.data.toList = d :: r) : (t.extract 1 (r.length + 1)).data.toList = r ∧ (t.extract 1 (r.length + 1)).size = r.length := by
 have e : (t.extract 1 (r.length + 1)).data.toList = r := by
  rw [Lib.extract_eq, h]
  simp
 exact ⟨e, by rw [Lib.size_eq, e]⟩
theorem tp_len (n : Nat) : ∀ (l r : List UInt8), tp_rest n l = some r → r.length < l.length := by
 induction n with
 | zero =>
  intro l r h
  simp [tp_rest] at h
 | succ n ih =>
  intro l r h
  cases l with
  | nil => simp [tp_rest] at h
  | cons c s =>
   rw [tp_rest] at h
   split at h
   ·cases h
    simp
   ·split at h
    ·have := ih _ _ h
     simp
     omega
    ·split at h
     ·cases h1 : tp_rest n s with
      | none =>
       rw [h1] at h
       simp [tp_two] at h
      | some r1 =>
       rw [h1] at h
       cases r1 with
       | nil => simp [tp_two] at h
       | cons d r1 =>
        rw [tp_two] at h
        split at h
        ·cases h2 : tp_rest n r1 with
         | none =>
          rw [h2] at h
          simp [tp_last] at h
         | some r2 =>
          rw [h2] at h
          cases r2 with
          | nil => simp [tp_last] at h
          | cons e q =>
           rw [tp_last] at h
           split at h
           ·cases h
            have a1 := ih _ _ h1
            have a2 := ih _ _ h2
            simp at a1 a2 ⊢
            omega
           ·cases h
        ·cases h
     ·cases h
theorem tp_head {t : ByteArray} {d : UInt8} {r : List UInt8} (h : t.data.toList = d :: r) : t.extract 0 1 = ⟨#[d]⟩ := by
 have e : (t.extract 0 1).data.toList = [d] := by
  rw [Lib.extract_eq, h]
  simp
 exact tp_bytes e
theorem tp_has {t : ByteArray} {d : UInt8} {r : List UInt8} (h : t.data.toList = d :: r) : strings_Contains.f ⟨#[43, 46, 38]⟩ (t.extract 0 1) = some (tp_op d) := by
 rw [tp_head h, ← tp_idx]
 rfl
theorem tp_hay {t : ByteArray} {d : UInt8} {r : List UInt8} (h : t.data.toList = d :: r) : strings_Contains.f ⟨#[41]⟩ (t.extract 0 1) = some (d == 41) := by
 rw [tp_head h, ← tp_idy]
 rfl
def tm_last (d : UInt8) (a : Tm) : Option (Tm × List UInt8) → Option (Tm × List UInt8)
 | some (b, e :: q) => if (e == 41) = true then some (.mk d [a, b], q) else none
 | _ => none
def tm_two (f : List UInt8 → Option (Tm × List UInt8)) : Option (Tm × List UInt8) → Option (Tm × List UInt8)
 | some (a, d :: r) => if tp_op d = true then tm_last d a (f r) else none
 | _ => none
def tm_one (c : UInt8) : Option (Tm × List UInt8) → Option (Tm × List UInt8)
 | some (a, r) => some (.mk c [a], r)
 | none => none
/-- A term's tree and what is left behind it; none if there is no term. -/
def tm_rest : Nat → List UInt8 → Option (Tm × List UInt8)
 | 0, _ => none
 | _ + 1, [] => none
 | n + 1, c :: s =>
  if tp_leaf c = true then some (.mk c [], s)
  else if tp_one c = true then tm_one c (tm_rest n s)
  else if (c == 40) = true then tm_two (tm_rest n) (tm_rest n s)
  else none
theorem tm_tp (n : Nat) : ∀ l : List UInt8, (tm_rest n l).map Prod.snd = tp_rest n l := by
 induction n with
 | zero => intro l; rfl
 | succ n ih =>
  intro l
  cases l with
  | nil => rfl
  | cons c s =>
   rw [tm_rest, tp_rest]
   by_cases k1 : tp_leaf c = true
   ·rw [if_pos k1, if_pos k1]
    rfl
   rw [if_neg k1, if_neg k1]
   by_cases k2 : tp_one c = true
   ·rw [if_pos k2, if_pos k2, ← ih s]
    cases tm_rest n s with
    | none => rfl
    | some x => rfl
   rw [if_neg k2, if_neg k2]
   by_cases k3 : (c == 40) = true
   ·rw [if_pos k3, if_pos k3, ← ih s]
    cases tm_rest n s with
    | none => rfl
    | some x =>
     obtain ⟨a, r⟩ := x
     cases r with
     | nil => rfl
     | cons d r =>
      show Option.map Prod.snd (if tp_op d = true then tm_last d a (tm_rest n r) else none) = if tp_op d = true then tp_last (tp_rest n r) else none
      by_cases k4 : tp_op d = true
      ·rw [if_pos k4, if_pos k4, ← ih r]
       cases tm_rest n r with
       | none => rfl
       | some y =>
        obtain ⟨b, q⟩ := y
        cases q with
        | nil => rfl
        | cons e q =>
         show Option.map Prod.snd (if (e == 41) = true then some (Tm.mk d [a, b], q) else none) = if (e == 41) = true then some q else none
         split <;> rfl
      ·rw [if_neg k4, if_neg k4]
       rfl
   ·rw [if_neg k3, if_neg k3]
    rfl
def tm_out (n B : Nat) (w' : World) (o : Option (Tm × List UInt8)) (e : Ending) : Prop := match o with
 | none => e = .returned (.tuple #[.pointer none, .string ⟨#[]⟩])
 | some (x, r) => ∃ (g : Nat) (t : ByteArray), t.data.toList = r ∧ e = .returned (.tuple #[.pointer (some ⟨g, 0, none⟩), .string t]) ∧ (kd n).M w' B (fun _ => True) x [.pointer (some ⟨g, 0, none⟩)]
theorem tree_leaf {n g B : Nat} {c : UInt8} {w : World} (h : w.heap[g]? = some (.cells #[.int .u8 (c.toNat : Int), .slice none 0 0] 48 (0, 0))) (hB : B ≤ g) : (kd (n + 1)).M w B (fun _ => True) (.mk c []) [.pointer (some ⟨g, 0, none⟩)] :=
 ⟨g, _, c, [], rfl, rfl, trivial, hB, h, Kd.R_nil _ _ _ _ _⟩
theorem tree_up {n g B : Nat} {c : UInt8} {v : Value} {ps : List Tm} {w : World} (h : w.heap[g]? = some (.cells #[.int .u8 (c.toNat : Int), v] 48 (0, 0))) (hB : B ≤ g) (hr : (kd n).R 32 w B (fun _ => True) v ps) : (kd (n + 1)).M w B (fun _ => True) (.mk c ps) [.pointer (some ⟨g, 0, none⟩)] :=
 ⟨g, v, c, ps, rfl, rfl, trivial, hB, h, hr⟩
theorem tree_in {n B B' : Nat} {x : Tm} {cs : List Value} {w : World} (h : (kd n).M w B (fun _ => True) x cs) (hB : B' < B) : (kd n).M w B' (fun k => B' < k) x cs := by
 have h1 := (kd n).M_bound h
 have h2 := (kd n).M_mono (ok' := fun k => B' < k) (fun k hk => Nat.lt_of_lt_of_le hB hk.2.1) h1
 exact (kd n).M_lower (Nat.le_of_lt hB) h2
theorem tm_len {n : Nat} {l r : List UInt8} {x : Tm} (h : tm_rest n l = some (x, r)) : r.length < l.length := tp_len n l r (by rw [← tm_tp, h]; rfl)
theorem own_lt {n B : Nat} {ok : Nat → Prop} {xs : List Tm} {w : World} {v : Value} (h : (kd n).R 32 w B ok v xs) : ∀ k, v.ownBlock = some k → k < w.heap.size := fun k hk => ((Kd.R_bound h).1 k hk).2.2.1
theorem tp_zero {t : ByteArray} {d : UInt8} {r : List UInt8} (h : t.data.toList = d :: r) (h0 : 0 < t.size) : ((t[0]'h0).toNat : Int) = (d.toNat : Int) := by
 have : t.data.toList[0]'(by rw [h]; simp) = d := by simp [h]
 rw [← this]
 rfl
theorem tree_in2 {n B B' : Nat} {x : Tm} {cs : List Value} {w : World} {v : Value} (h : (kd n).M w B (fun _ => True) x cs) (hB : B' < B) (hv : ∀ k, v.ownBlock = some k → k < B) : (kd n).M w B' (fun k => B' < k ∧ some k ≠ v.ownBlock) x cs := by
 have h1 := (kd n).M_bound h
 have h2 := (kd n).M_mono (ok' := fun k => B' < k ∧ some k ≠ v.ownBlock) (fun k hk => ⟨Nat.lt_of_lt_of_le hB hk.2.1, fun e => by
  have := hv k e.symm
  have := hk.2.1
  omega⟩) h1
 exact (kd n).M_lower (Nat.le_of_lt hB) h2
theorem kd_info (n : Nat) : (Try.prog.info? 32).map (fun i => (i.zero, i.size, i.bytes)) = some (some (.pointer none), (kd n).sz, 8) := by
 cases n <;> exact tp_info
theorem kd_z (n : Nat) : (Value.pointer none).cells.size = (kd n).sz := by cases n <;> rfl
theorem kd_pos (n : Nat) : 0 < (kd n).sz := by cases n <;> exact Nat.one_pos
set_option maxHeartbeats 8000000 in
set_option maxRecDepth 100000 in
theorem tm_parse (n : Nat) : ∀ (s : ByteArray) (w : World), s.size < n → s.size ≤ 1000 →
  Calls Try.prog 23 #[.string s] w fun e w' => tm_out n w.heap.size w' (tm_rest n s.data.toList) e ∧ Below w.heap.size w w' := by
 induction n with
 | zero =>
  intro s w h
  omega
 | succ n ih =>
  intro s w hs hm
  have IH := Aside0.mk ih
  have hu_ := Try.underlying48
  clear ih
  match hl : s.data.toList with
  | [] =>
   have e : s = ⟨#[]⟩ := by
    obtain ⟨⟨q⟩⟩ := s
    simp at hl
    rw [hl]
   subst e
   go_enter Try.func23, Try.ntmps23
   go_wp2
   go_ret2
   exact ⟨rfl, Below.refl _ _⟩
  | c :: l =>
   have hsz : s.size = l.length + 1 := by
    have : s.size = s.data.toList.length := Lib.size_eq s
    rw [this, hl]
    rfl
   have hne : (s.toList == []) = false := by
    rw [Lib.toList_data, hl]
    rfl
   have hne2 : ([] == s.toList) = false := by
    rw [Lib.toList_data, hl]
    rfl
   have h0 : 0 < s.size := by omega
   have hb := bt_at s 0
   have hbc : bt s 0 = (c.toNat : Int) := by
    unfold bt
    rw [dif_pos (by simpa using h0)]
    have : s.data.toList[0]'(by rw [hl]; simp) = c := by simp [hl]
    rw [← this]
    rfl
   have hx : ((s[0]'h0).toNat : Int) = (c.toNat : Int) := by
    rw [← hbc]
    unfold bt
    rw [dif_pos (by simpa using h0)]
    rfl
   have HSZ := Aside0.mk hsz
   have HL := Aside0.mk hl
   have hX : (s.extract 1 s.size).data.toList = l := by
    rw [Lib.extract_eq, hl]
    simp
    exact List.take_of_length_le (by omega)
   have hXs : (s.extract 1 s.size).size = l.length := by
    have : (s.extract 1 s.size).size = (s.extract 1 s.size).data.toList.length := Lib.size_eq _
    rw [this, hX]
   have HX := Aside0.mk hX
   have HXS := Aside0.mk hXs
   have mixed : Try.prog.follows Departure.mixedOrders = true := by kernel_rfl
   clear hsz hl hbc hb hX hXs
   by_cases k1 : tp_leaf c = true
   ·have hr : tm_rest (n + 1) (c :: l) = some (.mk c [], l) := by
     rw [tm_rest, if_pos k1]
    rw [hr]
    have hc : c = 48 ∨ c = 49 ∨ c = 97 := by
     unfold tp_leaf at k1
     simpa [or_assoc] using k1
    clear k1 hr
    rcases hc with rfl | rfl | rfl
    all_goals
     go_enter Try.func23, Try.ntmps23
     go_wp2
     go_region_o
     all_goals (go_wp2; go_ret2; exact ⟨⟨_, _, HX.out, rfl, tree_leaf (blk_drew (blk_new w _)) (Nat.le_refl _)⟩, below_drew1 (below_alloc (Below.refl _ _) _)⟩)
   ·by_cases k2 : tp_one c = true
    ·have hr : tm_rest (n + 1) (c :: l) = tm_one c (tm_rest n l) := by
      rw [tm_rest, if_neg k1, if_pos k2]
     rw [hr]
     have hc : c = 42 ∨ c = 50 ∨ c = 51 ∨ c = 52 ∨ c = 53 := by
      unfold tp_one at k2
      simp only [Bool.or_eq_true, beq_iff_eq, Bool.and_eq_true, decide_eq_true_eq] at k2
      rcases k2 with z | ⟨z1, z2⟩
      ·exact .inl z
      ·have : c.toNat = 50 ∨ c.toNat = 51 ∨ c.toNat = 52 ∨ c.toNat = 53 := by omega
       rcases this with z | z | z | z
       ·exact .inr (.inl (UInt8.toNat_inj.1 z))
       ·exact .inr (.inr (.inl (UInt8.toNat_inj.1 z)))
       ·exact .inr (.inr (.inr (.inl (UInt8.toNat_inj.1 z))))
       ·exact .inr (.inr (.inr (.inr (UInt8.toNat_inj.1 z))))
     clear k1 k2 hr
     rcases hc with rfl | rfl | rfl | rfl | rfl
     all_goals
      go_enter Try.func23, Try.ntmps23
      go_wp2_with (first | (go_at_call 19; (with_reducible refine (impl_in.calls _ _ _ true _ (by decide)).mono ?_); rintro e w' ⟨rfl, ⟨nd, rfl⟩⟩))
      refine wp_loop_rounds 3 ?_
      rw [rounds_succ]
      go_wp2_with fail
      refine (IH.out (s.extract 1 s.size) _ (by have := HXS.out; have := HSZ.out; omega) (by have := HXS.out; have := HSZ.out; omega)).mono ?_
      rintro e W2 ⟨ho, hb⟩
      rw [HX.out] at ho
      have HB2 := Aside0.mk (below_step (w := w) (by repeat (first | exact Below.refl _ _ | apply below_alloc | apply pw_below_drewN | apply below_drew1)) hb)
      have bk : W2.heap[w.heap.size]? = some (.cells #[.int .u8 ((s[0]'h0).toNat : Int), .slice none 0 0] 48 (0, 0)) := by
       rw [hx]
       exact blk_below (by (with_reducible repeat (first | refine blk_drewN ?_ _ | refine blk_drew ?_)); exact blk_new w _) hb
      have BK := Aside0.mk bk
      have c1 : W2.cell? ⟨w.heap.size, 1, none⟩ = some (.slice none 0 0) := (blk_cell bk 1).trans rfl
      clear bk
      cases hq : tm_rest n l with
      | none =>
       rw [hq] at ho
       obtain rfl : e = _ := ho
       have HQ := Aside0.mk hq
       clear hq
       go_wp2
       go_ret2
       rw [HQ.out]
       exact ⟨rfl, HB2.out⟩
      | some r =>
       rw [hq] at ho
       obtain ⟨x, r⟩ := r
       obtain ⟨g2, t2, ht2, rfl, hM⟩ := ho
       have hM2 := Aside0.mk (tree_in hM (by first | exact blk_lt (by (with_reducible repeat (first | refine blk_drewN ?_ _ | refine blk_drew ?_)); exact blk_new w _)))
       have HT2 := Aside0.mk ht2
       have HQ := Aside0.mk hq
       clear hq ht2 hM hb
       go_wp2_with (first | ((with_reducible refine gate_builtin (b := .append) (xs := #[.tmp 65, .tmp 67]) rfl ?_); at_builtin; refine Kd.R_append (kd n) (w0 := w) w.heap.size rfl (.tmp 65) (.tmp 67) 46 32 (.pointer none) 8 rfl Try.underlying46 (kd_info n) (kd_z n) (kd_pos n) (by omega) (.slice none 0 0) [] x [.pointer (some ⟨g2, 0, none⟩)] (fun k => w.heap.size < k) (fun k => w.heap.size < k) rfl rfl ?aP (fun k hk => ⟨hk, by simp [Value.ownBlock]⟩) ?aF ?aO ?aB ?aS ?aL ?_))
       case aP => exact hM2.out
       case aB => exact HB2.out
       case aF => exact (fun _ hk => Nat.lt_of_lt_of_le (blk_lt BK.out) hk)
       case aO => exact Kd.R_nil _ _ _ _ _
       case aS => exact Nat.le_of_lt (blk_lt BK.out)
       case aL => simp
       intro v9 w9 ho9 hb9 hg9 hat9
       have HO9 := Aside0.mk ho9
       obtain ⟨Ao9, co9, e9⟩ := Kd.R_slice ho9
       replace e9 : v9 = .slice Ao9 1 co9 := e9
       subst e9
       have bk9 := blk_grown BK.out hg9 (by simp [Value.ownBlock])
       have d1 : w9.cell? ⟨w.heap.size, 1, none⟩ = some (.slice none 0 0) := (blk_cell bk9 1).trans rfl
       have f1 := blk_frozen bk9 1
       have HB10 := Aside0.mk (below_set (j := 1) (v := .slice Ao9 1 co9) hb9 (Nat.le_refl _))
       have BK9 := Aside0.mk bk9
       clear ho9 hb9 hg9 hat9 bk9
       go_wp2
       rw [rounds_succ]
       go_wp2
       go_ret2
       rw [HQ.out]
       refine ⟨⟨_, _, HT2.out, rfl, ?_⟩, by with_reducible repeat (first | exact HB10.out | apply below_drew1 | apply below_alloc | refine below_set ?_ (Nat.le_refl _))⟩
       refine tree_up (v := .slice Ao9 1 co9) (by rw [← hx]; exact blk_set BK9.out 1 (.slice Ao9 1 co9)) (Nat.le_refl _) (Kd.R_mono (ok := fun k => w.heap.size < k) ?_ (fun _ _ => trivial))
       exact Kd.R_far HO9.out (fun k hk => Nat.ne_of_gt hk) _
    ·by_cases k3 : (c == 40) = true
     ·have hr : tm_rest (n + 1) (c :: l) = tm_two (tm_rest n) (tm_rest n l) := by
       rw [tm_rest, if_neg k1, if_neg k2, if_pos k3]
      rw [hr]
      obtain rfl : c = 40 := by simpa using k3
      clear k1 k2 k3 hr
      go_enter Try.func23, Try.ntmps23
      go_wp2_with (first | (go_at_call 19; (with_reducible refine (impl_in.calls _ _ _ false _ (by decide)).mono ?_); rintro e w' ⟨rfl, ⟨nd, rfl⟩⟩))
      refine wp_loop_rounds 4 ?_
      rw [rounds_succ]
      go_wp2_with fail
      refine (IH.out (s.extract 1 s.size) _ (by have := HXS.out; have := HSZ.out; omega) (by have := HXS.out; have := HSZ.out; omega)).mono ?_
      rintro e W2 ⟨ho, hb⟩
      rw [HX.out] at ho
      have HB2 := Aside0.mk (below_step (w := w) (by repeat (first | exact Below.refl _ _ | apply below_alloc | apply pw_below_drewN | apply below_drew1)) hb)
      obtain ⟨u, bk⟩ : ∃ u, W2.heap[w.heap.size]? = some (.cells #[u, .slice none 0 0] 48 (0, 0)) := ⟨_, blk_below (by (with_reducible repeat (first | refine blk_drewN ?_ _ | refine blk_drew ?_)); exact blk_new w _) hb⟩
      have BK := Aside0.mk bk
      have c1 : W2.cell? ⟨w.heap.size, 1, none⟩ = some (.slice none 0 0) := (blk_cell bk 1).trans rfl
      clear hb bk
      cases hq : tm_rest n l with
      | none =>
       rw [hq] at ho
       obtain rfl : e = _ := ho
       have HQ := Aside0.mk hq
       clear hq
       go_wp2
       go_ret2
       rw [HQ.out]
       exact ⟨rfl, HB2.out⟩
      | some r =>
       rw [hq] at ho
       obtain ⟨x, r⟩ := r
       obtain ⟨g2, t2, ht2, rfl, hM⟩ := ho
       have hM2 := Aside0.mk (tree_in hM (by first | exact blk_lt (by (with_reducible repeat (first | refine blk_drewN ?_ _ | refine blk_drew ?_)); exact blk_new w _)))
       clear hM
       have HT2 := Aside0.mk ht2
       have HQ := Aside0.mk hq
       clear hq ht2
       go_wp2_with (first | ((with_reducible refine gate_builtin (b := .append) (xs := #[.tmp 65, .tmp 67]) rfl ?_); at_builtin; refine Kd.R_append (kd n) (w0 := w) w.heap.size rfl (.tmp 65) (.tmp 67) 46 32 (.pointer none) 8 rfl Try.underlying46 (kd_info n) (kd_z n) (kd_pos n) (by omega) (.slice none 0 0) [] x [.pointer (some ⟨g2, 0, none⟩)] (fun k => w.heap.size < k) (fun k => w.heap.size < k) rfl rfl ?aP (fun k hk => ⟨hk, by simp [Value.ownBlock]⟩) ?aF ?aO ?aB ?aS ?aL ?_))
       case aP => exact hM2.out
       case aB => exact HB2.out
       case aF => exact (fun _ hk => Nat.lt_of_lt_of_le (blk_lt BK.out) hk)
       case aO => exact Kd.R_nil _ _ _ _ _
       case aS => exact Nat.le_of_lt (blk_lt BK.out)
       case aL => simp
       intro v9 w9 ho9 hb9 hg9 hat9
       have HO9 := Aside0.mk ho9
       obtain ⟨Ao9, co9, e9⟩ := Kd.R_slice ho9
       replace e9 : v9 = .slice Ao9 1 co9 := e9
       subst e9
       have bk9 := blk_grown BK.out hg9 (by simp [Value.ownBlock])
       have d1 : w9.cell? ⟨w.heap.size, 1, none⟩ = some (.slice none 0 0) := (blk_cell bk9 1).trans rfl
       have f1 := blk_frozen bk9 1
       have HB10 := Aside0.mk (below_set (j := 1) (v := .slice Ao9 1 co9) hb9 (Nat.le_refl _))
       have BK9 := Aside0.mk bk9
       clear ho9 hb9 hg9 hat9 bk9
       cases r with
       | nil =>
        have tne : (t2.toList == []) = true := by
         rw [Lib.toList_data, HT2.out]
         rfl
        have tne2 : ([] == t2.toList) = true := by
         rw [Lib.toList_data, HT2.out]
         rfl
        go_wp2
        go_ret2
        rw [HQ.out]
        exact ⟨rfl, by with_reducible repeat (first | exact HB10.out | apply below_drew1 | apply below_alloc | refine below_set ?_ (Nat.le_refl _))⟩
       | cons d r =>
        have tne : (t2.toList == []) = false := by
         rw [Lib.toList_data, HT2.out]
         rfl
        have tne2 : ([] == t2.toList) = false := by
         rw [Lib.toList_data, HT2.out]
         rfl
        have tsz : t2.size = r.length + 1 := by
         have : t2.size = t2.data.toList.length := Lib.size_eq t2
         rw [this, HT2.out]
         rfl
        have t0 : 0 < t2.size := by omega
        have cD : ∀ (v : Value) (o : Obj), ((w9.setCell ⟨w.heap.size, 1, none⟩ v).alloc o).cell? ⟨w.heap.size, 0, none⟩ = some u := fun v o => (blk_cell (blk_alloc (blk_set BK9.out 1 v) o) 0).trans rfl
        have fD : ∀ (v : Value) (o : Obj), ((w9.setCell ⟨w.heap.size, 1, none⟩ v).alloc o).frozen? ⟨w.heap.size, 0, none⟩ = false := fun v o => blk_frozen (blk_alloc (blk_set BK9.out 1 v) o) 0
        go_wp2_with (first | (go_at_call 31; (with_reducible refine (strings_Contains.calls _ _ (tp_op d) _ (tp_has HT2.out)).mono ?_); rintro e w' ⟨rfl, ⟨nd2, rfl⟩⟩))
        ·have hd : tp_op d = false := by simpa using (by assumption : (!tp_op d) = true)
         go_ret2
         rw [HQ.out]
         refine ⟨?_, by with_reducible repeat (first | exact HB10.out | apply pw_below_drewN | apply below_drew1 | apply below_alloc | refine below_set ?_ (Nat.le_refl _))⟩
         rw [tm_two, if_neg (by rw [hd]; decide)]
         rfl
        ·have hd : tp_op d = true := by simpa using (by assumption : (!tp_op d) = false)
         have hll := tm_len HQ.out
         rw [List.length_cons] at hll
         obtain ⟨hx2, hxs2⟩ := tp_tail HT2.out
         have HX2 := Aside0.mk hx2
         clear hx2
         have RT : tm_two (tm_rest n) (tm_rest n l) = tm_last d x (tm_rest n r) := by
          rw [HQ.out, tm_two, if_pos hd]
         have RT0 := Aside0.mk RT
         clear RT hd
         rw [rounds_succ]
         go_wp2_with fail
         refine (IH.out (t2.extract 1 (r.length + 1)) _ (by have := HSZ.out; omega) (by have := HSZ.out; omega)).mono ?_
         rintro e W4 ⟨ho, hb⟩
         rw [HX2.out] at ho
         have HB4 := Aside0.mk (below_step (w := w) (by with_reducible repeat (first | exact HB10.out | apply pw_below_drewN | apply below_drew1 | apply below_alloc | refine below_set ?_ (Nat.le_refl _))) hb)
         have ho4 : (kd n).R 32 W4 w.heap.size (fun k => w.heap.size < k) (.slice Ao9 1 co9) [x] := by
          refine Kd.R_below ?_ hb
          with_reducible repeat (first | refine Kd.R_drewN ?_ _ | refine Kd.R_drew ?_ | refine Kd.R_alloc ?_ _ | refine Kd.R_far ?_ (fun k hk => Nat.ne_of_gt hk) _)
          exact HO9.out
         have HO4 := Aside0.mk ho4
         have bk4 : W4.heap[w.heap.size]? = some (.cells #[.int .u8 (d.toNat : Int), .slice Ao9 1 co9] 48 (0, 0)) := by
          rw [← tp_zero HT2.out t0]
          exact blk_below (tp_blk BK9.out _ _ _) hb
         have BK4 := Aside0.mk bk4
         have c4 : W4.cell? ⟨w.heap.size, 1, none⟩ = some (.slice Ao9 1 co9) := (blk_cell bk4 1).trans rfl
         clear hb bk4 ho4 cD fD
         cases hq2 : tm_rest n r with
         | none =>
          rw [hq2] at ho
          obtain rfl : e = _ := ho
          have HQ2 := Aside0.mk hq2
          clear hq2
          go_wp2
          go_ret2
          rw [RT0.out, HQ2.out]
          exact ⟨rfl, HB4.out⟩
         | some r2 =>
          rw [hq2] at ho
          obtain ⟨y, r2⟩ := r2
          obtain ⟨g4, t4, ht4, rfl, hM⟩ := ho
          have hM4 := Aside0.mk (tree_in2 (v := .slice Ao9 1 co9) hM (blk_lt (tp_blk BK9.out _ _ _)) (own_lt (B := w.heap.size) (ok := fun k => w.heap.size < k) (xs := [x]) (by (with_reducible repeat (first | refine Kd.R_drewN ?_ _ | refine Kd.R_drew ?_ | refine Kd.R_alloc ?_ _ | refine Kd.R_far ?_ (fun k hk => Nat.ne_of_gt hk) _)); exact HO9.out)))
          clear hM
          have HT4 := Aside0.mk ht4
          have HQ2 := Aside0.mk hq2
          clear hq2 ht4
          go_wp2_with (first | ((with_reducible refine gate_builtin (b := .append) (xs := #[.tmp 65, .tmp 67]) rfl ?_); at_builtin; refine Kd.R_append (kd n) (w0 := w) w.heap.size rfl (.tmp 65) (.tmp 67) 46 32 (.pointer none) 8 rfl Try.underlying46 (kd_info n) (kd_z n) (kd_pos n) (by omega) (.slice Ao9 1 co9) [x] y [.pointer (some ⟨g4, 0, none⟩)] (fun k => w.heap.size < k) (fun k => w.heap.size < k ∧ some k ≠ (Value.slice Ao9 1 co9).ownBlock) rfl rfl ?aP (fun k hk => hk) ?aF ?aO ?aB ?aS ?aL ?_))
          case aP => exact hM4.out
          case aB => exact HB4.out
          case aF => exact (fun _ hk => Nat.lt_of_lt_of_le (blk_lt BK4.out) hk)
          case aO => exact HO4.out
          case aS => exact Nat.le_of_lt (blk_lt BK4.out)
          case aL => simp
          intro v5 w5 ho5 hb5 hg5 hat5
          obtain ⟨Ao5, co5, e5⟩ := Kd.R_slice ho5
          replace e5 : v5 = .slice Ao5 2 co5 := e5
          subst e5
          have bk5 := blk_grown BK4.out hg5 (fun he => absurd (HO4.out.1 _ he.symm) (Nat.lt_irrefl _))
          have d5 : w5.cell? ⟨w.heap.size, 1, none⟩ = some (.slice Ao9 1 co9) := (blk_cell bk5 1).trans rfl
          have f5 := blk_frozen bk5 1
          have HB5 := Aside0.mk (below_set (j := 1) (v := .slice Ao5 2 co5) hb5 (Nat.le_refl _))
          have HO5 := Aside0.mk ho5
          have BK5 := Aside0.mk bk5
          clear ho5 hb5 hg5 hat5 bk5
          cases r2 with
          | nil =>
           have tne : (t4.toList == []) = true := by
            rw [Lib.toList_data, HT4.out]
            rfl
           have tne2 : ([] == t4.toList) = true := by
            rw [Lib.toList_data, HT4.out]
            rfl
           go_wp2
           go_ret2
           rw [RT0.out, HQ2.out]
           exact ⟨rfl, by with_reducible repeat (first | exact HB5.out | apply pw_below_drewN | apply below_drew1 | apply below_alloc | refine below_set ?_ (Nat.le_refl _))⟩
          | cons d4 r4 =>
           have tne : (t4.toList == []) = false := by
            rw [Lib.toList_data, HT4.out]
            rfl
           have tne2 : ([] == t4.toList) = false := by
            rw [Lib.toList_data, HT4.out]
            rfl
           have tsz : t4.size = r4.length + 1 := by
            have : t4.size = t4.data.toList.length := Lib.size_eq t4
            rw [this, HT4.out]
            rfl
           have t0 : 0 < t4.size := by omega
           go_wp2_with (first | (go_at_call 31; (with_reducible refine (strings_Contains.calls _ _ (d4 == 41) _ (tp_hay HT4.out)).mono ?_); rintro e w' ⟨rfl, ⟨nd4, rfl⟩⟩))
           ·have hd : (d4 == 41) = false := by simpa using (by assumption : (!(d4 == 41)) = true)
            go_ret2
            rw [RT0.out, HQ2.out]
            refine ⟨?_, by with_reducible repeat (first | exact HB5.out | apply pw_below_drewN | apply below_drew1 | apply below_alloc | refine below_set ?_ (Nat.le_refl _))⟩
            rw [tm_last, if_neg (by rw [hd]; decide)]
            rfl
           ·have hd : (d4 == 41) = true := by simpa using (by assumption : (!(d4 == 41)) = false)
            rw [rounds_succ]
            go_wp2
            go_ret2
            rw [RT0.out, HQ2.out, tm_last, if_pos hd]
            refine ⟨⟨_, _, (tp_tail HT4.out).1, rfl, tree_up (v := .slice Ao5 2 co5) (blk_drewN (blk_alloc (blk_set BK5.out 1 (.slice Ao5 2 co5)) _) _) (Nat.le_refl _) (Kd.R_mono (ok := fun k => w.heap.size < k) (by (with_reducible repeat (first | refine Kd.R_drewN ?_ _ | refine Kd.R_drew ?_ | refine Kd.R_alloc ?_ _ | refine Kd.R_far ?_ (fun k hk => Nat.ne_of_gt hk) _)); exact HO5.out) (fun _ _ => trivial))⟩, by with_reducible repeat (first | exact HB5.out | apply pw_below_drewN | apply below_drew1 | apply below_alloc | refine below_set ?_ (Nat.le_refl _))⟩
     ·have hr : tm_rest (n + 1) (c :: l) = none := by
       rw [tm_rest, if_neg k1, if_neg k2, if_neg k3]
      rw [hr]
      have ne : ∀ x : UInt8, x ≠ c → ((c.toNat : Int) ≠ (x.toNat : Int)) := fun x hx e => hx (UInt8.toNat_inj.1 (by omega))
      have e1 : ((c.toNat : Int) == 48) = false := beq_eq_false_iff_ne.2 (ne 48 (by rintro rfl; exact k1 rfl))
      have e2 : ((c.toNat : Int) == 49) = false := beq_eq_false_iff_ne.2 (ne 49 (by rintro rfl; exact k1 rfl))
      have e3 : ((c.toNat : Int) == 97) = false := beq_eq_false_iff_ne.2 (ne 97 (by rintro rfl; exact k1 rfl))
      have e4 : ((c.toNat : Int) == 42) = false := beq_eq_false_iff_ne.2 (ne 42 (by rintro rfl; exact k2 rfl))
      have e5 : ((c.toNat : Int) == 40) = false := beq_eq_false_iff_ne.2 (ne 40 (by rintro rfl; exact k3 rfl))
      have e6 : impl_in.f (wrap64 (c.toNat : Int)) 50 53 = some false := by
       have hc := c.toNat_lt
       rw [show wrap64 (c.toNat : Int) = (c.toNat : Int) from by unfold wrap64; omega]
       have h1 : ¬ (50 ≤ c.toNat ∧ c.toNat ≤ 53) := by
        rintro ⟨z1, z2⟩
        exact k2 (by unfold tp_one; rw [decide_eq_true z2, (show decide (50 ≤ c.toNat) = true from decide_eq_true z1)]; simp)
       simp [impl_in.f]
       omega
      have E6 := Aside0.mk e6
      clear k1 k2 k3 hr ne e6
      go_enter Try.func23, Try.ntmps23
      go_wp2_with (first | (go_at_call 19; (with_reducible refine (impl_in.calls _ _ _ false _ E6.out).mono ?_); rintro e w' ⟨rfl, ⟨nd, rfl⟩⟩))
      go_ret2
      exact ⟨rfl, by with_reducible repeat (first | exact Below.refl _ _ | apply below_alloc | apply pw_below_drewN | apply below_drew1)⟩
/-- The tree of a whole text. -/
def tm_of (l : List UInt8) : Option Tm := if l.length ≤ 60 then (match tm_rest 61 l with | some (x, []) => some x | _ => none) else none
def tm_ptr (w' : World) (B : Nat) (o : Option Tm) (e : Ending) : Prop := match o with
 | none => e = .returned (.pointer none)
 | some x => ∃ g, e = .returned (.pointer (some ⟨g, 0, none⟩)) ∧ (kd 61).M w' B (fun _ => True) x [.pointer (some ⟨g, 0, none⟩)]
theorem tp_nil {t : ByteArray} (h : t.data.toList = []) : t = ⟨#[]⟩ := tp_bytes h
set_option maxHeartbeats 8000000 in
set_option maxRecDepth 100000 in
theorem tm_termOf (s : ByteArray) (w : World) :
  Calls Try.prog 14 #[.string s] w fun e w' => tm_ptr w' w.heap.size (tm_of s.data.toList) e ∧ Below w.heap.size w w' := by
 have hsz : s.size = s.data.toList.length := Lib.size_eq s
 by_cases hl : s.size ≤ 60
 ·have PC := Aside0.mk (tm_parse 61 s)
  have HD := Aside0.mk (show s.data.toList.length ≤ 60 from (by omega))
  have HL := Aside0.mk hl
  clear hsz
  go_enter Try.func14, Try.ntmps14
  go_wp2_with fail
  refine (PC.out _ (by have := HL.out; omega) (by have := HL.out; omega)).mono ?_
  rintro e W2 ⟨ho, hb⟩
  cases hq : tm_rest 61 s.data.toList with
  | none =>
   rw [hq] at ho
   obtain rfl : e = _ := ho
   have HQ := Aside0.mk hq
   have HB := Aside0.mk hb
   clear hq hb
   go_wp2
   go_ret
   rw [tm_of, if_pos HD.out, HQ.out]
   exact ⟨rfl, HB.out⟩
  | some r =>
   rw [hq] at ho
   obtain ⟨x, r⟩ := r
   obtain ⟨g, t, ht, rfl, hM⟩ := ho
   have HM := Aside0.mk hM
   clear hM
   have HQ := Aside0.mk hq
   have HB := Aside0.mk hb
   clear hq hb
   cases r with
   | nil =>
    obtain rfl := tp_nil ht
    clear ht
    go_wp2
    go_ret
    rw [tm_of, if_pos HD.out, HQ.out]
    exact ⟨⟨_, rfl, HM.out⟩, HB.out⟩
   | cons c r =>
    have tne : (t.toList == []) = false := by
     rw [Lib.toList_data, ht]
     rfl
    have tne2 : ([] == t.toList) = false := by
     rw [Lib.toList_data, ht]
     rfl
    clear ht
    go_wp2
    go_ret
    rw [tm_of, if_pos HD.out, HQ.out]
    exact ⟨rfl, HB.out⟩
 ·have hd : tm_of s.data.toList = none := by
   rw [tm_of, if_neg (by omega)]
  rw [hd]
  clear hsz hd
  go_enter Try.func14, Try.ntmps14
  go_wp2
  go_ret
  exact ⟨rfl, Below.refl _ _⟩
/-- A term: a sign, a sign ahead of a term, two terms with a sign between. -/
inductive Te where
 | leaf (c : UInt8)
 | one (c : UInt8) (x : Te)
 | two (c : UInt8) (x y : Te)
def Te.tm : Te → Tm
 | .leaf c => .mk c []
 | .one c x => .mk c [x.tm]
 | .two c x y => .mk c [x.tm, y.tm]
/-- The term x stands in memory at block g. -/
theorem ad_one (ad : Addr) : ad.add 1 = ⟨ad.block, ad.off + 1, none⟩ := by
 have := add_field ad 0 1 (by omega)
 rwa [Nat.zero_add, Addr.add_zero'] at this
def Stands (w : World) : Te → Nat → Prop
 | .leaf c, g => ∃ A cap, w.heap[g]? = some (.cells #[.int .u8 (c.toNat : Int), .slice A 0 cap] 48 (0, 0))
 | .one c x, g => ∃ B h cap, w.heap[g]? = some (.cells #[.int .u8 (c.toNat : Int), .slice (some B) 1 cap] 48 (0, 0)) ∧ w.cell? B = some (.pointer (some ⟨h, 0, none⟩)) ∧ Stands w x h
 | .two c x y, g => ∃ B h i cap, w.heap[g]? = some (.cells #[.int .u8 (c.toNat : Int), .slice (some B) 2 cap] 48 (0, 0)) ∧ w.cell? B = some (.pointer (some ⟨h, 0, none⟩)) ∧ w.cell? ⟨B.block, B.off + 1, none⟩ = some (.pointer (some ⟨i, 0, none⟩)) ∧ Stands w x h ∧ Stands w y i
theorem Stands.below {w w' : World} (hb : Below w.heap.size w w') : ∀ {x : Te} {g : Nat}, Stands w x g → Stands w' x g
 | .leaf c, g, ⟨A, cap, h⟩ => ⟨A, cap, blk_below h hb⟩
 | .one c x, g, ⟨B, h, cap, h1, h2, h3⟩ => ⟨B, h, cap, blk_below h1 hb, pw_cell_below hb h2, Stands.below hb h3⟩
 | .two c x y, g, ⟨B, h, i, cap, h1, h2, h3, h4, h5⟩ => ⟨B, h, i, cap, blk_below h1 hb, pw_cell_below hb h2, pw_cell_below hb h3, Stands.below hb h4, Stands.below hb h5⟩
theorem kd_ptr {w : World} {x : Tm} {cs : List Value} : ∀ n, (kd n).K w x cs → ∃ g, cs = [.pointer (some ⟨g, 0, none⟩)]
 | 0, h => h.elim
 | n + 1, h => by
  obtain ⟨g, A, cap, c, ps, e1, e2, _⟩ := h
  exact ⟨g, e2⟩
theorem Stands.ofK {w : World} : ∀ (x : Te) (n : Nat) {g : Nat}, (kd n).K w x.tm [.pointer (some ⟨g, 0, none⟩)] → Stands w x g
 | x, 0, g, h => h.elim
 | .leaf c, n + 1, g, h => by
  obtain ⟨g', A, cap, c', ps, e1, e2, h1, h2, h3⟩ := h
  injection e1 with e3 e4
  subst e3
  subst e4
  injection e2 with e5
  injection e5 with e6
  injection e6 with e7
  injection e7 with e8
  subst e8
  exact ⟨A, cap, h1⟩
 | .one c x, n + 1, g, h => by
  obtain ⟨g', A, cap, c', ps, e1, e2, h1, h2, h3⟩ := h
  injection e1 with e3 e4
  subst e3
  subst e4
  injection e2 with e5
  injection e5 with e6
  injection e6 with e7
  injection e7 with e8
  subst e8
  obtain ⟨ad, e, hc⟩ := h3.2.2 (by simp)
  subst e
  obtain ⟨cs, hl, hK, hcc⟩ := hc 0 _ rfl
  obtain ⟨h', rfl⟩ := kd_ptr n hK
  refine ⟨ad, h', cap, h1, ?_, Stands.ofK x n hK⟩
  have := hcc 0 _ rfl
  rwa [Nat.zero_mul, Nat.add_zero, Addr.add_zero'] at this
 | .two c x y, n + 1, g, h => by
  obtain ⟨g', A, cap, c', ps, e1, e2, h1, h2, h3⟩ := h
  injection e1 with e3 e4
  subst e3
  subst e4
  injection e2 with e5
  injection e5 with e6
  injection e6 with e7
  injection e7 with e8
  subst e8
  obtain ⟨ad, e, hc⟩ := h3.2.2 (by simp)
  subst e
  obtain ⟨cs, hl, hK, hcc⟩ := hc 0 _ rfl
  obtain ⟨ds, hl2, hK2, hcc2⟩ := hc 1 _ rfl
  obtain ⟨h', rfl⟩ := kd_ptr n hK
  obtain ⟨i', rfl⟩ := kd_ptr n hK2
  refine ⟨ad, h', i', cap, h1, ?_, ?_, Stands.ofK x n hK, Stands.ofK y n hK2⟩
  ·have := hcc 0 _ rfl
   rwa [Nat.zero_mul, Nat.add_zero, Addr.add_zero'] at this
  ·have := hcc2 0 _ rfl
   rwa [kd_sz, Nat.mul_one, Nat.add_zero, ad_one] at this
/-- A sign's text. -/
def tsg (c : UInt8) : ByteArray := strOfNums ([(c.toNat : Int)] : List Int)
theorem tsg_size (c : UInt8) : (tsg c).size = 1 := rfl
def te_text : Te → ByteArray
 | .leaf c => tsg c
 | .one c x => tsg c ++ te_text x
 | .two c x y => (((⟨#[40]⟩ ++ te_text x) ++ tsg c) ++ te_text y) ++ ⟨#[41]⟩
section
variable {P : Program} {ops : Array Oper} {Q : Exit → Act → World → Prop} {md : Region.Mode} {S T : World → Prop}
/-- More may be held from here on. -/
theorem narrow_ : ∀ {fuel : Nat} {l : Array Bool} {a : Act} {w : World}, S w → T w → wpAnyLast P md ops Q (fun w' => S w' ∧ T w') [] fuel l a w → wpAnyLast P md ops Q S [] fuel l a w
 | 0, l, a, w, hS, hT, H => H
 | fuel + 1, l, a, w, hS, hT, H => ⟨H.1, fun i hi => wpOp_mono (fun a' w' h => ⟨fun hn _ => (h.1 hn ⟨hS, hT⟩).1, narrow_ (h.1 (by simp) ⟨hS, hT⟩).1 (h.1 (by simp) ⟨hS, hT⟩).2 h.2⟩) (H.2 i hi)⟩
end

def tx5.T : Bool × List (List Nat × List Nat) := (true, [([], []), ([0], [0]), ([1], [1]), ([2], [2]), ([3], [3]), ([4], [4]), ([], []), ([6], [6]), ([7], [7]), ([8], [8]), ([9], [9]), ([10], [10]), ([11], [11]), ([5, 12], [5, 12]), ([13, 12, 0, 1, 2, 3, 4, 5, 6, 7, 8, 9, 10, 11, 12, 13], [13])])
def tx5.B : List Nat := [0, 1, 3, 7, 15, 31, 0, 64, 192, 448, 960, 1984, 4032, 8191, 16383]
theorem tx5.tab : rtab .any (opsOf Try.f16 5) = tx5.T := by kernel_rfl
theorem tx5.bits : waitsOk tx5.T.2 tx5.B = true := by kernel_rfl

def tx6.T : Bool × List (List Nat × List Nat) := (true, [([], []), ([0], [0]), ([1], [1]), ([2], [2]), ([3], [3]), ([4], [4]), ([5], [5]), ([6], [6]), ([], []), ([8], [8]), ([9], [9]), ([10], [10]), ([11], [11]), ([12], [12]), ([7, 13], [7, 13]), ([], []), ([15], [15]), ([16], [16]), ([17], [17]), ([18], [18]), ([19], [19]), ([20, 6], [20]), ([14, 21], [14, 21]), ([22], [22]), ([23, 21, 0, 1, 2, 3, 4, 5, 6, 7, 8, 9, 10, 11, 12, 13, 14, 15, 16, 17, 18, 19, 20, 21, 22, 23], [23])])
def tx6.B : List Nat := [0, 1, 3, 7, 15, 31, 63, 127, 0, 256, 768, 1792, 3840, 7936, 16383, 0, 32768, 98304, 229376, 491520, 1015808, 2064384, 4194303, 8388607, 16777215]
theorem tx6.tab : rtab .any (opsOf Try.f16 6) = tx6.T := by kernel_rfl
theorem tx6.bits : waitsOk tx6.T.2 tx6.B = true := by kernel_rfl

set_option maxHeartbeats 8000000 in
set_option maxRecDepth 100000 in
theorem tx_text : ∀ (x : Te) (g : Nat) (w : World), Stands w x g → (te_text x).size ≤ 1000 →
  Calls Try.prog 16 #[.pointer (some ⟨g, 0, none⟩)] w fun e w' => e = .returned (.string (te_text x)) ∧ Below w.heap.size w w'
 | .leaf c, g, w, hA, hs => by
  obtain ⟨A, cap, hA⟩ := hA
  have c0 := (blk_cell hA 0).trans (show _ = some (Value.int .u8 (c.toNat : Int)) from rfl)
  have c1 := (blk_cell hA 1).trans (show _ = some (Value.slice A 0 cap) from rfl)
  have hu_ := Try.underlying48
  clear hA hs
  go_enter Try.func16, Try.ntmps16
  go_wp2_with (first | ((with_reducible refine gate_dst (N := 14) rfl ?_); refine Kd.R_lit (Kd.int .u8) _ 5 ?hg (N := 14) ?hd (xs := ([(c.toNat : Int)] : List Int)) (inner := [.int .u8 (c.toNat : Int)]) (ok := fun _ => True) (okp := fun _ => True) ?hr ?hp (fun _ hk => hk) trivial (Below.refl _ _) (Nat.le_refl _) (by simp) ?_; (case hd => rfl); (case hg => rfl); (case hr => first | (go_simp; done) | (go_simp; rfl)); (case hp => exact (Reps.one (show Kd.M (Kd.int .u8) _ _ _ (c.toNat : Int) [.int .u8 (c.toNat : Int)] from rfl) (Reps.none _ _))); intro v116 w5 ho6 hb hg_ hnew_; have HB := Aside0.mk hb; clear hg_ hnew_ hb; have hcv7 := own_string (P := Try.prog) Try.underlying43 Try.underlying5 Try.underlying9 (Kd.own_of_R ho6); clear ho6))
  go_ret
  exact ⟨rfl, HB.out⟩
 | .one c x, g, w, hA, hs => by
  obtain ⟨B, h, cap, hA, cB, hx⟩ := hA
  have c0 := (blk_cell hA 0).trans (show _ = some (Value.int .u8 (c.toNat : Int)) from rfl)
  have c1 := (blk_cell hA 1).trans (show _ = some (Value.slice (some B) 1 cap) from rfl)
  have hu_ := Try.underlying48
  have hsz : (te_text (.one c x)).size = (tsg c).size + (te_text x).size := ByteArray.size_append
  have IH := Aside0.mk (fun W (hW : Below w.heap.size w W) => tx_text x h W (Stands.below hW hx) (by omega))
  have q0 : (tsg c).size + (te_text x).size ≤ 9223372036854775807 := by omega
  have qt := eq_true q0
  have qd : decide ((tsg c).size + (te_text x).size ≤ 9223372036854775807) = true := decide_eq_true q0
  have qf : (9223372036854775807 < (tsg c).size + (te_text x).size) = False := eq_false (Nat.not_lt.2 q0)
  unfold tsg at qt qd qf
  have hB0 : Below w.heap.size w w.drew := below_drew1 (Below.refl _ _)
  clear hs hsz q0 hx
  go_enter Try.func16, Try.ntmps16
  try go_wp2_with fail
  refine start_ (n := 15) (S := fun w' => Below w.heap.size w w') (ds := []) #[false, false, false, false, false, false, false, false, false, false, false, false, false, false, false] (by kernel_rfl) rfl rfl hB0 (fun hHeld => ?_); refine with_tabW tx5.tab tx5.bits (fun HT_ HW_ => ?_)
  generalize w.drew = wd at hHeld ⊢
  refine pure_ (i := 0) (N := some 18) (v := ?_) (a' := ?_) #[true, false, false, false, false, false, false, false, false, false, false, false, false, false, false] rfl rfl (any_of HT_.out (by kernel_rfl)) (fun _ _ _ h => h) (Or.inl ⟨by rfl, ?_⟩) ?_ ?_
  rotate_left
  ·intro w'
   go_simp
   with_reducible rfl
  rotate_left
  ·simp only [Act.put, List.setIfInBounds_toArray, List.set_cons_zero, List.set_cons_succ, i64_w, i32_w]
   rfl
  refine pure_ (i := 6) (N := some 24) (v := ?_) (a' := ?_) #[true, false, false, false, false, false, true, false, false, false, false, false, false, false, false] rfl rfl (any_of HT_.out (by kernel_rfl)) (fun _ _ _ h => h) (Or.inl ⟨by rfl, ?_⟩) ?_ ?_
  rotate_left
  ·intro w'
   go_simp
   with_reducible rfl
  rotate_left
  ·simp only [Act.put, List.setIfInBounds_toArray, List.set_cons_zero, List.set_cons_succ, i64_w, i32_w]
   rfl
  refine pure_ (i := 1) (N := some 19) (v := ?_) (a' := ?_) #[true, true, false, false, false, false, true, false, false, false, false, false, false, false, false] rfl rfl (any_of HT_.out (by kernel_rfl)) (fun _ _ _ h => h) (Or.inl ⟨by rfl, ?_⟩) ?_ ?_
  rotate_left
  ·intro w'
   go_simp
   with_reducible rfl
  rotate_left
  ·simp only [Act.put, List.setIfInBounds_toArray, List.set_cons_zero, List.set_cons_succ, i64_w, i32_w]
   rfl
  refine pure_ (i := 7) (N := some 25) (v := ?_) (a' := ?_) #[true, true, false, false, false, false, true, true, false, false, false, false, false, false, false] rfl rfl (any_of HT_.out (by kernel_rfl)) (fun _ _ _ h => h) (Or.inl ⟨by rfl, ?_⟩) ?_ ?_
  rotate_left
  ·intro w'
   go_simp
   with_reducible rfl
  rotate_left
  ·simp only [Act.put, List.setIfInBounds_toArray, List.set_cons_zero, List.set_cons_succ, i64_w, i32_w]
   rfl
  refine pure_ (i := 2) (N := some 20) (v := ?_) (a' := ?_) #[true, true, true, false, false, false, true, true, false, false, false, false, false, false, false] rfl rfl (any_of HT_.out (by kernel_rfl)) (fun _ _ _ h => h) (Or.inl ⟨by rfl, ?_⟩) ?_ ?_
  rotate_left
  ·intro w'
   go_simp
   with_reducible rfl
  rotate_left
  ·simp only [Act.put, List.setIfInBounds_toArray, List.set_cons_zero, List.set_cons_succ, i64_w, i32_w]
   rfl
  refine pure_ (i := 8) (N := some 26) (v := ?_) (a' := ?_) #[true, true, true, false, false, false, true, true, true, false, false, false, false, false, false] rfl rfl (any_of HT_.out (by kernel_rfl)) (fun _ _ _ h => h) (Or.inl ⟨by rfl, ?_⟩) ?_ ?_
  rotate_left
  ·intro w'
   go_simp
   with_reducible rfl
  rotate_left
  ·simp only [Act.put, List.setIfInBounds_toArray, List.set_cons_zero, List.set_cons_succ, i64_w, i32_w]
   rfl
  refine take_ (i := 3) (N := some 21) (v := ?_) (a' := ?_) #[true, true, true, true, false, false, true, true, true, false, false, false, false, false, false] rfl rfl (take_ofW HT_.out HW_.out (by kernel_rfl)) (fun _ _ _ h => h) (Or.inl ⟨by rfl, ?_⟩) hHeld ?_ ?_
  rotate_left
  ·intro w' hS
   have f_c0 := pw_cell_below hS c0
   go_simp
   with_reducible rfl
  rotate_left
  ·simp only [Act.put, List.setIfInBounds_toArray, List.set_cons_zero, List.set_cons_succ, i64_w, i32_w]
   rfl
  refine take_ (i := 9) (N := some 27) (v := ?_) (a' := ?_) #[true, true, true, true, false, false, true, true, true, true, false, false, false, false, false] rfl rfl (take_ofW HT_.out HW_.out (by kernel_rfl)) (fun _ _ _ h => h) (Or.inl ⟨by rfl, ?_⟩) hHeld ?_ ?_
  rotate_left
  ·intro w' hS
   have f_c1 := pw_cell_below hS c1
   go_simp
   with_reducible rfl
  rotate_left
  ·simp only [Act.put, List.setIfInBounds_toArray, List.set_cons_zero, List.set_cons_succ, i64_w, i32_w]
   rfl
  refine pure_ (i := 10) (N := some 28) (v := ?_) (a' := ?_) #[true, true, true, true, false, false, true, true, true, true, true, false, false, false, false] rfl rfl (any_of HT_.out (by kernel_rfl)) (fun _ _ _ h => h) (Or.inl ⟨by rfl, ?_⟩) ?_ ?_
  rotate_left
  ·intro w'
   go_simp
   with_reducible rfl
  rotate_left
  ·simp only [Act.put, List.setIfInBounds_toArray, List.set_cons_zero, List.set_cons_succ, i64_w, i32_w]
   rfl
  refine take_ (i := 11) (N := some 29) (v := ?_) (a' := ?_) #[true, true, true, true, false, false, true, true, true, true, true, true, false, false, false] rfl rfl (take_ofW HT_.out HW_.out (by kernel_rfl)) (fun _ _ _ h => h) (Or.inl ⟨by rfl, ?_⟩) hHeld ?_ ?_
  rotate_left
  ·intro w' hS
   have f_cB := pw_cell_below hS cB
   go_simp
   with_reducible rfl
  rotate_left
  ·simp only [Act.put, List.setIfInBounds_toArray, List.set_cons_zero, List.set_cons_succ, i64_w, i32_w]
   rfl
  refine two_ (i := 4) (j := 12) (Ni := some 22) (Nj := some 30) #[true, true, true, true, true, false, true, true, true, true, true, true, false, false, false] #[true, true, true, true, false, false, true, true, true, true, true, true, true, false, false] rfl rfl rfl rfl (two_of HT_.out (by kernel_rfl)) (by decide) (by decide) (fun K hK => ?_) (fun K hK => ?_)
  ·skip
   refine Kd.R_lit_step (Kd.int .u8) _ 5 ?hg (N := 22) ?hd (xs := ([(c.toNat : Int)] : List Int)) (inner := [.int .u8 (c.toNat : Int)]) (ok := fun _ => True) (okp := fun _ => True) ?hr ?hp (fun _ hk => hk) trivial (Below.refl _ _) (Nat.le_refl _) (by simp) ?_; (case hd => rfl); (case hg => rfl); (case hr => first | (go_simp; done) | (go_simp; rfl)); (case hp => exact (Reps.one (show Kd.M (Kd.int .u8) _ _ _ (c.toNat : Int) [.int .u8 (c.toNat : Int)] from rfl) (Reps.none _ _)))
   intro sv wb ho hb hg_ hnew_
   clear hg_ hnew_
   have HO := Aside0.mk (Kd.R_lower ho (below_size hHeld))
   refine hK.out _ _ (below_step hHeld hb) (fun hHeld => ?_)
   clear hb ho
   clear hK K
   refine norm_ (a' := ?_) ?_ ?_
   rotate_left
   ·show Act.put _ (some 22) _ = _
    simp only [Act.put, List.setIfInBounds_toArray, List.set_cons_zero, List.set_cons_succ, i64_w, i32_w]
    rfl
   refine narrow_ (T := fun w' => Kd.R (Kd.int .u8) 5 w' w.heap.size (fun _ => True) sv [(c.toNat : Int)]) hHeld HO.out ?_
   replace hHeld := And.intro hHeld HO.out
   clear HO
   refine take_ (i := 5) (N := some 23) (v := ?_) (a' := ?_) #[true, true, true, true, true, true, true, true, true, true, true, true, false, false, false] rfl rfl (take_ofW HT_.out HW_.out (by kernel_rfl)) (fun _ _ _ h => h) (Or.inl ⟨by rfl, ?_⟩) hHeld ?_ ?_
   rotate_left
   ·intro w' hS
    have hcv := own_string (P := Try.prog) Try.underlying43 Try.underlying5 Try.underlying9 (Kd.own_of_R hS.2)
    go_simp
    with_reducible rfl
   rotate_left
   ·simp only [Act.put, List.setIfInBounds_toArray, List.set_cons_zero, List.set_cons_succ, i64_w, i32_w]
    rfl
   refine one_ (i := 12) (N := some 30) #[true, true, true, true, true, true, true, true, true, true, true, true, true, false, false] rfl rfl (one_of HT_.out (by kernel_rfl)) (by decide) (fun K hK => ?_)
   refine goes_ Try.func16 (by kernel_rfl) rfl #[.pointer (some ⟨h, 0, none⟩)] (by rfl) rfl rfl (by (try simp only [List.map_toArray, List.map_cons, List.map_nil]); first | done | rfl) ?_
   refine (IH.out _ hHeld.1).mono ?_
   rintro e w9 ⟨rfl, hb⟩
   refine ⟨_, rfl, ?_⟩
   refine hK.out _ _ ⟨below_step hHeld.1 hb, Kd.R_below hHeld.2 hb⟩ (fun hHeld => ?_)
   clear hb
   clear hK K
   refine norm_ (a' := ?_) ?_ ?_
   rotate_left
   ·show Act.put _ (some 30) _ = _
    simp only [Act.put, List.setIfInBounds_toArray, List.set_cons_zero, List.set_cons_succ, i64_w, i32_w]
    rfl
   refine pure_ (i := 13) (N := some 31) (v := ?_) (a' := ?_) #[true, true, true, true, true, true, true, true, true, true, true, true, true, true, false] rfl rfl (any_of HT_.out (by kernel_rfl)) (fun _ _ _ h => h) (Or.inl ⟨by rfl, ?_⟩) ?_ ?_
   rotate_left
   ·intro w'
    go_simp
    with_reducible rfl
   rotate_left
   ·simp only [Act.put, List.setIfInBounds_toArray, List.set_cons_zero, List.set_cons_succ, i64_w, i32_w]
    rfl
   refine pure_ (i := 14) (N := some 2) (v := ?_) (a' := ?_) #[true, true, true, true, true, true, true, true, true, true, true, true, true, true, true] rfl rfl (any_of HT_.out (by kernel_rfl)) (fun _ _ _ h => h) (Or.inl ⟨by rfl, ?_⟩) ?_ ?_
   rotate_left
   ·intro w'
    go_simp
    with_reducible rfl
   rotate_left
   ·simp only [Act.put, List.setIfInBounds_toArray, List.set_cons_zero, List.set_cons_succ, i64_w, i32_w]
    rfl
   refine done_ (done_of HT_.out (by kernel_rfl)) ?_
   have HB := Aside0.mk hHeld.1
   clear hHeld HT_ HW_
   go_wp2
   go_ret
   exact ⟨rfl, HB.out⟩
  ·skip
   refine goes_ Try.func16 (by kernel_rfl) rfl #[.pointer (some ⟨h, 0, none⟩)] (by rfl) rfl rfl (by (try simp only [List.map_toArray, List.map_cons, List.map_nil]); first | done | rfl) ?_
   refine (IH.out _ hHeld).mono ?_
   rintro e w9 ⟨rfl, hb⟩
   refine ⟨_, rfl, ?_⟩
   refine hK.out _ _ (below_step hHeld hb) (fun hHeld => ?_)
   clear hb
   clear hK K
   refine norm_ (a' := ?_) ?_ ?_
   rotate_left
   ·show Act.put _ (some 30) _ = _
    simp only [Act.put, List.setIfInBounds_toArray, List.set_cons_zero, List.set_cons_succ, i64_w, i32_w]
    rfl
   refine one_ (i := 4) (N := some 22) #[true, true, true, true, true, false, true, true, true, true, true, true, true, false, false] rfl rfl (one_of HT_.out (by kernel_rfl)) (by decide) (fun K hK => ?_)
   refine Kd.R_lit_step (Kd.int .u8) _ 5 ?hg (N := 22) ?hd (xs := ([(c.toNat : Int)] : List Int)) (inner := [.int .u8 (c.toNat : Int)]) (ok := fun _ => True) (okp := fun _ => True) ?hr ?hp (fun _ hk => hk) trivial (Below.refl _ _) (Nat.le_refl _) (by simp) ?_; (case hd => rfl); (case hg => rfl); (case hr => first | (go_simp; done) | (go_simp; rfl)); (case hp => exact (Reps.one (show Kd.M (Kd.int .u8) _ _ _ (c.toNat : Int) [.int .u8 (c.toNat : Int)] from rfl) (Reps.none _ _)))
   intro sv wb ho hb hg_ hnew_
   clear hg_ hnew_
   have HO := Aside0.mk (Kd.R_lower ho (below_size hHeld))
   refine hK.out _ _ (below_step hHeld hb) (fun hHeld => ?_)
   clear hb ho
   clear hK K
   refine norm_ (a' := ?_) ?_ ?_
   rotate_left
   ·show Act.put _ (some 22) _ = _
    simp only [Act.put, List.setIfInBounds_toArray, List.set_cons_zero, List.set_cons_succ, i64_w, i32_w]
    rfl
   refine narrow_ (T := fun w' => Kd.R (Kd.int .u8) 5 w' w.heap.size (fun _ => True) sv [(c.toNat : Int)]) hHeld HO.out ?_
   replace hHeld := And.intro hHeld HO.out
   clear HO
   refine take_ (i := 5) (N := some 23) (v := ?_) (a' := ?_) #[true, true, true, true, true, true, true, true, true, true, true, true, true, false, false] rfl rfl (take_ofW HT_.out HW_.out (by kernel_rfl)) (fun _ _ _ h => h) (Or.inl ⟨by rfl, ?_⟩) hHeld ?_ ?_
   rotate_left
   ·intro w' hS
    have hcv := own_string (P := Try.prog) Try.underlying43 Try.underlying5 Try.underlying9 (Kd.own_of_R hS.2)
    go_simp
    with_reducible rfl
   rotate_left
   ·simp only [Act.put, List.setIfInBounds_toArray, List.set_cons_zero, List.set_cons_succ, i64_w, i32_w]
    rfl
   refine pure_ (i := 13) (N := some 31) (v := ?_) (a' := ?_) #[true, true, true, true, true, true, true, true, true, true, true, true, true, true, false] rfl rfl (any_of HT_.out (by kernel_rfl)) (fun _ _ _ h => h) (Or.inl ⟨by rfl, ?_⟩) ?_ ?_
   rotate_left
   ·intro w'
    go_simp
    with_reducible rfl
   rotate_left
   ·simp only [Act.put, List.setIfInBounds_toArray, List.set_cons_zero, List.set_cons_succ, i64_w, i32_w]
    rfl
   refine pure_ (i := 14) (N := some 2) (v := ?_) (a' := ?_) #[true, true, true, true, true, true, true, true, true, true, true, true, true, true, true] rfl rfl (any_of HT_.out (by kernel_rfl)) (fun _ _ _ h => h) (Or.inl ⟨by rfl, ?_⟩) ?_ ?_
   rotate_left
   ·intro w'
    go_simp
    with_reducible rfl
   rotate_left
   ·simp only [Act.put, List.setIfInBounds_toArray, List.set_cons_zero, List.set_cons_succ, i64_w, i32_w]
    rfl
   refine done_ (done_of HT_.out (by kernel_rfl)) ?_
   have HB := Aside0.mk hHeld.1
   clear hHeld HT_ HW_
   go_wp2
   go_ret
   exact ⟨rfl, HB.out⟩
 | .two c x y, g, w, hA, hs => by
  obtain ⟨B, h, i, cap, hA, cB, cC, hx, hy⟩ := hA
  have c0 := (blk_cell hA 0).trans (show _ = some (Value.int .u8 (c.toNat : Int)) from rfl)
  have c1 := (blk_cell hA 1).trans (show _ = some (Value.slice (some B) 2 cap) from rfl)
  have hu_ := Try.underlying48
  have hsz : (te_text (.two c x y)).size = (((⟨#[40]⟩ : ByteArray).size + (te_text x).size) + (tsg c).size) + (te_text y).size + (⟨#[41]⟩ : ByteArray).size := by
   rw [te_text, ByteArray.size_append, ByteArray.size_append, ByteArray.size_append, ByteArray.size_append]
  have k40 : (⟨#[40]⟩ : ByteArray).size = 1 := rfl
  have k41 : (⟨#[41]⟩ : ByteArray).size = 1 := rfl
  have IH := Aside0.mk (fun W (hW : Below w.heap.size w W) => tx_text x h W (Stands.below hW hx) (by omega))
  have IH2 := Aside0.mk (fun W (hW : Below w.heap.size w W) => tx_text y i W (Stands.below hW hy) (by omega))
  have z1 := tsg_size c
  have r0 : 1 + (te_text x).size ≤ 9223372036854775807 := by omega
  have r1 : 1 + (te_text x).size + (tsg c).size ≤ 9223372036854775807 := by omega
  have r2 : 1 + (te_text x).size + (tsg c).size + (te_text y).size ≤ 9223372036854775807 := by omega
  have r3 : 1 + (te_text x).size + (tsg c).size + (te_text y).size + 1 ≤ 9223372036854775807 := by omega
  have a0 := eq_true r0
  have a1 := eq_true r1
  have a2 := eq_true r2
  have a3 := eq_true r3
  have b0 := eq_false (Nat.not_lt.2 r0)
  have b1 := eq_false (Nat.not_lt.2 r1)
  have b2 := eq_false (Nat.not_lt.2 r2)
  have b3 := eq_false (Nat.not_lt.2 r3)
  have d0 := decide_eq_true r0
  have d1 := decide_eq_true r1
  have d2 := decide_eq_true r2
  have d3 := decide_eq_true r3
  unfold tsg at a1 a2 a3 b1 b2 b3 d1 d2 d3
  have hB0 : Below w.heap.size w w.drew := below_drew1 (Below.refl _ _)
  clear hs hsz r0 r1 r2 r3 hx hy k40 k41 z1
  go_enter Try.func16, Try.ntmps16
  try go_wp2_with fail
  refine start_ (n := 25) (S := fun w' => Below w.heap.size w w') (ds := []) #[false, false, false, false, false, false, false, false, false, false, false, false, false, false, false, false, false, false, false, false, false, false, false, false, false] (by kernel_rfl) rfl rfl hB0 (fun hHeld => ?_); refine with_tabW tx6.tab tx6.bits (fun HT_ HW_ => ?_)
  generalize w.drew = wd at hHeld ⊢
  refine pure_ (i := 0) (N := some 32) (v := ?_) (a' := ?_) #[true, false, false, false, false, false, false, false, false, false, false, false, false, false, false, false, false, false, false, false, false, false, false, false, false] rfl rfl (any_of HT_.out (by kernel_rfl)) (fun _ _ _ h => h) (Or.inl ⟨by rfl, ?_⟩) ?_ ?_
  rotate_left
  ·intro w'
   go_simp
   with_reducible rfl
  rotate_left
  ·simp only [Act.put, List.setIfInBounds_toArray, List.set_cons_zero, List.set_cons_succ, i64_w, i32_w]
   rfl
  refine pure_ (i := 8) (N := some 40) (v := ?_) (a' := ?_) #[true, false, false, false, false, false, false, false, true, false, false, false, false, false, false, false, false, false, false, false, false, false, false, false, false] rfl rfl (any_of HT_.out (by kernel_rfl)) (fun _ _ _ h => h) (Or.inl ⟨by rfl, ?_⟩) ?_ ?_
  rotate_left
  ·intro w'
   go_simp
   with_reducible rfl
  rotate_left
  ·simp only [Act.put, List.setIfInBounds_toArray, List.set_cons_zero, List.set_cons_succ, i64_w, i32_w]
   rfl
  refine pure_ (i := 15) (N := some 47) (v := ?_) (a' := ?_) #[true, false, false, false, false, false, false, false, true, false, false, false, false, false, false, true, false, false, false, false, false, false, false, false, false] rfl rfl (any_of HT_.out (by kernel_rfl)) (fun _ _ _ h => h) (Or.inl ⟨by rfl, ?_⟩) ?_ ?_
  rotate_left
  ·intro w'
   go_simp
   with_reducible rfl
  rotate_left
  ·simp only [Act.put, List.setIfInBounds_toArray, List.set_cons_zero, List.set_cons_succ, i64_w, i32_w]
   rfl
  refine pure_ (i := 1) (N := some 33) (v := ?_) (a' := ?_) #[true, true, false, false, false, false, false, false, true, false, false, false, false, false, false, true, false, false, false, false, false, false, false, false, false] rfl rfl (any_of HT_.out (by kernel_rfl)) (fun _ _ _ h => h) (Or.inl ⟨by rfl, ?_⟩) ?_ ?_
  rotate_left
  ·intro w'
   go_simp
   with_reducible rfl
  rotate_left
  ·simp only [Act.put, List.setIfInBounds_toArray, List.set_cons_zero, List.set_cons_succ, i64_w, i32_w]
   rfl
  refine pure_ (i := 9) (N := some 41) (v := ?_) (a' := ?_) #[true, true, false, false, false, false, false, false, true, true, false, false, false, false, false, true, false, false, false, false, false, false, false, false, false] rfl rfl (any_of HT_.out (by kernel_rfl)) (fun _ _ _ h => h) (Or.inl ⟨by rfl, ?_⟩) ?_ ?_
  rotate_left
  ·intro w'
   go_simp
   with_reducible rfl
  rotate_left
  ·simp only [Act.put, List.setIfInBounds_toArray, List.set_cons_zero, List.set_cons_succ, i64_w, i32_w]
   rfl
  refine pure_ (i := 16) (N := some 48) (v := ?_) (a' := ?_) #[true, true, false, false, false, false, false, false, true, true, false, false, false, false, false, true, true, false, false, false, false, false, false, false, false] rfl rfl (any_of HT_.out (by kernel_rfl)) (fun _ _ _ h => h) (Or.inl ⟨by rfl, ?_⟩) ?_ ?_
  rotate_left
  ·intro w'
   go_simp
   with_reducible rfl
  rotate_left
  ·simp only [Act.put, List.setIfInBounds_toArray, List.set_cons_zero, List.set_cons_succ, i64_w, i32_w]
   rfl
  refine pure_ (i := 2) (N := some 34) (v := ?_) (a' := ?_) #[true, true, true, false, false, false, false, false, true, true, false, false, false, false, false, true, true, false, false, false, false, false, false, false, false] rfl rfl (any_of HT_.out (by kernel_rfl)) (fun _ _ _ h => h) (Or.inl ⟨by rfl, ?_⟩) ?_ ?_
  rotate_left
  ·intro w'
   go_simp
   with_reducible rfl
  rotate_left
  ·simp only [Act.put, List.setIfInBounds_toArray, List.set_cons_zero, List.set_cons_succ, i64_w, i32_w]
   rfl
  refine pure_ (i := 10) (N := some 42) (v := ?_) (a' := ?_) #[true, true, true, false, false, false, false, false, true, true, true, false, false, false, false, true, true, false, false, false, false, false, false, false, false] rfl rfl (any_of HT_.out (by kernel_rfl)) (fun _ _ _ h => h) (Or.inl ⟨by rfl, ?_⟩) ?_ ?_
  rotate_left
  ·intro w'
   go_simp
   with_reducible rfl
  rotate_left
  ·simp only [Act.put, List.setIfInBounds_toArray, List.set_cons_zero, List.set_cons_succ, i64_w, i32_w]
   rfl
  refine pure_ (i := 17) (N := some 49) (v := ?_) (a' := ?_) #[true, true, true, false, false, false, false, false, true, true, true, false, false, false, false, true, true, true, false, false, false, false, false, false, false] rfl rfl (any_of HT_.out (by kernel_rfl)) (fun _ _ _ h => h) (Or.inl ⟨by rfl, ?_⟩) ?_ ?_
  rotate_left
  ·intro w'
   go_simp
   with_reducible rfl
  rotate_left
  ·simp only [Act.put, List.setIfInBounds_toArray, List.set_cons_zero, List.set_cons_succ, i64_w, i32_w]
   rfl
  refine take_ (i := 11) (N := some 43) (v := ?_) (a' := ?_) #[true, true, true, false, false, false, false, false, true, true, true, true, false, false, false, true, true, true, false, false, false, false, false, false, false] rfl rfl (take_ofW HT_.out HW_.out (by kernel_rfl)) (fun _ _ _ h => h) (Or.inl ⟨by rfl, ?_⟩) hHeld ?_ ?_
  rotate_left
  ·intro w' hS
   have f_c0 := pw_cell_below hS c0
   go_simp
   with_reducible rfl
  rotate_left
  ·simp only [Act.put, List.setIfInBounds_toArray, List.set_cons_zero, List.set_cons_succ, i64_w, i32_w]
   rfl
  refine take_ (i := 3) (N := some 35) (v := ?_) (a' := ?_) #[true, true, true, true, false, false, false, false, true, true, true, true, false, false, false, true, true, true, false, false, false, false, false, false, false] rfl rfl (take_ofW HT_.out HW_.out (by kernel_rfl)) (fun _ _ _ h => h) (Or.inl ⟨by rfl, ?_⟩) hHeld ?_ ?_
  rotate_left
  ·intro w' hS
   have f_c1 := pw_cell_below hS c1
   go_simp
   with_reducible rfl
  rotate_left
  ·simp only [Act.put, List.setIfInBounds_toArray, List.set_cons_zero, List.set_cons_succ, i64_w, i32_w]
   rfl
  refine take_ (i := 18) (N := some 50) (v := ?_) (a' := ?_) #[true, true, true, true, false, false, false, false, true, true, true, true, false, false, false, true, true, true, true, false, false, false, false, false, false] rfl rfl (take_ofW HT_.out HW_.out (by kernel_rfl)) (fun _ _ _ h => h) (Or.inl ⟨by rfl, ?_⟩) hHeld ?_ ?_
  rotate_left
  ·intro w' hS
   have f_c1 := pw_cell_below hS c1
   go_simp
   with_reducible rfl
  rotate_left
  ·simp only [Act.put, List.setIfInBounds_toArray, List.set_cons_zero, List.set_cons_succ, i64_w, i32_w]
   rfl
  refine pure_ (i := 4) (N := some 36) (v := ?_) (a' := ?_) #[true, true, true, true, true, false, false, false, true, true, true, true, false, false, false, true, true, true, true, false, false, false, false, false, false] rfl rfl (any_of HT_.out (by kernel_rfl)) (fun _ _ _ h => h) (Or.inl ⟨by rfl, ?_⟩) ?_ ?_
  rotate_left
  ·intro w'
   go_simp
   with_reducible rfl
  rotate_left
  ·simp only [Act.put, List.setIfInBounds_toArray, List.set_cons_zero, List.set_cons_succ, i64_w, i32_w]
   rfl
  refine pure_ (i := 19) (N := some 51) (v := ?_) (a' := ?_) #[true, true, true, true, true, false, false, false, true, true, true, true, false, false, false, true, true, true, true, true, false, false, false, false, false] rfl rfl (any_of HT_.out (by kernel_rfl)) (fun _ _ _ h => h) (Or.inl ⟨by rfl, ?_⟩) ?_ ?_
  rotate_left
  ·intro w'
   go_simp
   with_reducible rfl
  rotate_left
  ·simp only [Act.put, List.setIfInBounds_toArray, List.set_cons_zero, List.set_cons_succ, i64_w, i32_w]
   rfl
  refine take_ (i := 5) (N := some 37) (v := ?_) (a' := ?_) #[true, true, true, true, true, true, false, false, true, true, true, true, false, false, false, true, true, true, true, true, false, false, false, false, false] rfl rfl (take_ofW HT_.out HW_.out (by kernel_rfl)) (fun _ _ _ h => h) (Or.inl ⟨by rfl, ?_⟩) hHeld ?_ ?_
  rotate_left
  ·intro w' hS
   have f_cB := pw_cell_below hS cB
   go_simp
   with_reducible rfl
  rotate_left
  ·simp only [Act.put, List.setIfInBounds_toArray, List.set_cons_zero, List.set_cons_succ, i64_w, i32_w]
   rfl
  refine take_ (i := 20) (N := some 52) (v := ?_) (a' := ?_) #[true, true, true, true, true, true, false, false, true, true, true, true, false, false, false, true, true, true, true, true, true, false, false, false, false] rfl rfl (take_ofW HT_.out HW_.out (by kernel_rfl)) (fun _ _ _ h => h) (Or.inl ⟨by rfl, ?_⟩) hHeld ?_ ?_
  rotate_left
  ·intro w' hS
   have f_cC := pw_cell_below hS cC
   go_simp
   with_reducible rfl
  rotate_left
  ·simp only [Act.put, List.setIfInBounds_toArray, List.set_cons_zero, List.set_cons_succ, i64_w, i32_w]
   rfl
  refine two_ (i := 6) (j := 12) (Ni := some 38) (Nj := some 44) #[true, true, true, true, true, true, true, false, true, true, true, true, false, false, false, true, true, true, true, true, true, false, false, false, false] #[true, true, true, true, true, true, false, false, true, true, true, true, true, false, false, true, true, true, true, true, true, false, false, false, false] rfl rfl rfl rfl (two_of HT_.out (by kernel_rfl)) (by decide) (by decide) (fun K hK => ?_) (fun K hK => ?_)
  ·skip
   refine goes_ Try.func16 (by kernel_rfl) rfl #[.pointer (some ⟨h, 0, none⟩)] (by rfl) rfl rfl (by (try simp only [List.map_toArray, List.map_cons, List.map_nil]); first | done | rfl) ?_
   refine (IH.out _ hHeld).mono ?_
   rintro e w9 ⟨rfl, hb⟩
   refine ⟨_, rfl, ?_⟩
   refine hK.out _ _ (below_step hHeld hb) (fun hHeld => ?_)
   clear hb
   clear hK K
   refine norm_ (a' := ?_) ?_ ?_
   rotate_left
   ·show Act.put _ (some 38) _ = _
    simp only [Act.put, List.setIfInBounds_toArray, List.set_cons_zero, List.set_cons_succ, i64_w, i32_w]
    rfl
   refine pure_ (i := 7) (N := some 39) (v := ?_) (a' := ?_) #[true, true, true, true, true, true, true, true, true, true, true, true, false, false, false, true, true, true, true, true, true, false, false, false, false] rfl rfl (any_of HT_.out (by kernel_rfl)) (fun _ _ _ h => h) (Or.inl ⟨by rfl, ?_⟩) ?_ ?_
   rotate_left
   ·intro w'
    go_simp
    with_reducible rfl
   rotate_left
   ·simp only [Act.put, List.setIfInBounds_toArray, List.set_cons_zero, List.set_cons_succ, i64_w, i32_w]
    rfl
   refine two_ (i := 12) (j := 21) (Ni := some 44) (Nj := some 53) #[true, true, true, true, true, true, true, true, true, true, true, true, true, false, false, true, true, true, true, true, true, false, false, false, false] #[true, true, true, true, true, true, true, true, true, true, true, true, false, false, false, true, true, true, true, true, true, true, false, false, false] rfl rfl rfl rfl (two_of HT_.out (by kernel_rfl)) (by decide) (by decide) (fun K hK => ?_) (fun K hK => ?_)
   ·skip
    refine Kd.R_lit_step (Kd.int .u8) _ 5 ?hg (N := 44) ?hd (xs := ([(c.toNat : Int)] : List Int)) (inner := [.int .u8 (c.toNat : Int)]) (ok := fun _ => True) (okp := fun _ => True) ?hr ?hp (fun _ hk => hk) trivial (Below.refl _ _) (Nat.le_refl _) (by simp) ?_; (case hd => rfl); (case hg => rfl); (case hr => first | (go_simp; done) | (go_simp; rfl)); (case hp => exact (Reps.one (show Kd.M (Kd.int .u8) _ _ _ (c.toNat : Int) [.int .u8 (c.toNat : Int)] from rfl) (Reps.none _ _)))
    intro sv wb ho hb hg_ hnew_
    clear hg_ hnew_
    have HO := Aside0.mk (Kd.R_lower ho (below_size hHeld))
    refine hK.out _ _ (below_step hHeld hb) (fun hHeld => ?_)
    clear hb ho
    clear hK K
    refine norm_ (a' := ?_) ?_ ?_
    rotate_left
    ·show Act.put _ (some 44) _ = _
     simp only [Act.put, List.setIfInBounds_toArray, List.set_cons_zero, List.set_cons_succ, i64_w, i32_w]
     rfl
    refine narrow_ (T := fun w' => Kd.R (Kd.int .u8) 5 w' w.heap.size (fun _ => True) sv [(c.toNat : Int)]) hHeld HO.out ?_
    replace hHeld := And.intro hHeld HO.out
    clear HO
    refine take_ (i := 13) (N := some 45) (v := ?_) (a' := ?_) #[true, true, true, true, true, true, true, true, true, true, true, true, true, true, false, true, true, true, true, true, true, false, false, false, false] rfl rfl (take_ofW HT_.out HW_.out (by kernel_rfl)) (fun _ _ _ h => h) (Or.inl ⟨by rfl, ?_⟩) hHeld ?_ ?_
    rotate_left
    ·intro w' hS
     have hcv := own_string (P := Try.prog) Try.underlying43 Try.underlying5 Try.underlying9 (Kd.own_of_R hS.2)
     go_simp
     with_reducible rfl
    rotate_left
    ·simp only [Act.put, List.setIfInBounds_toArray, List.set_cons_zero, List.set_cons_succ, i64_w, i32_w]
     rfl
    refine pure_ (i := 14) (N := some 46) (v := ?_) (a' := ?_) #[true, true, true, true, true, true, true, true, true, true, true, true, true, true, true, true, true, true, true, true, true, false, false, false, false] rfl rfl (any_of HT_.out (by kernel_rfl)) (fun _ _ _ h => h) (Or.inl ⟨by rfl, ?_⟩) ?_ ?_
    rotate_left
    ·intro w'
     go_simp
     with_reducible rfl
    rotate_left
    ·simp only [Act.put, List.setIfInBounds_toArray, List.set_cons_zero, List.set_cons_succ, i64_w, i32_w]
     rfl
    refine one_ (i := 21) (N := some 53) #[true, true, true, true, true, true, true, true, true, true, true, true, true, true, true, true, true, true, true, true, true, true, false, false, false] rfl rfl (one_of HT_.out (by kernel_rfl)) (by decide) (fun K hK => ?_)
    refine goes_ Try.func16 (by kernel_rfl) rfl #[.pointer (some ⟨i, 0, none⟩)] (by rfl) rfl rfl (by (try simp only [List.map_toArray, List.map_cons, List.map_nil]); first | done | rfl) ?_
    refine (IH2.out _ hHeld.1).mono ?_
    rintro e w9 ⟨rfl, hb⟩
    refine ⟨_, rfl, ?_⟩
    refine hK.out _ _ ⟨below_step hHeld.1 hb, Kd.R_below hHeld.2 hb⟩ (fun hHeld => ?_)
    clear hb
    clear hK K
    refine norm_ (a' := ?_) ?_ ?_
    rotate_left
    ·show Act.put _ (some 53) _ = _
     simp only [Act.put, List.setIfInBounds_toArray, List.set_cons_zero, List.set_cons_succ, i64_w, i32_w]
     rfl
    refine pure_ (i := 22) (N := some 54) (v := ?_) (a' := ?_) #[true, true, true, true, true, true, true, true, true, true, true, true, true, true, true, true, true, true, true, true, true, true, true, false, false] rfl rfl (any_of HT_.out (by kernel_rfl)) (fun _ _ _ h => h) (Or.inl ⟨by rfl, ?_⟩) ?_ ?_
    rotate_left
    ·intro w'
     go_simp
     with_reducible rfl
    rotate_left
    ·simp only [Act.put, List.setIfInBounds_toArray, List.set_cons_zero, List.set_cons_succ, i64_w, i32_w]
     rfl
    refine pure_ (i := 23) (N := some 55) (v := ?_) (a' := ?_) #[true, true, true, true, true, true, true, true, true, true, true, true, true, true, true, true, true, true, true, true, true, true, true, true, false] rfl rfl (any_of HT_.out (by kernel_rfl)) (fun _ _ _ h => h) (Or.inl ⟨by rfl, ?_⟩) ?_ ?_
    rotate_left
    ·intro w'
     go_simp
     with_reducible rfl
    rotate_left
    ·simp only [Act.put, List.setIfInBounds_toArray, List.set_cons_zero, List.set_cons_succ, i64_w, i32_w]
     rfl
    refine pure_ (i := 24) (N := some 2) (v := ?_) (a' := ?_) #[true, true, true, true, true, true, true, true, true, true, true, true, true, true, true, true, true, true, true, true, true, true, true, true, true] rfl rfl (any_of HT_.out (by kernel_rfl)) (fun _ _ _ h => h) (Or.inl ⟨by rfl, ?_⟩) ?_ ?_
    rotate_left
    ·intro w'
     go_simp
     with_reducible rfl
    rotate_left
    ·simp only [Act.put, List.setIfInBounds_toArray, List.set_cons_zero, List.set_cons_succ, i64_w, i32_w]
     rfl
    refine done_ (done_of HT_.out (by kernel_rfl)) ?_
    have HB := Aside0.mk hHeld.1
    clear hHeld HT_ HW_
    go_wp2
    go_ret
    exact ⟨rfl, HB.out⟩
   ·skip
    refine goes_ Try.func16 (by kernel_rfl) rfl #[.pointer (some ⟨i, 0, none⟩)] (by rfl) rfl rfl (by (try simp only [List.map_toArray, List.map_cons, List.map_nil]); first | done | rfl) ?_
    refine (IH2.out _ hHeld).mono ?_
    rintro e w9 ⟨rfl, hb⟩
    refine ⟨_, rfl, ?_⟩
    refine hK.out _ _ (below_step hHeld hb) (fun hHeld => ?_)
    clear hb
    clear hK K
    refine norm_ (a' := ?_) ?_ ?_
    rotate_left
    ·show Act.put _ (some 53) _ = _
     simp only [Act.put, List.setIfInBounds_toArray, List.set_cons_zero, List.set_cons_succ, i64_w, i32_w]
     rfl
    refine one_ (i := 12) (N := some 44) #[true, true, true, true, true, true, true, true, true, true, true, true, true, false, false, true, true, true, true, true, true, true, false, false, false] rfl rfl (one_of HT_.out (by kernel_rfl)) (by decide) (fun K hK => ?_)
    refine Kd.R_lit_step (Kd.int .u8) _ 5 ?hg (N := 44) ?hd (xs := ([(c.toNat : Int)] : List Int)) (inner := [.int .u8 (c.toNat : Int)]) (ok := fun _ => True) (okp := fun _ => True) ?hr ?hp (fun _ hk => hk) trivial (Below.refl _ _) (Nat.le_refl _) (by simp) ?_; (case hd => rfl); (case hg => rfl); (case hr => first | (go_simp; done) | (go_simp; rfl)); (case hp => exact (Reps.one (show Kd.M (Kd.int .u8) _ _ _ (c.toNat : Int) [.int .u8 (c.toNat : Int)] from rfl) (Reps.none _ _)))
    intro sv wb ho hb hg_ hnew_
    clear hg_ hnew_
    have HO := Aside0.mk (Kd.R_lower ho (below_size hHeld))
    refine hK.out _ _ (below_step hHeld hb) (fun hHeld => ?_)
    clear hb ho
    clear hK K
    refine norm_ (a' := ?_) ?_ ?_
    rotate_left
    ·show Act.put _ (some 44) _ = _
     simp only [Act.put, List.setIfInBounds_toArray, List.set_cons_zero, List.set_cons_succ, i64_w, i32_w]
     rfl
    refine narrow_ (T := fun w' => Kd.R (Kd.int .u8) 5 w' w.heap.size (fun _ => True) sv [(c.toNat : Int)]) hHeld HO.out ?_
    replace hHeld := And.intro hHeld HO.out
    clear HO
    refine take_ (i := 13) (N := some 45) (v := ?_) (a' := ?_) #[true, true, true, true, true, true, true, true, true, true, true, true, true, true, false, true, true, true, true, true, true, true, false, false, false] rfl rfl (take_ofW HT_.out HW_.out (by kernel_rfl)) (fun _ _ _ h => h) (Or.inl ⟨by rfl, ?_⟩) hHeld ?_ ?_
    rotate_left
    ·intro w' hS
     have hcv := own_string (P := Try.prog) Try.underlying43 Try.underlying5 Try.underlying9 (Kd.own_of_R hS.2)
     go_simp
     with_reducible rfl
    rotate_left
    ·simp only [Act.put, List.setIfInBounds_toArray, List.set_cons_zero, List.set_cons_succ, i64_w, i32_w]
     rfl
    refine pure_ (i := 14) (N := some 46) (v := ?_) (a' := ?_) #[true, true, true, true, true, true, true, true, true, true, true, true, true, true, true, true, true, true, true, true, true, true, false, false, false] rfl rfl (any_of HT_.out (by kernel_rfl)) (fun _ _ _ h => h) (Or.inl ⟨by rfl, ?_⟩) ?_ ?_
    rotate_left
    ·intro w'
     go_simp
     with_reducible rfl
    rotate_left
    ·simp only [Act.put, List.setIfInBounds_toArray, List.set_cons_zero, List.set_cons_succ, i64_w, i32_w]
     rfl
    refine pure_ (i := 22) (N := some 54) (v := ?_) (a' := ?_) #[true, true, true, true, true, true, true, true, true, true, true, true, true, true, true, true, true, true, true, true, true, true, true, false, false] rfl rfl (any_of HT_.out (by kernel_rfl)) (fun _ _ _ h => h) (Or.inl ⟨by rfl, ?_⟩) ?_ ?_
    rotate_left
    ·intro w'
     go_simp
     with_reducible rfl
    rotate_left
    ·simp only [Act.put, List.setIfInBounds_toArray, List.set_cons_zero, List.set_cons_succ, i64_w, i32_w]
     rfl
    refine pure_ (i := 23) (N := some 55) (v := ?_) (a' := ?_) #[true, true, true, true, true, true, true, true, true, true, true, true, true, true, true, true, true, true, true, true, true, true, true, true, false] rfl rfl (any_of HT_.out (by kernel_rfl)) (fun _ _ _ h => h) (Or.inl ⟨by rfl, ?_⟩) ?_ ?_
    rotate_left
    ·intro w'
     go_simp
     with_reducible rfl
    rotate_left
    ·simp only [Act.put, List.setIfInBounds_toArray, List.set_cons_zero, List.set_cons_succ, i64_w, i32_w]
     rfl
    refine pure_ (i := 24) (N := some 2) (v := ?_) (a' := ?_) #[true, true, true, true, true, true, true, true, true, true, true, true, true, true, true, true, true, true, true, true, true, true, true, true, true] rfl rfl (any_of HT_.out (by kernel_rfl)) (fun _ _ _ h => h) (Or.inl ⟨by rfl, ?_⟩) ?_ ?_
    rotate_left
    ·intro w'
     go_simp
     with_reducible rfl
    rotate_left
    ·simp only [Act.put, List.setIfInBounds_toArray, List.set_cons_zero, List.set_cons_succ, i64_w, i32_w]
     rfl
    refine done_ (done_of HT_.out (by kernel_rfl)) ?_
    have HB := Aside0.mk hHeld.1
    clear hHeld HT_ HW_
    go_wp2
    go_ret
    exact ⟨rfl, HB.out⟩
  ·skip
   refine Kd.R_lit_step (Kd.int .u8) _ 5 ?hg (N := 44) ?hd (xs := ([(c.toNat : Int)] : List Int)) (inner := [.int .u8 (c.toNat : Int)]) (ok := fun _ => True) (okp := fun _ => True) ?hr ?hp (fun _ hk => hk) trivial (Below.refl _ _) (Nat.le_refl _) (by simp) ?_; (case hd => rfl); (case hg => rfl); (case hr => first | (go_simp; done) | (go_simp; rfl)); (case hp => exact (Reps.one (show Kd.M (Kd.int .u8) _ _ _ (c.toNat : Int) [.int .u8 (c.toNat : Int)] from rfl) (Reps.none _ _)))
   intro sv wb ho hb hg_ hnew_
   clear hg_ hnew_
   have HO := Aside0.mk (Kd.R_lower ho (below_size hHeld))
   refine hK.out _ _ (below_step hHeld hb) (fun hHeld => ?_)
   clear hb ho
   clear hK K
   refine norm_ (a' := ?_) ?_ ?_
   rotate_left
   ·show Act.put _ (some 44) _ = _
    simp only [Act.put, List.setIfInBounds_toArray, List.set_cons_zero, List.set_cons_succ, i64_w, i32_w]
    rfl
   refine narrow_ (T := fun w' => Kd.R (Kd.int .u8) 5 w' w.heap.size (fun _ => True) sv [(c.toNat : Int)]) hHeld HO.out ?_
   replace hHeld := And.intro hHeld HO.out
   clear HO
   refine take_ (i := 13) (N := some 45) (v := ?_) (a' := ?_) #[true, true, true, true, true, true, false, false, true, true, true, true, true, true, false, true, true, true, true, true, true, false, false, false, false] rfl rfl (take_ofW HT_.out HW_.out (by kernel_rfl)) (fun _ _ _ h => h) (Or.inl ⟨by rfl, ?_⟩) hHeld ?_ ?_
   rotate_left
   ·intro w' hS
    have hcv := own_string (P := Try.prog) Try.underlying43 Try.underlying5 Try.underlying9 (Kd.own_of_R hS.2)
    go_simp
    with_reducible rfl
   rotate_left
   ·simp only [Act.put, List.setIfInBounds_toArray, List.set_cons_zero, List.set_cons_succ, i64_w, i32_w]
    rfl
   refine one_ (i := 6) (N := some 38) #[true, true, true, true, true, true, true, false, true, true, true, true, true, true, false, true, true, true, true, true, true, false, false, false, false] rfl rfl (one_of HT_.out (by kernel_rfl)) (by decide) (fun K hK => ?_)
   refine goes_ Try.func16 (by kernel_rfl) rfl #[.pointer (some ⟨h, 0, none⟩)] (by rfl) rfl rfl (by (try simp only [List.map_toArray, List.map_cons, List.map_nil]); first | done | rfl) ?_
   refine (IH.out _ hHeld.1).mono ?_
   rintro e w9 ⟨rfl, hb⟩
   refine ⟨_, rfl, ?_⟩
   refine hK.out _ _ ⟨below_step hHeld.1 hb, Kd.R_below hHeld.2 hb⟩ (fun hHeld => ?_)
   clear hb
   clear hK K
   refine norm_ (a' := ?_) ?_ ?_
   rotate_left
   ·show Act.put _ (some 38) _ = _
    simp only [Act.put, List.setIfInBounds_toArray, List.set_cons_zero, List.set_cons_succ, i64_w, i32_w]
    rfl
   refine pure_ (i := 7) (N := some 39) (v := ?_) (a' := ?_) #[true, true, true, true, true, true, true, true, true, true, true, true, true, true, false, true, true, true, true, true, true, false, false, false, false] rfl rfl (any_of HT_.out (by kernel_rfl)) (fun _ _ _ h => h) (Or.inl ⟨by rfl, ?_⟩) ?_ ?_
   rotate_left
   ·intro w'
    go_simp
    with_reducible rfl
   rotate_left
   ·simp only [Act.put, List.setIfInBounds_toArray, List.set_cons_zero, List.set_cons_succ, i64_w, i32_w]
    rfl
   refine pure_ (i := 14) (N := some 46) (v := ?_) (a' := ?_) #[true, true, true, true, true, true, true, true, true, true, true, true, true, true, true, true, true, true, true, true, true, false, false, false, false] rfl rfl (any_of HT_.out (by kernel_rfl)) (fun _ _ _ h => h) (Or.inl ⟨by rfl, ?_⟩) ?_ ?_
   rotate_left
   ·intro w'
    go_simp
    with_reducible rfl
   rotate_left
   ·simp only [Act.put, List.setIfInBounds_toArray, List.set_cons_zero, List.set_cons_succ, i64_w, i32_w]
    rfl
   refine one_ (i := 21) (N := some 53) #[true, true, true, true, true, true, true, true, true, true, true, true, true, true, true, true, true, true, true, true, true, true, false, false, false] rfl rfl (one_of HT_.out (by kernel_rfl)) (by decide) (fun K hK => ?_)
   refine goes_ Try.func16 (by kernel_rfl) rfl #[.pointer (some ⟨i, 0, none⟩)] (by rfl) rfl rfl (by (try simp only [List.map_toArray, List.map_cons, List.map_nil]); first | done | rfl) ?_
   refine (IH2.out _ hHeld.1).mono ?_
   rintro e w9 ⟨rfl, hb⟩
   refine ⟨_, rfl, ?_⟩
   refine hK.out _ _ ⟨below_step hHeld.1 hb, Kd.R_below hHeld.2 hb⟩ (fun hHeld => ?_)
   clear hb
   clear hK K
   refine norm_ (a' := ?_) ?_ ?_
   rotate_left
   ·show Act.put _ (some 53) _ = _
    simp only [Act.put, List.setIfInBounds_toArray, List.set_cons_zero, List.set_cons_succ, i64_w, i32_w]
    rfl
   refine pure_ (i := 22) (N := some 54) (v := ?_) (a' := ?_) #[true, true, true, true, true, true, true, true, true, true, true, true, true, true, true, true, true, true, true, true, true, true, true, false, false] rfl rfl (any_of HT_.out (by kernel_rfl)) (fun _ _ _ h => h) (Or.inl ⟨by rfl, ?_⟩) ?_ ?_
   rotate_left
   ·intro w'
    go_simp
    with_reducible rfl
   rotate_left
   ·simp only [Act.put, List.setIfInBounds_toArray, List.set_cons_zero, List.set_cons_succ, i64_w, i32_w]
    rfl
   refine pure_ (i := 23) (N := some 55) (v := ?_) (a' := ?_) #[true, true, true, true, true, true, true, true, true, true, true, true, true, true, true, true, true, true, true, true, true, true, true, true, false] rfl rfl (any_of HT_.out (by kernel_rfl)) (fun _ _ _ h => h) (Or.inl ⟨by rfl, ?_⟩) ?_ ?_
   rotate_left
   ·intro w'
    go_simp
    with_reducible rfl
   rotate_left
   ·simp only [Act.put, List.setIfInBounds_toArray, List.set_cons_zero, List.set_cons_succ, i64_w, i32_w]
    rfl
   refine pure_ (i := 24) (N := some 2) (v := ?_) (a' := ?_) #[true, true, true, true, true, true, true, true, true, true, true, true, true, true, true, true, true, true, true, true, true, true, true, true, true] rfl rfl (any_of HT_.out (by kernel_rfl)) (fun _ _ _ h => h) (Or.inl ⟨by rfl, ?_⟩) ?_ ?_
   rotate_left
   ·intro w'
    go_simp
    with_reducible rfl
   rotate_left
   ·simp only [Act.put, List.setIfInBounds_toArray, List.set_cons_zero, List.set_cons_succ, i64_w, i32_w]
    rfl
   refine done_ (done_of HT_.out (by kernel_rfl)) ?_
   have HB := Aside0.mk hHeld.1
   clear hHeld HT_ HW_
   go_wp2
   go_ret
   exact ⟨rfl, HB.out⟩
def te_lone : Te → UInt8 → Bool
 | .leaf c, d => c == d
 | _, _ => false
def te_sign : Te → UInt8
 | .leaf c => c
 | .one c _ => c
 | .two c _ _ => c
theorem Stands.sign {w : World} : ∀ {x : Te} {g : Nat}, Stands w x g → w.cell? ⟨g, 0, none⟩ = some (.int .u8 ((te_sign x).toNat : Int))
 | .leaf c, g, ⟨A, cap, h⟩ => (blk_cell h 0).trans rfl
 | .one c x, g, ⟨B, h', cap, h, _⟩ => (blk_cell h 0).trans rfl
 | .two c x y, g, ⟨B, h', i, cap, h, _⟩ => (blk_cell h 0).trans rfl
theorem u8_eq {c d : UInt8} {e : Int} (he : e = (d.toNat : Int)) : ((c.toNat : Int) == e) = (c == d) := by
 subst he
 by_cases h : c = d
 ·subst h
  simp
 ·rw [beq_eq_false_iff_ne.2 h]
  exact beq_eq_false_iff_ne.2 (fun q => h (UInt8.toNat_inj.1 (by omega)))
set_option maxHeartbeats 4000000 in
set_option maxRecDepth 100000 in
theorem tx_lone (x : Te) (d : UInt8) (e' : Int) (he : e' = (d.toNat : Int)) (b : Bool) (hb : te_lone x d = b) (g : Nat) (w : World) (hA : Stands w x g) :
  Calls Try.prog 32 #[.pointer (some ⟨g, 0, none⟩), .int .u8 e'] w fun e w' => e = .returned (.bool b) ∧ w' = w := by
 have hu_ := Try.underlying48
 cases x with
 | leaf c =>
  obtain ⟨A, cap, hA⟩ := hA
  have c0 := (blk_cell hA 0).trans (show _ = some (Value.int .u8 (c.toNat : Int)) from rfl)
  have c1 := (blk_cell hA 1).trans (show _ = some (Value.slice A 0 cap) from rfl)
  have h1 : ((c.toNat : Int) == e') = b := (u8_eq he).trans hb
  clear he hb hA
  cases b
  all_goals
   go_enter Try.func32, Try.ntmps32
   go_wp2
   go_ret
   exact ⟨rfl, rfl⟩
 | one c x =>
  obtain ⟨B, h, cap, hA, _⟩ := hA
  have c1 := (blk_cell hA 1).trans (show _ = some (Value.slice (some B) 1 cap) from rfl)
  obtain rfl : false = b := hb
  clear he hA
  go_enter Try.func32, Try.ntmps32
  go_wp2
  go_ret
  exact ⟨rfl, rfl⟩
 | two c x y =>
  obtain ⟨B, h, i, cap, hA, _⟩ := hA
  have c1 := (blk_cell hA 1).trans (show _ = some (Value.slice (some B) 2 cap) from rfl)
  obtain rfl : false = b := hb
  clear he hA
  go_enter Try.func32, Try.ntmps32
  go_wp2
  go_ret
  exact ⟨rfl, rfl⟩
def te_one (c : UInt8) (x : Te) : Te :=
 if (c == 42) = true ∧ (te_lone x 48 = true ∨ te_lone x 49 = true) then .leaf 49
 else if ((c == 42) = true ∧ (te_sign x == 42) = true) ∨ te_lone x 48 = true ∨ te_lone x 49 = true then x
 else .one c x
theorem Stands.leaf_new (w : World) (c : UInt8) (k : Int) (hk : k = (c.toNat : Int)) : Stands (w.alloc (.cells #[.int .u8 k, .slice none 0 0] 48 (0, 0))) (.leaf c) w.heap.size := by
 subst hk
 exact ⟨none, 0, blk_new _ _⟩
theorem size_alloc (w : World) (o : Obj) : (w.alloc o).heap.size = w.heap.size + 1 := by
 rw [World.alloc]
 simp only [Array.size_push]
theorem below_a1 (w : World) (o : Obj) : Below w.heap.size w (w.alloc o) := below_alloc (Below.refl _ _) _
theorem below_a2 (w : World) (o p : Obj) : Below w.heap.size w ((w.alloc o).alloc p) := below_alloc (below_alloc (Below.refl _ _) _) _
theorem Stands.one_new {w : World} {x : Te} {h : Nat} (hx : Stands w x h) (c : UInt8) : Stands ((w.alloc (.cells #[.pointer (some ⟨h, 0, none⟩)] 32 (0, 0))).alloc (.cells #[.int .u8 (c.toNat : Int), .slice (some ⟨w.heap.size, 0, none⟩) 1 1] 48 (0, 0))) (.one c x) (w.heap.size + 1) := by
 refine ⟨⟨w.heap.size, 0, none⟩, h, 1, ?_, ?_, Stands.below (below_a2 _ _ _) hx⟩
 ·have := blk_new (w.alloc (.cells #[.pointer (some ⟨h, 0, none⟩)] 32 (0, 0))) (.cells #[.int .u8 (c.toNat : Int), .slice (some ⟨w.heap.size, 0, none⟩) 1 1] 48 (0, 0))
  rwa [size_alloc] at this
 ·exact (blk_cell (blk_alloc (blk_new w _) _) 0).trans rfl
theorem Stands.two_new {w : World} {x y : Te} {h i : Nat} (hx : Stands w x h) (hy : Stands w y i) (c : UInt8) : Stands ((w.alloc (.cells #[.pointer (some ⟨h, 0, none⟩), .pointer (some ⟨i, 0, none⟩)] 32 (0, 0))).alloc (.cells #[.int .u8 (c.toNat : Int), .slice (some ⟨w.heap.size, 0, none⟩) 2 2] 48 (0, 0))) (.two c x y) (w.heap.size + 1) := by
 refine ⟨⟨w.heap.size, 0, none⟩, h, i, 2, ?_, ?_, ?_, Stands.below (below_a2 _ _ _) hx, Stands.below (below_a2 _ _ _) hy⟩
 ·have := blk_new (w.alloc (.cells #[.pointer (some ⟨h, 0, none⟩), .pointer (some ⟨i, 0, none⟩)] 32 (0, 0))) (.cells #[.int .u8 (c.toNat : Int), .slice (some ⟨w.heap.size, 0, none⟩) 2 2] 48 (0, 0))
  rwa [size_alloc] at this
 ·exact (blk_cell (blk_alloc (blk_new w _) _) 0).trans rfl
 ·exact (blk_cell (blk_alloc (blk_new w _) _) 1).trans rfl
set_option maxHeartbeats 4000000 in
set_option maxRecDepth 100000 in
theorem tx_tidyOne (c : UInt8) (x : Te) (g h : Nat) (w : World) (c0 : w.cell? ⟨g, 0, none⟩ = some (.int .u8 (c.toNat : Int))) (hx : Stands w x h) :
  Calls Try.prog 24 #[.pointer (some ⟨g, 0, none⟩), .pointer (some ⟨h, 0, none⟩)] w fun e w' => (∃ r, e = .returned (.pointer (some ⟨r, 0, none⟩)) ∧ Stands w' (te_one c x) r) ∧ Below w.heap.size w w' := by
 have hu_ := Try.underlying48
 have x0 := Stands.sign hx
 have h1 : ((c.toNat : Int) == 42) = (c == 42) := u8_eq rfl
 have h2 : (((te_sign x).toNat : Int) == 42) = (te_sign x == 42) := u8_eq rfl
 have HX := Aside0.mk hx
 have HE := Aside0.mk (show te_one c x = te_one c x from rfl)
 generalize hR : te_one c x = R
 unfold te_one at hR
 obtain ⟨b0, e0⟩ : ∃ b, te_lone x 48 = b := ⟨_, rfl⟩
 obtain ⟨b1, e1⟩ : ∃ b, te_lone x 49 = b := ⟨_, rfl⟩
 obtain ⟨b2, e2⟩ : ∃ b, (c == 42) = b := ⟨_, rfl⟩
 obtain ⟨b3, e3⟩ : ∃ b, (te_sign x == 42) = b := ⟨_, rfl⟩
 have L0 := Aside0.mk (tx_lone x 48 48 rfl b0 e0 h w hx)
 have L1 := Aside0.mk (tx_lone x 49 49 rfl b1 e1 h w hx)
 rw [e0, e1, e2, e3] at hR
 rw [e2] at h1
 rw [e3] at h2
 have HR := Aside0.mk hR
 clear e0 e1 e2 e3 hx HE hR
 cases b2 <;> cases b0 <;> cases b1 <;> cases b3
 all_goals
  go_enter Try.func24, Try.ntmps24
  go_wp2_with (first | (go_at_call 32; (first | (with_reducible refine L0.out.mono ?_) | (with_reducible refine L1.out.mono ?_)); rintro e w' ⟨rfl, rfl⟩))
  all_goals go_ret
  all_goals refine ⟨⟨_, rfl, ?_⟩, ?_⟩
  all_goals
   have hR := HR.out
   simp only [if_true, if_false, Bool.false_eq_true, and_true, true_and, and_false, false_and, or_true, true_or, or_false, false_or, and_self, or_self] at hR
   subst hR
   first | exact HX.out | exact Below.refl _ _ | exact below_a1 _ _ | exact below_a2 _ _ _ | exact Stands.leaf_new _ 49 _ rfl | exact Stands.one_new HX.out c
def te_two (c : UInt8) (x y : Te) : Te :=
 if (te_lone x 48 = true ∧ (c == 43) = true) ∨ (te_lone x 49 = true ∧ (c == 46) = true) then y
 else if (te_lone y 48 = true ∧ (c == 43) = true) ∨ (te_lone y 49 = true ∧ (c == 46) = true) then x
 else if te_lone x 48 = true ∨ te_lone y 48 = true then .leaf 48
 else if (c == 46) = false ∧ ((te_text x).toList == (te_text y).toList) = true then x
 else .two c x y
theorem lone_ex (x : Te) : ∃ b0 b1, te_lone x 48 = b0 ∧ te_lone x 49 = b1 ∧ ((b0 = true ∧ b1 = false) ∨ (b0 = false ∧ b1 = true) ∨ (b0 = false ∧ b1 = false)) := by
 refine ⟨_, _, rfl, rfl, ?_⟩
 cases x with
 | leaf c =>
  by_cases h : c = 48
  ·subst h
   exact .inl ⟨rfl, rfl⟩
  ·have h1 : te_lone (.leaf c) 48 = false := beq_eq_false_iff_ne.2 h
   rw [h1]
   cases te_lone (.leaf c) 49
   ·exact .inr (.inr ⟨rfl, rfl⟩)
   ·exact .inr (.inl ⟨rfl, rfl⟩)
 | one c x => exact .inr (.inr ⟨rfl, rfl⟩)
 | two c x y => exact .inr (.inr ⟨rfl, rfl⟩)
theorem sign_ex (c : UInt8) : ∃ b0 b1, (c == 43) = b0 ∧ (c == 46) = b1 ∧ ((b0 = true ∧ b1 = false) ∨ (b0 = false ∧ b1 = true) ∨ (b0 = false ∧ b1 = false)) := by
 refine ⟨_, _, rfl, rfl, ?_⟩
 by_cases h : c = 43
 ·subst h
  exact .inl ⟨rfl, rfl⟩
 ·have h1 : (c == 43) = false := beq_eq_false_iff_ne.2 h
  rw [h1]
  cases c == 46
  ·exact .inr (.inr ⟨rfl, rfl⟩)
  ·exact .inr (.inl ⟨rfl, rfl⟩)
theorem below_drewN' (w : World) (n : Nat) : Below w.heap.size w (w.drewN n) := pw_below_drewN (Below.refl _ _) n
set_option maxHeartbeats 8000000 in
set_option maxRecDepth 100000 in
theorem tx_tidyTwo (c : UInt8) (x y : Te) (g h i : Nat) (w : World) (c0 : w.cell? ⟨g, 0, none⟩ = some (.int .u8 (c.toNat : Int))) (hx : Stands w x h) (hy : Stands w y i) (sx : (te_text x).size ≤ 1000) (sy : (te_text y).size ≤ 1000) :
  Calls Try.prog 25 #[.pointer (some ⟨g, 0, none⟩), .pointer (some ⟨h, 0, none⟩), .pointer (some ⟨i, 0, none⟩)] w fun e w' => (∃ r, e = .returned (.pointer (some ⟨r, 0, none⟩)) ∧ Stands w' (te_two c x y) r) ∧ Below w.heap.size w w' := by
 have hu_ := Try.underlying48
 have h1 : ((c.toNat : Int) == 43) = (c == 43) := u8_eq rfl
 have h2 : ((c.toNat : Int) == 46) = (c == 46) := u8_eq rfl
 have mixed : Try.prog.follows Departure.mixedOrders = true := by kernel_rfl
 generalize hR : te_two c x y = R
 unfold te_two at hR
 obtain ⟨x0, x1, ex0, ex1, hxx⟩ := lone_ex x
 obtain ⟨y0, y1, ey0, ey1, hyy⟩ := lone_ex y
 obtain ⟨p, d, ep, ed, hpd⟩ := sign_ex c
 obtain ⟨t, et⟩ : ∃ b, ((te_text x).toList == (te_text y).toList) = b := ⟨_, rfl⟩
 have LX0 := Aside0.mk (fun W (hW : Below w.heap.size w W) => tx_lone x 48 48 rfl x0 ex0 h W (Stands.below hW hx))
 have LX1 := Aside0.mk (fun W (hW : Below w.heap.size w W) => tx_lone x 49 49 rfl x1 ex1 h W (Stands.below hW hx))
 have LY0 := Aside0.mk (fun W (hW : Below w.heap.size w W) => tx_lone y 48 48 rfl y0 ey0 i W (Stands.below hW hy))
 have LY1 := Aside0.mk (fun W (hW : Below w.heap.size w W) => tx_lone y 49 49 rfl y1 ey1 i W (Stands.below hW hy))
 have TX := Aside0.mk (fun W (hW : Below w.heap.size w W) => tx_text x h W (Stands.below hW hx) sx)
 have TY := Aside0.mk (fun W (hW : Below w.heap.size w W) => tx_text y i W (Stands.below hW hy) sy)
 rw [ex0, ex1, ey0, ey1, ep, ed, et] at hR
 rw [ep] at h1
 rw [ed] at h2
 have HX := Aside0.mk hx
 have HY := Aside0.mk hy
 have HR := Aside0.mk hR
 have ET := Aside0.mk et
 clear ex0 ex1 ey0 ey1 ep ed et hx hy hR sx sy
 rcases hpd with ⟨rfl, rfl⟩ | ⟨rfl, rfl⟩ | ⟨rfl, rfl⟩
 all_goals
  go_enter Try.func25, Try.ntmps25
  go_wp2
  go_quiet (fail)
  have hbq := below_drewN' w nq
  have d0 := pw_cell_below hbq c0
  generalize w.drewN nq = W0 at hbq d0 ⊢
  have HB := Aside0.mk hbq
  clear hbq
  rcases hxx with ⟨rfl, rfl⟩ | ⟨rfl, rfl⟩ | ⟨rfl, rfl⟩
 all_goals rcases hyy with ⟨rfl, rfl⟩ | ⟨rfl, rfl⟩ | ⟨rfl, rfl⟩
 all_goals cases t
 all_goals
  have et := ET.out
  go_wp2_with (first | (go_at_call 32; (first | (with_reducible refine (LX0.out _ HB.out).mono ?_) | (with_reducible refine (LX1.out _ HB.out).mono ?_) | (with_reducible refine (LY0.out _ HB.out).mono ?_) | (with_reducible refine (LY1.out _ HB.out).mono ?_)); rintro e w' ⟨rfl, rfl⟩) | (go_at_call 16; (first | ((with_reducible refine (TX.out _ HB.out).mono ?_); rintro e W5 ⟨rfl, hb⟩; have HB5 := Aside0.mk (below_step HB.out hb); clear hb) | ((with_reducible refine (TY.out _ HB5.out).mono ?_); rintro e W6 ⟨rfl, hb⟩; have HB6 := Aside0.mk (below_step HB5.out hb); have d6 := pw_cell_below HB6.out c0; clear hb))))
 all_goals go_ret
 all_goals refine ⟨⟨_, rfl, ?_⟩, ?_⟩
 all_goals
  have hR := HR.out
  simp only [if_true, if_false, Bool.false_eq_true, Bool.true_eq_false, and_true, true_and, and_false, false_and, or_true, true_or, or_false, false_or, and_self, or_self] at hR
  subst hR
  first
  | exact Stands.below HB6.out HX.out
  | exact Stands.below HB.out HX.out
  | exact Stands.below HB.out HY.out
  | exact HB6.out
  | exact HB.out
  | exact Stands.leaf_new _ 48 _ rfl
  | exact below_alloc HB.out _
  | exact Stands.two_new (Stands.below HB.out HX.out) (Stands.below HB.out HY.out) c
  | exact Stands.two_new (Stands.below HB6.out HX.out) (Stands.below HB6.out HY.out) c
  | exact below_alloc (below_alloc HB.out _) _
  | exact below_alloc (below_alloc HB6.out _) _
def te_tidy : Te → Te
 | .leaf c => .leaf c
 | .one c x => te_one c (te_tidy x)
 | .two c x y => te_two c (te_tidy x) (te_tidy y)
theorem size_one (c : UInt8) (x : Te) : (te_text (.one c x)).size = 1 + (te_text x).size := by
 rw [te_text, ByteArray.size_append, tsg_size]
theorem size_two (c : UInt8) (x y : Te) : (te_text (.two c x y)).size = 3 + (te_text x).size + (te_text y).size := by
 rw [te_text, ByteArray.size_append, ByteArray.size_append, ByteArray.size_append, ByteArray.size_append, tsg_size]
 show 1 + (te_text x).size + 1 + (te_text y).size + 1 = _
 omega
theorem size_pos : ∀ x : Te, 1 ≤ (te_text x).size
 | .leaf c => Nat.le_of_eq (tsg_size c).symm
 | .one c x => by rw [size_one]; omega
 | .two c x y => by rw [size_two]; omega
theorem size_te_one (c : UInt8) (x : Te) : (te_text (te_one c x)).size ≤ 1 + (te_text x).size := by
 unfold te_one
 split
 ·have := size_pos x
  show (tsg 49).size ≤ _
  rw [tsg_size]
  omega
 ·split
  ·omega
  ·rw [size_one]
   omega
theorem size_te_two (c : UInt8) (x y : Te) : (te_text (te_two c x y)).size ≤ 3 + (te_text x).size + (te_text y).size := by
 unfold te_two
 split
 ·omega
 ·split
  ·omega
  ·split
   ·show (tsg 48).size ≤ _
    rw [tsg_size]
    omega
   ·split
    ·omega
    ·rw [size_two]
     omega
theorem size_tidy : ∀ x : Te, (te_text (te_tidy x)).size ≤ (te_text x).size
 | .leaf c => Nat.le_refl _
 | .one c x => by
  have := size_tidy x
  have := size_te_one c (te_tidy x)
  rw [te_tidy, size_one]
  omega
 | .two c x y => by
  have := size_tidy x
  have := size_tidy y
  have := size_te_two c (te_tidy x) (te_tidy y)
  rw [te_tidy, size_two]
  omega

def td6.T : Bool × List (List Nat × List Nat) := (true, [([], []), ([], []), ([1], [1]), ([2], [2]), ([3], [3]), ([4], [4]), ([5], [5]), ([6], [6]), ([], []), ([8], [8]), ([9], [9]), ([10], [10]), ([11], [11]), ([12], [12]), ([13, 7], [13]), ([0, 7, 14, 14], [0, 7, 14]), ([15, 15, 0, 1, 2, 3, 4, 5, 6, 7, 8, 9, 10, 11, 12, 13, 14, 15], [15])])
def td6.B : List Nat := [0, 0, 2, 6, 14, 30, 62, 126, 0, 256, 768, 1792, 3840, 7936, 16128, 32767, 65535]
theorem td6.tab : rtab .any (opsOf Try.f15 6) = td6.T := by kernel_rfl
theorem td6.bits : waitsOk td6.T.2 td6.B = true := by kernel_rfl

set_option maxHeartbeats 8000000 in
set_option maxRecDepth 100000 in
theorem tx_tidy : ∀ (x : Te) (g : Nat) (w : World), Stands w x g → (te_text x).size ≤ 1000 →
  Calls Try.prog 15 #[.pointer (some ⟨g, 0, none⟩)] w fun e w' => (∃ r, e = .returned (.pointer (some ⟨r, 0, none⟩)) ∧ Stands w' (te_tidy x) r) ∧ Below w.heap.size w w'
 | .leaf c, g, w, hA, hs => by
  have HA := Aside0.mk hA
  obtain ⟨A, cap, hA⟩ := hA
  have c0 := (blk_cell hA 0).trans (show _ = some (Value.int .u8 (c.toNat : Int)) from rfl)
  have c1 := (blk_cell hA 1).trans (show _ = some (Value.slice A 0 cap) from rfl)
  have hu_ := Try.underlying48
  clear hA hs
  go_enter Try.func15, Try.ntmps15
  go_wp2
  go_ret
  exact ⟨⟨g, rfl, HA.out⟩, Below.refl _ _⟩
 | .one c x, g, w, hA, hs => by
  obtain ⟨B, h, cap, hA, cB, hx⟩ := hA
  have c0 := (blk_cell hA 0).trans (show _ = some (Value.int .u8 (c.toNat : Int)) from rfl)
  have c1 := (blk_cell hA 1).trans (show _ = some (Value.slice (some B) 1 cap) from rfl)
  have hu_ := Try.underlying48
  have IH := Aside0.mk (tx_tidy x h w hx (by rw [size_one] at hs; omega))
  have C0 := Aside0.mk c0
  clear hA hs hx
  go_enter Try.func15, Try.ntmps15
  go_wp2_with (first | (go_at_call 15; (with_reducible refine IH.out.mono ?_); rintro e W2 ⟨⟨r, rfl, hA2⟩, hb⟩; have HA2 := Aside0.mk hA2; have HB2 := Aside0.mk hb; clear hA2 hb) | (go_at_call 24; (with_reducible refine (tx_tidyOne c (te_tidy x) g _ _ (pw_cell_below HB2.out C0.out) HA2.out).mono ?_); rintro e W3 ⟨⟨r3, rfl, hA3⟩, hb⟩; have HA3 := Aside0.mk hA3; have HB3 := Aside0.mk (below_step HB2.out hb); clear hA3 hb))
  go_ret
  exact ⟨⟨_, rfl, HA3.out⟩, HB3.out⟩
 | .two c x y, g, w, hA, hs => by
  obtain ⟨B, h, i, cap, hA, cB, cC, hx, hy⟩ := hA
  have c0 := (blk_cell hA 0).trans (show _ = some (Value.int .u8 (c.toNat : Int)) from rfl)
  have c1 := (blk_cell hA 1).trans (show _ = some (Value.slice (some B) 2 cap) from rfl)
  have hu_ := Try.underlying48
  rw [size_two] at hs
  have IH := Aside0.mk (fun W (hW : Below w.heap.size w W) => tx_tidy x h W (Stands.below hW hx) (by omega))
  have IH2 := Aside0.mk (fun W (hW : Below w.heap.size w W) => tx_tidy y i W (Stands.below hW hy) (by omega))
  have sx := size_tidy x
  have sy := size_tidy y
  have SX : Aside0 ((te_text (te_tidy x)).size ≤ 1000) := ⟨by omega⟩
  have SY : Aside0 ((te_text (te_tidy y)).size ≤ 1000) := ⟨by omega⟩
  have hB0 : Below w.heap.size w w.drew := below_drew1 (Below.refl _ _)
  clear hA hs hx hy sx sy
  go_enter Try.func15, Try.ntmps15
  try go_wp2_with fail
  refine start_ (n := 17) (S := fun w' => Below w.heap.size w w') (ds := []) #[false, false, false, false, false, false, false, false, false, false, false, false, false, false, false, false, false] (by kernel_rfl) rfl rfl hB0 (fun hHeld => ?_); refine with_tabW td6.tab td6.bits (fun HT_ HW_ => ?_)
  generalize w.drew = wd at hHeld ⊢
  refine pure_ (i := 0) (N := some 22) (v := ?_) (a' := ?_) #[true, false, false, false, false, false, false, false, false, false, false, false, false, false, false, false, false] rfl rfl (any_of HT_.out (by kernel_rfl)) (fun _ _ _ h => h) (Or.inl ⟨by rfl, ?_⟩) ?_ ?_
  rotate_left
  ·intro w'
   go_simp
   with_reducible rfl
  rotate_left
  ·simp only [Act.put, List.setIfInBounds_toArray, List.set_cons_zero, List.set_cons_succ, i64_w, i32_w]
   rfl
  refine pure_ (i := 1) (N := some 23) (v := ?_) (a' := ?_) #[true, true, false, false, false, false, false, false, false, false, false, false, false, false, false, false, false] rfl rfl (any_of HT_.out (by kernel_rfl)) (fun _ _ _ h => h) (Or.inl ⟨by rfl, ?_⟩) ?_ ?_
  rotate_left
  ·intro w'
   go_simp
   with_reducible rfl
  rotate_left
  ·simp only [Act.put, List.setIfInBounds_toArray, List.set_cons_zero, List.set_cons_succ, i64_w, i32_w]
   rfl
  refine pure_ (i := 8) (N := some 30) (v := ?_) (a' := ?_) #[true, true, false, false, false, false, false, false, true, false, false, false, false, false, false, false, false] rfl rfl (any_of HT_.out (by kernel_rfl)) (fun _ _ _ h => h) (Or.inl ⟨by rfl, ?_⟩) ?_ ?_
  rotate_left
  ·intro w'
   go_simp
   with_reducible rfl
  rotate_left
  ·simp only [Act.put, List.setIfInBounds_toArray, List.set_cons_zero, List.set_cons_succ, i64_w, i32_w]
   rfl
  refine pure_ (i := 2) (N := some 24) (v := ?_) (a' := ?_) #[true, true, true, false, false, false, false, false, true, false, false, false, false, false, false, false, false] rfl rfl (any_of HT_.out (by kernel_rfl)) (fun _ _ _ h => h) (Or.inl ⟨by rfl, ?_⟩) ?_ ?_
  rotate_left
  ·intro w'
   go_simp
   with_reducible rfl
  rotate_left
  ·simp only [Act.put, List.setIfInBounds_toArray, List.set_cons_zero, List.set_cons_succ, i64_w, i32_w]
   rfl
  refine pure_ (i := 9) (N := some 31) (v := ?_) (a' := ?_) #[true, true, true, false, false, false, false, false, true, true, false, false, false, false, false, false, false] rfl rfl (any_of HT_.out (by kernel_rfl)) (fun _ _ _ h => h) (Or.inl ⟨by rfl, ?_⟩) ?_ ?_
  rotate_left
  ·intro w'
   go_simp
   with_reducible rfl
  rotate_left
  ·simp only [Act.put, List.setIfInBounds_toArray, List.set_cons_zero, List.set_cons_succ, i64_w, i32_w]
   rfl
  refine pure_ (i := 3) (N := some 25) (v := ?_) (a' := ?_) #[true, true, true, true, false, false, false, false, true, true, false, false, false, false, false, false, false] rfl rfl (any_of HT_.out (by kernel_rfl)) (fun _ _ _ h => h) (Or.inl ⟨by rfl, ?_⟩) ?_ ?_
  rotate_left
  ·intro w'
   go_simp
   with_reducible rfl
  rotate_left
  ·simp only [Act.put, List.setIfInBounds_toArray, List.set_cons_zero, List.set_cons_succ, i64_w, i32_w]
   rfl
  refine pure_ (i := 10) (N := some 32) (v := ?_) (a' := ?_) #[true, true, true, true, false, false, false, false, true, true, true, false, false, false, false, false, false] rfl rfl (any_of HT_.out (by kernel_rfl)) (fun _ _ _ h => h) (Or.inl ⟨by rfl, ?_⟩) ?_ ?_
  rotate_left
  ·intro w'
   go_simp
   with_reducible rfl
  rotate_left
  ·simp only [Act.put, List.setIfInBounds_toArray, List.set_cons_zero, List.set_cons_succ, i64_w, i32_w]
   rfl
  refine take_ (i := 4) (N := some 26) (v := ?_) (a' := ?_) #[true, true, true, true, true, false, false, false, true, true, true, false, false, false, false, false, false] rfl rfl (take_ofW HT_.out HW_.out (by kernel_rfl)) (fun _ _ _ h => h) (Or.inl ⟨by rfl, ?_⟩) hHeld ?_ ?_
  rotate_left
  ·intro w' hS
   have f_c1 := pw_cell_below hS c1
   go_simp
   with_reducible rfl
  rotate_left
  ·simp only [Act.put, List.setIfInBounds_toArray, List.set_cons_zero, List.set_cons_succ, i64_w, i32_w]
   rfl
  refine take_ (i := 11) (N := some 33) (v := ?_) (a' := ?_) #[true, true, true, true, true, false, false, false, true, true, true, true, false, false, false, false, false] rfl rfl (take_ofW HT_.out HW_.out (by kernel_rfl)) (fun _ _ _ h => h) (Or.inl ⟨by rfl, ?_⟩) hHeld ?_ ?_
  rotate_left
  ·intro w' hS
   have f_c1 := pw_cell_below hS c1
   go_simp
   with_reducible rfl
  rotate_left
  ·simp only [Act.put, List.setIfInBounds_toArray, List.set_cons_zero, List.set_cons_succ, i64_w, i32_w]
   rfl
  refine pure_ (i := 5) (N := some 27) (v := ?_) (a' := ?_) #[true, true, true, true, true, true, false, false, true, true, true, true, false, false, false, false, false] rfl rfl (any_of HT_.out (by kernel_rfl)) (fun _ _ _ h => h) (Or.inl ⟨by rfl, ?_⟩) ?_ ?_
  rotate_left
  ·intro w'
   go_simp
   with_reducible rfl
  rotate_left
  ·simp only [Act.put, List.setIfInBounds_toArray, List.set_cons_zero, List.set_cons_succ, i64_w, i32_w]
   rfl
  refine pure_ (i := 12) (N := some 34) (v := ?_) (a' := ?_) #[true, true, true, true, true, true, false, false, true, true, true, true, true, false, false, false, false] rfl rfl (any_of HT_.out (by kernel_rfl)) (fun _ _ _ h => h) (Or.inl ⟨by rfl, ?_⟩) ?_ ?_
  rotate_left
  ·intro w'
   go_simp
   with_reducible rfl
  rotate_left
  ·simp only [Act.put, List.setIfInBounds_toArray, List.set_cons_zero, List.set_cons_succ, i64_w, i32_w]
   rfl
  refine take_ (i := 6) (N := some 28) (v := ?_) (a' := ?_) #[true, true, true, true, true, true, true, false, true, true, true, true, true, false, false, false, false] rfl rfl (take_ofW HT_.out HW_.out (by kernel_rfl)) (fun _ _ _ h => h) (Or.inl ⟨by rfl, ?_⟩) hHeld ?_ ?_
  rotate_left
  ·intro w' hS
   have f_cB := pw_cell_below hS cB
   go_simp
   with_reducible rfl
  rotate_left
  ·simp only [Act.put, List.setIfInBounds_toArray, List.set_cons_zero, List.set_cons_succ, i64_w, i32_w]
   rfl
  refine take_ (i := 13) (N := some 35) (v := ?_) (a' := ?_) #[true, true, true, true, true, true, true, false, true, true, true, true, true, true, false, false, false] rfl rfl (take_ofW HT_.out HW_.out (by kernel_rfl)) (fun _ _ _ h => h) (Or.inl ⟨by rfl, ?_⟩) hHeld ?_ ?_
  rotate_left
  ·intro w' hS
   have f_cC := pw_cell_below hS cC
   go_simp
   with_reducible rfl
  rotate_left
  ·simp only [Act.put, List.setIfInBounds_toArray, List.set_cons_zero, List.set_cons_succ, i64_w, i32_w]
   rfl
  refine one_ (i := 7) (N := some 29) #[true, true, true, true, true, true, true, true, true, true, true, true, true, true, false, false, false] rfl rfl (one_of HT_.out (by kernel_rfl)) (by decide) (fun K hK => ?_)
  refine goes_ Try.func15 (by kernel_rfl) rfl #[.pointer (some ⟨h, 0, none⟩)] (by rfl) rfl rfl (by (try simp only [List.map_toArray, List.map_cons, List.map_nil]); first | done | rfl) ?_
  refine (IH.out _ hHeld).mono ?_
  rintro e W2 ⟨⟨r, rfl, hA2⟩, hb⟩
  refine ⟨_, rfl, ?_⟩
  have HA2 := Aside0.mk hA2
  refine hK.out _ _ (below_step hHeld hb) (fun hHeld => ?_)
  clear hb hA2
  clear hK K
  refine norm_ (a' := ?_) ?_ ?_
  rotate_left
  ·show Act.put _ (some 29) _ = _
   simp only [Act.put, List.setIfInBounds_toArray, List.set_cons_zero, List.set_cons_succ, i64_w, i32_w]
   rfl
  refine one_ (i := 14) (N := some 36) #[true, true, true, true, true, true, true, true, true, true, true, true, true, true, true, false, false] rfl rfl (one_of HT_.out (by kernel_rfl)) (by decide) (fun K hK => ?_)
  refine goes_ Try.func15 (by kernel_rfl) rfl #[.pointer (some ⟨i, 0, none⟩)] (by rfl) rfl rfl (by (try simp only [List.map_toArray, List.map_cons, List.map_nil]); first | done | rfl) ?_
  refine (IH2.out _ hHeld).mono ?_
  rintro e W3 ⟨⟨r3, rfl, hA3⟩, hb⟩
  refine ⟨_, rfl, ?_⟩
  have HA3 := Aside0.mk hA3
  have HA4 := Aside0.mk (Stands.below hb HA2.out)
  refine hK.out _ _ (below_step hHeld hb) (fun hHeld => ?_)
  clear hb hA3
  clear hK K
  refine norm_ (a' := ?_) ?_ ?_
  rotate_left
  ·show Act.put _ (some 36) _ = _
   simp only [Act.put, List.setIfInBounds_toArray, List.set_cons_zero, List.set_cons_succ, i64_w, i32_w]
   rfl
  refine one_ (i := 15) (N := some 37) #[true, true, true, true, true, true, true, true, true, true, true, true, true, true, true, true, false] rfl rfl (one_of HT_.out (by kernel_rfl)) (by decide) (fun K hK => ?_)
  refine goes_ Try.func25 (by kernel_rfl) rfl #[.pointer (some ⟨g, 0, none⟩), .pointer (some ⟨r, 0, none⟩), .pointer (some ⟨r3, 0, none⟩)] (by rfl) rfl rfl (by (try simp only [List.map_toArray, List.map_cons, List.map_nil]); first | done | rfl) ?_
  refine (tx_tidyTwo c (te_tidy x) (te_tidy y) g _ _ _ (pw_cell_below hHeld c0) HA4.out HA3.out SX.out SY.out).mono ?_
  rintro e W5 ⟨⟨r5, rfl, hA5⟩, hb⟩
  refine ⟨_, rfl, ?_⟩
  have HA5 := Aside0.mk hA5
  refine hK.out _ _ (below_step hHeld hb) (fun hHeld => ?_)
  clear hb hA5
  clear hK K
  refine norm_ (a' := ?_) ?_ ?_
  rotate_left
  ·show Act.put _ (some 37) _ = _
   simp only [Act.put, List.setIfInBounds_toArray, List.set_cons_zero, List.set_cons_succ, i64_w, i32_w]
   rfl
  refine pure_ (i := 16) (N := some 2) (v := ?_) (a' := ?_) #[true, true, true, true, true, true, true, true, true, true, true, true, true, true, true, true, true] rfl rfl (any_of HT_.out (by kernel_rfl)) (fun _ _ _ h => h) (Or.inl ⟨by rfl, ?_⟩) ?_ ?_
  rotate_left
  ·intro w'
   go_simp
   with_reducible rfl
  rotate_left
  ·simp only [Act.put, List.setIfInBounds_toArray, List.set_cons_zero, List.set_cons_succ, i64_w, i32_w]
   rfl
  refine done_ (done_of HT_.out (by kernel_rfl)) ?_
  have HB := Aside0.mk hHeld
  clear hHeld HT_ HW_
  go_wp2
  go_ret
  exact ⟨⟨_, rfl, HA5.out⟩, HB.out⟩
/-- What a text tells: the term. -/
def te_last (d : UInt8) (a : Te) : Option (Te × List UInt8) → Option (Te × List UInt8)
 | some (b, e :: q) => if (e == 41) = true then some (.two d a b, q) else none
 | _ => none
def te_pair (f : List UInt8 → Option (Te × List UInt8)) : Option (Te × List UInt8) → Option (Te × List UInt8)
 | some (a, d :: r) => if tp_op d = true then te_last d a (f r) else none
 | _ => none
def te_rest : Nat → List UInt8 → Option (Te × List UInt8)
 | 0, _ => none
 | _ + 1, [] => none
 | n + 1, c :: s =>
  if tp_leaf c = true then some (.leaf c, s)
  else if tp_one c = true then (te_rest n s).map (fun x => (.one c x.1, x.2))
  else if (c == 40) = true then te_pair (te_rest n) (te_rest n s)
  else none
theorem tm_te (n : Nat) : ∀ l : List UInt8, tm_rest n l = (te_rest n l).map (fun x => (x.1.tm, x.2)) := by
 induction n with
 | zero => intro l; rfl
 | succ n ih =>
  intro l
  cases l with
  | nil => rfl
  | cons c s =>
   rw [tm_rest, te_rest]
   by_cases k1 : tp_leaf c = true
   ·rw [if_pos k1, if_pos k1]
    rfl
   rw [if_neg k1, if_neg k1]
   by_cases k2 : tp_one c = true
   ·rw [if_pos k2, if_pos k2, ih s]
    cases te_rest n s with
    | none => rfl
    | some x => rfl
   rw [if_neg k2, if_neg k2]
   by_cases k3 : (c == 40) = true
   ·rw [if_pos k3, if_pos k3, ih s]
    cases te_rest n s with
    | none => rfl
    | some x =>
     obtain ⟨a, r⟩ := x
     cases r with
     | nil => rfl
     | cons d r =>
      show (if tp_op d = true then tm_last d a.tm (tm_rest n r) else none) = Option.map _ (if tp_op d = true then te_last d a (te_rest n r) else none)
      by_cases k4 : tp_op d = true
      ·rw [if_pos k4, if_pos k4, ih r]
       cases te_rest n r with
       | none => rfl
       | some y =>
        obtain ⟨b, q⟩ := y
        cases q with
        | nil => rfl
        | cons e q =>
         show (if (e == 41) = true then some (Tm.mk d [a.tm, b.tm], q) else none) = Option.map _ (if (e == 41) = true then some (Te.two d a b, q) else none)
         split <;> rfl
      ·rw [if_neg k4, if_neg k4]
       rfl
   ·rw [if_neg k3, if_neg k3]
    rfl
def te_of (l : List UInt8) : Option Te := if l.length ≤ 60 then (match te_rest 61 l with | some (x, []) => some x | _ => none) else none
theorem tm_te_of (l : List UInt8) : tm_of l = (te_of l).map Te.tm := by
 unfold tm_of te_of
 split
 ·rw [tm_te]
  cases te_rest 61 l with
  | none => rfl
  | some x =>
   obtain ⟨x, r⟩ := x
   cases r <;> rfl
 ·rfl
/-- A text is its term's text and what is left. -/
theorem te_rest_size (n : Nat) : ∀ (l r : List UInt8) (x : Te), te_rest n l = some (x, r) → (te_text x).size + r.length = l.length := by
 induction n with
 | zero =>
  intro l r x h
  cases h
 | succ n ih =>
  intro l r x h
  cases l with
  | nil => cases h
  | cons c s =>
   rw [te_rest] at h
   split at h
   ·cases h
    show (tsg c).size + _ = _
    rw [tsg_size, List.length_cons]
    omega
   ·split at h
    ·cases h1 : te_rest n s with
     | none => rw [h1] at h; cases h
     | some p =>
      rw [h1] at h
      obtain ⟨y, q⟩ := p
      cases h
      have := ih _ _ _ h1
      show (te_text (.one c y)).size + q.length = (c :: s).length
      rw [size_one, List.length_cons]
      omega
    ·split at h
     ·cases h1 : te_rest n s with
      | none => rw [h1] at h; cases h
      | some p =>
       rw [h1] at h
       obtain ⟨y, q⟩ := p
       cases q with
       | nil => cases h
       | cons d q =>
        rw [te_pair] at h
        split at h
        ·cases h2 : te_rest n q with
         | none => rw [h2] at h; cases h
         | some p2 =>
          rw [h2] at h
          obtain ⟨z, q2⟩ := p2
          cases q2 with
          | nil => cases h
          | cons e q2 =>
           rw [te_last] at h
           split at h
           ·cases h
            have a1 := ih _ _ _ h1
            have a2 := ih _ _ _ h2
            rw [size_two, List.length_cons]
            rw [List.length_cons] at a1 a2
            omega
           ·cases h
        ·cases h
     ·cases h
theorem te_of_size {l : List UInt8} {x : Te} (h : te_of l = some x) : (te_text x).size ≤ 60 := by
 unfold te_of at h
 split at h
 ·rename_i hl
  cases h1 : te_rest 61 l with
  | none => rw [h1] at h; cases h
  | some p =>
   rw [h1] at h
   obtain ⟨y, q⟩ := p
   cases q with
   | nil =>
    cases h
    have := te_rest_size _ _ _ _ h1
    rw [List.length_nil] at this
    omega
   | cons d q => cases h
 ·cases h
def te_ptr (w' : World) (o : Option Te) (e : Ending) : Prop := match o with
 | none => e = .returned (.pointer none)
 | some x => ∃ g, e = .returned (.pointer (some ⟨g, 0, none⟩)) ∧ Stands w' x g
theorem te_termOf (s : ByteArray) (w : World) :
  Calls Try.prog 14 #[.string s] w fun e w' => te_ptr w' (te_of s.data.toList) e ∧ Below w.heap.size w w' := by
 refine (tm_termOf s w).mono ?_
 rintro e w' ⟨h, hb⟩
 refine ⟨?_, hb⟩
 rw [tm_te_of] at h
 cases ho : te_of s.data.toList with
 | none =>
  rw [ho] at h
  exact h
 | some x =>
  rw [ho] at h
  obtain ⟨g, rfl, hM⟩ := h
  exact ⟨g, rfl, Stands.ofK x 61 ((kd 61).K_of_M hM)⟩
def tt_out (l : List UInt8) : ByteArray × Bool := match te_of l with
 | none => (⟨#[]⟩, false)
 | some x => (te_text (te_tidy x), true)
end X
def impl_TermTidy.f (a0 : ByteArray) : Option (ByteArray × Bool) := some (X.tt_out a0.data.toList)
set_option maxHeartbeats 4000000 in
set_option maxRecDepth 100000 in
theorem impl_TermTidy.calls0 (a0 : ByteArray) (w : World) :
  Calls Try.prog 7 #[.string a0] w fun e w' => e = .returned (.tuple #[.string (X.tt_out a0.data.toList).1, .bool (X.tt_out a0.data.toList).2]) ∧ Below w.heap.size w w' := by
 cases ho : X.te_of a0.data.toList with
 | none =>
  have hT : X.tt_out a0.data.toList = (⟨#[]⟩, false) := by rw [X.tt_out, ho]
  have HC := Aside0.mk (X.te_termOf a0)
  have HO := Aside0.mk ho
  rw [hT]
  clear ho hT
  go_enter Try.func7, Try.ntmps7
  go_wp2_with (first | (go_at_call 14; (with_reducible refine (HC.out _).mono ?_); rintro e W2 ⟨h, hb⟩; have HB2 := Aside0.mk hb; rw [HO.out] at h; obtain rfl : e = _ := h; clear hb))
  go_ret2
  exact ⟨rfl, HB2.out⟩
 | some x =>
  have hT : X.tt_out a0.data.toList = (X.te_text (X.te_tidy x), true) := by rw [X.tt_out, ho]
  have HC := Aside0.mk (X.te_termOf a0)
  have HO := Aside0.mk ho
  have hs := X.te_of_size ho
  have hs2 := X.size_tidy x
  have HS : Aside0 ((X.te_text x).size ≤ 1000) := ⟨by omega⟩
  have HS2 : Aside0 ((X.te_text (X.te_tidy x)).size ≤ 1000) := ⟨by omega⟩
  rw [hT]
  clear ho hT hs hs2
  go_enter Try.func7, Try.ntmps7
  go_wp2_with (first | (go_at_call 14; (with_reducible refine (HC.out _).mono ?_); rintro e W2 ⟨h, hb⟩; have HB2 := Aside0.mk hb; rw [HO.out] at h; obtain ⟨g, rfl, hA⟩ := h; have HA := Aside0.mk hA; clear hb hA) | (go_at_call 15; (with_reducible refine (X.tx_tidy x _ _ HA.out HS.out).mono ?_); rintro e W3 ⟨⟨r, rfl, hA⟩, hb⟩; have HB3 := Aside0.mk (below_step HB2.out hb); have HA3 := Aside0.mk hA; clear hb hA) | (go_at_call 16; (with_reducible refine (X.tx_text (X.te_tidy x) _ _ HA3.out HS2.out).mono ?_); rintro e W4 ⟨rfl, hb⟩; have HB4 := Aside0.mk (below_step HB3.out hb); clear hb))
  go_ret2
  exact ⟨rfl, HB4.out⟩
theorem impl_TermTidy.calls (a0 : ByteArray) (r1 : ByteArray) (r2 : Bool) (w : World) (h : impl_TermTidy.f a0 = some (r1, r2)) :
  Calls Try.prog 7 #[.string a0] w fun e w' => e = .returned (.tuple #[.string r1, .bool r2]) ∧ Below w.heap.size w w' := by
 have h2 := Option.some.inj h
 have := impl_TermTidy.calls0 a0 w
 rw [h2] at this
 exact this

end Go.Proofs.Ytijmkmbepjjphaa.G
