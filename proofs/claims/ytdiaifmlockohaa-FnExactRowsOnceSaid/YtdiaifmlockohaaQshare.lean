/- The sum of one over the steps: what the program and the reference make of it. -/
import Derived.Test.YtdiaifmlockohaaQrowsA
import Derived.Test.YtdiaifmlockohaaG1
import Derived.Test.YtdiaifmlockohaaG2
import Derived.Test.YtdiaifmlockohaaG4
import Derived.Test.YtdiaifmlockohaaG5
namespace Go.Proofs.Ytdiaifmlockohaa.Pure
open Go.RowKit Go.Proofs.Ytdiaifmlockohaa.G Go.Proofs.YtdiaifmlockohaaW.PrintWords Go.Proofs.YtdiaifmlockohaaW.PrintLast

/-- The least common multiple of all steps, while it isn't too great. -/
def mulL : List Nat → Nat → Option Nat
  | [], m => some m
  | s :: l, m => if Nat.lcm m s > 1000000 then none else mulL l (Nat.lcm m s)
def upL (low : Nat) : List Nat → Nat
  | [] => 0
  | s :: l => low / s + upL low l
/-- The steps above 0. -/
def stepsL (l : List (List Int)) : List Nat := (l.map fun r => (rd r 1).toNat).filter (fun s => s != 0)
theorem lcm_nat {m s : Nat} : ((m : Int).tdiv ((Nat.gcd m s : Nat) : Int)) * (s : Int) = ((Nat.lcm m s : Nat) : Int) := by
  rw [← Int.ofNat_tdiv, ← Int.natCast_mul, Nat.lcm, Nat.div_mul_right_comm (Nat.gcd_dvd_left m s)]
theorem lcmI_nat (m s : Nat) : lcmI (m : Int) (s : Int) = ((Nat.lcm m s : Nat) : Int) := by
  unfold lcmI
  rw [Int.toNat_natCast, Int.toNat_natCast]
  exact lcm_nat
theorem lcm_one_le {m s : Nat} (h : 1 ≤ m) (g : 1 ≤ s) : 1 ≤ Nat.lcm m s := Nat.lcm_pos h g
theorem rdT_get {l : List Row} {i : Nat} (h : i < l.length) : rd_T42 l (i : Int) = l[i] := by
  simp [rd_T42, List.getD_eq_getElem?_getD, h]
/-- Rows that go on and on. -/
def Moves (xs : List Row) : Prop := ∀ x ∈ xs, ∃ s : Nat, x.f1 = (s : Int) ∧ 1 ≤ s ∧ s ≤ 60
def natSteps (xs : List Row) : List Nat := xs.map fun x => x.f1.toNat
theorem impl_l0 (x5 : List Row) (x6 : Bool) (xs : List Row) (hx : Moves xs) (hl : xs.length ≤ 1048576) (R : Int × Int × Bool) (d : Nat) : ∀ (i m : Nat), xs.length - i = d → i ≤ xs.length → 1 ≤ m → m ≤ 1000000 →
    (mulL (natSteps (xs.drop i)) m = none → R = (0, 0, false)) →
    (∀ low, mulL (natSteps (xs.drop i)) m = some low → 1 ≤ low → low ≤ 1000000 → Ev (fun k => if x6 = true then ((impl_moving.f x5).bind fun t158 => (impl_RowsShare.l1 k (low : Int) 0 t158 (t158.length : Int) 0)) else (some (0, 0, false))) R) →
    Ev (fun k => impl_RowsShare.l0 k x5 x6 (m : Int) xs (xs.length : Int) (i : Int)) R := by
  induction d with
  | zero =>
    intro i m hd hi h1 h2 hn hs
    have e : xs.drop i = [] := List.drop_of_length_le (by omega)
    rw [e] at hs
    rw [ev_step (fun k => by rw [impl_RowsShare.l0]), ev_neg (by omega)]
    exact hs m rfl h1 h2
  | succ d ih =>
    intro i m hd hi h1 h2 hn hs
    have hi2 : i < xs.length := by omega
    obtain ⟨s, e, s1, s2⟩ := hx _ (List.getElem_mem hi2)
    have ed : natSteps (xs.drop i) = s :: natSteps (xs.drop (i + 1)) := by
      rw [List.drop_eq_getElem_cons hi2]
      unfold natSteps
      rw [List.map_cons, e, Int.toNat_natCast]
    rw [ed, mulL] at hn hs
    have lv := lcm_ev (a := (m : Int)) (b := (s : Int)) (by omega) (by omega) (by omega) (by omega)
    rw [lcmI_nat] at lv
    rw [ev_step (fun k => by rw [impl_RowsShare.l0]), ev_pos (by omega), ev_pos (by omega), ev_pos (by omega), rdT_get hi2, e, ev_bind lv, wrap_in _ (by omega)]
    by_cases c : Nat.lcm m s > 1000000
    · rw [if_pos c] at hn
      rw [ev_pos (by omega), ev_some, hn rfl]
    · rw [if_neg c] at hn hs
      rw [ev_neg (by omega)]
      exact ih (i + 1) _ (by omega) (by omega) (lcm_one_le h1 s1) (by omega) hn hs
/-- A bound that omega is shown only where it is wanted. -/
def Lim (n : Nat) : Prop := n ≤ 20000000
theorem upL_bound (low : Nat) : ∀ l : List Nat, upL low l ≤ l.length * low
  | [] => by simp [upL]
  | s :: l => by
    have := upL_bound low l
    have h2 := Nat.div_le_self low s
    rw [upL, List.length_cons, Nat.add_mul, Nat.one_mul]
    omega
/-- A fraction in lowest terms. -/
def lowest (up low : Nat) : Int × Int × Bool := (((up / Nat.gcd up low : Nat) : Int), ((low / Nat.gcd up low : Nat) : Int), true)
theorem tdiv_nat (a b : Nat) : wrap64 (Int.tdiv (a : Int) (b : Int)) = if a ≤ 9223372036854775807 then ((a / b : Nat) : Int) else wrap64 (Int.tdiv (a : Int) (b : Int)) := by
  by_cases h : a ≤ 9223372036854775807
  · rw [if_pos h, ← Int.ofNat_tdiv]
    have := Nat.div_le_self a b
    generalize a / b = q at this ⊢
    exact wrap_in _ (by omega)
  · rw [if_neg h]
theorem tdiv_nat' {a : Nat} (b : Nat) (h : a ≤ 1000000000) : wrap64 (Int.tdiv (a : Int) (b : Int)) = ((a / b : Nat) : Int) := by
  rw [tdiv_nat, if_pos (by omega)]
theorem impl_l1 (low : Nat) (h1 : 1 ≤ low) (h2 : low ≤ 1000000) (xs : List Row) (hx : Moves xs) (hl : xs.length ≤ 20) (d : Nat) : ∀ (i acc : Nat), xs.length - i = d → i ≤ xs.length → Lim (acc + (upL low (natSteps (xs.drop i)))) →
    Ev (fun k => impl_RowsShare.l1 k (low : Int) (acc : Int) xs (xs.length : Int) (i : Int)) (lowest (acc + upL low (natSteps (xs.drop i))) low) := by
  induction d with
  | zero =>
    intro i acc hd hi hb
    have e : xs.drop i = [] := List.drop_of_length_le (by omega)
    rw [e] at hb ⊢
    have hb' : acc ≤ 20000000 := by simpa [natSteps, upL, Lim] using hb
    have g := gcd_ev (a := (acc : Int)) (b := (low : Int)) (by omega) (by omega)
    rw [Int.toNat_natCast, Int.toNat_natCast] at g
    have gp := Nat.gcd_pos_of_pos_right acc (show 0 < low by omega)
    rw [ev_step (fun k => by rw [impl_RowsShare.l1]), ev_neg (by omega), ev_bind g, ev_neg (by omega), ev_some, tdiv_nat' _ (by omega), tdiv_nat' _ (by omega)]
    rfl
  | succ d ih =>
    intro i acc hd hi hb
    have hi2 : i < xs.length := by omega
    obtain ⟨s, e, s1, s2⟩ := hx _ (List.getElem_mem hi2)
    have ed : natSteps (xs.drop i) = s :: natSteps (xs.drop (i + 1)) := by
      rw [List.drop_eq_getElem_cons hi2]
      unfold natSteps
      rw [List.map_cons, e, Int.toNat_natCast]
    rw [ed, upL] at hb ⊢
    have e2 : wrap64 ((acc : Int) + ((low / s : Nat) : Int)) = ((acc + low / s : Nat) : Int) := by
      unfold Lim at hb
      generalize low / s = q at hb ⊢
      rw [wrap_in _ (by omega)]
      omega
    rw [ev_step (fun k => by rw [impl_RowsShare.l1]), ev_pos (by omega), ev_pos (by omega), ev_pos (by omega), rdT_get hi2, e, ev_neg (by omega), tdiv_nat' _ (by omega), e2, wrap_in ((i : Int) + 1) (by omega), ← Nat.add_assoc]
    exact ih (i + 1) (acc + low / s) (by omega) (by omega) (by rw [Nat.add_assoc]; exact hb)
def shareC (l : List (List Int)) : Int × Int × Bool := if rowsIn l = true then (match mulL (stepsL l) 1 with | none => (0, 0, false) | some low => lowest (upL low (stepsL l)) low) else (0, 0, false)
theorem keep_steps (l : List (List Int)) (h : rowsOk l = true) : natSteps (keep (l.map rowOf)) = stepsL l ∧ Moves (keep (l.map rowOf)) := by
  unfold rowsOk at h
  rw [List.all_eq_true] at h
  constructor
  · unfold natSteps stepsL keep
    rw [List.filter_map, List.filter_map, List.map_map]
    congr 1
    refine List.filter_congr fun r hr => ?_
    have := h r hr
    rw [decide_eq_true_eq] at this
    obtain ⟨_, _, h3, _⟩ := this
    show (rd r 1 != 0) = ((rd r 1).toNat != 0)
    by_cases c : rd r 1 = 0
    · rw [c]
      rfl
    · rw [bne_iff_ne.2 c, bne_iff_ne.2 (by omega)]
  · intro x hx
    unfold keep at hx
    rw [List.mem_filter, List.mem_map] at hx
    obtain ⟨⟨r, hr, rfl⟩, hne⟩ := hx
    have := h r hr
    rw [decide_eq_true_eq] at this
    obtain ⟨_, _, h3, h4⟩ := this
    have hne2 : rd r 1 ≠ 0 := by simpa [rowOf] using hne
    exact ⟨(rd r 1).toNat, by show rd r 1 = _; omega, by omega, by omega⟩
theorem mul_le : ∀ (l : List Nat) (m low : Nat), m ≤ 1000000 → 1 ≤ m → (∀ s ∈ l, 1 ≤ s) → mulL l m = some low → low ≤ 1000000 ∧ 1 ≤ low
  | [], m, low, h, g, _, e => by
    rw [mulL, Option.some.injEq] at e
    omega
  | s :: l, m, low, h, g, hs, e => by
    rw [mulL] at e
    by_cases c : Nat.lcm m s > 1000000
    · rw [if_pos c] at e
      cases e
    · rw [if_neg c] at e
      exact mul_le l _ low (by omega) (lcm_one_le g (hs s List.mem_cons_self)) (fun t ht => hs t (List.mem_cons_of_mem _ ht)) e
theorem stepsL_len (l : List (List Int)) : (stepsL l).length ≤ l.length := by
  unfold stepsL
  exact Nat.le_trans (List.length_filter_le _ _) (by simp)
theorem stepsL_pos (l : List (List Int)) : ∀ s ∈ stepsL l, 1 ≤ s := by
  intro s hs
  unfold stepsL at hs
  rw [List.mem_filter] at hs
  have := hs.2
  simp at this
  omega
theorem impl_share_ev (l : List (List Int)) (hm : l.length ≤ 1048576) : Ev (fun k => (impl_moving.f (if rowsOk l = true then l.map rowOf else [])).bind fun t152 => impl_RowsShare.l0 k (if rowsOk l = true then l.map rowOf else []) (if rowsOk l = true then decide (l.length ≤ 20) else false) 1 t152 (t152.length : Int) 0) (shareC l) := by
  unfold shareC
  by_cases ok : rowsOk l = true
  · obtain ⟨k1, k2⟩ := keep_steps l ok
    have hkl := keep_len (l.map rowOf)
    rw [List.length_map] at hkl
    have mv : impl_moving.f (l.map rowOf) = some (keep (l.map rowOf)) := by
      unfold impl_moving.f
      rw [if_pos (by rw [List.length_map]; omega)]
    simp only [if_pos ok]
    rw [ev_bind0 mv]
    refine impl_l0 _ _ _ k2 (by omega) _ (keep (l.map rowOf)).length 0 1 (by omega) (by omega) (by omega) (by omega) ?_ ?_
    · intro h
      rw [List.drop_zero, k1] at h
      by_cases c : rowsIn l = true
      · rw [if_pos c, h]
      · rw [if_neg c]
    · intro low h h1 h2
      rw [List.drop_zero, k1] at h
      by_cases c : l.length ≤ 20
      · have hr : rowsIn l = true := by unfold rowsIn; rw [ok, decide_eq_true c]; rfl
        rw [ev_pos (by rw [decide_eq_true c]), ev_bind0 mv, if_pos hr, h]
        have ub := upL_bound low (stepsL l)
        have sl := stepsL_len l
        have hb2 : upL low (stepsL l) ≤ 20 * 1000000 := Nat.le_trans ub (Nat.mul_le_mul (by omega) h2)
        have := impl_l1 low h1 h2 (keep (l.map rowOf)) k2 (by omega) (keep (l.map rowOf)).length 0 0 (by omega) (by omega) (by rw [List.drop_zero, k1, Nat.zero_add]; exact Nat.le_trans hb2 (by decide))
        rw [List.drop_zero, k1, Nat.zero_add] at this
        exact this
      · have hr : ¬ rowsIn l = true := by unfold rowsIn; rw [ok, decide_eq_false c]; simp
        rw [ev_neg (by rw [decide_eq_false c]; simp), if_neg hr, ev_some]
  · have hr : ¬ rowsIn l = true := by unfold rowsIn; rw [Bool.eq_false_iff.2 ok]; simp
    have mv : impl_moving.f ([] : List Row) = some [] := rfl
    simp only [if_neg ok]
    rw [ev_bind0 mv, if_neg hr, ev_step (fun k => by rw [impl_RowsShare.l0]), ev_neg (by simp), ev_neg (by simp), ev_some]
theorem rowsOf_split (l : List (List Int)) : (if rowsOk l = true then (l.map rowOf, decide (l.length ≤ 20)) else ([], false)) = ((if rowsOk l = true then l.map rowOf else [], if rowsOk l = true then decide (l.length ≤ 20) else false) : List Row × Bool) := by
  by_cases c : rowsOk l = true
  · simp only [if_pos c]
  · simp only [if_neg c]
theorem impl_rowsShare_ev (l : List (List Int)) (hm : l.length ≤ 1048576) : Ev (fun k => impl_RowsShare.f k l) (shareC l) := by
  simp only [impl_RowsShare.f]
  rw [ev_bind (rowsOf_ev l (by omega)), rowsOf_split]
  exact impl_share_ev l hm
theorem spec_mul_l0 (l : List (List Int)) (hk : rowsOk l = true) (hm : l.length ≤ 1048576) (d : Nat) : ∀ (i m : Nat), l.length - i = d → i ≤ l.length → 1 ≤ m → m ≤ 1000000 →
    Ev (fun k => spec_l3Multiple.l0 k l (m : Int) (i : Int)) (match mulL (stepsL (l.drop i)) m with | none => 0 | some low => (low : Int)) := by
  induction d with
  | zero =>
    intro i m hd hi h1 h2
    have e : l.drop i = [] := List.drop_of_length_le (by omega)
    rw [ev_step (fun k => by rw [spec_l3Multiple.l0]), ev_neg (by omega), ev_some, e]
    rfl
  | succ d ih =>
    intro i m hd hi h1 h2
    have hi2 : i < l.length := by omega
    obtain ⟨g0, _, g1, g2⟩ := rowOk_get hk hi2
    have ed : l.drop i = l[i] :: l.drop (i + 1) := List.drop_eq_getElem_cons hi2
    rw [ev_step (fun k => by rw [spec_l3Multiple.l0]), ev_pos (by omega), ev_pos (by omega), rd_L1_get hi2, ev_pos (by omega)]
    by_cases c : rd l[i] 1 > 0
    · obtain ⟨s, hs⟩ : ∃ s : Nat, rd l[i] 1 = (s : Int) := ⟨(rd l[i] 1).toNat, by omega⟩
      have es : stepsL (l.drop i) = s :: stepsL (l.drop (i + 1)) := by
        rw [ed]
        unfold stepsL
        rw [List.map_cons, hs, Int.toNat_natCast, List.filter_cons_of_pos (by simp; omega)]
      rw [es, mulL, ev_pos c, hs]
      have dv := div_ev (a := (m : Int)) (b := (s : Int)) (by omega) (by omega)
      rw [Int.toNat_natCast, Int.toNat_natCast] at dv
      have gp := Nat.gcd_pos_of_pos_left s (show 0 < m by omega)
      have lb := lcm_bound (a := (m : Int)) (b := (s : Int)) (by omega) (by omega) (by omega) (by omega)
      rw [lcmI_nat] at lb
      have e1 : wrap64 ((wrap64 (Int.tdiv (m : Int) ((Nat.gcd m s : Nat) : Int))) * (s : Int)) = ((Nat.lcm m s : Nat) : Int) := by
        rw [tdiv_nat' _ (by omega), Int.ofNat_tdiv, lcm_nat]
        exact wrap_in _ (by omega)
      have gn : ¬ ((Nat.gcd m s : Nat) : Int) = 0 := by omega
      clear lb gp
      have wi : wrap64 ((i : Int) + 1) = (i : Int) + 1 := by
        clear e1 dv gn
        exact wrap_in _ (by omega)
      rw [ev_bind dv, ev_neg gn, e1, wi]
      clear e1 dv gn wi
      by_cases c2 : Nat.lcm m s > 1000000
      · rw [ev_pos (by omega), ev_some, if_pos c2]
      · rw [ev_neg (by omega), if_neg c2]
        exact ih (i + 1) _ (by omega) (by omega) (lcm_one_le h1 (by omega)) (by omega)
    · have es : stepsL (l.drop i) = stepsL (l.drop (i + 1)) := by
        rw [ed]
        unfold stepsL
        rw [List.map_cons, show (rd l[i] 1).toNat = 0 by omega, List.filter_cons_of_neg (by simp)]
      rw [es, ev_neg c, ev_neg (by omega), wrap_in ((i : Int) + 1) (by omega)]
      exact ih (i + 1) m (by omega) (by omega) h1 h2
theorem spec_mul_ev (l : List (List Int)) (hk : rowsOk l = true) (hm : l.length ≤ 1048576) : Ev (fun k => spec_l3Multiple.f k l) (match mulL (stepsL l) 1 with | none => 0 | some low => (low : Int)) := by
  simp only [spec_l3Multiple.f]
  exact spec_mul_l0 l hk hm l.length 0 1 (by omega) (by omega) (by omega) (by omega)
theorem spec_sum_l0 (l : List (List Int)) (hk : rowsOk l = true) (hm : l.length ≤ 20) (low : Nat) (h1 : 1 ≤ low) (h2 : low ≤ 1000000) (d : Nat) : ∀ (i acc : Nat), l.length - i = d → i ≤ l.length → Lim (acc + upL low (stepsL (l.drop i))) →
    Ev (fun k => spec_RowsShare.l0 k l (low : Int) (acc : Int) (i : Int)) (lowest (acc + upL low (stepsL (l.drop i))) low) := by
  induction d with
  | zero =>
    intro i acc hd hi hb
    have e : l.drop i = [] := List.drop_of_length_le (by omega)
    rw [e] at hb ⊢
    have hb' : acc ≤ 20000000 := by simpa [stepsL, upL, Lim] using hb
    have g := div_ev (a := (low : Int)) (b := (acc : Int)) (by omega) (by omega)
    rw [Int.toNat_natCast, Int.toNat_natCast] at g
    have gp := Nat.gcd_pos_of_pos_left acc (show 0 < low by omega)
    rw [ev_step (fun k => by rw [spec_RowsShare.l0]), ev_neg (by omega), ev_bind g, ev_neg (by omega), ev_some, tdiv_nat' _ (by omega), tdiv_nat' _ (by omega), Nat.gcd_comm]
    rfl
  | succ d ih =>
    intro i acc hd hi hb
    have hi2 : i < l.length := by omega
    obtain ⟨g0, _, g1, g2⟩ := rowOk_get hk hi2
    have ed : l.drop i = l[i] :: l.drop (i + 1) := List.drop_eq_getElem_cons hi2
    rw [ev_step (fun k => by rw [spec_RowsShare.l0]), ev_pos (by omega), ev_pos (by omega), rd_L1_get hi2, ev_pos (by omega)]
    by_cases c : rd l[i] 1 > 0
    · obtain ⟨s, hs⟩ : ∃ s : Nat, rd l[i] 1 = (s : Int) := ⟨(rd l[i] 1).toNat, by omega⟩
      have es : stepsL (l.drop i) = s :: stepsL (l.drop (i + 1)) := by
        rw [ed]
        unfold stepsL
        rw [List.map_cons, hs, Int.toNat_natCast, List.filter_cons_of_pos (by simp; omega)]
      rw [es, upL] at hb ⊢
      have e2 : wrap64 ((acc : Int) + ((low / s : Nat) : Int)) = ((acc + low / s : Nat) : Int) := by
        unfold Lim at hb
        generalize low / s = q at hb ⊢
        rw [wrap_in _ (by omega)]
        omega
      rw [ev_pos c, hs, ev_neg (by omega), tdiv_nat' _ (by omega), e2, wrap_in ((i : Int) + 1) (by omega), ← Nat.add_assoc]
      exact ih (i + 1) _ (by omega) (by omega) (by rw [Nat.add_assoc]; exact hb)
    · have es : stepsL (l.drop i) = stepsL (l.drop (i + 1)) := by
        rw [ed]
        unfold stepsL
        rw [List.map_cons, show (rd l[i] 1).toNat = 0 by omega, List.filter_cons_of_neg (by simp)]
      rw [es] at hb ⊢
      rw [ev_neg c, wrap_in ((i : Int) + 1) (by omega)]
      exact ih (i + 1) acc (by omega) (by omega) hb
theorem spec_rowsShare_ev (l : List (List Int)) (hm : l.length ≤ 1048576) : Ev (fun k => spec_RowsShare.f k l) (shareC l) := by
  simp only [spec_RowsShare.f]
  rw [ev_bind (l3Rows_ev l hm)]
  unfold shareC
  by_cases c : rowsIn l = true
  · have c' := c
    unfold rowsIn at c'
    rw [Bool.and_eq_true, decide_eq_true_eq] at c'
    have mv := spec_mul_ev l c'.1 hm
    rw [ev_pos c, if_pos c, ev_bind mv, ev_step (fun k => by rw [spec_RowsShare.j0])]
    cases e : mulL (stepsL l) 1 with
    | none =>
      simp only
      rw [ev_pos (by rfl), ev_some]
    | some low =>
      rw [e] at mv
      obtain ⟨l1, l2⟩ := mul_le _ _ _ (by omega) (by omega) (stepsL_pos l) e
      have ub := upL_bound low (stepsL l)
      have sl := stepsL_len l
      have hb2 : upL low (stepsL l) ≤ 20 * 1000000 := Nat.le_trans ub (Nat.mul_le_mul (by omega) l1)
      have := spec_sum_l0 l c'.1 c'.2 low l2 l1 l.length 0 0 (by omega) (by omega) (by rw [List.drop_zero, Nat.zero_add]; exact Nat.le_trans hb2 (by decide))
      rw [List.drop_zero, Nat.zero_add] at this
      simp only at mv ⊢
      rw [ev_neg (by simp; omega), ev_bind mv]
      exact this
  · rw [ev_neg c, if_neg c, ev_step (fun k => by rw [spec_RowsShare.j0]), ev_pos rfl, ev_some]
end Go.Proofs.Ytdiaifmlockohaa.Pure
