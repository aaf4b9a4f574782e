/- Whether rows have each number just once: the program and the reference say the same. -/
import Derived.Test.YtdiaifmlockohaaQonce
namespace Go.Proofs.Ytdiaifmlockohaa.Pure
open Go.RowKit Go.Proofs.Ytdiaifmlockohaa.G Go.Proofs.YtdiaifmlockohaaW.PrintWords Go.Proofs.YtdiaifmlockohaaW.PrintLast

def meetP (x y : Row) : Bool := meetB x.f0.toNat x.f1.toNat y
def twoB (pre : List Row) : List Row → Bool
  | [] => false
  | x :: l => pre.any (meetP x) || twoB (pre ++ [x]) l
theorem any_ev {x : Row} (hx : Good 0 x) : ∀ l : List Row, (∀ y ∈ l, Good 0 y) → Ev (fun k => on_any k x.f0 x.f1 l) (l.any (meetP x))
  | [], _ => by
    simp only [on_any]
    exact (ev_some _ _).2 rfl
  | y :: l, h => by
    obtain ⟨h1, h2⟩ := hx.f0
    obtain ⟨h3, h4⟩ := hx.f1
    have me := meets_ev (b := x.f0.toNat) (s := x.f1.toNat) (h y List.mem_cons_self) (by omega)
    rw [show ((x.f0.toNat : Nat) : Int) = x.f0 by omega, show ((x.f1.toNat : Nat) : Int) = x.f1 by omega] at me
    simp only [on_any]
    rw [ev_bind me, List.any_cons]
    by_cases c : meetB x.f0.toNat x.f1.toNat y = true
    · rw [ev_pos c, ev_some]
      unfold meetP
      rw [c, Bool.true_or]
    · rw [ev_neg c]
      have e : meetP x y = false := Bool.eq_false_iff.2 c
      rw [e, Bool.false_or]
      exact any_ev hx l (fun z hz => h z (List.mem_cons_of_mem _ hz))
theorem two_ev : ∀ (l pre : List Row), (∀ y ∈ l, Good 0 y) → (∀ y ∈ pre, Good 0 y) → Ev (fun k => on_two k pre l) (twoB pre l)
  | [], pre, _, _ => by
    simp only [on_two]
    exact (ev_some _ _).2 rfl
  | x :: l, pre, h, g => by
    have hx := h x List.mem_cons_self
    simp only [on_two]
    rw [ev_bind (any_ev hx pre g), twoB]
    by_cases c : pre.any (meetP x) = true
    · rw [ev_pos c, ev_some, c, Bool.true_or]
    · rw [ev_neg c, Bool.eq_false_iff.2 c, Bool.false_or]
      refine two_ev l (pre ++ [x]) (fun z hz => h z (List.mem_cons_of_mem _ hz)) (fun z hz => ?_)
      rcases List.mem_append.1 hz with hz | hz
      · exact g z hz
      · rw [List.mem_singleton] at hz
        rw [hz]
        exact hx
theorem two_pair : ∀ (l pre : List Row), twoB pre l = false → l.Pairwise (fun a b => meetP b a = false) ∧ ∀ x ∈ l, ∀ y ∈ pre, meetP x y = false
  | [], pre, _ => ⟨List.Pairwise.nil, fun x hx => by cases hx⟩
  | x :: l, pre, h => by
    rw [twoB, Bool.or_eq_false_iff] at h
    obtain ⟨h1, h2⟩ := h
    obtain ⟨p1, p2⟩ := two_pair l (pre ++ [x]) h2
    refine ⟨List.Pairwise.cons (fun z hz => p2 z hz x (by simp)) p1, fun z hz y hy => ?_⟩
    rcases List.mem_cons.1 hz with rfl | hz
    · rw [List.any_eq_false] at h1
      exact Bool.eq_false_iff.2 (h1 y hy)
    · exact p2 z hz y (List.mem_append_left _ hy)
theorem dvd_of_hit {L : Nat} {x : Row} (h : Good L x) {n : Int} (hh : hitB x n = true) : ((x.f1.toNat : Nat) : Int) ∣ n - ((x.f0.toNat : Nat) : Int) := by
  obtain ⟨h1, h2⟩ := h.f0
  obtain ⟨h3, h4⟩ := h.f1
  unfold hitB at hh
  rw [decide_eq_true_eq] at hh
  rwa [show ((x.f0.toNat : Nat) : Int) = x.f0 by omega, show ((x.f1.toNat : Nat) : Int) = x.f1 by omega]
theorem meet_hit {L : Nat} {a b : Row} (ha : Good L a) (hb : Good L b) {n : Int} (h1 : hitB a n = true) (h2 : hitB b n = true) : meetP b a = true := hit_meets ha (dvd_of_hit hb h2) h1
theorem filter_le1 {L : Nat} (n : Int) : ∀ xs : List Row, (∀ x ∈ xs, Good L x) → xs.Pairwise (fun a b => meetP b a = false) → (xs.filter (fun x => hitB x n)).length ≤ 1
  | [], _, _ => Nat.zero_le _
  | x :: l, h, hp => by
    obtain ⟨p1, p2⟩ := List.pairwise_cons.1 hp
    have hl := fun z hz => h z (List.mem_cons_of_mem _ hz)
    by_cases c : hitB x n = true
    · have e : l.filter (fun x => hitB x n) = [] := by
        rw [List.filter_eq_nil_iff]
        intro z hz k
        have := meet_hit (h x List.mem_cons_self) (hl z hz) c k
        rw [p1 z hz] at this
        cases this
      rw [List.filter_cons_of_pos (p := fun x => hitB x n) c, e]
      exact Nat.le_refl _
    · rw [List.filter_cons_of_neg (p := fun x => hitB x n) c]
      exact filter_le1 n l hl p2
theorem common {L : Nat} {x y : Row} (hx : Good L x) (hy : Good L y) (h : meetP x y = true) : ∃ n, hitB x n = true ∧ hitB y n = true := by
  obtain ⟨h1, h2⟩ := hx.f0
  obtain ⟨h3, h4⟩ := hx.f1
  obtain ⟨g3, g4⟩ := hy.f1
  unfold meetP meetB at h
  rw [decide_eq_true_eq] at h
  have hv : ((Nat.gcd x.f1.toNat y.f1.toNat : Nat) : Int) ∣ y.f0 - ((x.f0.toNat : Nat) : Int) := by
    have := Int.dvd_neg.2 h
    rwa [Int.neg_sub] at this
  obtain ⟨c, hc⟩ := solve2 x.f1.toNat (m := y.f1.toNat) (by omega) hv
  refine ⟨x.f0 + x.f1 * c, ?_, ?_⟩
  · unfold hitB
    rw [decide_eq_true_eq, show x.f0 + x.f1 * c - x.f0 = x.f1 * c by omega]
    exact Int.dvd_mul_right _ _
  · unfold hitB
    rw [decide_eq_true_eq]
    rw [show ((x.f0.toNat : Nat) : Int) = x.f0 by omega, show ((x.f1.toNat : Nat) : Int) = x.f1 by omega, show ((y.f1.toNat : Nat) : Int) = y.f1 by omega] at hc
    generalize x.f1 * c = z at *
    rwa [show x.f0 + z - y.f0 = z - (y.f0 - x.f0) by omega]
theorem two_exact {L : Nat} : ∀ (l pre : List Row), (∀ y ∈ pre ++ l, Good L y) → Exact 0 1 (pre ++ l) → twoB pre l = false
  | [], pre, _, _ => rfl
  | x :: l, pre, h, hx => by
    have e : pre ++ [x] ++ l = pre ++ x :: l := by simp
    rw [twoB, Bool.or_eq_false_iff]
    refine ⟨?_, two_exact l (pre ++ [x]) (by rw [e]; exact h) (by rw [e]; exact hx)⟩
    rw [List.any_eq_false]
    intro y hy k
    obtain ⟨n, n1, n2⟩ := common (h x (by simp)) (h y (by simp [hy])) k
    have := hx n ⟨n - ((0 : Nat) : Int), by omega⟩
    rw [List.filter_append, List.length_append, List.filter_cons_of_pos (p := fun x => hitB x n) n1, List.length_cons] at this
    have : 0 < (pre.filter (fun x => hitB x n)).length := List.length_pos_of_mem (List.mem_filter.2 ⟨hy, n2⟩)
    omega
def great2 : List Nat := [31, 37, 41, 43, 47, 53, 59]
def sm : Nat := 32607253879200
theorem great2_ok : (upto.all fun d => (great2.any fun p => d == p) || decide (d ∣ sm)) = true := by decide +kernel
theorem great2_gcd : (great2.all fun p => decide (p ≤ 60) && decide (1 ≤ p) && upto.all fun d => decide (Nat.gcd p d = 1) || decide (d = p)) = true := by decide +kernel
theorem gcd_one_meet {x y : Row} (h : Nat.gcd x.f1.toNat y.f1.toNat = 1) : meetP x y = true := by
  unfold meetP meetB
  rw [decide_eq_true_eq, h]
  exact Int.one_dvd _
theorem pair_mem {xs : List Row} (h : xs.Pairwise (fun a b => meetP b a = false)) : ∀ x ∈ xs, ∀ y ∈ xs, x = y ∨ meetP x y = false ∨ meetP y x = false := by
  induction xs with
  | nil => intro x hx; cases hx
  | cons a l ih =>
    obtain ⟨p1, p2⟩ := List.pairwise_cons.1 h
    intro x hx y hy
    rcases List.mem_cons.1 hx with e | hx2
    · rcases List.mem_cons.1 hy with e2 | hy2
      · exact .inl (e.trans e2.symm)
      · rw [e]
        exact .inr (.inr (p1 y hy2))
    · rcases List.mem_cons.1 hy with e2 | hy2
      · rw [e2]
        exact .inr (.inl (p1 x hx2))
      · exact ih p2 x hx2 y hy2
/-- Rows that don't meet have a common multiple that isn't too great. -/
theorem bigL {xs : List Row} (hg : ∀ x ∈ xs, Good 0 x) (h : xs.Pairwise (fun a b => meetP b a = false)) : ∃ L, 1 ≤ L ∧ L ≤ 1000000000000000 ∧ ∀ x ∈ xs, Good L x := by
  have st : ∀ x ∈ xs, 1 ≤ x.f1.toNat ∧ x.f1.toNat ≤ 60 := fun x hx => by have := (hg x hx).f1; omega
  by_cases c : ∃ x ∈ xs, x.f1.toNat ∈ great2
  · obtain ⟨x, hx, hp⟩ := c
    have k := List.all_eq_true.1 great2_gcd _ hp
    rw [Bool.and_eq_true, Bool.and_eq_true, decide_eq_true_eq, decide_eq_true_eq, List.all_eq_true] at k
    obtain ⟨⟨k1, k2⟩, k3⟩ := k
    refine ⟨x.f1.toNat, k2, by omega, fun y hy => ⟨(hg y hy).f0, (hg y hy).f1, ?_⟩⟩
    have k4 := k3 _ (mem_upto (st y hy))
    rw [Bool.or_eq_true, decide_eq_true_eq, decide_eq_true_eq] at k4
    rcases k4 with k4 | k4
    · rcases pair_mem h x hx y hy with e | e | e
      · rw [e]
        exact Nat.dvd_refl _
      · rw [gcd_one_meet k4] at e
        cases e
      · rw [gcd_one_meet (by rw [Nat.gcd_comm]; exact k4)] at e
        cases e
    · rw [k4]
      exact Nat.dvd_refl _
  · refine ⟨sm, by decide, by decide, fun y hy => ⟨(hg y hy).f0, (hg y hy).f1, ?_⟩⟩
    have k := List.all_eq_true.1 great2_ok _ (mem_upto (st y hy))
    rw [Bool.or_eq_true, decide_eq_true_eq, List.any_eq_true] at k
    rcases k with ⟨p, hp, k⟩ | k
    · rw [beq_iff_eq] at k
      exact absurd ⟨y, hy, by rw [k]; exact hp⟩ c
    · exact k
theorem good_zero {l : List (List Int)} (ok : rowsOk l = true) : ∀ x ∈ keep (l.map rowOf), Good 0 x := keep_good ok (fun s _ => Nat.dvd_zero s)
theorem moving_ev {l : List (List Int)} (hm : l.length ≤ 1048576) : impl_moving.f (l.map rowOf) = some (keep (l.map rowOf)) := by
  unfold impl_moving.f
  rw [if_pos (by rw [List.length_map]; omega)]
theorem cover_any {l : List (List Int)} (h : rowsIn l = true) {L : Nat} (h1 : 1 ≤ L) (h2 : L ≤ 1000000000000000) (hg : ∀ x ∈ keep (l.map rowOf), Good L x) : ∃ c, Ev (fun k => impl_RowsCover.f k l) c ∧ (c = true → HasAllOf 0 1 (keep (l.map rowOf))) ∧ (Exact 0 1 (keep (l.map rowOf)) → c = true) := by
  have h' := h
  unfold rowsIn at h'
  rw [Bool.and_eq_true, decide_eq_true_eq] at h'
  have hkl := keep_len (l.map rowOf)
  rw [List.length_map] at hkl
  obtain ⟨c, e, hc⟩ := covered2_ev h1 h2 (tot 1 (keep (l.map rowOf))) 0 1 (keep (l.map rowOf)) hg (by omega) (Nat.one_dvd _) (by omega) (Nat.le_refl _)
  refine ⟨c, ?_, hc⟩
  simp only [impl_RowsCover.f]
  have ro := rowsOf_ev l (by omega)
  rw [if_pos h'.1, decide_eq_true h'.2] at ro
  rw [ev_bind ro, ev_pos rfl, ev_bind0 (moving_ev (by omega))]
  have e' : Ev (fun k => impl_covered.f k 0 1 (keep (l.map rowOf))) c := e
  rw [ev_bind e', ev_some]
theorem cover_out {l : List (List Int)} (hm : l.length ≤ 1048576) (h : rowsIn l = false) : Ev (fun k => impl_RowsCover.f k l) false := by
  simp only [impl_RowsCover.f]
  have ro := rowsOf_ev l (by omega)
  by_cases ok : rowsOk l = true
  · have : decide (l.length ≤ 20) = false := by
      unfold rowsIn at h
      rw [ok, Bool.true_and] at h
      exact h
    rw [if_pos ok, this] at ro
    rw [ev_bind ro, ev_neg (by simp), ev_some]
  · rw [if_neg ok] at ro
    rw [ev_bind ro, ev_neg (by simp), ev_some]
theorem mul_small {B : Nat} (h1 : 1 ≤ B) (h2 : B ≤ 60000) : ∀ (l : List Nat) (m : Nat), m ∣ B → (∀ s ∈ l, s ∣ B) → ∃ low, mulL l m = some low ∧ low ∣ B
  | [], m, hm, _ => ⟨m, rfl, hm⟩
  | s :: l, m, hm, h => by
    have hd := Nat.lcm_dvd hm (h s List.mem_cons_self)
    have hl := Nat.le_of_dvd h1 hd
    rw [mulL, if_neg (by omega)]
    exact mul_small h1 h2 l _ hd (fun t ht => h t (List.mem_cons_of_mem _ ht))
theorem exact_small {xs : List Row} {L : Nat} (hg : ∀ x ∈ xs, Good L x) (hl : xs.length ≤ 20) (hx : Exact 0 1 xs) : ∃ B, B ≤ 60000 ∧ 1 ≤ B ∧ ∀ x ∈ xs, x.f1.toNat ∣ B := by
  have key : ∀ x ∈ xs, ∀ n, Hit (x.f0, x.f1.toNat) n → hitB x n = true := fun x hx n h => by
    have := (hg x hx).f1
    unfold Hit at h
    unfold hitB
    rw [decide_eq_true_eq, show x.f1 = ((x.f1.toNat : Nat) : Int) by omega]
    exact h
  have one : ∀ n : Int, ∃ z, xs.filter (fun x => hitB x n) = [z] := fun n => by
    have := hx n ⟨n - ((0 : Nat) : Int), by omega⟩
    exact List.length_eq_one_iff.1 this
  have H : Once (xs.map fun x => (x.f0, x.f1.toNat)) := by
    refine ⟨fun r hr => ?_, fun n => ?_, fun r hr t ht n h1 h2 => ?_, by rw [List.length_map]; exact hl⟩
    · rw [List.mem_map] at hr
      obtain ⟨x, hx, rfl⟩ := hr
      have := (hg x hx).f1
      show 1 ≤ x.f1.toNat ∧ x.f1.toNat ≤ 60
      omega
    · obtain ⟨z, hz⟩ := one n
      have hm : z ∈ xs.filter (fun x => hitB x n) := by rw [hz]; exact List.mem_singleton_self _
      obtain ⟨m1, m2⟩ := List.mem_filter.1 hm
      refine ⟨(z.f0, z.f1.toNat), List.mem_map.2 ⟨z, m1, rfl⟩, ?_⟩
      have := (hg z m1).f1
      unfold hitB at m2
      rw [decide_eq_true_eq] at m2
      show ((z.f1.toNat : Nat) : Int) ∣ n - z.f0
      rwa [show ((z.f1.toNat : Nat) : Int) = z.f1 by omega]
    · rw [List.mem_map] at hr ht
      obtain ⟨x, mx, rfl⟩ := hr
      obtain ⟨y, my, rfl⟩ := ht
      obtain ⟨z, hz⟩ := one n
      have a : x ∈ xs.filter (fun x => hitB x n) := List.mem_filter.2 ⟨mx, key x mx n h1⟩
      have b : y ∈ xs.filter (fun x => hitB x n) := List.mem_filter.2 ⟨my, key y my n h2⟩
      rw [hz, List.mem_singleton] at a b
      rw [a, b]
  obtain ⟨B, b1, b2, b3⟩ := once_small H
  exact ⟨B, b1, b2, fun x hx => b3 (x.f0, x.f1.toNat) (List.mem_map.2 ⟨x, hx, rfl⟩)⟩
theorem exact_period {xs : List Row} {low : Nat} (h1 : 1 ≤ low) (hg : ∀ x ∈ xs, Good low x) (h : ∀ i : Nat, i < low → (xs.filter (fun x => hitB x ((60 + i : Nat) : Int))).length = 1) : Exact 0 1 xs := by
  intro n _
  have e := Int.emod_add_mul_ediv (n - 60) (low : Int)
  have e0 := Int.emod_nonneg (n - 60) (show (low : Int) ≠ 0 by omega)
  have e1 := Int.emod_lt_of_pos (n - 60) (show (0 : Int) < (low : Int) by omega)
  obtain ⟨i, hi⟩ := Int.eq_ofNat_of_zero_le e0
  rw [← h i (by omega)]
  congr 1
  refine List.filter_congr fun x hx => ?_
  have g := hg x hx
  have f1 := g.f1
  have hd : x.f1 ∣ (low : Int) * ((n - 60) / (low : Int)) := by
    rw [show x.f1 = ((x.f1.toNat : Nat) : Int) by omega]
    exact Int.dvd_trans (Int.natCast_dvd_natCast.2 g.dv) (Int.dvd_mul_right _ _)
  unfold hitB
  generalize (low : Int) * ((n - 60) / (low : Int)) = z at *
  rw [Bool.eq_iff_iff, decide_eq_true_eq, decide_eq_true_eq]
  constructor
  · intro k
    have := Int.dvd_sub k hd
    rwa [show n - x.f0 - z = ((60 + i : Nat) : Int) - x.f0 by omega] at this
  · intro k
    have := Int.dvd_add k hd
    rwa [show ((60 + i : Nat) : Int) - x.f0 + z = n - x.f0 by omega] at this
theorem specO_iff {l : List (List Int)} (hr : rowsIn l = true) : specO l = true ↔ Exact 0 1 (keep (l.map rowOf)) := by
  have h' := hr
  unfold rowsIn at h'
  rw [Bool.and_eq_true, decide_eq_true_eq] at h'
  have hkl := keep_len (l.map rowOf)
  rw [List.length_map] at hkl
  unfold specO
  rw [hr, Bool.true_and]
  constructor
  · intro h
    cases e : mulL (stepsL l) 1 with
    | none => rw [e] at h; cases h
    | some low =>
      rw [e] at h
      simp only at h
      rw [Bool.and_eq_true, List.all_eq_true] at h
      obtain ⟨l1, l2⟩ := mul_le _ _ _ (by omega) (by omega) (stepsL_pos l) e
      obtain ⟨_, hdv⟩ := mul_dvd _ _ _ e
      refine exact_period l2 (keep_good h'.1 hdv) fun i hi => ?_
      have := h.2 i (List.mem_range.2 hi)
      rwa [beq_iff_eq] at this
  · intro h
    obtain ⟨B, b1, b2, b3⟩ := exact_small (good_zero h'.1) (by omega) h
    obtain ⟨low, e, hd⟩ := mul_small b2 b1 (stepsL l) 1 (Nat.one_dvd _) (fun s hs => by
      rw [← (keep_steps l h'.1).1] at hs
      unfold natSteps at hs
      rw [List.mem_map] at hs
      obtain ⟨x, hx, rfl⟩ := hs
      exact b3 x hx)
    have := Nat.le_of_dvd b2 hd
    rw [e]
    simp only
    rw [decide_eq_true (by omega), Bool.true_and, List.all_eq_true]
    intro i _
    rw [beq_iff_eq]
    exact h _ ⟨((60 + i : Nat) : Int) - ((0 : Nat) : Int), by omega⟩
/-- The program says what the reference says. -/
theorem impl_once_ev (l : List (List Int)) (hm : l.length ≤ 1048576) : Ev (fun k => impl_RowsOnce.f k l) (specO l) ∧ (specO l = true → Ev (fun k => impl_RowsCover.f k l) true) := by
  simp only [impl_RowsOnce.f]
  have ro := rowsOf_ev l (by omega)
  by_cases ok : rowsOk l = true
  · rw [if_pos ok] at ro
    have hg := good_zero ok
    have tw := two_ev (keep (l.map rowOf)) [] hg (fun y hy => by cases hy)
    rw [ev_bind ro, ev_bind0 (moving_ev hm), ev_bind tw]
    by_cases hr : rowsIn l = true
    · by_cases t : twoB [] (keep (l.map rowOf)) = true
      · have : ¬ specO l = true := fun h => by
          have := two_exact (L := 0) (keep (l.map rowOf)) [] hg ((specO_iff hr).1 h)
          rw [this] at t
          cases t
        rw [ev_pos t, ev_some, Bool.eq_false_iff.2 this]
        exact ⟨rfl, fun h => by cases h⟩
      · obtain ⟨pw, _⟩ := two_pair _ _ (Bool.eq_false_iff.2 t)
        obtain ⟨L, l1, l2, gl⟩ := bigL hg pw
        obtain ⟨c, ce, c1, c2⟩ := cover_any hr l1 l2 gl
        have : c = specO l := by
          rw [Bool.eq_iff_iff, specO_iff hr]
          refine ⟨fun h n hn => ?_, c2⟩
          obtain ⟨x, hx, hd⟩ := c1 h n hn
          have a := filter_le1 n _ hg pw
          have b : 0 < ((keep (l.map rowOf)).filter (fun x => hitB x n)).length := List.length_pos_of_mem (List.mem_filter.2 ⟨hx, by unfold hitB; rwa [decide_eq_true_eq]⟩)
          omega
        rw [ev_neg t, ← this]
        exact ⟨ce, fun h => by rwa [h] at ce⟩
    · have hs : specO l = false := by unfold specO; rw [Bool.eq_false_iff.2 hr, Bool.false_and]
      rw [hs]
      refine ⟨?_, fun h => by cases h⟩
      by_cases t : twoB [] (keep (l.map rowOf)) = true
      · rw [ev_pos t, ev_some]
      · rw [ev_neg t]
        exact cover_out hm (Bool.eq_false_iff.2 hr)
  · rw [if_neg ok] at ro
    have hr : rowsIn l = false := by unfold rowsIn; rw [Bool.eq_false_iff.2 ok]; rfl
    have hs : specO l = false := by unfold specO; rw [hr, Bool.false_and]
    have mv : impl_moving.f ([] : List Row) = some [] := rfl
    have tw := two_ev [] [] (fun y hy => by cases hy) (fun y hy => by cases hy)
    rw [hs]
    refine ⟨?_, fun h => by cases h⟩
    rw [ev_bind ro, ev_bind0 mv, ev_bind tw, ev_neg (by simp [twoB])]
    exact cover_out hm hr
end Go.Proofs.Ytdiaifmlockohaa.Pure
