/- Whether rows have all numbers of a row: the search ends, a yes is right, and rows that have each number just once get a yes. -/
import Derived.Test.YtdiaifmlockohaaQexact
import Derived.Test.YtdiaifmlockohaaG11
import Derived.Test.YtdiaifmlockohaaG4
namespace Go.Proofs.Ytdiaifmlockohaa.Pure
open Go.RowKit Go.Proofs.Ytdiaifmlockohaa.G Go.Proofs.YtdiaifmlockohaaW.PrintWords Go.Proofs.YtdiaifmlockohaaW.PrintLast

theorem kk_20 : 20 ≤ KK := by
  have : 2 ^ 5 ≤ KK := by
    rw [← kk_eq]
    exact Nat.pow_le_pow_right (by decide) (by unfold KE; omega)
  omega
theorem zero_lw : LW 0 0 := by
  have := read_lb (L := 0) (kept := 0) (by omega)
  simp only [Nat.zero_mul, Nat.add_zero, Nat.zero_min] at this
  exact this
/-- A row that has a number of b by steps of s meets it. -/
theorem hit_meets {low b s : Nat} {x : Row} (h : Good low x) {n : Int} (hn : (s : Int) ∣ n - b) (hh : hitB x n = true) : meetB b s x = true := by
  obtain ⟨h3, h4⟩ := h.f1
  have ex : x.f1 = ((x.f1.toNat : Nat) : Int) := by omega
  unfold hitB at hh
  rw [decide_eq_true_eq, ex] at hh
  unfold meetB
  rw [decide_eq_true_eq]
  have h1 : ((Nat.gcd s x.f1.toNat : Nat) : Int) ∣ n - b := Int.dvd_trans (Int.natCast_dvd_natCast.2 (Nat.gcd_dvd_left _ _)) hn
  have h2 : ((Nat.gcd s x.f1.toNat : Nat) : Int) ∣ n - x.f0 := Int.dvd_trans (Int.natCast_dvd_natCast.2 (Nat.gcd_dvd_right _ _)) hh
  have := Int.dvd_sub h2 h1
  rwa [show n - x.f0 - (n - (b : Int)) = (b : Int) - x.f0 by omega] at this
theorem exact_left {low b s : Nat} {xs : List Row} (hg : ∀ x ∈ xs, Good low x) (h : Exact b s xs) : Exact b s (xs.filter (meetB b s)) := by
  intro n hn
  rw [← h n hn, List.filter_filter]
  congr 1
  refine List.filter_congr fun x hx => ?_
  by_cases c : hitB x n = true
  · rw [c, hit_meets (hg x hx) hn c]
    rfl
  · rw [Bool.eq_false_iff.2 c]
    rfl
theorem exact_sub {b s : Nat} {xs : List Row} (h : Exact b s xs) (i p : Nat) : Exact (b + i * s) (s * p) xs := by
  intro n hn
  refine h n ?_
  have h1 : (s : Int) ∣ n - ((b + i * s : Nat) : Int) := Int.dvd_trans (by rw [Int.natCast_mul]; exact Int.dvd_mul_right _ _) hn
  have h2 : (s : Int) ∣ ((i * s : Nat) : Int) := by rw [Int.natCast_mul]; exact Int.dvd_mul_left _ _
  have := Int.dvd_add h1 h2
  rwa [show n - ((b + i * s : Nat) : Int) + ((i * s : Nat) : Int) = n - (b : Int) by omega] at this
/-- What the program has gathered of the rows so far. -/
structure Scan2 (b s : Nat) (sum : Nat) (best : Int) (left : List Row) : Prop where
  fl : FOk sum
  val : ∃ T, LW T sum ∧ min (flo s left) MM ≤ T + left.length * (2 * KK)
  nil : left = [] → sum = 0 ∧ best = 0
  some_ : left ≠ [] → ∃ x ∈ left, best = (part s x : Int) ∧ 2 ≤ part s x
theorem scan2_ev {low b s : Nat} (hb : b ≤ 1000000000000000) : ∀ (l : List Row) (sum : Nat) (best : Int) (left : List Row), (∀ x ∈ l, Good low x) → l.length + left.length ≤ 20 → Scan2 b s sum best left →
    ∃ o, Ev (fun k => cv_scan k (b : Int) (s : Int) l sum best left) o ∧ (o = none → ∃ x ∈ l, meetB b s x = true ∧ part s x = 1) ∧ (∀ t, o = some t → t.2.2 = left ++ l.filter (meetB b s) ∧ Scan2 b s t.1 t.2.1 t.2.2)
  | [], sum, best, left, _, _, hs => by
    refine ⟨some (sum, best, left), ?_, fun h => (by cases h), fun t h => ?_⟩
    · simp only [cv_scan]
      exact (ev_some _ _).2 rfl
    · obtain rfl := Option.some.inj h
      exact ⟨by simp, hs⟩
  | x :: l, sum, best, left, hg, hl, hs => by
    have hx := hg x List.mem_cons_self
    have hg' := fun y hy => hg y (List.mem_cons_of_mem _ hy)
    rw [List.length_cons] at hl
    simp only [cv_scan]
    rw [show (∃ o, Ev (fun k => (impl_row_meets.f k (b : Int) (s : Int) x.f0 x.f1).bind fun m => if m = true then (impl_gcd.f k (s : Int) x.f1).bind fun g => if g = 0 then none else if wrap64 (Int.tdiv x.f1 g) = 1 then some none else if left.length < 1000000 then (floatBits .quo .f64 4607182418800017408 (floatOfInt .f64 (wrap64 (Int.tdiv x.f1 g)))).bind fun q => (floatBits .add .f64 sum q).bind fun sum' => cv_scan k (b : Int) (s : Int) l sum' (cv_best best (wrap64 (Int.tdiv x.f1 g))) (left ++ [x]) else none else cv_scan k (b : Int) (s : Int) l sum best left) o ∧ (o = none → ∃ y ∈ x :: l, meetB b s y = true ∧ part s y = 1) ∧ (∀ t, o = some t → t.2.2 = left ++ (x :: l).filter (meetB b s) ∧ Scan2 b s t.1 t.2.1 t.2.2)) = _ from rfl]
    by_cases c : meetB b s x = true
    · obtain ⟨h3, h4⟩ := hx.f1
      have g := gcd_ev (a := (s : Int)) (b := x.f1) (by omega) (by omega)
      rw [Int.toNat_natCast] at g
      have gp := Nat.gcd_pos_of_pos_right s (show 0 < x.f1.toNat by omega)
      have gn : ¬ ((Nat.gcd s x.f1.toNat : Nat) : Int) = 0 := by omega
      have pe := part_ev (s := s) hx
      by_cases c1 : part s x = 1
      · refine ⟨none, ?_, fun _ => ⟨x, List.mem_cons_self, c, c1⟩, fun t h => (by cases h)⟩
        rw [ev_bind (meets_ev hx hb), ev_pos c, ev_bind g, ev_neg gn, pe, ev_pos (by rw [c1]; rfl), ev_some]
      · have pp := part_pos (s := s) hx
        obtain ⟨T, hT, hT2⟩ := hs.val
        obtain ⟨q, hq, _, q2⟩ := quo_lb pp (part_le60 hx)
        obtain ⟨z, hz, z1, z2⟩ := add_lb hT q2
        have hs' : Scan2 b s z (cv_best best (part s x : Int)) (left ++ [x]) := by
          refine ⟨z1, ⟨_, z2, ?_⟩, fun h => by simp at h, fun _ => ?_⟩
          · rw [fl_append, List.length_append, List.length_singleton, Nat.add_mul, Nat.one_mul]
            generalize MM / part s x = f at *
            generalize flo s left = F at *
            generalize left.length * (2 * KK) = E at *
            generalize MM = M at *
            generalize KK = K at *
            omega
          unfold cv_best
          by_cases cb : best = 0
          · rw [if_pos cb]
            exact ⟨x, by simp, rfl, by omega⟩
          · rw [if_neg cb]
            by_cases cp : (part s x : Int) < best
            · rw [if_pos cp]
              exact ⟨x, by simp, rfl, by omega⟩
            · rw [if_neg cp]
              have hne : left ≠ [] := fun z => cb (hs.nil z).2
              obtain ⟨y, hy, h1, h2⟩ := hs.some_ hne
              exact ⟨y, List.mem_append_left _ hy, h1, h2⟩
        obtain ⟨o, e, h1, h2⟩ := scan2_ev hb l z _ (left ++ [x]) hg' (by rw [List.length_append, List.length_singleton]; omega) hs'
        refine ⟨o, ?_, fun h => ?_, fun t h => ?_⟩
        · have c1' : ¬ ((part s x : Nat) : Int) = 1 := by omega
          rw [ev_bind (meets_ev hx hb), ev_pos c, ev_bind g, ev_neg gn, pe, ev_neg c1', ev_pos (by omega), ev_bind0 hq, ev_bind0 hz]
          exact e
        · obtain ⟨y, hy, h3⟩ := h1 h
          exact ⟨y, List.mem_cons_of_mem _ hy, h3⟩
        · obtain ⟨h3, h4⟩ := h2 t h
          rw [List.filter_cons_of_pos c]
          exact ⟨by rw [h3, List.append_assoc]; rfl, h4⟩
    · obtain ⟨o, e, h1, h2⟩ := scan2_ev hb l sum best left hg' (by omega) hs
      refine ⟨o, ?_, fun h => ?_, fun t h => ?_⟩
      · rw [ev_bind (meets_ev hx hb), ev_neg c]
        exact e
      · obtain ⟨y, hy, h3⟩ := h1 h
        exact ⟨y, List.mem_cons_of_mem _ hy, h3⟩
      · rw [List.filter_cons_of_neg c]
        exact h2 t h
theorem loop2_ev {low b s p : Nat} {left : List Row} (hlow : low ≤ 1000000000000000) (hbs : b < s) (hsp : s * p ≤ low) (_hp : p ≤ 60) (C : Nat → Bool → Prop)
    (rec : ∀ i, i < p → ∃ c, Ev (fun k => impl_covered.f k ((b + i * s : Nat) : Int) ((s * p : Nat) : Int) left) c ∧ C i c) (d : Nat) : ∀ i, p - i = d → i ≤ p →
    ∃ c K, (∀ k, K ≤ k → ∀ n, p - i + 1 ≤ n → cv_loop (fun b' s' => impl_covered.f k b' s' left) (b : Int) (s : Int) (p : Int) n (i : Int) = some c) ∧ (c = true → ∀ j, i ≤ j → j < p → C j true) ∧ (c = false → ∃ j, j < p ∧ C j false) := by
  induction d with
  | zero =>
    intro i hd hi
    refine ⟨true, 0, fun k _ n hn => ?_, fun _ j h1 h2 => by omega, fun h => by cases h⟩
    obtain ⟨n, rfl⟩ : ∃ m, n = m + 1 := ⟨n - 1, by omega⟩
    rw [cv_loop, if_neg (by omega)]
  | succ d ih =>
    intro i hd hi
    have hip : i < p := by omega
    obtain ⟨c, ⟨K, hK⟩, hc⟩ := rec i hip
    have m1 : (i + 1) * s ≤ p * s := Nat.mul_le_mul_right s hip
    rw [Nat.add_mul, Nat.one_mul, Nat.mul_comm p s] at m1
    have e1 : wrap64 ((b : Int) + wrap64 ((i : Int) * (s : Int))) = ((b + i * s : Nat) : Int) := by
      rw [← Int.natCast_mul]
      generalize i * s = z at *
      rw [wrap_in (z : Int) (by omega), wrap_in _ (by omega)]
      omega
    have e2 : wrap64 ((s : Int) * (p : Int)) = ((s * p : Nat) : Int) := by
      rw [← Int.natCast_mul]
      generalize s * p = z at *
      exact wrap_in _ (by omega)
    by_cases cc : c = true
    · subst cc
      obtain ⟨c', K', h1, h2, h3⟩ := ih (i + 1) (by omega) (by omega)
      refine ⟨c', max K K', fun k hk n hn => ?_, fun h j g1 g2 => ?_, h3⟩
      · obtain ⟨n, rfl⟩ : ∃ m, n = m + 1 := ⟨n - 1, by omega⟩
        have hK' : impl_covered.f k ((b + i * s : Nat) : Int) ((s * p : Nat) : Int) left = some true := hK k (by omega)
        rw [cv_loop, if_pos (by omega), e1, e2, hK', Option.bind_some, if_pos rfl]
        have := h1 k (by omega) n (by omega)
        rwa [show ((i + 1 : Nat) : Int) = (i : Int) + 1 by omega] at this
      · by_cases e : j = i
        · rw [e]
          exact hc
        · exact h2 h j (by omega) g2
    · refine ⟨false, K, fun k hk n hn => ?_, fun h => (by cases h), fun _ => ⟨i, hip, by rwa [Bool.eq_false_iff.2 cc] at hc⟩⟩
      obtain ⟨n, rfl⟩ : ∃ m, n = m + 1 := ⟨n - 1, by omega⟩
      have hK' : impl_covered.f k ((b + i * s : Nat) : Int) ((s * p : Nat) : Int) left = some c := hK k hk
      rw [cv_loop, if_pos (by omega), e1, e2, hK', Option.bind_some, if_neg cc]
/-- The search ends; where it says yes, the rows have all numbers. -/
theorem covered2_ev {low : Nat} (h1 : 1 ≤ low) (hlow : low ≤ 1000000000000000) (m : Nat) : ∀ (b s : Nat) (xs : List Row), (∀ x ∈ xs, Good low x) → xs.length ≤ 20 → s ∣ low → b < s → tot s xs ≤ m →
    ∃ c, Ev (fun k => impl_covered.f k (b : Int) (s : Int) xs) c ∧ (c = true → HasAllOf b s xs) ∧ (Exact b s xs → c = true) := by
  induction m using Nat.strongRecOn with
  | _ m ih =>
    intro b s xs hg hl hs hbs hm
    have hsl := Nat.le_of_dvd (by omega) hs
    obtain ⟨o, e, ho1, ho2⟩ := scan2_ev (low := low) (b := b) (s := s) (by omega) xs 0 0 [] hg (by simpa using hl) ⟨by unfold FOk; omega, ⟨0, zero_lw, by rw [flo, Nat.zero_min]; exact Nat.zero_le _⟩, fun _ => ⟨rfl, rfl⟩, fun h => absurd rfl h⟩
    cases o with
    | none =>
      obtain ⟨x, hx, hx1, hx2⟩ := ho1 rfl
      refine ⟨true, ?_, fun _ n hn => ⟨x, hx, one_part (hg x hx) hx2 hx1 n hn⟩, fun _ => rfl⟩
      rw [ev_step (fun k => by rw [impl_covered.f]), ev_bind e]
      exact (ev_some _ _).2 rfl
    | some t =>
      obtain ⟨sum, best, left⟩ := t
      obtain ⟨hleft, hsc⟩ := ho2 _ rfl
      rw [List.nil_append] at hleft
      simp only at hleft hsc
      have hgl : ∀ y ∈ left, Good low y ∧ meetB b s y = true := fun y hy => by
        rw [hleft] at hy
        exact ⟨hg y (List.mem_filter.1 hy).1, (List.mem_filter.1 hy).2⟩
      have hll : left.length ≤ 20 := by
        rw [hleft]
        exact Nat.le_trans (List.length_filter_le _ _) hl
      have hxl : Exact b s xs → Exact b s left := fun h => by rw [hleft]; exact exact_left hg h
      by_cases cl : cv_lss sum 4607182418791010209 = true
      · refine ⟨false, ?_, fun h => (by cases h), fun h => ?_⟩
        rotate_left
        · have f1 := fl_one h1 hgl (hxl h)
          obtain ⟨T, t1, t2⟩ := hsc.val
          have a4 : MM = 9007199254740992 * KK := rfl
          have a5 : 20 ≤ KK := kk_20
          have a6 : left.length * (2 * KK) ≤ 20 * (2 * KK) := Nat.mul_le_mul_right _ hll
          rw [lss_lb t1 (by
            generalize left.length * (2 * KK) = E at *
            generalize flo s left = F at *
            generalize MM = M at *
            generalize KK = K at *
            omega)] at cl
          cases cl
        rw [ev_step (fun k => by rw [impl_covered.f]), ev_bind e]
        simp only
        rw [ev_pos cl, ev_some]
      · have hne : left ≠ [] := fun z => by
          obtain ⟨z1, _⟩ := hsc.nil z
          rw [z1] at cl
          exact cl lss_zero
        obtain ⟨x, hx, hb1, hb2⟩ := hsc.some_ hne
        have hgl := fun y hy => (hgl y hy).1
        obtain ⟨p, ep, p2, pB, pd⟩ := prime_ev hb2 (part_le60 (hgl x hx))
        have hsp := step_dvd (hgl x hx) hs pd
        have hlt := tot_lt (s := s) p2 left hgl ⟨x, hx, pd⟩
        have hfl : tot s left ≤ tot s xs := by rw [hleft]; exact tot_filter _ _ _
        have p60 := part_le60 (s := s) (hgl x hx)
        have hspl := Nat.le_of_dvd (by omega) hsp
        obtain ⟨c, K, hK, hc, hc2⟩ := loop2_ev (low := low) (b := b) (s := s) (p := p) (left := left) hlow hbs hspl (by omega) (fun i c => (c = true → HasAllOf (b + i * s) (s * p) left) ∧ (Exact (b + i * s) (s * p) left → c = true)) (fun i hi => by
          have m1 : (i + 1) * s ≤ p * s := Nat.mul_le_mul_right s hi
          rw [Nat.add_mul, Nat.one_mul, Nat.mul_comm p s] at m1
          obtain ⟨c, e, hc⟩ := ih (tot (s * p) left) (by omega) (b + i * s) (s * p) left hgl hll hsp (by omega) (Nat.le_refl _)
          exact ⟨c, e, hc⟩) p 0 (by omega) (by omega)
        refine ⟨c, ?_, fun h n hn => ?_, fun h => ?_⟩
        rotate_right
        · by_cases cc : c = true
          · exact cc
          · obtain ⟨j, hj, g⟩ := hc2 (Bool.eq_false_iff.2 cc)
            exact absurd (g.2 (exact_sub (hxl h) j p)) (by simp)
        · rw [ev_step (fun k => by rw [impl_covered.f]), ev_bind e]
          simp only
          rw [ev_neg cl, hb1, ev_bind ep, ev_pos (by omega)]
          exact ⟨max K (p + 1), fun k hk => hK k (by omega) k (by omega)⟩
        · obtain ⟨y, hy, hd⟩ := covers_split (by omega) (fun i hi => (hc h i (Nat.zero_le _) hi).1 rfl) n hn
          rw [hleft] at hy
          exact ⟨y, (List.mem_filter.1 hy).1, hd⟩
end Go.Proofs.Ytdiaifmlockohaa.Pure
