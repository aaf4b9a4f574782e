/- Whether rows have all numbers of a row: the program's search ends, and where it says yes, they have. -/
import Derived.Test.YtdiaifmlockohaaQrowsA
import Derived.Test.YtdiaifmlockohaaG11
import Derived.Test.YtdiaifmlockohaaG4
namespace Go.Proofs.Ytdiaifmlockohaa.Pure
open Go.RowKit Go.Proofs.Ytdiaifmlockohaa.G Go.Proofs.YtdiaifmlockohaaW.PrintWords Go.Proofs.YtdiaifmlockohaaW.PrintLast

/-! ### Floats that are no NaN and not below 0 -/
def FOk (w : Nat) : Prop := w ≤ 9218868437227405312
theorem word_le (m : Nat) : FOk (Ieee.double.word false (min m Ieee.double.infRung)) := by
  have e : Ieee.double.infRung = 9218868437227405312 := by decide +kernel
  unfold FOk Ieee.Format.word
  rw [e]
  simp only [Bool.false_eq_true, if_false]
  exact Nat.min_le_right _ _
theorem nearest_ok (m : Nat) (p : Int) : FOk (Ieee.double.nearest false m p) := by
  unfold Ieee.Format.nearest
  by_cases h : m = 0
  · rw [if_pos h]
    unfold FOk Ieee.Format.word
    simp
  · rw [if_neg h]
    exact word_le _
inductive DOk : Ieee.Datum → Prop
  | num (m : Nat) (p : Int) : DOk (.number false m p)
  | inf : DOk (.infinity false)
theorem write_ok {d : Ieee.Datum} (h : DOk d) : FOk (Ieee.double.write d) := by
  cases h with
  | num m p => exact nearest_ok m p
  | inf =>
    show FOk (Ieee.double.word false Ieee.double.infRung)
    have := word_le Ieee.double.infRung
    rwa [Nat.min_self] at this
theorem read_ok {w : Nat} (h : FOk w) : DOk (Ieee.double.read w) := by
  have e1 : Ieee.double.signWeight = 9223372036854775808 := by decide +kernel
  have e2 : Ieee.double.infRung = 9218868437227405312 := by decide +kernel
  have e3 : w / 9223372036854775808 = 0 := Nat.div_eq_of_lt (by unfold FOk at h; omega)
  have e4 : w % 9223372036854775808 = w := Nat.mod_eq_of_lt (by unfold FOk at h; omega)
  unfold Ieee.Format.read
  simp only [e1, e2, e3, e4]
  by_cases c1 : w < Ieee.double.binade
  · rw [if_pos c1]
    exact .num _ _
  · rw [if_neg c1]
    by_cases c2 : w < 9218868437227405312
    · rw [if_pos c2]
      exact .num _ _
    · rw [if_neg c2, if_pos (by unfold FOk at h; omega)]
      exact .inf
theorem sum_ok {a b : Ieee.Datum} (ha : DOk a) (hb : DOk b) : ∃ d, a.sum b = some d ∧ DOk d := by
  cases ha with
  | num m p =>
    cases hb with
    | num n q =>
      refine ⟨_, rfl, ?_⟩
      have h1 : ∀ (x y : Nat), 0 ≤ Ieee.signed false x y := fun x y => by
        unfold Ieee.signed
        rw [if_neg (by decide)]
        exact Int.natCast_nonneg _
      have hx := h1 m ((p - min p q).toNat)
      have hy := h1 n ((q - min p q).toNat)
      have e : (if Ieee.signed false m ((p - min p q).toNat) + Ieee.signed false n ((q - min p q).toNat) = 0 then (false && false) else decide (Ieee.signed false m ((p - min p q).toNat) + Ieee.signed false n ((q - min p q).toNat) < 0)) = false := by
        split
        · rfl
        · exact decide_eq_false (by omega)
      rw [e]
      exact .num _ _
    | inf => exact ⟨_, rfl, .inf⟩
  | inf =>
    cases hb with
    | num n q => exact ⟨_, rfl, .inf⟩
    | inf => exact ⟨_, rfl, .inf⟩
theorem add_ok {a b : Nat} (ha : FOk a) (hb : FOk b) : ∃ r, floatBits .add .f64 a b = some r ∧ FOk r := by
  obtain ⟨d, h1, h2⟩ := sum_ok (read_ok ha) (read_ok hb)
  refine ⟨Ieee.double.write d, ?_, write_ok h2⟩
  show Option.map Ieee.double.write ((Ieee.double.read a).sum (Ieee.double.read b)) = _
  rw [h1]
  rfl
theorem quo_ok {a b : Nat} (ha : ∃ m p, Ieee.double.read a = .number false m p ∧ m ≠ 0) (hb : FOk b) : ∃ r, floatBits .quo .f64 a b = some r ∧ FOk r := by
  obtain ⟨m, p, e, hm⟩ := ha
  have : ∃ d, (Ieee.double.read a).quotient (Ieee.double.fractionBits + 2) (Ieee.double.read b) = some d ∧ DOk d := by
    rw [e]
    have hb2 := read_ok hb
    generalize Ieee.double.read b = D at hb2
    cases hb2 with
    | num n q =>
      by_cases c : n = 0
      · refine ⟨.infinity false, ?_, .inf⟩
        unfold Ieee.Datum.quotient
        simp only
        rw [if_pos c, if_neg hm]
        rfl
      · unfold Ieee.Datum.quotient
        simp only
        rw [if_neg c]
        exact ⟨_, rfl, .num _ _⟩
    | inf => exact ⟨_, rfl, .num _ _⟩
  obtain ⟨d, h1, h2⟩ := this
  refine ⟨Ieee.double.write d, ?_, write_ok h2⟩
  show Option.map Ieee.double.write ((Ieee.double.read a).quotient (Ieee.double.fractionBits + 2) (Ieee.double.read b)) = _
  rw [h1]
  rfl
theorem one_read : ∃ m p, Ieee.double.read 4607182418800017408 = .number false m p ∧ m ≠ 0 := ⟨4503599627370496, -52, by decide +kernel, by decide⟩
theorem int_ok (n : Nat) : FOk (floatOfInt .f64 (n : Int)) := by
  have e : decide ((n : Int) < 0) = false := decide_eq_false (by omega)
  show FOk (Ieee.double.nearest (decide ((n : Int) < 0)) (n : Int).natAbs 0)
  rw [e]
  exact nearest_ok _ _
theorem lss_zero : cv_lss 0 4607182418791010209 = true := by decide +kernel

/-! ### Divisors -/
/-- A row that goes on and on, of numbers that divide low. -/
structure Good (low : Nat) (x : Row) : Prop where
  f0 : 0 ≤ x.f0 ∧ x.f0 ≤ 59
  f1 : 1 ≤ x.f1 ∧ x.f1 ≤ 60
  dv : x.f1.toNat ∣ low
def part (s : Nat) (x : Row) : Nat := x.f1.toNat / Nat.gcd s x.f1.toNat
def tot (s : Nat) : List Row → Nat
  | [] => 0
  | x :: l => part s x + tot s l
def meetB (b s : Nat) (x : Row) : Bool := decide (((Nat.gcd s x.f1.toNat : Nat) : Int) ∣ (b : Int) - x.f0)
theorem meets_ev {low b s : Nat} {x : Row} (h : Good low x) (hb : b ≤ 1000000000000000) : Ev (fun k => impl_row_meets.f k (b : Int) (s : Int) x.f0 x.f1) (meetB b s x) := by
  obtain ⟨h1, h2⟩ := h.f0
  obtain ⟨h3, h4⟩ := h.f1
  have g := gcd_ev (a := (s : Int)) (b := x.f1) (by omega) (by omega)
  rw [Int.toNat_natCast] at g
  have gp := Nat.gcd_pos_of_pos_right s (show 0 < x.f1.toNat by omega)
  have gn : ¬ ((Nat.gcd s x.f1.toNat : Nat) : Int) = 0 := by omega
  have e1 : wrap64 ((b : Int) - x.f0) = (b : Int) - x.f0 := wrap_in _ (by omega)
  simp only [impl_row_meets.f]
  rw [ev_bind g, ev_neg gn, ev_some, e1]
  unfold meetB
  rw [Bool.eq_iff_iff, beq_iff_eq, decide_eq_true_eq, Int.dvd_iff_tmod_eq_zero]
theorem part_pos {low s : Nat} {x : Row} (h : Good low x) : 1 ≤ part s x := by
  obtain ⟨h3, h4⟩ := h.f1
  have h5 : 0 < x.f1.toNat := by omega
  exact Nat.div_pos (Nat.gcd_le_right s h5) (Nat.gcd_pos_of_pos_right s h5)
theorem part_le60 {low s : Nat} {x : Row} (h : Good low x) : part s x ≤ 60 := by
  obtain ⟨h3, h4⟩ := h.f1
  have := Nat.div_le_self x.f1.toNat (Nat.gcd s x.f1.toNat)
  unfold part
  omega
theorem part_ev {low s : Nat} {x : Row} (h : Good low x) : wrap64 (Int.tdiv x.f1 ((Nat.gcd s x.f1.toNat : Nat) : Int)) = (part s x : Int) := by
  obtain ⟨h3, h4⟩ := h.f1
  have e : x.f1 = ((x.f1.toNat : Nat) : Int) := by omega
  rw [e, ← Int.ofNat_tdiv, Int.toNat_natCast]
  have := part_le60 (s := s) h
  unfold part at this ⊢
  generalize x.f1.toNat / Nat.gcd s x.f1.toNat = z at this ⊢
  exact wrap_in _ (by omega)
theorem part_mul_le {low s p : Nat} {x : Row} (h : Good low x) : part (s * p) x ≤ part s x := by
  obtain ⟨h3, h4⟩ := h.f1
  have h5 : 0 < x.f1.toNat := by omega
  have hd : Nat.gcd s x.f1.toNat ∣ Nat.gcd (s * p) x.f1.toNat := Nat.dvd_gcd (Nat.dvd_trans (Nat.gcd_dvd_left _ _) (Nat.dvd_mul_right _ _)) (Nat.gcd_dvd_right _ _)
  exact Nat.div_le_div_left (Nat.le_of_dvd (Nat.gcd_pos_of_pos_right _ h5) hd) (Nat.gcd_pos_of_pos_right _ h5)
theorem gp_dvd {s p : Nat} {x : Row} (_h5 : 0 < x.f1.toNat) (hp : p ∣ part s x) : Nat.gcd s x.f1.toNat * p ∣ x.f1.toNat := by
  obtain ⟨q, hq⟩ := hp
  refine ⟨q, ?_⟩
  rw [Nat.mul_assoc, ← hq]
  exact (Nat.mul_div_cancel' (Nat.gcd_dvd_right _ _)).symm
theorem part_mul_lt {low s p : Nat} {x : Row} (h : Good low x) (hp2 : 2 ≤ p) (hp : p ∣ part s x) : part (s * p) x < part s x := by
  obtain ⟨h3, h4⟩ := h.f1
  have h5 : 0 < x.f1.toNat := by omega
  have g0 := Nat.gcd_pos_of_pos_right s h5
  have hd : Nat.gcd s x.f1.toNat * p ∣ Nat.gcd (s * p) x.f1.toNat := Nat.dvd_gcd (Nat.mul_dvd_mul_right (Nat.gcd_dvd_left _ _) p) (gp_dvd h5 hp)
  have h6 : part (s * p) x ≤ x.f1.toNat / (Nat.gcd s x.f1.toNat * p) := Nat.div_le_div_left (Nat.le_of_dvd (Nat.gcd_pos_of_pos_right _ h5) hd) (Nat.mul_pos g0 (by omega))
  rw [← Nat.div_div_eq_div_mul] at h6
  have h7 : part s x / p < part s x := Nat.div_lt_self (part_pos h) hp2
  unfold part at *
  omega
theorem step_dvd {low s p : Nat} {x : Row} (h : Good low x) (hs : s ∣ low) (hp : p ∣ part s x) : s * p ∣ low := by
  have h1 : s * part s x = Nat.lcm s x.f1.toNat := by
    unfold part Nat.lcm
    rw [Nat.mul_div_assoc s (Nat.gcd_dvd_right _ _)]
  exact Nat.dvd_trans (Nat.mul_dvd_mul_left s hp) (by rw [h1]; exact Nat.lcm_dvd hs h.dv)
theorem tot_filter (q : Row → Bool) (s : Nat) : ∀ l : List Row, tot s (l.filter q) ≤ tot s l
  | [] => Nat.le_refl _
  | x :: l => by
    have ih := tot_filter q s l
    by_cases c : q x = true
    · rw [List.filter_cons_of_pos c, tot, tot]
      omega
    · rw [List.filter_cons_of_neg c, tot]
      omega
theorem tot_le {low s p : Nat} : ∀ l : List Row, (∀ x ∈ l, Good low x) → tot (s * p) l ≤ tot s l
  | [], _ => Nat.le_refl _
  | x :: l, h => by
    have ih := tot_le (s := s) (p := p) l (fun y hy => h y (List.mem_cons_of_mem _ hy))
    have := part_mul_le (s := s) (p := p) (h x List.mem_cons_self)
    rw [tot, tot]
    omega
theorem tot_lt {low s p : Nat} (hp2 : 2 ≤ p) : ∀ l : List Row, (∀ x ∈ l, Good low x) → (∃ x ∈ l, p ∣ part s x) → tot (s * p) l < tot s l
  | [], _, hx => by obtain ⟨x, hx, _⟩ := hx; cases hx
  | x :: l, h, hx => by
    have hl := fun y hy => h y (List.mem_cons_of_mem _ hy)
    have h1 := part_mul_le (s := s) (p := p) (h x List.mem_cons_self)
    have h2 := tot_le (s := s) (p := p) l hl
    rw [tot, tot]
    obtain ⟨y, hy, hd⟩ := hx
    rcases List.mem_cons.1 hy with rfl | hy
    · have := part_mul_lt (h y List.mem_cons_self) hp2 hd
      omega
    · have := tot_lt hp2 l hl ⟨y, hy, hd⟩
      omega
theorem prime_l0 (B : Nat) (hB : 2 ≤ B) (hB2 : B ≤ 60) (d : Nat) : ∀ q, B - q = d → 2 ≤ q → q ≤ B → ∃ p : Nat, Ev (fun k => impl_prime.l0 k (B : Int) (q : Int)) (p : Int) ∧ 2 ≤ p ∧ p ≤ B ∧ p ∣ B := by
  induction d with
  | zero =>
    intro q hd h1 h2
    obtain rfl : q = B := by omega
    refine ⟨q, ?_, h1, h2, Nat.dvd_refl _⟩
    rw [ev_step (fun k => by rw [impl_prime.l0]), ev_neg (by omega), ev_pos (by rw [← Int.ofNat_tmod, Nat.mod_self]; rfl), ev_some]
  | succ d ih =>
    intro q hd h1 h2
    by_cases c : B % q = 0
    · refine ⟨q, ?_, h1, h2, Nat.dvd_of_mod_eq_zero c⟩
      rw [ev_step (fun k => by rw [impl_prime.l0]), ev_neg (by omega), ev_pos (by rw [← Int.ofNat_tmod, c]; rfl), ev_some]
    · obtain ⟨p, e, g⟩ := ih (q + 1) (by omega) (by omega) (by omega)
      refine ⟨p, ?_, g⟩
      have hw : wrap64 ((q : Int) + 1) = ((q + 1 : Nat) : Int) := by rw [wrap_in _ (by omega)]; omega
      have hc : ¬ Int.tmod (B : Int) (q : Int) = 0 := by
        rw [← Int.ofNat_tmod]
        generalize B % q = z at c
        omega
      rw [ev_step (fun k => by rw [impl_prime.l0]), ev_neg (by omega), ev_neg hc, hw]
      exact e
theorem prime_ev {B : Nat} (hB : 2 ≤ B) (hB2 : B ≤ 60) : ∃ p : Nat, Ev (fun k => impl_prime.f k (B : Int)) (p : Int) ∧ 2 ≤ p ∧ p ≤ B ∧ p ∣ B := by
  simp only [impl_prime.f]
  exact prime_l0 B hB hB2 (B - 2) 2 rfl (Nat.le_refl _) hB
/-- x has all numbers that b has, by steps of s. -/
def HasAllOf (b s : Nat) (xs : List Row) : Prop := ∀ n : Int, (s : Int) ∣ n - b → ∃ x ∈ xs, x.f1 ∣ n - x.f0
theorem one_part {low b s : Nat} {x : Row} (h : Good low x) (hp : part s x = 1) (hm : meetB b s x = true) : ∀ n : Int, (s : Int) ∣ n - b → x.f1 ∣ n - x.f0 := by
  intro n hn
  obtain ⟨h3, h4⟩ := h.f1
  have e : Nat.gcd s x.f1.toNat = x.f1.toNat := by
    have := Nat.div_mul_cancel (Nat.gcd_dvd_right s x.f1.toNat)
    unfold part at hp
    rw [hp, Nat.one_mul] at this
    exact this
  unfold meetB at hm
  rw [decide_eq_true_eq, e] at hm
  have hd : x.f1.toNat ∣ s := by rw [← e]; exact Nat.gcd_dvd_left _ _
  have hx : x.f1 = ((x.f1.toNat : Nat) : Int) := by omega
  rw [hx]
  have h1 : ((x.f1.toNat : Nat) : Int) ∣ n - b := Int.dvd_trans (Int.natCast_dvd_natCast.2 hd) hn
  have := Int.dvd_add h1 hm
  rwa [show n - (b : Int) + ((b : Int) - x.f0) = n - x.f0 by omega] at this
/-- What the program has gathered of the rows so far. -/
structure Scan (b s : Nat) (sum : Nat) (best : Int) (left : List Row) : Prop where
  fl : FOk sum
  nil : left = [] → sum = 0 ∧ best = 0
  some_ : left ≠ [] → ∃ x ∈ left, best = (part s x : Int) ∧ 2 ≤ part s x
theorem scan_ev {low b s : Nat} (hb : b ≤ 1000000000000000) : ∀ (l : List Row) (sum : Nat) (best : Int) (left : List Row), (∀ x ∈ l, Good low x) → l.length + left.length ≤ 20 → Scan b s sum best left →
    ∃ o, Ev (fun k => cv_scan k (b : Int) (s : Int) l sum best left) o ∧ (o = none → ∃ x ∈ l, meetB b s x = true ∧ part s x = 1) ∧ (∀ t, o = some t → t.2.2 = left ++ l.filter (meetB b s) ∧ Scan b s t.1 t.2.1 t.2.2)
  | [], sum, best, left, _, _, hs => by
    refine ⟨some (sum, best, left), ?_, fun h => (by cases h), fun t h => ?_⟩
    · simp only [cv_scan]
      exact (ev_some _ _).2 rfl
    · obtain rfl := Option.some.inj h
      exact ⟨by simp, hs⟩
  | x :: l, sum, best, left, hg, hl, hs => by
    have hx := hg x List.mem_cons_self
    have hg' := fun y hy => hg y (List.mem_cons_of_mem _ hy)
    rw [List.length_cons] at hl
    simp only [cv_scan]
    rw [show (∃ o, Ev (fun k => (impl_row_meets.f k (b : Int) (s : Int) x.f0 x.f1).bind fun m => if m = true then (impl_gcd.f k (s : Int) x.f1).bind fun g => if g = 0 then none else if wrap64 (Int.tdiv x.f1 g) = 1 then some none else if left.length < 1000000 then (floatBits .quo .f64 4607182418800017408 (floatOfInt .f64 (wrap64 (Int.tdiv x.f1 g)))).bind fun q => (floatBits .add .f64 sum q).bind fun sum' => cv_scan k (b : Int) (s : Int) l sum' (cv_best best (wrap64 (Int.tdiv x.f1 g))) (left ++ [x]) else none else cv_scan k (b : Int) (s : Int) l sum best left) o ∧ (o = none → ∃ y ∈ x :: l, meetB b s y = true ∧ part s y = 1) ∧ (∀ t, o = some t → t.2.2 = left ++ (x :: l).filter (meetB b s) ∧ Scan b s t.1 t.2.1 t.2.2)) = _ from rfl]
    by_cases c : meetB b s x = true
    · obtain ⟨h3, h4⟩ := hx.f1
      have g := gcd_ev (a := (s : Int)) (b := x.f1) (by omega) (by omega)
      rw [Int.toNat_natCast] at g
      have gp := Nat.gcd_pos_of_pos_right s (show 0 < x.f1.toNat by omega)
      have gn : ¬ ((Nat.gcd s x.f1.toNat : Nat) : Int) = 0 := by omega
      have pe := part_ev (s := s) hx
      by_cases c1 : part s x = 1
      · refine ⟨none, ?_, fun _ => ⟨x, List.mem_cons_self, c, c1⟩, fun t h => (by cases h)⟩
        rw [ev_bind (meets_ev hx hb), ev_pos c, ev_bind g, ev_neg gn, pe, ev_pos (by rw [c1]; rfl), ev_some]
      · have pp := part_pos (s := s) hx
        obtain ⟨q, hq, q1⟩ := quo_ok one_read (int_ok (part s x))
        obtain ⟨z, hz, z1⟩ := add_ok hs.fl q1
        have hs' : Scan b s z (cv_best best (part s x : Int)) (left ++ [x]) := by
          refine ⟨z1, fun h => by simp at h, fun _ => ?_⟩
          unfold cv_best
          by_cases cb : best = 0
          · rw [if_pos cb]
            exact ⟨x, by simp, rfl, by omega⟩
          · rw [if_neg cb]
            by_cases cp : (part s x : Int) < best
            · rw [if_pos cp]
              exact ⟨x, by simp, rfl, by omega⟩
            · rw [if_neg cp]
              have hne : left ≠ [] := fun z => cb (hs.nil z).2
              obtain ⟨y, hy, h1, h2⟩ := hs.some_ hne
              exact ⟨y, List.mem_append_left _ hy, h1, h2⟩
        obtain ⟨o, e, h1, h2⟩ := scan_ev hb l z _ (left ++ [x]) hg' (by rw [List.length_append, List.length_singleton]; omega) hs'
        refine ⟨o, ?_, fun h => ?_, fun t h => ?_⟩
        · have c1' : ¬ ((part s x : Nat) : Int) = 1 := by omega
          rw [ev_bind (meets_ev hx hb), ev_pos c, ev_bind g, ev_neg gn, pe, ev_neg c1', ev_pos (by omega), ev_bind0 hq, ev_bind0 hz]
          exact e
        · obtain ⟨y, hy, h3⟩ := h1 h
          exact ⟨y, List.mem_cons_of_mem _ hy, h3⟩
        · obtain ⟨h3, h4⟩ := h2 t h
          rw [List.filter_cons_of_pos c]
          exact ⟨by rw [h3, List.append_assoc]; rfl, h4⟩
    · obtain ⟨o, e, h1, h2⟩ := scan_ev hb l sum best left hg' (by omega) hs
      refine ⟨o, ?_, fun h => ?_, fun t h => ?_⟩
      · rw [ev_bind (meets_ev hx hb), ev_neg c]
        exact e
      · obtain ⟨y, hy, h3⟩ := h1 h
        exact ⟨y, List.mem_cons_of_mem _ hy, h3⟩
      · rw [List.filter_cons_of_neg c]
        exact h2 t h
theorem loop_ev {low b s p : Nat} {left : List Row} (hlow : low ≤ 1000000000000000) (hbs : b < s) (hsp : s * p ≤ low) (_hp : p ≤ 60) (C : Nat → Bool → Prop)
    (rec : ∀ i, i < p → ∃ c, Ev (fun k => impl_covered.f k ((b + i * s : Nat) : Int) ((s * p : Nat) : Int) left) c ∧ (c = true → C i c)) (d : Nat) : ∀ i, p - i = d → i ≤ p →
    ∃ c K, (∀ k, K ≤ k → ∀ n, p - i + 1 ≤ n → cv_loop (fun b' s' => impl_covered.f k b' s' left) (b : Int) (s : Int) (p : Int) n (i : Int) = some c) ∧ (c = true → ∀ j, i ≤ j → j < p → C j true) := by
  induction d with
  | zero =>
    intro i hd hi
    refine ⟨true, 0, fun k _ n hn => ?_, fun _ j h1 h2 => by omega⟩
    obtain ⟨n, rfl⟩ : ∃ m, n = m + 1 := ⟨n - 1, by omega⟩
    rw [cv_loop, if_neg (by omega)]
  | succ d ih =>
    intro i hd hi
    have hip : i < p := by omega
    obtain ⟨c, ⟨K, hK⟩, hc⟩ := rec i hip
    have m1 : (i + 1) * s ≤ p * s := Nat.mul_le_mul_right s hip
    rw [Nat.add_mul, Nat.one_mul, Nat.mul_comm p s] at m1
    have e1 : wrap64 ((b : Int) + wrap64 ((i : Int) * (s : Int))) = ((b + i * s : Nat) : Int) := by
      rw [← Int.natCast_mul]
      generalize i * s = z at *
      rw [wrap_in (z : Int) (by omega), wrap_in _ (by omega)]
      omega
    have e2 : wrap64 ((s : Int) * (p : Int)) = ((s * p : Nat) : Int) := by
      rw [← Int.natCast_mul]
      generalize s * p = z at *
      exact wrap_in _ (by omega)
    by_cases cc : c = true
    · subst cc
      obtain ⟨c', K', h1, h2⟩ := ih (i + 1) (by omega) (by omega)
      refine ⟨c', max K K', fun k hk n hn => ?_, fun h j g1 g2 => ?_⟩
      · obtain ⟨n, rfl⟩ : ∃ m, n = m + 1 := ⟨n - 1, by omega⟩
        have hK' : impl_covered.f k ((b + i * s : Nat) : Int) ((s * p : Nat) : Int) left = some true := hK k (by omega)
        rw [cv_loop, if_pos (by omega), e1, e2, hK', Option.bind_some, if_pos rfl]
        have := h1 k (by omega) n (by omega)
        rwa [show ((i + 1 : Nat) : Int) = (i : Int) + 1 by omega] at this
      · by_cases e : j = i
        · rw [e]
          exact hc rfl
        · exact h2 h j (by omega) g2
    · refine ⟨false, K, fun k hk n hn => ?_, fun h => by cases h⟩
      obtain ⟨n, rfl⟩ : ∃ m, n = m + 1 := ⟨n - 1, by omega⟩
      have hK' : impl_covered.f k ((b + i * s : Nat) : Int) ((s * p : Nat) : Int) left = some c := hK k hk
      rw [cv_loop, if_pos (by omega), e1, e2, hK', Option.bind_some, if_neg cc]
theorem covers_split {b s p : Nat} {xs : List Row} (hp : 1 ≤ p) (h : ∀ i, i < p → HasAllOf (b + i * s) (s * p) xs) : HasAllOf b s xs := by
  intro n hn
  obtain ⟨t, ht⟩ := hn
  have h0 : 0 ≤ t % (p : Int) := Int.emod_nonneg _ (by omega)
  have h1 : t % (p : Int) < (p : Int) := Int.emod_lt_of_pos _ (by omega)
  have he := Int.emod_add_mul_ediv t (p : Int)
  obtain ⟨i, hi⟩ := Int.eq_ofNat_of_zero_le h0
  refine h i (by omega) n ⟨t / (p : Int), ?_⟩
  rw [Int.natCast_add, Int.natCast_mul, Int.natCast_mul]
  have : n - (b : Int) = (s : Int) * ((i : Int) + (p : Int) * (t / (p : Int))) := by rw [ht, ← hi, he]
  rw [Int.mul_add, ← Int.mul_assoc] at this
  rw [Int.mul_comm (i : Int) (s : Int)]
  omega
/-- The search ends; where it says yes, the rows have all numbers. -/
theorem covered_ev {low : Nat} (h1 : 1 ≤ low) (hlow : low ≤ 1000000000000000) (m : Nat) : ∀ (b s : Nat) (xs : List Row), (∀ x ∈ xs, Good low x) → xs.length ≤ 20 → s ∣ low → b < s → tot s xs ≤ m →
    ∃ c, Ev (fun k => impl_covered.f k (b : Int) (s : Int) xs) c ∧ (c = true → HasAllOf b s xs) := by
  induction m using Nat.strongRecOn with
  | _ m ih =>
    intro b s xs hg hl hs hbs hm
    have hsl := Nat.le_of_dvd (by omega) hs
    obtain ⟨o, e, ho1, ho2⟩ := scan_ev (low := low) (b := b) (s := s) (by omega) xs 0 0 [] hg (by simpa using hl) ⟨by unfold FOk; omega, fun _ => ⟨rfl, rfl⟩, fun h => absurd rfl h⟩
    cases o with
    | none =>
      obtain ⟨x, hx, hx1, hx2⟩ := ho1 rfl
      refine ⟨true, ?_, fun _ n hn => ⟨x, hx, one_part (hg x hx) hx2 hx1 n hn⟩⟩
      rw [ev_step (fun k => by rw [impl_covered.f]), ev_bind e]
      exact (ev_some _ _).2 rfl
    | some t =>
      obtain ⟨sum, best, left⟩ := t
      obtain ⟨hleft, hsc⟩ := ho2 _ rfl
      rw [List.nil_append] at hleft
      simp only at hleft hsc
      by_cases cl : cv_lss sum 4607182418791010209 = true
      · refine ⟨false, ?_, fun h => by cases h⟩
        rw [ev_step (fun k => by rw [impl_covered.f]), ev_bind e]
        simp only
        rw [ev_pos cl, ev_some]
      · have hne : left ≠ [] := fun z => by
          obtain ⟨z1, _⟩ := hsc.nil z
          rw [z1] at cl
          exact cl lss_zero
        obtain ⟨x, hx, hb1, hb2⟩ := hsc.some_ hne
        have hgl : ∀ y ∈ left, Good low y := fun y hy => by
          rw [hleft] at hy
          exact hg y (List.mem_filter.1 hy).1
        obtain ⟨p, ep, p2, pB, pd⟩ := prime_ev hb2 (part_le60 (hgl x hx))
        have hsp := step_dvd (hgl x hx) hs pd
        have hlt := tot_lt (s := s) p2 left hgl ⟨x, hx, pd⟩
        have hfl : tot s left ≤ tot s xs := by rw [hleft]; exact tot_filter _ _ _
        have hll : left.length ≤ 20 := by
          rw [hleft]
          exact Nat.le_trans (List.length_filter_le _ _) hl
        have p60 := part_le60 (s := s) (hgl x hx)
        have hspl := Nat.le_of_dvd (by omega) hsp
        obtain ⟨c, K, hK, hc⟩ := loop_ev (low := low) (b := b) (s := s) (p := p) (left := left) hlow hbs hspl (by omega) (fun i _ => HasAllOf (b + i * s) (s * p) left) (fun i hi => by
          have m1 : (i + 1) * s ≤ p * s := Nat.mul_le_mul_right s hi
          rw [Nat.add_mul, Nat.one_mul, Nat.mul_comm p s] at m1
          obtain ⟨c, e, hc⟩ := ih (tot (s * p) left) (by omega) (b + i * s) (s * p) left hgl hll hsp (by omega) (Nat.le_refl _)
          exact ⟨c, e, fun h => hc h⟩) p 0 (by omega) (by omega)
        refine ⟨c, ?_, fun h n hn => ?_⟩
        · rw [ev_step (fun k => by rw [impl_covered.f]), ev_bind e]
          simp only
          rw [ev_neg cl, hb1, ev_bind ep, ev_pos (by omega)]
          exact ⟨max K (p + 1), fun k hk => hK k (by omega) k (by omega)⟩
        · obtain ⟨y, hy, hd⟩ := covers_split (by omega) (fun i hi => hc h i (Nat.zero_le _) hi) n hn
          rw [hleft] at hy
          exact ⟨y, (List.mem_filter.1 hy).1, hd⟩
end Go.Proofs.Ytdiaifmlockohaa.Pure
