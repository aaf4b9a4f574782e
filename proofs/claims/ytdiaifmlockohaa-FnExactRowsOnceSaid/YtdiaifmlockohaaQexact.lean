/- Rows that have each number of a row just once: the sum of one over their parts is 1. -/
import Derived.Test.YtdiaifmlockohaaQflo
import Derived.Test.YtdiaifmlockohaaQcount
namespace Go.Proofs.Ytdiaifmlockohaa.Pure
open Go.RowKit Go.Proofs.Ytdiaifmlockohaa.G Go.Proofs.YtdiaifmlockohaaW.PrintWords Go.Proofs.YtdiaifmlockohaaW.PrintLast

def hitB (x : Row) (n : Int) : Bool := decide (x.f1 ∣ n - x.f0)
/-- Each number of b by steps of s is had just once. -/
def Exact (b s : Nat) (xs : List Row) : Prop := ∀ n : Int, (s : Int) ∣ n - b → (xs.filter (fun x => hitB x n)).length = 1
def solveOk : Bool := (List.range 61).all fun d => (List.range 61).all fun m => decide (m = 0) || (List.range 61).any fun u => decide (m ∣ (d * u + 60 * m - Nat.gcd d m))
theorem solve_ok : solveOk = true := by decide +kernel
theorem solve {d m : Nat} (hd : d ≤ 60) (hm : 1 ≤ m ∧ m ≤ 60) : ∃ u : Nat, (m : Int) ∣ (d : Int) * (u : Int) - ((Nat.gcd d m : Nat) : Int) := by
  have h1 := List.all_eq_true.1 solve_ok d (List.mem_range.2 (by omega))
  have h2 := List.all_eq_true.1 h1 m (List.mem_range.2 (by omega))
  rw [Bool.or_eq_true, decide_eq_true_eq, List.any_eq_true] at h2
  rcases h2 with h2 | ⟨u, _, h2⟩
  · omega
  · rw [decide_eq_true_eq] at h2
    refine ⟨u, ?_⟩
    have h4 := Int.natCast_dvd_natCast.2 h2
    have hg := Nat.gcd_le_right d (show 0 < m by omega)
    have e : ((d * u + 60 * m - Nat.gcd d m : Nat) : Int) = ((d : Int) * (u : Int) - ((Nat.gcd d m : Nat) : Int)) + (m : Int) * 60 := by
      rw [← Int.natCast_mul]
      generalize d * u = z at *
      generalize Nat.gcd d m = g at *
      omega
    rw [e] at h4
    have := Int.dvd_sub h4 (Int.dvd_mul_right (m : Int) 60)
    rwa [Int.add_sub_cancel] at this
theorem solve2 (s : Nat) {m : Nat} (hm : 1 ≤ m ∧ m ≤ 60) {v : Int} (hv : ((Nat.gcd s m : Nat) : Int) ∣ v) : ∃ c : Int, (m : Int) ∣ (s : Int) * c - v := by
  have hlt := Nat.mod_lt s (show 0 < m by omega)
  obtain ⟨u, hu⟩ := solve (d := s % m) (by omega) hm
  have eg : Nat.gcd (s % m) m = Nat.gcd s m := by rw [← Nat.gcd_rec, Nat.gcd_comm]
  rw [eg] at hu
  obtain ⟨t, rfl⟩ := hv
  refine ⟨(u : Int) * t, ?_⟩
  have es : (s : Int) = ((s % m : Nat) : Int) + (m : Int) * ((s / m : Nat) : Int) := by
    rw [← Int.natCast_mul, ← Int.natCast_add, Nat.mod_add_div]
  have h1 : (m : Int) ∣ (((s % m : Nat) : Int) * (u : Int) - ((Nat.gcd s m : Nat) : Int)) * t := Int.dvd_trans hu (Int.dvd_mul_right _ _)
  have h2 : (m : Int) ∣ (m : Int) * ((s / m : Nat) : Int) * ((u : Int) * t) := by
    rw [Int.mul_assoc]
    exact Int.dvd_mul_right _ _
  have := Int.dvd_add h1 h2
  rw [Int.sub_mul] at this
  rw [es, Int.add_mul]
  generalize ((s % m : Nat) : Int) = y at *
  rw [← Int.mul_assoc y]
  rwa [show y * (u : Int) * t - ((Nat.gcd s m : Nat) : Int) * t + (m : Int) * ((s / m : Nat) : Int) * ((u : Int) * t) = y * (u : Int) * t + (m : Int) * ((s / m : Nat) : Int) * ((u : Int) * t) - ((Nat.gcd s m : Nat) : Int) * t by omega] at this
theorem part_dvd {s : Nat} {x : Row} (h5 : 0 < x.f1.toNat) (k : Int) : ((x.f1.toNat : Nat) : Int) ∣ (s : Int) * k ↔ ((part s x : Nat) : Int) ∣ k := by
  have g0 := Nat.gcd_pos_of_pos_right s h5
  have eg : Nat.gcd s x.f1.toNat * part s x = x.f1.toNat := Nat.mul_div_cancel' (Nat.gcd_dvd_right _ _)
  have es : Nat.gcd s x.f1.toNat * (s / Nat.gcd s x.f1.toNat) = s := Nat.mul_div_cancel' (Nat.gcd_dvd_left _ _)
  have co : Nat.Coprime (part s x) (s / Nat.gcd s x.f1.toNat) := (Nat.coprime_div_gcd_div_gcd g0).symm
  rw [← Int.natAbs_dvd_natAbs, ← Int.natAbs_dvd_natAbs, Int.natAbs_natCast, Int.natAbs_natCast, Int.natAbs_mul, Int.natAbs_natCast]
  constructor
  · intro h
    refine co.dvd_of_dvd_mul_left (Nat.dvd_of_mul_dvd_mul_left g0 ?_)
    rw [eg, ← Nat.mul_assoc, es]
    exact h
  · intro h
    rw [← eg]
    exact Nat.mul_dvd_mul (Nat.gcd_dvd_left _ _) h
/-- How many of the first n numbers of b by steps of s a row has. -/
def cntX (b s : Nat) (x : Row) : Nat → Nat
  | 0 => 0
  | n + 1 => cntX b s x n + (if hitB x ((b + s * n : Nat) : Int) = true then 1 else 0)
theorem cntX_eq {low b s : Nat} {x : Row} (h : Good low x) (hm : meetB b s x = true) : ∃ c : Int, ∀ n, cntX b s x n = cntD c (part s x) n := by
  obtain ⟨h3, h4⟩ := h.f1
  have ex : x.f1 = ((x.f1.toNat : Nat) : Int) := by omega
  unfold meetB at hm
  rw [decide_eq_true_eq] at hm
  have hv : ((Nat.gcd s x.f1.toNat : Nat) : Int) ∣ x.f0 - (b : Int) := by
    have := Int.dvd_neg.2 hm
    rwa [Int.neg_sub] at this
  obtain ⟨c, hc⟩ := solve2 s (m := x.f1.toNat) (by omega) hv
  refine ⟨c, fun n => ?_⟩
  induction n with
  | zero => rfl
  | succ n ih =>
    rw [cntX, cntD, ih]
    congr 1
    have key : hitB x ((b + s * n : Nat) : Int) = true ↔ ((part s x : Nat) : Int) ∣ (n : Int) - c := by
      unfold hitB
      rw [decide_eq_true_eq, ← part_dvd (by omega), ex, Int.mul_sub, Int.natCast_add, Int.natCast_mul]
      rw [Int.toNat_natCast]
      generalize (s : Int) * (n : Int) = y at *
      generalize (s : Int) * c = z at *
      constructor
      · intro g
        have := Int.dvd_sub g hc
        rwa [show (b : Int) + y - x.f0 - (z - (x.f0 - (b : Int))) = y - z by omega] at this
      · intro g
        have := Int.dvd_add g hc
        rwa [show y - z + (z - (x.f0 - (b : Int))) = (b : Int) + y - x.f0 by omega] at this
    by_cases k : hitB x ((b + s * n : Nat) : Int) = true
    · rw [if_pos k, if_pos (key.1 k)]
    · rw [if_neg k, if_neg (fun g => k (key.2 g))]
def sumX (b s : Nat) : List Row → Nat → Nat
  | [], _ => 0
  | x :: l, n => cntX b s x n + sumX b s l n
theorem sumX_succ (b s n : Nat) : ∀ l : List Row, sumX b s l (n + 1) = sumX b s l n + (l.filter (fun x => hitB x ((b + s * n : Nat) : Int))).length
  | [] => rfl
  | x :: l => by
    rw [sumX, sumX, sumX_succ b s n l, cntX]
    by_cases c : hitB x ((b + s * n : Nat) : Int) = true
    · rw [if_pos c, List.filter_cons_of_pos (p := fun x => hitB x ((b + s * n : Nat) : Int)) c, List.length_cons]
      omega
    · rw [if_neg c, List.filter_cons_of_neg (p := fun x => hitB x ((b + s * n : Nat) : Int)) c]
      omega
theorem sumX_all {b s : Nat} {l : List Row} (h : Exact b s l) : ∀ n, sumX b s l n = n
  | 0 => by
    have : ∀ l : List Row, sumX b s l 0 = 0 := by
      intro l
      induction l with
      | nil => rfl
      | cons x l ih => rw [sumX, ih]; rfl
    exact this l
  | n + 1 => by
    rw [sumX_succ, sumX_all h n, h _ (by
      rw [Int.natCast_add, Int.natCast_mul, show (b : Int) + (s : Int) * (n : Int) - (b : Int) = (s : Int) * (n : Int) by omega]
      exact Int.dvd_mul_right _ _)]
/-- The floor of one over a part, summed up. -/
def flo (s : Nat) : List Row → Nat
  | [] => 0
  | x :: l => MM / part s x + flo s l
theorem fl_append (s : Nat) (x : Row) : ∀ l : List Row, flo s (l ++ [x]) = flo s l + MM / part s x
  | [] => by
    show MM / part s x + 0 = 0 + MM / part s x
    omega
  | y :: l => by
    rw [List.cons_append, flo, flo, fl_append s x l]
    omega
theorem one_fl {low M p : Nat} (hp : 1 ≤ p) (hd : p ∣ low) : M * (low / p) ≤ low * (M / p + 1) := by
  obtain ⟨q, rfl⟩ := hd
  rw [Nat.mul_div_cancel_left q (by omega)]
  have h1 : M ≤ p * (M / p + 1) := by
    have h2 := Nat.div_add_mod M p
    have h3 := Nat.mod_lt M (show 0 < p by omega)
    rw [Nat.mul_add, Nat.mul_one]
    generalize p * (M / p) = z at *
    omega
  have := Nat.mul_le_mul_right q h1
  rw [Nat.mul_comm p q, Nat.mul_assoc]
  rwa [Nat.mul_comm q]
theorem part_low {low s : Nat} {x : Row} (h : Good low x) : part s x ∣ low := Nat.dvd_trans (Nat.div_dvd_of_dvd (Nat.gcd_dvd_right _ _)) h.dv
theorem fl_sum {low b s : Nat} : ∀ l : List Row, (∀ x ∈ l, Good low x ∧ meetB b s x = true) → MM * sumX b s l low ≤ low * (flo s l + l.length)
  | [], _ => Nat.zero_le _
  | x :: l, h => by
    have ih := fl_sum l (fun y hy => h y (List.mem_cons_of_mem _ hy))
    obtain ⟨g, gm⟩ := h x List.mem_cons_self
    obtain ⟨c, hc⟩ := cntX_eq g gm
    have pd := part_low (s := s) g
    have pp := part_pos (s := s) g
    have e : cntX b s x low = low / part s x := by
      obtain ⟨q, hq⟩ := pd
      rw [hc, hq, cnt_mul _ _ pp, Nat.mul_div_cancel_left q (by omega)]
    have h1 := one_fl (M := MM) pp pd
    rw [sumX, flo, List.length_cons, e, Nat.mul_add]
    rw [show MM / part s x + flo s l + (l.length + 1) = (MM / part s x + 1) + (flo s l + l.length) by omega, Nat.mul_add]
    exact Nat.add_le_add h1 ih
theorem fl_one {low b s : Nat} (h1 : 1 ≤ low) {l : List Row} (h : ∀ x ∈ l, Good low x ∧ meetB b s x = true) (hx : Exact b s l) : MM ≤ flo s l + l.length := by
  have := fl_sum l h
  rw [sumX_all hx, Nat.mul_comm] at this
  exact Nat.le_of_mul_le_mul_left this (by omega)
end Go.Proofs.Ytdiaifmlockohaa.Pure
