/- Counting: how many numbers below a common multiple rows have. -/
import Derived.Test.YtdiaifmlockohaaQcov
import Derived.Test.YtdiaifmlockohaaQshare
namespace Go.Proofs.Ytdiaifmlockohaa.Pure
open Go.RowKit Go.Proofs.Ytdiaifmlockohaa.G Go.Proofs.YtdiaifmlockohaaW.PrintWords Go.Proofs.YtdiaifmlockohaaW.PrintLast

/-- How many numbers below n are c by steps of d. -/
def cntD (c : Int) (d : Nat) : Nat → Nat
  | 0 => 0
  | n + 1 => cntD c d n + (if (d : Int) ∣ (n : Int) - c then 1 else 0)
theorem hit_iff {c : Int} {d N j : Nat} (hj : j < d) : (d : Int) ∣ ((N + j : Nat) : Int) - c ↔ (j : Int) = (c - (N : Int)) % (d : Int) := by
  have hd : (0 : Int) < (d : Int) := by omega
  have e : (j : Int) % (d : Int) = (j : Int) := Int.emod_eq_of_lt (by omega) (by omega)
  have e2 : ((N + j : Nat) : Int) - c = (j : Int) - (c - (N : Int)) := by omega
  rw [e2, Int.dvd_iff_emod_eq_zero, ← Int.emod_eq_emod_iff_emod_sub_eq_zero, e]
theorem cnt_win (c : Int) (d N : Nat) (hd : 1 ≤ d) : ∀ w, w ≤ d → cntD c d (N + w) = cntD c d N + (if (c - (N : Int)) % (d : Int) < (w : Int) then 1 else 0)
  | 0, h => by
    have : 0 ≤ (c - (N : Int)) % (d : Int) := Int.emod_nonneg _ (by omega)
    rw [if_neg (by omega)]
    rfl
  | w + 1, h => by
    have ih := cnt_win c d N hd w (by omega)
    have hm : 0 ≤ (c - (N : Int)) % (d : Int) := Int.emod_nonneg _ (by omega)
    rw [← Nat.add_assoc, cntD, ih]
    by_cases g : (d : Int) ∣ ((N + w : Nat) : Int) - c
    · have e := (hit_iff (by omega)).1 g
      rw [if_pos g, if_neg (by omega), if_pos (by omega)]
    · have e : ¬ (w : Int) = (c - (N : Int)) % (d : Int) := fun z => g ((hit_iff (by omega)).2 z)
      rw [if_neg g]
      by_cases k : (c - (N : Int)) % (d : Int) < (w : Int)
      · rw [if_pos k, if_pos (by omega)]
      · rw [if_neg k, if_neg (by omega)]
theorem cnt_mul (c : Int) (d : Nat) (hd : 1 ≤ d) : ∀ q, cntD c d (d * q) = q
  | 0 => rfl
  | q + 1 => by
    have hm : (c - ((d * q : Nat) : Int)) % (d : Int) < (d : Int) := Int.emod_lt_of_pos _ (by omega)
    rw [Nat.mul_succ, cnt_win c d (d * q) hd d (Nat.le_refl _), cnt_mul c d hd q, if_pos hm]
def sumD : List Row → Nat → Nat
  | [], _ => 0
  | x :: l, n => cntD x.f0 x.f1.toNat n + sumD l n
theorem sumD_step : ∀ (xs : List Row) (n : Nat), sumD xs n ≤ sumD xs (n + 1)
  | [], _ => Nat.le_refl _
  | x :: l, n => by
    have := sumD_step l n
    rw [sumD, sumD, cntD]
    omega
theorem sumD_hit : ∀ (xs : List Row) (n : Nat), (∃ x ∈ xs, ((x.f1.toNat : Nat) : Int) ∣ (n : Int) - x.f0) → sumD xs n + 1 ≤ sumD xs (n + 1)
  | [], _, h => by obtain ⟨x, hx, _⟩ := h; cases hx
  | x :: l, n, h => by
    obtain ⟨y, hy, hd⟩ := h
    rw [sumD, sumD, cntD]
    rcases List.mem_cons.1 hy with rfl | hy
    · have := sumD_step l n
      rw [if_pos hd]
      omega
    · have := sumD_hit l n ⟨y, hy, hd⟩
      omega
theorem sumD_all {xs : List Row} (h : ∀ n : Nat, ∃ x ∈ xs, ((x.f1.toNat : Nat) : Int) ∣ (n : Int) - x.f0) : ∀ n, n ≤ sumD xs n
  | 0 => Nat.zero_le _
  | n + 1 => by
    have ih := sumD_all h n
    have := sumD_hit xs n (h n)
    omega
theorem sumD_up {low : Nat} : ∀ (xs : List Row), (∀ x ∈ xs, Good low x) → sumD xs low = upL low (natSteps xs)
  | [], _ => rfl
  | x :: l, h => by
    have ih := sumD_up l (fun y hy => h y (List.mem_cons_of_mem _ hy))
    have g := h x List.mem_cons_self
    obtain ⟨h3, h4⟩ := g.f1
    obtain ⟨q, hq⟩ := g.dv
    have e : low / x.f1.toNat = q := by rw [hq]; exact Nat.mul_div_cancel_left q (by omega)
    show cntD x.f0 x.f1.toNat low + sumD l low = low / x.f1.toNat + upL low (natSteps l)
    rw [ih, e, hq, cnt_mul _ _ (by omega), ← hq]
theorem mul_dvd : ∀ (l : List Nat) (m low : Nat), mulL l m = some low → m ∣ low ∧ ∀ s ∈ l, s ∣ low
  | [], m, low, h => by
    rw [mulL, Option.some.injEq] at h
    exact ⟨by rw [h]; exact Nat.dvd_refl _, fun s hs => by cases hs⟩
  | t :: l, m, low, h => by
    rw [mulL] at h
    by_cases c : Nat.lcm m t > 1000000
    · rw [if_pos c] at h
      cases h
    · rw [if_neg c] at h
      obtain ⟨h1, h2⟩ := mul_dvd l _ low h
      refine ⟨Nat.dvd_trans (Nat.dvd_lcm_left m t) h1, fun s hs => ?_⟩
      rcases List.mem_cons.1 hs with rfl | hs
      · exact Nat.dvd_trans (Nat.dvd_lcm_right m _) h1
      · exact h2 s hs
theorem keep_good {l : List (List Int)} {low : Nat} (ok : rowsOk l = true) (h : ∀ s ∈ stepsL l, s ∣ low) : ∀ x ∈ keep (l.map rowOf), Good low x := by
  intro x hx
  obtain ⟨k1, k2⟩ := keep_steps l ok
  obtain ⟨s, h1, h2, h3⟩ := k2 x hx
  have hs : s ∈ stepsL l := by
    rw [← k1]
    unfold natSteps
    rw [List.mem_map]
    exact ⟨x, hx, by rw [h1, Int.toNat_natCast]⟩
  have h0 : 0 ≤ x.f0 ∧ x.f0 ≤ 59 := by
    unfold keep at hx
    rw [List.mem_filter, List.mem_map] at hx
    obtain ⟨⟨r, hr, rfl⟩, _⟩ := hx
    unfold rowsOk at ok
    rw [List.all_eq_true] at ok
    have := ok r hr
    rw [decide_eq_true_eq] at this
    exact this.2.1
  exact ⟨h0, by omega, by rw [h1, Int.toNat_natCast]; exact h s hs⟩
end Go.Proofs.Ytdiaifmlockohaa.Pure
