/- Rows that have each number just once: the common multiple of their steps isn't over 60000. -/
import Derived.Test.YtdiaifmlockohaaQsimp2
namespace Go.Proofs.Ytdiaifmlockohaa.Pure

def lev (ds : List Nat) (p : Nat) : Nat → Nat
  | 0 => 0
  | e + 1 => if ds.any (fun d => decide (p ^ (e + 1) ∣ d)) = true then e + 1 else lev ds p e
theorem lev_le (ds : List Nat) (p : Nat) : ∀ A, lev ds p A ≤ A
  | 0 => Nat.le_refl _
  | e + 1 => by
    have := lev_le ds p e
    rw [lev]
    split <;> omega
theorem lev_pres {ds : List Nat} {p j : Nat} (h1 : 1 ≤ j) : ∀ A, j ≤ lev ds p A → ∃ d ∈ ds, p ^ j ∣ d
  | 0, h => by rw [lev] at h; omega
  | e + 1, h => by
    rw [lev] at h
    by_cases c : ds.any (fun d => decide (p ^ (e + 1) ∣ d)) = true
    · rw [if_pos c] at h
      rw [List.any_eq_true] at c
      obtain ⟨d, hd, g⟩ := c
      rw [decide_eq_true_eq] at g
      exact ⟨d, hd, Nat.dvd_trans (Nat.pow_dvd_pow p h) g⟩
    · rw [if_neg c] at h
      exact lev_pres h1 e h
theorem lev_ge {ds : List Nat} {p j d : Nat} (hd : d ∈ ds) (hj : p ^ j ∣ d) : ∀ A, j ≤ A → j ≤ lev ds p A
  | 0, h => by omega
  | e + 1, h => by
    rw [lev]
    by_cases c : ds.any (fun d => decide (p ^ (e + 1) ∣ d)) = true
    · rw [if_pos c]
      exact h
    · rw [if_neg c]
      refine lev_ge hd hj e ?_
      by_cases g : j = e + 1
      · subst g
        exact absurd (List.any_eq_true.2 ⟨d, hd, decide_eq_true hj⟩) c
      · omega
theorem lev_mono {ds : List Nat} {p d A : Nat} (hd : d ∈ ds) : lev [d] p A ≤ lev ds p A := by
  by_cases c : lev [d] p A = 0
  · omega
  · obtain ⟨e, he, g⟩ := lev_pres (j := lev [d] p A) (by omega) A (Nat.le_refl _)
    rw [List.mem_singleton] at he
    subst he
    exact lev_ge hd g A (lev_le _ _ _)
def vecOf (ds : List Nat) : Nat → Nat := mk (lev ds 2 5) (lev ds 3 3) (lev ds 5 2) (lev ds 7 2) (lev ds 11 1) (lev ds 13 1) (lev ds 17 1) (lev ds 19 1)
theorem vec_lev (ds : List Nat) : ∀ p ∈ primes, vecOf ds p = lev ds p (top p) := by
  intro p hp
  unfold primes at hp
  simp only [List.mem_cons, List.not_mem_nil, or_false] at hp
  rcases hp with rfl | rfl | rfl | rfl | rfl | rfl | rfl | rfl <;> rfl
def factOk : Bool := upto.all fun d => greats.any (fun p => decide (p ∣ d)) || decide (d = prodV (vecOf [d]))
theorem fact_ok : factOk = true := by decide +kernel
theorem prodV_dvd {u v : Nat → Nat} (h : ∀ p ∈ primes, u p ≤ v p) : prodV u ∣ prodV v := by
  unfold prodV
  have g : ∀ p ∈ primes, p ^ u p ∣ p ^ v p := fun p hp => Nat.pow_dvd_pow p (h p hp)
  exact Nat.mul_dvd_mul (Nat.mul_dvd_mul (Nat.mul_dvd_mul (Nat.mul_dvd_mul (Nat.mul_dvd_mul (Nat.mul_dvd_mul (Nat.mul_dvd_mul (g 2 (by decide)) (g 3 (by decide))) (g 5 (by decide))) (g 7 (by decide))) (g 11 (by decide))) (g 13 (by decide))) (g 17 (by decide))) (g 19 (by decide))
theorem prodV_pos (v : Nat → Nat) : 1 ≤ prodV v := by
  unfold prodV
  have g : ∀ p n : Nat, 0 < p → 0 < p ^ n := fun p n h => Nat.pow_pos h
  exact Nat.mul_pos (Nat.mul_pos (Nat.mul_pos (Nat.mul_pos (Nat.mul_pos (Nat.mul_pos (Nat.mul_pos (g _ _ (by decide)) (g _ _ (by decide))) (g _ _ (by decide))) (g _ _ (by decide))) (g _ _ (by decide))) (g _ _ (by decide))) (g _ _ (by decide))) (g _ _ (by decide))
theorem once_small {rs : List Pr} (H : Once rs) : ∃ B, B ≤ 60000 ∧ 1 ≤ B ∧ ∀ r ∈ rs, r.2 ∣ B := by
  have hg : ∀ p ∈ greats, ¬ Pres rs p := by
    intro p hp h
    have := greats_ok
    rw [List.all_eq_true] at this
    exact cert_false H (this p hp) (fun t ht => by rw [List.mem_singleton] at ht; rw [ht]; exact h)
  refine ⟨prodV (vecOf (rs.map fun r => r.2)), ?_, prodV_pos _, fun r hr => ?_⟩
  · have h := all_vecs
    unfold allVecs at h
    have l : ∀ p A n, A < n → lev (rs.map fun r => r.2) p A ∈ List.range n := fun p A n h => List.mem_range.2 (Nat.lt_of_le_of_lt (lev_le _ _ _) h)
    have h := List.all_eq_true.1 h _ (l 2 5 6 (by decide))
    have h := List.all_eq_true.1 h _ (l 3 3 4 (by decide))
    have h := List.all_eq_true.1 h _ (l 5 2 3 (by decide))
    have h := List.all_eq_true.1 h _ (l 7 2 3 (by decide))
    have h := List.all_eq_true.1 h _ (l 11 1 2 (by decide))
    have h := List.all_eq_true.1 h _ (l 13 1 2 (by decide))
    have h := List.all_eq_true.1 h _ (l 17 1 2 (by decide))
    have h := List.all_eq_true.1 h _ (l 19 1 2 (by decide))
    change vecOk us (vecOf (rs.map fun r => r.2)) = true at h
    unfold vecOk at h
    rw [Bool.or_eq_true, decide_eq_true_eq, List.any_eq_true] at h
    rcases h with h | ⟨u, hu, h⟩
    · exact h
    · exfalso
      unfold us at hu
      rw [List.mem_map] at hu
      obtain ⟨c, hc, rfl⟩ := hu
      have k := List.all_eq_true.1 certs_ok c hc
      rw [Bool.and_eq_true, List.all_eq_true] at k
      refine cert_false H k.1 fun t ht => ?_
      unfold tsOf at ht
      rw [List.mem_map] at ht
      obtain ⟨x, hx, rfl⟩ := ht
      have k2 := k.2 x hx
      rw [Bool.and_eq_true, decide_eq_true_eq, decide_eq_true_eq] at k2
      have k3 := List.all_eq_true.1 h x hx
      rw [decide_eq_true_eq, vec_lev _ _ k2.1] at k3
      obtain ⟨d, hd, g⟩ := lev_pres k2.2 _ k3
      rw [List.mem_map] at hd
      obtain ⟨r, hr, rfl⟩ := hd
      exact ⟨r, hr, g⟩
  · have f := List.all_eq_true.1 fact_ok r.2 (mem_upto (H.ste r hr))
    rw [Bool.or_eq_true, decide_eq_true_eq, List.any_eq_true] at f
    rcases f with ⟨p, hp, f⟩ | f
    · rw [decide_eq_true_eq] at f
      exact absurd ⟨r, hr, f⟩ (hg p hp)
    · refine Nat.dvd_trans (by rw [← f]; exact Nat.dvd_refl _) (prodV_dvd (u := vecOf [r.2]) fun p hp => ?_)
      rw [vec_lev _ _ hp, vec_lev _ _ hp]
      exact lev_mono (List.mem_map_of_mem hr)
end Go.Proofs.Ytdiaifmlockohaa.Pure
