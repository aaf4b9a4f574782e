/- The law FnSetBelow answers true for every two texts that are drawn. It has no condition. -/
import Derived.Test.YtbkmafdnnjabhaaQset5
import Derived.Test.YtbkmafdnnjabhaaQset6
import Derived.Test.YtbkmafdnnjabhaaQcomes
import Derived.Test.YtbkmafdnnjabhaaQin
import Derived.Test.YtbkmafdnnjabhaaQsetd
import Derived.Test.YtbkmafdnnjabhaaG21
import Derived.Test.YtbkmafdnnjabhaaG26
namespace Go.Proofs.Ytbkmafdnnjabhaa.Pure
open Go.RowKit Go.Proofs.Ytbkmafdnnjabhaa.G Go.Proofs.YtbkmafdnnjabhaaW.PrintWords Go.Proofs.YtbkmafdnnjabhaaW.PrintLast

theorem subN_iff {p q : Nat → Bool} : ∀ {d i : Nat}, subN p q d i = true ↔ ∀ m, i ≤ m → m < i + d → p m = true → q m = true
  | 0, i => by
    rw [subN]
    constructor
    · intro _ m h1 h2
      omega
    · intro _
      rfl
  | d + 1, i => by
    rw [subN]
    have ih := subN_iff (p := p) (q := q) (d := d) (i := i + 1)
    constructor
    · intro h m h1 h2 h3
      by_cases e : m = i
      · subst e
        rw [if_pos h3] at h
        by_cases c : q m = true
        · exact c
        · rw [if_neg c] at h
          cases h
      · by_cases c : p i = true
        · rw [if_pos c] at h
          by_cases c2 : q i = true
          · rw [if_pos c2] at h
            exact ih.1 h m (by omega) (by omega) h3
          · rw [if_neg c2] at h
            cases h
        · rw [if_neg c] at h
          exact ih.1 h m (by omega) (by omega) h3
    · intro h
      have h2 := ih.2 (fun m h1 h2 h3 => h m (by omega) (by omega) h3)
      by_cases c : p i = true
      · rw [if_pos c, if_pos (h i (Nat.le_refl _) (by omega) c)]
        exact h2
      · rw [if_neg c]
        exact h2
theorem lcm_left (a b : Nat) : ∃ k, lcmN a b = b * k := ⟨a / Nat.gcd a b, by unfold lcmN; rw [Nat.mul_comm]⟩
theorem lcm_right (a b : Nat) : ∃ k, lcmN a b = a * k := by
  obtain ⟨x, hx⟩ := Nat.gcd_dvd_left a b
  obtain ⟨y, hy⟩ := Nat.gcd_dvd_right a b
  rcases Nat.eq_zero_or_pos (Nat.gcd a b) with h0 | h0
  · refine ⟨0, ?_⟩
    unfold lcmN
    rw [h0]
    simp
  · refine ⟨y, ?_⟩
    unfold lcmN
    generalize Nat.gcd a b = g at hx hy h0
    subst hx hy
    rw [Nat.mul_div_cancel_left _ h0, Nat.mul_left_comm]
    rw [Nat.mul_assoc]
theorem lcm_mul (a b : Nat) : lcmN a b ≤ a * b := Nat.mul_le_mul_right _ (Nat.div_le_self _ _)
theorem sub_all {t r u v : List Bool} (h : SOk t r) (g : SOk u v) (hs : t.length + r.length ≤ 10) (gs : u.length + v.length ≤ 10) :
    subN (hasN t r) (hasN u v) 151 0 = subN (hasN t r) (hasN u v) (mxN t.length u.length + lcmN r.length v.length) 0 := by
  have r1 := h.r1
  have v1 := g.r1
  have hL : lcmN r.length v.length ≤ 100 := Nat.le_trans (lcm_mul _ _) (Nat.mul_le_mul (show r.length ≤ 10 by omega) (show v.length ≤ 10 by omega))
  have hM : mxN t.length u.length ≤ 9 := by
    unfold mxN
    split <;> omega
  have hMt : t.length ≤ mxN t.length u.length ∧ u.length ≤ mxN t.length u.length := by
    unfold mxN
    split <;> omega
  obtain ⟨k1, e1⟩ := lcm_right r.length v.length
  obtain ⟨k2, e2⟩ := lcm_left r.length v.length
  have c1 : Comes (hasN t r) (mxN t.length u.length) (lcmN r.length v.length) := by
    rw [e1]
    exact ((hasN_comes t r).le hMt.1).mul k1
  have c2 : Comes (hasN u v) (mxN t.length u.length) (lcmN r.length v.length) := by
    rw [e2]
    exact ((hasN_comes u v).le hMt.2).mul k2
  have hpos : 1 ≤ lcmN r.length v.length := by
    unfold lcmN
    have hg : 0 < Nat.gcd r.length v.length := Nat.gcd_pos_of_pos_left _ (by omega)
    have hd : 0 < r.length / Nat.gcd r.length v.length := Nat.div_pos (Nat.le_of_dvd (by omega) (Nat.gcd_dvd_left _ _)) hg
    exact Nat.mul_pos hd (by omega)
  generalize mxN t.length u.length = M at hM c1 c2
  generalize lcmN r.length v.length = L at hL c1 c2 hpos
  rw [Bool.eq_iff_iff, subN_iff, subN_iff]
  constructor
  · intro a m g1 g2
    exact a m g1 (by omega)
  · intro a m _ _
    induction m using Nat.strongRecOn with
    | _ m ih =>
      intro hp
      by_cases c : m < M + L
      · exact a m (Nat.zero_le _) (by omega) hp
      · have d1 := c1 (m - L) (by omega)
        have d2 := c2 (m - L) (by omega)
        rw [show m - L + L = m by omega] at d1 d2
        rw [d2]
        rw [d1] at hp
        exact ih (m - L) (by omega) (Nat.zero_le _) (by omega) hp
theorem below_l0 {a b : ByteArray} {t r u v : List Bool} (ha : a.size ≤ 1048576) (hb : b.size ≤ 1048576) (h : setC a.data.toList = some (t, r)) (g : setC b.data.toList = some (u, v)) (x : Bool) (d : Nat) : ∀ (i : Nat) (w : Bool), 151 - i = d → i ≤ 151 →
    Ev (fun k => laws_FnSetBelow.l0 k a b x w (i : Int)) ((w && subN (hasN t r) (hasN u v) d i) == x) := by
  induction d with
  | zero =>
    intro i w hd hi
    rw [ev_step (fun k => by rw [laws_FnSetBelow.l0]), ev_neg (by omega), ev_some, subN, Bool.and_true]
  | succ d ih =>
    intro i w hd hi
    rw [ev_step (fun k => by rw [laws_FnSetBelow.l0]), ev_pos (by omega), wrap_in ((i : Int) + 1) (by omega)]
    cases w with
    | false =>
      rw [ev_neg (by decide)]
      have := ih (i + 1) false (by omega) (by omega)
      rw [Bool.false_and] at this ⊢
      exact this
    | true =>
      rw [ev_pos rfl, ev_bind0 (setHas_some ha h i (by omega)), subN, Bool.true_and]
      by_cases p : hasN t r i = true
      · rw [ev_pos p, ev_bind0 (setHas_some hb g i (by omega)), if_pos p]
        have := ih (i + 1) (hasN u v i) (by omega) (by omega)
        by_cases q : hasN u v i = true
        · rw [if_pos q]
          rw [q] at this ⊢
          rw [Bool.true_and] at this
          exact this
        · rw [if_neg q]
          rw [Bool.eq_false_iff.2 q] at this ⊢
          rw [Bool.false_and] at this
          exact this
      · rw [ev_neg p, if_neg p]
        have := ih (i + 1) true (by omega) (by omega)
        rw [Bool.true_and] at this
        exact this
theorem FnSetBelow : laws_FnSetBelow.Pure := by
  intro l0 hm _ hw
  refine Ev.rounds ?_
  simp only [laws_FnSetBelow.f]
  by_cases c : (l0.length : Int) > 1048576
  · rw [ev_pos c, ev_some]
  obtain ⟨s, hs0, e⟩ := open_ev l0 hw
  obtain ⟨a, q, g1, g2, g3⟩ := dset_ev s hs0 0 (by omega)
  obtain ⟨b, q2, h1, h2, h3⟩ := dset_ev s hs0 q (by omega)
  have ha : a.size ≤ 1048576 := by omega
  have hb : b.size ≤ 1048576 := by omega
  have d : Ev (fun k => spec_DrawSetBelow.f k l0) (a, b) := by
    simp only [spec_DrawSetBelow.f]
    rw [ev_bind0 e, ev_bind g3, ev_bind h3, ev_some]
  rw [ev_neg c, ev_bind d, ev_bind (impl_below_ev a b ha hb), ev_bind (spec_below_ev a b ha hb), ev_pos (by simp), ev_bind0 (setIn_eq a ha)]
  cases hc : setC a.data.toList with
  | none =>
    rw [ev_neg (by simp), ev_step (fun k => by rw [laws_FnSetBelow.j0]), ev_pos (by decide), ev_some]
    simp
  | some p =>
    obtain ⟨t, r⟩ := p
    rw [ev_pos (by rfl), ev_bind0 (setIn_eq b hb)]
    cases hd : setC b.data.toList with
    | none =>
      rw [ev_step (fun k => by rw [laws_FnSetBelow.j0]), ev_pos (by rfl), ev_some]
      simp
    | some p =>
      obtain ⟨u, v⟩ := p
      have k1 := setC_small hc
      have k2 := setC_small hd
      rw [ev_step (fun k => by rw [laws_FnSetBelow.j0]), ev_neg (by simp)]
      have := below_l0 ha hb hc hd (belowS a.data.toList b.data.toList) 151 0 true rfl (by omega)
      have e2 : belowS a.data.toList b.data.toList = subN (hasN t r) (hasN u v) 151 0 := by
        unfold belowS
        rw [hc, hd]
        exact (sub_all (setC_ok hc) (setC_ok hd) (by omega) (by omega)).symm
      rw [Bool.true_and, ← e2, beq_self_eq_true] at this
      exact this
end Go.Proofs.Ytbkmafdnnjabhaa.Pure
