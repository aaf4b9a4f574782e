/- The law FnMachAt answers true for every machine and number that are drawn. It has no condition. -/
import Derived.Test.YtdbkpmhdjdebhaaQdm
import Derived.Test.YtdbkpmhdjdebhaaG10
import Derived.Test.YtdbkpmhdjdebhaaG14
namespace Go.Proofs.Ytdbkpmhdjdebhaa.Pure
open Go.RowKit Go.Proofs.Ytdbkpmhdjdebhaa.G Go.Proofs.YtdbkpmhdjdebhaaW.PrintWords Go.Proofs.YtdbkpmhdjdebhaaW.PrintLast

theorem drawAt_ev (l0 : List Int) (hw : ∀ x ∈ l0, (Lit.int .u8 x).wf = true) : ∃ l a b n, l.length ≤ 10 ∧ Ev (fun k => spec_DrawMachAt.f k l0) (l, a, b, n) := by
  obtain ⟨s, hs, e⟩ := open_ev l0 hw
  obtain ⟨l, a, b, q, g1, g2, g3⟩ := l91_ev s hs 0 (by omega)
  obtain ⟨r, h0, h1, e1⟩ := pick_ev s hs q 20 (by omega) (by omega)
  obtain ⟨r2, h2, h3, e2⟩ := pick_ev s hs (q + 1) 200 (by omega) (by omega)
  obtain ⟨r3, h4, h5, e3⟩ := pick_ev s hs (q + 1 + 1) 6 (by omega) (by omega)
  refine ⟨l, a, b, rd [r, r2, 1000000, 1000001, (-1), 9999] r3, g1, ?_⟩
  simp only [spec_DrawMachAt.f]
  rw [ev_bind0 e, ev_bind g3, ev_bind e1, ev_bind e2, ev_bind0 rfl, ev_bind e3, ev_pos h4, ev_pos (by simpa using h5), ev_some]
theorem shr_nat (s i : Nat) (hs : s < 2 ^ 62) : shr .i64 (s : Int) (i : Int) = ((s >>> i : Nat) : Int) := by
  unfold shr
  rw [Int.toNat_natCast, show IntKind.i64.bits = 64 from rfl, Nat.shiftRight_eq_div_pow]
  by_cases h : i ≤ 64
  · rw [Nat.min_eq_left h]
    simp
  · rw [Nat.min_eq_right (by omega)]
    have h1 : s / 2 ^ 64 = 0 := Nat.div_eq_of_lt (by omega)
    have h2 : s / 2 ^ i = 0 := Nat.div_eq_of_lt (Nat.lt_of_lt_of_le (by omega : s < 2 ^ 64) (Nat.pow_le_pow_right (by decide) (by omega)))
    rw [h2]
    have : ((s : Int) / 2 ^ 64) = ((s / 2 ^ 64 : Nat) : Int) := by simp
    rw [this, h1]
theorem odd_test (s i : Nat) (hs : s < 2 ^ 62) : (Int.tmod (shr .i64 (s : Int) (i : Int)) 2 = 1) ↔ s.testBit i = true := by
  rw [shr_nat s i hs, show (2 : Int) = ((2 : Nat) : Int) from rfl, ← Int.ofNat_tmod, Nat.testBit_eq_decide_div_mod_eq, decide_eq_true_eq, Nat.shiftRight_eq_div_pow]
  omega
theorem lawAt_l0 {l : List Int} {a b : Int} (h : MOk l a b) (s : Nat) (hs : s < 2 ^ 62) (n v : Int) (c : Bool) (hn : n > 0 ∨ (s : Int) = a) (d : Nat) : ∀ (i out : Nat), l.length - i = d → i ≤ l.length → out < 2 ^ l.length → (c = true → v = (nextL (l.drop i) s i out : Int)) →
    Ev (fun k => laws_FnMachAt.l0 k n (s : Int) v c (out : Int) (i : Int) l a b) true := by
  have h5 := h.n5
  have hp : 2 ^ l.length ≤ 2 ^ 5 := Nat.pow_le_pow_right (by decide) h.n5
  induction d with
  | zero =>
    intro i out hd hi ho hv
    have last : Ev (fun _ : Nat => if n > 0 then some true else some ((s : Int) == a)) true := by
      by_cases k : n > 0
      · rw [ev_pos k, ev_some]
      · rw [ev_neg k, ev_some]
        rcases hn with z | z
        · exact absurd z k
        · simpa using z
    rw [ev_step (fun k => by rw [laws_FnMachAt.l0]), ev_neg (by omega)]
    by_cases hc : c = true
    · have := hv hc
      rw [List.drop_of_length_le (by omega)] at this
      rw [ev_pos hc, ev_pos (show v = (out : Int) from this)]
      exact last
    · rw [ev_neg hc]
      exact last
  | succ d ih =>
    intro i out hd hi ho hv
    have hi2 : i < l.length := by omega
    have hx := h.st _ (List.getElem_mem hi2)
    rw [List.drop_eq_getElem_cons hi2] at hv
    rw [ev_step (fun k => by rw [laws_FnMachAt.l0]), ev_pos (by omega), ev_pos (by omega), rd_get hi2, wrap_in _ (by omega)]
    by_cases hb : s.testBit i = true
    · rw [ev_pos ((odd_test s i hs).2 hb)]
      have e : Go.bits .or .i64 (out : Int) l[i] = ((out ||| l[i].toNat : Nat) : Int) := by
        have := bits64_or out l[i].toNat (by omega) (by omega)
        rwa [Int.toNat_of_nonneg hx.1] at this
      rw [e]
      refine ih (i + 1) (out ||| l[i].toNat) (by omega) (by omega) (Nat.or_lt_two_pow ho hx.2) (fun z => ?_)
      have := hv z
      simp only [nextL, hb, if_true] at this
      exact this
    · rw [ev_neg (fun k => hb ((odd_test s i hs).1 k))]
      refine ih (i + 1) out (by omega) (by omega) ho (fun z => ?_)
      have := hv z
      simp only [nextL, hb] at this
      exact this
theorem FnMachAt : laws_FnMachAt.Pure := by
  intro l0 hm _ hw
  refine Ev.rounds ?_
  simp only [laws_FnMachAt.f]
  by_cases c : (l0.length : Int) > 1048576
  · rw [ev_pos c, ev_some]
  obtain ⟨l, a, b, n, h1, e⟩ := drawAt_ev l0 hw
  rw [ev_neg c, ev_bind e, ev_bind (impl_machAt_ev l a b n), ev_bind (spec_machAt_ev l a b n (by omega)), ev_pos rfl, ev_step (fun k => by rw [laws_FnMachAt.j0]), ev_pos (by simp), ev_step (fun k => by rw [laws_FnMachAt.j1])]
  by_cases h : machB l a b = true ∧ (0 ≤ n ∧ n ≤ 1000000)
  · obtain ⟨h2, h3⟩ := h
    have hM := mOk h2
    have h5 := hM.n5
    have hp : 2 ^ l.length ≤ 2 ^ 5 := Nat.pow_le_pow_right (by decide) hM.n5
    have hA : atC l a b n = ((atN l a.toNat n.toNat : Int), true) := by unfold atC; rw [if_pos ⟨h2, h3⟩]
    have hlt := atN_lt hM hM.a1 n.toNat
    have wn : wrap64 (n + 1) = n + 1 := wrap_in _ (by omega)
    rw [hA, ev_neg (by simp), wn, ev_bind (impl_machAt_ev l a b (n + 1))]
    refine lawAt_l0 hM _ (by omega) n _ _ ?_ l.length 0 0 (by omega) (by omega) (Nat.two_pow_pos _) ?_
    · by_cases z : n > 0
      · exact Or.inl z
      · right
        rw [show n.toNat = 0 by omega]
        exact Int.toNat_of_nonneg hM.a0
    · intro z
      unfold atC at z ⊢
      by_cases q : machB l a b = true ∧ (0 ≤ n + 1 ∧ n + 1 ≤ 1000000)
      · rw [if_pos q, show (n + 1).toNat = n.toNat + 1 by omega]
        rfl
      · rw [if_neg q] at z
        exact absurd z (by decide)
  · have hA : atC l a b n = (0, false) := by unfold atC; rw [if_neg h]
    rw [hA, ev_pos (by simp), ev_some]
    rfl
end Go.Proofs.Ytdbkpmhdjdebhaa.Pure
