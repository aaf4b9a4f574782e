/- The law FnMachBoth answers true for every two machines that are drawn. It has no condition. -/
import Derived.Test.YtbgjehgfaakfdaaQdm
import Derived.Test.YtbgjehgfaakfdaaQboth
import Derived.Test.YtbgjehgfaakfdaaQmachN
import Derived.Test.YtbgjehgfaakfdaaQsame
import Derived.Test.YtbgjehgfaakfdaaG10
import Derived.Test.YtbgjehgfaakfdaaG11
import Derived.Test.YtbgjehgfaakfdaaG12
namespace Go.Proofs.Ytbgjehgfaakfdaa.Pure
open Go.RowKit Go.Proofs.Ytbgjehgfaakfdaa.G Go.Proofs.YtbgjehgfaakfdaaW.PrintWords Go.Proofs.YtbgjehgfaakfdaaW.PrintLast

/-- The machine of pairs is one. -/
theorem both_ok {l m : List Int} {a b c e : Int} (h : BOk l a b m c e) : MOk (stepsP l m (l.length * m.length)) (prA m.length a.toNat c.toNat (l.length * m.length) : Int) (prA m.length b.toNat e.toNat (l.length * m.length) : Int) := by
  have h1 := Nat.mul_le_mul h.f.n1 h.s.n1
  refine ⟨by rw [stepsP_len]; exact h1, by rw [stepsP_len]; exact h.le, fun x hx => ?_, by omega, by rw [stepsP_len, Int.toNat_natCast]; exact prA_lt _ _ _ _, by omega, by rw [stepsP_len, Int.toNat_natCast]; exact prA_lt _ _ _ _⟩
  unfold stepsP at hx
  rw [List.mem_map] at hx
  obtain ⟨p, _, rfl⟩ := hx
  refine ⟨by omega, ?_⟩
  rw [stepsP_len, Int.toNat_natCast]
  exact prA_lt _ _ _ _
theorem steps_nb {l m : List Int} {c p j : Nat} (hp : p < c) : nb (stepsP l m c) p j = (prA m.length (gt l (p / m.length)) (gt m (p % m.length)) (l.length * m.length)).testBit j := by
  unfold nb stepsP
  rw [List.getD_eq_getElem?_getD, List.getElem?_map, List.getElem?_range hp]
  simp
/-- One step of both is a step of each. -/
theorem next_both {l m : List Int} {a b c e : Int} (h : BOk l a b m c e) {s t : Nat} (hs : s < 2 ^ l.length) (ht : t < 2 ^ m.length) :
    nextN (stepsP l m (l.length * m.length)) (prA m.length s t (l.length * m.length)) = prA m.length (nextN l s) (nextN m t) (l.length * m.length) := by
  have hn := h.s.n1
  refine Nat.eq_of_testBit_eq fun j => ?_
  rw [Bool.eq_iff_iff, nextN_bit, prA_bit, Bool.and_eq_true, Bool.and_eq_true, decide_eq_true_eq, nextN_bit, nextN_bit]
  constructor
  · rintro ⟨p, h1, h2, h3⟩
    rw [stepsP_len] at h1
    rw [steps_nb h1, prA_bit, Bool.and_eq_true, Bool.and_eq_true, decide_eq_true_eq] at h3
    rw [prA_bit, Bool.and_eq_true, Bool.and_eq_true] at h2
    exact ⟨h3.1, ⟨p / m.length, bit_lt hs h2.2.1, h2.2.1, h3.2.1⟩, ⟨p % m.length, bit_lt ht h2.2.2, h2.2.2, h3.2.2⟩⟩
  · rintro ⟨h1, ⟨x, x1, x2, x3⟩, ⟨y, y1, y2, y3⟩⟩
    have e1 : (x * m.length + y) / m.length = x := by
      rw [Nat.mul_comm, Nat.mul_add_div (by omega), Nat.div_eq_of_lt y1, Nat.add_zero]
    have e2 : (x * m.length + y) % m.length = y := by
      rw [Nat.mul_comm, Nat.mul_add_mod, Nat.mod_eq_of_lt y1]
    have hlt : x * m.length + y < l.length * m.length := by
      have : (x + 1) * m.length ≤ l.length * m.length := Nat.mul_le_mul_right _ x1
      rw [Nat.add_mul] at this
      omega
    refine ⟨x * m.length + y, by rw [stepsP_len]; exact hlt, ?_, ?_⟩
    · rw [prA_bit, e1, e2, decide_eq_true hlt, x2, y2]
      rfl
    · rw [steps_nb hlt, prA_bit, e1, e2, decide_eq_true h1]
      have g1 : (gt l x).testBit (j / m.length) = true := x3
      have g2 : (gt m y).testBit (j % m.length) = true := y3
      rw [g1, g2]
      rfl
theorem at_both {l m : List Int} {a b c e : Int} (h : BOk l a b m c e) : ∀ k, atN (stepsP l m (l.length * m.length)) (prA m.length a.toNat c.toNat (l.length * m.length)) k = prA m.length (atN l a.toNat k) (atN m c.toNat k) (l.length * m.length)
  | 0 => rfl
  | k + 1 => by
    show nextN _ (atN _ _ k) = prA m.length (nextN l (atN l a.toNat k)) (nextN m (atN m c.toNat k)) _
    rw [at_both h k, next_both h (atN_lt h.f h.f.a1 k) (atN_lt h.s h.s.a1 k)]
theorem meet_both {la n s t x y : Nat} (hn : 1 ≤ n) (hs : s < 2 ^ la) (ht : t < 2 ^ n) : prA n s t (la * n) &&& prA n x y (la * n) ≠ 0 ↔ s &&& x ≠ 0 ∧ t &&& y ≠ 0 := by
  rw [meets_iff, meets_iff, meets_iff]
  constructor
  · rintro ⟨j, h1, h2⟩
    rw [prA_bit, Bool.and_eq_true, Bool.and_eq_true] at h1 h2
    exact ⟨⟨j / n, h1.2.1, h2.2.1⟩, ⟨j % n, h1.2.2, h2.2.2⟩⟩
  · rintro ⟨⟨i, h1, h2⟩, ⟨k, h3, h4⟩⟩
    have hi := bit_lt hs h1
    have hk := bit_lt ht h3
    have e1 : (i * n + k) / n = i := by
      rw [Nat.mul_comm, Nat.mul_add_div (by omega), Nat.div_eq_of_lt hk, Nat.add_zero]
    have e2 : (i * n + k) % n = k := by
      rw [Nat.mul_comm, Nat.mul_add_mod, Nat.mod_eq_of_lt hk]
    have hlt : i * n + k < la * n := by
      have : (i + 1) * n ≤ la * n := Nat.mul_le_mul_right _ hi
      rw [Nat.add_mul] at this
      omega
    refine ⟨i * n + k, ?_, ?_⟩
    · rw [prA_bit, e1, e2, decide_eq_true hlt, h1, h3]
      rfl
    · rw [prA_bit, e1, e2, decide_eq_true hlt, h2, h4]
      rfl
theorem takes_both {l m : List Int} {a b c e : Int} (h : BOk l a b m c e) (k : Nat) (hk : k ≤ 1000000) : takesC (stepsP l m (l.length * m.length)) (prA m.length a.toNat c.toNat (l.length * m.length) : Int) (prA m.length b.toNat e.toNat (l.length * m.length) : Int) (k : Int) = (takesC l a b (k : Int) && takesC m c e (k : Int)) := by
  rw [takes_eq (both_ok h) k hk, takes_eq h.f k hk, takes_eq h.s k hk, Int.toNat_natCast, Int.toNat_natCast, at_both h, Bool.eq_iff_iff, decide_eq_true_eq, Bool.and_eq_true, decide_eq_true_eq, decide_eq_true_eq]
  exact meet_both h.s.n1 (atN_lt h.f h.f.a1 k) (atN_lt h.s h.s.a1 k)
theorem drawBoth_ev (l0 : List Int) (hw : ∀ x ∈ l0, (Lit.int .u8 x).wf = true) : ∃ l a b m c e, l.length ≤ 10 ∧ m.length ≤ 10 ∧ Ev (fun k => spec_DrawMachBoth.f k l0) (l, a, b, m, c, e) := by
  obtain ⟨s, hs, eo⟩ := open_ev l0 hw
  obtain ⟨l, a, b, q, g1, g2, g3⟩ := l91_ev s hs 0 (by omega)
  obtain ⟨m, c, e, q2, k1, k2, k3⟩ := l91_ev s hs q (by omega)
  refine ⟨l, a, b, m, c, e, g1, k1, ?_⟩
  simp only [spec_DrawMachBoth.f]
  rw [ev_bind0 eo, ev_bind g3, ev_bind k3, ev_some]
theorem sameMach_self (l : List Int) (a b : Int) (hm : l.length ≤ 1048576) : Ev (fun k => laws_sameMachine.f k l a b l a b) true := by
  simp only [laws_sameMachine.f]
  rw [ev_bind (sameInts_self l (by omega)), ev_pos rfl, ev_pos trivial, ev_some]
  simp
theorem lawBoth_l0 {l m : List Int} {a b c e : Int} (h : BOk l a b m c e) (d : Nat) : ∀ (i : Nat), 61 - i = d → i ≤ 61 → Ev (fun k => laws_FnMachBoth.l0 k (i : Int) l a b m c e (stepsP l m (l.length * m.length)) (prA m.length a.toNat c.toNat (l.length * m.length) : Int) (prA m.length b.toNat e.toNat (l.length * m.length) : Int)) true := by
  induction d with
  | zero =>
    intro i hd hi
    rw [ev_step (fun k => by rw [laws_FnMachBoth.l0]), ev_neg (by omega), ev_bind0 (impl_machIn _ _ _), ev_some]
    exact mB (both_ok h)
  | succ d ih =>
    intro i hd hi
    rw [ev_step (fun k => by rw [laws_FnMachBoth.l0]), ev_pos (by omega), ev_bind (impl_machTakes_ev _ _ _ _), ev_bind (impl_machTakes_ev _ _ _ _), wrap_in _ (by omega), takes_both h i (by omega)]
    by_cases g : takesC l a b (i : Int) = true
    · rw [ev_pos g, ev_bind (impl_machTakes_ev _ _ _ _), ev_neg (by rw [g]; simp)]
      exact ih (i + 1) (by omega) (by omega)
    · rw [ev_neg g, ev_neg (by rw [Bool.eq_false_iff.2 g]; simp)]
      exact ih (i + 1) (by omega) (by omega)
theorem FnMachBoth : laws_FnMachBoth.Pure := by
  intro l0 hm _ hw
  refine Ev.rounds ?_
  simp only [laws_FnMachBoth.f]
  by_cases c0 : (l0.length : Int) > 1048576
  · rw [ev_pos c0, ev_some]
  obtain ⟨l, a, b, m, c, e, h1, h2, ed⟩ := drawBoth_ev l0 hw
  have hc := bothC_len l a b m c e
  rw [ev_neg c0, ev_bind ed, ev_bind (impl_both_ev l a b m c e), ev_bind (spec_both_ev l a b m c e (by omega) (by omega)), ev_bind (sameMach_self _ _ _ (by omega)), ev_pos rfl, ev_step (fun k => by rw [laws_FnMachBoth.j0]), ev_pos (by simp), ev_step (fun k => by rw [laws_FnMachBoth.j1])]
  by_cases h : machB l a b = true ∧ machB m c e = true ∧ l.length * m.length ≤ 5
  · have eC : bothC l a b m c e = (stepsP l m (l.length * m.length), (prA m.length a.toNat c.toNat (l.length * m.length) : Int), (prA m.length b.toNat e.toNat (l.length * m.length) : Int), true) := by
      unfold bothC
      rw [if_pos h]
    rw [eC, ev_neg (by simp)]
    exact lawBoth_l0 (bOk h) 61 0 (by omega) (by omega)
  · have eC : bothC l a b m c e = ([], 0, 0, false) := by
      unfold bothC
      rw [if_neg h]
    rw [eC, ev_pos (by simp), ev_some]
    rfl
end Go.Proofs.Ytbgjehgfaakfdaa.Pure
