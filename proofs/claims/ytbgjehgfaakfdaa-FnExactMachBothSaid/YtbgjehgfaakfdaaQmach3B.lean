/- The tools of the exact laws over a machine: its size, its copy, equality. -/
import Derived.Test.YtbgjehgfaakfdaaQmachB
import Derived.Test.YtbgjehgfaakfdaaG1
import Derived.Test.YtbgjehgfaakfdaaG4
import Derived.Test.YtbgjehgfaakfdaaG6
namespace Go.Proofs.Ytbgjehgfaakfdaa.Pure
open Go.RowKit Go.Proofs.Ytbgjehgfaakfdaa.G Go.Proofs.YtbgjehgfaakfdaaW.PrintWords Go.Proofs.YtbgjehgfaakfdaaW.PrintLast

theorem szMach (l : List Int) (a b c : Int) (hm0 : l.length ≤ maxLen) (hc : 0 ≤ c ∧ c ≤ 1048576) : ∃ r, laws_szMachine.f l a b c = some r ∧ (¬ r < 0 → l.length ≤ 1048576 ∧ 0 ≤ r ∧ r ≤ 1048576) := by
  have hm : l.length ≤ 9223372036854775807 := by unfold maxLen at hm0; omega
  unfold laws_szMachine.f laws_szIntS.f
  rw [wrap_in _ (by omega)]
  by_cases h : c - (l.length : Int) < 0
  · rw [if_pos h]
    exact ⟨-1, by simp, fun k => absurd (by decide) k⟩
  · rw [if_neg h]
    simp only [Option.bind_some]
    rw [if_neg h]
    exact ⟨_, rfl, fun _ => by omega⟩
theorem toMach_ev (l : List Int) (a b : Int) (hm : l.length ≤ 1048576) : Ev (fun k => laws_toMachine.f k l a b) (l, a, b) := by
  simp only [laws_toMachine.f]
  rw [ev_bind (toIntS_ev l (by omega)), ev_some]
theorem eqMach_ev (l m : List Int) (a b c d : Int) (hm : l.length ≤ 1048576) : Ev (fun k => laws_eqMachine.f k l a b m c d) (decide (l = m ∧ a = c ∧ b = d)) := by
  simp only [laws_eqMachine.f]
  rw [ev_bind (eqIntS_ev l m (by omega))]
  by_cases h : l = m
  · rw [ev_pos (by simpa using h)]
    by_cases h1 : a = c
    · rw [ev_pos h1]
      by_cases h2 : b = d
      · rw [ev_pos h2, ev_some, decide_eq_true ⟨h, h1, h2⟩]
      · rw [ev_neg h2, ev_some, decide_eq_false (fun z => h2 z.2.2)]
    · rw [ev_neg h1, ev_some, decide_eq_false (fun z => h1 z.2.1)]
  · rw [ev_neg (by simpa using h), ev_some, decide_eq_false (fun z => h z.1)]
theorem eqMach_self (l : List Int) (a b : Int) (hm : l.length ≤ 1048576) : Ev (fun k => laws_eqMachine.f k l a b l a b) true := by
  have := eqMach_ev l l a b a b hm
  rwa [decide_eq_true ⟨rfl, rfl, rfl⟩] at this
end Go.Proofs.Ytbgjehgfaakfdaa.Pure
