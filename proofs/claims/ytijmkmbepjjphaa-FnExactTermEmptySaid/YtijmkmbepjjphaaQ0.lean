/- Plain tools for the pure laws of this seat: answers from some number of rounds on, as rewrite rules; arithmetic of int without wraps. -/
import Derived.Test.YtijmkmbepjjphaaWWords
namespace Go.Proofs.Ytijmkmbepjjphaa.Pure
open Go.RowKit Go.Proofs.YtijmkmbepjjphaaW.PrintWords

theorem ev_some {α : Type} (a r : α) : Ev (fun _ => some a) r ↔ a = r := by
  constructor
  · rintro ⟨K, h⟩
    exact Option.some.inj (h K (Nat.le_refl _))
  · rintro rfl
    exact Ev.now _
theorem ev_unique {α : Type} {g : Nat → Option α} {a b : α} (h : Ev g a) (k : Ev g b) : a = b := by
  obtain ⟨K, h⟩ := h
  obtain ⟨L, k⟩ := k
  exact Option.some.inj ((h (max K L) (by omega)).symm.trans (k (max K L) (by omega)))
theorem ev_pos {α : Type} {c : Prop} [Decidable c] {f g : Nat → Option α} {r : α} (hc : c) : Ev (fun k => if c then f k else g k) r ↔ Ev f r := by
  simp only [hc, if_true]
theorem ev_neg {α : Type} {c : Prop} [Decidable c] {f g : Nat → Option α} {r : α} (hc : ¬ c) : Ev (fun k => if c then f k else g k) r ↔ Ev g r := by
  simp only [hc, if_false]
theorem ev_bind {α β : Type} {g : Nat → Option α} {f : Nat → α → Option β} {a : α} {r : β} (h : Ev g a) : Ev (fun n => (g n).bind (f n)) r ↔ Ev (fun n => f n a) r := by
  constructor
  · rintro ⟨L, k⟩
    obtain ⟨K, h⟩ := h
    refine ⟨max K L, fun n hn => ?_⟩
    have h1 := h n (by omega)
    have h2 := k n (by omega)
    simp only [h1, Option.bind_some] at h2
    exact h2
  · exact Ev.bind h
theorem ev_bind0 {α β : Type} {g : Option α} {f : Nat → α → Option β} {a : α} {r : β} (h : g = some a) : Ev (fun n => g.bind (f n)) r ↔ Ev (fun n => f n a) r := by
  subst h
  simp only [Option.bind_some]
theorem ev_const {α : Type} {g : Option α} {r : α} : Ev (fun _ => g) r ↔ g = some r := by
  constructor
  · rintro ⟨K, h⟩
    exact h K (Nat.le_refl _)
  · intro h
    exact ⟨0, fun _ _ => h⟩
theorem ev_step {α : Type} {g f : Nat → Option α} {r : α} (h : ∀ k, g (k + 1) = f k) : Ev g r ↔ Ev f r := by
  constructor
  · rintro ⟨K, k⟩
    refine ⟨K, fun n hn => ?_⟩
    rw [← h]
    exact k (n + 1) (by omega)
  · exact Ev.step h
theorem wrap_in (n : Int) (h : -9223372036854775808 ≤ n ∧ n ≤ 9223372036854775807) : wrap64 n = n := by
  unfold wrap64
  omega
theorem wf_range {x : Int} (h : (Lit.int .i64 x).wf = true) : -9223372036854775808 ≤ x ∧ x ≤ 9223372036854775807 := by
  simpa [Lit.wf, IntKind.min, IntKind.max, IntKind.signed, IntKind.bits] using h
theorem some_dec {p q : Prop} [Decidable p] [Decidable q] : (some (decide p) = some (decide q)) ↔ (p ↔ q) := by
  rw [Option.some.injEq, decide_eq_decide]
theorem some_false {q : Prop} [Decidable q] : (some false = some (decide q)) ↔ ¬ q := by
  rw [Option.some.injEq, eq_comm, decide_eq_false_iff_not]
theorem some_true {q : Prop} [Decidable q] : (some true = some (decide q)) ↔ q := by
  rw [Option.some.injEq, eq_comm, decide_eq_true_eq]
theorem none_some {α : Type} {a : α} : (none = some a) ↔ False := by simp
theorem ite_bool {a b : Prop} [Decidable a] [Decidable b] : (if a then some (decide b) else some false) = some (decide (a ∧ b)) := by
  by_cases h : a <;> simp [h]
theorem rd_nat (l : List Int) (k : Nat) : rd l (k : Int) = l.getD k 0 := by simp [rd]
end Go.Proofs.Ytijmkmbepjjphaa.Pure
