/- What is made of a question of numbers: the program's text and the reference's. -/
import Derived.Test.YtdkebjjmnhdcnaaQtext
import Derived.Test.YtdkebjjmnhdcnaaG29
import Derived.Test.YtdkebjjmnhdcnaaG5
namespace Go.Proofs.Ytdkebjjmnhdcnaa.Pure
open Go.RowKit Go.Proofs.Ytdkebjjmnhdcnaa.G Go.Proofs.YtdkebjjmnhdcnaaW.PrintWords Go.Proofs.YtdkebjjmnhdcnaaW.PrintLast Go.Proofs.YtdkebjjmnhdcnaaW.PrintMore
set_option linter.unusedVariables false

/-- The text of the tidy form, if it is not too long. -/
def doneB (t r : List Bool) : ByteArray × Bool := if (nf t r).1.length ≤ 60 ∧ (nf t r).2.length ≤ 60 then (wrB (nf t r).1 (nf t r).2, true) else (⟨#[]⟩, false)
theorem spec_done_ev (t r : List Bool) (ht : t.length ≤ 40000) (h1 : 1 ≤ r.length) (hr : r.length ≤ 40000) : Ev (fun k => spec_l1Done.f k t r) (doneB t r) := by
  simp only [spec_l1Done.f]
  unfold doneB
  rw [ev_bind (less_ev 80000 (by omega) t r (by omega) h1)]
  by_cases c1 : (nf t r).1.length ≤ 60
  · by_cases c2 : (nf t r).2.length ≤ 60
    · rw [if_pos ⟨c1, c2⟩, ev_neg (by omega), ev_neg (by omega), ev_bind (write_ev _ _ (by omega) (by omega)), ev_some]
    · rw [if_neg (fun z => c2 z.2), ev_neg (by omega), ev_pos (by omega), ev_some]
  · rw [if_neg (fun z => c1 z.1), ev_pos (by omega), ev_some]
theorem text_done (t r : List Bool) : Ev (fun k => (impl_set_text.f k (nf t r).1 (nf t r).2).bind fun b => some (b.1, b.2)) (doneB t r) := by
  unfold doneB
  by_cases c1 : (nf t r).1.length ≤ 60
  · by_cases c2 : (nf t r).2.length ≤ 60
    · rw [if_pos ⟨c1, c2⟩, ev_bind (text_ev _ _ c1 c2), ev_some]
    · have e : Ev (fun k => impl_set_text.f k (nf t r).1 (nf t r).2) ((⟨#[]⟩ : ByteArray), false) := by
        simp only [impl_set_text.f]
        rw [ev_neg (by omega), ev_step (fun k => by rw [impl_set_text.j0]), ev_pos (by simp; omega), ev_some]
      rw [if_neg (fun z => c2 z.2), ev_bind e, ev_some]
  · have e : Ev (fun k => impl_set_text.f k (nf t r).1 (nf t r).2) ((⟨#[]⟩ : ByteArray), false) := by
      simp only [impl_set_text.f]
      rw [ev_pos (by omega), ev_step (fun k => by rw [impl_set_text.j0]), ev_pos rfl, ev_some]
    rw [if_neg (fun z => c1 z.1), ev_bind e, ev_some]
/-- The answers to a question of so many numbers from one on. -/
def asksL (f : Nat → Bool) (a n : Nat) : List Bool := (List.range n).map (fun i => f (a + i))
theorem asksL_length (f : Nat → Bool) (a n : Nat) : (asksL f a n).length = n := by simp [asksL]
theorem asksL_succ (f : Nat → Bool) (a n : Nat) : asksL f a (n + 1) = asksL f a n ++ [f (a + n)] := by
  unfold asksL
  rw [List.range_succ, List.map_append, List.map_singleton]
theorem asksL_get {f : Nat → Bool} {a n i : Nat} (h : i < n) : (asksL f a n).getD i false = f (a + i) := by
  unfold asksL
  rw [List.getD_eq_getElem?_getD, List.getElem?_map, List.getElem?_range h]
  rfl
theorem made_l1 (p : Int → Option Bool) (f : Nat → Bool) (a n : Nat) (ha : a ≤ 30000) (h1 : 1 ≤ n) (hn : n ≤ 30000) (hp : ∀ x : Nat, x < a + n → p (x : Int) = some (f x)) (t : List Bool) (ht : t.length ≤ 30000) (d : Nat) : ∀ (i : Nat), n - i = d → i ≤ n →
    Ev (fun k => impl_made.l1 p k (a : Int) (n : Int) (i : Int) t (asksL f a i)) (doneB t (asksL f a n)) := by
  induction d with
  | zero =>
    intro i hd hi
    obtain rfl : i = n := by omega
    have e := tidy_ev t (asksL f a i) (by omega) (by rw [asksL_length]; exact h1) (by rw [asksL_length]; omega)
    rw [ev_step (fun k => by rw [impl_made.l1]), ev_neg (by omega), ev_bind e]
    exact text_done t (asksL f a i)
  | succ d ih =>
    intro i hd hi
    have := ih (i + 1) (by omega) (by omega)
    rw [asksL_succ] at this
    have w : wrap64 ((a : Int) + (i : Int)) = ((a + i : Nat) : Int) := by rw [wrap_in _ (by omega)]; omega
    rw [ev_step (fun k => by rw [impl_made.l1]), ev_pos (by omega), w, ev_bind0 (hp (a + i) (by omega)), ev_pos (by rw [asksL_length]; omega), wrap_in _ (by omega)]
    exact this
theorem made_l0 (p : Int → Option Bool) (f : Nat → Bool) (a n : Nat) (ha : a ≤ 30000) (h1 : 1 ≤ n) (hn : n ≤ 30000) (hp : ∀ x : Nat, x < a + n → p (x : Int) = some (f x)) (d : Nat) : ∀ (i : Nat), a - i = d → i ≤ a →
    Ev (fun k => impl_made.l0 p k (a : Int) (n : Int) (a : Int) (i : Int) (asksL f 0 i)) (doneB (asksL f 0 a) (asksL f a n)) := by
  induction d with
  | zero =>
    intro i hd hi
    obtain rfl : i = a := by omega
    rw [ev_step (fun k => by rw [impl_made.l0]), ev_neg (by omega)]
    exact made_l1 p f i n ha h1 hn hp _ (by rw [asksL_length]; exact ha) n 0 (by omega) (by omega)
  | succ d ih =>
    intro i hd hi
    have := ih (i + 1) (by omega) (by omega)
    rw [asksL_succ, Nat.zero_add] at this
    rw [ev_step (fun k => by rw [impl_made.l0]), ev_pos (by omega), ev_bind0 (hp i (by omega)), ev_pos (by rw [asksL_length]; omega), wrap_in _ (by omega)]
    exact this
/-- What is made: the tidy text of the numbers asked. -/
theorem made_ev (p : Int → Option Bool) (f : Nat → Bool) (a n : Nat) (ha : a ≤ 30000) (h1 : 1 ≤ n) (hn : n ≤ 30000) (hp : ∀ x : Nat, x < a + n → p (x : Int) = some (f x)) : Ev (fun k => impl_made.f p k (a : Int) (n : Int) 0) (doneB (asksL f 0 a) (asksL f a n)) := by
  simp only [impl_made.f]
  exact made_l0 p f a n ha h1 hn hp a 0 (by omega) (by omega)
end Go.Proofs.Ytdkebjjmnhdcnaa.Pure
