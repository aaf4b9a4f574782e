/- What the reference reads, as a term: the tree of a text is the term's, and a text is no term on both sides at once. -/
import Derived.Test.YtijmkmbepjjphaaQ0
import Derived.Test.YtijmkmbepjjphaaG2
import Derived.Test.YtijmkmbepjjphaaG3
import Derived.Test.YtijmkmbepjjphaaG4
namespace Go.Proofs.Ytijmkmbepjjphaa.Pure
open Go.RowKit Go.Proofs.Ytijmkmbepjjphaa.G Go.Proofs.Ytijmkmbepjjphaa.G.X Go.Proofs.YtijmkmbepjjphaaW.PrintWords Go.Proofs.YtijmkmbepjjphaaW.PrintLast

/-- The reference's tree of a term. -/
def sm : Te → S28
  | .leaf c => ⟨(c.toNat : Int), []⟩
  | .one c x => ⟨(c.toNat : Int), [sm x]⟩
  | .two c x y => ⟨(c.toNat : Int), [sm x, sm y]⟩
/-- The signs are those of a term. -/
inductive Wt : Te → Prop where
  | leaf (c : UInt8) (h : tp_leaf c = true) : Wt (.leaf c)
  | one (c : UInt8) (x : Te) (h : tp_one c = true) (hx : Wt x) : Wt (.one c x)
  | two (c : UInt8) (x y : Te) (h : tp_op c = true) (hx : Wt x) (hy : Wt y) : Wt (.two c x y)
theorem te_tp (n : Nat) (l : List UInt8) : tp_rest n l = (te_rest n l).map Prod.snd := by
  rw [← tm_tp, tm_te]
  cases te_rest n l <;> rfl
theorem te_tree (n : Nat) : ∀ (l r : List UInt8) (x : Te), te_rest n l = some (x, r) → sr_tree n l = sm x ∧ Wt x := by
  induction n with
  | zero =>
    intro l r x h
    cases h
  | succ n ih =>
    intro l r x h
    cases l with
    | nil => cases h
    | cons c s =>
      rw [te_rest] at h
      rw [sr_tree]
      by_cases k1 : tp_leaf c = true
      · rw [if_pos k1] at h ⊢
        cases h
        exact ⟨rfl, .leaf c k1⟩
      rw [if_neg k1] at h ⊢
      by_cases k2 : tp_one c = true
      · rw [if_pos k2] at h ⊢
        cases h1 : te_rest n s with
        | none => rw [h1] at h; cases h
        | some p =>
          rw [h1] at h
          obtain ⟨y, q⟩ := p
          cases h
          obtain ⟨e1, e2⟩ := ih _ _ _ h1
          rw [e1]
          exact ⟨rfl, .one c y k2 e2⟩
      rw [if_neg k2] at h ⊢
      by_cases k3 : (c == 40) = true
      · rw [if_pos k3] at h ⊢
        cases h1 : te_rest n s with
        | none => rw [h1] at h; cases h
        | some p =>
          rw [h1] at h
          obtain ⟨y, q⟩ := p
          obtain ⟨e1, e2⟩ := ih _ _ _ h1
          rw [te_tp n s, h1, e1]
          cases q with
          | nil => cases h
          | cons d q =>
            rw [te_pair] at h
            show sr_t1 (sr_tree n) (tp_rest n) (sm y) (some (d :: q)) = _ ∧ _
            rw [sr_t1]
            by_cases k4 : tp_op d = true
            · rw [if_pos k4] at h ⊢
              cases h2 : te_rest n q with
              | none => rw [h2] at h; cases h
              | some p2 =>
                rw [h2] at h
                obtain ⟨z, q2⟩ := p2
                obtain ⟨f1, f2⟩ := ih _ _ _ h2
                rw [te_tp n q, h2, f1]
                cases q2 with
                | nil => cases h
                | cons e q2 =>
                  rw [te_last] at h
                  show sr_t2 d (sm y) (sm z) (some (e :: q2)) = _ ∧ _
                  rw [sr_t2]
                  by_cases k5 : (e == 41) = true
                  · rw [if_pos k5] at h ⊢
                    cases h
                    exact ⟨rfl, .two d y z k4 e2 f2⟩
                  · rw [if_neg k5] at h
                    cases h
            · rw [if_neg k4] at h
              cases h
      · rw [if_neg k3] at h
        cases h
/-- What the reference reads of a whole text. -/
def of_out (l : List UInt8) : Int × List S28 × Bool := match te_of l with
  | none => (48, [], false)
  | some x => ((sm x).f0, (sm x).f1, true)
theorem of_eq (a : ByteArray) : spec_l7Of.f a = some (of_out a.data.toList) := by
  have hsz : a.size = a.data.toList.length := Lib.size_eq a
  simp only [spec_l7Of.f, Option.bind_some]
  by_cases h60 : (a.size : Int) > 60
  · rw [if_pos h60, of_out]
    have : te_of a.data.toList = none := by rw [te_of, if_neg (by omega)]
    rw [this]
  rw [if_neg h60, spec_l7Read.f, if_pos ⟨by omega, by omega, by omega⟩, Option.bind_some]
  simp only [Int.toNat_zero, List.drop_zero]
  have hto : te_of a.data.toList = (match te_rest 61 a.data.toList with | some (x, []) => some x | _ => none) := by
    rw [te_of, if_pos (show a.data.toList.length ≤ 60 by omega)]
    rfl
  rw [te_tp, of_out, hto]
  cases h1 : te_rest 61 a.data.toList with
  | none => rfl
  | some p =>
    obtain ⟨x, r⟩ := p
    obtain ⟨e1, e2⟩ := te_tree _ _ _ _ h1
    have hz := te_rest_size _ _ _ _ h1
    have hp := size_pos x
    rw [e1]
    have hn : ts_num a (Option.map Prod.snd (some (x, r))) = ((a.size - r.length : Nat) : Int) := rfl
    rw [hn]
    cases r with
    | nil =>
      rw [List.length_nil] at hz
      rw [if_neg (by rw [List.length_nil]; omega), if_pos (by rw [List.length_nil]; rfl)]
    | cons c r =>
      rw [List.length_cons] at hz
      rw [if_neg (by rw [List.length_cons]; omega), if_neg (by rw [List.length_cons]; omega)]
theorem of_wt {l : List UInt8} {x : Te} (h : te_of l = some x) : Wt x := by
  unfold te_of at h
  split at h
  · cases h1 : te_rest 61 l with
    | none => rw [h1] at h; cases h
    | some p =>
      rw [h1] at h
      obtain ⟨y, q⟩ := p
      cases q with
      | nil =>
        cases h
        exact (te_tree _ _ _ _ h1).2
      | cons d q => cases h
  · cases h
end Go.Proofs.Ytijmkmbepjjphaa.Pure
