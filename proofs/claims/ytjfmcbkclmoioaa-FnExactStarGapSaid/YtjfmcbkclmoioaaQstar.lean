/- The star of a set, number by number: the program's list and the reference's tell the same. -/
import Derived.Test.YtjfmcbkclmoioaaQtidy
import Derived.Test.YtjfmcbkclmoioaaG15
import Derived.Test.YtjfmcbkclmoioaaG6
namespace Go.Proofs.Ytjfmcbkclmoioaa.Pure
open Go.RowKit Go.Proofs.Ytjfmcbkclmoioaa.G Go.Proofs.YtjfmcbkclmoioaaW.PrintWords Go.Proofs.YtjfmcbkclmoioaaW.PrintLast Go.Proofs.YtjfmcbkclmoioaaW.PrintMore
set_option linter.unusedVariables false

/-- Sums of numbers of a set, each one greater than 0. -/
inductive Star (A : Nat → Bool) : Nat → Prop
  | zero : Star A 0
  | add (n k : Nat) : Star A n → 1 ≤ k → A k = true → Star A (n + k)
theorem Star.plus {A : Nat → Bool} {a b : Nat} (h : Star A a) (g : Star A b) : Star A (a + b) := by
  induction h with
  | zero => rw [Nat.zero_add]; exact g
  | add n k _ h1 h2 ih =>
    rw [show n + k + b = (n + b) + k by omega]
    exact .add _ _ ih h1 h2
theorem Star.last {A : Nat → Bool} {n : Nat} (h : Star A n) (hn : 1 ≤ n) : ∃ k, 1 ≤ k ∧ k ≤ n ∧ A k = true ∧ Star A (n - k) := by
  cases h with
  | zero => omega
  | add m k h1 h2 h3 => exact ⟨k, h2, by omega, h3, by rw [Nat.add_sub_cancel]; exact h1⟩
theorem Star.of {A : Nat → Bool} {n k : Nat} (h1 : 1 ≤ k) (h2 : k ≤ n) (h3 : A k = true) (h4 : Star A (n - k)) : Star A n := by
  have := Star.add (n - k) k h4 h1 h3
  rwa [Nat.sub_add_cancel h2] at this
theorem getD_set {l : List Bool} {n i : Nat} {v : Bool} (h : n < l.length) : (l.set n v).getD i false = if i = n then v else l.getD i false := by
  rw [List.getD_eq_getElem?_getD, List.getElem?_set]
  by_cases c : i = n
  · subst c
    rw [if_pos rfl, if_pos rfl, if_pos h]
    rfl
  · rw [if_neg (fun z => c z.symm), if_neg c, List.getD_eq_getElem?_getD]
/-- What is told up to x: the star. -/
def Told (A : Nat → Bool) (l : List Bool) (x : Nat) : Prop := ∀ i, i < x → (l.getD i false = true ↔ Star A i)
def IsStar (A : Nat → Bool) (many : Nat) (l : List Bool) : Prop := l.length = many ∧ Told A l many
theorem Told.set {A : Nat → Bool} {l : List Bool} {x n : Nat} {v : Bool} (h : Told A l x) (hn : n < l.length) (hx : x ≤ n) : Told A (l.set n v) x := by
  intro i hi
  rw [getD_set hn, if_neg (by omega)]
  exact h i hi
/-- Some number below k shows that n is in the star. -/
def Before (A : Nat → Bool) (n k : Nat) : Prop := n = 0 ∨ ∃ j, 1 ≤ j ∧ j < k ∧ j ≤ n ∧ A j = true ∧ Star A (n - j)
theorem impl_star_l1 {t r : List Bool} (h : SOk t r) (many n : Nat) (hn : n < many) (hm : many ≤ 100000) (Q : List Bool → Prop)
    (next : ∀ l, l.length = many → Told (hasN t r) l (n + 1) → ∃ R, Ev (fun q => impl_star.l0 q l (many : Int) ((n + 1 : Nat) : Int) t r) R ∧ Q R) (d : Nat) :
    ∀ (k : Nat) (l : List Bool), n + 1 - k = d → 1 ≤ k → l.length = many → Told (hasN t r) l n → (l.getD n false = true ↔ Before (hasN t r) n k) →
      ∃ R, Ev (fun q => impl_star.l1 q l (n : Int) (k : Int) (many : Int) (n : Int) t r) R ∧ Q R := by
  have w1 : wrap64 ((n : Int) + 1) = ((n + 1 : Nat) : Int) := by rw [wrap_in _ (by omega)]; omega
  have done : ∀ (k : Nat) (l : List Bool), l.length = many → Told (hasN t r) l n → (l.getD n false = true ↔ Star (hasN t r) n) → Told (hasN t r) l (n + 1) := by
    intro k l h1 h2 h3 i hi
    by_cases c : i = n
    · rw [c]
      exact h3
    · exact h2 i (by omega)
  induction d with
  | zero =>
    intro k l hd hk hl ht hv
    obtain ⟨R, e, q⟩ := next l hl (done k l hl ht (by
      rw [hv]
      constructor
      · rintro (z | ⟨j, h1, _, h3, h4, h5⟩)
        · rw [z]
          exact .zero
        · exact Star.of h1 h3 h4 h5
      · intro z
        by_cases c : n = 0
        · exact Or.inl c
        · obtain ⟨j, h1, h2, h3, h4⟩ := z.last (by omega)
          exact Or.inr ⟨j, h1, by omega, h2, h3, h4⟩))
    refine ⟨R, ?_, q⟩
    rw [ev_step (fun q => by rw [impl_star.l1]), ev_neg (by omega), w1]
    exact e
  | succ d ih =>
    intro k l hd hk hl ht hv
    by_cases c : l.getD n false = true
    · obtain ⟨R, e, q⟩ := next l hl (done k l hl ht (by
        constructor
        · intro z
          rcases hv.1 z with z | ⟨j, h1, _, h3, h4, h5⟩
          · rw [z]
            exact .zero
          · exact Star.of h1 h3 h4 h5
        · intro _
          exact c))
      refine ⟨R, ?_, q⟩
      rw [ev_step (fun q => by rw [impl_star.l1]), ev_pos (by omega), ev_pos (by omega), ev_pos (by omega), rdOf_nat, ev_pos c, w1]
      exact e
    · have hv0 : ¬ (Before (hasN t r) n k) := fun z => c (hv.2 z)
      have wk : wrap64 ((n : Int) - (k : Int)) = ((n - k : Nat) : Int) := by rw [wrap_in _ (by omega)]; omega
      have wk1 : wrap64 ((k : Int) + 1) = ((k + 1 : Nat) : Int) := by rw [wrap_in _ (by omega)]; omega
      by_cases p : hasN t r k = true
      · obtain ⟨R, e, q⟩ := ih (k + 1) (l.set n (l.getD (n - k) false)) (by omega) (by omega) (by rw [List.length_set]; exact hl) (ht.set (by omega) (Nat.le_refl _)) (by
          rw [getD_set (by omega), if_pos rfl, ht _ (by omega)]
          constructor
          · intro z
            exact Or.inr ⟨k, hk, by omega, by omega, p, z⟩
          · rintro (z | ⟨j, h1, h2, h3, h4, h5⟩)
            · exact absurd (Or.inl z) hv0
            · by_cases e : j = k
              · rw [← e]
                exact h5
              · exact absurd (Or.inr ⟨j, h1, by omega, h3, h4, h5⟩) hv0)
        refine ⟨R, ?_, q⟩
        rw [ev_step (fun q => by rw [impl_star.l1]), ev_pos (by omega), ev_pos (by omega), ev_pos (by omega), rdOf_nat, ev_neg c, ev_bind0 (impl_has h k (by omega)), ev_pos p, wk, ev_pos (by omega), ev_pos (by omega), rdOf_nat, Int.toNat_natCast, wk1]
        exact e
      · obtain ⟨R, e, q⟩ := ih (k + 1) (l.set n false) (by omega) (by omega) (by rw [List.length_set]; exact hl) (ht.set (by omega) (Nat.le_refl _)) (by
          rw [getD_set (by omega), if_pos rfl]
          constructor
          · intro z
            cases z
          · rintro (z | ⟨j, h1, h2, h3, h4, h5⟩)
            · exact absurd (Or.inl z) hv0
            · by_cases e : j = k
              · rw [e] at h4
                exact absurd h4 p
              · exact absurd (Or.inr ⟨j, h1, by omega, h3, h4, h5⟩) hv0)
        refine ⟨R, ?_, q⟩
        rw [ev_step (fun q => by rw [impl_star.l1]), ev_pos (by omega), ev_pos (by omega), ev_pos (by omega), rdOf_nat, ev_neg c, ev_bind0 (impl_has h k (by omega)), ev_neg p, Int.toNat_natCast, wk1]
        exact e
theorem impl_star_l0 {t r : List Bool} (h : SOk t r) (many : Nat) (hm : many ≤ 100000) (d : Nat) : ∀ (n : Nat) (l : List Bool), many - n = d → n ≤ many → l.length = many → Told (hasN t r) l n →
    ∃ R, Ev (fun q => impl_star.l0 q l (many : Int) (n : Int) t r) R ∧ IsStar (hasN t r) many R := by
  induction d with
  | zero =>
    intro n l hd hn hl ht
    obtain rfl : n = many := by omega
    refine ⟨l, ?_, hl, ht⟩
    rw [ev_step (fun q => by rw [impl_star.l0]), ev_neg (by omega), ev_some]
  | succ d ih =>
    intro n l hd hn hl ht
    obtain ⟨R, e, q⟩ := impl_star_l1 h many n (by omega) hm (IsStar (hasN t r) many) (fun l h1 h2 => ih (n + 1) l (by omega) (by omega) h1 h2) n 1 (l.set n ((n : Int) == 0)) (by omega) (Nat.le_refl _) (by rw [List.length_set]; exact hl) (ht.set (by omega) (Nat.le_refl _)) (by
      rw [getD_set (by omega), if_pos rfl, beq_iff_eq]
      constructor
      · intro z
        exact Or.inl (by omega)
      · rintro (z | ⟨j, h1, h2, _⟩)
        · omega
        · omega)
    refine ⟨R, ?_, q⟩
    rw [ev_step (fun q => by rw [impl_star.l0]), ev_pos (by omega), ev_pos (by omega), ev_pos (by omega), Int.toNat_natCast]
    exact e
theorem impl_star_ev {t r : List Bool} (h : SOk t r) (many : Nat) (hm : many ≤ 100000) : ∃ R, Ev (fun q => impl_star.f q t r (many : Int)) R ∧ IsStar (hasN t r) many R := by
  obtain ⟨R, e, q⟩ := impl_star_l0 h many hm many 0 (List.replicate many false) (by omega) (by omega) (by simp) (fun i hi => by omega)
  refine ⟨R, ?_, q⟩
  simp only [impl_star.f]
  rw [ev_pos (by omega), ev_pos (by omega), Int.toNat_natCast, ev_bind0 rfl, List.length_replicate]
  exact e
/-- The parts that are known up to x. -/
structure Parts (A : Nat → Bool) (P : List Int) (x : Nat) : Prop where
  nat : ∀ p ∈ P, ∃ k : Nat, p = (k : Int) ∧ 1 ≤ k ∧ k < x ∧ A k = true
  all : ∀ k, 1 ≤ k → k < x → A k = true → ∃ j : Nat, (j : Int) ∈ P ∧ j ≤ k ∧ Star A (k - j)
  len : P.length ≤ x
theorem rdI_get {l : List Int} {i : Nat} (h : i < l.length) : rd l (i : Int) = l[i] := by
  rw [rd_nat, List.getD_eq_getElem?_getD, List.getElem?_eq_getElem h, Option.getD_some]
/-- The parts are enough. -/
theorem star_parts {A : Nat → Bool} {P : List Int} {x : Nat} (hp : Parts A P x) (hx : 1 ≤ x) (h : Star A x) : A x = true ∨ ∃ j : Nat, (j : Int) ∈ P ∧ Star A (x - j) := by
  obtain ⟨k, h1, h2, h3, h4⟩ := h.last hx
  by_cases c : k = x
  · rw [← c]
    exact .inl h3
  · obtain ⟨j, g1, g2, g3⟩ := hp.all k h1 (by omega) h3
    refine .inr ⟨j, g1, ?_⟩
    have := g3.plus h4
    rwa [show k - j + (x - k) = x - j by omega] at this
theorem spec_star_l0 {t r : List Bool} (h : SOk t r) (many : Nat) (hm : many ≤ 100000) (d : Nat) : ∀ (x : Nat) (l : List Bool) (P : List Int), many - x = d → x ≤ many → l.length = many → Told (hasN t r) l x → (∀ i, x ≤ i → l.getD i false = false) → Parts (hasN t r) P x →
    ∃ R, Ev (fun q => spec_l4Star.l0 q (many : Int) l P (x : Int) t r) R ∧ IsStar (hasN t r) many R := by
  induction d with
  | zero =>
    intro x l P hd hx hl ht hz hp
    obtain rfl : x = many := by omega
    refine ⟨l, ?_, hl, ht⟩
    rw [ev_step (fun q => by rw [spec_l4Star.l0]), ev_neg (by omega), ev_some]
  | succ d ih =>
    intro x l P hd hx hl ht hz hp
    have hlen := hp.len
    have w1 : wrap64 ((x : Int) + 1) = ((x + 1 : Nat) : Int) := by rw [wrap_in _ (by omega)]; omega
    have zz : ∀ (l' : List Bool), (∀ i, x + 1 ≤ i → l'.getD i false = l.getD i false) → ∀ i, x + 1 ≤ i → l'.getD i false = false := fun l' g i hi => by rw [g i hi]; exact hz i (by omega)
    have main : ∀ (Q : List Bool → Prop), (∀ l', l'.length = many → (∀ i, x + 1 ≤ i → l'.getD i false = l.getD i false) → Told (hasN t r) l' x → (l'.getD x false = true ↔ ∃ j : Nat, (j : Int) ∈ P ∧ Star (hasN t r) (x - j)) → ∃ R, Ev (fun q => spec_l4Star.j2 q (many : Int) l' P (x : Int) t r) R ∧ Q R) → ∃ R, Ev (fun q => spec_l4Star.l1 q (many : Int) l P (x : Int) 0 t r) R ∧ Q R := by
      intro Q next
      have inner : ∀ (e i : Nat) (l' : List Bool), P.length - i = e → i ≤ P.length → l'.length = many → (∀ j, x + 1 ≤ j → l'.getD j false = l.getD j false) → Told (hasN t r) l' x → (l'.getD x false = true ↔ ∃ j : Nat, (j : Int) ∈ P.take i ∧ Star (hasN t r) (x - j)) → ∃ R, Ev (fun q => spec_l4Star.l1 q (many : Int) l' P (x : Int) (i : Int) t r) R ∧ Q R := by
        intro e
        induction e with
        | zero =>
          intro i l' he hi hl' hsame ht' hv
          rw [List.take_of_length_le (by omega)] at hv
          obtain ⟨R, ee, q⟩ := next l' hl' hsame ht' hv
          refine ⟨R, ?_, q⟩
          rw [ev_step (fun q => by rw [spec_l4Star.l1]), ev_neg (by omega)]
          exact ee
        | succ e ihe =>
          intro i l' he hi hl' hsame ht' hv
          have hi2 : i < P.length := by omega
          by_cases c : l'.getD x false = true
          · obtain ⟨R, ee, q⟩ := next l' hl' hsame ht' (by
              constructor
              · intro z
                obtain ⟨j, h1, h2⟩ := hv.1 z
                exact ⟨j, List.mem_of_mem_take h1, h2⟩
              · intro _
                exact c)
            refine ⟨R, ?_, q⟩
            rw [ev_step (fun q => by rw [spec_l4Star.l1]), ev_pos (by omega), ev_pos (by omega), ev_pos (by omega), rdOf_nat, ev_pos c]
            exact ee
          · obtain ⟨k, hk, hk1, hk2, hk3⟩ := hp.nat _ (List.getElem_mem hi2)
            have wk : wrap64 ((x : Int) - (k : Int)) = ((x - k : Nat) : Int) := by rw [wrap_in _ (by omega)]; omega
            obtain ⟨R, ee, q⟩ := ihe (i + 1) (l'.set x (l'.getD (x - k) false)) (by omega) (by omega) (by rw [List.length_set]; exact hl') (fun j hj => by rw [getD_set (by omega), if_neg (by omega)]; exact hsame j hj) (ht'.set (by omega) (Nat.le_refl _)) (by
              rw [getD_set (by omega), if_pos rfl, ht' _ (by omega), List.take_succ_eq_append_getElem hi2, hk]
              constructor
              · intro z
                exact ⟨k, by simp, z⟩
              · rintro ⟨j, h1, h2⟩
                rcases List.mem_append.1 h1 with z | z
                · exact absurd (hv.2 ⟨j, z, h2⟩) c
                · have : (j : Int) = (k : Int) := by simpa using z
                  rw [show k = j by omega]
                  exact h2)
            refine ⟨R, ?_, q⟩
            rw [ev_step (fun q => by rw [spec_l4Star.l1]), ev_pos (by omega), ev_pos (by omega), ev_pos (by omega), rdOf_nat, ev_neg c, ev_pos (by omega), rdI_get hi2, hk, wk, ev_pos (by omega), ev_pos (by omega), rdOf_nat, Int.toNat_natCast, wrap_in ((i : Int) + 1) (by omega)]
            exact ee
      exact inner P.length 0 l (by omega) (by omega) hl (fun _ _ => rfl) ht (by
        rw [hz x (Nat.le_refl _)]
        constructor
        · intro z
          cases z
        · rintro ⟨j, h1, _⟩
          simp at h1)
    obtain ⟨R, e, q⟩ := main (IsStar (hasN t r) many) (fun l' hl' hsame ht' hv => by
      have hz' := zz l' hsame
      by_cases c0 : x = 0
      · subst c0
        obtain ⟨R, e, q⟩ := ih 1 (l'.set 0 true) P (by omega) (by omega) (by rw [List.length_set]; exact hl') (fun i hi => by
          obtain rfl : i = 0 := by omega
          rw [getD_set (by omega), if_pos rfl]
          exact ⟨fun _ => .zero, fun _ => rfl⟩) (fun i hi => by
          rw [getD_set (by omega), if_neg (by omega)]
          exact hz' i hi) ⟨fun p h1 => by
            obtain ⟨k, _, h2, h3, _⟩ := hp.nat p h1
            omega, fun k h1 h2 => by omega, by omega⟩
        refine ⟨R, ?_, q⟩
        rw [ev_step (fun q => by rw [spec_l4Star.j2]), ev_pos (by rfl), ev_pos (by omega), w1]
        exact e
      · by_cases c : l'.getD x false = true
        · obtain ⟨R, e, q⟩ := ih (x + 1) l' P (by omega) (by omega) hl' (fun i hi => by
            by_cases e : i = x
            · rw [e]
              constructor
              · intro z
                obtain ⟨j, h1, h2⟩ := hv.1 z
                obtain ⟨k, h3, h4, h5, h6⟩ := hp.nat _ h1
                obtain rfl : j = k := by omega
                exact Star.of h4 (by omega) h6 h2
              · intro _
                exact c
            · exact ht' i (by omega)) hz' ⟨fun p h1 => by
              obtain ⟨k, h2, h3, h4, h5⟩ := hp.nat p h1
              exact ⟨k, h2, h3, by omega, h5⟩, fun k h1 h2 h3 => by
              by_cases e : k = x
              · subst e
                obtain ⟨j, g1, g2⟩ := hv.1 c
                obtain ⟨k', h3, h4, h5, h6⟩ := hp.nat _ g1
                exact ⟨j, g1, by omega, g2⟩
              · exact hp.all k h1 (by omega) h3, by omega⟩
          refine ⟨R, ?_, q⟩
          rw [ev_step (fun q => by rw [spec_l4Star.j2]), ev_neg (by omega), ev_pos (by omega), ev_pos (by omega), rdOf_nat, ev_pos c, w1]
          exact e
        · have nj : ¬ ∃ j : Nat, (j : Int) ∈ P ∧ Star (hasN t r) (x - j) := fun z => c (hv.2 z)
          by_cases p : hasN t r x = true
          · obtain ⟨R, e, q⟩ := ih (x + 1) (l'.set x true) (P ++ [(x : Int)]) (by omega) (by omega) (by rw [List.length_set]; exact hl') (fun i hi => by
              rw [getD_set (by omega)]
              by_cases e : i = x
              · rw [if_pos e, e]
                exact ⟨fun _ => Star.of (by omega) (Nat.le_refl _) p (by rw [Nat.sub_self]; exact .zero), fun _ => rfl⟩
              · rw [if_neg e]
                exact ht' i (by omega)) (fun i hi => by
              rw [getD_set (by omega), if_neg (by omega)]
              exact hz' i hi) ⟨fun y h1 => by
                rcases List.mem_append.1 h1 with z | z
                · obtain ⟨k, h2, h3, h4, h5⟩ := hp.nat y z
                  exact ⟨k, h2, h3, by omega, h5⟩
                · exact ⟨x, by simpa using z, by omega, by omega, p⟩, fun k h1 h2 h3 => by
                by_cases e : k = x
                · subst e
                  exact ⟨k, by simp, Nat.le_refl _, by rw [Nat.sub_self]; exact .zero⟩
                · obtain ⟨j, g1, g2, g3⟩ := hp.all k h1 (by omega) h3
                  exact ⟨j, List.mem_append_left _ g1, g2, g3⟩, by simp; omega⟩
            refine ⟨R, ?_, q⟩
            rw [ev_step (fun q => by rw [spec_l4Star.j2]), ev_neg (by omega), ev_pos (by omega), ev_pos (by omega), rdOf_nat, ev_neg c, ev_bind0 (spec_has h x (by omega)), ev_pos p, ev_pos (by omega), Int.toNat_natCast, w1]
            exact e
          · obtain ⟨R, e, q⟩ := ih (x + 1) l' P (by omega) (by omega) hl' (fun i hi => by
              by_cases e : i = x
              · rw [e]
                constructor
                · intro z
                  exact absurd z c
                · intro z
                  rcases star_parts hp (by omega) z with z | z
                  · exact absurd z p
                  · exact absurd z nj
              · exact ht' i (by omega)) hz' ⟨fun y h1 => by
                obtain ⟨k, h2, h3, h4, h5⟩ := hp.nat y h1
                exact ⟨k, h2, h3, by omega, h5⟩, fun k h1 h2 h3 => by
                by_cases e : k = x
                · subst e
                  exact absurd h3 p
                · exact hp.all k h1 (by omega) h3, by omega⟩
            refine ⟨R, ?_, q⟩
            rw [ev_step (fun q => by rw [spec_l4Star.j2]), ev_neg (by omega), ev_pos (by omega), ev_pos (by omega), rdOf_nat, ev_neg c, ev_bind0 (spec_has h x (by omega)), ev_neg p, w1]
            exact e)
    refine ⟨R, ?_, q⟩
    rw [ev_step (fun q => by rw [spec_l4Star.l0]), ev_pos (by omega)]
    exact e
theorem spec_star_ev {t r : List Bool} (h : SOk t r) (many : Nat) (hm : many ≤ 100000) : ∃ R, Ev (fun q => spec_l4Star.f q t r (many : Int)) R ∧ IsStar (hasN t r) many R := by
  obtain ⟨R, e, q⟩ := spec_star_l0 h many hm many 0 (List.replicate many false) [] (by omega) (by omega) (by simp) (fun i hi => by omega) (fun i _ => by
    rw [List.getD_eq_getElem?_getD, List.getElem?_replicate]
    split <;> rfl) ⟨fun p hp => by simp at hp, fun k h1 h2 => by omega, by simp⟩
  refine ⟨R, ?_, q⟩
  simp only [spec_l4Star.f]
  rw [ev_pos (by omega), ev_pos (by omega), Int.toNat_natCast]
  exact e
theorem star_same {A : Nat → Bool} {many : Nat} {l m : List Bool} (h : IsStar A many l) (g : IsStar A many m) : l = m := by
  refine ext_getD (by rw [h.1, g.1]) (fun i hi => ?_)
  have hi2 : i < many := by rw [← h.1]; exact hi
  rw [Bool.eq_iff_iff, h.2 i hi2, g.2 i hi2]
end Go.Proofs.Ytjfmcbkclmoioaa.Pure
