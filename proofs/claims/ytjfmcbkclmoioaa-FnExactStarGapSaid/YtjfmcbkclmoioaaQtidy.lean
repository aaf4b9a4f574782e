/- The program's tidying and the reference's come to the tidy form. -/
import Derived.Test.YtjfmcbkclmoioaaQnf
import Derived.Test.YtjfmcbkclmoioaaG10
import Derived.Test.YtjfmcbkclmoioaaG11
import Derived.Test.YtjfmcbkclmoioaaG12
import Derived.Test.YtjfmcbkclmoioaaG3
namespace Go.Proofs.Ytjfmcbkclmoioaa.Pure
open Go.RowKit Go.Proofs.Ytjfmcbkclmoioaa.G Go.Proofs.YtjfmcbkclmoioaaW.PrintWords Go.Proofs.YtjfmcbkclmoioaaW.PrintLast Go.Proofs.YtjfmcbkclmoioaaW.PrintMore
set_option linter.unusedVariables false

theorem tmod_nat (a b : Nat) : Int.tmod (a : Int) (b : Int) = ((a % b : Nat) : Int) := (Int.ofNat_tmod _ _).symm
theorem turns_l0 (r : List Bool) (s : Nat) (hs : 1 ≤ s) (hsl : s ≤ r.length) (hr : r.length ≤ 100000) (d : Nat) : ∀ (i : Nat), r.length - i = d → i ≤ r.length → (∀ j, j < i → r.getD j false = r.getD (j % s) false) →
    Ev (fun k => impl_turns.l0 k r (s : Int) (r.length : Int) (i : Int)) (turnsB r s) := by
  induction d with
  | zero =>
    intro i hd hi hj
    rw [ev_step (fun k => by rw [impl_turns.l0]), ev_neg (by omega), ev_neg (by omega), ev_some, Bool.eq_iff_iff, turnsB_iff, beq_iff_eq, ← Int.natCast_emod]
    constructor
    · intro h
      exact ⟨by omega, fun j hjl => hj j (by omega)⟩
    · intro h
      have := h.1
      omega
  | succ d ih =>
    intro i hd hi hj
    have hm := Nat.mod_lt i (show s > 0 by omega)
    rw [ev_step (fun k => by rw [impl_turns.l0]), ev_pos (by omega), ev_pos (by omega), ev_pos (by omega), ev_neg (by omega), tmod_nat, ev_pos (by omega), ev_pos (by omega), rdOf_nat, rdOf_nat, wrap_in _ (by omega)]
    by_cases c : r.getD i false = r.getD (i % s) false
    · rw [ev_neg (by rw [c]; simp)]
      refine ih (i + 1) (by omega) (by omega) (fun j hjl => ?_)
      by_cases e : j = i
      · rw [e]
        exact c
      · exact hj j (by omega)
    · rw [ev_pos (by simpa using c), ev_some, eq_comm, Bool.eq_false_iff]
      intro h
      exact c ((turnsB_iff.1 h).2 i (by omega))
theorem turns_ev (r : List Bool) (s : Nat) (hs : 1 ≤ s) (hsl : s ≤ r.length) (hr : r.length ≤ 100000) : Ev (fun k => impl_turns.f k r (s : Int)) (turnsB r s) := by
  simp only [impl_turns.f]
  exact turns_l0 r s hs hsl hr r.length 0 (by omega) (by omega) (fun j hj => by omega)
theorem clone_eq (l : List Bool) (h : l.length ≤ 100000) : slices_Clone_bool_bool.f l = some l := by
  unfold slices_Clone_bool_bool.f
  rw [if_pos (by omega)]
theorem tidy_l1 (m : Nat) : ∀ (t r : List Bool), t.length = m → m ≤ 100000 → 1 ≤ r.length → r.length ≤ 100000 → Ev (fun k => impl_set_tidy.l1 k (r.length : Int) t r) (trimN m t r) := by
  induction m with
  | zero =>
    intro t r ht hm h1 h2
    rw [ev_step (fun k => by rw [impl_set_tidy.l1]), ev_neg (by omega), ev_some]
    rfl
  | succ m ih =>
    intro t r ht hm h1 h2
    have w1 : wrap64 ((t.length : Int) - 1) = (m : Int) := by rw [wrap_in _ (by omega)]; omega
    have w2 : wrap64 ((r.length : Int) - 1) = ((r.length - 1 : Nat) : Int) := by rw [wrap_in _ (by omega)]; omega
    rw [ev_step (fun k => by rw [impl_set_tidy.l1]), ev_pos (by omega), w1, w2, ev_pos (by omega), ev_pos (by omega), ev_pos (by omega), ev_pos (by omega), rdOf_nat, rdOf_nat, trimN]
    by_cases c : t.getD m false = r.getD (r.length - 1) false
    · have := ih (t.take m) (rotL r) (by rw [List.length_take]; omega) (by omega) (by rw [rotL_length h1]; exact h1) (by rw [rotL_length h1]; exact h2)
      rw [rotL_length h1] at this
      rw [if_pos c, ev_pos (by simpa using c), ev_pos (by omega), ev_bind0 rfl, ev_pos (by omega), ev_bind0 rfl, ev_pos (by simp; omega)]
      exact this
    · rw [if_neg c, ev_neg (by simpa using c), ev_some]
theorem tidy_l0 (t r : List Bool) (ht : t.length ≤ 100000) (h1 : 1 ≤ r.length) (h2 : r.length ≤ 100000) (d : Nat) : ∀ (s : Nat), per r - s = d → 1 ≤ s → s ≤ per r → Ev (fun k => impl_set_tidy.l0 k (s : Int) t r) (nf t r) := by
  obtain ⟨g1, g2, g3, g4⟩ := per_spec h1
  induction d with
  | zero =>
    intro s hd hs hsp
    obtain rfl : s = per r := by omega
    have hl : (r.take (per r)).length = per r := take_per_length h1
    have := tidy_l1 t.length t (r.take (per r)) rfl ht (by omega) (by omega)
    rw [hl] at this
    rw [ev_step (fun k => by rw [impl_set_tidy.l0]), ev_bind (turns_ev r (per r) hs (by omega) h2), ev_pos g1, ev_bind0 (clone_eq t ht), ev_pos (by omega), ev_pos (by omega), Int.toNat_natCast, ev_bind0 (clone_eq _ (by omega))]
    exact this
  | succ d ih =>
    intro s hd hs hsp
    rw [ev_step (fun k => by rw [impl_set_tidy.l0]), ev_bind (turns_ev r s hs (by omega) h2), ev_neg (by rw [g4 s hs (by omega)]; decide), wrap_in _ (by omega)]
    exact ih (s + 1) (by omega) (by omega) (by omega)
theorem tidy_ev (t r : List Bool) (ht : t.length ≤ 100000) (h1 : 1 ≤ r.length) (h2 : r.length ≤ 100000) : Ev (fun k => impl_set_tidy.f k t r) (nf t r) := by
  simp only [impl_set_tidy.f]
  exact tidy_l0 t r ht h1 h2 _ 1 rfl (by omega) (per_spec h1).2.1
theorem impl_tidied_none {a : ByteArray} (hs : a.size ≤ 1048576) (h : setC a.data.toList = none) : Ev (fun k => impl_tidied.f k a) ([], [], false) := by
  obtain ⟨t, r, e⟩ := impl_none hs h
  simp only [impl_tidied.f]
  rw [ev_bind0 e, ev_neg (by simp), ev_some]
theorem impl_tidied_some {a : ByteArray} {t r : List Bool} (hs : a.size ≤ 1048576) (h : setC a.data.toList = some (t, r)) : Ev (fun k => impl_tidied.f k a) ((nf t r).1, (nf t r).2, true) := by
  have ok := setC_ok h
  have h1 := ok.t60
  have h2 := ok.r60
  simp only [impl_tidied.f]
  rw [ev_bind0 (impl_some hs h), ev_pos rfl, ev_bind (tidy_ev t r (by omega) ok.r1 (by omega)), ev_some]
/-- The reference's test of a period. -/
theorem turns_step {r : List Bool} {d : Nat} (hd : 1 ≤ d) : turnsB r d = true ↔ (r.length % d = 0 ∧ ∀ j, d ≤ j → j < r.length → r.getD j false = r.getD (j - d) false) := by
  rw [turnsB_iff]
  constructor
  · rintro ⟨h1, h2⟩
    refine ⟨h1, fun j h3 h4 => ?_⟩
    rw [h2 j h4, h2 (j - d) (by omega), Nat.mod_eq_sub_mod h3]
  · rintro ⟨h1, h2⟩
    refine ⟨h1, fun j => ?_⟩
    induction j using Nat.strongRecOn with
    | _ j ih =>
      intro h4
      by_cases c : j < d
      · rw [Nat.mod_eq_of_lt c]
      · rw [h2 j (by omega) h4, ih (j - d) (by omega) (by omega), ← Nat.mod_eq_sub_mod (by omega)]
theorem per_prim {r : List Bool} (h : Prim r) : per r = r.length := by
  obtain ⟨g1, g2, g3, g4⟩ := per_spec h.1
  by_cases c : per r < r.length
  · rw [h.2 _ g2 c] at g1
    cases g1
  · omega
theorem nf_prim {t r : List Bool} (h : Prim r) : nf t r = trimN t.length t r := by
  unfold nf
  rw [per_prim h, List.take_of_length_le (Nat.le_refl _)]
theorem nf_take {t r : List Bool} (h : 1 ≤ r.length) : nf t (r.take (per r)) = nf t r := by
  rw [nf_prim (prim_take h)]
  rfl
theorem less_l1 (t r : List Bool) (d : Nat) (hd : 1 ≤ d) (hdn : d < r.length) (hr : r.length ≤ 100000) (R : List Bool × List Bool) (hy : turnsB r d = true → Ev (fun k => spec_l1Less.f k t (r.take d)) R) (hn : turnsB r d = false → Ev (fun k => spec_l1Less.l0 k (r.length : Int) ((d + 1 : Nat) : Int) t r) R) (e : Nat) :
    ∀ (i : Nat) (b : Bool), r.length - i = e → d ≤ i → i ≤ r.length → (b = true ↔ (r.length % d = 0 ∧ ∀ j, d ≤ j → j < i → r.getD j false = r.getD (j - d) false)) → Ev (fun k => spec_l1Less.l1 k (r.length : Int) (d : Int) b (i : Int) t r) R := by
  have w : wrap64 ((d : Int) + 1) = ((d + 1 : Nat) : Int) := by rw [wrap_in _ (by omega)]; omega
  induction e with
  | zero =>
    intro i b he h1 h2 hb
    rw [ev_step (fun k => by rw [spec_l1Less.l1]), ev_neg (by omega), w]
    by_cases c : b = true
    · have ht := (turns_step (r := r) hd).2 ⟨(hb.1 c).1, fun j h3 h4 => (hb.1 c).2 j h3 (by omega)⟩
      rw [ev_pos c, ev_pos (by omega), ev_pos (by omega), Int.toNat_natCast, ev_bind (hy ht), ev_some]
    · have ht : turnsB r d = false := Bool.eq_false_iff.2 (fun h => c (hb.2 ⟨((turns_step hd).1 h).1, fun j h3 h4 => ((turns_step hd).1 h).2 j h3 (by omega)⟩))
      rw [ev_neg c]
      exact hn ht
  | succ e ih =>
    intro i b he h1 h2 hb
    rw [ev_step (fun k => by rw [spec_l1Less.l1]), ev_pos (by omega), w]
    by_cases c : b = true
    · have w2 : wrap64 ((i : Int) - (d : Int)) = ((i - d : Nat) : Int) := by rw [wrap_in _ (by omega)]; omega
      rw [ev_pos c, ev_pos (by omega), ev_pos (by omega), w2, ev_pos (by omega), ev_pos (by omega), rdOf_nat, rdOf_nat, wrap_in _ (by omega)]
      refine ih (i + 1) _ (by omega) (by omega) (by omega) ?_
      rw [beq_iff_eq]
      constructor
      · intro h
        refine ⟨(hb.1 c).1, fun j h3 h4 => ?_⟩
        by_cases e2 : j = i
        · rw [e2]
          exact h
        · exact (hb.1 c).2 j h3 (by omega)
      · intro h
        exact h.2 i h1 (by omega)
    · have ht : turnsB r d = false := Bool.eq_false_iff.2 (fun h => c (hb.2 ⟨((turns_step hd).1 h).1, fun j h3 h4 => ((turns_step hd).1 h).2 j h3 (by omega)⟩))
      rw [ev_neg c]
      exact hn ht
theorem less_ev (N : Nat) (hN : N ≤ 100000) : ∀ (t r : List Bool), t.length + r.length ≤ N → 1 ≤ r.length → Ev (fun k => spec_l1Less.f k t r) (nf t r) := by
  induction N with
  | zero =>
    intro t r h h1
    omega
  | succ N ih =>
    intro t r h h1
    have ih := ih (by omega)
    obtain ⟨g1, g2, g3, g4⟩ := per_spec h1
    have last : Prim r → Ev (fun k => spec_l1Less.l0 k (r.length : Int) (r.length : Int) t r) (nf t r) := by
      intro hp
      rw [nf_prim hp, ev_step (fun k => by rw [spec_l1Less.l0]), ev_neg (by omega)]
      match ht : t.length with
      | 0 =>
        rw [ev_neg (by omega), ev_some]
        rfl
      | m + 1 =>
        have w1 : wrap64 (((m + 1 : Nat) : Int) - 1) = (m : Int) := by rw [wrap_in _ (by omega)]; omega
        have w2 : wrap64 ((r.length : Int) - 1) = ((r.length - 1 : Nat) : Int) := by rw [wrap_in _ (by omega)]; omega
        rw [ev_pos (by omega), w1, w2, ev_pos (by omega), ev_pos (by omega), ev_pos (by omega), ev_pos (by omega), rdOf_nat, rdOf_nat, trimN]
        by_cases c : t.getD m false = r.getD (r.length - 1) false
        · have := ih (t.take m) (rotL r) (by rw [List.length_take, rotL_length h1]; omega) (by rw [rotL_length h1]; exact h1)
          rw [nf_prim (prim_rot hp), show (t.take m).length = m by rw [List.length_take]; omega] at this
          rw [if_pos c, ev_pos (by simpa using c), ev_bind0 rfl, ev_pos (by omega), ev_bind0 rfl, ev_pos (by simp; omega), ev_pos (by omega), ev_bind (show Ev (fun k => spec_l1Less.f k (t.take ((m : Nat) : Int).toNat) ([r.getD (r.length - 1) false] ++ r.take ((r.length - 1 : Nat) : Int).toNat)) (trimN m (t.take m) (rotL r)) from this), ev_some]
        · rw [if_neg c, ev_neg (by simpa using c), ev_some]
    have loop : ∀ (e d : Nat), r.length - d = e → 1 ≤ d → d ≤ r.length → (∀ j, 1 ≤ j → j < d → turnsB r j = false) → Ev (fun k => spec_l1Less.l0 k (r.length : Int) (d : Int) t r) (nf t r) := by
      intro e
      induction e with
      | zero =>
        intro d he h2 h3 h4
        obtain rfl : d = r.length := by omega
        exact last ⟨h1, h4⟩
      | succ e ihe =>
        intro d he h2 h3 h4
        rw [ev_step (fun k => by rw [spec_l1Less.l0]), ev_pos (by omega), ev_neg (by omega)]
        refine less_l1 t r d h2 (by omega) (by omega) _ (fun hy => ?_) (fun hn => ?_) _ d _ rfl (Nat.le_refl _) h3 ?_
        · have hp : per r = d := by
            by_cases c : per r < d
            · rw [h4 _ g2 c] at g1
              cases g1
            · by_cases c2 : d < per r
              · rw [g4 d h2 c2] at hy
                cases hy
              · omega
          have := ih t (r.take d) (by rw [List.length_take]; omega) (by rw [List.length_take]; omega)
          rw [← hp, nf_take h1] at this
          rw [← hp]
          exact this
        · refine ihe (d + 1) (by omega) (by omega) (by omega) (fun j h5 h6 => ?_)
          by_cases c : j = d
          · rw [c]
            exact hn
          · exact h4 j h5 (by omega)
        · rw [tmod_nat, beq_iff_eq]
          constructor
          · intro h
            exact ⟨by omega, fun j h5 h6 => by omega⟩
          · intro h
            have := h.1
            omega
    rw [ev_step (fun k => by rw [spec_l1Less.f])]
    exact loop _ 1 rfl (Nat.le_refl _) h1 (fun j h5 h6 => by omega)
theorem less_ok {t r : List Bool} (h : SOk t r) : Ev (fun k => spec_l1Less.f k t r) (nf t r) := by
  have h1 := h.t60
  have h2 := h.r60
  exact less_ev 120 (by omega) t r (by omega) h.r1
end Go.Proofs.Ytjfmcbkclmoioaa.Pure
