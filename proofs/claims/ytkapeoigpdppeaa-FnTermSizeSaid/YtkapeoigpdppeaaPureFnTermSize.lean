/- The law FnTermSize answers true for every text that is drawn. It has no condition. -/
import Derived.Test.YtkapeoigpdppeaaQterm
import Derived.Test.YtkapeoigpdppeaaQsizes
import Derived.Test.YtkapeoigpdppeaaG10
import Derived.Test.YtkapeoigpdppeaaG11
namespace Go.Proofs.Ytkapeoigpdppeaa.Pure
open Go.RowKit Go.Proofs.Ytkapeoigpdppeaa.G Go.Proofs.YtkapeoigpdppeaaW.PrintWords Go.Proofs.YtkapeoigpdppeaaW.PrintLast
theorem law_size_l0 (s : ByteArray) (hs : s.size ≤ 1048576) (m : Int) (d : Nat) : ∀ (i n : Nat), s.size - i = d → i ≤ s.size → n ≤ i → m = ((n + sgns (s.data.toList.drop i) : Nat) : Int) → 1 ≤ m → Ev (fun k => laws_FnTermSize.l0 k s m (n : Int) (i : Int)) true := by
  have hz : s.size = s.data.toList.length := Lib.size_eq s
  induction d with
  | zero =>
    intro i n h1 h2 h3 hm h4
    have e : s.data.toList.drop i = [] := List.drop_eq_nil_iff.2 (by omega)
    rw [e] at hm
    have hm2 : m = (n : Int) := hm
    rw [ev_step (fun k => by rw [laws_FnTermSize.l0]), ev_neg (by omega), ev_pos hm2.symm, ev_some, decide_eq_true_eq]
    exact h4
  | succ d ih =>
    intro i n h1 h2 h3 hm h4
    obtain ⟨c, l, hc⟩ : ∃ c l, s.data.toList.drop i = c :: l := by
      cases hx : s.data.toList.drop i with
      | nil => exact absurd (List.drop_eq_nil_iff.1 hx) (by omega)
      | cons c l => exact ⟨c, l, rfl⟩
    obtain ⟨_, _, _, hd⟩ := ts_at hc
    have hb := bt_get hc
    rw [ev_step (fun k => by rw [laws_FnTermSize.l0]), ev_pos (by omega), ev_pos (by omega), hb, wrap_in ((i : Int) + 1) (by omega), wrap_in ((n : Int) + 1) (by omega)]
    rw [hc] at hm
    have g := ih (i + 1)
    rw [hd] at g
    by_cases k1 : c = 40
    · subst k1
      rw [ev_pos (by rfl)]
      exact g n (by omega) (by omega) (by omega) hm h4
    · by_cases k2 : c = 41
      · subst k2
        rw [ev_neg (by decide), ev_pos (by rfl)]
        exact g n (by omega) (by omega) (by omega) hm h4
      · rw [ev_neg (show ¬ ((c.toNat : Int) = 40) from fun e => k1 (UInt8.toNat_inj.1 (Int.ofNat.inj e))), ev_neg (show ¬ ((c.toNat : Int) = 41) from fun e => k2 (UInt8.toNat_inj.1 (Int.ofNat.inj e)))]
        rw [show sgns (c :: l) = sgns l + 1 from by unfold sgns; rw [List.countP_cons]; simp [sgn, k1, k2]] at hm
        exact g (n + 1) (by omega) (by omega) (by omega) (by omega) h4
theorem leaf_sgn {c : UInt8} (h : tp_leaf c = true) : sgn c = true := by
  unfold tp_leaf at h
  have : c = 48 ∨ c = 49 ∨ c = 97 := by simpa [or_assoc] using h
  rcases this with rfl | rfl | rfl <;> rfl
/-- A term has a sign that is no bracket. -/
theorem rest_sgn (n : Nat) : ∀ (l r : List UInt8), tp_rest n l = some r → sgns r + 1 ≤ sgns l := by
  induction n with
  | zero =>
    intro l r h
    simp [tp_rest] at h
  | succ n ih =>
    intro l r h
    cases l with
    | nil => simp [tp_rest] at h
    | cons c s =>
      have mono : sgns s ≤ sgns (c :: s) := by
        unfold sgns
        rw [List.countP_cons]
        omega
      rw [tp_rest] at h
      split at h
      · rename_i k
        cases h
        unfold sgns
        rw [List.countP_cons, leaf_sgn k]
        simp
      · split at h
        · have := ih _ _ h
          omega
        · split at h
          · cases h1 : tp_rest n s with
            | none =>
              rw [h1] at h
              simp [tp_two] at h
            | some r1 =>
              rw [h1] at h
              cases r1 with
              | nil => simp [tp_two] at h
              | cons d r1 =>
                rw [tp_two] at h
                split at h
                · cases h2 : tp_rest n r1 with
                  | none =>
                    rw [h2] at h
                    simp [tp_last] at h
                  | some r2 =>
                    rw [h2] at h
                    cases r2 with
                    | nil => simp [tp_last] at h
                    | cons e q =>
                      rw [tp_last] at h
                      split at h
                      · obtain rfl := Option.some.inj h
                        have a1 := ih _ _ h1
                        have a2 := ih _ _ h2
                        have m1 : sgns r1 ≤ sgns (d :: r1) := by
                          unfold sgns
                          rw [List.countP_cons]
                          omega
                        have m2 : sgns q ≤ sgns (e :: q) := by
                          unfold sgns
                          rw [List.countP_cons]
                          omega
                        omega
                      · cases h
                · cases h
          · cases h
theorem FnTermSize : laws_FnTermSize.Pure := by
  intro l0 hm _ hw
  refine Ev.rounds ?_
  simp only [laws_FnTermSize.f]
  by_cases c : (l0.length : Int) > 1048576
  · rw [ev_pos c, ev_some]
  obtain ⟨s, hs, eo⟩ := open_ev l0 hw
  obtain ⟨t, q, ht, e⟩ := said_ev s hs
  have hts : t.size ≤ 1048576 := by omega
  have ed : Ev (fun k => spec_DrawTermSize.f k l0) t := by
    simp only [spec_DrawTermSize.f]
    rw [ev_bind0 eo, ev_bind e, ev_some]
  rw [ev_neg c, ev_bind ed, ev_bind0 (impl_size_eq t hts), ev_bind (spec_size_ev t hts), ev_pos rfl, ev_step (fun k => by rw [laws_FnTermSize.j0]), ev_pos (by simp), ev_step (fun k => by rw [laws_FnTermSize.j1])]
  unfold sizeS
  by_cases h : tp_in t.data.toList = true
  · rw [if_pos h]
    rw [ev_neg (by simp)]
    have h1 : 1 ≤ sgns t.data.toList := by
      unfold tp_in at h
      rw [Bool.and_eq_true] at h
      have := rest_sgn 61 _ _ (by simpa using h.2)
      omega
    exact law_size_l0 t hts _ t.size 0 0 (by omega) (by omega) (by omega) (by rw [List.drop_zero, Nat.zero_add]) (by simp only; omega)
  · rw [if_neg h]
    rw [ev_pos (by rfl), ev_some]
    simp
end Go.Proofs.Ytkapeoigpdppeaa.Pure
