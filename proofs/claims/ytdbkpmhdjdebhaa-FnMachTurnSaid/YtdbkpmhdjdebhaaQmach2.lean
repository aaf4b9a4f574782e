/- Machines after so many steps: the program goes step by step, the reference finds the round; both come to the same. -/
import Derived.Test.YtdbkpmhdjdebhaaQmach
namespace Go.Proofs.Ytdbkpmhdjdebhaa.Pure
open Go.RowKit Go.Proofs.Ytdbkpmhdjdebhaa.G Go.Proofs.YtdbkpmhdjdebhaaW.PrintWords Go.Proofs.YtdbkpmhdjdebhaaW.PrintLast Go.Proofs.YtdbkpmhdjdebhaaW.PrintMore

def atN (l : List Int) (s : Nat) : Nat → Nat
  | 0 => s
  | k + 1 => nextN l (atN l s k)
theorem atN_lt {l : List Int} {a b : Int} (h : MOk l a b) {s : Nat} (hs : s < 2 ^ l.length) : ∀ k, atN l s k < 2 ^ l.length
  | 0 => hs
  | _ + 1 => nextN_lt h _
theorem atN_add (l : List Int) (s i : Nat) : ∀ k, atN l s (i + k) = atN l (atN l s i) k
  | 0 => rfl
  | k + 1 => by
    show nextN l (atN l s (i + k)) = _
    rw [atN_add l s i k]
    rfl
/-- From where it comes again on, it comes round. -/
theorem atN_round {l : List Int} {s m f : Nat} (hf : f < m) (h : atN l s m = atN l s f) : ∀ k, f ≤ k → atN l s k = atN l s (f + (k - f) % (m - f)) := by
  have step : ∀ t, atN l s (m + t) = atN l s (f + t) := fun t => by rw [atN_add, atN_add, h]
  intro k
  induction k using Nat.strongRecOn with
  | _ k ih =>
    intro hk
    by_cases hm : k < m
    · rw [Nat.mod_eq_of_lt (by omega)]
      congr 1
      omega
    · have h1 := step (k - m)
      rw [show m + (k - m) = k by omega] at h1
      rw [h1, ih (f + (k - m)) (by omega) (by omega)]
      congr 2
      rw [show k - f = (f + (k - m) - f) + (m - f) by omega, Nat.add_mod_right]
def atC (l : List Int) (a b k : Int) : Int × Bool := if machB l a b = true ∧ (0 ≤ k ∧ k ≤ 1000000) then ((atN l a.toNat k.toNat : Int), true) else (0, false)
theorem impl_at_l0 {l : List Int} {a b : Int} (h : MOk l a b) (n : Nat) (hn : n ≤ 1000000) (d : Nat) : ∀ (i : Nat), n - i = d → i ≤ n → Ev (fun k => impl_MachAt.l0 k (atN l a.toNat i : Int) (n : Int) (i : Int) l a b) ((atN l a.toNat n : Int), true) := by
  induction d with
  | zero =>
    intro i hd hi
    rw [ev_step (fun k => by rw [impl_MachAt.l0]), ev_neg (by omega), ev_some, show i = n by omega]
  | succ d ih =>
    intro i hd hi
    rw [ev_step (fun k => by rw [impl_MachAt.l0]), ev_pos (by omega), ev_bind (next_ev h _ (atN_lt h h.a1 i) _ _), wrap_in _ (by omega)]
    exact ih (i + 1) (by omega) (by omega)
theorem impl_machAt_ev (l : List Int) (a b k0 : Int) : Ev (fun k => impl_MachAt.f k l a b k0) (atC l a b k0) := by
  simp only [impl_MachAt.f]
  rw [ev_bind0 (impl_machIn l a b)]
  unfold atC
  by_cases h : machB l a b = true
  · rw [ev_pos h, ev_bind0 (in_eq _ _ _), ev_step (fun k => by rw [impl_MachAt.j0])]
    by_cases hk : 0 ≤ k0 ∧ k0 ≤ 1000000
    · rw [decide_eq_true hk, ev_neg (by simp), if_pos ⟨h, hk⟩]
      have hm := mOk h
      have := impl_at_l0 hm k0.toNat (by omega) k0.toNat 0 (by omega) (by omega)
      have ea : ((a.toNat : Nat) : Int) = a := Int.toNat_of_nonneg hm.a0
      have ek : ((k0.toNat : Nat) : Int) = k0 := Int.toNat_of_nonneg hk.1
      simp only [atN] at this
      rw [ea, ek] at this
      exact this
    · rw [decide_eq_false hk, ev_pos (by simp), ev_some, if_neg (fun z => hk z.2)]
  · rw [ev_neg h, ev_step (fun k => by rw [impl_MachAt.j0]), ev_pos rfl, ev_some, if_neg (fun z => h z.1)]
/-- How many places are still empty. -/
def zeros (l : List Int) : Nat := l.countP (fun x => x == 0)
theorem zeros_set : ∀ (l : List Int) (i : Nat) (v : Int) (hi : i < l.length), l[i] = 0 → v ≠ 0 → zeros (l.set i v) + 1 = zeros l := by
  intro l
  induction l with
  | nil => intro i v hi; simp at hi
  | cons x xs ih =>
    intro i v hi h0 hv
    cases i with
    | zero =>
      simp only [List.getElem_cons_zero] at h0
      simp [zeros, List.set_cons_zero, h0, hv]
    | succ i =>
      simp only [List.getElem_cons_succ] at h0
      have := ih i v (by simpa using hi) h0 hv
      simp only [zeros, List.set_cons_succ, List.countP_cons] at this ⊢
      omega
theorem zeros_replicate (n : Nat) : zeros (List.replicate n 0) = n := by
  simp [zeros, List.countP_replicate]
/-- What the reference has met: m different sets, the next of which is the one at place f. -/
structure Shape (l : List Int) (s m f : Nat) : Prop where
  lt : f < m
  eq : atN l s m = atN l s f
  ne : ∀ i j, i < j → j < m → atN l s i ≠ atN l s j
  le : m ≤ 32
def met (l : List Int) (s m : Nat) : List Int := (List.range m).map fun j => (atN l s j : Int)
theorem met_length (l : List Int) (s m : Nat) : (met l s m).length = m := by simp [met]
theorem met_get (l : List Int) (s m : Nat) {i : Nat} (hi : i < m) : rd (met l s m) (i : Int) = (atN l s i : Int) := by
  rw [rd_get (by rw [met_length]; exact hi)]
  simp [met]
theorem met_snoc (l : List Int) (s m : Nat) : met l s (m + 1) = met l s m ++ [(atN l s m : Int)] := by
  simp [met, List.range_succ]
theorem shape_l0 {l : List Int} {a b : Int} (h : MOk l a b) (d : Nat) : ∀ (m : Nat) (t : List Int), zeros t = d → t.length = 2 ^ l.length → m + zeros t = 2 ^ l.length →
    (∀ j, j < m → ∀ hh : atN l a.toNat j < t.length, t[atN l a.toNat j] = (j : Int) + 1) → (∀ v (hv : v < t.length), t[v] ≠ 0 → ∃ j, j < m ∧ atN l a.toNat j = v) → (∀ i j, i < j → j < m → atN l a.toNat i ≠ atN l a.toNat j) →
    ∃ m' f, Shape l a.toNat m' f ∧ Ev (fun k => spec_l6mShape.l0 k (met l a.toNat m) t (atN l a.toNat m : Int) l a b) (met l a.toNat m', (f : Int)) := by
  have hp : 2 ^ l.length ≤ 2 ^ 5 := Nat.pow_le_pow_right (by decide) h.n5
  have lt := fun k => atN_lt h h.a1 k
  induction d with
  | zero =>
    intro m t hz hl hm h1 h2 h3
    have hlt : atN l a.toNat m < t.length := by rw [hl]; exact lt m
    have hne : t[atN l a.toNat m] ≠ 0 := by
      intro h0
      have := zeros_set t _ 1 hlt h0 (by decide)
      omega
    obtain ⟨j, hj, e⟩ := h2 _ hlt hne
    refine ⟨m, j, ⟨hj, e.symm, h3, by omega⟩, ?_⟩
    have hv : t[atN l a.toNat m] = (j : Int) + 1 := by
      have := h1 j hj (by rw [hl]; exact lt j)
      simp only [e] at this
      exact this
    rw [ev_step (fun k => by rw [spec_l6mShape.l0]), ev_pos (by omega), ev_pos (by omega), rd_get hlt, ev_neg (by rw [hv]; omega), ev_some, hv, wrap_in _ (by omega)]
    congr 1
    omega
  | succ d ih =>
    intro m t hz hl hm h1 h2 h3
    have hlt : atN l a.toNat m < t.length := by rw [hl]; exact lt m
    by_cases h0 : t[atN l a.toNat m] = 0
    · have hs := zeros_set t _ ((m : Int) + 1) hlt h0 (by omega)
      have hnew : ∀ j, j < m → atN l a.toNat j ≠ atN l a.toNat m := by
        intro j hj e
        have := h1 j hj (by rw [hl]; exact lt j)
        simp only [e] at this
        omega
      obtain ⟨m', f, hS, hE⟩ := ih (m + 1) (t.set (atN l a.toNat m) ((m : Int) + 1)) (by omega) (by rw [List.length_set]; exact hl) (by omega) (by
          intro j hj hh
          rw [List.getElem_set]
          by_cases e : j = m
          · subst e
            simp
          · have := hnew j (by omega)
            rw [if_neg (fun z => this z.symm)]
            exact h1 j (by omega) (by rw [hl]; exact lt j)) (by
          intro v hv hne
          rw [List.getElem_set] at hne
          by_cases e : atN l a.toNat m = v
          · exact ⟨m, by omega, e⟩
          · rw [if_neg e] at hne
            obtain ⟨j, hj, ej⟩ := h2 v (by rw [List.length_set] at hv; exact hv) hne
            exact ⟨j, by omega, ej⟩) (by
          intro i j hij hj
          by_cases e : j = m
          · subst e
            exact hnew i hij
          · exact h3 i j hij (by omega))
      refine ⟨m', f, hS, ?_⟩
      rw [ev_step (fun k => by rw [spec_l6mShape.l0]), ev_pos (by omega), ev_pos (by omega), rd_get hlt, ev_pos h0, ev_pos (by rw [met_length]; omega), ev_bind0 rfl, ev_bind (step_ev h _ (lt m) _ _), ← met_snoc, met_length, Int.toNat_natCast]
      exact hE
    · obtain ⟨j, hj, e⟩ := h2 _ hlt h0
      refine ⟨m, j, ⟨hj, e.symm, h3, by omega⟩, ?_⟩
      have hv : t[atN l a.toNat m] = (j : Int) + 1 := by
        have := h1 j hj (by rw [hl]; exact lt j)
        simp only [e] at this
        exact this
      rw [ev_step (fun k => by rw [spec_l6mShape.l0]), ev_pos (by omega), ev_pos (by omega), rd_get hlt, ev_neg h0, ev_some, hv, wrap_in _ (by omega)]
      congr 1
      omega
theorem shl_one (n : Nat) (h : n ≤ 5) : shl .i64 1 (n : Int) = ((2 ^ n : Nat) : Int) := by
  have : n = 0 ∨ n = 1 ∨ n = 2 ∨ n = 3 ∨ n = 4 ∨ n = 5 := by omega
  rcases this with rfl | rfl | rfl | rfl | rfl | rfl <;> decide +kernel
theorem shape_ev {l : List Int} {a b : Int} (h : MOk l a b) : ∃ m f, Shape l a.toNat m f ∧ Ev (fun k => spec_l6mShape.f k l a b) (met l a.toNat m, (f : Int)) := by
  have hp : 2 ^ l.length ≤ 2 ^ 5 := Nat.pow_le_pow_right (by decide) h.n5
  obtain ⟨m, f, hS, hE⟩ := shape_l0 h (2 ^ l.length) 0 (List.replicate (2 ^ l.length) 0) (zeros_replicate _) (by simp) (by rw [zeros_replicate]; omega) (fun j hj => by omega) (fun v hv hne => by simp at hne) (fun i j _ hj => by omega)
  refine ⟨m, f, hS, ?_⟩
  simp only [spec_l6mShape.f, shl_one _ h.n5, Int.toNat_natCast]
  generalize 2 ^ l.length = N at *
  rw [ev_pos (by omega), ev_pos (by omega)]
  have ea : ((atN l a.toNat 0 : Nat) : Int) = a := Int.toNat_of_nonneg h.a0
  rw [ea] at hE
  exact hE
theorem spec_l6mAt_ev {l : List Int} {a b : Int} (h : MOk l a b) (n : Nat) (hn : n ≤ 1000000) : Ev (fun k => spec_l6mAt.f k l a b (n : Int)) (atN l a.toNat n : Int) := by
  obtain ⟨m, f, hS, hE⟩ := shape_ev h
  have h1 := hS.lt
  have h2 := hS.le
  simp only [spec_l6mAt.f]
  rw [ev_bind hE]
  simp only [met_length]
  by_cases hm : n < m
  · rw [ev_pos (by omega), ev_pos (by omega), ev_some, met_get _ _ _ hm]
  · have hr : (n - f) % (m - f) < m - f := Nat.mod_lt _ (by omega)
    have e1 : wrap64 ((m : Int) - (f : Int)) = ((m - f : Nat) : Int) := by rw [wrap_in _ (by omega)]; omega
    have e2 : wrap64 ((n : Int) - (f : Int)) = ((n - f : Nat) : Int) := by rw [wrap_in _ (by omega)]; omega
    rw [ev_neg (by omega), e1, e2, ← Int.ofNat_tmod]
    have e3 : wrap64 ((f : Int) + ((n - f) % (m - f) : Nat)) = ((f + (n - f) % (m - f) : Nat) : Int) := by rw [wrap_in _ (by omega)]; omega
    rw [e3, ev_neg (by omega), ev_pos (by omega), ev_pos (by omega), ev_some, met_get _ _ _ (by omega), ← atN_round h1 hS.eq n (by omega)]
theorem spec_machAt_ev (l : List Int) (a b k0 : Int) (hm : l.length ≤ 1048576) : Ev (fun k => spec_MachAt.f k l a b k0) (atC l a b k0) := by
  simp only [spec_MachAt.f]
  rw [ev_bind (spec_machIn_ev l a b hm)]
  unfold atC
  by_cases h : machB l a b = true
  · rw [ev_pos h, ev_bind0 (l6In_eq _ _ _)]
    by_cases hk : 0 ≤ k0 ∧ k0 ≤ 1000000
    · have := spec_l6mAt_ev (mOk h) k0.toNat (by omega)
      rw [show ((k0.toNat : Nat) : Int) = k0 from Int.toNat_of_nonneg hk.1] at this
      rw [ev_pos (by simpa using hk), ev_bind this, ev_some, if_pos ⟨h, hk⟩]
    · rw [ev_neg (by simpa using hk), ev_some, if_neg (fun z => hk z.2)]
  · rw [ev_neg h, ev_some, if_neg (fun z => h z.1)]
def takesC (l : List Int) (a b k : Int) : Bool := (atC l a b k).2 && (Go.bits .and .i64 (atC l a b k).1 b != 0)
theorem impl_machTakes_ev (l : List Int) (a b k0 : Int) : Ev (fun k => impl_MachTakes.f k l a b k0) (takesC l a b k0) := by
  simp only [impl_MachTakes.f]
  rw [ev_bind (impl_machAt_ev l a b k0)]
  unfold takesC
  by_cases h : (atC l a b k0).2 = true
  · rw [ev_pos h, ev_some, h, Bool.true_and]
  · rw [ev_neg h, ev_some, Bool.eq_false_iff.2 h, Bool.false_and]
theorem spec_machTakes_ev (l : List Int) (a b k0 : Int) (hm : l.length ≤ 1048576) : Ev (fun k => spec_MachTakes.f k l a b k0) (takesC l a b k0) := by
  simp only [spec_MachTakes.f]
  rw [ev_bind (spec_machIn_ev l a b hm)]
  unfold takesC atC
  by_cases h : machB l a b = true
  · rw [ev_pos h, ev_bind0 (l6In_eq _ _ _)]
    by_cases hk : 0 ≤ k0 ∧ k0 ≤ 1000000
    · have := spec_l6mAt_ev (mOk h) k0.toNat (by omega)
      rw [show ((k0.toNat : Nat) : Int) = k0 from Int.toNat_of_nonneg hk.1] at this
      rw [ev_pos (by simpa using hk), ev_bind this, ev_some, if_pos ⟨h, hk⟩, Bool.true_and]
    · rw [ev_neg (by simpa using hk), ev_some, if_neg (fun z => hk z.2), Bool.false_and]
  · rw [ev_neg h, ev_some, if_neg (fun z => h z.1), Bool.false_and]
end Go.Proofs.Ytdbkpmhdjdebhaa.Pure
