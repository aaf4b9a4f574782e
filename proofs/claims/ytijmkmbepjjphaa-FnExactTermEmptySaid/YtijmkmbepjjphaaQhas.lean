/- The reference's marks of a term are the term's numbers. -/
import Derived.Test.YtijmkmbepjjphaaQtree
import Derived.Test.YtijmkmbepjjphaaG10
import Derived.Test.YtijmkmbepjjphaaG12
import Derived.Test.YtijmkmbepjjphaaG9
namespace Go.Proofs.Ytijmkmbepjjphaa.Pure
open Go.RowKit Go.Proofs.Ytijmkmbepjjphaa.G Go.Proofs.Ytijmkmbepjjphaa.G.X Go.Proofs.YtijmkmbepjjphaaW.PrintWords Go.Proofs.YtijmkmbepjjphaaW.PrintLast

theorem rd_mkb (xs : List Bool) (n : Nat) : rdOf false xs (n : Int) = mkb xs n := by
  rw [rdOf, Int.toNat_natCast]
  rfl
/-! ### Sums -/
def PO (N : Nat) (a b : Nat → Bool) (i : Nat) (out : List Bool) : Prop := out.length = N ∧ ∀ n, n < N → (mkb out n = true ↔ ∃ j, j < i ∧ j ≤ n ∧ a j = true ∧ b (n - j) = true)
def PI (N : Nat) (a b : Nat → Bool) (i k : Nat) (out : List Bool) : Prop := out.length = N ∧ ∀ n, n < N → (mkb out n = true ↔ (∃ j, j < i ∧ j ≤ n ∧ a j = true ∧ b (n - j) = true) ∨ (i ≤ n ∧ n < i + k ∧ b (n - i) = true))
theorem PO_start (N : Nat) (a b : Nat → Bool) : PO N a b 0 (List.replicate N false) := by
  refine ⟨List.length_replicate, fun n hn => ⟨fun h => ?_, fun ⟨j, hj, _⟩ => absurd hj (by omega)⟩⟩
  rw [mkb_rep] at h
  cases h
theorem PI_start {N : Nat} {a b : Nat → Bool} {i : Nat} {out : List Bool} (h : PO N a b i out) : PI N a b i 0 out :=
  ⟨h.1, fun n hn => (h.2 n hn).trans ⟨.inl, fun h => h.elim id (fun ⟨h1, h2, _⟩ => absurd h1 (by omega))⟩⟩
theorem PI_step {N : Nat} {a b : Nat → Bool} {i k : Nat} {out : List Bool} (h : PI N a b i k out) (hk : i + k < N) : PI N a b i (k + 1) (out.set (i + k) (mkb out (i + k) || b k)) := by
  refine ⟨by rw [List.length_set]; exact h.1, fun n hn => ?_⟩
  rw [mkb_set (by rw [h.1]; exact hk)]
  by_cases e : n = i + k
  · subst e
    rw [if_pos rfl, Bool.or_eq_true, h.2 _ hn]
    constructor
    · rintro ((h1 | ⟨_, h2, _⟩) | h1)
      · exact .inl h1
      · omega
      · exact .inr ⟨by omega, by omega, by rw [Nat.add_sub_cancel_left]; exact h1⟩
    · rintro (h1 | ⟨_, _, h3⟩)
      · exact .inl (.inl h1)
      · rw [Nat.add_sub_cancel_left] at h3
        exact .inr h3
  · rw [if_neg e, h.2 n hn]
    constructor
    · rintro (h1 | ⟨h1, h2, h3⟩)
      · exact .inl h1
      · exact .inr ⟨h1, by omega, h3⟩
    · rintro (h1 | ⟨h1, h2, h3⟩)
      · exact .inl h1
      · exact .inr ⟨h1, by omega, h3⟩
theorem PO_off {N : Nat} {a b : Nat → Bool} {i : Nat} {out : List Bool} (h : PO N a b i out) (ha : a i = false) : PO N a b (i + 1) out := by
  refine ⟨h.1, fun n hn => (h.2 n hn).trans ⟨fun ⟨j, h1, h2⟩ => ⟨j, by omega, h2⟩, fun ⟨j, h1, h2, h3, h4⟩ => ?_⟩⟩
  by_cases e : j = i
  · subst e
    rw [ha] at h3
    cases h3
  · exact ⟨j, by omega, h2, h3, h4⟩
theorem PO_on {N : Nat} {a b : Nat → Bool} {i k : Nat} {out : List Bool} (h : PI N a b i k out) (hk : i + k = N) (ha : a i = true) : PO N a b (i + 1) out := by
  refine ⟨h.1, fun n hn => (h.2 n hn).trans ⟨?_, fun ⟨j, h1, h2, h3, h4⟩ => ?_⟩⟩
  · rintro (⟨j, h1, h2⟩ | ⟨h1, h2, h3⟩)
    · exact ⟨j, by omega, h2⟩
    · exact ⟨i, by omega, h1, ha, h3⟩
  · by_cases e : j = i
    · subst e
      exact .inr ⟨h2, by omega, h4⟩
    · exact .inl ⟨j, by omega, h2, h3, h4⟩
theorem PO_end {N : Nat} {a b : Nat → Bool} {out : List Bool} (h : PO N a b N out) : ∀ n, n < N → mkb out n = sumB a b n := by
  intro n hn
  rw [Bool.eq_iff_iff, h.2 n hn, sumB_iff]
  exact ⟨fun ⟨j, _, h2⟩ => ⟨j, h2⟩, fun ⟨j, h2⟩ => ⟨j, by omega, h2⟩⟩
theorem sum_l1 {xs ys : List Bool} {N : Nat} (hx : xs.length = N) (hy : ys.length = N) (hN : N ≤ 201) {i : Nat} (hi : i < N) (ha : mkb xs i = true) : ∀ (d y : Nat) (out : List Bool), i + y + d = N → PI N (mkb xs) (mkb ys) i y out →
    ∃ out', PO N (mkb xs) (mkb ys) (i + 1) out' ∧ ∀ r, Ev (fun k => spec_l7Sum.l0 k xs ys out' ((i + 1 : Nat) : Int)) r → Ev (fun k => spec_l7Sum.l1 k xs ys out (i : Int) (y : Int)) r := by
  intro d
  induction d with
  | zero =>
    intro y out hd h
    refine ⟨out, PO_on h (by omega) ha, fun r hr => ?_⟩
    have hw : wrap64 ((i : Int) + (y : Int)) = ((i + y : Nat) : Int) := by unfold wrap64; omega
    have hw2 : wrap64 ((i : Int) + 1) = ((i + 1 : Nat) : Int) := by unfold wrap64; omega
    refine (ev_step (f := fun k => spec_l7Sum.l0 k xs ys out ((i + 1 : Nat) : Int)) (fun k => ?_)).2 hr
    rw [spec_l7Sum.l1, hw, if_neg (by omega), hw2]
  | succ d ih =>
    intro y out hd h
    obtain ⟨out', h1, h2⟩ := ih (y + 1) _ (by omega) (PI_step h (by omega))
    refine ⟨out', h1, fun r hr => ?_⟩
    have hw : wrap64 ((i : Int) + (y : Int)) = ((i + y : Nat) : Int) := by unfold wrap64; omega
    have hw2 : wrap64 ((y : Int) + 1) = ((y + 1 : Nat) : Int) := by unfold wrap64; omega
    have hl := h.1
    refine (ev_step (fun k => ?_)).2 (h2 r hr)
    rw [spec_l7Sum.l1, hw, if_pos (by omega), if_pos (by omega), if_pos (by omega), rd_mkb, if_pos ha, if_pos (by omega), if_pos (by omega), rd_mkb, rd_mkb, hw2, Int.toNat_natCast]
    cases mkb out (i + y) with
    | true => rw [if_pos rfl]; rfl
    | false => rw [if_neg (by decide), if_pos (by omega), if_pos (by omega)]; rfl
theorem sum_l0 {xs ys : List Bool} {N : Nat} (hx : xs.length = N) (hy : ys.length = N) (hN : N ≤ 201) : ∀ (d i : Nat) (out : List Bool), i + d = N → PO N (mkb xs) (mkb ys) i out →
    ∃ r, PO N (mkb xs) (mkb ys) N r ∧ Ev (fun k => spec_l7Sum.l0 k xs ys out (i : Int)) r := by
  intro d
  induction d with
  | zero =>
    intro i out hd h
    obtain rfl : i = N := by omega
    refine ⟨out, h, (ev_step (f := fun k => some out) (fun k => ?_)).2 ((ev_some _ _).2 rfl)⟩
    rw [spec_l7Sum.l0, if_neg (by omega)]
  | succ d ih =>
    intro i out hd h
    by_cases ha : mkb xs i = true
    · obtain ⟨out', h1, h2⟩ := sum_l1 hx hy hN (by omega) ha (N - i) 0 out (by omega) (PI_start h)
      obtain ⟨r, h3, h4⟩ := ih (i + 1) out' (by omega) h1
      refine ⟨r, h3, (ev_step (fun k => ?_)).2 (h2 r h4)⟩
      rw [spec_l7Sum.l0, if_pos (by omega)]
      rfl
    · obtain ⟨r, h3, h4⟩ := ih (i + 1) out (by omega) (PO_off h (Bool.eq_false_iff.2 ha))
      have hw : wrap64 ((i : Int) + 0) = (i : Int) := by unfold wrap64; omega
      have hw2 : wrap64 ((i : Int) + 1) = ((i + 1 : Nat) : Int) := by unfold wrap64; omega
      refine ⟨r, h3, (ev_step (f := fun k => spec_l7Sum.l1 k xs ys out (i : Int) 0) (fun k => ?_)).2 ((ev_step (fun k => ?_)).2 h4)⟩
      · rw [spec_l7Sum.l0, if_pos (by omega)]
      · rw [spec_l7Sum.l1, hw, if_pos (by omega), if_pos (by omega), if_pos (by omega), rd_mkb, if_neg ha, hw2]
theorem sum_ev {xs ys : List Bool} {N : Nat} (hx : xs.length = N) (hy : ys.length = N) (hN : N ≤ 201) : ∃ r, r.length = N ∧ (∀ n, n < N → mkb r n = sumB (mkb xs) (mkb ys) n) ∧ Ev (fun k => spec_l7Sum.f k xs ys) r := by
  obtain ⟨r, h1, h2⟩ := sum_l0 hx hy hN N 0 _ (by omega) (PO_start N (mkb xs) (mkb ys))
  refine ⟨r, h1.1, PO_end h1, ?_⟩
  have h3 : (fun k => spec_l7Sum.f k xs ys) = fun k => spec_l7Sum.l0 k xs ys (List.replicate N false) ((0 : Nat) : Int) := by
    funext k
    rw [spec_l7Sum.f, hx, if_pos (by omega), if_pos (by rw [Int.toNat_natCast]; omega), Int.toNat_natCast]
    rfl
  rw [h3]
  exact h2
/-! ### The star -/
def TO (N : Nat) (a : Nat → Bool) (n : Nat) (out : List Bool) : Prop := out.length = N ∧ ∀ m, m < n → mkb out m = stB a m
def TI (N : Nat) (a : Nat → Bool) (n k : Nat) (out : List Bool) : Prop := out.length = N ∧ (∀ m, m < n → mkb out m = stB a m) ∧ (mkb out n = true ↔ n = 0 ∨ ∃ j, 1 ≤ j ∧ j < k ∧ a j = true ∧ stB a (n - j) = true)
theorem TI_start {N : Nat} {a : Nat → Bool} {n : Nat} {out : List Bool} (h : TO N a n out) (hn : n < N) : TI N a n 1 (out.set n ((n : Int) == 0)) := by
  refine ⟨by rw [List.length_set]; exact h.1, fun m hm => ?_, ?_⟩
  · rw [mkb_set (by rw [h.1]; exact hn), if_neg (by omega)]
    exact h.2 m hm
  · rw [mkb_set (by rw [h.1]; exact hn), if_pos rfl]
    constructor
    · intro e
      have : (n : Int) = 0 := by simpa using e
      exact .inl (by omega)
    · rintro (e | ⟨j, h1, h2, _⟩)
      · subst e
        rfl
      · omega
theorem TI_step {N : Nat} {a : Nat → Bool} {n k : Nat} {out : List Bool} (h : TI N a n k out) (hn : n < N) (h1 : 1 ≤ k) (hk : k ≤ n) : TI N a n (k + 1) (out.set n (mkb out n || (a k && mkb out (n - k)))) := by
  refine ⟨by rw [List.length_set]; exact h.1, fun m hm => ?_, ?_⟩
  · rw [mkb_set (by rw [h.1]; exact hn), if_neg (by omega)]
    exact h.2.1 m hm
  · rw [mkb_set (by rw [h.1]; exact hn), if_pos rfl, Bool.or_eq_true, Bool.and_eq_true, h.2.2, h.2.1 (n - k) (by omega)]
    constructor
    · rintro ((e | ⟨j, h2, h3, h4⟩) | ⟨h3, h4⟩)
      · exact .inl e
      · exact .inr ⟨j, h2, by omega, h4⟩
      · exact .inr ⟨k, h1, by omega, h3, h4⟩
    · rintro (e | ⟨j, h2, h3, h4, h5⟩)
      · exact .inl (.inl e)
      · by_cases e : j = k
        · subst e
          exact .inr ⟨h4, h5⟩
        · exact .inl (.inr ⟨j, h2, by omega, h4, h5⟩)
theorem TI_end {N : Nat} {a : Nat → Bool} {n : Nat} {out : List Bool} (h : TI N a n (n + 1) out) : TO N a (n + 1) out := by
  refine ⟨h.1, fun m hm => ?_⟩
  by_cases e : m = n
  · subst e
    by_cases e0 : m = 0
    · subst e0
      rw [stB_zero]
      exact h.2.2.2 (.inl rfl)
    · rw [Bool.eq_iff_iff, h.2.2, stB_iff (by omega)]
      constructor
      · rintro (e | ⟨j, a1, a2, a3⟩)
        · omega
        · exact ⟨j, a1, by omega, a3⟩
      · rintro ⟨j, a1, a2, a3⟩
        exact .inr ⟨j, a1, by omega, a3⟩
  · exact h.2.1 m (by omega)
theorem star_l1 {xs : List Bool} {N : Nat} (hx : xs.length = N) (hN : N ≤ 201) {n : Nat} (hn : n < N) : ∀ (d y : Nat) (out : List Bool), 1 ≤ y → y + d = n + 1 → TI N (mkb xs) n y out →
    ∃ out', TO N (mkb xs) (n + 1) out' ∧ ∀ r, Ev (fun k => spec_l7Marks.l0 k (N : Int) out' xs ((n + 1 : Nat) : Int)) r → Ev (fun k => spec_l7Marks.l1 k (N : Int) out xs (n : Int) (y : Int)) r := by
  intro d
  induction d with
  | zero =>
    intro y out hy hd h
    obtain rfl : y = n + 1 := by omega
    refine ⟨out, TI_end h, fun r hr => ?_⟩
    have hw2 : wrap64 ((n : Int) + 1) = ((n + 1 : Nat) : Int) := by unfold wrap64; omega
    refine (ev_step (f := fun k => spec_l7Marks.l0 k (N : Int) out xs ((n + 1 : Nat) : Int)) (fun k => ?_)).2 hr
    rw [spec_l7Marks.l1, if_neg (by omega), hw2]
  | succ d ih =>
    intro y out hy hd h
    obtain ⟨out', h1, h2⟩ := ih (y + 1) _ (by omega) (by omega) (TI_step h hn hy (by omega))
    refine ⟨out', h1, fun r hr => ?_⟩
    have hw : wrap64 ((n : Int) - (y : Int)) = ((n - y : Nat) : Int) := by unfold wrap64; omega
    have hw2 : wrap64 ((y : Int) + 1) = ((y + 1 : Nat) : Int) := by unfold wrap64; omega
    have hl := h.1
    refine (ev_step (fun k => ?_)).2 (h2 r hr)
    rw [spec_l7Marks.l1, if_pos (by omega), if_pos (by omega), if_pos (by omega), rd_mkb, rd_mkb, hw, hw2, rd_mkb, Int.toNat_natCast]
    cases mkb out n with
    | true => rw [if_pos rfl]; rfl
    | false =>
      rw [if_neg (by decide), if_pos (by omega), if_pos (by omega)]
      cases mkb xs y with
      | true => rw [if_pos rfl, if_pos (by omega), if_pos (by omega)]; rfl
      | false => rw [if_neg (by decide)]; rfl
theorem star_l0 {xs : List Bool} {N : Nat} (hx : xs.length = N) (hN : N ≤ 201) : ∀ (d n : Nat) (out : List Bool), n + d = N → TO N (mkb xs) n out →
    ∃ r, TO N (mkb xs) N r ∧ Ev (fun k => spec_l7Marks.l0 k (N : Int) out xs (n : Int)) r := by
  intro d
  induction d with
  | zero =>
    intro n out hd h
    obtain rfl : n = N := by omega
    refine ⟨out, h, (ev_step (f := fun k => some out) (fun k => ?_)).2 ((ev_some _ _).2 rfl)⟩
    rw [spec_l7Marks.l0, if_neg (by omega)]
  | succ d ih =>
    intro n out hd h
    have hl := h.1
    obtain ⟨out', h1, h2⟩ := star_l1 hx hN (by omega) n 1 _ (Nat.le_refl _) (by omega) (TI_start h (by omega))
    obtain ⟨r, h3, h4⟩ := ih (n + 1) out' (by omega) h1
    refine ⟨r, h3, (ev_step (fun k => ?_)).2 (h2 r h4)⟩
    rw [spec_l7Marks.l0, if_pos (by omega), if_pos (by omega), if_pos (by omega), Int.toNat_natCast]
    rfl
/-! ### Both, either -/
def VO (N : Nat) (f : Nat → Bool) (n : Nat) (out : List Bool) : Prop := out.length = N ∧ ∀ m, m < n → mkb out m = f m
theorem VO_step {N : Nat} {f : Nat → Bool} {n : Nat} {out : List Bool} (h : VO N f n out) (hn : n < N) : VO N f (n + 1) (out.set n (f n)) := by
  refine ⟨by rw [List.length_set]; exact h.1, fun m hm => ?_⟩
  rw [mkb_set (by rw [h.1]; exact hn)]
  by_cases e : m = n
  · rw [if_pos e, e]
  · rw [if_neg e]
    exact h.2 m (by omega)
theorem op_l3 (c : Int) (p : Bool) (hp : (c = 43) ↔ p = true) (l : List S28) {xs ys : List Bool} {N : Nat} (hx : xs.length = N) (hy : ys.length = N) (hN : N ≤ 201) : ∀ (d n : Nat) (out : List Bool), n + d = N → VO N (opB p (mkb xs) (mkb ys)) n out →
    ∃ r, VO N (opB p (mkb xs) (mkb ys)) N r ∧ Ev (fun k => spec_l7Marks.l3 k (N : Int) out xs ys (n : Int) c l) r := by
  intro d
  induction d with
  | zero =>
    intro n out hd h
    obtain rfl : n = N := by omega
    refine ⟨out, h, (ev_step (f := fun k => some out) (fun k => ?_)).2 ((ev_some _ _).2 rfl)⟩
    rw [spec_l7Marks.l3, if_neg (by omega)]
  | succ d ih =>
    intro n out hd h
    have hl := h.1
    have hw2 : wrap64 ((n : Int) + 1) = ((n + 1 : Nat) : Int) := by unfold wrap64; omega
    obtain ⟨r, h3, h4⟩ := ih (n + 1) _ (by omega) (VO_step h (by omega))
    refine ⟨r, h3, (ev_step (fun k => ?_)).2 h4⟩
    rw [spec_l7Marks.l3, if_pos (by omega), rd_mkb, rd_mkb, hw2, Int.toNat_natCast]
    cases p with
    | true =>
      rw [show opB true (mkb xs) (mkb ys) n = (mkb xs n || mkb ys n) from rfl, if_pos (hp.2 rfl), if_pos (by omega), if_pos (by omega)]
      cases mkb xs n with
      | true => rw [if_pos rfl, if_pos (by omega)]; rfl
      | false => rw [if_neg (by decide), if_pos (by omega), if_pos (by omega)]; rfl
    | false =>
      rw [show opB false (mkb xs) (mkb ys) n = (mkb xs n && mkb ys n) from rfl, if_neg (fun e => absurd (hp.1 e) (by decide)), if_pos (by omega), if_pos (by omega)]
      cases mkb xs n with
      | true => rw [if_pos rfl, if_pos (by omega), if_pos (by omega)]; rfl
      | false => rw [if_neg (by decide), if_pos (by omega)]; rfl
/-! ### So many times -/
theorem pw_one (a : Nat → Bool) (n : Nat) : pwB a 1 n = a n := by
  show sumB (fun n => n == 0) a n = a n
  rw [Bool.eq_iff_iff, sumB_iff]
  constructor
  · rintro ⟨j, h1, h2, h3⟩
    have : j = 0 := by simpa using h2
    subst this
    exact h3
  · intro h
    exact ⟨0, by omega, rfl, h⟩
theorem times_l2 (f : Nat → Bool) (c : Nat) (hc : c ≤ 53) (l : List S28) {xs : List Bool} {N : Nat} (hx : xs.length = N) (hf : ∀ n, n < N → mkb xs n = f n) (hN : N ≤ 201) : ∀ (d m : Nat) (out : List Bool), 1 ≤ m → m + 48 + d = c → out.length = N → (∀ n, n < N → mkb out n = pwB f m n) →
    ∃ r, r.length = N ∧ (∀ n, n < N → mkb r n = pwB f (c - 48) n) ∧ Ev (fun k => spec_l7Marks.l2 k out xs ((m + 48 : Nat) : Int) (c : Int) l) r := by
  intro d
  induction d with
  | zero =>
    intro m out hm hd hl ho
    obtain rfl : m + 48 = c := by omega
    refine ⟨out, hl, fun n hn => ?_, (ev_step (f := fun k => some out) (fun k => ?_)).2 ((ev_some _ _).2 rfl)⟩
    · rw [Nat.add_sub_cancel]
      exact ho n hn
    · rw [spec_l7Marks.l2, if_neg (by omega)]
  | succ d ih =>
    intro m out hm hd hl ho
    obtain ⟨s, h1, h2, h3⟩ := sum_ev hl hx hN
    obtain ⟨r, h4, h5, h6⟩ := ih (m + 1) s (by omega) (by omega) h1 (fun n hn => (h2 n hn).trans (sumB_congr (fun i hi => ho i (by omega)) (fun i hi => hf i (by omega))))
    have hw : (((m + 48 : Nat) : Int) + 1) % 256 = ((m + 1 + 48 : Nat) : Int) := by omega
    refine ⟨r, h4, h5, (ev_step (f := fun k => (spec_l7Sum.f k out xs).bind fun t => spec_l7Marks.l2 k t xs ((m + 1 + 48 : Nat) : Int) (c : Int) l) (fun k => ?_)).2 ((ev_bind h3).2 h6)⟩
    rw [spec_l7Marks.l2, if_pos (by omega), hw]
/-! ### The marks of a term -/
theorem marks_f (c : Int) (l : List S28) {N : Nat} (hN : N ≤ 201) (k : Nat) : spec_l7Marks.f (k + 1) c l (N : Int) = (if c = 48 then some (List.replicate N false) else if c = 49 then spec_l7Marks.j0 k (N : Int) (List.replicate N false) true c l else spec_l7Marks.j0 k (N : Int) (List.replicate N false) (c == 97) c l) := by
  rw [spec_l7Marks.f, if_pos (by omega), if_pos (by rw [Int.toNat_natCast]; omega), Int.toNat_natCast]
  rfl
theorem u8_ne {c d : UInt8} (h : c ≠ d) {e : Int} (he : e = (d.toNat : Int)) : ¬ (c.toNat : Int) = e := fun q => h (UInt8.toNat_inj.1 (by omega))
/-- Behind the first part. -/
theorem marks_part (c : Int) (h48 : ¬ c = 48) (h49 : ¬ c = 49) (h97 : ¬ c = 97) (x : Te) (l : List S28) {N : Nat} (hN : N ≤ 201) {xs r : List Bool} (hx : Ev (fun k => spec_l7Marks.f k (sm x).f0 (sm x).f1 (N : Int)) xs)
    (h : Ev (fun k => if c = 42 then (spec_l7Marks.l0 k (N : Int) (List.replicate N false) xs 0) else (if c ≥ 50 then (spec_l7Marks.j3 k (N : Int) (List.replicate N false) xs (decide (c ≤ 53)) c (sm x :: l)) else (spec_l7Marks.j3 k (N : Int) (List.replicate N false) xs false c (sm x :: l)))) r) : Ev (fun k => spec_l7Marks.f k c (sm x :: l) (N : Int)) r := by
  refine (ev_step (f := fun k => spec_l7Marks.j0 k (N : Int) (List.replicate N false) (c == 97) c (sm x :: l)) (fun k => ?_)).2 ?_
  · rw [marks_f c _ hN, if_neg h48, if_neg h49]
  · refine (ev_step (f := fun k => (spec_l7Marks.f k (sm x).f0 (sm x).f1 (N : Int)).bind fun t => if c = 42 then (spec_l7Marks.l0 k (N : Int) (List.replicate N false) t 0) else (if c ≥ 50 then (spec_l7Marks.j3 k (N : Int) (List.replicate N false) t (decide (c ≤ 53)) c (sm x :: l)) else (spec_l7Marks.j3 k (N : Int) (List.replicate N false) t false c (sm x :: l)))) (fun k => ?_)).2 ((ev_bind hx).2 h)
    rw [spec_l7Marks.j0, if_neg (by simpa using h97), if_pos (by rw [List.length_cons]; omega)]
    rfl
theorem marks_ev {N : Nat} (h1 : 1 ≤ N) (hN : N ≤ 201) : ∀ {x : Te}, Wt x → ∃ r, r.length = N ∧ (∀ n, n < N → mkb r n = den x n) ∧ Ev (fun k => spec_l7Marks.f k (sm x).f0 (sm x).f1 (N : Int)) r
  | _, .leaf c h => by
    have hc : c = 48 ∨ c = 49 ∨ c = 97 := by
      unfold tp_leaf at h
      simpa [or_assoc] using h
    rcases hc with rfl | rfl | rfl
    · refine ⟨List.replicate N false, List.length_replicate, fun n hn => mkb_rep N n, (ev_step (f := fun k => some (List.replicate N false)) (fun k => ?_)).2 ((ev_some _ _).2 rfl)⟩
      show spec_l7Marks.f (k + 1) 48 [] (N : Int) = _
      rw [marks_f 48 _ hN, if_pos rfl]
    · refine ⟨(List.replicate N false).set 0 true, by rw [List.length_set, List.length_replicate], fun n hn => ?_, (ev_step (f := fun k => spec_l7Marks.j0 k (N : Int) (List.replicate N false) true 49 []) (fun k => ?_)).2 ((ev_step (f := fun k => some ((List.replicate N false).set 0 true)) (fun k => ?_)).2 ((ev_some _ _).2 rfl))⟩
      · rw [mkb_set (by rw [List.length_replicate]; omega), mkb_rep]
        show _ = (n == 0)
        by_cases e : n = 0
        · rw [if_pos e, e]; rfl
        · rw [if_neg e]; exact (beq_eq_false_iff_ne.2 e).symm
      · show spec_l7Marks.f (k + 1) 49 [] (N : Int) = _
        rw [marks_f 49 _ hN, if_neg (by decide), if_pos rfl]
      · rw [spec_l7Marks.j0, if_pos rfl, show spec_l1Bit.f ((49 : Int) == 97) = some 0 from rfl, Option.bind_some, if_pos (by omega), if_pos (by omega), if_pos (by rw [List.length_replicate]; omega)]
        rfl
    · by_cases e1 : 1 < N
      · refine ⟨(List.replicate N false).set 1 true, by rw [List.length_set, List.length_replicate], fun n hn => ?_, (ev_step (f := fun k => spec_l7Marks.j0 k (N : Int) (List.replicate N false) true 97 []) (fun k => ?_)).2 ((ev_step (f := fun k => some ((List.replicate N false).set 1 true)) (fun k => ?_)).2 ((ev_some _ _).2 rfl))⟩
        · rw [mkb_set (by rw [List.length_replicate]; omega), mkb_rep]
          show _ = (n == 1)
          by_cases e : n = 1
          · rw [if_pos e, e]; rfl
          · rw [if_neg e]; exact (beq_eq_false_iff_ne.2 e).symm
        · show spec_l7Marks.f (k + 1) 97 [] (N : Int) = _
          rw [marks_f 97 _ hN, if_neg (by decide), if_neg (by decide)]
          rfl
        · rw [spec_l7Marks.j0, if_pos rfl, show spec_l1Bit.f ((97 : Int) == 97) = some 1 from rfl, Option.bind_some, if_pos (by omega), if_pos (by omega), if_pos (by rw [List.length_replicate]; omega)]
          rfl
      · refine ⟨List.replicate N false, List.length_replicate, fun n hn => ?_, (ev_step (f := fun k => spec_l7Marks.j0 k (N : Int) (List.replicate N false) true 97 []) (fun k => ?_)).2 ((ev_step (f := fun k => some (List.replicate N false)) (fun k => ?_)).2 ((ev_some _ _).2 rfl))⟩
        · rw [mkb_rep]
          show _ = (n == 1)
          exact (beq_eq_false_iff_ne.2 (by omega)).symm
        · show spec_l7Marks.f (k + 1) 97 [] (N : Int) = _
          rw [marks_f 97 _ hN, if_neg (by decide), if_neg (by decide)]
          rfl
        · rw [spec_l7Marks.j0, if_pos rfl, show spec_l1Bit.f ((97 : Int) == 97) = some 1 from rfl, Option.bind_some, if_neg (by omega)]
  | _, .one c x h hx => by
    obtain ⟨xs, hl, hd, he⟩ := marks_ev h1 hN hx
    rcases tp_one_cases h with rfl | hc
    · obtain ⟨r, h3, h4⟩ := star_l0 hl hN N 0 (List.replicate N false) (by omega) ⟨List.length_replicate, fun m hm => absurd hm (by omega)⟩
      refine ⟨r, h3.1, fun n hn => (h3.2 n hn).trans (stB_congr n (fun i hi => hd i (by omega))), ?_⟩
      exact marks_part 42 (by decide) (by decide) (by decide) x [] hN he ((ev_pos rfl).2 h4)
    · obtain ⟨r, h3, h4, h5⟩ := times_l2 (den x) c.toNat hc.2 [sm x] hl hd hN (c.toNat - 49) 1 xs (Nat.le_refl _) (by omega) hl (fun n hn => by rw [pw_one]; exact hd n hn)
      refine ⟨r, h3, fun n hn => by rw [h4 n hn, den_pow (beq_eq_false_iff_ne.2 (by rintro rfl; exact absurd hc.1 (by decide)))], ?_⟩
      refine marks_part (c.toNat : Int) (by omega) (by omega) (by omega) x [] hN he ?_
      refine (ev_neg (by omega)).2 ((ev_pos (by omega)).2 ((ev_step (f := fun k => spec_l7Marks.l2 k xs xs ((1 + 48 : Nat) : Int) (c.toNat : Int) [sm x]) (fun k => ?_)).2 h5))
      rw [spec_l7Marks.j3, decide_eq_true (by omega), if_pos rfl]
      rfl
  | _, .two c x y h hx hy => by
    obtain ⟨xs, hl, hd, he⟩ := marks_ev h1 hN hx
    obtain ⟨ys, hl2, hd2, he2⟩ := marks_ev h1 hN hy
    rcases tp_op_cases h with rfl | rfl | rfl
    · obtain ⟨r, h3, h4⟩ := op_l3 43 true (by simp) [sm x, sm y] hl hl2 hN N 0 (List.replicate N false) (by omega) ⟨List.length_replicate, fun m hm => absurd hm (by omega)⟩
      refine ⟨r, h3.1, fun n hn => (h3.2 n hn).trans ((opB_congr (hd n hn) (hd2 n hn)).trans (den_or x y n).symm), ?_⟩
      refine marks_part 43 (by decide) (by decide) (by decide) x [sm y] hN he ((ev_neg (by decide)).2 ((ev_neg (by decide)).2 ((ev_step (f := fun k => (spec_l7Marks.f k (sm y).f0 (sm y).f1 (N : Int)).bind fun t => spec_l7Marks.l3 k (N : Int) (List.replicate N false) xs t 0 43 [sm x, sm y]) (fun k => ?_)).2 ((ev_bind he2).2 h4))))
      rw [spec_l7Marks.j3, if_neg (by decide), if_pos (by simp)]
      rfl
    · obtain ⟨r, h3, h4, h5⟩ := sum_ev hl hl2 hN
      refine ⟨r, h3, fun n hn => (h4 n hn).trans ((sumB_congr (fun i hi => hd i (by omega)) (fun i hi => hd2 i (by omega))).trans (den_sum x y n).symm), ?_⟩
      refine marks_part 46 (by decide) (by decide) (by decide) x [sm y] hN he ((ev_neg (by decide)).2 ((ev_neg (by decide)).2 ((ev_step (f := fun k => (spec_l7Marks.f k (sm y).f0 (sm y).f1 (N : Int)).bind fun t => (spec_l7Sum.f k xs t).bind fun u => some u) (fun k => ?_)).2 ((ev_bind he2).2 ((ev_bind h5).2 ((ev_some _ _).2 rfl))))))
      rw [spec_l7Marks.j3, if_neg (by decide), if_pos (by simp)]
      rfl
    · obtain ⟨r, h3, h4⟩ := op_l3 38 false (by simp) [sm x, sm y] hl hl2 hN N 0 (List.replicate N false) (by omega) ⟨List.length_replicate, fun m hm => absurd hm (by omega)⟩
      refine ⟨r, h3.1, fun n hn => (h3.2 n hn).trans ((opB_congr (hd n hn) (hd2 n hn)).trans (den_and x y n).symm), ?_⟩
      refine marks_part 38 (by decide) (by decide) (by decide) x [sm y] hN he ((ev_neg (by decide)).2 ((ev_neg (by decide)).2 ((ev_step (f := fun k => (spec_l7Marks.f k (sm y).f0 (sm y).f1 (N : Int)).bind fun t => spec_l7Marks.l3 k (N : Int) (List.replicate N false) xs t 0 38 [sm x, sm y]) (fun k => ?_)).2 ((ev_bind he2).2 h4))))
      rw [spec_l7Marks.j3, if_neg (by decide), if_pos (by simp)]
      rfl
end Go.Proofs.Ytijmkmbepjjphaa.Pure
