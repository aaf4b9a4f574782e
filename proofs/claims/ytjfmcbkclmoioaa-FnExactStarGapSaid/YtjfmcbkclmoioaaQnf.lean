/- Tidy forms of sets: the least ring and the shortest tail; two tidy forms of the same numbers are the same. -/
import Derived.Test.YtjfmcbkclmoioaaQcomes
namespace Go.Proofs.Ytjfmcbkclmoioaa.Pure
open Go.RowKit
set_option linter.unusedVariables false

def leastN (p : Nat → Bool) : Nat → Nat → Nat
  | 0, i => i
  | d + 1, i => if p i = true then i else leastN p d (i + 1)
theorem leastN_spec {p : Nat → Bool} : ∀ {d i j : Nat}, i ≤ j → j < i + d → p j = true → p (leastN p d i) = true ∧ i ≤ leastN p d i ∧ leastN p d i ≤ j ∧ ∀ k, i ≤ k → k < leastN p d i → p k = false
  | 0, i, j, h1, h2, _ => by omega
  | d + 1, i, j, h1, h2, h3 => by
    rw [leastN]
    by_cases c : p i = true
    · rw [if_pos c]
      exact ⟨c, Nat.le_refl _, h1, fun k h4 h5 => by omega⟩
    · rw [if_neg c]
      have hij : i ≠ j := fun e => c (e ▸ h3)
      obtain ⟨g1, g2, g3, g4⟩ := leastN_spec (d := d) (i := i + 1) (j := j) (by omega) (by omega) h3
      refine ⟨g1, by omega, g3, fun k h4 h5 => ?_⟩
      by_cases e : k = i
      · subst e
        exact Bool.eq_false_iff.2 c
      · exact g4 k (by omega) h5
def turnsB (r : List Bool) (d : Nat) : Bool := decide (r.length % d = 0) && (List.range r.length).all (fun i => r.getD i false == r.getD (i % d) false)
theorem turnsB_iff {r : List Bool} {d : Nat} : turnsB r d = true ↔ r.length % d = 0 ∧ ∀ i, i < r.length → r.getD i false = r.getD (i % d) false := by
  unfold turnsB
  rw [Bool.and_eq_true, decide_eq_true_eq, List.all_eq_true]
  simp only [List.mem_range, beq_iff_eq]
def per (r : List Bool) : Nat := leastN (turnsB r) r.length 1
theorem per_spec {r : List Bool} (h : 1 ≤ r.length) : turnsB r (per r) = true ∧ 1 ≤ per r ∧ per r ≤ r.length ∧ ∀ k, 1 ≤ k → k < per r → turnsB r k = false :=
  leastN_spec (p := turnsB r) (d := r.length) (i := 1) (j := r.length) h (by omega) (turnsB_iff.2 ⟨Nat.mod_self _, fun i hi => by rw [Nat.mod_eq_of_lt hi]⟩)
def rotL (r : List Bool) : List Bool := [r.getD (r.length - 1) false] ++ r.take (r.length - 1)
def trimN : Nat → List Bool → List Bool → List Bool × List Bool
  | 0, t, r => (t, r)
  | m + 1, t, r => if t.getD m false = r.getD (r.length - 1) false then trimN m (t.take m) (rotL r) else (t, r)
def nf (t r : List Bool) : List Bool × List Bool := trimN t.length t (r.take (per r))
theorem getD_take {l : List Bool} {n i : Nat} (h : i < n) : (l.take n).getD i false = l.getD i false := by
  rw [List.getD_eq_getElem?_getD, List.getD_eq_getElem?_getD, List.getElem?_take_of_lt h]
theorem rotL_length {r : List Bool} (h : 1 ≤ r.length) : (rotL r).length = r.length := by
  unfold rotL
  simp
  omega
theorem rotL_get {r : List Bool} {i : Nat} (h : i < r.length) : (rotL r).getD i false = if i = 0 then r.getD (r.length - 1) false else r.getD (i - 1) false := by
  unfold rotL
  cases i with
  | zero => rfl
  | succ i =>
    rw [if_neg (by omega)]
    show (r.take (r.length - 1)).getD i false = r.getD i false
    exact getD_take (by omega)
theorem hasN_take {t r : List Bool} {d : Nat} (h1 : 1 ≤ d) (h2 : d ≤ r.length) (h : turnsB r d = true) (n : Nat) : hasN t (r.take d) n = hasN t r n := by
  obtain ⟨g1, g2⟩ := turnsB_iff.1 h
  have hl : (r.take d).length = d := by rw [List.length_take]; omega
  unfold hasN
  by_cases c : n < t.length
  · rw [if_pos c, if_pos c]
  · rw [if_neg c, if_neg c, hl, getD_take (Nat.mod_lt _ (by omega)), g2 _ (Nat.mod_lt _ (by omega)), Nat.mod_mod_of_dvd _ (Nat.dvd_of_mod_eq_zero g1)]
theorem hasN_rot {t r : List Bool} {m : Nat} (hr : 1 ≤ r.length) (ht : t.length = m + 1) (h : t.getD m false = r.getD (r.length - 1) false) (n : Nat) : hasN (t.take m) (rotL r) n = hasN t r n := by
  have hl : (t.take m).length = m := by rw [List.length_take]; omega
  unfold hasN
  rw [hl, ht, rotL_length hr]
  by_cases c : n < m
  · rw [if_pos c, if_pos (by omega), getD_take c]
  · rw [if_neg c]
    by_cases c2 : n = m
    · subst c2
      rw [if_pos (by omega), Nat.sub_self, Nat.zero_mod, rotL_get (by omega), if_pos rfl, h]
    · rw [if_neg (by omega), rotL_get (Nat.mod_lt _ (by omega))]
      have e : (n - m) % r.length = ((n - (m + 1)) % r.length + 1) % r.length := by
        rw [Nat.mod_add_mod]
        congr 1
        omega
      have hs := Nat.mod_lt (n - (m + 1)) (show r.length > 0 by omega)
      rw [e]
      generalize (n - (m + 1)) % r.length = s at hs
      by_cases c3 : s + 1 = r.length
      · rw [c3, Nat.mod_self, if_pos rfl, show s = r.length - 1 by omega]
      · rw [Nat.mod_eq_of_lt (by omega), if_neg (by omega)]
        rfl
theorem hasN_trim : ∀ (m : Nat) {t r : List Bool}, 1 ≤ r.length → t.length = m → ∀ n, hasN (trimN m t r).1 (trimN m t r).2 n = hasN t r n
  | 0, t, r, _, _, n => rfl
  | m + 1, t, r, h1, h2, n => by
    rw [trimN]
    by_cases c : t.getD m false = r.getD (r.length - 1) false
    · rw [if_pos c, hasN_trim m (by rw [rotL_length h1]; exact h1) (by rw [List.length_take]; omega), hasN_rot h1 h2 c]
    · rw [if_neg c]
theorem take_per_length {r : List Bool} (h : 1 ≤ r.length) : (r.take (per r)).length = per r := by
  have := (per_spec h).2.2.1
  rw [List.length_take]
  omega
theorem hasN_nf {t r : List Bool} (h : 1 ≤ r.length) (n : Nat) : hasN (nf t r).1 (nf t r).2 n = hasN t r n := by
  obtain ⟨g1, g2, g3, _⟩ := per_spec h
  unfold nf
  rw [hasN_trim _ (by rw [take_per_length h]; exact g2) rfl, hasN_take g2 g3 g1]
def Prim (r : List Bool) : Prop := 1 ≤ r.length ∧ ∀ d, 1 ≤ d → d < r.length → turnsB r d = false
theorem prim_take {r : List Bool} (h : 1 ≤ r.length) : Prim (r.take (per r)) := by
  obtain ⟨g1, g2, g3, g4⟩ := per_spec h
  have hl := take_per_length h
  refine ⟨by omega, fun d h1 h2 => ?_⟩
  rw [hl] at h2
  cases hc : turnsB (r.take (per r)) d with
  | false => rfl
  | true =>
    obtain ⟨e1, e2⟩ := turnsB_iff.1 hc
    obtain ⟨f1, f2⟩ := turnsB_iff.1 g1
    rw [hl] at e1 e2
    have hd : d ∣ per r := Nat.dvd_of_mod_eq_zero e1
    have hbad : turnsB r d = true := by
      refine turnsB_iff.2 ⟨Nat.mod_eq_zero_of_dvd (Nat.dvd_trans hd (Nat.dvd_of_mod_eq_zero f1)), fun i hi => ?_⟩
      have hm := Nat.mod_lt i (show per r > 0 by omega)
      have := e2 (i % per r) hm
      rw [getD_take hm, getD_take (Nat.lt_of_le_of_lt (Nat.mod_le _ _) hm), Nat.mod_mod_of_dvd _ hd] at this
      rw [f2 i hi, this]
    rw [g4 d h1 h2] at hbad
    cases hbad
theorem prim_rot {r : List Bool} (h : Prim r) : Prim (rotL r) := by
  have h0 := h.1
  have hl := rotL_length h0
  refine ⟨by omega, fun d h1 h2 => ?_⟩
  rw [hl] at h2
  cases hc : turnsB (rotL r) d with
  | false => rfl
  | true =>
    obtain ⟨e1, e2⟩ := turnsB_iff.1 hc
    rw [hl] at e1 e2
    have hd : d ∣ r.length := Nat.dvd_of_mod_eq_zero e1
    have up : ∀ i, i < r.length → r.getD i false = (rotL r).getD ((i + 1) % d) false := by
      intro i hi
      by_cases c : i + 1 = r.length
      · have := rotL_get (r := r) (i := 0) (by omega)
        rw [if_pos rfl] at this
        rw [c, Nat.mod_eq_zero_of_dvd hd, this]
        congr 1
        omega
      · have := rotL_get (r := r) (i := i + 1) (by omega)
        rw [if_neg (by omega), Nat.add_sub_cancel] at this
        rw [← this]
        exact e2 (i + 1) (by omega)
    have hbad : turnsB r d = true := by
      refine turnsB_iff.2 ⟨e1, fun i hi => ?_⟩
      rw [up i hi, up (i % d) (Nat.lt_of_le_of_lt (Nat.mod_le _ _) hi), Nat.mod_add_mod]
    rw [h.2 d h1 h2] at hbad
    cases hbad
/-- Tidy: no shorter ring, no shorter tail. -/
def Norm (t r : List Bool) : Prop := Prim r ∧ (t ≠ [] → t.getD (t.length - 1) false ≠ r.getD (r.length - 1) false)
theorem norm_trim : ∀ (m : Nat) {t r : List Bool}, Prim r → t.length = m → Norm (trimN m t r).1 (trimN m t r).2
  | 0, t, r, h, h2 => by
    refine ⟨h, fun c => absurd (List.eq_nil_of_length_eq_zero h2) c⟩
  | m + 1, t, r, h1, h2 => by
    rw [trimN]
    by_cases c : t.getD m false = r.getD (r.length - 1) false
    · rw [if_pos c]
      exact norm_trim m (prim_rot h1) (by rw [List.length_take]; omega)
    · rw [if_neg c]
      refine ⟨h1, fun _ => ?_⟩
      show t.getD (t.length - 1) false ≠ _
      rw [h2]
      exact c
theorem norm_nf {t r : List Bool} (h : 1 ≤ r.length) : Norm (nf t r).1 (nf t r).2 := norm_trim _ (prim_take h) rfl
theorem trim_le : ∀ (m : Nat) {t r : List Bool}, 1 ≤ r.length → t.length = m → (trimN m t r).1.length ≤ m ∧ (trimN m t r).2.length = r.length
  | 0, t, r, h, h2 => ⟨by show t.length ≤ 0; omega, rfl⟩
  | m + 1, t, r, h1, h2 => by
    rw [trimN]
    by_cases c : t.getD m false = r.getD (r.length - 1) false
    · rw [if_pos c]
      have := trim_le m (t := t.take m) (r := rotL r) (by rw [rotL_length h1]; exact h1) (by rw [List.length_take]; omega)
      rw [rotL_length h1] at this
      exact ⟨by omega, this.2⟩
    · rw [if_neg c]
      exact ⟨by show t.length ≤ m + 1; omega, rfl⟩
theorem nf_le {t r : List Bool} (h : 1 ≤ r.length) : (nf t r).1.length ≤ t.length ∧ (nf t r).2.length = per r := by
  have := trim_le t.length (t := t) (r := r.take (per r)) (by rw [take_per_length h]; exact (per_spec h).2.1) rfl
  rw [take_per_length h] at this
  exact this
/-- A tidy ring's length divides what it comes round after. -/
theorem prim_dvd {t r : List Bool} (h : Prim r) {M n : Nat} (hn : 1 ≤ n) (hc : Comes (hasN t r) M n) : r.length ∣ n := by
  have h0 := h.1
  have hc2 : Comes (hasN t r) (max M t.length) n := hc.le (by omega)
  have hp : Comes (hasN t r) (max M t.length) r.length := (hasN_comes t r).le (by omega)
  have hg := Comes.gcd r.length n hp hc2
  have g1 : Nat.gcd r.length n ∣ r.length := Nat.gcd_dvd_left _ _
  have gpos : 0 < Nat.gcd r.length n := Nat.gcd_pos_of_pos_left _ (by omega)
  have ht : turnsB r (Nat.gcd r.length n) = true := by
    refine turnsB_iff.2 ⟨Nat.mod_eq_zero_of_dvd g1, fun i hi => ?_⟩
    have hM : M ≤ r.length * M := Nat.le_mul_of_pos_left _ (by omega)
    have hi2 : i % Nat.gcd r.length n < r.length := Nat.lt_of_le_of_lt (Nat.mod_le _ _) hi
    rw [← ring_at (t := t) hi M, ← ring_at (t := t) hi2 M]
    have e := hg.mul (i / Nat.gcd r.length n) (t.length + r.length * M + i % Nat.gcd r.length n) (by omega)
    rw [← e, Nat.add_assoc (t.length + r.length * M), Nat.mod_add_div]
  have hle := Nat.le_of_dvd (by omega) g1
  by_cases c : Nat.gcd r.length n < r.length
  · rw [h.2 _ gpos c] at ht
    cases ht
  · have e : Nat.gcd r.length n = r.length := by omega
    rw [← e]
    exact Nat.gcd_dvd_right _ _
/-- In front of a tidy tail's end nothing comes round. -/
theorem norm_front {t r : List Bool} (h : Norm t r) {M n : Nat} (hn : 1 ≤ n) (hc : Comes (hasN t r) M n) : t.length ≤ M := by
  by_cases c : t.length ≤ M
  · exact c
  · have h0 := h.1.1
    have hne : t ≠ [] := by
      rintro rfl
      exact c (Nat.zero_le _)
    obtain ⟨k, hk⟩ := prim_dvd h.1 hn hc
    have hk1 : 1 ≤ k := by
      rcases Nat.eq_zero_or_pos k with z | z
      · subst z
        omega
      · exact z
    have e1 := hc (t.length - 1) (by omega)
    have e2 : hasN t r (t.length - 1 + n) = r.getD (r.length - 1) false := by
      rw [← ring_at (t := t) (show r.length - 1 < r.length by omega) (k - 1), hk, Nat.mul_sub]
      congr 1
      have : r.length * 1 ≤ r.length * k := Nat.mul_le_mul_left _ hk1
      omega
    rw [e2, tail_at (by omega)] at e1
    exact absurd e1.symm (h.2 hne)
theorem ext_getD {x y : List Bool} (h : x.length = y.length) (g : ∀ i, i < x.length → x.getD i false = y.getD i false) : x = y := by
  refine List.ext_getElem h (fun i h1 h2 => ?_)
  have := g i h1
  rwa [List.getD_eq_getElem?_getD, List.getD_eq_getElem?_getD, List.getElem?_eq_getElem h1, List.getElem?_eq_getElem h2] at this
theorem norm_unique {t r u v : List Bool} (h : Norm t r) (g : Norm u v) (e : ∀ n, hasN t r n = hasN u v n) : t = u ∧ r = v := by
  have h0 := h.1.1
  have g0 := g.1.1
  have ef : hasN t r = hasN u v := funext e
  have c1 : Comes (hasN t r) u.length v.length := by
    rw [ef]
    exact hasN_comes u v
  have c2 : Comes (hasN u v) t.length r.length := by
    rw [← ef]
    exact hasN_comes t r
  have l1 : r.length = v.length := Nat.dvd_antisymm (prim_dvd h.1 g0 c1) (prim_dvd g.1 h0 c2)
  have l2 : t.length = u.length := Nat.le_antisymm (norm_front h g0 c1) (norm_front g h0 c2)
  refine ⟨ext_getD l2 (fun i hi => ?_), ext_getD l1 (fun i hi => ?_)⟩
  · rw [← tail_at (r := r) hi, ← tail_at (t := u) (r := v) (by omega)]
    exact e i
  · rw [← ring_at (t := t) hi 0, ← ring_at (t := u) (r := v) (i := i) (by omega) 0, e]
    congr 1
    omega
theorem nf_eq_iff {t r u v : List Bool} (h : 1 ≤ r.length) (g : 1 ≤ v.length) : nf t r = nf u v ↔ ∀ n, hasN t r n = hasN u v n := by
  constructor
  · intro e n
    rw [← hasN_nf h, e, hasN_nf g]
  · intro e
    have := norm_unique (norm_nf (t := t) h) (norm_nf (t := u) g) (fun n => by rw [hasN_nf h, hasN_nf g]; exact e n)
    exact Prod.ext this.1 this.2
end Go.Proofs.Ytjfmcbkclmoioaa.Pure
