/- The first number of a set from some number on; the list of a set's numbers below some number. -/
import Derived.Test.YtbkmafdnnjabhaaQset2
import Derived.Test.YtbkmafdnnjabhaaG15
import Derived.Test.YtbkmafdnnjabhaaG7
import Derived.Test.YtbkmafdnnjabhaaG9
namespace Go.Proofs.Ytbkmafdnnjabhaa.Pure
open Go.RowKit Go.Proofs.Ytbkmafdnnjabhaa.G Go.Proofs.YtbkmafdnnjabhaaW.PrintWords Go.Proofs.YtbkmafdnnjabhaaW.PrintLast Go.Proofs.YtbkmafdnnjabhaaW.PrintMore

theorem l6In_eq (n lo hi : Int) : spec_l6In.f n lo hi = some (decide (lo ≤ n ∧ n ≤ hi)) := ite_bool
theorem in_eq (n lo hi : Int) : impl_in.f n lo hi = some (decide (lo ≤ n ∧ n ≤ hi)) := ite_bool
def firstN (p : Nat → Bool) : Nat → Nat → Option Nat
  | 0, _ => none
  | d + 1, i => if p i = true then some i else firstN p d (i + 1)
def fromC : Option Nat → Int × Bool
  | none => (0, false)
  | some m => ((m : Int), true)
theorem firstN_none {p : Nat → Bool} : ∀ {d i : Nat}, firstN p d i = none → ∀ m, i ≤ m → m < i + d → p m = false
  | 0, _, _, m, h1, h2 => by omega
  | d + 1, i, h, m, h1, h2 => by
    rw [firstN] at h
    by_cases c : p i = true
    · rw [if_pos c] at h
      cases h
    · rw [if_neg c] at h
      by_cases e : m = i
      · subst e
        exact Bool.eq_false_iff.2 c
      · exact firstN_none h m (by omega) (by omega)
theorem firstN_more {p : Nat → Bool} : ∀ {d i : Nat} (e : Nat), (firstN p d i = none → ∀ m, i ≤ m → m < i + d + e → p m = false) → firstN p (d + e) i = firstN p d i
  | 0, i, e, h => by
    have h2 := h rfl
    rw [Nat.zero_add]
    show firstN p e i = none
    clear h
    induction e generalizing i with
    | zero => rfl
    | succ e ih =>
      rw [firstN, if_neg (by rw [h2 i (Nat.le_refl _) (by omega)]; decide)]
      exact ih (i + 1) (fun m h3 h4 => h2 m (by omega) (by omega))
  | d + 1, i, e, h2 => by
    rw [show d + 1 + e = (d + e) + 1 by omega, firstN, firstN]
    by_cases c : p i = true
    · rw [if_pos c, if_pos c]
    · rw [if_neg c, if_neg c]
      have hq : firstN p (d + 1) i = firstN p d (i + 1) := by rw [firstN, if_neg c]
      rw [hq] at h2
      exact firstN_more e (fun z m h3 h4 => h2 z m (by omega) (by omega))
theorem has_back {t r : List Bool} (n : Nat) (h : t.length ≤ n) : hasN t r (n + r.length) = hasN t r n := by
  unfold hasN
  rw [if_neg (by omega), if_neg (by omega), show n + r.length - t.length = (n - t.length) + r.length by omega, Nat.add_mod_right]
theorem none_all {t r : List Bool} (h1 : 1 ≤ r.length) {n : Nat} (h : ∀ m, n ≤ m → m < n + (t.length + r.length) → hasN t r m = false) : ∀ m, n ≤ m → hasN t r m = false := by
  intro m
  induction m using Nat.strongRecOn with
  | _ m ih =>
    intro hm
    by_cases c : m < n + (t.length + r.length)
    · exact h m hm c
    · have := has_back (t := t) (r := r) (m - r.length) (by omega)
      rw [show m - r.length + r.length = m by omega] at this
      rw [this]
      exact ih (m - r.length) (by omega) (by omega)
theorem impl_from_l0 {t r : List Bool} (h : SOk t r) (n : Nat) (hn : n ≤ 1000) (d : Nat) : ∀ (i : Nat), n + t.length + r.length - i = d → i ≤ n + t.length + r.length → Ev (fun k => impl_SetFrom.l0 k (n : Int) (i : Int) t r) (fromC (firstN (hasN t r) d i)) := by
  have h1 := h.t60
  have h2 := h.r60
  have w : wrap64 ((wrap64 ((n : Int) + (t.length : Int))) + (r.length : Int)) = (n : Int) + t.length + r.length := by rw [wrap_in ((n : Int) + t.length) (by omega), wrap_in _ (by omega)]
  induction d with
  | zero =>
    intro i hd hi
    rw [ev_step (fun k => by rw [impl_SetFrom.l0]), w, ev_neg (by omega), ev_some]
    rfl
  | succ d ih =>
    intro i hd hi
    rw [ev_step (fun k => by rw [impl_SetFrom.l0]), w, ev_pos (by omega), ev_bind0 (impl_has h i (by omega)), firstN]
    by_cases c : hasN t r i = true
    · rw [ev_pos c, ev_some, if_pos c]
      rfl
    · rw [ev_neg c, if_neg c, wrap_in _ (by omega)]
      exact ih (i + 1) (by omega) (by omega)
theorem spec_from_l0 {t r : List Bool} (h : SOk t r) (n : Nat) (hn : n ≤ 1000) (d : Nat) : ∀ (i : Nat), n + 120 - i = d → i ≤ n + 120 → Ev (fun k => spec_SetFrom.l0 k (n : Int) (i : Int) t r) (fromC (firstN (hasN t r) d i)) := by
  have w : wrap64 ((n : Int) + 120) = (n : Int) + 120 := wrap_in _ (by omega)
  induction d with
  | zero =>
    intro i hd hi
    rw [ev_step (fun k => by rw [spec_SetFrom.l0]), w, ev_neg (by omega), ev_some]
    rfl
  | succ d ih =>
    intro i hd hi
    rw [ev_step (fun k => by rw [spec_SetFrom.l0]), w, ev_pos (by omega), ev_bind0 (spec_has h i (by omega)), firstN]
    by_cases c : hasN t r i = true
    · rw [ev_pos c, ev_some, if_pos c]
      rfl
    · rw [ev_neg c, if_neg c, wrap_in _ (by omega)]
      exact ih (i + 1) (by omega) (by omega)
/-- What both answer: the first number from n on. -/
def fromS (l : List UInt8) (n : Int) : Int × Bool := match setC l with
  | none => (0, false)
  | some (t, r) => if 0 ≤ n ∧ n ≤ 1000 then fromC (firstN (hasN t r) 120 n.toNat) else (0, false)
theorem spec_from_ev (a : ByteArray) (n : Int) (hs : a.size ≤ 1048576) : Ev (fun k => spec_SetFrom.f k a n) (fromS a.data.toList n) := by
  simp only [spec_SetFrom.f]
  unfold fromS
  cases hc : setC a.data.toList with
  | none => rw [ev_bind (spec_none hs hc), ev_neg (by simp), ev_step (fun k => by rw [spec_SetFrom.j0]), ev_pos rfl, ev_some]
  | some q =>
    obtain ⟨t, r⟩ := q
    have ok := setC_ok hc
    rw [ev_bind (spec_some hs hc), ev_pos rfl, ev_bind0 (l6In_eq _ _ _), ev_step (fun k => by rw [spec_SetFrom.j0])]
    simp only
    by_cases c : 0 ≤ n ∧ n ≤ 1000
    · obtain ⟨m, rfl⟩ := Int.eq_ofNat_of_zero_le c.1
      rw [if_pos c, ev_neg (by simpa using c.2), Int.toNat_natCast]
      exact spec_from_l0 ok m (by omega) 120 m (by omega) (by omega)
    · rw [if_neg c, ev_pos (by rw [decide_eq_false c]; rfl), ev_some]
theorem impl_from_ev (a : ByteArray) (n : Int) (hs : a.size ≤ 1048576) : Ev (fun k => impl_SetFrom.f k a n) (fromS a.data.toList n) := by
  simp only [impl_SetFrom.f]
  unfold fromS
  cases hc : setC a.data.toList with
  | none =>
    obtain ⟨t, r, e⟩ := impl_none hs hc
    rw [ev_bind0 e, ev_neg (by simp), ev_step (fun k => by rw [impl_SetFrom.j0]), ev_pos rfl, ev_some]
  | some q =>
    obtain ⟨t, r⟩ := q
    have ok := setC_ok hc
    have h1 := ok.t60
    have h2 := ok.r60
    rw [ev_bind0 (impl_some hs hc), ev_pos rfl, ev_bind0 (in_eq _ _ _), ev_step (fun k => by rw [impl_SetFrom.j0])]
    simp only
    by_cases c : 0 ≤ n ∧ n ≤ 1000
    · obtain ⟨m, rfl⟩ := Int.eq_ofNat_of_zero_le c.1
      rw [if_pos c, ev_neg (by simpa using c.2), Int.toNat_natCast]
      have e := impl_from_l0 ok m (by omega) (t.length + r.length) m (by omega) (by omega)
      have f : firstN (hasN t r) 120 m = firstN (hasN t r) (t.length + r.length) m := by
        have := firstN_more (p := hasN t r) (d := t.length + r.length) (i := m) (120 - (t.length + r.length)) (fun z => fun q h3 _ => none_all ok.r1 (firstN_none z) q h3)
        rwa [show t.length + r.length + (120 - (t.length + r.length)) = 120 by omega] at this
      rw [f]
      exact e
    · rw [if_neg c, ev_pos (by rw [decide_eq_false c]; rfl), ev_some]
def listN (p : Nat → Bool) : Nat → List Int
  | 0 => []
  | n + 1 => if p n = true then listN p n ++ [(n : Int)] else listN p n
theorem listN_le (p : Nat → Bool) : ∀ n, (listN p n).length ≤ n
  | 0 => Nat.le_refl _
  | n + 1 => by
    rw [listN]
    have := listN_le p n
    split
    · simp; omega
    · omega
theorem impl_list_l0 {t r : List Bool} (h : SOk t r) (n : Nat) (hn : n ≤ 1000) (d : Nat) : ∀ (i : Nat), n - i = d → i ≤ n → Ev (fun k => impl_set_below.l0 k (listN (hasN t r) i) (n : Int) (i : Int) t r) (listN (hasN t r) n) := by
  induction d with
  | zero =>
    intro i hd hi
    rw [ev_step (fun k => by rw [impl_set_below.l0]), ev_neg (by omega), ev_some, show i = n by omega]
  | succ d ih =>
    intro i hd hi
    have hl := listN_le (hasN t r) i
    have := ih (i + 1) (by omega) (by omega)
    rw [listN] at this
    rw [ev_step (fun k => by rw [impl_set_below.l0]), ev_pos (by omega), ev_bind0 (impl_has h i (by omega)), wrap_in _ (by omega)]
    by_cases c : hasN t r i = true
    · rw [if_pos c] at this
      rw [ev_pos c, ev_pos (by omega)]
      exact this
    · rw [if_neg c] at this
      rw [ev_neg c]
      exact this
theorem spec_list_l0 {t r : List Bool} (h : SOk t r) (n : Nat) (hn : n ≤ 1000) (d : Nat) : ∀ (i : Nat), n - i = d → i ≤ n → Ev (fun k => spec_l1List.l0 k (n : Int) (listN (hasN t r) i) (i : Int) t r) (listN (hasN t r) n) := by
  induction d with
  | zero =>
    intro i hd hi
    rw [ev_step (fun k => by rw [spec_l1List.l0]), ev_neg (by omega), ev_some, show i = n by omega]
  | succ d ih =>
    intro i hd hi
    have hl := listN_le (hasN t r) i
    have := ih (i + 1) (by omega) (by omega)
    rw [listN] at this
    rw [ev_step (fun k => by rw [spec_l1List.l0]), ev_pos (by omega), ev_bind0 (spec_has h i (by omega)), wrap_in _ (by omega)]
    by_cases c : hasN t r i = true
    · rw [if_pos c] at this
      rw [ev_pos c, ev_pos (by omega)]
      exact this
    · rw [if_neg c] at this
      rw [ev_neg c]
      exact this
theorem impl_list_ev {t r : List Bool} (h : SOk t r) (n : Nat) (hn : n ≤ 1000) : Ev (fun k => impl_set_below.f k t r (n : Int)) (listN (hasN t r) n) := by
  simp only [impl_set_below.f]
  exact impl_list_l0 h n hn n 0 (by omega) (by omega)
theorem spec_list_ev {t r : List Bool} (h : SOk t r) (n : Nat) (hn : n ≤ 1000) : Ev (fun k => spec_l1List.f k t r (n : Int)) (listN (hasN t r) n) := by
  simp only [spec_l1List.f]
  exact spec_list_l0 h n hn n 0 (by omega) (by omega)
end Go.Proofs.Ytbkmafdnnjabhaa.Pure
