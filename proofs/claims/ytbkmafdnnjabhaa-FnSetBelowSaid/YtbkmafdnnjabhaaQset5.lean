/- Two sets beside each other: from where on both come round, and whether one is in the other. -/
import Derived.Test.YtbkmafdnnjabhaaQset2
import Derived.Test.YtbkmafdnnjabhaaG22
import Derived.Test.YtbkmafdnnjabhaaG23
import Derived.Test.YtbkmafdnnjabhaaG24
import Derived.Test.YtbkmafdnnjabhaaG25
namespace Go.Proofs.Ytbkmafdnnjabhaa.Pure
open Go.RowKit Go.Proofs.Ytbkmafdnnjabhaa.G Go.Proofs.YtbkmafdnnjabhaaW.PrintWords Go.Proofs.YtbkmafdnnjabhaaW.PrintLast Go.Proofs.YtbkmafdnnjabhaaW.PrintMore

/-- Euclid's loop. -/
theorem gcd_nat (d : Nat) : ∀ (m n : Nat), n ≤ d → Ev (fun k => impl_gcd.l0 k (m : Int) (n : Int)) ((Nat.gcd m n : Nat) : Int) := by
  induction d with
  | zero =>
    intro m n hn
    obtain rfl : n = 0 := by omega
    rw [ev_step (fun k => by rw [impl_gcd.l0]), ev_pos (show ((0 : Nat) : Int) = 0 from rfl), ev_some, Nat.gcd_zero_right]
  | succ d ih =>
    intro m n hn
    rw [ev_step (fun k => by rw [impl_gcd.l0])]
    by_cases h : n = 0
    · subst h
      rw [ev_pos (show ((0 : Nat) : Int) = 0 from rfl), ev_some, Nat.gcd_zero_right]
    · have := Nat.mod_lt m (show n > 0 by omega)
      rw [ev_neg (by omega), ← Int.ofNat_tmod, Nat.gcd_comm m n, Nat.gcd_rec n m, Nat.gcd_comm]
      exact ih n (m % n) (by omega)
theorem gcd_ev {a b : Int} (ha : 0 ≤ a) (hb : 0 ≤ b) : Ev (fun k => impl_gcd.f k a b) ((Nat.gcd a.toNat b.toNat : Nat) : Int) := by
  obtain ⟨m, rfl⟩ := Int.eq_ofNat_of_zero_le ha
  obtain ⟨n, rfl⟩ := Int.eq_ofNat_of_zero_le hb
  exact gcd_nat n m n (Nat.le_refl _)
theorem div_nat (d : Nat) : ∀ (m n : Nat), n ≤ d → Ev (fun k => spec_l1Divisor.l0 k (m : Int) (n : Int)) ((Nat.gcd m n : Nat) : Int) := by
  induction d with
  | zero =>
    intro m n hn
    obtain rfl : n = 0 := by omega
    rw [ev_step (fun k => by rw [spec_l1Divisor.l0]), ev_neg (by omega), ev_some, Nat.gcd_zero_right]
  | succ d ih =>
    intro m n hn
    rw [ev_step (fun k => by rw [spec_l1Divisor.l0])]
    by_cases h : n = 0
    · subst h
      rw [ev_neg (by omega), ev_some, Nat.gcd_zero_right]
    · have := Nat.mod_lt m (show n > 0 by omega)
      rw [ev_pos (by omega), ev_neg (by omega), ← Int.ofNat_tmod, Nat.gcd_comm m n, Nat.gcd_rec n m, Nat.gcd_comm]
      exact ih n (m % n) (by omega)
theorem div_ev {a b : Int} (ha : 0 ≤ a) (hb : 0 ≤ b) : Ev (fun k => spec_l1Divisor.f k a b) ((Nat.gcd a.toNat b.toNat : Nat) : Int) := by
  obtain ⟨m, rfl⟩ := Int.eq_ofNat_of_zero_le ha
  obtain ⟨n, rfl⟩ := Int.eq_ofNat_of_zero_le hb
  exact div_nat n m n (Nat.le_refl _)
/-- What 'a / gcd * b' comes to. -/
def lcmI (a b : Int) : Int := a.tdiv ((Nat.gcd a.toNat b.toNat : Nat) : Int) * b
def lcmN (a b : Nat) : Nat := a / Nat.gcd a b * b
theorem lcmN_le {a b : Nat} (ha : a ≤ 60) (hb : b ≤ 60) : lcmN a b ≤ 3600 := Nat.le_trans (Nat.mul_le_mul (Nat.le_trans (Nat.div_le_self _ _) ha) hb) (by decide)
theorem impl_lcm_ev (a b : Nat) (ha : 1 ≤ a ∧ a ≤ 60) (hb : 1 ≤ b ∧ b ≤ 60) : Ev (fun k => impl_lcm.f k (a : Int) (b : Int)) (lcmN a b : Int) := by
  have hg : 0 < Nat.gcd a b := Nat.gcd_pos_of_pos_left _ (by omega)
  have h1 := lcmN_le ha.2 hb.2
  have h2 : a / Nat.gcd a b ≤ 60 := Nat.le_trans (Nat.div_le_self _ _) ha.2
  have e := gcd_ev (a := (a : Int)) (b := (b : Int)) (by omega) (by omega)
  rw [Int.toNat_natCast, Int.toNat_natCast] at e
  simp only [impl_lcm.f]
  rw [ev_bind e, ev_neg (by omega), ev_some]
  have t : Int.tdiv (a : Int) ((Nat.gcd a b : Nat) : Int) = ((a / Nat.gcd a b : Nat) : Int) := (Int.ofNat_tdiv _ _).symm
  have m : ((a / Nat.gcd a b : Nat) : Int) * (b : Int) = (lcmN a b : Int) := by
    unfold lcmN
    exact (Int.natCast_mul _ _).symm
  rw [t]
  generalize a / Nat.gcd a b = q at h2 m ⊢
  rw [wrap_in (q : Int) (by omega), m, wrap_in _ (by omega)]
def mxN (a b : Nat) : Nat := if a < b then b else a
theorem mx_nat (a b : Nat) : mx (a : Int) (b : Int) = (mxN a b : Int) := by
  unfold mx mxN
  by_cases h : a < b
  · rw [if_pos (by omega), if_pos h]
  · rw [if_neg (by omega), if_neg h]
theorem mxN_le {a b : Nat} (ha : a ≤ 60) (hb : b ≤ 60) : mxN a b ≤ 60 := by
  unfold mxN
  split <;> omega
theorem impl_both_ev {t r u v : List Bool} (h : SOk t r) (g : SOk u v) : Ev (fun k => impl_both.f k t r u v) ((mxN t.length u.length : Int), (lcmN r.length v.length : Int)) := by
  simp only [impl_both.f]
  rw [ev_bind (impl_lcm_ev _ _ ⟨h.r1, h.r60⟩ ⟨g.r1, g.r60⟩), ev_some, mx_nat]
theorem spec_shape_ev {t r u v : List Bool} (h : SOk t r) (g : SOk u v) : Ev (fun k => spec_l1Shape.f k t r u v) ((mxN t.length u.length : Int), (lcmN r.length v.length : Int)) := by
  have hr := h.r1
  have hg : 0 < Nat.gcd r.length v.length := Nat.gcd_pos_of_pos_left _ (by omega)
  have h1 := lcmN_le h.r60 g.r60
  have h2 : r.length / Nat.gcd r.length v.length ≤ 60 := Nat.le_trans (Nat.div_le_self _ _) h.r60
  have e := div_ev (a := (r.length : Int)) (b := (v.length : Int)) (by omega) (by omega)
  rw [Int.toNat_natCast, Int.toNat_natCast] at e
  simp only [spec_l1Shape.f]
  rw [ev_bind e, ev_neg (by omega), ev_some, mx_nat]
  have t : (r.length : Int) / ((Nat.gcd r.length v.length : Nat) : Int) = ((r.length / Nat.gcd r.length v.length : Nat) : Int) := (Int.natCast_ediv _ _).symm
  have m : ((r.length / Nat.gcd r.length v.length : Nat) : Int) * (v.length : Int) = (lcmN r.length v.length : Int) := by
    unfold lcmN
    exact (Int.natCast_mul _ _).symm
  rw [t]
  generalize r.length / Nat.gcd r.length v.length = q at h2 m ⊢
  rw [wrap_in (q : Int) (by omega), m, wrap_in _ (by omega)]
def subN (p q : Nat → Bool) : Nat → Nat → Bool
  | 0, _ => true
  | d + 1, i => if p i = true then (if q i = true then subN p q d (i + 1) else false) else subN p q d (i + 1)
theorem impl_below_l0 {t r u v : List Bool} (h : SOk t r) (g : SOk u v) (n : Nat) (hn : n ≤ 10000) (d : Nat) : ∀ (i : Nat), n - i = d → i ≤ n → Ev (fun k => impl_SetBelow.l0 k (n : Int) (i : Int) t r u v) (subN (hasN t r) (hasN u v) d i) := by
  induction d with
  | zero =>
    intro i hd hi
    rw [ev_step (fun k => by rw [impl_SetBelow.l0]), ev_neg (by omega), ev_some]
    rfl
  | succ d ih =>
    intro i hd hi
    have := ih (i + 1) (by omega) (by omega)
    rw [ev_step (fun k => by rw [impl_SetBelow.l0]), ev_pos (by omega), ev_bind0 (impl_has h i (by omega)), subN, wrap_in _ (by omega)]
    by_cases c : hasN t r i = true
    · rw [ev_pos c, ev_bind0 (impl_has g i (by omega)), if_pos c]
      by_cases e : hasN u v i = true
      · rw [ev_pos e, if_pos e]
        exact this
      · rw [ev_neg e, if_neg e, ev_some]
    · rw [ev_neg c, if_neg c]
      exact this
theorem spec_below_l0 {t r u v : List Bool} (h : SOk t r) (g : SOk u v) (x y n : Nat) (hx : x + y = n) (hn : n ≤ 10000) (d : Nat) : ∀ (i : Nat), n - i = d → i ≤ n → Ev (fun k => spec_SetBelow.l0 k (x : Int) (y : Int) (i : Int) t r u v) (subN (hasN t r) (hasN u v) d i) := by
  have w : wrap64 ((x : Int) + (y : Int)) = (n : Int) := by rw [wrap_in _ (by omega)]; omega
  induction d with
  | zero =>
    intro i hd hi
    rw [ev_step (fun k => by rw [spec_SetBelow.l0]), w, ev_neg (by omega), ev_some]
    rfl
  | succ d ih =>
    intro i hd hi
    have := ih (i + 1) (by omega) (by omega)
    rw [ev_step (fun k => by rw [spec_SetBelow.l0]), w, ev_pos (by omega), ev_bind0 (spec_has h i (by omega)), subN, wrap_in _ (by omega)]
    by_cases c : hasN t r i = true
    · rw [ev_pos c, ev_bind0 (spec_has g i (by omega)), if_pos c]
      by_cases e : hasN u v i = true
      · rw [ev_pos e, if_pos e]
        exact this
      · rw [ev_neg e, if_neg e, ev_some]
    · rw [ev_neg c, if_neg c]
      exact this
def belowS (a b : List UInt8) : Bool := match setC a, setC b with
  | some (t, r), some (u, v) => subN (hasN t r) (hasN u v) (mxN t.length u.length + lcmN r.length v.length) 0
  | _, _ => false
theorem impl_below_ev (a b : ByteArray) (ha : a.size ≤ 1048576) (hb : b.size ≤ 1048576) : Ev (fun k => impl_SetBelow.f k a b) (belowS a.data.toList b.data.toList) := by
  simp only [impl_SetBelow.f]
  unfold belowS
  cases hc : setC a.data.toList with
  | none =>
    obtain ⟨t, r, e⟩ := impl_none ha hc
    cases hd : setC b.data.toList with
    | none =>
      obtain ⟨u, v, f⟩ := impl_none hb hd
      rw [ev_bind0 e, ev_bind0 f, ev_neg (by simp), ev_step (fun k => by rw [impl_SetBelow.j0]), ev_pos rfl, ev_some]
    | some q =>
      obtain ⟨u, v⟩ := q
      rw [ev_bind0 e, ev_bind0 (impl_some hb hd), ev_neg (by simp), ev_step (fun k => by rw [impl_SetBelow.j0]), ev_pos rfl, ev_some]
  | some p =>
    obtain ⟨t, r⟩ := p
    cases hd : setC b.data.toList with
    | none =>
      obtain ⟨u, v, f⟩ := impl_none hb hd
      rw [ev_bind0 (impl_some ha hc), ev_bind0 f, ev_pos rfl, ev_step (fun k => by rw [impl_SetBelow.j0]), ev_pos (by simp), ev_some]
    | some q =>
      obtain ⟨u, v⟩ := q
      have h := setC_ok hc
      have g := setC_ok hd
      have h1 := lcmN_le h.r60 g.r60
      have h2 := mxN_le h.t60 g.t60
      rw [ev_bind0 (impl_some ha hc), ev_bind0 (impl_some hb hd), ev_pos rfl, ev_step (fun k => by rw [impl_SetBelow.j0]), ev_neg (by simp), ev_bind (impl_both_ev h g)]
      simp only
      have w : wrap64 ((mxN t.length u.length : Int) + (lcmN r.length v.length : Int)) = ((mxN t.length u.length + lcmN r.length v.length : Nat) : Int) := by rw [wrap_in _ (by omega)]; omega
      rw [w]
      exact impl_below_l0 h g _ (by omega) _ 0 (by omega) (by omega)
theorem spec_below_ev (a b : ByteArray) (ha : a.size ≤ 1048576) (hb : b.size ≤ 1048576) : Ev (fun k => spec_SetBelow.f k a b) (belowS a.data.toList b.data.toList) := by
  simp only [spec_SetBelow.f]
  unfold belowS
  cases hc : setC a.data.toList with
  | none =>
    cases hd : setC b.data.toList with
    | none => rw [ev_bind (spec_none ha hc), ev_bind (spec_none hb hd), ev_neg (by simp), ev_step (fun k => by rw [spec_SetBelow.j0]), ev_pos rfl, ev_some]
    | some q =>
      obtain ⟨u, v⟩ := q
      rw [ev_bind (spec_none ha hc), ev_bind (spec_some hb hd), ev_neg (by simp), ev_step (fun k => by rw [spec_SetBelow.j0]), ev_pos rfl, ev_some]
  | some p =>
    obtain ⟨t, r⟩ := p
    cases hd : setC b.data.toList with
    | none => rw [ev_bind (spec_some ha hc), ev_bind (spec_none hb hd), ev_pos rfl, ev_step (fun k => by rw [spec_SetBelow.j0]), ev_pos (by simp), ev_some]
    | some q =>
      obtain ⟨u, v⟩ := q
      have h := setC_ok hc
      have g := setC_ok hd
      have h1 := lcmN_le h.r60 g.r60
      have h2 := mxN_le h.t60 g.t60
      rw [ev_bind (spec_some ha hc), ev_bind (spec_some hb hd), ev_pos rfl, ev_step (fun k => by rw [spec_SetBelow.j0]), ev_neg (by simp), ev_bind (spec_shape_ev h g)]
      exact spec_below_l0 h g _ _ _ rfl (by omega) _ 0 (by omega) (by omega)
end Go.Proofs.Ytbkmafdnnjabhaa.Pure
