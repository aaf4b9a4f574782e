/- The signs of a text that are no brackets. -/
import Derived.Test.YtkapeoigpdppeaaQ0
import Derived.Test.YtkapeoigpdppeaaG3
namespace Go.Proofs.Ytkapeoigpdppeaa.Pure
open Go.RowKit Go.Proofs.Ytkapeoigpdppeaa.G Go.Proofs.YtkapeoigpdppeaaW.PrintWords Go.Proofs.YtkapeoigpdppeaaW.PrintLast
/-- A sign that is no bracket. -/
def sgn (c : UInt8) : Bool := !(c == 40) && !(c == 41)
def sgns (l : List UInt8) : Nat := l.countP sgn
theorem bt_get {s : ByteArray} {i : Nat} {c : UInt8} {l : List UInt8} (h : s.data.toList.drop i = c :: l) : bt s (i : Int) = (c.toNat : Int) := by
  obtain ⟨hlt, hx, _⟩ := ts_at h
  rw [← hx]
  unfold bt
  rw [dif_pos (by simpa using hlt)]
  rfl
theorem count_all (l : List UInt8) : l.length = sgns l + l.count 40 + l.count 41 := by
  induction l with
  | nil => rfl
  | cons c l ih =>
    unfold sgns at *
    rw [List.length_cons, List.countP_cons, List.count_cons, List.count_cons, ih]
    by_cases h : c = 40
    · subst h
      simp [sgn]
      omega
    · by_cases h2 : c = 41
      · subst h2
        simp [sgn]
        omega
      · simp [sgn, h, h2]
        omega
theorem spec_size_l0 (s : ByteArray) (hs : s.size ≤ 1048576) (d : Nat) : ∀ (i n : Nat), s.size - i = d → i ≤ s.size → n ≤ i → Ev (fun k => spec_TermSize.l0 k s (n : Int) (i : Int)) (((n + sgns (s.data.toList.drop i) : Nat) : Int), true) := by
  have hz : s.size = s.data.toList.length := Lib.size_eq s
  induction d with
  | zero =>
    intro i n h1 h2 h3
    have e : s.data.toList.drop i = [] := List.drop_eq_nil_iff.2 (by omega)
    rw [ev_step (fun k => by rw [spec_TermSize.l0]), ev_neg (by omega), e]
    exact (ev_some _ _).2 rfl
  | succ d ih =>
    intro i n h1 h2 h3
    obtain ⟨c, l, hc⟩ : ∃ c l, s.data.toList.drop i = c :: l := by
      cases hx : s.data.toList.drop i with
      | nil => exact absurd (List.drop_eq_nil_iff.1 hx) (by omega)
      | cons c l => exact ⟨c, l, rfl⟩
    obtain ⟨_, _, _, hd⟩ := ts_at hc
    have hb := bt_get hc
    rw [ev_step (fun k => by rw [spec_TermSize.l0]), ev_pos (by omega), ev_pos (by omega), hb, wrap_in ((i : Int) + 1) (by omega), wrap_in ((n : Int) + 1) (by omega), hc]
    have g := ih (i + 1)
    rw [hd] at g
    by_cases k1 : c = 40
    · subst k1
      rw [ev_pos (by rfl)]
      exact g n (by omega) (by omega) (by omega)
    · by_cases k2 : c = 41
      · subst k2
        rw [ev_neg (by decide), ev_pos (by rfl)]
        exact g n (by omega) (by omega) (by omega)
      · rw [ev_neg (show ¬ ((c.toNat : Int) = 40) from fun e => k1 (UInt8.toNat_inj.1 (Int.ofNat.inj e))), ev_neg (show ¬ ((c.toNat : Int) = 41) from fun e => k2 (UInt8.toNat_inj.1 (Int.ofNat.inj e)))]
        have := g (n + 1) (by omega) (by omega) (by omega)
        rw [show sgns (c :: l) = sgns l + 1 from by unfold sgns; rw [List.countP_cons]; simp [sgn, k1, k2]]
        rw [show n + (sgns l + 1) = n + 1 + sgns l from by omega]
        exact this
def sizeS (l : List UInt8) : Int × Bool := if tp_in l = true then ((sgns l : Nat), true) else (0, false)
theorem spec_size_ev (s : ByteArray) (hs : s.size ≤ 1048576) : Ev (fun k => spec_TermSize.f k s) (sizeS s.data.toList) := by
  simp only [spec_TermSize.f]
  rw [ev_bind0 (show spec_TermIn.f s = some (tp_in s.data.toList) from rfl)]
  unfold sizeS
  by_cases c : tp_in s.data.toList = true
  · rw [ev_pos c, if_pos c]
    have := spec_size_l0 s hs s.size 0 0 (by omega) (by omega) (by omega)
    rw [List.drop_zero, Nat.zero_add] at this
    exact this
  · rw [ev_neg c, if_neg c, ev_some]
theorem impl_size_eq (s : ByteArray) (hs : s.size ≤ 1048576) : impl_TermSize.f s = some (sizeS s.data.toList) := by
  have hz : s.size = s.data.toList.length := Lib.size_eq s
  have ca := count_all s.data.toList
  unfold impl_TermSize.f sizeS
  rw [show impl_TermIn.f s = some (tp_in s.data.toList) from rfl, Option.bind_some]
  by_cases c : tp_in s.data.toList = true
  · rw [if_pos c, if_pos c, show strings_Count.f s ⟨#[40]⟩ = some ((s.data.toList.count 40 : Nat) : Int) from rfl, show strings_Count.f s ⟨#[41]⟩ = some ((s.data.toList.count 41 : Nat) : Int) from rfl, Option.bind_some, Option.bind_some, wrap_in ((s.size : Int) - _) (by omega), wrap_in _ (by omega)]
    congr 2
    omega
  · rw [if_neg c, if_neg c]
end Go.Proofs.Ytkapeoigpdppeaa.Pure
