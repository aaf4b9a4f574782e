/- Which numbers are in a set that was read. -/
import Derived.Test.YtjfmcbkclmoioaaQset
import Derived.Test.YtjfmcbkclmoioaaG14
import Derived.Test.YtjfmcbkclmoioaaG5
namespace Go.Proofs.Ytjfmcbkclmoioaa.Pure
open Go.RowKit Go.Proofs.Ytjfmcbkclmoioaa.G Go.Proofs.YtjfmcbkclmoioaaW.PrintWords Go.Proofs.YtjfmcbkclmoioaaW.PrintLast Go.Proofs.YtjfmcbkclmoioaaW.PrintMore

structure SOk (t r : List Bool) : Prop where
  t60 : t.length ≤ 60
  r1 : 1 ≤ r.length
  r60 : r.length ≤ 60
theorem sOk {l : List UInt8} (h : readOk l) : SOk (bitsL (tailL l)) (bitsL (ringL l)) := by
  have e1 : (bitsL (tailL l)).length = (tailL l).length := List.length_map ..
  have e2 : (bitsL (ringL l)).length = (ringL l).length := List.length_map ..
  have e3 : (ringL l).length = l.length - 1 - (pos l + 1) := by
    unfold ringL
    rw [List.length_take, List.length_drop]
    omega
  have := h.1
  exact ⟨by rw [e1]; exact h.2.2.2.2.1, by rw [e2]; omega, by rw [e2]; exact h.2.2.2.2.2⟩
/-- What both make of a text: a set, or none. -/
def setC (l : List UInt8) : Option (List Bool × List Bool) := if readOk l then some (bitsL (tailL l), bitsL (ringL l)) else none
theorem setC_ok {l : List UInt8} {t r : List Bool} (h : setC l = some (t, r)) : SOk t r := by
  unfold setC at h
  by_cases c : readOk l
  · rw [if_pos c] at h
    injection h with h
    injection h with h1 h2
    subst h1 h2
    exact sOk c
  · rw [if_neg c] at h
    cases h
theorem impl_some {a : ByteArray} {t r : List Bool} (hs : a.size ≤ 1048576) (h : setC a.data.toList = some (t, r)) : impl_setOf.f a = some (t, r, true) := by
  obtain ⟨t', r', e, f⟩ := setOf_eq a hs
  unfold setC at h
  by_cases c : readOk a.data.toList
  · rw [if_pos c] at h
    injection h with h
    injection h with h1 h2
    obtain ⟨g1, g2⟩ := f c
    rw [e, decide_eq_true c, g1, g2, h1, h2]
  · rw [if_neg c] at h
    cases h
theorem impl_none {a : ByteArray} (hs : a.size ≤ 1048576) (h : setC a.data.toList = none) : ∃ t r, impl_setOf.f a = some (t, r, false) := by
  obtain ⟨t', r', e, _⟩ := setOf_eq a hs
  unfold setC at h
  by_cases c : readOk a.data.toList
  · rw [if_pos c] at h
    cases h
  · exact ⟨t', r', by rw [e, decide_eq_false c]⟩
theorem spec_some {a : ByteArray} {t r : List Bool} (hs : a.size ≤ 1048576) (h : setC a.data.toList = some (t, r)) : Ev (fun k => spec_l1Read.f k a) (t, r, true) := by
  have e := read_ev a hs
  unfold readC at e
  unfold setC at h
  by_cases c : readOk a.data.toList
  · rw [if_pos c] at h e
    injection h with h
    injection h with h1 h2
    rw [h1, h2] at e
    exact e
  · rw [if_neg c] at h
    cases h
theorem spec_none {a : ByteArray} (hs : a.size ≤ 1048576) (h : setC a.data.toList = none) : Ev (fun k => spec_l1Read.f k a) ([], [false], false) := by
  have e := read_ev a hs
  unfold readC at e
  unfold setC at h
  by_cases c : readOk a.data.toList
  · rw [if_pos c] at h
    cases h
  · rw [if_neg c] at e
    exact e
def hasN (t r : List Bool) (n : Nat) : Bool := if n < t.length then t.getD n false else r.getD ((n - t.length) % r.length) false
theorem rdOf_nat (l : List Bool) (i : Nat) : rdOf false l (i : Int) = l.getD i false := by
  unfold rdOf
  rw [Int.toNat_natCast]
theorem spec_has {t r : List Bool} (h : SOk t r) (n : Nat) (hn : n ≤ 9223372036854775807) : spec_l1Has.f t r (n : Int) = some (hasN t r n) := by
  have h1 := h.t60
  have h2 := h.r1
  have h3 := h.r60
  unfold spec_l1Has.f hasN
  by_cases c : n < t.length
  · rw [if_pos (by omega), if_pos (by omega), if_pos c, rdOf_nat]
  · have w : wrap64 ((n : Int) - (t.length : Int)) = ((n - t.length : Nat) : Int) := by rw [wrap_in _ (by omega)]; omega
    have m : Int.tmod ((n - t.length : Nat) : Int) (r.length : Int) = (((n - t.length) % r.length : Nat) : Int) := (Int.ofNat_tmod _ _).symm
    have := Nat.mod_lt (n - t.length) (show r.length > 0 by omega)
    rw [if_neg (by omega), if_neg (by omega), w, m, if_pos (by omega), if_pos (by omega), if_neg c, rdOf_nat]
theorem impl_has {t r : List Bool} (h : SOk t r) (n : Nat) (hn : n ≤ 9223372036854775807) : impl_set_has.f t r (n : Int) = some (hasN t r n) := by
  have h1 := h.t60
  have h2 := h.r1
  have h3 := h.r60
  unfold impl_set_has.f hasN
  rw [if_neg (by omega)]
  by_cases c : n < t.length
  · rw [if_pos (by omega), if_pos (by omega), if_pos c, rdOf_nat]
  · have w : wrap64 ((n : Int) - (t.length : Int)) = ((n - t.length : Nat) : Int) := by rw [wrap_in _ (by omega)]; omega
    have m : Int.tmod ((n - t.length : Nat) : Int) (r.length : Int) = (((n - t.length) % r.length : Nat) : Int) := (Int.ofNat_tmod _ _).symm
    have := Nat.mod_lt (n - t.length) (show r.length > 0 by omega)
    rw [if_neg (by omega), if_neg (by omega), w, m, if_pos (by omega), if_pos (by omega), if_neg c, rdOf_nat]
theorem impl_has_neg (t r : List Bool) (n : Int) (hn : n < 0) : impl_set_has.f t r n = some false := by
  unfold impl_set_has.f
  rw [if_pos hn]
end Go.Proofs.Ytjfmcbkclmoioaa.Pure
