/- The lists and counts that the program and the reference make of a text and a number. -/
import Derived.Test.YtbkmafdnnjabhaaQset3
import Derived.Test.YtbkmafdnnjabhaaG15
import Derived.Test.YtbkmafdnnjabhaaG19
namespace Go.Proofs.Ytbkmafdnnjabhaa.Pure
open Go.RowKit Go.Proofs.Ytbkmafdnnjabhaa.G Go.Proofs.YtbkmafdnnjabhaaW.PrintWords Go.Proofs.YtbkmafdnnjabhaaW.PrintLast Go.Proofs.YtbkmafdnnjabhaaW.PrintMore

def listS (l : List UInt8) (n : Int) : List Int × Bool := match setC l with
  | none => ([], false)
  | some (t, r) => if 0 ≤ n ∧ n ≤ 1000 then (listN (hasN t r) n.toNat, true) else ([], false)
theorem listS_len (l : List UInt8) (n : Int) : (listS l n).1.length ≤ 1000 := by
  unfold listS
  cases setC l with
  | none => simp
  | some q =>
    obtain ⟨t, r⟩ := q
    simp only
    by_cases c : 0 ≤ n ∧ n ≤ 1000
    · rw [if_pos c]
      have := listN_le (hasN t r) n.toNat
      show (listN (hasN t r) n.toNat).length ≤ 1000
      omega
    · rw [if_neg c]
      simp
theorem impl_setList_ev (a : ByteArray) (n : Int) (hs : a.size ≤ 1048576) : Ev (fun k => impl_SetList.f k a n) (listS a.data.toList n) := by
  simp only [impl_SetList.f]
  unfold listS
  cases hc : setC a.data.toList with
  | none =>
    obtain ⟨t, r, e⟩ := impl_none hs hc
    rw [ev_bind0 e, ev_neg (by simp), ev_some]
  | some q =>
    obtain ⟨t, r⟩ := q
    have ok := setC_ok hc
    rw [ev_bind0 (impl_some hs hc), ev_pos rfl, ev_bind0 (in_eq _ _ _)]
    simp only
    by_cases c : 0 ≤ n ∧ n ≤ 1000
    · obtain ⟨m, rfl⟩ := Int.eq_ofNat_of_zero_le c.1
      rw [if_pos c, ev_pos (by simpa using c.2), Int.toNat_natCast, ev_bind (impl_list_ev ok m (by omega)), ev_some]
    · rw [if_neg c, ev_neg (by rw [decide_eq_false c]; decide), ev_some]
theorem spec_setList_ev (a : ByteArray) (n : Int) (hs : a.size ≤ 1048576) : Ev (fun k => spec_SetList.f k a n) (listS a.data.toList n) := by
  simp only [spec_SetList.f]
  unfold listS
  cases hc : setC a.data.toList with
  | none => rw [ev_bind (spec_none hs hc), ev_neg (by simp), ev_some]
  | some q =>
    obtain ⟨t, r⟩ := q
    have ok := setC_ok hc
    rw [ev_bind (spec_some hs hc), ev_pos rfl, ev_bind0 (l6In_eq _ _ _)]
    simp only
    by_cases c : 0 ≤ n ∧ n ≤ 1000
    · obtain ⟨m, rfl⟩ := Int.eq_ofNat_of_zero_le c.1
      rw [if_pos c, ev_pos (by simpa using c.2), Int.toNat_natCast, ev_bind (spec_list_ev ok m (by omega)), ev_some]
    · rw [if_neg c, ev_neg (by rw [decide_eq_false c]; decide), ev_some]
theorem impl_setCount_ev (a : ByteArray) (n : Int) (hs : a.size ≤ 1048576) : Ev (fun k => impl_SetCount.f k a n) (((listS a.data.toList n).1.length : Int), (listS a.data.toList n).2) := by
  simp only [impl_SetCount.f]
  rw [ev_bind (impl_setList_ev a n hs), ev_some]
theorem spec_setCount_ev (a : ByteArray) (n : Int) (hs : a.size ≤ 1048576) : Ev (fun k => spec_SetCount.f k a n) (((listS a.data.toList n).1.length : Int), (listS a.data.toList n).2) := by
  simp only [spec_SetCount.f]
  unfold listS
  cases hc : setC a.data.toList with
  | none =>
    rw [ev_bind (spec_none hs hc), ev_neg (by simp), ev_some]
    rfl
  | some q =>
    obtain ⟨t, r⟩ := q
    have ok := setC_ok hc
    rw [ev_bind (spec_some hs hc), ev_pos rfl, ev_bind0 (l6In_eq _ _ _)]
    simp only
    by_cases c : 0 ≤ n ∧ n ≤ 1000
    · obtain ⟨m, rfl⟩ := Int.eq_ofNat_of_zero_le c.1
      rw [if_pos c, ev_pos (by simpa using c.2), Int.toNat_natCast, ev_bind (spec_list_ev ok m (by omega)), ev_some]
    · rw [if_neg c, ev_neg (by rw [decide_eq_false c]; decide), ev_some]
      rfl
end Go.Proofs.Ytbkmafdnnjabhaa.Pure
