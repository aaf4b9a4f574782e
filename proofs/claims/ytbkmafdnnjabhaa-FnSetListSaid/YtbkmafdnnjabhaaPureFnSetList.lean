/- The law FnSetList answers true for every text and number that are drawn. It has no condition. -/
import Derived.Test.YtbkmafdnnjabhaaQset4
import Derived.Test.YtbkmafdnnjabhaaQset6
import Derived.Test.YtbkmafdnnjabhaaQsetd
import Derived.Test.YtbkmafdnnjabhaaQnumd
import Derived.Test.YtbkmafdnnjabhaaQsame
import Derived.Test.YtbkmafdnnjabhaaG18
import Derived.Test.YtbkmafdnnjabhaaG20
namespace Go.Proofs.Ytbkmafdnnjabhaa.Pure
open Go.RowKit Go.Proofs.Ytbkmafdnnjabhaa.G Go.Proofs.YtbkmafdnnjabhaaW.PrintWords Go.Proofs.YtbkmafdnnjabhaaW.PrintLast

theorem listN_front (p : Nat → Bool) (k : Nat) : ∀ (d : Nat), ∃ s, listN p (k + d) = listN p k ++ s
  | 0 => ⟨[], by simp⟩
  | d + 1 => by
    obtain ⟨s, e⟩ := listN_front p k d
    rw [← Nat.add_assoc, listN, e]
    split
    · exact ⟨s ++ [((k + d : Nat) : Int)], by rw [List.append_assoc]⟩
    · exact ⟨s, rfl⟩
theorem list_l0 {a : ByteArray} {t r : List Bool} (hs : a.size ≤ 1048576) (h : setC a.data.toList = some (t, r)) (n : Nat) (hn : n ≤ 1000) (d : Nat) : ∀ (i : Nat), n - i = d → i ≤ n →
    Ev (fun k => laws_FnSetList.l0 k a (n : Int) (listN (hasN t r) n) ((listN (hasN t r) i).length : Int) (i : Int)) true := by
  induction d with
  | zero =>
    intro i hd hi
    rw [ev_step (fun k => by rw [laws_FnSetList.l0]), ev_neg (by omega), ev_some, show i = n by omega]
    simp
  | succ d ih =>
    intro i hd hi
    have hl := listN_le (hasN t r) i
    have := ih (i + 1) (by omega) (by omega)
    rw [ev_step (fun k => by rw [laws_FnSetList.l0]), ev_pos (by omega), ev_bind0 (setHas_some hs h i (by omega)), wrap_in ((i : Int) + 1) (by omega)]
    rw [listN] at this
    by_cases p : hasN t r i = true
    · obtain ⟨s, e⟩ := listN_front (hasN t r) (i + 1) (n - (i + 1))
      rw [show i + 1 + (n - (i + 1)) = n by omega, listN, if_pos p] at e
      have hlen : (listN (hasN t r) i).length < (listN (hasN t r) n).length := by rw [e]; simp only [List.length_append, List.length_cons, List.length_nil]; omega
      have hv : rd (listN (hasN t r) n) ((listN (hasN t r) i).length : Int) = (i : Int) := by
        rw [rd_nat, e, List.getD_eq_getElem?_getD, List.append_assoc, List.getElem?_append_right (Nat.le_refl _), Nat.sub_self]
        rfl
      rw [if_pos p] at this
      rw [ev_pos p, ev_neg (by omega), ev_pos (by omega), ev_pos (by omega), ev_pos hv, wrap_in _ (by omega)]
      rw [List.length_append] at this
      exact this
    · rw [if_neg p] at this
      rw [ev_neg p]
      exact this
theorem FnSetList : laws_FnSetList.Pure := by
  intro l0 hm _ hw
  refine Ev.rounds ?_
  simp only [laws_FnSetList.f]
  by_cases c : (l0.length : Int) > 1048576
  · rw [ev_pos c, ev_some]
  obtain ⟨s, hs0, e⟩ := open_ev l0 hw
  obtain ⟨a, q, g1, g2, g3⟩ := dset_ev s hs0 0 (by omega)
  obtain ⟨n, q2, h1, h2, h3⟩ := dnum_ev s hs0 q (by omega) 1000 (by omega)
  have hs : a.size ≤ 1048576 := by omega
  have d : Ev (fun k => spec_DrawSetList.f k l0) (a, n) := by
    simp only [spec_DrawSetList.f]
    rw [ev_bind0 e, ev_bind g3, ev_bind h3, ev_some]
  have hl := listS_len a.data.toList n
  have sm := sameInts_self (listS a.data.toList n).1 (by omega)
  rw [ev_neg c, ev_bind d, ev_bind (impl_setList_ev a n hs), ev_bind (spec_setList_ev a n hs), ev_bind sm, ev_pos rfl, ev_step (fun k => by rw [laws_FnSetList.j0]), ev_pos (by simp), ev_step (fun k => by rw [laws_FnSetList.j1])]
  unfold listS
  cases hc : setC a.data.toList with
  | none => rw [ev_pos (by rfl)]; exact (ev_some _ _).2 rfl
  | some q =>
    obtain ⟨t, r⟩ := q
    simp only
    by_cases b : 0 ≤ n ∧ n ≤ 1000
    · obtain ⟨m, rfl⟩ := Int.eq_ofNat_of_zero_le b.1
      rw [if_pos b, Int.toNat_natCast, ev_neg (by simp)]
      exact list_l0 hs hc m (by omega) m 0 (by omega) (by omega)
    · rw [if_neg b, ev_pos (by rfl)]; exact (ev_some _ _).2 rfl
end Go.Proofs.Ytbkmafdnnjabhaa.Pure
