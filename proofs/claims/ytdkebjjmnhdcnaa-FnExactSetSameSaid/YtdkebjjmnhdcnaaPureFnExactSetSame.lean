/- The law FnExactSetSame answers true for every two texts. It has no condition. -/
import Derived.Test.YtdkebjjmnhdcnaaQtext
import Derived.Test.YtdkebjjmnhdcnaaG12
import Derived.Test.YtdkebjjmnhdcnaaG13
import Derived.Test.YtdkebjjmnhdcnaaG14
namespace Go.Proofs.Ytdkebjjmnhdcnaa.Pure
open Go.RowKit Go.Proofs.Ytdkebjjmnhdcnaa.G Go.Proofs.YtdkebjjmnhdcnaaW.PrintWords Go.Proofs.YtdkebjjmnhdcnaaW.PrintLast

/-- What both answer. -/
def eqS (l m : List UInt8) : Bool := match setC l, setC m with
  | some (t, r), some (u, v) => (wrB (nf t r).1 (nf t r).2).toList == (wrB (nf u v).1 (nf u v).2).toList
  | _, _ => false
theorem impl_setSame_ev (a b : ByteArray) (ha : a.size ≤ 1048576) (hb : b.size ≤ 1048576) : Ev (fun k => impl_SetSame.f k a b) (eqS a.data.toList b.data.toList) := by
  simp only [impl_SetSame.f]
  rw [ev_bind (impl_setTidy_ev a ha), ev_bind (impl_setTidy_ev b hb)]
  unfold tidyS eqS
  cases hc : setC a.data.toList with
  | none =>
    cases hd : setC b.data.toList with
    | none => rw [ev_neg (by simp), ev_some]
    | some q => rw [ev_neg (by simp), ev_some]
  | some p =>
    obtain ⟨t, r⟩ := p
    cases hd : setC b.data.toList with
    | none => rw [ev_pos (by rfl), ev_neg (by simp), ev_some]
    | some q =>
      obtain ⟨u, v⟩ := q
      rw [ev_pos (by rfl), ev_pos (by rfl), ev_some]
theorem spec_setSame_ev (a b : ByteArray) (ha : a.size ≤ 1048576) (hb : b.size ≤ 1048576) : Ev (fun k => spec_SetSame.f k a b) (eqS a.data.toList b.data.toList) := by
  simp only [spec_SetSame.f]
  unfold eqS
  cases hc : setC a.data.toList with
  | none =>
    cases hd : setC b.data.toList with
    | none => rw [ev_bind (spec_none ha hc), ev_bind (spec_none hb hd), ev_neg (by simp), ev_some]
    | some q =>
      obtain ⟨u, v⟩ := q
      rw [ev_bind (spec_none ha hc), ev_bind (spec_some hb hd), ev_neg (by simp), ev_some]
  | some p =>
    obtain ⟨t, r⟩ := p
    cases hd : setC b.data.toList with
    | none => rw [ev_bind (spec_some ha hc), ev_bind (spec_none hb hd), ev_pos rfl, ev_neg (by simp), ev_some]
    | some q =>
      obtain ⟨u, v⟩ := q
      have h := setC_ok hc
      have g := setC_ok hd
      have h1 := h.t60
      have h3 := h.r60
      have hn := nf_small h
      have g1 := g.t60
      have g3 := g.r60
      have gn := nf_small g
      rw [ev_bind (spec_some ha hc), ev_bind (spec_some hb hd), ev_pos rfl, ev_pos rfl, ev_bind (less_ok h), ev_bind (write_ev _ _ (by omega) (by omega)), ev_bind (less_ok g), ev_bind (write_ev _ _ (by omega) (by omega)), ev_some]
theorem FnExactSetSame : laws_FnExactSetSame.Pure := by
  intro a b hs0 ht0
  refine Ev.rounds ?_
  simp only [laws_FnExactSetSame.f]
  by_cases c : (a.size : Int) > 1048576
  · rw [ev_pos c, ev_some]
  by_cases d : (b.size : Int) > 1048576
  · rw [ev_neg c, ev_pos d, ev_some]
  have ha : a.size ≤ 1048576 := by omega
  have hb : b.size ≤ 1048576 := by omega
  rw [ev_neg c, ev_neg d, ev_bind (spec_setSame_ev a b ha hb), ev_bind (impl_setSame_ev a b ha hb), ev_neg (by simp), ev_some]
end Go.Proofs.Ytdkebjjmnhdcnaa.Pure
