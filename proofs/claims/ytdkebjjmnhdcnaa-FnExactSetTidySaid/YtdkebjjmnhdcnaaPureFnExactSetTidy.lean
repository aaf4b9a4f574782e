/- The law FnExactSetTidy answers true for every text. It has no condition. -/
import Derived.Test.YtdkebjjmnhdcnaaQtext
import Derived.Test.YtdkebjjmnhdcnaaG11
import Derived.Test.YtdkebjjmnhdcnaaG5
import Derived.Test.YtdkebjjmnhdcnaaG6
namespace Go.Proofs.Ytdkebjjmnhdcnaa.Pure
open Go.RowKit Go.Proofs.Ytdkebjjmnhdcnaa.G Go.Proofs.YtdkebjjmnhdcnaaW.PrintWords Go.Proofs.YtdkebjjmnhdcnaaW.PrintLast

theorem spec_setTidy_ev (a : ByteArray) (hs : a.size ≤ 1048576) : Ev (fun k => spec_SetTidy.f k a) (tidyS a.data.toList) := by
  simp only [spec_SetTidy.f, spec_l1Done.f]
  unfold tidyS
  cases hc : setC a.data.toList with
  | none => rw [ev_bind (spec_none hs hc), ev_neg (by simp), ev_some]
  | some q =>
    obtain ⟨t, r⟩ := q
    have h := setC_ok hc
    have h1 := h.t60
    have h3 := h.r60
    have hn := nf_small h
    have e : Ev (fun k => (spec_l1Less.f k t r).bind fun bt => (if (bt.1.length : Int) > 60 then (some ((⟨#[]⟩ : ByteArray), false)) else (if (bt.2.length : Int) > 60 then (some ((⟨#[]⟩ : ByteArray), false)) else ((spec_l1Write.f k bt.1 bt.2).bind fun t197 => (some (t197, true)))))) (wrB (nf t r).1 (nf t r).2, true) := by
      rw [ev_bind (less_ok h), ev_neg (by omega), ev_neg (by omega), ev_bind (write_ev _ _ (by omega) (by omega)), ev_some]
    rw [ev_bind (spec_some hs hc), ev_pos rfl, ev_bind e, ev_some]
theorem FnExactSetTidy : laws_FnExactSetTidy.Pure := by
  intro a hs0
  refine Ev.rounds ?_
  simp only [laws_FnExactSetTidy.f]
  by_cases c : (a.size : Int) > 1048576
  · rw [ev_pos c, ev_some]
  have hs : a.size ≤ 1048576 := by omega
  rw [ev_neg c, ev_bind (spec_setTidy_ev a hs), ev_bind (impl_setTidy_ev a hs), ev_pos rfl, ev_neg (by simp), ev_some]
end Go.Proofs.Ytdkebjjmnhdcnaa.Pure
