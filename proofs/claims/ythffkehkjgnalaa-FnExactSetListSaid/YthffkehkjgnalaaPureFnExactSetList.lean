/- The law FnExactSetList answers true for every text and number. It has no condition. -/
import Derived.Test.YthffkehkjgnalaaQset4
import Derived.Test.YthffkehkjgnalaaQkit2
import Derived.Test.YthffkehkjgnalaaG16
namespace Go.Proofs.Ythffkehkjgnalaa.Pure
open Go.RowKit Go.Proofs.Ythffkehkjgnalaa.G Go.Proofs.YthffkehkjgnalaaW.PrintWords Go.Proofs.YthffkehkjgnalaaW.PrintLast

theorem FnExactSetList : laws_FnExactSetList.Pure := by
  intro a n hs hn
  refine Ev.rounds ?_
  simp only [laws_FnExactSetList.f]
  by_cases c : (a.size : Int) > 1048576
  · rw [ev_pos c, ev_some]
  have hs2 : a.size ≤ 1048576 := by omega
  have hl := listS_len a.data.toList n
  have i := impl_setList_ev a n hs2
  have s := spec_setList_ev a n hs2
  generalize listS a.data.toList n = L at hl i s
  obtain ⟨l, ok⟩ := L
  simp only at hl
  have e := eqIntS_self l (by omega)
  have m := mark_ev l 1 (by omega) (by omega)
  have h := held_ev l.length 1 (by omega) (by omega)
  rw [ev_neg c, ev_bind s, ev_bind i, ev_bind e, ev_pos rfl, ev_step (fun k => by rw [laws_FnExactSetList.j0]), ev_neg (by simp), ev_bind m, ev_bind h, ev_neg (by omega), ev_pos rfl, ev_bind i, ev_bind e, ev_pos rfl, ev_step (fun k => by rw [laws_FnExactSetList.j1]), ev_neg (by simp), ev_bind h, ev_neg (by omega), ev_pos rfl, ev_some]
end Go.Proofs.Ythffkehkjgnalaa.Pure
