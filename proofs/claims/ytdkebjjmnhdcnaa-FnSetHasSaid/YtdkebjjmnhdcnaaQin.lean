/- Whether a text is a set's: what the program says. -/
import Derived.Test.YtdkebjjmnhdcnaaQset2
import Derived.Test.YtdkebjjmnhdcnaaG18
namespace Go.Proofs.Ytdkebjjmnhdcnaa.Pure
open Go.RowKit Go.Proofs.Ytdkebjjmnhdcnaa.G Go.Proofs.YtdkebjjmnhdcnaaW.PrintWords Go.Proofs.YtdkebjjmnhdcnaaW.PrintLast

theorem setIn_eq (a : ByteArray) (hs : a.size ≤ 1048576) : impl_SetIn.f a = some (setC a.data.toList).isSome := by
  unfold impl_SetIn.f
  cases hc : setC a.data.toList with
  | none =>
    obtain ⟨t, r, e⟩ := impl_none hs hc
    rw [e]
    rfl
  | some q =>
    obtain ⟨t, r⟩ := q
    rw [impl_some hs hc]
    rfl
end Go.Proofs.Ytdkebjjmnhdcnaa.Pure
