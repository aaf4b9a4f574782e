/- Whether a text is a set's, and whether a number is in it; the size of a drawn set. -/
import Derived.Test.YtdkebjjmnhdcnaaQset2
import Derived.Test.YtdkebjjmnhdcnaaG22
namespace Go.Proofs.Ytdkebjjmnhdcnaa.Pure
open Go.RowKit Go.Proofs.Ytdkebjjmnhdcnaa.G Go.Proofs.YtdkebjjmnhdcnaaW.PrintWords Go.Proofs.YtdkebjjmnhdcnaaW.PrintLast

theorem setHas_some {a : ByteArray} {t r : List Bool} (hs : a.size ≤ 1048576) (h : setC a.data.toList = some (t, r)) (n : Nat) (hn : n ≤ 9223372036854775807) : impl_SetHas.f a (n : Int) = some (hasN t r n) := by
  unfold impl_SetHas.f
  rw [impl_some hs h, Option.bind_some, if_pos rfl, impl_has (setC_ok h) n hn, Option.bind_some]
/-- A set of a short text is small. -/
theorem setC_small {a : ByteArray} {t r : List Bool} (h : setC a.data.toList = some (t, r)) : t.length + r.length + 2 = a.size := by
  rw [size_len]
  generalize a.data.toList = l at h
  unfold setC at h
  by_cases c : readOk l
  · rw [if_pos c] at h
    injection h with h
    injection h with h1 h2
    subst h1 h2
    have e1 : (bitsL (tailL l)).length = (tailL l).length := List.length_map ..
    have e2 : (bitsL (ringL l)).length = (ringL l).length := List.length_map ..
    have e3 : (ringL l).length = l.length - 1 - (pos l + 1) := by
      unfold ringL
      rw [List.length_take, List.length_drop]
      omega
    have e4 : (tailL l).length = pos l := by
      have := pos_le l
      unfold tailL
      rw [List.length_take]
      omega
    have := c.1
    omega
  · rw [if_neg c] at h
    cases h
end Go.Proofs.Ytdkebjjmnhdcnaa.Pure
