/- The least number by which a rest is the same: the program's and the reference's. -/
import Derived.Test.YtkfjcpnbfecldaaQdown
import Derived.Test.YtkfjcpnbfecldaaQsize
import Derived.Test.YtkfjcpnbfecldaaG19
import Derived.Test.YtkfjcpnbfecldaaG22
namespace Go.Proofs.Ytkfjcpnbfecldaa.Pure
open Go.RowKit Go.Proofs.Ytkfjcpnbfecldaa.G Go.Proofs.YtkfjcpnbfecldaaW.PrintWords Go.Proofs.YtkfjcpnbfecldaaW.PrintLast Go.Proofs.YtkfjcpnbfecldaaW.PrintMore

theorem rin6_eq (n lo hi : Int) : spec_l6In.f n lo hi = some (decide (lo ≤ n ∧ n ≤ hi)) := ite_bool
theorem rin_eq (n lo hi : Int) : impl_in.f n lo hi = some (decide (lo ≤ n ∧ n ≤ hi)) := ite_bool
theorem rest_eq {t r : List Bool} (ht : t.length ≤ 60) (h1 : 1 ≤ r.length) (hr : r.length ≤ 60) (k : Nat) (hk : k ≤ 100000) : impl_set_rest.f t r (k : Int) = some ((restN t r k : Nat) : Int) := by
  unfold impl_set_rest.f restN
  by_cases c : k < t.length
  · rw [if_pos (by omega), if_pos c]
  · have hm := Nat.mod_lt (k - t.length) (show r.length > 0 by omega)
    have w : wrap64 ((k : Int) - (t.length : Int)) = ((k - t.length : Nat) : Int) := by rw [wrap_in _ (by omega)]; omega
    rw [if_neg (by omega), if_neg (by omega), w, tmod_nat, if_neg c, wrap_in _ (by omega), Int.natCast_add]
end Go.Proofs.Ytkfjcpnbfecldaa.Pure
