/- How a machine, or a list of lists of numbers, that came in is read. -/
import Derived.Test.YtbgjehgfaakfdaaG0
import Derived.WalkKit
import Derived.ProofKit
import Derived.OpenShut
import Derived.Lib.SmallJoins
import Derived.Deep.Matrix
namespace Go.Proofs.Ytbgjehgfaakfdaa.Pure
open Go.ChangeShapes Go.WideShapes Go.ChangeAt Go.RowKit Go.Joins Go.Deep
open Go.Proofs.Ytbgjehgfaakfdaa.G Go.Proofs.YtbgjehgfaakfdaaW.PrintWords
set_option linter.unusedVariables false
set_option maxRecDepth 100000
variable {H : Type} {enc : TypeId × Value → H} {W : World} {base : Nat} {v : Value} {d : DataW H} {p : List MemPlace}

theorem row_C (x : Addr) (l c : Nat) (zs : List Int) (hl : l ≤ c) (hm : c ≤ maxLen) (hz : zs.length = c) (hcell : ∀ i, i < c → W.cell? (x.add i) = some (.int .i64 (zs.getD i 0))) :
    Kd.C (Kd.int .i64) W (some x) (zs.take l).length (zs.take l) := by
  have hlen : (zs.take l).length = l := by rw [List.length_take]; omega
  refine ⟨rfl, by rw [hlen]; unfold maxLen at hm; omega, fun _ => ⟨x, rfl, fun j q hq => ?_⟩⟩
  have hj : j < l := by
    have := (List.getElem?_eq_some_iff.1 hq).1
    omega
  have hq2 : zs.getD j 0 = q := by
    rw [List.getElem?_take_of_lt hj] at hq
    rw [List.getD_eq_getElem?_getD, hq]
    rfl
  refine ⟨[.int .i64 q], rfl, rfl, fun i u hu => ?_⟩
  have hi : i = 0 := by
    have := (List.getElem?_eq_some_iff.1 hu).1
    simpa using this
  subst hi
  have hu2 : u = .int .i64 q := by simpa using hu.symm
  subst hu2
  have := hcell j (by omega)
  rw [hq2] at this
  have e : j * (Kd.int IntKind.i64).sz + 0 = j := by
    show j * 1 + 0 = j
    omega
  rw [e]
  exact this
theorem nil_C : Kd.C (Kd.int .i64) W none ([] : List Int).length ([] : List Int) := ⟨rfl, by simp, fun h => absurd h (by simp)⟩
/-- A slice of numbers that came in. -/
theorem ints_C {fuel : Nat} {cs : List Value} {x : DataW H × List MemPlace} (h : DataW.trod enc Try.prog W 0 (fun _ => true) true fuel 22 cs = some x) :
    ∃ (A : Option Addr) (c : Nat) (l : List Int), cs = [.slice A l.length c] ∧ Kd.C (Kd.int .i64) W A l.length l ∧ l.length ≤ c ∧ l.length ≤ maxLen ∧ ∀ x ∈ l, (Lit.int .i64 x).wf = true := by
  rcases open_ints Try.underlying22 Try.underlying3 (by kernel_rfl) h with ⟨hcs, _⟩ | ⟨x, l, c, zs, hcs, _, hl, hm, hz, _, hcell, hwz⟩
  · exact ⟨none, 0, [], hcs, nil_C, by simp, by simp, fun x hx => by simp at hx⟩
  · simp only [if_true] at hz
    have hlen : (zs.take l).length = l := by rw [List.length_take]; omega
    exact ⟨some x, c, zs.take l, by rw [hlen]; exact hcs, row_C x l c zs hl hm hz (fun i hi => hcell i (by omega)), by omega, by omega, fun y hy => hwz y (List.mem_of_mem_take hy)⟩
theorem open_mach (hv : Value.okWide Try.prog W .any base 24 v) (h : DataW.Trod enc Try.prog W 0 (fun _ => true) true 24 v d p) :
    ∃ (A : Option Addr) (c : Nat) (l : List Int) (a b : Int), v = .agg #[.slice A l.length c, .int .i64 a, .int .i64 b] ∧ Kd.C (Kd.int .i64) W A l.length l ∧ l.length ≤ c ∧ l.length ≤ maxLen ∧ (∀ x ∈ l, (Lit.int .i64 x).wf = true) ∧ (Lit.int .i64 a).wf = true ∧ (Lit.int .i64 b).wf = true := by
  obtain ⟨c0, c1, c2, y0, y1, y2, n, rfl, _, _, hy0, hy1, hy2⟩ := open_agg3 Try.underlying24 (by kernel_rfl) (by kernel_rfl) hv h
  obtain ⟨A, c, l, e0, hr, hc, hm, hw⟩ := ints_C hy0
  obtain ⟨a, e1, _, wa⟩ := DataW.trod_int Try.underlying3 hy1
  obtain ⟨b, e2, _, wb⟩ := DataW.trod_int Try.underlying3 hy2
  simp only [List.cons.injEq, and_true] at e0 e1 e2
  subst e0 e1 e2
  exact ⟨A, c, l, a, b, rfl, hr, hc, hm, hw, wa, wb⟩
end Go.Proofs.Ytbgjehgfaakfdaa.Pure
