/- How a machine, or a list of lists of numbers, that came in is read. -/
import Derived.Test.YtdiaifmlockohaaG0
import Derived.WalkKit
import Derived.ProofKit
import Derived.OpenShut
import Derived.Lib.SmallJoins
import Derived.Deep.Matrix
namespace Go.Proofs.Ytdiaifmlockohaa.Pure
open Go.ChangeShapes Go.WideShapes Go.ChangeAt Go.RowKit Go.Joins Go.Deep
open Go.Proofs.Ytdiaifmlockohaa.G Go.Proofs.YtdiaifmlockohaaW.PrintWords
set_option linter.unusedVariables false
set_option maxRecDepth 100000
variable {H : Type} {enc : TypeId × Value → H} {W : World} {base : Nat} {v : Value} {d : DataW H} {p : List MemPlace}

theorem row_C (x : Addr) (l c : Nat) (zs : List Int) (hl : l ≤ c) (hm : c ≤ maxLen) (hz : zs.length = c) (hcell : ∀ i, i < c → W.cell? (x.add i) = some (.int .i64 (zs.getD i 0))) :
    Kd.C (Kd.int .i64) W (some x) (zs.take l).length (zs.take l) := by
  have hlen : (zs.take l).length = l := by rw [List.length_take]; omega
  refine ⟨rfl, by rw [hlen]; unfold maxLen at hm; omega, fun _ => ⟨x, rfl, fun j q hq => ?_⟩⟩
  have hj : j < l := by
    have := (List.getElem?_eq_some_iff.1 hq).1
    omega
  have hq2 : zs.getD j 0 = q := by
    rw [List.getElem?_take_of_lt hj] at hq
    rw [List.getD_eq_getElem?_getD, hq]
    rfl
  refine ⟨[.int .i64 q], rfl, rfl, fun i u hu => ?_⟩
  have hi : i = 0 := by
    have := (List.getElem?_eq_some_iff.1 hu).1
    simpa using this
  subst hi
  have hu2 : u = .int .i64 q := by simpa using hu.symm
  subst hu2
  have := hcell j (by omega)
  rw [hq2] at this
  have e : j * (Kd.int IntKind.i64).sz + 0 = j := by
    show j * 1 + 0 = j
    omega
  rw [e]
  exact this
theorem nil_C : Kd.C (Kd.int .i64) W none ([] : List Int).length ([] : List Int) := ⟨rfl, by simp, fun h => absurd h (by simp)⟩
/-- A slice of numbers that came in. -/
theorem ints_C {fuel : Nat} {cs : List Value} {x : DataW H × List MemPlace} (h : DataW.trod enc Try.prog W 0 (fun _ => true) true fuel 33 cs = some x) :
    ∃ (A : Option Addr) (c : Nat) (l : List Int), cs = [.slice A l.length c] ∧ Kd.C (Kd.int .i64) W A l.length l ∧ l.length ≤ c ∧ l.length ≤ maxLen ∧ ∀ x ∈ l, (Lit.int .i64 x).wf = true := by
  rcases open_ints Try.underlying33 Try.underlying3 (by kernel_rfl) h with ⟨hcs, _⟩ | ⟨x, l, c, zs, hcs, _, hl, hm, hz, _, hcell, hwz⟩
  · exact ⟨none, 0, [], hcs, nil_C, by simp, by simp, fun x hx => by simp at hx⟩
  · simp only [if_true] at hz
    have hlen : (zs.take l).length = l := by rw [List.length_take]; omega
    exact ⟨some x, c, zs.take l, by rw [hlen]; exact hcs, row_C x l c zs hl hm hz (fun i hi => hcell i (by omega)), by omega, by omega, fun y hy => hwz y (List.mem_of_mem_take hy)⟩
theorem rows_C (x : Addr) (len cap : Nat) (A : Nat → Option Addr) (L C : Nat → Nat) (Z : Nat → List Int) (hl : len ≤ cap) (hm : cap ≤ maxLen)
    (h : ∀ r, r < cap → W.cell? (x.add r) = some (.slice (A r) (L r) (C r)) ∧ Kd.C (Kd.int .i64) W (A r) ((Z r).take (L r)).length ((Z r).take (L r)) ∧ ((Z r).take (L r)).length = L r ∧ L r ≤ C r) :
    Kd.C (Kd.slice 3 (Kd.int .i64)) W (some x) ((List.range len).map fun r => (Z r).take (L r)).length ((List.range len).map fun r => (Z r).take (L r)) := by
  have hlen : ((List.range len).map fun r => (Z r).take (L r)).length = len := by simp
  refine ⟨rfl, by rw [hlen]; unfold maxLen at hm; omega, fun _ => ⟨x, rfl, fun j q hq => ?_⟩⟩
  have hj : j < len := by
    have := (List.getElem?_eq_some_iff.1 hq).1
    omega
  have hq2 : q = (Z j).take (L j) := by
    rw [List.getElem?_map, List.getElem?_range hj] at hq
    simpa using hq.symm
  subst hq2
  obtain ⟨h1, h2, h3, h4⟩ := h j (by omega)
  refine ⟨[.slice (A j) (L j) (C j)], rfl, ⟨A j, C j, by rw [h3], by rw [h3]; exact h4, h2⟩, fun i u hu => ?_⟩
  have hi : i = 0 := by
    have := (List.getElem?_eq_some_iff.1 hu).1
    simpa using this
  subst hi
  have hu2 : u = .slice (A j) (L j) (C j) := by simpa using hu.symm
  subst hu2
  have e : j * (Kd.slice 3 (Kd.int IntKind.i64)).sz + 0 = j := by
    show j * 1 + 0 = j
    omega
  rw [e]
  exact h1
theorem open_rows (hv : Value.okWide Try.prog W .any base 22 v) (h : DataW.Trod enc Try.prog W 0 (fun _ => true) true 22 v d p) :
    ∃ (A : Option Addr) (c : Nat) (l : List (List Int)), v = .slice A l.length c ∧ Kd.C (Kd.slice 3 (Kd.int .i64)) W A l.length l ∧ l.length ≤ c ∧ l.length ≤ maxLen ∧ ∀ r ∈ l, r.length ≤ maxLen ∧ ∀ x ∈ r, (Lit.int .i64 x).wf = true := by
  obtain ⟨a0, len0, cap0, rfl⟩ := okWide_slice Try.underlying22 hv
  obtain ⟨fuel, hf⟩ := h
  rcases open_int_rows Try.underlying22 Try.underlying33 Try.underlying3 (by kernel_rfl) (by kernel_rfl) hf with ⟨hcs, _⟩ | ⟨x, len, cap, A, L, C, Z, hcs, _, hl, hm, _, hr⟩
  · simp [Value.cells] at hcs
    obtain ⟨rfl, rfl, rfl⟩ := hcs
    exact ⟨none, 0, [], rfl, ⟨rfl, by simp, fun h => absurd h (by simp)⟩, by simp, by simp, fun r hr => by simp at hr⟩
  · simp [Value.cells] at hcs
    obtain ⟨rfl, rfl, rfl⟩ := hcs
    have key : ∀ r, r < cap0 → W.cell? (x.add r) = some (.slice (A r) (L r) (C r)) ∧ Kd.C (Kd.int .i64) W (A r) ((Z r).take (L r)).length ((Z r).take (L r)) ∧ ((Z r).take (L r)).length = L r ∧ L r ≤ C r := by
      intro r hrc
      obtain ⟨h1, h2, h3, h4, _, h6, h7⟩ := hr r hrc
      have hlen : ((Z r).take (L r)).length = L r := by rw [List.length_take]; omega
      refine ⟨h1, ?_, hlen, h2⟩
      cases hA : A r with
      | none =>
        have hc0 := h6 hA
        have hL : L r = 0 := by omega
        rw [hL]
        exact nil_C
      | some a' => exact row_C a' (L r) (C r) (Z r) h2 h3 h4 (fun i hi => (h7 a' hA).2 i hi)
    have hlen : ((List.range len0).map fun r => (Z r).take (L r)).length = len0 := by simp
    refine ⟨some x, cap0, (List.range len0).map fun r => (Z r).take (L r), by rw [hlen], rows_C x len0 cap0 A L C Z hl hm key, by omega, by omega, fun q hq => ?_⟩
    obtain ⟨r, hr1, rfl⟩ := List.mem_map.1 hq
    have hr2 : r < cap0 := by
      have := List.mem_range.1 hr1
      omega
    obtain ⟨_, h2, h3, h4, h5, _, _⟩ := hr r hr2
    exact ⟨by rw [List.length_take]; omega, fun y hy => h5 y (List.mem_of_mem_take hy)⟩
end Go.Proofs.Ytdiaifmlockohaa.Pure
