-- Made by gprint.py (the kit's print with contracts of this session's own among its functions).
import Derived.Test.YtbgjehgfaakfdaaG0
import Derived.Test.YtbgjehgfaakfdaaGS
import Derived.Test.YtbgjehgfaakfdaaG1
import Derived.Test.YtbgjehgfaakfdaaG3
import Derived.Test.YtbgjehgfaakfdaaG4
import Derived.Test.YtbgjehgfaakfdaaG5
import Derived.Test.YtbgjehgfaakfdaaG6
namespace Go.Proofs.Ytbgjehgfaakfdaa.G
open Go.RowKit Go.Proofs.YtbgjehgfaakfdaaW.PrintWords Go.Proofs.YtbgjehgfaakfdaaW.PrintLast Go.Proofs.YtbgjehgfaakfdaaW.PrintMore
attribute [local go_sem] max2_int min2_int max_two min_two max_three min_three max_four min_four   -- for this text's walks alone
set_option linter.unusedVariables false
set_option linter.unusedSimpArgs false

/-! ### laws_FnExactMachBoth: function 3 -/
mutual
def laws_FnExactMachBoth.j0 : Nat → Bool → Bool → Bool → List Int → Int → Int → List Int → Int → Int → List Int → Int → Int → List Int → Int → Int → List Int → Int → Int → List Int → Int → Int → Option (Bool)
 | 0, _, _, _, _, _, _, _, _, _, _, _, _, _, _, _, _, _, _, _, _, _ => none
 | k + 1, x7, x11, x53, x161000, x161001, x161002, x162000, x162001, x162002, x181000, x181001, x181002, x187000, x187001, x187002, x193000, x193001, x193002, x200000, x200001, x200002 => if x53 = true then (some false) else ((laws_toMachine.f k x161000 x161001 x161002).bind fun bt201 => ((laws_eqMachine.f k x187000 x187001 x187002 bt201.1 bt201.2.1 bt201.2.2).bind fun t206 => (if t206 = true then ((laws_toMachine.f k x162000 x162001 x162002).bind fun bt207 => ((laws_eqMachine.f k x193000 x193001 x193002 bt207.1 bt207.2.1 bt207.2.2).bind fun t212 => (if t212 = true then ((laws_markMachine.f k x187000 x187001 x187002 1).bind fun bt213 => ((laws_markMachine.f k x193000 x193001 x193002 bt213.1).bind fun bt215 => (if bt215.1 < 0 then (laws_FnExactMachBoth.j1 k x7 true x161000 x161001 x161002 x162000 x162001 x162002 x181000 x181001 x181002 x200000 x200001 x200002) else ((laws_eqMachine.f k x200000 x200001 x200002 x181000 x181001 x181002).bind fun t217 => (if t217 = true then (laws_FnExactMachBoth.j1 k x7 (x11 != x7) x161000 x161001 x161002 x162000 x162001 x162002 x181000 x181001 x181002 x200000 x200001 x200002) else (laws_FnExactMachBoth.j1 k x7 true x161000 x161001 x161002 x162000 x162001 x162002 x181000 x181001 x181002 x200000 x200001 x200002)))))) else (some false)))) else (some false))))
def laws_FnExactMachBoth.j1 : Nat → Bool → Bool → List Int → Int → Int → List Int → Int → Int → List Int → Int → Int → List Int → Int → Int → Option (Bool)
 | 0, _, _, _, _, _, _, _, _, _, _, _, _, _, _ => none
 | k + 1, x7, x82, x161000, x161001, x161002, x162000, x162001, x162002, x181000, x181001, x181002, x200000, x200001, x200002 => if x82 = true then (some false) else ((laws_markMachine.f k x200000 x200001 x200002 1).bind fun bt218 => ((laws_heldMachine.f k bt218.2 x200001 x200002 1).bind fun t220 => (if t220 < 0 then (some false) else (if t220 = bt218.1 then ((laws_toMachine.f k x161000 x161001 x161002).bind fun bt221 => ((laws_toMachine.f k x162000 x162001 x162002).bind fun bt226 => ((impl_MachBoth.f k bt221.1 bt221.2.1 bt221.2.2 bt226.1 bt226.2.1 bt226.2.2).bind fun bt231 => ((laws_eqMachine.f k bt231.1 bt231.2.1 bt231.2.2.1 x181000 x181001 x181002).bind fun t238 => (if t238 = true then (laws_FnExactMachBoth.j2 k bt218.1 (bt231.2.2.2 != x7) bt218.2 x200001 x200002) else (laws_FnExactMachBoth.j2 k bt218.1 true bt218.2 x200001 x200002)))))) else (some false)))))
def laws_FnExactMachBoth.j2 : Nat → Int → Bool → List Int → Int → Int → Option (Bool)
 | 0, _, _, _, _, _ => none
 | k + 1, x13, x110, x200000, x200001, x200002 => if x110 = true then (some false) else ((laws_heldMachine.f k x200000 x200001 x200002 1).bind fun t239 => (if t239 < 0 then (some false) else (if t239 = x13 then (some true) else (some false))))
end
def laws_FnExactMachBoth.f (k : Nat) (l0_0 : List Int) (a0_1 : Int) (a0_2 : Int) (l1_0 : List Int) (a1_1 : Int) (a1_2 : Int) : Option (Bool) := (laws_szMachine.f l0_0 a0_1 a0_2 1048576).bind fun t162 => (if t162 < 0 then (some true) else ((laws_szMachine.f l1_0 a1_1 a1_2 t162).bind fun t163 => (if t163 < 0 then (some true) else ((laws_toMachine.f k l0_0 a0_1 a0_2).bind fun bt164 => ((laws_toMachine.f k l1_0 a1_1 a1_2).bind fun bt169 => ((spec_MachBoth.f k bt164.1 bt164.2.1 bt164.2.2 bt169.1 bt169.2.1 bt169.2.2).bind fun bt174 => ((laws_toMachine.f k l0_0 a0_1 a0_2).bind fun bt181 => ((laws_toMachine.f k l1_0 a1_1 a1_2).bind fun bt187 => ((impl_MachBoth.f k bt181.1 bt181.2.1 bt181.2.2 bt187.1 bt187.2.1 bt187.2.2).bind fun bt193 => ((laws_eqMachine.f k bt193.1 bt193.2.1 bt193.2.2.1 bt174.1 bt174.2.1 bt174.2.2.1).bind fun t200 => (if t200 = true then (laws_FnExactMachBoth.j0 k bt174.2.2.2 bt193.2.2.2 (bt193.2.2.2 != bt174.2.2.2) l0_0 a0_1 a0_2 l1_0 a1_1 a1_2 bt174.1 bt174.2.1 bt174.2.2.1 bt181.1 bt181.2.1 bt181.2.2 bt187.1 bt187.2.1 bt187.2.2 bt193.1 bt193.2.1 bt193.2.2.1) else (laws_FnExactMachBoth.j0 k bt174.2.2.2 bt193.2.2.2 true l0_0 a0_1 a0_2 l1_0 a1_1 a1_2 bt174.1 bt174.2.1 bt174.2.2.1 bt181.1 bt181.2.1 bt181.2.2 bt187.1 bt187.2.1 bt187.2.2 bt193.1 bt193.2.1 bt193.2.2.1))))))))))))
theorem laws_FnExactMachBoth.mono_l : ∀ k, (∀ y0 y1 y2 y3 y4 y5 y6 y7 y8 y9 y10 y11 y12 y13 y14 y15 y16 y17 y18 y19 y20, LeO (laws_FnExactMachBoth.j0 k y0 y1 y2 y3 y4 y5 y6 y7 y8 y9 y10 y11 y12 y13 y14 y15 y16 y17 y18 y19 y20) (laws_FnExactMachBoth.j0 (k + 1) y0 y1 y2 y3 y4 y5 y6 y7 y8 y9 y10 y11 y12 y13 y14 y15 y16 y17 y18 y19 y20)) ∧ (∀ y0 y1 y2 y3 y4 y5 y6 y7 y8 y9 y10 y11 y12 y13, LeO (laws_FnExactMachBoth.j1 k y0 y1 y2 y3 y4 y5 y6 y7 y8 y9 y10 y11 y12 y13) (laws_FnExactMachBoth.j1 (k + 1) y0 y1 y2 y3 y4 y5 y6 y7 y8 y9 y10 y11 y12 y13)) ∧ (∀ y0 y1 y2 y3 y4, LeO (laws_FnExactMachBoth.j2 k y0 y1 y2 y3 y4) (laws_FnExactMachBoth.j2 (k + 1) y0 y1 y2 y3 y4))
 | 0 => ⟨fun _ _ _ _ _ _ _ _ _ _ _ _ _ _ _ _ _ _ _ _ _ r h => by simp [laws_FnExactMachBoth.j0] at h, fun _ _ _ _ _ _ _ _ _ _ _ _ _ _ r h => by simp [laws_FnExactMachBoth.j1] at h, fun _ _ _ _ _ r h => by simp [laws_FnExactMachBoth.j2] at h⟩
 | k + 1 => by
  obtain ⟨ih0, ih1, ih2⟩ := laws_FnExactMachBoth.mono_l k
  refine ⟨?_, ?_, ?_⟩
  ·intro y0 y1 y2 y3 y4 y5 y6 y7 y8 y9 y10 y11 y12 y13 y14 y15 y16 y17 y18 y19 y20
   unfold laws_FnExactMachBoth.j0
   repeat' first
   | (with_reducible exact ih0 _ _ _ _ _ _ _ _ _ _ _ _ _ _ _ _ _ _ _ _ _)
   | (with_reducible exact ih1 _ _ _ _ _ _ _ _ _ _ _ _ _ _)
   | (with_reducible exact ih2 _ _ _ _ _)
   | (with_reducible exact impl_MachBoth.mono _ _ _ _ _ _ _)
   | (with_reducible exact laws_eqMachine.mono _ _ _ _ _ _ _)
   | (with_reducible exact laws_heldMachine.mono _ _ _ _ _)
   | (with_reducible exact laws_markMachine.mono _ _ _ _ _)
   | (with_reducible exact laws_toMachine.mono _ _ _ _)
   | (with_reducible exact spec_MachBoth.mono _ _ _ _ _ _ _)
   | (with_reducible exact LeO.refl _)
   | (with_reducible exact LeO.none _)
   | (with_reducible refine LeO.ite ?_ ?_)
   | (with_reducible refine LeO.bind ?_ (fun _ => ?_))
   | exact ih0 _ _ _ _ _ _ _ _ _ _ _ _ _ _ _ _ _ _ _ _ _
   | exact ih1 _ _ _ _ _ _ _ _ _ _ _ _ _ _
   | exact ih2 _ _ _ _ _
   | exact impl_MachBoth.mono _ _ _ _ _ _ _
   | exact laws_eqMachine.mono _ _ _ _ _ _ _
   | exact laws_heldMachine.mono _ _ _ _ _
   | exact laws_markMachine.mono _ _ _ _ _
   | exact laws_toMachine.mono _ _ _ _
   | exact spec_MachBoth.mono _ _ _ _ _ _ _
   | exact LeO.none _
   | refine LeO.ite ?_ ?_
   | refine LeO.bind ?_ (fun _ => ?_)
  ·intro y0 y1 y2 y3 y4 y5 y6 y7 y8 y9 y10 y11 y12 y13
   unfold laws_FnExactMachBoth.j1
   repeat' first
   | (with_reducible exact ih0 _ _ _ _ _ _ _ _ _ _ _ _ _ _ _ _ _ _ _ _ _)
   | (with_reducible exact ih1 _ _ _ _ _ _ _ _ _ _ _ _ _ _)
   | (with_reducible exact ih2 _ _ _ _ _)
   | (with_reducible exact impl_MachBoth.mono _ _ _ _ _ _ _)
   | (with_reducible exact laws_eqMachine.mono _ _ _ _ _ _ _)
   | (with_reducible exact laws_heldMachine.mono _ _ _ _ _)
   | (with_reducible exact laws_markMachine.mono _ _ _ _ _)
   | (with_reducible exact laws_toMachine.mono _ _ _ _)
   | (with_reducible exact spec_MachBoth.mono _ _ _ _ _ _ _)
   | (with_reducible exact LeO.refl _)
   | (with_reducible exact LeO.none _)
   | (with_reducible refine LeO.ite ?_ ?_)
   | (with_reducible refine LeO.bind ?_ (fun _ => ?_))
   | exact ih0 _ _ _ _ _ _ _ _ _ _ _ _ _ _ _ _ _ _ _ _ _
   | exact ih1 _ _ _ _ _ _ _ _ _ _ _ _ _ _
   | exact ih2 _ _ _ _ _
   | exact impl_MachBoth.mono _ _ _ _ _ _ _
   | exact laws_eqMachine.mono _ _ _ _ _ _ _
   | exact laws_heldMachine.mono _ _ _ _ _
   | exact laws_markMachine.mono _ _ _ _ _
   | exact laws_toMachine.mono _ _ _ _
   | exact spec_MachBoth.mono _ _ _ _ _ _ _
   | exact LeO.none _
   | refine LeO.ite ?_ ?_
   | refine LeO.bind ?_ (fun _ => ?_)
  ·intro y0 y1 y2 y3 y4
   unfold laws_FnExactMachBoth.j2
   repeat' first
   | (with_reducible exact ih0 _ _ _ _ _ _ _ _ _ _ _ _ _ _ _ _ _ _ _ _ _)
   | (with_reducible exact ih1 _ _ _ _ _ _ _ _ _ _ _ _ _ _)
   | (with_reducible exact ih2 _ _ _ _ _)
   | (with_reducible exact impl_MachBoth.mono _ _ _ _ _ _ _)
   | (with_reducible exact laws_eqMachine.mono _ _ _ _ _ _ _)
   | (with_reducible exact laws_heldMachine.mono _ _ _ _ _)
   | (with_reducible exact laws_markMachine.mono _ _ _ _ _)
   | (with_reducible exact laws_toMachine.mono _ _ _ _)
   | (with_reducible exact spec_MachBoth.mono _ _ _ _ _ _ _)
   | (with_reducible exact LeO.refl _)
   | (with_reducible exact LeO.none _)
   | (with_reducible refine LeO.ite ?_ ?_)
   | (with_reducible refine LeO.bind ?_ (fun _ => ?_))
   | exact ih0 _ _ _ _ _ _ _ _ _ _ _ _ _ _ _ _ _ _ _ _ _
   | exact ih1 _ _ _ _ _ _ _ _ _ _ _ _ _ _
   | exact ih2 _ _ _ _ _
   | exact impl_MachBoth.mono _ _ _ _ _ _ _
   | exact laws_eqMachine.mono _ _ _ _ _ _ _
   | exact laws_heldMachine.mono _ _ _ _ _
   | exact laws_markMachine.mono _ _ _ _ _
   | exact laws_toMachine.mono _ _ _ _
   | exact spec_MachBoth.mono _ _ _ _ _ _ _
   | exact LeO.none _
   | refine LeO.ite ?_ ?_
   | refine LeO.bind ?_ (fun _ => ?_)
theorem laws_FnExactMachBoth.mono : ∀ a0 a1 a2 a3 a4 a5 k, LeO (laws_FnExactMachBoth.f k a0 a1 a2 a3 a4 a5) (laws_FnExactMachBoth.f (k + 1) a0 a1 a2 a3 a4 a5) := by
 intro a0 a1 a2 a3 a4 a5 k
 obtain ⟨ih0, ih1, ih2⟩ := laws_FnExactMachBoth.mono_l k
 unfold laws_FnExactMachBoth.f
 repeat' first
   | (with_reducible exact ih0 _ _ _ _ _ _ _ _ _ _ _ _ _ _ _ _ _ _ _ _ _)
   | (with_reducible exact ih1 _ _ _ _ _ _ _ _ _ _ _ _ _ _)
   | (with_reducible exact ih2 _ _ _ _ _)
   | (with_reducible exact impl_MachBoth.mono _ _ _ _ _ _ _)
   | (with_reducible exact laws_eqMachine.mono _ _ _ _ _ _ _)
   | (with_reducible exact laws_heldMachine.mono _ _ _ _ _)
   | (with_reducible exact laws_markMachine.mono _ _ _ _ _)
   | (with_reducible exact laws_toMachine.mono _ _ _ _)
   | (with_reducible exact spec_MachBoth.mono _ _ _ _ _ _ _)
   | (with_reducible exact LeO.refl _)
   | (with_reducible exact LeO.none _)
   | (with_reducible refine LeO.ite ?_ ?_)
   | (with_reducible refine LeO.bind ?_ (fun _ => ?_))
   | exact ih0 _ _ _ _ _ _ _ _ _ _ _ _ _ _ _ _ _ _ _ _ _
   | exact ih1 _ _ _ _ _ _ _ _ _ _ _ _ _ _
   | exact ih2 _ _ _ _ _
   | exact impl_MachBoth.mono _ _ _ _ _ _ _
   | exact laws_eqMachine.mono _ _ _ _ _ _ _
   | exact laws_heldMachine.mono _ _ _ _ _
   | exact laws_markMachine.mono _ _ _ _ _
   | exact laws_toMachine.mono _ _ _ _
   | exact spec_MachBoth.mono _ _ _ _ _ _ _
   | exact LeO.none _
   | refine LeO.ite ?_ ?_
   | refine LeO.bind ?_ (fun _ => ?_)
def laws_FnExactMachBoth.T8 : Bool × List (List Nat × List Nat) := (true, [([], []), ([0], [0]), ([], []), ([2, 1], [2]), ([1, 3, 3], [1, 3]), ([4], [4]), ([5], [5]), ([5], [5]), ([], []), ([8, 6, 4, 0, 1, 2, 3, 4, 5, 6, 8], [6, 8]), ([7, 9, 0, 1, 2, 3, 4, 5, 6, 7, 8, 9], [7])])
def laws_FnExactMachBoth.B8 : List Nat := [0, 1, 0, 7, 15, 31, 63, 63, 0, 383, 1023]
theorem laws_FnExactMachBoth.tab8 : rtab .any (opsOf Try.f3 8) = laws_FnExactMachBoth.T8 := by kernel_rfl
theorem laws_FnExactMachBoth.bits8 : waitsOk laws_FnExactMachBoth.T8.2 laws_FnExactMachBoth.B8 = true := by kernel_rfl
def laws_FnExactMachBoth.T31 : Bool × List (List Nat × List Nat) := (true, [([], []), ([0], [0]), ([], []), ([2, 1], [2]), ([1, 3, 3], [1, 3]), ([4], [4]), ([5], [5]), ([5], [5]), ([], []), ([8, 6, 4, 0, 1, 2, 3, 4, 5, 6, 8], [6, 8]), ([7, 9, 0, 1, 2, 3, 4, 5, 6, 7, 8, 9], [7])])
def laws_FnExactMachBoth.B31 : List Nat := [0, 1, 0, 7, 15, 31, 63, 63, 0, 383, 1023]
theorem laws_FnExactMachBoth.tab31 : rtab .any (opsOf Try.f3 31) = laws_FnExactMachBoth.T31 := by kernel_rfl
theorem laws_FnExactMachBoth.bits31 : waitsOk laws_FnExactMachBoth.T31.2 laws_FnExactMachBoth.B31 = true := by kernel_rfl
set_option maxHeartbeats 8000000 in
set_option maxRecDepth 100000 in
theorem laws_FnExactMachBoth.calls (k : Nat) (A0_0 : Option Addr) (c0_0 : Nat) (l0_0 : List Int) (a0_1 : Int) (a0_2 : Int) (A1_0 : Option Addr) (c1_0 : Nat) (l1_0 : List Int) (a1_1 : Int) (a1_2 : Int) (r : Bool) (w : World) (hr0_0 : Kd.C (Kd.int .i64) w A0_0 l0_0.length l0_0) (hc0_0 : l0_0.length ≤ c0_0) (hr1_0 : Kd.C (Kd.int .i64) w A1_0 l1_0.length l1_0) (hc1_0 : l1_0.length ≤ c1_0) (h : laws_FnExactMachBoth.f k l0_0 a0_1 a0_2 l1_0 a1_1 a1_2 = some r) :
  Calls Try.prog 3 #[.agg #[.slice A0_0 l0_0.length c0_0, .int .i64 a0_1, .int .i64 a0_2], .agg #[.slice A1_0 l1_0.length c1_0, .int .i64 a1_1, .int .i64 a1_2]] w fun e w' => e = .returned (.bool r) ∧ Below w.heap.size w w' := by
 have hu24 := Try.underlying24
 have hu26 := Try.underlying26
 have HR0_0 := Aside0.mk hr0_0
 have HC0_0 := Aside0.mk hc0_0
 clear hr0_0 hc0_0
 have HR1_0 := Aside0.mk hr1_0
 have HC1_0 := Aside0.mk hc1_0
 clear hr1_0 hc1_0
 have HB := Aside0.mk (Below.refl w.heap.size w)
 have H : ((laws_szMachine.f l0_0 a0_1 a0_2 1048576).bind fun t162 => (if t162 < 0 then (some true) else ((laws_szMachine.f l1_0 a1_1 a1_2 t162).bind fun t163 => (if t163 < 0 then (some true) else ((laws_toMachine.f k l0_0 a0_1 a0_2).bind fun bt164 => ((laws_toMachine.f k l1_0 a1_1 a1_2).bind fun bt169 => ((spec_MachBoth.f k bt164.1 bt164.2.1 bt164.2.2 bt169.1 bt169.2.1 bt169.2.2).bind fun bt174 => ((laws_toMachine.f k l0_0 a0_1 a0_2).bind fun bt181 => ((laws_toMachine.f k l1_0 a1_1 a1_2).bind fun bt187 => ((impl_MachBoth.f k bt181.1 bt181.2.1 bt181.2.2 bt187.1 bt187.2.1 bt187.2.2).bind fun bt193 => ((laws_eqMachine.f k bt193.1 bt193.2.1 bt193.2.2.1 bt174.1 bt174.2.1 bt174.2.2.1).bind fun t200 => (if t200 = true then (laws_FnExactMachBoth.j0 k bt174.2.2.2 bt193.2.2.2 (bt193.2.2.2 != bt174.2.2.2) l0_0 a0_1 a0_2 l1_0 a1_1 a1_2 bt174.1 bt174.2.1 bt174.2.2.1 bt181.1 bt181.2.1 bt181.2.2 bt187.1 bt187.2.1 bt187.2.2 bt193.1 bt193.2.1 bt193.2.2.1) else (laws_FnExactMachBoth.j0 k bt174.2.2.2 bt193.2.2.2 true l0_0 a0_1 a0_2 l1_0 a1_1 a1_2 bt174.1 bt174.2.1 bt174.2.2.1 bt181.1 bt181.2.1 bt181.2.2 bt187.1 bt187.2.1 bt187.2.2 bt193.1 bt193.2.1 bt193.2.2.1))))))))))))) = some r := h
 clear h
 replace H := Option.bind_eq_some_iff.mp H
 obtain ⟨t162, A30, H⟩ := H
 (try dsimp only at H)
 have A3 := Aside0.mk A30
 clear A30
 by_cases c4 : t162 < 0
 ·rw [if_pos c4] at H
  have c4b0 : decide (t162 < 0) = true := decide_eq_true c4
  clear c4
  obtain rfl := Option.some.inj H
  go_enter Try.func3, Try.ntmps3
  go_wp2_with (first | ((with_reducible refine gate_dst (N := 2) rfl ?_); refine box_event ?hg (N := 2) ?hd (cs := #[.slice A0_0 l0_0.length c0_0, .int .i64 a0_1, .int .i64 a0_2]) (t := 24) ?hr ?_; (case hd => rfl); (case hg => rfl); (case hr => first | (go_simp; done) | (go_simp; rfl)); intro gb160 hg w5 hbox hb; have n0_ := Aside0.mk (below_step bb hb); have n1_ := Aside0.mk (hbox); have n2_ := Aside0.mk ((by rw [hg]; exact (below_size bb) : w.heap.size ≤ gb160)); have n3_ := Aside0.mk ((by rw [hg]; exact (below_size bb) : w.heap.size ≤ gb160)); clear HB; have HB := n0_; have BK160 := n1_; have GW160 := n2_; have GE160 := n3_; clear n0_ n1_ n2_ n3_; clear hb hbox hg) | ((with_reducible refine gate_dst (N := 3) rfl ?_); refine box_event ?hg (N := 3) ?hd (cs := #[.slice A1_0 l1_0.length c1_0, .int .i64 a1_1, .int .i64 a1_2]) (t := 24) ?hr ?_; (case hd => rfl); (case hg => rfl); (case hr => first | (go_simp; done) | (go_simp; rfl)); intro gb161 hg w6 hbox hb; have n0_ := kp BK160 hb; have n1_ := Aside0.mk (below_step bb hb); have n2_ := Aside0.mk (hbox); have n3_ := Aside0.mk ((by rw [hg]; exact (below_size bb) : w.heap.size ≤ gb161)); have n4_ := Aside0.mk ((by rw [hg]; exact (below_size bb) : w.heap.size ≤ gb161)); have n5_ := Aside0.mk (nl BK160 hg); have n6_ := Aside0.mk (nl BK160 hg).symm; clear BK160 HB; have BK160 := n0_; have HB := n1_; have BK161 := n2_; have GW161 := n3_; have GE161 := n4_; have NB160_161 := n5_; have NB161_160 := n6_; clear n0_ n1_ n2_ n3_ n4_ n5_ n6_; clear hb hbox hg; have hnb7 := NB160_161.out; have hnc7 := NB161_160.out; obtain ⟨hcz8_0, hcz8_1, hcz8_2, hfz8_0, hfz8_1, hfz8_2⟩ := c3 BK160) | ((with_reducible refine gate_callee (f := 5) rfl ?_); refine goesL_ (some 19) rfl rfl Try.func5 (by kernel_rfl) rfl #[.agg #[.slice A0_0 l0_0.length c0_0, .int .i64 a0_1, .int .i64 a0_2], .int .i64 1048576] rfl ll ?_; (with_reducible refine (laws_szMachine.calls _ _ l0_0 a0_1 a0_2 1048576 t162 _ ?side1 ?side2 A3.out).mono ?_); (case side1 => repeat (first | exact (Kd.C_below HR0_0.out HB.out) | (with_reducible refine Kd.C_alloc ?_ _) | (with_reducible refine Kd.C_drewN ?_ _) | (with_reducible refine Kd.C_drew ?_))); (case side2 => exact HC0_0.out); rintro e w9 ⟨rfl, hb⟩; refine ⟨_, rfl, ?_⟩; have n0_ := kp BK160 hb; have n1_ := kp BK161 hb; have n2_ := Aside0.mk (below_step bb hb); clear BK160 BK161 HB; have BK160 := n0_; have BK161 := n1_; have HB := n2_; clear n0_ n1_ n2_; (try clear hb); (try clear hb2); (try clear hk); (try clear hi)))
  go_ret
  exact ⟨by first | rfl | (simp [errW_none, errW_some] <;> rfl) | (simp [*, errW_none, errW_some] <;> rfl), bb⟩
 ·rw [if_neg c4] at H
  have c4b0 : decide (t162 < 0) = false := decide_eq_false c4
  clear c4
  replace H := Option.bind_eq_some_iff.mp H
  obtain ⟨t163, A100, H⟩ := H
  (try dsimp only at H)
  have A10 := Aside0.mk A100
  clear A100
  by_cases c11 : t163 < 0
  ·rw [if_pos c11] at H
   have c11b0 : decide (t163 < 0) = true := decide_eq_true c11
   clear c11
   obtain rfl := Option.some.inj H
   go_enter Try.func3, Try.ntmps3
   go_wp2_with (first | ((with_reducible refine gate_dst (N := 2) rfl ?_); refine box_event ?hg (N := 2) ?hd (cs := #[.slice A0_0 l0_0.length c0_0, .int .i64 a0_1, .int .i64 a0_2]) (t := 24) ?hr ?_; (case hd => rfl); (case hg => rfl); (case hr => first | (go_simp; done) | (go_simp; rfl)); intro gb160 hg w12 hbox hb; have n0_ := Aside0.mk (below_step bb hb); have n1_ := Aside0.mk (hbox); have n2_ := Aside0.mk ((by rw [hg]; exact (below_size bb) : w.heap.size ≤ gb160)); have n3_ := Aside0.mk ((by rw [hg]; exact (below_size bb) : w.heap.size ≤ gb160)); clear HB; have HB := n0_; have BK160 := n1_; have GW160 := n2_; have GE160 := n3_; clear n0_ n1_ n2_ n3_; clear hb hbox hg) | ((with_reducible refine gate_dst (N := 3) rfl ?_); refine box_event ?hg (N := 3) ?hd (cs := #[.slice A1_0 l1_0.length c1_0, .int .i64 a1_1, .int .i64 a1_2]) (t := 24) ?hr ?_; (case hd => rfl); (case hg => rfl); (case hr => first | (go_simp; done) | (go_simp; rfl)); intro gb161 hg w13 hbox hb; have n0_ := kp BK160 hb; have n1_ := Aside0.mk (below_step bb hb); have n2_ := Aside0.mk (hbox); have n3_ := Aside0.mk ((by rw [hg]; exact (below_size bb) : w.heap.size ≤ gb161)); have n4_ := Aside0.mk ((by rw [hg]; exact (below_size bb) : w.heap.size ≤ gb161)); have n5_ := Aside0.mk (nl BK160 hg); have n6_ := Aside0.mk (nl BK160 hg).symm; clear BK160 HB; have BK160 := n0_; have HB := n1_; have BK161 := n2_; have GW161 := n3_; have GE161 := n4_; have NB160_161 := n5_; have NB161_160 := n6_; clear n0_ n1_ n2_ n3_ n4_ n5_ n6_; clear hb hbox hg; have hnb14 := NB160_161.out; have hnc14 := NB161_160.out; obtain ⟨hcz15_0, hcz15_1, hcz15_2, hfz15_0, hfz15_1, hfz15_2⟩ := c3 BK160) | ((with_reducible refine gate_callee (f := 5) rfl ?_); refine goesL_ (some 19) rfl rfl Try.func5 (by kernel_rfl) rfl #[.agg #[.slice A0_0 l0_0.length c0_0, .int .i64 a0_1, .int .i64 a0_2], .int .i64 1048576] rfl ll ?_; (with_reducible refine (laws_szMachine.calls _ _ l0_0 a0_1 a0_2 1048576 t162 _ ?side1 ?side2 A3.out).mono ?_); (case side1 => repeat (first | exact (Kd.C_below HR0_0.out HB.out) | (with_reducible refine Kd.C_alloc ?_ _) | (with_reducible refine Kd.C_drewN ?_ _) | (with_reducible refine Kd.C_drew ?_))); (case side2 => exact HC0_0.out); rintro e w16 ⟨rfl, hb⟩; refine ⟨_, rfl, ?_⟩; have n0_ := kp BK160 hb; have n1_ := kp BK161 hb; have n2_ := Aside0.mk (below_step bb hb); clear BK160 BK161 HB; have BK160 := n0_; have BK161 := n1_; have HB := n2_; clear n0_ n1_ n2_; (try clear hb); (try clear hb2); (try clear hk); (try clear hi); obtain ⟨hcz17_0, hcz17_1, hcz17_2, hfz17_0, hfz17_1, hfz17_2⟩ := c3 BK161) | ((with_reducible refine gate_callee (f := 5) rfl ?_); refine goesL_ (some 24) rfl rfl Try.func5 (by kernel_rfl) rfl #[.agg #[.slice A1_0 l1_0.length c1_0, .int .i64 a1_1, .int .i64 a1_2], .int .i64 t162] rfl ll ?_; (with_reducible refine (laws_szMachine.calls _ _ l1_0 a1_1 a1_2 t162 t163 _ ?side1 ?side2 A10.out).mono ?_); (case side1 => repeat (first | exact (Kd.C_below HR1_0.out HB.out) | (with_reducible refine Kd.C_alloc ?_ _) | (with_reducible refine Kd.C_drewN ?_ _) | (with_reducible refine Kd.C_drew ?_))); (case side2 => exact HC1_0.out); rintro e w18 ⟨rfl, hb⟩; refine ⟨_, rfl, ?_⟩; have n0_ := kp BK160 hb; have n1_ := kp BK161 hb; have n2_ := Aside0.mk (below_step bb hb); clear BK160 BK161 HB; have BK160 := n0_; have BK161 := n1_; have HB := n2_; clear n0_ n1_ n2_; (try clear hb); (try clear hb2); (try clear hk); (try clear hi)))
   go_ret
   exact ⟨by first | rfl | (simp [errW_none, errW_some] <;> rfl) | (simp [*, errW_none, errW_some] <;> rfl), bb⟩
  ·rw [if_neg c11] at H
   have c11b0 : decide (t163 < 0) = false := decide_eq_false c11
   clear c11
   replace H := Option.bind_eq_some_iff.mp H
   obtain ⟨⟨t164, t167, t168⟩, A190, H⟩ := H
   (try dsimp only at H)
   have A19 := Aside0.mk A190
   clear A190
   replace H := Option.bind_eq_some_iff.mp H
   obtain ⟨⟨t169, t172, t173⟩, A200, H⟩ := H
   (try dsimp only at H)
   have A20 := Aside0.mk A200
   clear A200
   replace H := Option.bind_eq_some_iff.mp H
   obtain ⟨⟨t174, t177, t178, t179⟩, A210, H⟩ := H
   (try dsimp only at H)
   have A21 := Aside0.mk A210
   clear A210
   replace H := Option.bind_eq_some_iff.mp H
   obtain ⟨⟨t181, t184, t185⟩, A220, H⟩ := H
   (try dsimp only at H)
   have A22 := Aside0.mk A220
   clear A220
   replace H := Option.bind_eq_some_iff.mp H
   obtain ⟨⟨t187, t190, t191⟩, A230, H⟩ := H
   (try dsimp only at H)
   have A23 := Aside0.mk A230
   clear A230
   replace H := Option.bind_eq_some_iff.mp H
   obtain ⟨⟨t193, t196, t197, t198⟩, A240, H⟩ := H
   (try dsimp only at H)
   have A24 := Aside0.mk A240
   clear A240
   have HC25 := Aside0.mk H
   clear H
   go_enter Try.func3, Try.ntmps3
   try go_wp2_with (first | ((with_reducible refine gate_dst (N := 2) rfl ?_); refine box_event ?hg (N := 2) ?hd (cs := #[.slice A0_0 l0_0.length c0_0, .int .i64 a0_1, .int .i64 a0_2]) (t := 24) ?hr ?_; (case hd => rfl); (case hg => rfl); (case hr => first | (go_simp; done) | (go_simp; rfl)); intro gb160 hg w26 hbox hb; have n0_ := Aside0.mk (below_step bb hb); have n1_ := Aside0.mk (hbox); have n2_ := Aside0.mk ((by rw [hg]; exact (below_size bb) : w.heap.size ≤ gb160)); have n3_ := Aside0.mk ((by rw [hg]; exact (below_size bb) : w.heap.size ≤ gb160)); clear HB; have HB := n0_; have BK160 := n1_; have GW160 := n2_; have GE160 := n3_; clear n0_ n1_ n2_ n3_; clear hb hbox hg) | ((with_reducible refine gate_dst (N := 3) rfl ?_); refine box_event ?hg (N := 3) ?hd (cs := #[.slice A1_0 l1_0.length c1_0, .int .i64 a1_1, .int .i64 a1_2]) (t := 24) ?hr ?_; (case hd => rfl); (case hg => rfl); (case hr => first | (go_simp; done) | (go_simp; rfl)); intro gb161 hg w27 hbox hb; have n0_ := kp BK160 hb; have n1_ := Aside0.mk (below_step bb hb); have n2_ := Aside0.mk (hbox); have n3_ := Aside0.mk ((by rw [hg]; exact (below_size bb) : w.heap.size ≤ gb161)); have n4_ := Aside0.mk ((by rw [hg]; exact (below_size bb) : w.heap.size ≤ gb161)); have n5_ := Aside0.mk (nl BK160 hg); have n6_ := Aside0.mk (nl BK160 hg).symm; clear BK160 HB; have BK160 := n0_; have HB := n1_; have BK161 := n2_; have GW161 := n3_; have GE161 := n4_; have NB160_161 := n5_; have NB161_160 := n6_; clear n0_ n1_ n2_ n3_ n4_ n5_ n6_; clear hb hbox hg; have hnb28 := NB160_161.out; have hnc28 := NB161_160.out; obtain ⟨hcz29_0, hcz29_1, hcz29_2, hfz29_0, hfz29_1, hfz29_2⟩ := c3 BK160) | ((with_reducible refine gate_callee (f := 5) rfl ?_); refine goesL_ (some 19) rfl rfl Try.func5 (by kernel_rfl) rfl #[.agg #[.slice A0_0 l0_0.length c0_0, .int .i64 a0_1, .int .i64 a0_2], .int .i64 1048576] rfl ll ?_; (with_reducible refine (laws_szMachine.calls _ _ l0_0 a0_1 a0_2 1048576 t162 _ ?side1 ?side2 A3.out).mono ?_); (case side1 => repeat (first | exact (Kd.C_below HR0_0.out HB.out) | (with_reducible refine Kd.C_alloc ?_ _) | (with_reducible refine Kd.C_drewN ?_ _) | (with_reducible refine Kd.C_drew ?_))); (case side2 => exact HC0_0.out); rintro e w30 ⟨rfl, hb⟩; refine ⟨_, rfl, ?_⟩; have n0_ := kp BK160 hb; have n1_ := kp BK161 hb; have n2_ := Aside0.mk (below_step bb hb); clear BK160 BK161 HB; have BK160 := n0_; have BK161 := n1_; have HB := n2_; clear n0_ n1_ n2_; (try clear hb); (try clear hb2); (try clear hk); (try clear hi); obtain ⟨hcz31_0, hcz31_1, hcz31_2, hfz31_0, hfz31_1, hfz31_2⟩ := c3 BK161) | ((with_reducible refine gate_callee (f := 5) rfl ?_); refine goesL_ (some 24) rfl rfl Try.func5 (by kernel_rfl) rfl #[.agg #[.slice A1_0 l1_0.length c1_0, .int .i64 a1_1, .int .i64 a1_2], .int .i64 t162] rfl ll ?_; (with_reducible refine (laws_szMachine.calls _ _ l1_0 a1_1 a1_2 t162 t163 _ ?side1 ?side2 A10.out).mono ?_); (case side1 => repeat (first | exact (Kd.C_below HR1_0.out HB.out) | (with_reducible refine Kd.C_alloc ?_ _) | (with_reducible refine Kd.C_drewN ?_ _) | (with_reducible refine Kd.C_drew ?_))); (case side2 => exact HC1_0.out); rintro e w32 ⟨rfl, hb⟩; refine ⟨_, rfl, ?_⟩; have n0_ := kp BK160 hb; have n1_ := kp BK161 hb; have n2_ := Aside0.mk (below_step bb hb); clear BK160 BK161 HB; have BK160 := n0_; have BK161 := n1_; have HB := n2_; clear n0_ n1_ n2_; (try clear hb); (try clear hb2); (try clear hk); (try clear hi)))
   have n0_ := Aside0.mk (blk_drew BK160.out)
   have n1_ := Aside0.mk (blk_drew BK161.out)
   have n2_ := Aside0.mk (below_drew1 HB.out)
   clear BK160 BK161 HB
   have BK160 := n0_
   have BK161 := n1_
   have HB := n2_
   clear n0_ n1_ n2_
   refine start_ (n := 11) (S := fun w' => w'.cell? ⟨gb160, 0, none⟩ = some (.slice A0_0 l0_0.length c0_0) ∧ w'.cell? ⟨gb160, 1, none⟩ = some (.int .i64 a0_1) ∧ w'.cell? ⟨gb160, 2, none⟩ = some (.int .i64 a0_2) ∧ w'.cell? ⟨gb161, 0, none⟩ = some (.slice A1_0 l1_0.length c1_0) ∧ w'.cell? ⟨gb161, 1, none⟩ = some (.int .i64 a1_1) ∧ w'.cell? ⟨gb161, 2, none⟩ = some (.int .i64 a1_2)) (ds := []) #[false, false, false, false, false, false, false, false, false, false, false] (by kernel_rfl) rfl rfl ⟨(blk_cell BK160.out 0).trans rfl, (blk_cell BK160.out 1).trans rfl, (blk_cell BK160.out 2).trans rfl, (blk_cell BK161.out 0).trans rfl, (blk_cell BK161.out 1).trans rfl, (blk_cell BK161.out 2).trans rfl⟩ (fun hHeld => ?_); refine with_tabW laws_FnExactMachBoth.tab8 laws_FnExactMachBoth.bits8 (fun HT_ HW_ => ?_)
   generalize w32.drew = w33 at BK160 BK161 HB hHeld ⊢
   refine take_ (i := 0) (N := some 28) (v := ?_) (a' := ?_) #[true, false, false, false, false, false, false, false, false, false, false] rfl rfl (take_ofW HT_.out HW_.out (by kernel_rfl)) (fun _ _ _ h => h) (Or.inl ⟨by rfl, ?_⟩) hHeld ?_ ?_
   rotate_left
   ·rintro w' ⟨s0, s1, s2, s3, s4, s5⟩
    go_simp
    with_reducible rfl
   rotate_left
   ·simp only [Act.put, List.setIfInBounds_toArray, List.set_cons_zero, List.set_cons_succ, i64_w, i32_w]
    rfl
   refine take_ (i := 2) (N := some 30) (v := ?_) (a' := ?_) #[true, false, true, false, false, false, false, false, false, false, false] rfl rfl (take_ofW HT_.out HW_.out (by kernel_rfl)) (fun _ _ _ h => h) (Or.inl ⟨by rfl, ?_⟩) hHeld ?_ ?_
   rotate_left
   ·rintro w' ⟨s0, s1, s2, s3, s4, s5⟩
    go_simp
    with_reducible rfl
   rotate_left
   ·simp only [Act.put, List.setIfInBounds_toArray, List.set_cons_zero, List.set_cons_succ, i64_w, i32_w]
    rfl
   refine join_ (σ := Value × Value × Value × Nat) 2 #[true, true, true, true, true, true, true, true, true, false, false] (fun s_ => [(29, .agg #[s_.1, .int .i64 t167, .int .i64 t168]), (31, .agg #[s_.2.1, .int .i64 t172, .int .i64 t173]), (32, .tuple #[.agg #[s_.2.2.1, .int .i64 t177, .int .i64 t178], .bool t179]), (6, .pointer (some ⟨s_.2.2.2, 0, none⟩)), (27, .tuple #[.agg #[s_.2.2.1, .int .i64 t177, .int .i64 t178], .bool t179]), (33, .agg #[s_.2.2.1, .int .i64 t177, .int .i64 t178]), (34, .bool t179)]) (fun s_ w' => (w'.cell? ⟨gb160, 0, none⟩ = some (.slice A0_0 l0_0.length c0_0) ∧ w'.cell? ⟨gb160, 1, none⟩ = some (.int .i64 a0_1) ∧ w'.cell? ⟨gb160, 2, none⟩ = some (.int .i64 a0_2) ∧ w'.cell? ⟨gb161, 0, none⟩ = some (.slice A1_0 l1_0.length c1_0) ∧ w'.cell? ⟨gb161, 1, none⟩ = some (.int .i64 a1_1) ∧ w'.cell? ⟨gb161, 2, none⟩ = some (.int .i64 a1_2)) ∧ (Kd.R (Kd.int .i64) 3 w' w.heap.size (fun k_ => some k_ ≠ (s_.2.1 : Value).ownBlock ∧ some k_ ≠ (s_.2.2.1 : Value).ownBlock) s_.1 t164) ∧ (Kd.R (Kd.int .i64) 3 w' w.heap.size (fun k_ => some k_ ≠ (s_.1 : Value).ownBlock ∧ some k_ ≠ (s_.2.2.1 : Value).ownBlock) s_.2.1 t169) ∧ (Kd.R (Kd.int .i64) 3 w' w.heap.size (fun k_ => some k_ ≠ (s_.1 : Value).ownBlock ∧ some k_ ≠ (s_.2.1 : Value).ownBlock) s_.2.2.1 t174) ∧ (w'.heap[gb160]? = some (.cells #[.slice A0_0 l0_0.length c0_0, .int .i64 a0_1, .int .i64 a0_2] 24 (0, 0))) ∧ (w'.heap[gb161]? = some (.cells #[.slice A1_0 l1_0.length c1_0, .int .i64 a1_1, .int .i64 a1_2] 24 (0, 0))) ∧ (w'.heap[s_.2.2.2]? = some (.cells #[.slice none 0 0, .int .i64 0, .int .i64 0] 26 (0, 0))) ∧ (w.heap.size ≤ s_.2.2.2) ∧ (w.heap.size ≤ s_.2.2.2) ∧ (gb160 ≠ s_.2.2.2) ∧ (s_.2.2.2 ≠ gb160) ∧ (gb161 ≠ s_.2.2.2) ∧ (s_.2.2.2 ≠ gb161) ∧ (Below w.heap.size w w')) ?_ ?_
   rotate_left
   ·intro hCont
    refine two_ (i := 1) (j := 8) (Ni := some 29) (Nj := some 6) #[true, true, true, false, false, false, false, false, false, false, false] #[true, false, true, false, false, false, false, false, true, false, false] rfl rfl rfl rfl (two_of HT_.out (by kernel_rfl)) (by decide) (by decide) (fun K hK => ?_) (fun K hK => ?_)
    ·skip
     refine goes_ Try.func7 (by kernel_rfl) rfl #[.agg #[.slice A0_0 l0_0.length c0_0, .int .i64 a0_1, .int .i64 a0_2]] (by rfl) rfl rfl ll ?_
     with_reducible refine (laws_toMachine.calls k _ _ l0_0 a0_1 a0_2 t164 t167 t168 _ ?side1 ?side2 A19.out).mono ?_
     (case side1 => repeat (first | exact (Kd.C_below HR0_0.out HB.out) | (with_reducible refine Kd.C_alloc ?_ _) | (with_reducible refine Kd.C_drewN ?_ _) | (with_reducible refine Kd.C_drew ?_)))
     (case side2 => exact HC0_0.out)
     rintro e w34 ⟨v165, rfl, ho0, hb⟩
     refine ⟨_, rfl, ?_⟩
     have n0_ := Aside0.mk (Kd.R_lower ho0 (below_size bb))
     have n1_ := kp BK160 hb
     have n2_ := kp BK161 hb
     have n3_ := Aside0.mk (below_step bb hb)
     clear BK160 BK161 HB
     have HO166 := n0_
     have BK160 := n1_
     have BK161 := n2_
     have HB := n3_
     clear n0_ n1_ n2_ n3_
     (try clear hb)
     (try clear hb2)
     (try clear hk)
     (try clear hi)
     (try clear ho0)
     refine hK.out _ _ ⟨(blk_cell BK160.out 0).trans rfl, (blk_cell BK160.out 1).trans rfl, (blk_cell BK160.out 2).trans rfl, (blk_cell BK161.out 0).trans rfl, (blk_cell BK161.out 1).trans rfl, (blk_cell BK161.out 2).trans rfl⟩ (fun hHeld => ?_)
     clear hK K
     refine norm_ (a' := ?_) ?_ ?_
     rotate_left
     ·show Act.put _ (some 29) _ = _
      simp only [Act.put, List.setIfInBounds_toArray, List.set_cons_zero, List.set_cons_succ, i64_w, i32_w]
      rfl
     refine two_ (i := 3) (j := 8) (Ni := some 31) (Nj := some 6) #[true, true, true, true, false, false, false, false, false, false, false] #[true, true, true, false, false, false, false, false, true, false, false] rfl rfl rfl rfl (two_of HT_.out (by kernel_rfl)) (by decide) (by decide) (fun K hK => ?_) (fun K hK => ?_)
     ·skip
      refine goes_ Try.func7 (by kernel_rfl) rfl #[.agg #[.slice A1_0 l1_0.length c1_0, .int .i64 a1_1, .int .i64 a1_2]] (by rfl) rfl rfl ll ?_
      with_reducible refine (laws_toMachine.calls k _ _ l1_0 a1_1 a1_2 t169 t172 t173 _ ?side1 ?side2 A20.out).mono ?_
      (case side1 => repeat (first | exact (Kd.C_below HR1_0.out HB.out) | (with_reducible refine Kd.C_alloc ?_ _) | (with_reducible refine Kd.C_drewN ?_ _) | (with_reducible refine Kd.C_drew ?_)))
      (case side2 => exact HC1_0.out)
      rintro e w35 ⟨v170, rfl, ho0, hb⟩
      refine ⟨_, rfl, ?_⟩
      have n0_ := ke HO166 ho0 hb
      have n1_ := Aside0.mk (Kd.R_lower (Kd.R_new' ho0 (Kd.R_lt (ra HO166.out))) (below_size bb))
      have n2_ := kp BK160 hb
      have n3_ := kp BK161 hb
      have n4_ := Aside0.mk (below_step bb hb)
      clear HO166 BK160 BK161 HB
      have HO166 := n0_
      have HO171 := n1_
      have BK160 := n2_
      have BK161 := n3_
      have HB := n4_
      clear n0_ n1_ n2_ n3_ n4_
      (try clear hb)
      (try clear hb2)
      (try clear hk)
      (try clear hi)
      (try clear ho0)
      obtain ⟨Ao36, co36, eo36⟩ := Kd.R_slice HO166.out
      (first | subst eo36 | (injection eo36 with f1_ f2_ f3_; have f4_ := f1_.symm; have f5_ := f3_.symm; clear f1_ f2_ f3_; subst f4_; subst f5_))
      obtain ⟨Ao37, co37, eo37⟩ := Kd.R_slice HO171.out
      (first | subst eo37 | (injection eo37 with f1_ f2_ f3_; have f4_ := f1_.symm; have f5_ := f3_.symm; clear f1_ f2_ f3_; subst f4_; subst f5_))
      refine hK.out _ _ ⟨(blk_cell BK160.out 0).trans rfl, (blk_cell BK160.out 1).trans rfl, (blk_cell BK160.out 2).trans rfl, (blk_cell BK161.out 0).trans rfl, (blk_cell BK161.out 1).trans rfl, (blk_cell BK161.out 2).trans rfl⟩ (fun hHeld => ?_)
      clear hK K
      refine norm_ (a' := ?_) ?_ ?_
      rotate_left
      ·show Act.put _ (some 31) _ = _
       simp only [Act.put, List.setIfInBounds_toArray, List.set_cons_zero, List.set_cons_succ, i64_w, i32_w]
       rfl
      refine two_ (i := 4) (j := 8) (Ni := some 32) (Nj := some 6) #[true, true, true, true, true, false, false, false, false, false, false] #[true, true, true, true, false, false, false, false, true, false, false] rfl rfl rfl rfl (two_of HT_.out (by kernel_rfl)) (by decide) (by decide) (fun K hK => ?_) (fun K hK => ?_)
      ·skip
       refine goes_ Try.func6 (by kernel_rfl) rfl #[.agg #[.slice Ao36 t164.length co36, .int .i64 t167, .int .i64 t168], .agg #[.slice Ao37 t169.length co37, .int .i64 t172, .int .i64 t173]] (by rfl) rfl rfl ll ?_
       with_reducible refine (spec_MachBoth.calls k _ _ t164 t167 t168 _ _ t169 t172 t173 t174 t177 t178 t179 _ ?side1 ?side2 ?side3 ?side4 A21.out).mono ?_
       (case side1 => repeat (first | exact (Kd.R_reads' HO166.out).2.2 | (with_reducible refine Kd.C_alloc ?_ _) | (with_reducible refine Kd.C_drewN ?_ _) | (with_reducible refine Kd.C_drew ?_)))
       (case side2 => exact (Kd.R_reads' HO166.out).2.1)
       (case side3 => repeat (first | exact (Kd.R_reads' HO171.out).2.2 | (with_reducible refine Kd.C_alloc ?_ _) | (with_reducible refine Kd.C_drewN ?_ _) | (with_reducible refine Kd.C_drew ?_)))
       (case side4 => exact (Kd.R_reads' HO171.out).2.1)
       rintro e w38 ⟨v175, rfl, ho0, hb⟩
       refine ⟨_, rfl, ?_⟩
       have n0_ := ke HO166 ho0 hb
       have n1_ := ke HO171 ho0 hb
       have n2_ := Aside0.mk (Kd.R_lower (Kd.R_new' (Kd.R_new' ho0 (Kd.R_lt (ra HO166.out))) (Kd.R_lt (ra HO171.out))) (below_size bb))
       have n3_ := kp BK160 hb
       have n4_ := kp BK161 hb
       have n5_ := Aside0.mk (below_step bb hb)
       clear HO166 HO171 BK160 BK161 HB
       have HO166 := n0_
       have HO171 := n1_
       have HO176 := n2_
       have BK160 := n3_
       have BK161 := n4_
       have HB := n5_
       clear n0_ n1_ n2_ n3_ n4_ n5_
       (try clear hb)
       (try clear hb2)
       (try clear hk)
       (try clear hi)
       (try clear ho0)
       refine hK.out _ _ ⟨(blk_cell BK160.out 0).trans rfl, (blk_cell BK160.out 1).trans rfl, (blk_cell BK160.out 2).trans rfl, (blk_cell BK161.out 0).trans rfl, (blk_cell BK161.out 1).trans rfl, (blk_cell BK161.out 2).trans rfl⟩ (fun hHeld => ?_)
       clear hK K
       refine norm_ (a' := ?_) ?_ ?_
       rotate_left
       ·show Act.put _ (some 32) _ = _
        simp only [Act.put, List.setIfInBounds_toArray, List.set_cons_zero, List.set_cons_succ, i64_w, i32_w]
        rfl
       refine pure_ (i := 5) (N := some 27) (v := ?_) (a' := ?_) #[true, true, true, true, true, true, false, false, false, false, false] rfl rfl (any_of HT_.out (by kernel_rfl)) (fun _ _ _ h => h) (Or.inl ⟨by rfl, ?_⟩) ?_ ?_
       rotate_left
       ·intro w'
        go_simp
        with_reducible rfl
       rotate_left
       ·simp only [Act.put, List.setIfInBounds_toArray, List.set_cons_zero, List.set_cons_succ, i64_w, i32_w]
        rfl
       refine pure_ (i := 6) (N := some 33) (v := ?_) (a' := ?_) #[true, true, true, true, true, true, true, false, false, false, false] rfl rfl (any_of HT_.out (by kernel_rfl)) (fun _ _ _ h => h) (Or.inl ⟨by rfl, ?_⟩) ?_ ?_
       rotate_left
       ·intro w'
        go_simp
        with_reducible rfl
       rotate_left
       ·simp only [Act.put, List.setIfInBounds_toArray, List.set_cons_zero, List.set_cons_succ, i64_w, i32_w]
        rfl
       refine pure_ (i := 7) (N := some 34) (v := ?_) (a' := ?_) #[true, true, true, true, true, true, true, true, false, false, false] rfl rfl (any_of HT_.out (by kernel_rfl)) (fun _ _ _ h => h) (Or.inl ⟨by rfl, ?_⟩) ?_ ?_
       rotate_left
       ·intro w'
        go_simp
        with_reducible rfl
       rotate_left
       ·simp only [Act.put, List.setIfInBounds_toArray, List.set_cons_zero, List.set_cons_succ, i64_w, i32_w]
        rfl
       refine one_ (i := 8) (N := some 6) #[true, true, true, true, true, true, true, true, true, false, false] rfl rfl (one_of HT_.out (by kernel_rfl)) (by decide) (fun K hK => ?_)
       refine box_step ?hg (N := 6) ?hd (cs := #[.slice none 0 0, .int .i64 0, .int .i64 0]) (t := 26) ?hr ?_; (case hd => rfl); (case hg => rfl); (case hr => first | (go_simp; done) | (go_simp; rfl))
       intro gb180 hg w39 hbox hb
       have n0_ := kb HO166 hb
       have n1_ := kb HO171 hb
       have n2_ := kb HO176 hb
       have n3_ := kp BK160 hb
       have n4_ := kp BK161 hb
       have n5_ := Aside0.mk (below_step bb hb)
       have n6_ := Aside0.mk (hbox)
       have n7_ := Aside0.mk ((by rw [hg]; exact (below_size bb) : w.heap.size ≤ gb180))
       have n8_ := Aside0.mk ((by rw [hg]; exact (below_size bb) : w.heap.size ≤ gb180))
       have n9_ := Aside0.mk (nl BK160 hg)
       have n10_ := Aside0.mk (nl BK160 hg).symm
       have n11_ := Aside0.mk (nl BK161 hg)
       have n12_ := Aside0.mk (nl BK161 hg).symm
       clear HO166 HO171 HO176 BK160 BK161 HB
       have HO166 := n0_
       have HO171 := n1_
       have HO176 := n2_
       have BK160 := n3_
       have BK161 := n4_
       have HB := n5_
       have BK180 := n6_
       have GW180 := n7_
       have GE180 := n8_
       have NB160_180 := n9_
       have NB180_160 := n10_
       have NB161_180 := n11_
       have NB180_161 := n12_
       clear n0_ n1_ n2_ n3_ n4_ n5_ n6_ n7_ n8_ n9_ n10_ n11_ n12_
       clear hb hbox hg
       refine hK.out _ _ ⟨(blk_cell BK160.out 0).trans rfl, (blk_cell BK160.out 1).trans rfl, (blk_cell BK160.out 2).trans rfl, (blk_cell BK161.out 0).trans rfl, (blk_cell BK161.out 1).trans rfl, (blk_cell BK161.out 2).trans rfl⟩ (fun hHeld => ?_)
       clear hK K
       refine norm_ (a' := ?_) ?_ ?_
       rotate_left
       ·show Act.put _ (some 6) _ = _
        simp only [Act.put, List.setIfInBounds_toArray, List.set_cons_zero, List.set_cons_succ, i64_w, i32_w]
        rfl
       exact norm_ (by simp only [putAll, Act.put, List.setIfInBounds_toArray, List.set_cons_zero, List.set_cons_succ]) (hCont (.slice Ao36 t164.length co36, .slice Ao37 t169.length co37, v175, gb180) _ ⟨hHeld, (rm HO166.out (fun _ hk => by first | exact ⟨hk.1.2, hk.2⟩ | (simp_all; done) | grind)), (rm HO171.out (fun _ hk => by first | exact ⟨hk.1.2, hk.2⟩ | (simp_all; done) | grind)), (rm HO176.out (fun _ hk => by first | exact ⟨hk.1.2, hk.2⟩ | (simp_all; done) | grind)), (rc BK160.out), (rc BK161.out), (rc BK180.out), GW180.out, GE180.out, NB160_180.out, NB180_160.out, NB161_180.out, NB180_161.out, bb⟩)
      ·skip
       refine box_step ?hg (N := 6) ?hd (cs := #[.slice none 0 0, .int .i64 0, .int .i64 0]) (t := 26) ?hr ?_; (case hd => rfl); (case hg => rfl); (case hr => first | (go_simp; done) | (go_simp; rfl))
       intro gb180 hg w36 hbox hb
       have n0_ := kb HO166 hb
       have n1_ := kb HO171 hb
       have n2_ := kp BK160 hb
       have n3_ := kp BK161 hb
       have n4_ := Aside0.mk (below_step bb hb)
       have n5_ := Aside0.mk (hbox)
       have n6_ := Aside0.mk ((by rw [hg]; exact (below_size bb) : w.heap.size ≤ gb180))
       have n7_ := Aside0.mk ((by rw [hg]; exact (below_size bb) : w.heap.size ≤ gb180))
       have n8_ := Aside0.mk (nl BK160 hg)
       have n9_ := Aside0.mk (nl BK160 hg).symm
       have n10_ := Aside0.mk (nl BK161 hg)
       have n11_ := Aside0.mk (nl BK161 hg).symm
       clear HO166 HO171 BK160 BK161 HB
       have HO166 := n0_
       have HO171 := n1_
       have BK160 := n2_
       have BK161 := n3_
       have HB := n4_
       have BK180 := n5_
       have GW180 := n6_
       have GE180 := n7_
       have NB160_180 := n8_
       have NB180_160 := n9_
       have NB161_180 := n10_
       have NB180_161 := n11_
       clear n0_ n1_ n2_ n3_ n4_ n5_ n6_ n7_ n8_ n9_ n10_ n11_
       clear hb hbox hg
       obtain ⟨Ao37, co37, eo37⟩ := Kd.R_slice HO166.out
       (first | subst eo37 | (injection eo37 with f1_ f2_ f3_; have f4_ := f1_.symm; have f5_ := f3_.symm; clear f1_ f2_ f3_; subst f4_; subst f5_))
       obtain ⟨Ao38, co38, eo38⟩ := Kd.R_slice HO171.out
       (first | subst eo38 | (injection eo38 with f1_ f2_ f3_; have f4_ := f1_.symm; have f5_ := f3_.symm; clear f1_ f2_ f3_; subst f4_; subst f5_))
       refine hK.out _ _ ⟨(blk_cell BK160.out 0).trans rfl, (blk_cell BK160.out 1).trans rfl, (blk_cell BK160.out 2).trans rfl, (blk_cell BK161.out 0).trans rfl, (blk_cell BK161.out 1).trans rfl, (blk_cell BK161.out 2).trans rfl⟩ (fun hHeld => ?_)
       clear hK K
       refine norm_ (a' := ?_) ?_ ?_
       rotate_left
       ·show Act.put _ (some 6) _ = _
        simp only [Act.put, List.setIfInBounds_toArray, List.set_cons_zero, List.set_cons_succ, i64_w, i32_w]
        rfl
       refine one_ (i := 4) (N := some 32) #[true, true, true, true, true, false, false, false, true, false, false] rfl rfl (one_of HT_.out (by kernel_rfl)) (by decide) (fun K hK => ?_)
       refine goes_ Try.func6 (by kernel_rfl) rfl #[.agg #[.slice Ao37 t164.length co37, .int .i64 t167, .int .i64 t168], .agg #[.slice Ao38 t169.length co38, .int .i64 t172, .int .i64 t173]] (by rfl) rfl rfl ll ?_
       with_reducible refine (spec_MachBoth.calls k _ _ t164 t167 t168 _ _ t169 t172 t173 t174 t177 t178 t179 _ ?side1 ?side2 ?side3 ?side4 A21.out).mono ?_
       (case side1 => repeat (first | exact (Kd.R_reads' HO166.out).2.2 | (with_reducible refine Kd.C_alloc ?_ _) | (with_reducible refine Kd.C_drewN ?_ _) | (with_reducible refine Kd.C_drew ?_)))
       (case side2 => exact (Kd.R_reads' HO166.out).2.1)
       (case side3 => repeat (first | exact (Kd.R_reads' HO171.out).2.2 | (with_reducible refine Kd.C_alloc ?_ _) | (with_reducible refine Kd.C_drewN ?_ _) | (with_reducible refine Kd.C_drew ?_)))
       (case side4 => exact (Kd.R_reads' HO171.out).2.1)
       rintro e w39 ⟨v175, rfl, ho0, hb⟩
       refine ⟨_, rfl, ?_⟩
       have n0_ := ke HO166 ho0 hb
       have n1_ := ke HO171 ho0 hb
       have n2_ := Aside0.mk (Kd.R_lower (Kd.R_new' (Kd.R_new' ho0 (Kd.R_lt (ra HO166.out))) (Kd.R_lt (ra HO171.out))) (below_size bb))
       have n3_ := kp BK160 hb
       have n4_ := kp BK161 hb
       have n5_ := kp BK180 hb
       have n6_ := Aside0.mk (below_step bb hb)
       clear HO166 HO171 BK160 BK161 BK180 HB
       have HO166 := n0_
       have HO171 := n1_
       have HO176 := n2_
       have BK160 := n3_
       have BK161 := n4_
       have BK180 := n5_
       have HB := n6_
       clear n0_ n1_ n2_ n3_ n4_ n5_ n6_
       (try clear hb)
       (try clear hb2)
       (try clear hk)
       (try clear hi)
       (try clear ho0)
       refine hK.out _ _ ⟨(blk_cell BK160.out 0).trans rfl, (blk_cell BK160.out 1).trans rfl, (blk_cell BK160.out 2).trans rfl, (blk_cell BK161.out 0).trans rfl, (blk_cell BK161.out 1).trans rfl, (blk_cell BK161.out 2).trans rfl⟩ (fun hHeld => ?_)
       clear hK K
       refine norm_ (a' := ?_) ?_ ?_
       rotate_left
       ·show Act.put _ (some 32) _ = _
        simp only [Act.put, List.setIfInBounds_toArray, List.set_cons_zero, List.set_cons_succ, i64_w, i32_w]
        rfl
       refine pure_ (i := 5) (N := some 27) (v := ?_) (a' := ?_) #[true, true, true, true, true, true, false, false, true, false, false] rfl rfl (any_of HT_.out (by kernel_rfl)) (fun _ _ _ h => h) (Or.inl ⟨by rfl, ?_⟩) ?_ ?_
       rotate_left
       ·intro w'
        go_simp
        with_reducible rfl
       rotate_left
       ·simp only [Act.put, List.setIfInBounds_toArray, List.set_cons_zero, List.set_cons_succ, i64_w, i32_w]
        rfl
       refine pure_ (i := 6) (N := some 33) (v := ?_) (a' := ?_) #[true, true, true, true, true, true, true, false, true, false, false] rfl rfl (any_of HT_.out (by kernel_rfl)) (fun _ _ _ h => h) (Or.inl ⟨by rfl, ?_⟩) ?_ ?_
       rotate_left
       ·intro w'
        go_simp
        with_reducible rfl
       rotate_left
       ·simp only [Act.put, List.setIfInBounds_toArray, List.set_cons_zero, List.set_cons_succ, i64_w, i32_w]
        rfl
       refine pure_ (i := 7) (N := some 34) (v := ?_) (a' := ?_) #[true, true, true, true, true, true, true, true, true, false, false] rfl rfl (any_of HT_.out (by kernel_rfl)) (fun _ _ _ h => h) (Or.inl ⟨by rfl, ?_⟩) ?_ ?_
       rotate_left
       ·intro w'
        go_simp
        with_reducible rfl
       rotate_left
       ·simp only [Act.put, List.setIfInBounds_toArray, List.set_cons_zero, List.set_cons_succ, i64_w, i32_w]
        rfl
       exact norm_ (by simp only [putAll, Act.put, List.setIfInBounds_toArray, List.set_cons_zero, List.set_cons_succ]) (hCont (.slice Ao37 t164.length co37, .slice Ao38 t169.length co38, v175, gb180) _ ⟨hHeld, (rm HO166.out (fun _ hk => by first | exact ⟨hk.1.2, hk.2⟩ | (simp_all; done) | grind)), (rm HO171.out (fun _ hk => by first | exact ⟨hk.1.2, hk.2⟩ | (simp_all; done) | grind)), (rm HO176.out (fun _ hk => by first | exact ⟨hk.1.2, hk.2⟩ | (simp_all; done) | grind)), (rc BK160.out), (rc BK161.out), (rc BK180.out), GW180.out, GE180.out, NB160_180.out, NB180_160.out, NB161_180.out, NB180_161.out, bb⟩)
     ·skip
      refine box_step ?hg (N := 6) ?hd (cs := #[.slice none 0 0, .int .i64 0, .int .i64 0]) (t := 26) ?hr ?_; (case hd => rfl); (case hg => rfl); (case hr => first | (go_simp; done) | (go_simp; rfl))
      intro gb180 hg w35 hbox hb
      have n0_ := kb HO166 hb
      have n1_ := kp BK160 hb
      have n2_ := kp BK161 hb
      have n3_ := Aside0.mk (below_step bb hb)
      have n4_ := Aside0.mk (hbox)
      have n5_ := Aside0.mk ((by rw [hg]; exact (below_size bb) : w.heap.size ≤ gb180))
      have n6_ := Aside0.mk ((by rw [hg]; exact (below_size bb) : w.heap.size ≤ gb180))
      have n7_ := Aside0.mk (nl BK160 hg)
      have n8_ := Aside0.mk (nl BK160 hg).symm
      have n9_ := Aside0.mk (nl BK161 hg)
      have n10_ := Aside0.mk (nl BK161 hg).symm
      clear HO166 BK160 BK161 HB
      have HO166 := n0_
      have BK160 := n1_
      have BK161 := n2_
      have HB := n3_
      have BK180 := n4_
      have GW180 := n5_
      have GE180 := n6_
      have NB160_180 := n7_
      have NB180_160 := n8_
      have NB161_180 := n9_
      have NB180_161 := n10_
      clear n0_ n1_ n2_ n3_ n4_ n5_ n6_ n7_ n8_ n9_ n10_
      clear hb hbox hg
      refine hK.out _ _ ⟨(blk_cell BK160.out 0).trans rfl, (blk_cell BK160.out 1).trans rfl, (blk_cell BK160.out 2).trans rfl, (blk_cell BK161.out 0).trans rfl, (blk_cell BK161.out 1).trans rfl, (blk_cell BK161.out 2).trans rfl⟩ (fun hHeld => ?_)
      clear hK K
      refine norm_ (a' := ?_) ?_ ?_
      rotate_left
      ·show Act.put _ (some 6) _ = _
       simp only [Act.put, List.setIfInBounds_toArray, List.set_cons_zero, List.set_cons_succ, i64_w, i32_w]
       rfl
      refine one_ (i := 3) (N := some 31) #[true, true, true, true, false, false, false, false, true, false, false] rfl rfl (one_of HT_.out (by kernel_rfl)) (by decide) (fun K hK => ?_)
      refine goes_ Try.func7 (by kernel_rfl) rfl #[.agg #[.slice A1_0 l1_0.length c1_0, .int .i64 a1_1, .int .i64 a1_2]] (by rfl) rfl rfl ll ?_
      with_reducible refine (laws_toMachine.calls k _ _ l1_0 a1_1 a1_2 t169 t172 t173 _ ?side1 ?side2 A20.out).mono ?_
      (case side1 => repeat (first | exact (Kd.C_below HR1_0.out HB.out) | (with_reducible refine Kd.C_alloc ?_ _) | (with_reducible refine Kd.C_drewN ?_ _) | (with_reducible refine Kd.C_drew ?_)))
      (case side2 => exact HC1_0.out)
      rintro e w36 ⟨v170, rfl, ho0, hb⟩
      refine ⟨_, rfl, ?_⟩
      have n0_ := ke HO166 ho0 hb
      have n1_ := Aside0.mk (Kd.R_lower (Kd.R_new' ho0 (Kd.R_lt (ra HO166.out))) (below_size bb))
      have n2_ := kp BK160 hb
      have n3_ := kp BK161 hb
      have n4_ := kp BK180 hb
      have n5_ := Aside0.mk (below_step bb hb)
      clear HO166 BK160 BK161 BK180 HB
      have HO166 := n0_
      have HO171 := n1_
      have BK160 := n2_
      have BK161 := n3_
      have BK180 := n4_
      have HB := n5_
      clear n0_ n1_ n2_ n3_ n4_ n5_
      (try clear hb)
      (try clear hb2)
      (try clear hk)
      (try clear hi)
      (try clear ho0)
      obtain ⟨Ao37, co37, eo37⟩ := Kd.R_slice HO166.out
      (first | subst eo37 | (injection eo37 with f1_ f2_ f3_; have f4_ := f1_.symm; have f5_ := f3_.symm; clear f1_ f2_ f3_; subst f4_; subst f5_))
      obtain ⟨Ao38, co38, eo38⟩ := Kd.R_slice HO171.out
      (first | subst eo38 | (injection eo38 with f1_ f2_ f3_; have f4_ := f1_.symm; have f5_ := f3_.symm; clear f1_ f2_ f3_; subst f4_; subst f5_))
      refine hK.out _ _ ⟨(blk_cell BK160.out 0).trans rfl, (blk_cell BK160.out 1).trans rfl, (blk_cell BK160.out 2).trans rfl, (blk_cell BK161.out 0).trans rfl, (blk_cell BK161.out 1).trans rfl, (blk_cell BK161.out 2).trans rfl⟩ (fun hHeld => ?_)
      clear hK K
      refine norm_ (a' := ?_) ?_ ?_
      rotate_left
      ·show Act.put _ (some 31) _ = _
       simp only [Act.put, List.setIfInBounds_toArray, List.set_cons_zero, List.set_cons_succ, i64_w, i32_w]
       rfl
      refine one_ (i := 4) (N := some 32) #[true, true, true, true, true, false, false, false, true, false, false] rfl rfl (one_of HT_.out (by kernel_rfl)) (by decide) (fun K hK => ?_)
      refine goes_ Try.func6 (by kernel_rfl) rfl #[.agg #[.slice Ao37 t164.length co37, .int .i64 t167, .int .i64 t168], .agg #[.slice Ao38 t169.length co38, .int .i64 t172, .int .i64 t173]] (by rfl) rfl rfl ll ?_
      with_reducible refine (spec_MachBoth.calls k _ _ t164 t167 t168 _ _ t169 t172 t173 t174 t177 t178 t179 _ ?side1 ?side2 ?side3 ?side4 A21.out).mono ?_
      (case side1 => repeat (first | exact (Kd.R_reads' HO166.out).2.2 | (with_reducible refine Kd.C_alloc ?_ _) | (with_reducible refine Kd.C_drewN ?_ _) | (with_reducible refine Kd.C_drew ?_)))
      (case side2 => exact (Kd.R_reads' HO166.out).2.1)
      (case side3 => repeat (first | exact (Kd.R_reads' HO171.out).2.2 | (with_reducible refine Kd.C_alloc ?_ _) | (with_reducible refine Kd.C_drewN ?_ _) | (with_reducible refine Kd.C_drew ?_)))
      (case side4 => exact (Kd.R_reads' HO171.out).2.1)
      rintro e w39 ⟨v175, rfl, ho0, hb⟩
      refine ⟨_, rfl, ?_⟩
      have n0_ := ke HO166 ho0 hb
      have n1_ := ke HO171 ho0 hb
      have n2_ := Aside0.mk (Kd.R_lower (Kd.R_new' (Kd.R_new' ho0 (Kd.R_lt (ra HO166.out))) (Kd.R_lt (ra HO171.out))) (below_size bb))
      have n3_ := kp BK160 hb
      have n4_ := kp BK161 hb
      have n5_ := kp BK180 hb
      have n6_ := Aside0.mk (below_step bb hb)
      clear HO166 HO171 BK160 BK161 BK180 HB
      have HO166 := n0_
      have HO171 := n1_
      have HO176 := n2_
      have BK160 := n3_
      have BK161 := n4_
      have BK180 := n5_
      have HB := n6_
      clear n0_ n1_ n2_ n3_ n4_ n5_ n6_
      (try clear hb)
      (try clear hb2)
      (try clear hk)
      (try clear hi)
      (try clear ho0)
      refine hK.out _ _ ⟨(blk_cell BK160.out 0).trans rfl, (blk_cell BK160.out 1).trans rfl, (blk_cell BK160.out 2).trans rfl, (blk_cell BK161.out 0).trans rfl, (blk_cell BK161.out 1).trans rfl, (blk_cell BK161.out 2).trans rfl⟩ (fun hHeld => ?_)
      clear hK K
      refine norm_ (a' := ?_) ?_ ?_
      rotate_left
      ·show Act.put _ (some 32) _ = _
       simp only [Act.put, List.setIfInBounds_toArray, List.set_cons_zero, List.set_cons_succ, i64_w, i32_w]
       rfl
      refine pure_ (i := 5) (N := some 27) (v := ?_) (a' := ?_) #[true, true, true, true, true, true, false, false, true, false, false] rfl rfl (any_of HT_.out (by kernel_rfl)) (fun _ _ _ h => h) (Or.inl ⟨by rfl, ?_⟩) ?_ ?_
      rotate_left
      ·intro w'
       go_simp
       with_reducible rfl
      rotate_left
      ·simp only [Act.put, List.setIfInBounds_toArray, List.set_cons_zero, List.set_cons_succ, i64_w, i32_w]
       rfl
      refine pure_ (i := 6) (N := some 33) (v := ?_) (a' := ?_) #[true, true, true, true, true, true, true, false, true, false, false] rfl rfl (any_of HT_.out (by kernel_rfl)) (fun _ _ _ h => h) (Or.inl ⟨by rfl, ?_⟩) ?_ ?_
      rotate_left
      ·intro w'
       go_simp
       with_reducible rfl
      rotate_left
      ·simp only [Act.put, List.setIfInBounds_toArray, List.set_cons_zero, List.set_cons_succ, i64_w, i32_w]
       rfl
      refine pure_ (i := 7) (N := some 34) (v := ?_) (a' := ?_) #[true, true, true, true, true, true, true, true, true, false, false] rfl rfl (any_of HT_.out (by kernel_rfl)) (fun _ _ _ h => h) (Or.inl ⟨by rfl, ?_⟩) ?_ ?_
      rotate_left
      ·intro w'
       go_simp
       with_reducible rfl
      rotate_left
      ·simp only [Act.put, List.setIfInBounds_toArray, List.set_cons_zero, List.set_cons_succ, i64_w, i32_w]
       rfl
      exact norm_ (by simp only [putAll, Act.put, List.setIfInBounds_toArray, List.set_cons_zero, List.set_cons_succ]) (hCont (.slice Ao37 t164.length co37, .slice Ao38 t169.length co38, v175, gb180) _ ⟨hHeld, (rm HO166.out (fun _ hk => by first | exact ⟨hk.1.2, hk.2⟩ | (simp_all; done) | grind)), (rm HO171.out (fun _ hk => by first | exact ⟨hk.1.2, hk.2⟩ | (simp_all; done) | grind)), (rm HO176.out (fun _ hk => by first | exact ⟨hk.1.2, hk.2⟩ | (simp_all; done) | grind)), (rc BK160.out), (rc BK161.out), (rc BK180.out), GW180.out, GE180.out, NB160_180.out, NB180_160.out, NB161_180.out, NB180_161.out, bb⟩)
    ·skip
     refine box_step ?hg (N := 6) ?hd (cs := #[.slice none 0 0, .int .i64 0, .int .i64 0]) (t := 26) ?hr ?_; (case hd => rfl); (case hg => rfl); (case hr => first | (go_simp; done) | (go_simp; rfl))
     intro gb180 hg w34 hbox hb
     have n0_ := kp BK160 hb
     have n1_ := kp BK161 hb
     have n2_ := Aside0.mk (below_step bb hb)
     have n3_ := Aside0.mk (hbox)
     have n4_ := Aside0.mk ((by rw [hg]; exact (below_size bb) : w.heap.size ≤ gb180))
     have n5_ := Aside0.mk ((by rw [hg]; exact (below_size bb) : w.heap.size ≤ gb180))
     have n6_ := Aside0.mk (nl BK160 hg)
     have n7_ := Aside0.mk (nl BK160 hg).symm
     have n8_ := Aside0.mk (nl BK161 hg)
     have n9_ := Aside0.mk (nl BK161 hg).symm
     clear BK160 BK161 HB
     have BK160 := n0_
     have BK161 := n1_
     have HB := n2_
     have BK180 := n3_
     have GW180 := n4_
     have GE180 := n5_
     have NB160_180 := n6_
     have NB180_160 := n7_
     have NB161_180 := n8_
     have NB180_161 := n9_
     clear n0_ n1_ n2_ n3_ n4_ n5_ n6_ n7_ n8_ n9_
     clear hb hbox hg
     refine hK.out _ _ ⟨(blk_cell BK160.out 0).trans rfl, (blk_cell BK160.out 1).trans rfl, (blk_cell BK160.out 2).trans rfl, (blk_cell BK161.out 0).trans rfl, (blk_cell BK161.out 1).trans rfl, (blk_cell BK161.out 2).trans rfl⟩ (fun hHeld => ?_)
     clear hK K
     refine norm_ (a' := ?_) ?_ ?_
     rotate_left
     ·show Act.put _ (some 6) _ = _
      simp only [Act.put, List.setIfInBounds_toArray, List.set_cons_zero, List.set_cons_succ, i64_w, i32_w]
      rfl
     refine one_ (i := 1) (N := some 29) #[true, true, true, false, false, false, false, false, true, false, false] rfl rfl (one_of HT_.out (by kernel_rfl)) (by decide) (fun K hK => ?_)
     refine goes_ Try.func7 (by kernel_rfl) rfl #[.agg #[.slice A0_0 l0_0.length c0_0, .int .i64 a0_1, .int .i64 a0_2]] (by rfl) rfl rfl ll ?_
     with_reducible refine (laws_toMachine.calls k _ _ l0_0 a0_1 a0_2 t164 t167 t168 _ ?side1 ?side2 A19.out).mono ?_
     (case side1 => repeat (first | exact (Kd.C_below HR0_0.out HB.out) | (with_reducible refine Kd.C_alloc ?_ _) | (with_reducible refine Kd.C_drewN ?_ _) | (with_reducible refine Kd.C_drew ?_)))
     (case side2 => exact HC0_0.out)
     rintro e w35 ⟨v165, rfl, ho0, hb⟩
     refine ⟨_, rfl, ?_⟩
     have n0_ := Aside0.mk (Kd.R_lower ho0 (below_size bb))
     have n1_ := kp BK160 hb
     have n2_ := kp BK161 hb
     have n3_ := kp BK180 hb
     have n4_ := Aside0.mk (below_step bb hb)
     clear BK160 BK161 BK180 HB
     have HO166 := n0_
     have BK160 := n1_
     have BK161 := n2_
     have BK180 := n3_
     have HB := n4_
     clear n0_ n1_ n2_ n3_ n4_
     (try clear hb)
     (try clear hb2)
     (try clear hk)
     (try clear hi)
     (try clear ho0)
     refine hK.out _ _ ⟨(blk_cell BK160.out 0).trans rfl, (blk_cell BK160.out 1).trans rfl, (blk_cell BK160.out 2).trans rfl, (blk_cell BK161.out 0).trans rfl, (blk_cell BK161.out 1).trans rfl, (blk_cell BK161.out 2).trans rfl⟩ (fun hHeld => ?_)
     clear hK K
     refine norm_ (a' := ?_) ?_ ?_
     rotate_left
     ·show Act.put _ (some 29) _ = _
      simp only [Act.put, List.setIfInBounds_toArray, List.set_cons_zero, List.set_cons_succ, i64_w, i32_w]
      rfl
     refine one_ (i := 3) (N := some 31) #[true, true, true, true, false, false, false, false, true, false, false] rfl rfl (one_of HT_.out (by kernel_rfl)) (by decide) (fun K hK => ?_)
     refine goes_ Try.func7 (by kernel_rfl) rfl #[.agg #[.slice A1_0 l1_0.length c1_0, .int .i64 a1_1, .int .i64 a1_2]] (by rfl) rfl rfl ll ?_
     with_reducible refine (laws_toMachine.calls k _ _ l1_0 a1_1 a1_2 t169 t172 t173 _ ?side1 ?side2 A20.out).mono ?_
     (case side1 => repeat (first | exact (Kd.C_below HR1_0.out HB.out) | (with_reducible refine Kd.C_alloc ?_ _) | (with_reducible refine Kd.C_drewN ?_ _) | (with_reducible refine Kd.C_drew ?_)))
     (case side2 => exact HC1_0.out)
     rintro e w36 ⟨v170, rfl, ho0, hb⟩
     refine ⟨_, rfl, ?_⟩
     have n0_ := ke HO166 ho0 hb
     have n1_ := Aside0.mk (Kd.R_lower (Kd.R_new' ho0 (Kd.R_lt (ra HO166.out))) (below_size bb))
     have n2_ := kp BK160 hb
     have n3_ := kp BK161 hb
     have n4_ := kp BK180 hb
     have n5_ := Aside0.mk (below_step bb hb)
     clear HO166 BK160 BK161 BK180 HB
     have HO166 := n0_
     have HO171 := n1_
     have BK160 := n2_
     have BK161 := n3_
     have BK180 := n4_
     have HB := n5_
     clear n0_ n1_ n2_ n3_ n4_ n5_
     (try clear hb)
     (try clear hb2)
     (try clear hk)
     (try clear hi)
     (try clear ho0)
     obtain ⟨Ao37, co37, eo37⟩ := Kd.R_slice HO166.out
     (first | subst eo37 | (injection eo37 with f1_ f2_ f3_; have f4_ := f1_.symm; have f5_ := f3_.symm; clear f1_ f2_ f3_; subst f4_; subst f5_))
     obtain ⟨Ao38, co38, eo38⟩ := Kd.R_slice HO171.out
     (first | subst eo38 | (injection eo38 with f1_ f2_ f3_; have f4_ := f1_.symm; have f5_ := f3_.symm; clear f1_ f2_ f3_; subst f4_; subst f5_))
     refine hK.out _ _ ⟨(blk_cell BK160.out 0).trans rfl, (blk_cell BK160.out 1).trans rfl, (blk_cell BK160.out 2).trans rfl, (blk_cell BK161.out 0).trans rfl, (blk_cell BK161.out 1).trans rfl, (blk_cell BK161.out 2).trans rfl⟩ (fun hHeld => ?_)
     clear hK K
     refine norm_ (a' := ?_) ?_ ?_
     rotate_left
     ·show Act.put _ (some 31) _ = _
      simp only [Act.put, List.setIfInBounds_toArray, List.set_cons_zero, List.set_cons_succ, i64_w, i32_w]
      rfl
     refine one_ (i := 4) (N := some 32) #[true, true, true, true, true, false, false, false, true, false, false] rfl rfl (one_of HT_.out (by kernel_rfl)) (by decide) (fun K hK => ?_)
     refine goes_ Try.func6 (by kernel_rfl) rfl #[.agg #[.slice Ao37 t164.length co37, .int .i64 t167, .int .i64 t168], .agg #[.slice Ao38 t169.length co38, .int .i64 t172, .int .i64 t173]] (by rfl) rfl rfl ll ?_
     with_reducible refine (spec_MachBoth.calls k _ _ t164 t167 t168 _ _ t169 t172 t173 t174 t177 t178 t179 _ ?side1 ?side2 ?side3 ?side4 A21.out).mono ?_
     (case side1 => repeat (first | exact (Kd.R_reads' HO166.out).2.2 | (with_reducible refine Kd.C_alloc ?_ _) | (with_reducible refine Kd.C_drewN ?_ _) | (with_reducible refine Kd.C_drew ?_)))
     (case side2 => exact (Kd.R_reads' HO166.out).2.1)
     (case side3 => repeat (first | exact (Kd.R_reads' HO171.out).2.2 | (with_reducible refine Kd.C_alloc ?_ _) | (with_reducible refine Kd.C_drewN ?_ _) | (with_reducible refine Kd.C_drew ?_)))
     (case side4 => exact (Kd.R_reads' HO171.out).2.1)
     rintro e w39 ⟨v175, rfl, ho0, hb⟩
     refine ⟨_, rfl, ?_⟩
     have n0_ := ke HO166 ho0 hb
     have n1_ := ke HO171 ho0 hb
     have n2_ := Aside0.mk (Kd.R_lower (Kd.R_new' (Kd.R_new' ho0 (Kd.R_lt (ra HO166.out))) (Kd.R_lt (ra HO171.out))) (below_size bb))
     have n3_ := kp BK160 hb
     have n4_ := kp BK161 hb
     have n5_ := kp BK180 hb
     have n6_ := Aside0.mk (below_step bb hb)
     clear HO166 HO171 BK160 BK161 BK180 HB
     have HO166 := n0_
     have HO171 := n1_
     have HO176 := n2_
     have BK160 := n3_
     have BK161 := n4_
     have BK180 := n5_
     have HB := n6_
     clear n0_ n1_ n2_ n3_ n4_ n5_ n6_
     (try clear hb)
     (try clear hb2)
     (try clear hk)
     (try clear hi)
     (try clear ho0)
     refine hK.out _ _ ⟨(blk_cell BK160.out 0).trans rfl, (blk_cell BK160.out 1).trans rfl, (blk_cell BK160.out 2).trans rfl, (blk_cell BK161.out 0).trans rfl, (blk_cell BK161.out 1).trans rfl, (blk_cell BK161.out 2).trans rfl⟩ (fun hHeld => ?_)
     clear hK K
     refine norm_ (a' := ?_) ?_ ?_
     rotate_left
     ·show Act.put _ (some 32) _ = _
      simp only [Act.put, List.setIfInBounds_toArray, List.set_cons_zero, List.set_cons_succ, i64_w, i32_w]
      rfl
     refine pure_ (i := 5) (N := some 27) (v := ?_) (a' := ?_) #[true, true, true, true, true, true, false, false, true, false, false] rfl rfl (any_of HT_.out (by kernel_rfl)) (fun _ _ _ h => h) (Or.inl ⟨by rfl, ?_⟩) ?_ ?_
     rotate_left
     ·intro w'
      go_simp
      with_reducible rfl
     rotate_left
     ·simp only [Act.put, List.setIfInBounds_toArray, List.set_cons_zero, List.set_cons_succ, i64_w, i32_w]
      rfl
     refine pure_ (i := 6) (N := some 33) (v := ?_) (a' := ?_) #[true, true, true, true, true, true, true, false, true, false, false] rfl rfl (any_of HT_.out (by kernel_rfl)) (fun _ _ _ h => h) (Or.inl ⟨by rfl, ?_⟩) ?_ ?_
     rotate_left
     ·intro w'
      go_simp
      with_reducible rfl
     rotate_left
     ·simp only [Act.put, List.setIfInBounds_toArray, List.set_cons_zero, List.set_cons_succ, i64_w, i32_w]
      rfl
     refine pure_ (i := 7) (N := some 34) (v := ?_) (a' := ?_) #[true, true, true, true, true, true, true, true, true, false, false] rfl rfl (any_of HT_.out (by kernel_rfl)) (fun _ _ _ h => h) (Or.inl ⟨by rfl, ?_⟩) ?_ ?_
     rotate_left
     ·intro w'
      go_simp
      with_reducible rfl
     rotate_left
     ·simp only [Act.put, List.setIfInBounds_toArray, List.set_cons_zero, List.set_cons_succ, i64_w, i32_w]
      rfl
     exact norm_ (by simp only [putAll, Act.put, List.setIfInBounds_toArray, List.set_cons_zero, List.set_cons_succ]) (hCont (.slice Ao37 t164.length co37, .slice Ao38 t169.length co38, v175, gb180) _ ⟨hHeld, (rm HO166.out (fun _ hk => by first | exact ⟨hk.1.2, hk.2⟩ | (simp_all; done) | grind)), (rm HO171.out (fun _ hk => by first | exact ⟨hk.1.2, hk.2⟩ | (simp_all; done) | grind)), (rm HO176.out (fun _ hk => by first | exact ⟨hk.1.2, hk.2⟩ | (simp_all; done) | grind)), (rc BK160.out), (rc BK161.out), (rc BK180.out), GW180.out, GE180.out, NB160_180.out, NB180_160.out, NB161_180.out, NB180_161.out, bb⟩)
   rintro ⟨v165, v170, v175, gb180⟩ w40 ⟨hS_, h0_, h1_, h2_, h3_, h4_, h5_, h6_, h7_, h8_, h9_, h10_, h11_, h12_⟩
   have n0_ : Aside0 (Kd.R (Kd.int .i64) 3 w40 w.heap.size (fun k_ => some k_ ≠ (v170 : Value).ownBlock ∧ some k_ ≠ (v175 : Value).ownBlock) v165 t164) := ⟨h0_⟩
   have n1_ : Aside0 (Kd.R (Kd.int .i64) 3 w40 w.heap.size (fun k_ => some k_ ≠ (v165 : Value).ownBlock ∧ some k_ ≠ (v175 : Value).ownBlock) v170 t169) := ⟨h1_⟩
   have n2_ : Aside0 (Kd.R (Kd.int .i64) 3 w40 w.heap.size (fun k_ => some k_ ≠ (v165 : Value).ownBlock ∧ some k_ ≠ (v170 : Value).ownBlock) v175 t174) := ⟨h2_⟩
   have n3_ : Aside0 (w40.heap[gb160]? = some (.cells #[.slice A0_0 l0_0.length c0_0, .int .i64 a0_1, .int .i64 a0_2] 24 (0, 0))) := ⟨h3_⟩
   have n4_ : Aside0 (w40.heap[gb161]? = some (.cells #[.slice A1_0 l1_0.length c1_0, .int .i64 a1_1, .int .i64 a1_2] 24 (0, 0))) := ⟨h4_⟩
   have n5_ : Aside0 (w40.heap[gb180]? = some (.cells #[.slice none 0 0, .int .i64 0, .int .i64 0] 26 (0, 0))) := ⟨h5_⟩
   have n6_ : Aside0 (w.heap.size ≤ gb180) := ⟨h6_⟩
   have n7_ : Aside0 (w.heap.size ≤ gb180) := ⟨h7_⟩
   have n8_ : Aside0 (gb160 ≠ gb180) := ⟨h8_⟩
   have n9_ : Aside0 (gb180 ≠ gb160) := ⟨h9_⟩
   have n10_ : Aside0 (gb161 ≠ gb180) := ⟨h10_⟩
   have n11_ : Aside0 (gb180 ≠ gb161) := ⟨h11_⟩
   have n12_ : Aside0 (Below w.heap.size w w40) := ⟨h12_⟩
   clear BK160 BK161 HB
   clear h0_ h1_ h2_ h3_ h4_ h5_ h6_ h7_ h8_ h9_ h10_ h11_ h12_
   have HO166 := n0_
   have HO171 := n1_
   have HO176 := n2_
   have BK160 := n3_
   have BK161 := n4_
   have BK180 := n5_
   have GW180 := n6_
   have GE180 := n7_
   have NB160_180 := n8_
   have NB180_160 := n9_
   have NB161_180 := n10_
   have NB180_161 := n11_
   have HB := n12_
   clear n0_ n1_ n2_ n3_ n4_ n5_ n6_ n7_ n8_ n9_ n10_ n11_ n12_
   have hHeld : w40.cell? ⟨gb160, 0, none⟩ = some (.slice A0_0 l0_0.length c0_0) ∧ w40.cell? ⟨gb160, 1, none⟩ = some (.int .i64 a0_1) ∧ w40.cell? ⟨gb160, 2, none⟩ = some (.int .i64 a0_2) ∧ w40.cell? ⟨gb161, 0, none⟩ = some (.slice A1_0 l1_0.length c1_0) ∧ w40.cell? ⟨gb161, 1, none⟩ = some (.int .i64 a1_1) ∧ w40.cell? ⟨gb161, 2, none⟩ = some (.int .i64 a1_2) := hS_
   obtain ⟨Ao41, co41, eo41⟩ := Kd.R_slice HO176.out
   (first | subst eo41 | (injection eo41 with f1_ f2_ f3_; have f4_ := f1_.symm; have f5_ := f3_.symm; clear f1_ f2_ f3_; subst f4_; subst f5_))
   refine norm_ (a' := ?_) ?_ ?_
   rotate_left
   ·simp only [putAll, Act.put, List.setIfInBounds_toArray, List.set_cons_zero, List.set_cons_succ]
    rfl
   refine one_ (i := 9) (N := none) #[true, true, true, true, true, true, true, true, true, true, false] rfl rfl (one_of HT_.out (by kernel_rfl)) (by decide) (fun K hK => ?_)
   have hs42 : w40.cell? ⟨gb180, 0, none⟩ = some (.slice none 0 0) := (blk_cell BK180.out 0).trans rfl
   have hfs42 := blk_frozen BK180.out 0
   have hns42_0 := NB160_180.out
   have hns42_1 := NB161_180.out
   have hms42_0 := NB180_160.out
   have hms42_1 := NB180_161.out
   have hs43 : w40.cell? ⟨gb180, 1, none⟩ = some (.int .i64 0) := (blk_cell BK180.out 1).trans rfl
   have hfs43 := blk_frozen BK180.out 1
   have hns43_0 := NB160_180.out
   have hns43_1 := NB161_180.out
   have hms43_0 := NB180_160.out
   have hms43_1 := NB180_161.out
   have hs44 : w40.cell? ⟨gb180, 2, none⟩ = some (.int .i64 0) := (blk_cell BK180.out 2).trans rfl
   have hfs44 := blk_frozen BK180.out 2
   have hns44_0 := NB160_180.out
   have hns44_1 := NB161_180.out
   have hms44_0 := NB180_160.out
   have hms44_1 := NB180_161.out
   refine skip_ (w1 := ?_) (by rfl) rfl ?_ ?_
   rotate_left
   ·go_simp
    rfl
   refine hK.out _ _ ⟨((cell_far (p := ⟨gb180, _, none⟩) NB160_180.out _).trans (((cell_far (p := ⟨gb180, _, none⟩) NB160_180.out _).trans (((cell_far (p := ⟨gb180, _, none⟩) NB160_180.out _).trans (hHeld.1)))))), ((cell_far (p := ⟨gb180, _, none⟩) NB160_180.out _).trans (((cell_far (p := ⟨gb180, _, none⟩) NB160_180.out _).trans (((cell_far (p := ⟨gb180, _, none⟩) NB160_180.out _).trans (hHeld.2.1)))))), ((cell_far (p := ⟨gb180, _, none⟩) NB160_180.out _).trans (((cell_far (p := ⟨gb180, _, none⟩) NB160_180.out _).trans (((cell_far (p := ⟨gb180, _, none⟩) NB160_180.out _).trans (hHeld.2.2.1)))))), ((cell_far (p := ⟨gb180, _, none⟩) NB161_180.out _).trans (((cell_far (p := ⟨gb180, _, none⟩) NB161_180.out _).trans (((cell_far (p := ⟨gb180, _, none⟩) NB161_180.out _).trans (hHeld.2.2.2.1)))))), ((cell_far (p := ⟨gb180, _, none⟩) NB161_180.out _).trans (((cell_far (p := ⟨gb180, _, none⟩) NB161_180.out _).trans (((cell_far (p := ⟨gb180, _, none⟩) NB161_180.out _).trans (hHeld.2.2.2.2.1)))))), ((cell_far (p := ⟨gb180, _, none⟩) NB161_180.out _).trans (((cell_far (p := ⟨gb180, _, none⟩) NB161_180.out _).trans (((cell_far (p := ⟨gb180, _, none⟩) NB161_180.out _).trans (hHeld.2.2.2.2.2))))))⟩ (fun hHeld => ?_)
   clear hK K
   refine pure_ (i := 10) (N := some 7) (v := ?_) (a' := ?_) #[true, true, true, true, true, true, true, true, true, true, true] rfl rfl (any_of HT_.out (by kernel_rfl)) (fun _ _ _ h => h) (Or.inl ⟨by rfl, ?_⟩) ?_ ?_
   rotate_left
   ·intro w'
    go_simp
    with_reducible rfl
   rotate_left
   ·simp only [Act.put, List.setIfInBounds_toArray, List.set_cons_zero, List.set_cons_succ, i64_w, i32_w]
    rfl
   refine done_ (done_of HT_.out (by kernel_rfl)) ?_
   have hnb45 := NB160_180.out
   have hnc45 := NB180_160.out
   obtain ⟨hcz46_0, hcz46_1, hcz46_2, hfz46_0, hfz46_1, hfz46_2⟩ := c3 BK160
   go_upto_region 12 with (first | ((with_reducible refine gate_callee (f := 7) rfl ?_); refine goesL_ (some 36) rfl rfl Try.func7 (by kernel_rfl) rfl #[.agg #[.slice A0_0 l0_0.length c0_0, .int .i64 a0_1, .int .i64 a0_2]] rfl ll ?_; (with_reducible refine (laws_toMachine.calls k _ _ l0_0 a0_1 a0_2 t181 t184 t185 _ ?side1 ?side2 A22.out).mono ?_); (case side1 => exact Kd.C_below HR0_0.out bb); (case side2 => exact HC0_0.out); rintro e w47 ⟨v182, rfl, ho0, hb⟩; refine ⟨_, rfl, ?_⟩; have n0_ := Aside0.mk (Kd.R_elder' (rr HO166.out BK180.out) (Kd.R_base ho0) hb); have n1_ := Aside0.mk (Kd.R_elder' (rr HO171.out BK180.out) (Kd.R_base ho0) hb); have n2_ := Aside0.mk (Kd.R_elder' (rr HO176.out BK180.out) (Kd.R_base ho0) hb); have n3_ := Aside0.mk (Kd.R_lower (Kd.R_new' (Kd.R_new' (Kd.R_new' ho0 (Kd.R_lt (rr HO166.out BK180.out))) (Kd.R_lt (rr HO171.out BK180.out))) (Kd.R_lt (rr HO176.out BK180.out))) (below_size bb)); have n4_ := kf NB160_180.out BK160 hb; have n5_ := kf NB161_180.out BK161 hb; have n6_ := Aside0.mk (blk_below (g := gb180) (o := .cells #[.slice Ao41 t174.length co41, .int .i64 t177, .int .i64 t178] 26 (0, 0)) (k3 BK180.out) hb); have n7_ := Aside0.mk (below_step bb hb); clear HO166 HO171 HO176 BK160 BK161 BK180 HB; have HO166 := n0_; have HO171 := n1_; have HO176 := n2_; have HO183 := n3_; have BK160 := n4_; have BK161 := n5_; have BK180 := n6_; have HB := n7_; clear n0_ n1_ n2_ n3_ n4_ n5_ n6_ n7_; (try clear hb); (try clear hb2); (try clear hk); (try clear hi); (try clear ho0)) | ((with_reducible refine gate_dst (N := 8) rfl ?_); refine box_event ?hg (N := 8) ?hd (cs := #[.slice none 0 0, .int .i64 0, .int .i64 0]) (t := 26) ?hr ?_; (case hd => rfl); (case hg => rfl); (case hr => first | (go_simp; done) | (go_simp; rfl)); intro gb186 hg w48 hbox hb; have n0_ := kb HO166 hb; have n1_ := kb HO171 hb; have n2_ := kb HO176 hb; have n3_ := kb HO183 hb; have n4_ := kp BK160 hb; have n5_ := kp BK161 hb; have n6_ := kp BK180 hb; have n7_ := Aside0.mk (below_step bb hb); have n8_ := Aside0.mk (hbox); have n9_ := Aside0.mk ((by rw [hg]; exact (below_size bb) : w.heap.size ≤ gb186)); have n10_ := Aside0.mk ((by rw [hg]; exact (below_size bb) : w.heap.size ≤ gb186)); have n11_ := Aside0.mk (nl BK160 hg); have n12_ := Aside0.mk (nl BK160 hg).symm; have n13_ := Aside0.mk (nl BK161 hg); have n14_ := Aside0.mk (nl BK161 hg).symm; have n15_ := Aside0.mk (nl BK180 hg); have n16_ := Aside0.mk (nl BK180 hg).symm; clear HO166 HO171 HO176 HO183 BK160 BK161 BK180 HB; have HO166 := n0_; have HO171 := n1_; have HO176 := n2_; have HO183 := n3_; have BK160 := n4_; have BK161 := n5_; have BK180 := n6_; have HB := n7_; have BK186 := n8_; have GW186 := n9_; have GE186 := n10_; have NB160_186 := n11_; have NB186_160 := n12_; have NB161_186 := n13_; have NB186_161 := n14_; have NB180_186 := n15_; have NB186_180 := n16_; clear n0_ n1_ n2_ n3_ n4_ n5_ n6_ n7_ n8_ n9_ n10_ n11_ n12_ n13_ n14_ n15_ n16_; clear hb hbox hg; obtain ⟨Ao49, co49, eo49⟩ := Kd.R_slice HO183.out; subst eo49; have hnb50 := NB186_160.out; have hnc50 := NB160_186.out; have hnb51 := NB186_161.out; have hnc51 := NB161_186.out; have hnb52 := NB186_180.out; have hnc52 := NB180_186.out; obtain ⟨hcz53_0, hcz53_1, hcz53_2, hfz53_0, hfz53_1, hfz53_2⟩ := c3 BK186; have hnb54 := NB161_180.out; have hnc54 := NB180_161.out; obtain ⟨hcz55_0, hcz55_1, hcz55_2, hfz55_0, hfz55_1, hfz55_2⟩ := c3 BK161) | ((with_reducible refine gate_callee (f := 7) rfl ?_); refine goesL_ (some 38) rfl rfl Try.func7 (by kernel_rfl) rfl #[.agg #[.slice A1_0 l1_0.length c1_0, .int .i64 a1_1, .int .i64 a1_2]] rfl ll ?_; (with_reducible refine (laws_toMachine.calls k _ _ l1_0 a1_1 a1_2 t187 t190 t191 _ ?side1 ?side2 A23.out).mono ?_); (case side1 => exact Kd.C_below HR1_0.out bb); (case side2 => exact HC1_0.out); rintro e w56 ⟨v188, rfl, ho0, hb⟩; refine ⟨_, rfl, ?_⟩; have n0_ := Aside0.mk (Kd.R_elder' (rr HO166.out BK186.out) (Kd.R_base ho0) hb); have n1_ := Aside0.mk (Kd.R_elder' (rr HO171.out BK186.out) (Kd.R_base ho0) hb); have n2_ := Aside0.mk (Kd.R_elder' (rr HO176.out BK186.out) (Kd.R_base ho0) hb); have n3_ := Aside0.mk (Kd.R_elder' (rr HO183.out BK186.out) (Kd.R_base ho0) hb); have n4_ := Aside0.mk (Kd.R_lower (Kd.R_new' (Kd.R_new' (Kd.R_new' (Kd.R_new' ho0 (Kd.R_lt (rr HO166.out BK186.out))) (Kd.R_lt (rr HO171.out BK186.out))) (Kd.R_lt (rr HO176.out BK186.out))) (Kd.R_lt (rr HO183.out BK186.out))) (below_size bb)); have n5_ := kf NB160_186.out BK160 hb; have n6_ := kf NB161_186.out BK161 hb; have n7_ := kf NB180_186.out BK180 hb; have n8_ := Aside0.mk (blk_below (g := gb186) (o := .cells #[.slice Ao49 t181.length co49, .int .i64 t184, .int .i64 t185] 26 (0, 0)) (k3 BK186.out) hb); have n9_ := Aside0.mk (below_step bb hb); clear HO166 HO171 HO176 HO183 BK160 BK161 BK180 BK186 HB; have HO166 := n0_; have HO171 := n1_; have HO176 := n2_; have HO183 := n3_; have HO189 := n4_; have BK160 := n5_; have BK161 := n6_; have BK180 := n7_; have BK186 := n8_; have HB := n9_; clear n0_ n1_ n2_ n3_ n4_ n5_ n6_ n7_ n8_ n9_; (try clear hb); (try clear hb2); (try clear hk); (try clear hi); (try clear ho0)) | ((with_reducible refine gate_dst (N := 9) rfl ?_); refine box_event ?hg (N := 9) ?hd (cs := #[.slice none 0 0, .int .i64 0, .int .i64 0]) (t := 26) ?hr ?_; (case hd => rfl); (case hg => rfl); (case hr => first | (go_simp; done) | (go_simp; rfl)); intro gb192 hg w57 hbox hb; have n0_ := kb HO166 hb; have n1_ := kb HO171 hb; have n2_ := kb HO176 hb; have n3_ := kb HO183 hb; have n4_ := kb HO189 hb; have n5_ := kp BK160 hb; have n6_ := kp BK161 hb; have n7_ := kp BK180 hb; have n8_ := kp BK186 hb; have n9_ := Aside0.mk (below_step bb hb); have n10_ := Aside0.mk (hbox); have n11_ := Aside0.mk ((by rw [hg]; exact (below_size bb) : w.heap.size ≤ gb192)); have n12_ := Aside0.mk ((by rw [hg]; exact (below_size bb) : w.heap.size ≤ gb192)); have n13_ := Aside0.mk (nl BK160 hg); have n14_ := Aside0.mk (nl BK160 hg).symm; have n15_ := Aside0.mk (nl BK161 hg); have n16_ := Aside0.mk (nl BK161 hg).symm; have n17_ := Aside0.mk (nl BK180 hg); have n18_ := Aside0.mk (nl BK180 hg).symm; have n19_ := Aside0.mk (nl BK186 hg); have n20_ := Aside0.mk (nl BK186 hg).symm; clear HO166 HO171 HO176 HO183 HO189 BK160 BK161 BK180 BK186 HB; have HO166 := n0_; have HO171 := n1_; have HO176 := n2_; have HO183 := n3_; have HO189 := n4_; have BK160 := n5_; have BK161 := n6_; have BK180 := n7_; have BK186 := n8_; have HB := n9_; have BK192 := n10_; have GW192 := n11_; have GE192 := n12_; have NB160_192 := n13_; have NB192_160 := n14_; have NB161_192 := n15_; have NB192_161 := n16_; have NB180_192 := n17_; have NB192_180 := n18_; have NB186_192 := n19_; have NB192_186 := n20_; clear n0_ n1_ n2_ n3_ n4_ n5_ n6_ n7_ n8_ n9_ n10_ n11_ n12_ n13_ n14_ n15_ n16_ n17_ n18_ n19_ n20_; clear hb hbox hg; obtain ⟨Ao58, co58, eo58⟩ := Kd.R_slice HO189.out; subst eo58; have hnb59 := NB192_160.out; have hnc59 := NB160_192.out; have hnb60 := NB192_161.out; have hnc60 := NB161_192.out; have hnb61 := NB192_180.out; have hnc61 := NB180_192.out; have hnb62 := NB192_186.out; have hnc62 := NB186_192.out; obtain ⟨hcz63_0, hcz63_1, hcz63_2, hfz63_0, hfz63_1, hfz63_2⟩ := c3 BK192; obtain ⟨hcz64_0, hcz64_1, hcz64_2, hfz64_0, hfz64_1, hfz64_2⟩ := c3 BK186) | ((with_reducible refine gate_callee (f := 8) rfl ?_); refine goesL_ (some 42) rfl rfl Try.func8 (by kernel_rfl) rfl #[.agg #[.slice Ao49 t181.length co49, .int .i64 t184, .int .i64 t185], .agg #[.slice Ao58 t187.length co58, .int .i64 t190, .int .i64 t191]] rfl ll ?_; (with_reducible refine (impl_MachBoth.calls k _ _ t181 t184 t185 _ _ t187 t190 t191 t193 t196 t197 t198 _ ?side1 ?side2 ?side3 ?side4 A24.out).mono ?_); (case side1 => refine (Kd.R_reads' (e := 3) (base := w.heap.size) (ok := fun k_ => ((((True ∧ some k_ ≠ (v165 : Value).ownBlock) ∧ some k_ ≠ (v170 : Value).ownBlock) ∧ some k_ ≠ (.slice Ao41 t174.length co41 : Value).ownBlock) ∧ some k_ ≠ (.slice Ao58 t187.length co58 : Value).ownBlock)) (n := t181.length) (c := co49) ?_).2.2; exact (rr HO183.out BK192.out)); (case side2 => exact (Kd.R_reads' HO183.out).2.1); (case side3 => refine (Kd.R_reads' (e := 3) (base := w.heap.size) (ok := fun k_ => ((((True ∧ some k_ ≠ (v165 : Value).ownBlock) ∧ some k_ ≠ (v170 : Value).ownBlock) ∧ some k_ ≠ (.slice Ao41 t174.length co41 : Value).ownBlock) ∧ some k_ ≠ (.slice Ao49 t181.length co49 : Value).ownBlock)) (n := t187.length) (c := co58) ?_).2.2; exact (rr HO189.out BK192.out)); (case side4 => exact (Kd.R_reads' HO189.out).2.1); rintro e w65 ⟨v194, rfl, ho0, hb⟩; refine ⟨_, rfl, ?_⟩; have n0_ := Aside0.mk (Kd.R_elder' (rr HO166.out BK192.out) (Kd.R_base ho0) hb); have n1_ := Aside0.mk (Kd.R_elder' (rr HO171.out BK192.out) (Kd.R_base ho0) hb); have n2_ := Aside0.mk (Kd.R_elder' (rr HO176.out BK192.out) (Kd.R_base ho0) hb); have n3_ := Aside0.mk (Kd.R_elder' (rr HO183.out BK192.out) (Kd.R_base ho0) hb); have n4_ := Aside0.mk (Kd.R_elder' (rr HO189.out BK192.out) (Kd.R_base ho0) hb); have n5_ := Aside0.mk (Kd.R_lower (Kd.R_new' (Kd.R_new' (Kd.R_new' (Kd.R_new' (Kd.R_new' ho0 (Kd.R_lt (rr HO166.out BK192.out))) (Kd.R_lt (rr HO171.out BK192.out))) (Kd.R_lt (rr HO176.out BK192.out))) (Kd.R_lt (rr HO183.out BK192.out))) (Kd.R_lt (rr HO189.out BK192.out))) (below_size bb)); have n6_ := kf NB160_192.out BK160 hb; have n7_ := kf NB161_192.out BK161 hb; have n8_ := kf NB180_192.out BK180 hb; have n9_ := kf NB186_192.out BK186 hb; have n10_ := Aside0.mk (blk_below (g := gb192) (o := .cells #[.slice Ao58 t187.length co58, .int .i64 t190, .int .i64 t191] 26 (0, 0)) (k3 BK192.out) hb); have n11_ := Aside0.mk (below_step bb hb); clear HO166 HO171 HO176 HO183 HO189 BK160 BK161 BK180 BK186 BK192 HB; have HO166 := n0_; have HO171 := n1_; have HO176 := n2_; have HO183 := n3_; have HO189 := n4_; have HO195 := n5_; have BK160 := n6_; have BK161 := n7_; have BK180 := n8_; have BK186 := n9_; have BK192 := n10_; have HB := n11_; clear n0_ n1_ n2_ n3_ n4_ n5_ n6_ n7_ n8_ n9_ n10_ n11_; (try clear hb); (try clear hb2); (try clear hk); (try clear hi); (try clear ho0)) | ((with_reducible refine gate_dst (N := 10) rfl ?_); refine box_event ?hg (N := 10) ?hd (cs := #[.slice none 0 0, .int .i64 0, .int .i64 0]) (t := 26) ?hr ?_; (case hd => rfl); (case hg => rfl); (case hr => first | (go_simp; done) | (go_simp; rfl)); intro gb199 hg w66 hbox hb; have n0_ := kb HO166 hb; have n1_ := kb HO171 hb; have n2_ := kb HO176 hb; have n3_ := kb HO183 hb; have n4_ := kb HO189 hb; have n5_ := kb HO195 hb; have n6_ := kp BK160 hb; have n7_ := kp BK161 hb; have n8_ := kp BK180 hb; have n9_ := kp BK186 hb; have n10_ := kp BK192 hb; have n11_ := Aside0.mk (below_step bb hb); have n12_ := Aside0.mk (hbox); have n13_ := Aside0.mk ((by rw [hg]; exact (below_size bb) : w.heap.size ≤ gb199)); have n14_ := Aside0.mk ((by rw [hg]; exact (below_size bb) : w.heap.size ≤ gb199)); have n15_ := Aside0.mk (nl BK160 hg); have n16_ := Aside0.mk (nl BK160 hg).symm; have n17_ := Aside0.mk (nl BK161 hg); have n18_ := Aside0.mk (nl BK161 hg).symm; have n19_ := Aside0.mk (nl BK180 hg); have n20_ := Aside0.mk (nl BK180 hg).symm; have n21_ := Aside0.mk (nl BK186 hg); have n22_ := Aside0.mk (nl BK186 hg).symm; have n23_ := Aside0.mk (nl BK192 hg); have n24_ := Aside0.mk (nl BK192 hg).symm; clear HO166 HO171 HO176 HO183 HO189 HO195 BK160 BK161 BK180 BK186 BK192 HB; have HO166 := n0_; have HO171 := n1_; have HO176 := n2_; have HO183 := n3_; have HO189 := n4_; have HO195 := n5_; have BK160 := n6_; have BK161 := n7_; have BK180 := n8_; have BK186 := n9_; have BK192 := n10_; have HB := n11_; have BK199 := n12_; have GW199 := n13_; have GE199 := n14_; have NB160_199 := n15_; have NB199_160 := n16_; have NB161_199 := n17_; have NB199_161 := n18_; have NB180_199 := n19_; have NB199_180 := n20_; have NB186_199 := n21_; have NB199_186 := n22_; have NB192_199 := n23_; have NB199_192 := n24_; clear n0_ n1_ n2_ n3_ n4_ n5_ n6_ n7_ n8_ n9_ n10_ n11_ n12_ n13_ n14_ n15_ n16_ n17_ n18_ n19_ n20_ n21_ n22_ n23_ n24_; clear hb hbox hg; obtain ⟨Ao67, co67, eo67⟩ := Kd.R_slice HO195.out; subst eo67; have hnb68 := NB199_160.out; have hnc68 := NB160_199.out; have hnb69 := NB199_161.out; have hnc69 := NB161_199.out; have hnb70 := NB199_180.out; have hnc70 := NB180_199.out; have hnb71 := NB199_186.out; have hnc71 := NB186_199.out; have hnb72 := NB199_192.out; have hnc72 := NB192_199.out; obtain ⟨hcz73_0, hcz73_1, hcz73_2, hfz73_0, hfz73_1, hfz73_2⟩ := c3 BK199))
   (try simp only [Act.put, List.setIfInBounds_toArray, List.set_cons_zero, List.set_cons_succ])
   go_cut [53] (fun v53 wc => ∃ (kq : Nat) (x53_24 : Bool), v53 = .bool x53_24 ∧ Aside0 (laws_FnExactMachBoth.j0 kq t179 t198 x53_24 l0_0 a0_1 a0_2 l1_0 a1_1 a1_2 t174 t177 t178 t181 t184 t185 t187 t190 t191 t193 t196 t197 = some r) ∧ Aside0 (kq ≤ k) ∧ Aside0 (Kd.R (Kd.int .i64) 3 wc w.heap.size (fun k_ => some k_ ≠ ((.slice Ao49 t181.length co49) : Value).ownBlock ∧ some k_ ≠ ((.slice Ao58 t187.length co58) : Value).ownBlock ∧ some k_ ≠ ((.slice Ao67 t193.length co67) : Value).ownBlock) (.slice Ao41 t174.length co41) t174) ∧ Aside0 (Kd.R (Kd.int .i64) 3 wc w.heap.size (fun k_ => some k_ ≠ ((.slice Ao41 t174.length co41) : Value).ownBlock ∧ some k_ ≠ ((.slice Ao58 t187.length co58) : Value).ownBlock ∧ some k_ ≠ ((.slice Ao67 t193.length co67) : Value).ownBlock) (.slice Ao49 t181.length co49) t181) ∧ Aside0 (Kd.R (Kd.int .i64) 3 wc w.heap.size (fun k_ => some k_ ≠ ((.slice Ao41 t174.length co41) : Value).ownBlock ∧ some k_ ≠ ((.slice Ao49 t181.length co49) : Value).ownBlock ∧ some k_ ≠ ((.slice Ao67 t193.length co67) : Value).ownBlock) (.slice Ao58 t187.length co58) t187) ∧ Aside0 (Kd.R (Kd.int .i64) 3 wc w.heap.size (fun k_ => some k_ ≠ ((.slice Ao41 t174.length co41) : Value).ownBlock ∧ some k_ ≠ ((.slice Ao49 t181.length co49) : Value).ownBlock ∧ some k_ ≠ ((.slice Ao58 t187.length co58) : Value).ownBlock) (.slice Ao67 t193.length co67) t193) ∧ Aside0 (wc.heap[gb160]? = some (.cells #[(.slice A0_0 l0_0.length c0_0), .int .i64 a0_1, .int .i64 a0_2] 24 (0, 0))) ∧ Aside0 (wc.heap[gb161]? = some (.cells #[(.slice A1_0 l1_0.length c1_0), .int .i64 a1_1, .int .i64 a1_2] 24 (0, 0))) ∧ Aside0 (wc.heap[gb180]? = some (.cells #[(.slice Ao41 t174.length co41), .int .i64 t177, .int .i64 t178] 26 (0, 0))) ∧ Aside0 (wc.heap[gb186]? = some (.cells #[(.slice Ao49 t181.length co49), .int .i64 t184, .int .i64 t185] 26 (0, 0))) ∧ Aside0 (wc.heap[gb192]? = some (.cells #[(.slice Ao58 t187.length co58), .int .i64 t190, .int .i64 t191] 26 (0, 0))) ∧ Aside0 (wc.heap[gb199]? = some (.cells #[(.slice Ao67 t193.length co67), .int .i64 t196, .int .i64 t197] 26 (0, 0))) ∧ Aside0 (Below w.heap.size w wc))
   case first =>
    have H := HC25.out
    clear HC25
    replace H := Option.bind_eq_some_iff.mp H
    obtain ⟨t200, A740, H⟩ := H
    (try dsimp only at H)
    have A74 := Aside0.mk A740
    clear A740
    by_cases c75 : t200 = true
    ·subst c75
     rw [if_pos rfl] at H
     have H' := Aside0.mk H
     clear H
     have hnb76 := NB199_160.out
     have hnc76 := NB160_199.out
     have hnb77 := NB199_161.out
     have hnc77 := NB161_199.out
     have hnb78 := NB199_180.out
     have hnc78 := NB180_199.out
     have hnb79 := NB199_186.out
     have hnc79 := NB186_199.out
     have hnb80 := NB199_192.out
     have hnc80 := NB192_199.out
     obtain ⟨hcz81_0, hcz81_1, hcz81_2, hfz81_0, hfz81_1, hfz81_2⟩ := c3 BK199
     have hnb82 := NB180_160.out
     have hnc82 := NB160_180.out
     have hnb83 := NB180_161.out
     have hnc83 := NB161_180.out
     have hnb84 := NB180_186.out
     have hnc84 := NB186_180.out
     have hnb85 := NB180_192.out
     have hnc85 := NB192_180.out
     obtain ⟨hcz86_0, hcz86_1, hcz86_2, hfz86_0, hfz86_1, hfz86_2⟩ := c3 BK180
     go_wp2_with (first | ((with_reducible refine gate_callee (f := 9) rfl ?_); refine goesL_ (some 47) rfl rfl Try.func9 (by kernel_rfl) rfl #[.agg #[.slice Ao67 t193.length co67, .int .i64 t196, .int .i64 t197], .agg #[.slice Ao41 t174.length co41, .int .i64 t177, .int .i64 t178]] rfl ll ?_; (with_reducible refine (laws_eqMachine.calls k _ _ t193 t196 t197 _ _ t174 t177 t178 true _ ?side1 ?side2 ?side3 ?side4 A74.out).mono ?_); (case side1 => refine (Kd.R_reads' (e := 3) (base := w.heap.size) (ok := fun k_ => (((((True ∧ some k_ ≠ (v165 : Value).ownBlock) ∧ some k_ ≠ (v170 : Value).ownBlock) ∧ some k_ ≠ (.slice Ao41 t174.length co41 : Value).ownBlock) ∧ some k_ ≠ (.slice Ao49 t181.length co49 : Value).ownBlock) ∧ some k_ ≠ (.slice Ao58 t187.length co58 : Value).ownBlock)) (n := t193.length) (c := co67) ?_).2.2; exact (rr HO195.out BK199.out)); (case side2 => exact (Kd.R_reads' HO195.out).2.1); (case side3 => refine (Kd.R_reads' (e := 3) (base := w.heap.size) (ok := fun k_ => ((((some k_ ≠ (v165 : Value).ownBlock ∧ some k_ ≠ (v170 : Value).ownBlock) ∧ some k_ ≠ (.slice Ao49 t181.length co49 : Value).ownBlock) ∧ some k_ ≠ (.slice Ao58 t187.length co58 : Value).ownBlock) ∧ some k_ ≠ (.slice Ao67 t193.length co67 : Value).ownBlock)) (n := t174.length) (c := co41) ?_).2.2; exact (rr HO176.out BK199.out)); (case side4 => exact (Kd.R_reads' HO176.out).2.1); rintro e w87 ⟨rfl, hb⟩; refine ⟨_, rfl, ?_⟩; have n0_ := Aside0.mk (Kd.R_below (rr HO166.out BK199.out) hb); have n1_ := Aside0.mk (Kd.R_below (rr HO171.out BK199.out) hb); have n2_ := Aside0.mk (Kd.R_below (rr HO176.out BK199.out) hb); have n3_ := Aside0.mk (Kd.R_below (rr HO183.out BK199.out) hb); have n4_ := Aside0.mk (Kd.R_below (rr HO189.out BK199.out) hb); have n5_ := Aside0.mk (Kd.R_below (rr HO195.out BK199.out) hb); have n6_ := kf NB160_199.out BK160 hb; have n7_ := kf NB161_199.out BK161 hb; have n8_ := kf NB180_199.out BK180 hb; have n9_ := kf NB186_199.out BK186 hb; have n10_ := kf NB192_199.out BK192 hb; have n11_ := Aside0.mk (blk_below (g := gb199) (o := .cells #[.slice Ao67 t193.length co67, .int .i64 t196, .int .i64 t197] 26 (0, 0)) (k3 BK199.out) hb); have n12_ := Aside0.mk (below_step bb hb); clear HO166 HO171 HO176 HO183 HO189 HO195 BK160 BK161 BK180 BK186 BK192 BK199 HB; have HO166 := n0_; have HO171 := n1_; have HO176 := n2_; have HO183 := n3_; have HO189 := n4_; have HO195 := n5_; have BK160 := n6_; have BK161 := n7_; have BK180 := n8_; have BK186 := n9_; have BK192 := n10_; have BK199 := n11_; have HB := n12_; clear n0_ n1_ n2_ n3_ n4_ n5_ n6_ n7_ n8_ n9_ n10_ n11_ n12_; (try clear hb); (try clear hb2); (try clear hk); (try clear hi)))
     go_meet
     case rel => exact ⟨_, ((t198 != t179)), (by first | rfl | (simp; done) | (simp [*]; done) | (simp only [IntKind.wrap_i64, wrap64]; done)), H', ⟨by first | omega | exact Nat.le_refl _⟩, ⟨rm HO176.out (fun _ hk => ⟨hk.1.1.2, ⟨hk.1.2, hk.2⟩⟩)⟩, ⟨rm HO183.out (fun _ hk => ⟨hk.1.1.2, ⟨hk.1.2, hk.2⟩⟩)⟩, ⟨rm HO189.out (fun _ hk => ⟨hk.1.1.2, ⟨hk.1.2, hk.2⟩⟩)⟩, ⟨rm HO195.out (fun _ hk => ⟨hk.1.1.2, ⟨hk.1.2, hk.2⟩⟩)⟩, ⟨rc BK160.out⟩, ⟨rc BK161.out⟩, ⟨rc BK180.out⟩, ⟨rc BK186.out⟩, ⟨rc BK192.out⟩, ⟨rc BK199.out⟩, ⟨bb⟩⟩
    ·replace c75 := Bool.eq_false_iff.mpr c75
     subst c75
     rw [if_neg (show ¬ (false = true) by decide)] at H
     have H' := Aside0.mk H
     clear H
     have hnb88 := NB199_160.out
     have hnc88 := NB160_199.out
     have hnb89 := NB199_161.out
     have hnc89 := NB161_199.out
     have hnb90 := NB199_180.out
     have hnc90 := NB180_199.out
     have hnb91 := NB199_186.out
     have hnc91 := NB186_199.out
     have hnb92 := NB199_192.out
     have hnc92 := NB192_199.out
     obtain ⟨hcz93_0, hcz93_1, hcz93_2, hfz93_0, hfz93_1, hfz93_2⟩ := c3 BK199
     have hnb94 := NB180_160.out
     have hnc94 := NB160_180.out
     have hnb95 := NB180_161.out
     have hnc95 := NB161_180.out
     have hnb96 := NB180_186.out
     have hnc96 := NB186_180.out
     have hnb97 := NB180_192.out
     have hnc97 := NB192_180.out
     obtain ⟨hcz98_0, hcz98_1, hcz98_2, hfz98_0, hfz98_1, hfz98_2⟩ := c3 BK180
     go_wp2_with (first | ((with_reducible refine gate_callee (f := 9) rfl ?_); refine goesL_ (some 47) rfl rfl Try.func9 (by kernel_rfl) rfl #[.agg #[.slice Ao67 t193.length co67, .int .i64 t196, .int .i64 t197], .agg #[.slice Ao41 t174.length co41, .int .i64 t177, .int .i64 t178]] rfl ll ?_; (with_reducible refine (laws_eqMachine.calls k _ _ t193 t196 t197 _ _ t174 t177 t178 false _ ?side1 ?side2 ?side3 ?side4 A74.out).mono ?_); (case side1 => refine (Kd.R_reads' (e := 3) (base := w.heap.size) (ok := fun k_ => (((((True ∧ some k_ ≠ (v165 : Value).ownBlock) ∧ some k_ ≠ (v170 : Value).ownBlock) ∧ some k_ ≠ (.slice Ao41 t174.length co41 : Value).ownBlock) ∧ some k_ ≠ (.slice Ao49 t181.length co49 : Value).ownBlock) ∧ some k_ ≠ (.slice Ao58 t187.length co58 : Value).ownBlock)) (n := t193.length) (c := co67) ?_).2.2; exact (rr HO195.out BK199.out)); (case side2 => exact (Kd.R_reads' HO195.out).2.1); (case side3 => refine (Kd.R_reads' (e := 3) (base := w.heap.size) (ok := fun k_ => ((((some k_ ≠ (v165 : Value).ownBlock ∧ some k_ ≠ (v170 : Value).ownBlock) ∧ some k_ ≠ (.slice Ao49 t181.length co49 : Value).ownBlock) ∧ some k_ ≠ (.slice Ao58 t187.length co58 : Value).ownBlock) ∧ some k_ ≠ (.slice Ao67 t193.length co67 : Value).ownBlock)) (n := t174.length) (c := co41) ?_).2.2; exact (rr HO176.out BK199.out)); (case side4 => exact (Kd.R_reads' HO176.out).2.1); rintro e w99 ⟨rfl, hb⟩; refine ⟨_, rfl, ?_⟩; have n0_ := Aside0.mk (Kd.R_below (rr HO166.out BK199.out) hb); have n1_ := Aside0.mk (Kd.R_below (rr HO171.out BK199.out) hb); have n2_ := Aside0.mk (Kd.R_below (rr HO176.out BK199.out) hb); have n3_ := Aside0.mk (Kd.R_below (rr HO183.out BK199.out) hb); have n4_ := Aside0.mk (Kd.R_below (rr HO189.out BK199.out) hb); have n5_ := Aside0.mk (Kd.R_below (rr HO195.out BK199.out) hb); have n6_ := kf NB160_199.out BK160 hb; have n7_ := kf NB161_199.out BK161 hb; have n8_ := kf NB180_199.out BK180 hb; have n9_ := kf NB186_199.out BK186 hb; have n10_ := kf NB192_199.out BK192 hb; have n11_ := Aside0.mk (blk_below (g := gb199) (o := .cells #[.slice Ao67 t193.length co67, .int .i64 t196, .int .i64 t197] 26 (0, 0)) (k3 BK199.out) hb); have n12_ := Aside0.mk (below_step bb hb); clear HO166 HO171 HO176 HO183 HO189 HO195 BK160 BK161 BK180 BK186 BK192 BK199 HB; have HO166 := n0_; have HO171 := n1_; have HO176 := n2_; have HO183 := n3_; have HO189 := n4_; have HO195 := n5_; have BK160 := n6_; have BK161 := n7_; have BK180 := n8_; have BK186 := n9_; have BK192 := n10_; have BK199 := n11_; have HB := n12_; clear n0_ n1_ n2_ n3_ n4_ n5_ n6_ n7_ n8_ n9_ n10_ n11_ n12_; (try clear hb); (try clear hb2); (try clear hk); (try clear hi)))
     go_meet
     case rel => exact ⟨_, (true), (by first | rfl | (simp; done) | (simp [*]; done) | (simp only [IntKind.wrap_i64, wrap64]; done)), H', ⟨by first | omega | exact Nat.le_refl _⟩, ⟨rm HO176.out (fun _ hk => ⟨hk.1.1.2, ⟨hk.1.2, hk.2⟩⟩)⟩, ⟨rm HO183.out (fun _ hk => ⟨hk.1.1.2, ⟨hk.1.2, hk.2⟩⟩)⟩, ⟨rm HO189.out (fun _ hk => ⟨hk.1.1.2, ⟨hk.1.2, hk.2⟩⟩)⟩, ⟨rm HO195.out (fun _ hk => ⟨hk.1.1.2, ⟨hk.1.2, hk.2⟩⟩)⟩, ⟨rc BK160.out⟩, ⟨rc BK161.out⟩, ⟨rc BK180.out⟩, ⟨rc BK186.out⟩, ⟨rc BK192.out⟩, ⟨rc BK199.out⟩, ⟨bb⟩⟩
   case rest =>
    clear HC25
    (try clear c1); (try clear p2); (try clear c4); (try clear c5); (try clear c6); (try clear c7); (try clear c8); (try clear c9); (try clear c45); (try clear c50); (try clear c51); (try clear c52); (try clear c54); (try clear c59); (try clear c60); (try clear c61); (try clear c62); (try clear c68); (try clear c69); (try clear c70); (try clear c71); (try clear c72); (try clear c75); (try clear c76); (try clear c77); (try clear c78); (try clear c79); (try clear c80); (try clear c82); (try clear c83); (try clear c84); (try clear c85); (try clear c88); (try clear c89); (try clear c90); (try clear c91); (try clear c92); (try clear c94); (try clear c95); (try clear c96); (try clear c97); (try clear hcz46_0); (try clear hcz46_1); (try clear hcz46_2); (try clear hcz53_0); (try clear hcz53_1); (try clear hcz53_2); (try clear hcz55_0); (try clear hcz55_1); (try clear hcz55_2); (try clear hcz63_0); (try clear hcz63_1); (try clear hcz63_2); (try clear hcz64_0); (try clear hcz64_1); (try clear hcz64_2); (try clear hcz73_0); (try clear hcz73_1); (try clear hcz73_2); (try clear hcz81_0); (try clear hcz81_1); (try clear hcz81_2); (try clear hcz86_0); (try clear hcz86_1); (try clear hcz86_2); (try clear hcz93_0); (try clear hcz93_1); (try clear hcz93_2); (try clear hcz98_0); (try clear hcz98_1); (try clear hcz98_2); (try clear hfz46_0); (try clear hfz46_1); (try clear hfz46_2); (try clear hfz53_0); (try clear hfz53_1); (try clear hfz53_2); (try clear hfz55_0); (try clear hfz55_1); (try clear hfz55_2); (try clear hfz63_0); (try clear hfz63_1); (try clear hfz63_2); (try clear hfz64_0); (try clear hfz64_1); (try clear hfz64_2); (try clear hfz73_0); (try clear hfz73_1); (try clear hfz73_2); (try clear hfz81_0); (try clear hfz81_1); (try clear hfz81_2); (try clear hfz86_0); (try clear hfz86_1); (try clear hfz86_2); (try clear hfz93_0); (try clear hfz93_1); (try clear hfz93_2); (try clear hfz98_0); (try clear hfz98_1); (try clear hfz98_2)
    obtain ⟨kq, x53_24, rfl, HA, HJ24, HO_181000, HO_187000, HO_193000, HO_200000, BK160, BK161, BK180, BK186, BK192, BK199, HB⟩ := hcut
    cases kq with
    | zero => exact absurd HA.out (by simp [laws_FnExactMachBoth.j0])
    | succ kj24 =>
     have H := HA.out
     clear HA
     simp only [laws_FnExactMachBoth.j0] at H
     by_cases c100 : x53_24 = true
     ·subst c100
      rw [if_pos rfl] at H
      obtain rfl := Option.some.inj H
      go_wp2
      go_ret
      exact ⟨by first | rfl | (simp [errW_none, errW_some] <;> rfl) | (simp [*, errW_none, errW_some] <;> rfl), bb⟩
     ·replace c100 := Bool.eq_false_iff.mpr c100
      subst c100
      rw [if_neg (show ¬ (false = true) by decide)] at H
      replace H := Option.bind_eq_some_iff.mp H
      obtain ⟨⟨t201, t204, t205⟩, A1010, H⟩ := H
      (try dsimp only at H)
      have A101 := Aside0.mk A1010
      clear A1010
      replace H := Option.bind_eq_some_iff.mp H
      obtain ⟨t206, A1020, H⟩ := H
      (try dsimp only at H)
      have A102 := Aside0.mk A1020
      clear A1020
      by_cases c103 : t206 = true
      ·subst c103
       rw [if_pos rfl] at H
       replace H := Option.bind_eq_some_iff.mp H
       obtain ⟨⟨t207, t210, t211⟩, A1040, H⟩ := H
       (try dsimp only at H)
       have A104 := Aside0.mk A1040
       clear A1040
       replace H := Option.bind_eq_some_iff.mp H
       obtain ⟨t212, A1050, H⟩ := H
       (try dsimp only at H)
       have A105 := Aside0.mk A1050
       clear A1050
       by_cases c106 : t212 = true
       ·subst c106
        rw [if_pos rfl] at H
        replace H := Option.bind_eq_some_iff.mp H
        obtain ⟨⟨t213, t214⟩, A1070, H⟩ := H
        (try dsimp only at H)
        have A107 := Aside0.mk A1070
        clear A1070
        replace H := Option.bind_eq_some_iff.mp H
        obtain ⟨⟨t215, t216⟩, A1080, H⟩ := H
        (try dsimp only at H)
        have A108 := Aside0.mk A1080
        clear A1080
        have HC109 := Aside0.mk H
        clear H
        try go_wp2
        have n0_ := Aside0.mk (Kd.R_drew HO_181000.out)
        have n1_ := Aside0.mk (Kd.R_drew HO_187000.out)
        have n2_ := Aside0.mk (Kd.R_drew HO_193000.out)
        have n3_ := Aside0.mk (Kd.R_drew HO_200000.out)
        have n4_ := Aside0.mk (blk_drew BK160.out)
        have n5_ := Aside0.mk (blk_drew BK161.out)
        have n6_ := Aside0.mk (blk_drew BK180.out)
        have n7_ := Aside0.mk (blk_drew BK186.out)
        have n8_ := Aside0.mk (blk_drew BK192.out)
        have n9_ := Aside0.mk (blk_drew BK199.out)
        have n10_ := Aside0.mk (below_drew1 HB.out)
        clear HO_181000 HO_187000 HO_193000 HO_200000 BK160 BK161 BK180 BK186 BK192 BK199 HB
        have HO_181000 := n0_
        have HO_187000 := n1_
        have HO_193000 := n2_
        have HO_200000 := n3_
        have BK160 := n4_
        have BK161 := n5_
        have BK180 := n6_
        have BK186 := n7_
        have BK192 := n8_
        have BK199 := n9_
        have HB := n10_
        clear n0_ n1_ n2_ n3_ n4_ n5_ n6_ n7_ n8_ n9_ n10_
        refine start_ (n := 5) (S := fun w' => w'.cell? ⟨gb186, 0, none⟩ = some (.slice Ao49 t181.length co49) ∧ w'.cell? ⟨gb186, 1, none⟩ = some (.int .i64 t184) ∧ w'.cell? ⟨gb186, 2, none⟩ = some (.int .i64 t185) ∧ w'.cell? ⟨gb160, 0, none⟩ = some (.slice A0_0 l0_0.length c0_0) ∧ w'.cell? ⟨gb160, 1, none⟩ = some (.int .i64 a0_1) ∧ w'.cell? ⟨gb160, 2, none⟩ = some (.int .i64 a0_2)) (ds := []) #[false, false, false, false, false] (by kernel_rfl) rfl rfl ⟨(blk_cell BK186.out 0).trans rfl, (blk_cell BK186.out 1).trans rfl, (blk_cell BK186.out 2).trans rfl, (blk_cell BK160.out 0).trans rfl, (blk_cell BK160.out 1).trans rfl, (blk_cell BK160.out 2).trans rfl⟩ (fun hHeld => ?_)
        generalize wc.drew = w110 at HO_181000 HO_187000 HO_193000 HO_200000 BK160 BK161 BK180 BK186 BK192 BK199 HB hHeld ⊢
        refine take_ (i := 0) (N := some 54) (v := ?_) (a' := ?_) #[true, false, false, false, false] rfl rfl (by kernel_rfl) (fun _ _ _ h => h) (Or.inl ⟨by rfl, ?_⟩) hHeld ?_ ?_
        rotate_left
        ·rintro w' ⟨s0, s1, s2, s3, s4, s5⟩
         go_simp
         with_reducible rfl
        rotate_left
        ·simp only [Act.put, List.setIfInBounds_toArray, List.set_cons_zero, List.set_cons_succ, i64_w, i32_w]
         rfl
        refine take_ (i := 1) (N := some 55) (v := ?_) (a' := ?_) #[true, true, false, false, false] rfl rfl (by kernel_rfl) (fun _ _ _ h => h) (Or.inl ⟨by rfl, ?_⟩) hHeld ?_ ?_
        rotate_left
        ·rintro w' ⟨s0, s1, s2, s3, s4, s5⟩
         go_simp
         with_reducible rfl
        rotate_left
        ·simp only [Act.put, List.setIfInBounds_toArray, List.set_cons_zero, List.set_cons_succ, i64_w, i32_w]
         rfl
        refine one_ (i := 2) (N := some 56) #[true, true, true, false, false] rfl rfl (by kernel_rfl) (by decide) (fun K hK => ?_)
        refine goes_ Try.func7 (by kernel_rfl) rfl #[.agg #[.slice A0_0 l0_0.length c0_0, .int .i64 a0_1, .int .i64 a0_2]] (by rfl) rfl rfl ll ?_
        with_reducible refine (laws_toMachine.calls kj24 _ _ l0_0 a0_1 a0_2 t201 t204 t205 _ ?side1 ?side2 A101.out).mono ?_
        (case side1 => repeat (first | exact (Kd.C_below HR0_0.out HB.out) | (with_reducible refine Kd.C_alloc ?_ _) | (with_reducible refine Kd.C_drewN ?_ _) | (with_reducible refine Kd.C_drew ?_)))
        (case side2 => exact HC0_0.out)
        rintro e w111 ⟨v202, rfl, ho0, hb⟩
        refine ⟨_, rfl, ?_⟩
        have n0_ := ke HO_181000 ho0 hb
        have n1_ := ke HO_187000 ho0 hb
        have n2_ := ke HO_193000 ho0 hb
        have n3_ := ke HO_200000 ho0 hb
        have n4_ := Aside0.mk (Kd.R_lower (Kd.R_new' (Kd.R_new' (Kd.R_new' (Kd.R_new' ho0 (Kd.R_lt (ra HO_181000.out))) (Kd.R_lt (ra HO_187000.out))) (Kd.R_lt (ra HO_193000.out))) (Kd.R_lt (ra HO_200000.out))) (below_size bb))
        have n5_ := kp BK160 hb
        have n6_ := kp BK161 hb
        have n7_ := kp BK180 hb
        have n8_ := kp BK186 hb
        have n9_ := kp BK192 hb
        have n10_ := kp BK199 hb
        have n11_ := Aside0.mk (below_step bb hb)
        clear HO_181000 HO_187000 HO_193000 HO_200000 BK160 BK161 BK180 BK186 BK192 BK199 HB
        have HO_181000 := n0_
        have HO_187000 := n1_
        have HO_193000 := n2_
        have HO_200000 := n3_
        have HO203 := n4_
        have BK160 := n5_
        have BK161 := n6_
        have BK180 := n7_
        have BK186 := n8_
        have BK192 := n9_
        have BK199 := n10_
        have HB := n11_
        clear n0_ n1_ n2_ n3_ n4_ n5_ n6_ n7_ n8_ n9_ n10_ n11_
        (try clear hb)
        (try clear hb2)
        (try clear hk)
        (try clear hi)
        (try clear ho0)
        obtain ⟨Ao112, co112, eo112⟩ := Kd.R_slice HO203.out
        (first | subst eo112 | (injection eo112 with f1_ f2_ f3_; have f4_ := f1_.symm; have f5_ := f3_.symm; clear f1_ f2_ f3_; subst f4_; subst f5_))
        refine hK.out _ _ ⟨(blk_cell BK186.out 0).trans rfl, (blk_cell BK186.out 1).trans rfl, (blk_cell BK186.out 2).trans rfl, (blk_cell BK160.out 0).trans rfl, (blk_cell BK160.out 1).trans rfl, (blk_cell BK160.out 2).trans rfl⟩ (fun hHeld => ?_)
        clear hK K
        refine norm_ (a' := ?_) ?_ ?_
        rotate_left
        ·show Act.put _ (some 56) _ = _
         simp only [Act.put, List.setIfInBounds_toArray, List.set_cons_zero, List.set_cons_succ, i64_w, i32_w]
         rfl
        refine one_ (i := 3) (N := some 57) #[true, true, true, true, false] rfl rfl (by kernel_rfl) (by decide) (fun K hK => ?_)
        refine goes_ Try.func9 (by kernel_rfl) rfl #[.agg #[.slice Ao49 t181.length co49, .int .i64 t184, .int .i64 t185], .agg #[.slice Ao112 t201.length co112, .int .i64 t204, .int .i64 t205]] (by rfl) rfl rfl ll ?_
        with_reducible refine (laws_eqMachine.calls kj24 _ _ t181 t184 t185 _ _ t201 t204 t205 true _ ?side1 ?side2 ?side3 ?side4 A102.out).mono ?_
        (case side1 => repeat (first | exact (Kd.R_reads' HO_187000.out).2.2 | (with_reducible refine Kd.C_alloc ?_ _) | (with_reducible refine Kd.C_drewN ?_ _) | (with_reducible refine Kd.C_drew ?_)))
        (case side2 => exact (Kd.R_reads' HO_187000.out).2.1)
        (case side3 => repeat (first | exact (Kd.R_reads' HO203.out).2.2 | (with_reducible refine Kd.C_alloc ?_ _) | (with_reducible refine Kd.C_drewN ?_ _) | (with_reducible refine Kd.C_drew ?_)))
        (case side4 => exact (Kd.R_reads' HO203.out).2.1)
        rintro e w113 ⟨rfl, hb⟩
        refine ⟨_, rfl, ?_⟩
        have n0_ := kb HO_181000 hb
        have n1_ := kb HO_187000 hb
        have n2_ := kb HO_193000 hb
        have n3_ := kb HO_200000 hb
        have n4_ := kb HO203 hb
        have n5_ := kp BK160 hb
        have n6_ := kp BK161 hb
        have n7_ := kp BK180 hb
        have n8_ := kp BK186 hb
        have n9_ := kp BK192 hb
        have n10_ := kp BK199 hb
        have n11_ := Aside0.mk (below_step bb hb)
        clear HO_181000 HO_187000 HO_193000 HO_200000 HO203 BK160 BK161 BK180 BK186 BK192 BK199 HB
        have HO_181000 := n0_
        have HO_187000 := n1_
        have HO_193000 := n2_
        have HO_200000 := n3_
        have HO203 := n4_
        have BK160 := n5_
        have BK161 := n6_
        have BK180 := n7_
        have BK186 := n8_
        have BK192 := n9_
        have BK199 := n10_
        have HB := n11_
        clear n0_ n1_ n2_ n3_ n4_ n5_ n6_ n7_ n8_ n9_ n10_ n11_
        (try clear hb)
        (try clear hb2)
        (try clear hk)
        (try clear hi)
        refine hK.out _ _ ⟨(blk_cell BK186.out 0).trans rfl, (blk_cell BK186.out 1).trans rfl, (blk_cell BK186.out 2).trans rfl, (blk_cell BK160.out 0).trans rfl, (blk_cell BK160.out 1).trans rfl, (blk_cell BK160.out 2).trans rfl⟩ (fun hHeld => ?_)
        clear hK K
        refine norm_ (a' := ?_) ?_ ?_
        rotate_left
        ·show Act.put _ (some 57) _ = _
         simp only [Act.put, List.setIfInBounds_toArray, List.set_cons_zero, List.set_cons_succ, i64_w, i32_w]
         rfl
        refine pure_ (i := 4) (N := some 58) (v := ?_) (a' := ?_) #[true, true, true, true, true] rfl rfl (by kernel_rfl) (fun _ _ _ h => h) (Or.inl ⟨by rfl, ?_⟩) ?_ ?_
        rotate_left
        ·intro w'
         go_simp
         with_reducible rfl
        rotate_left
        ·simp only [Act.put, List.setIfInBounds_toArray, List.set_cons_zero, List.set_cons_succ, i64_w, i32_w]
         rfl
        refine done_ (by kernel_rfl) ?_
        try go_wp2
        have n0_ := Aside0.mk (Kd.R_drew HO_181000.out)
        have n1_ := Aside0.mk (Kd.R_drew HO_187000.out)
        have n2_ := Aside0.mk (Kd.R_drew HO_193000.out)
        have n3_ := Aside0.mk (Kd.R_drew HO_200000.out)
        have n4_ := Aside0.mk (Kd.R_drew HO203.out)
        have n5_ := Aside0.mk (blk_drew BK160.out)
        have n6_ := Aside0.mk (blk_drew BK161.out)
        have n7_ := Aside0.mk (blk_drew BK180.out)
        have n8_ := Aside0.mk (blk_drew BK186.out)
        have n9_ := Aside0.mk (blk_drew BK192.out)
        have n10_ := Aside0.mk (blk_drew BK199.out)
        have n11_ := Aside0.mk (below_drew1 HB.out)
        clear HO_181000 HO_187000 HO_193000 HO_200000 HO203 BK160 BK161 BK180 BK186 BK192 BK199 HB
        have HO_181000 := n0_
        have HO_187000 := n1_
        have HO_193000 := n2_
        have HO_200000 := n3_
        have HO203 := n4_
        have BK160 := n5_
        have BK161 := n6_
        have BK180 := n7_
        have BK186 := n8_
        have BK192 := n9_
        have BK199 := n10_
        have HB := n11_
        clear n0_ n1_ n2_ n3_ n4_ n5_ n6_ n7_ n8_ n9_ n10_ n11_
        refine start_ (n := 5) (S := fun w' => w'.cell? ⟨gb192, 0, none⟩ = some (.slice Ao58 t187.length co58) ∧ w'.cell? ⟨gb192, 1, none⟩ = some (.int .i64 t190) ∧ w'.cell? ⟨gb192, 2, none⟩ = some (.int .i64 t191) ∧ w'.cell? ⟨gb161, 0, none⟩ = some (.slice A1_0 l1_0.length c1_0) ∧ w'.cell? ⟨gb161, 1, none⟩ = some (.int .i64 a1_1) ∧ w'.cell? ⟨gb161, 2, none⟩ = some (.int .i64 a1_2)) (ds := []) #[false, false, false, false, false] (by kernel_rfl) rfl rfl ⟨(blk_cell BK192.out 0).trans rfl, (blk_cell BK192.out 1).trans rfl, (blk_cell BK192.out 2).trans rfl, (blk_cell BK161.out 0).trans rfl, (blk_cell BK161.out 1).trans rfl, (blk_cell BK161.out 2).trans rfl⟩ (fun hHeld => ?_)
        generalize w113.drew = w114 at HO_181000 HO_187000 HO_193000 HO_200000 HO203 BK160 BK161 BK180 BK186 BK192 BK199 HB hHeld ⊢
        refine take_ (i := 0) (N := some 59) (v := ?_) (a' := ?_) #[true, false, false, false, false] rfl rfl (by kernel_rfl) (fun _ _ _ h => h) (Or.inl ⟨by rfl, ?_⟩) hHeld ?_ ?_
        rotate_left
        ·rintro w' ⟨s0, s1, s2, s3, s4, s5⟩
         go_simp
         with_reducible rfl
        rotate_left
        ·simp only [Act.put, List.setIfInBounds_toArray, List.set_cons_zero, List.set_cons_succ, i64_w, i32_w]
         rfl
        refine take_ (i := 1) (N := some 60) (v := ?_) (a' := ?_) #[true, true, false, false, false] rfl rfl (by kernel_rfl) (fun _ _ _ h => h) (Or.inl ⟨by rfl, ?_⟩) hHeld ?_ ?_
        rotate_left
        ·rintro w' ⟨s0, s1, s2, s3, s4, s5⟩
         go_simp
         with_reducible rfl
        rotate_left
        ·simp only [Act.put, List.setIfInBounds_toArray, List.set_cons_zero, List.set_cons_succ, i64_w, i32_w]
         rfl
        refine one_ (i := 2) (N := some 61) #[true, true, true, false, false] rfl rfl (by kernel_rfl) (by decide) (fun K hK => ?_)
        refine goes_ Try.func7 (by kernel_rfl) rfl #[.agg #[.slice A1_0 l1_0.length c1_0, .int .i64 a1_1, .int .i64 a1_2]] (by rfl) rfl rfl ll ?_
        with_reducible refine (laws_toMachine.calls kj24 _ _ l1_0 a1_1 a1_2 t207 t210 t211 _ ?side1 ?side2 A104.out).mono ?_
        (case side1 => repeat (first | exact (Kd.C_below HR1_0.out HB.out) | (with_reducible refine Kd.C_alloc ?_ _) | (with_reducible refine Kd.C_drewN ?_ _) | (with_reducible refine Kd.C_drew ?_)))
        (case side2 => exact HC1_0.out)
        rintro e w115 ⟨v208, rfl, ho0, hb⟩
        refine ⟨_, rfl, ?_⟩
        have n0_ := ke HO_181000 ho0 hb
        have n1_ := ke HO_187000 ho0 hb
        have n2_ := ke HO_193000 ho0 hb
        have n3_ := ke HO_200000 ho0 hb
        have n4_ := ke HO203 ho0 hb
        have n5_ := Aside0.mk (Kd.R_lower (Kd.R_new' (Kd.R_new' (Kd.R_new' (Kd.R_new' (Kd.R_new' ho0 (Kd.R_lt (ra HO_181000.out))) (Kd.R_lt (ra HO_187000.out))) (Kd.R_lt (ra HO_193000.out))) (Kd.R_lt (ra HO_200000.out))) (Kd.R_lt (ra HO203.out))) (below_size bb))
        have n6_ := kp BK160 hb
        have n7_ := kp BK161 hb
        have n8_ := kp BK180 hb
        have n9_ := kp BK186 hb
        have n10_ := kp BK192 hb
        have n11_ := kp BK199 hb
        have n12_ := Aside0.mk (below_step bb hb)
        clear HO_181000 HO_187000 HO_193000 HO_200000 HO203 BK160 BK161 BK180 BK186 BK192 BK199 HB
        have HO_181000 := n0_
        have HO_187000 := n1_
        have HO_193000 := n2_
        have HO_200000 := n3_
        have HO203 := n4_
        have HO209 := n5_
        have BK160 := n6_
        have BK161 := n7_
        have BK180 := n8_
        have BK186 := n9_
        have BK192 := n10_
        have BK199 := n11_
        have HB := n12_
        clear n0_ n1_ n2_ n3_ n4_ n5_ n6_ n7_ n8_ n9_ n10_ n11_ n12_
        (try clear hb)
        (try clear hb2)
        (try clear hk)
        (try clear hi)
        (try clear ho0)
        obtain ⟨Ao116, co116, eo116⟩ := Kd.R_slice HO209.out
        (first | subst eo116 | (injection eo116 with f1_ f2_ f3_; have f4_ := f1_.symm; have f5_ := f3_.symm; clear f1_ f2_ f3_; subst f4_; subst f5_))
        refine hK.out _ _ ⟨(blk_cell BK192.out 0).trans rfl, (blk_cell BK192.out 1).trans rfl, (blk_cell BK192.out 2).trans rfl, (blk_cell BK161.out 0).trans rfl, (blk_cell BK161.out 1).trans rfl, (blk_cell BK161.out 2).trans rfl⟩ (fun hHeld => ?_)
        clear hK K
        refine norm_ (a' := ?_) ?_ ?_
        rotate_left
        ·show Act.put _ (some 61) _ = _
         simp only [Act.put, List.setIfInBounds_toArray, List.set_cons_zero, List.set_cons_succ, i64_w, i32_w]
         rfl
        refine one_ (i := 3) (N := some 62) #[true, true, true, true, false] rfl rfl (by kernel_rfl) (by decide) (fun K hK => ?_)
        refine goes_ Try.func9 (by kernel_rfl) rfl #[.agg #[.slice Ao58 t187.length co58, .int .i64 t190, .int .i64 t191], .agg #[.slice Ao116 t207.length co116, .int .i64 t210, .int .i64 t211]] (by rfl) rfl rfl ll ?_
        with_reducible refine (laws_eqMachine.calls kj24 _ _ t187 t190 t191 _ _ t207 t210 t211 true _ ?side1 ?side2 ?side3 ?side4 A105.out).mono ?_
        (case side1 => repeat (first | exact (Kd.R_reads' HO_193000.out).2.2 | (with_reducible refine Kd.C_alloc ?_ _) | (with_reducible refine Kd.C_drewN ?_ _) | (with_reducible refine Kd.C_drew ?_)))
        (case side2 => exact (Kd.R_reads' HO_193000.out).2.1)
        (case side3 => repeat (first | exact (Kd.R_reads' HO209.out).2.2 | (with_reducible refine Kd.C_alloc ?_ _) | (with_reducible refine Kd.C_drewN ?_ _) | (with_reducible refine Kd.C_drew ?_)))
        (case side4 => exact (Kd.R_reads' HO209.out).2.1)
        rintro e w117 ⟨rfl, hb⟩
        refine ⟨_, rfl, ?_⟩
        have n0_ := kb HO_181000 hb
        have n1_ := kb HO_187000 hb
        have n2_ := kb HO_193000 hb
        have n3_ := kb HO_200000 hb
        have n4_ := kb HO203 hb
        have n5_ := kb HO209 hb
        have n6_ := kp BK160 hb
        have n7_ := kp BK161 hb
        have n8_ := kp BK180 hb
        have n9_ := kp BK186 hb
        have n10_ := kp BK192 hb
        have n11_ := kp BK199 hb
        have n12_ := Aside0.mk (below_step bb hb)
        clear HO_181000 HO_187000 HO_193000 HO_200000 HO203 HO209 BK160 BK161 BK180 BK186 BK192 BK199 HB
        have HO_181000 := n0_
        have HO_187000 := n1_
        have HO_193000 := n2_
        have HO_200000 := n3_
        have HO203 := n4_
        have HO209 := n5_
        have BK160 := n6_
        have BK161 := n7_
        have BK180 := n8_
        have BK186 := n9_
        have BK192 := n10_
        have BK199 := n11_
        have HB := n12_
        clear n0_ n1_ n2_ n3_ n4_ n5_ n6_ n7_ n8_ n9_ n10_ n11_ n12_
        (try clear hb)
        (try clear hb2)
        (try clear hk)
        (try clear hi)
        refine hK.out _ _ ⟨(blk_cell BK192.out 0).trans rfl, (blk_cell BK192.out 1).trans rfl, (blk_cell BK192.out 2).trans rfl, (blk_cell BK161.out 0).trans rfl, (blk_cell BK161.out 1).trans rfl, (blk_cell BK161.out 2).trans rfl⟩ (fun hHeld => ?_)
        clear hK K
        refine norm_ (a' := ?_) ?_ ?_
        rotate_left
        ·show Act.put _ (some 62) _ = _
         simp only [Act.put, List.setIfInBounds_toArray, List.set_cons_zero, List.set_cons_succ, i64_w, i32_w]
         rfl
        refine pure_ (i := 4) (N := some 63) (v := ?_) (a' := ?_) #[true, true, true, true, true] rfl rfl (by kernel_rfl) (fun _ _ _ h => h) (Or.inl ⟨by rfl, ?_⟩) ?_ ?_
        rotate_left
        ·intro w'
         go_simp
         with_reducible rfl
        rotate_left
        ·simp only [Act.put, List.setIfInBounds_toArray, List.set_cons_zero, List.set_cons_succ, i64_w, i32_w]
         rfl
        refine done_ (by kernel_rfl) ?_
        have hnb118 := NB186_160.out
        have hnc118 := NB160_186.out
        have hnb119 := NB186_161.out
        have hnc119 := NB161_186.out
        have hnb120 := NB186_180.out
        have hnc120 := NB180_186.out
        have hnb121 := NB186_192.out
        have hnc121 := NB192_186.out
        have hnb122 := NB186_199.out
        have hnc122 := NB199_186.out
        obtain ⟨hcz123_0, hcz123_1, hcz123_2, hfz123_0, hfz123_1, hfz123_2⟩ := c3 BK186
        go_upto_region 21 with (first | ((with_reducible refine gate_callee (f := 10) rfl ?_); refine goesL_ (some 66) rfl rfl Try.func10 (by kernel_rfl) rfl #[.agg #[.slice Ao49 t181.length co49, .int .i64 t184, .int .i64 t185], .int .i64 1] rfl ll ?_; (with_reducible refine (laws_markMachine.calls kj24 (fun k_ => some k_ = (.slice Ao49 t181.length co49 : Value).ownBlock) (.slice Ao49 t181.length co49) t181 t184 t185 1 t213 t214 w _ ?side1 ?side2 A107.out).mono ?_); (case side1 => repeat (first | (with_reducible first | exact HB.out | apply below_alloc | apply pw_below_drewN | apply below_drew1 | refine below_set ?_ GE160.out | refine below_set ?_ GE161.out | refine below_set ?_ GE180.out | refine below_set ?_ GE186.out | refine below_set ?_ GE192.out | refine below_set ?_ GE199.out) | exact HB.out)); (case side2 => exact Kd.R_tight rfl HO_187000.out); rintro e w124 ⟨rfl, hy0, hb, hkp⟩; refine ⟨_, rfl, ?_⟩; have n0_ := Aside0.mk (Kd.R_mono (ok' := fun k_ => some k_ ≠ (.slice Ao49 t181.length co49 : Value).ownBlock ∧ some k_ ≠ (.slice Ao58 t187.length co58 : Value).ownBlock ∧ some k_ ≠ (.slice Ao67 t193.length co67 : Value).ownBlock ∧ some k_ ≠ (.slice Ao112 t201.length co112 : Value).ownBlock ∧ some k_ ≠ (.slice Ao116 t207.length co116 : Value).ownBlock) (Kd.R_keptB (HO_181000.out) hkp (fun k_ hk_ hs_ => (hk_.1.1.1) hs_)) (fun k_ hk_ => ⟨hk_.1.1.1.1, hk_.1.1.1.2.1, hk_.1.1.1.2.2, hk_.1.1.2, hk_.1.2⟩)); have n1_ := Aside0.mk (Kd.R_reok rfl hy0 (fun k_ e_ => HO_187000.out.1 k_ e_)); have n2_ := Aside0.mk (Kd.R_mono (ok' := fun k_ => some k_ ≠ (.slice Ao41 t174.length co41 : Value).ownBlock ∧ some k_ ≠ (.slice Ao49 t181.length co49 : Value).ownBlock ∧ some k_ ≠ (.slice Ao67 t193.length co67 : Value).ownBlock ∧ some k_ ≠ (.slice Ao112 t201.length co112 : Value).ownBlock ∧ some k_ ≠ (.slice Ao116 t207.length co116 : Value).ownBlock) (Kd.R_keptB (HO_193000.out) hkp (fun k_ hk_ hs_ => (hk_.1.1.2.1) hs_)) (fun k_ hk_ => ⟨hk_.1.1.1.1, hk_.1.1.1.2.1, hk_.1.1.1.2.2, hk_.1.1.2, hk_.1.2⟩)); have n3_ := Aside0.mk (Kd.R_mono (ok' := fun k_ => some k_ ≠ (.slice Ao41 t174.length co41 : Value).ownBlock ∧ some k_ ≠ (.slice Ao49 t181.length co49 : Value).ownBlock ∧ some k_ ≠ (.slice Ao58 t187.length co58 : Value).ownBlock ∧ some k_ ≠ (.slice Ao112 t201.length co112 : Value).ownBlock ∧ some k_ ≠ (.slice Ao116 t207.length co116 : Value).ownBlock) (Kd.R_keptB (HO_200000.out) hkp (fun k_ hk_ hs_ => (hk_.1.1.2.1) hs_)) (fun k_ hk_ => ⟨hk_.1.1.1.1, hk_.1.1.1.2.1, hk_.1.1.1.2.2, hk_.1.1.2, hk_.1.2⟩)); have n4_ := Aside0.mk (blk_kept (rc BK160.out) hkp (fun hs_ => (fun e_ => (Kd.R_ne HO_187000.out BK160.out (by decide)) e_) hs_)); have n5_ := Aside0.mk (blk_kept (rc BK161.out) hkp (fun hs_ => (fun e_ => (Kd.R_ne HO_187000.out BK161.out (by decide)) e_) hs_)); have n6_ := Aside0.mk (blk_kept (rc BK180.out) hkp (fun hs_ => (fun e_ => (Kd.R_ne HO_187000.out BK180.out (by decide)) e_) hs_)); have n7_ := Aside0.mk (blk_kept (rc BK186.out) hkp (fun hs_ => (fun e_ => (Kd.R_ne HO_187000.out BK186.out (by decide)) e_) hs_)); have n8_ := Aside0.mk (blk_kept (rc BK192.out) hkp (fun hs_ => (fun e_ => (Kd.R_ne HO_187000.out BK192.out (by decide)) e_) hs_)); have n9_ := Aside0.mk (blk_kept (rc BK199.out) hkp (fun hs_ => (fun e_ => (Kd.R_ne HO_187000.out BK199.out (by decide)) e_) hs_)); have n10_ := Aside0.mk (Kd.R_mono (ok' := fun k_ => some k_ ≠ (.slice Ao41 t174.length co41 : Value).ownBlock ∧ some k_ ≠ (.slice Ao49 t181.length co49 : Value).ownBlock ∧ some k_ ≠ (.slice Ao58 t187.length co58 : Value).ownBlock ∧ some k_ ≠ (.slice Ao67 t193.length co67 : Value).ownBlock ∧ some k_ ≠ (.slice Ao116 t207.length co116 : Value).ownBlock) (Kd.R_keptB (HO203.out) hkp (fun k_ hk_ hs_ => (hk_.1.1.1.2) hs_)) (fun k_ hk_ => ⟨hk_.1.1.1.1.1.2, hk_.1.1.1.1.2, hk_.1.1.1.2, hk_.1.1.2, hk_.1.2⟩)); have n11_ := Aside0.mk (Kd.R_mono (ok' := fun k_ => some k_ ≠ (.slice Ao41 t174.length co41 : Value).ownBlock ∧ some k_ ≠ (.slice Ao49 t181.length co49 : Value).ownBlock ∧ some k_ ≠ (.slice Ao58 t187.length co58 : Value).ownBlock ∧ some k_ ≠ (.slice Ao67 t193.length co67 : Value).ownBlock ∧ some k_ ≠ (.slice Ao112 t201.length co112 : Value).ownBlock) (Kd.R_keptB (HO209.out) hkp (fun k_ hk_ hs_ => (hk_.1.1.1.2) hs_)) (fun k_ hk_ => ⟨hk_.1.1.1.1.1.2, hk_.1.1.1.1.2, hk_.1.1.1.2, hk_.1.1.2, hk_.1.2⟩)); have n12_ := Aside0.mk (hb); clear HO_181000 HO_187000 HO_193000 HO_200000 BK160 BK161 BK180 BK186 BK192 BK199 HO203 HO209 HB; have HO_181000 := n0_; have HO_187000 := n1_; have HO_193000 := n2_; have HO_200000 := n3_; have BK160 := n4_; have BK161 := n5_; have BK180 := n6_; have BK186 := n7_; have BK192 := n8_; have BK199 := n9_; have HO203 := n10_; have HO209 := n11_; have HB := n12_; clear n0_ n1_ n2_ n3_ n4_ n5_ n6_ n7_ n8_ n9_ n10_ n11_ n12_; (try clear hb); (try clear hkp); (try clear hy0); have hnb125 := NB192_160.out; have hnc125 := NB160_192.out; have hnb126 := NB192_161.out; have hnc126 := NB161_192.out; have hnb127 := NB192_180.out; have hnc127 := NB180_192.out; have hnb128 := NB192_199.out; have hnc128 := NB199_192.out; obtain ⟨hcz129_0, hcz129_1, hcz129_2, hfz129_0, hfz129_1, hfz129_2⟩ := c3 BK192) | ((with_reducible refine gate_callee (f := 10) rfl ?_); refine goesL_ (some 69) rfl rfl Try.func10 (by kernel_rfl) rfl #[.agg #[.slice Ao58 t187.length co58, .int .i64 t190, .int .i64 t191], .int .i64 t213] rfl ll ?_; (with_reducible refine (laws_markMachine.calls kj24 (fun k_ => some k_ = (.slice Ao58 t187.length co58 : Value).ownBlock) (.slice Ao58 t187.length co58) t187 t190 t191 t213 t215 t216 w _ ?side1 ?side2 A108.out).mono ?_); (case side1 => repeat (first | (with_reducible first | exact HB.out | apply below_alloc | apply pw_below_drewN | apply below_drew1 | refine below_set ?_ GE160.out | refine below_set ?_ GE161.out | refine below_set ?_ GE180.out | refine below_set ?_ GE186.out | refine below_set ?_ GE192.out | refine below_set ?_ GE199.out) | exact HB.out)); (case side2 => exact Kd.R_tight rfl HO_193000.out); rintro e w130 ⟨rfl, hy0, hb, hkp⟩; refine ⟨_, rfl, ?_⟩; have n0_ := Aside0.mk (Kd.R_mono (ok' := fun k_ => some k_ ≠ (.slice Ao49 t181.length co49 : Value).ownBlock ∧ some k_ ≠ (.slice Ao58 t187.length co58 : Value).ownBlock ∧ some k_ ≠ (.slice Ao67 t193.length co67 : Value).ownBlock ∧ some k_ ≠ (.slice Ao112 t201.length co112 : Value).ownBlock ∧ some k_ ≠ (.slice Ao116 t207.length co116 : Value).ownBlock) (Kd.R_keptB (HO_181000.out) hkp (fun k_ hk_ hs_ => (hk_.2.1) hs_)) (fun k_ hk_ => ⟨hk_.1.1, hk_.1.2.1, hk_.1.2.2.1, hk_.1.2.2.2.1, hk_.1.2.2.2.2⟩)); have n1_ := Aside0.mk (Kd.R_mono (ok' := fun k_ => some k_ ≠ (.slice Ao41 t174.length co41 : Value).ownBlock ∧ some k_ ≠ (.slice Ao58 t187.length co58 : Value).ownBlock ∧ some k_ ≠ (.slice Ao67 t193.length co67 : Value).ownBlock ∧ some k_ ≠ (.slice Ao112 t201.length co112 : Value).ownBlock ∧ some k_ ≠ (.slice Ao116 t207.length co116 : Value).ownBlock) (Kd.R_keptB (HO_187000.out) hkp (fun k_ hk_ hs_ => (hk_.1.1.2.1) hs_)) (fun k_ hk_ => ⟨hk_.1.1.1.1, hk_.1.1.1.2.1, hk_.1.1.1.2.2, hk_.1.1.2, hk_.1.2⟩)); have n2_ := Aside0.mk (Kd.R_reok rfl hy0 (fun k_ e_ => HO_193000.out.1 k_ e_)); have n3_ := Aside0.mk (Kd.R_mono (ok' := fun k_ => some k_ ≠ (.slice Ao41 t174.length co41 : Value).ownBlock ∧ some k_ ≠ (.slice Ao49 t181.length co49 : Value).ownBlock ∧ some k_ ≠ (.slice Ao58 t187.length co58 : Value).ownBlock ∧ some k_ ≠ (.slice Ao112 t201.length co112 : Value).ownBlock ∧ some k_ ≠ (.slice Ao116 t207.length co116 : Value).ownBlock) (Kd.R_keptB (HO_200000.out) hkp (fun k_ hk_ hs_ => (hk_.2.2.1) hs_)) (fun k_ hk_ => ⟨hk_.1.1, hk_.1.2.1, hk_.1.2.2.1, hk_.1.2.2.2.1, hk_.1.2.2.2.2⟩)); have n4_ := Aside0.mk (blk_kept (rc BK160.out) hkp (fun hs_ => (fun e_ => (Kd.R_ne HO_193000.out BK160.out (by decide)) e_) hs_)); have n5_ := Aside0.mk (blk_kept (rc BK161.out) hkp (fun hs_ => (fun e_ => (Kd.R_ne HO_193000.out BK161.out (by decide)) e_) hs_)); have n6_ := Aside0.mk (blk_kept (rc BK180.out) hkp (fun hs_ => (fun e_ => (Kd.R_ne HO_193000.out BK180.out (by decide)) e_) hs_)); have n7_ := Aside0.mk (blk_kept (rc BK186.out) hkp (fun hs_ => (fun e_ => (Kd.R_ne HO_193000.out BK186.out (by decide)) e_) hs_)); have n8_ := Aside0.mk (blk_kept (rc BK192.out) hkp (fun hs_ => (fun e_ => (Kd.R_ne HO_193000.out BK192.out (by decide)) e_) hs_)); have n9_ := Aside0.mk (blk_kept (rc BK199.out) hkp (fun hs_ => (fun e_ => (Kd.R_ne HO_193000.out BK199.out (by decide)) e_) hs_)); have n10_ := Aside0.mk (Kd.R_mono (ok' := fun k_ => some k_ ≠ (.slice Ao41 t174.length co41 : Value).ownBlock ∧ some k_ ≠ (.slice Ao49 t181.length co49 : Value).ownBlock ∧ some k_ ≠ (.slice Ao58 t187.length co58 : Value).ownBlock ∧ some k_ ≠ (.slice Ao67 t193.length co67 : Value).ownBlock ∧ some k_ ≠ (.slice Ao116 t207.length co116 : Value).ownBlock) (Kd.R_keptB (HO203.out) hkp (fun k_ hk_ hs_ => (hk_.2.2.1) hs_)) (fun k_ hk_ => ⟨hk_.1.1, hk_.1.2.1, hk_.1.2.2.1, hk_.1.2.2.2.1, hk_.1.2.2.2.2⟩)); have n11_ := Aside0.mk (Kd.R_mono (ok' := fun k_ => some k_ ≠ (.slice Ao41 t174.length co41 : Value).ownBlock ∧ some k_ ≠ (.slice Ao49 t181.length co49 : Value).ownBlock ∧ some k_ ≠ (.slice Ao58 t187.length co58 : Value).ownBlock ∧ some k_ ≠ (.slice Ao67 t193.length co67 : Value).ownBlock ∧ some k_ ≠ (.slice Ao112 t201.length co112 : Value).ownBlock) (Kd.R_keptB (HO209.out) hkp (fun k_ hk_ hs_ => (hk_.2.2.1) hs_)) (fun k_ hk_ => ⟨hk_.1.1, hk_.1.2.1, hk_.1.2.2.1, hk_.1.2.2.2.1, hk_.1.2.2.2.2⟩)); have n12_ := Aside0.mk (hb); clear HO_181000 HO_187000 HO_193000 HO_200000 BK160 BK161 BK180 BK186 BK192 BK199 HO203 HO209 HB; have HO_181000 := n0_; have HO_187000 := n1_; have HO_193000 := n2_; have HO_200000 := n3_; have BK160 := n4_; have BK161 := n5_; have BK180 := n6_; have BK186 := n7_; have BK192 := n8_; have BK199 := n9_; have HO203 := n10_; have HO209 := n11_; have HB := n12_; clear n0_ n1_ n2_ n3_ n4_ n5_ n6_ n7_ n8_ n9_ n10_ n11_ n12_; (try clear hb); (try clear hkp); (try clear hy0)))
        (try simp only [Act.put, List.setIfInBounds_toArray, List.set_cons_zero, List.set_cons_succ])
        go_cut [82] (fun v82 wc => ∃ (kq : Nat) (x82_108 : Bool), v82 = .bool x82_108 ∧ Aside0 (laws_FnExactMachBoth.j1 kq t179 x82_108 l0_0 a0_1 a0_2 l1_0 a1_1 a1_2 t174 t177 t178 t193 t196 t197 = some r) ∧ Aside0 (kq ≤ kj24) ∧ Aside0 (Kd.R (Kd.int .i64) 3 wc w.heap.size (fun k_ => some k_ ≠ ((.slice Ao49 t181.length co49) : Value).ownBlock ∧ some k_ ≠ ((.slice Ao58 t187.length co58) : Value).ownBlock ∧ some k_ ≠ ((.slice Ao67 t193.length co67) : Value).ownBlock) (.slice Ao41 t174.length co41) t174) ∧ Aside0 (Kd.R (Kd.int .i64) 3 wc w.heap.size (fun k_ => some k_ ≠ ((.slice Ao41 t174.length co41) : Value).ownBlock ∧ some k_ ≠ ((.slice Ao58 t187.length co58) : Value).ownBlock ∧ some k_ ≠ ((.slice Ao67 t193.length co67) : Value).ownBlock) (.slice Ao49 t181.length co49) t214) ∧ Aside0 (Kd.R (Kd.int .i64) 3 wc w.heap.size (fun k_ => some k_ ≠ ((.slice Ao41 t174.length co41) : Value).ownBlock ∧ some k_ ≠ ((.slice Ao49 t181.length co49) : Value).ownBlock ∧ some k_ ≠ ((.slice Ao67 t193.length co67) : Value).ownBlock) (.slice Ao58 t187.length co58) t216) ∧ Aside0 (Kd.R (Kd.int .i64) 3 wc w.heap.size (fun k_ => some k_ ≠ ((.slice Ao41 t174.length co41) : Value).ownBlock ∧ some k_ ≠ ((.slice Ao49 t181.length co49) : Value).ownBlock ∧ some k_ ≠ ((.slice Ao58 t187.length co58) : Value).ownBlock) (.slice Ao67 t193.length co67) t193) ∧ Aside0 (wc.heap[gb160]? = some (.cells #[(.slice A0_0 l0_0.length c0_0), .int .i64 a0_1, .int .i64 a0_2] 24 (0, 0))) ∧ Aside0 (wc.heap[gb161]? = some (.cells #[(.slice A1_0 l1_0.length c1_0), .int .i64 a1_1, .int .i64 a1_2] 24 (0, 0))) ∧ Aside0 (wc.heap[gb180]? = some (.cells #[(.slice Ao41 t174.length co41), .int .i64 t177, .int .i64 t178] 26 (0, 0))) ∧ Aside0 (wc.heap[gb186]? = some (.cells #[(.slice Ao49 t181.length co49), .int .i64 t184, .int .i64 t185] 26 (0, 0))) ∧ Aside0 (wc.heap[gb192]? = some (.cells #[(.slice Ao58 t187.length co58), .int .i64 t190, .int .i64 t191] 26 (0, 0))) ∧ Aside0 (wc.heap[gb199]? = some (.cells #[(.slice Ao67 t193.length co67), .int .i64 t196, .int .i64 t197] 26 (0, 0))) ∧ Aside0 (Below w.heap.size w wc))
        case first =>
         have H := HC109.out
         clear HC109
         by_cases c131 : t215 < 0
         ·rw [if_pos c131] at H
          have c131b0 : decide (t215 < 0) = true := decide_eq_true c131
          clear c131
          (first | rw [c131b0] | (simp only [i64_w, i32_w]; rw [c131b0]) | skip)
          have H' := Aside0.mk H
          clear H
          go_wp2
          go_meet
          case rel => exact ⟨_, (true), (by first | rfl | (simp; done) | (simp [*]; done) | (simp only [IntKind.wrap_i64, wrap64]; done)), H', ⟨by have := HJ24.out; first | omega | exact Nat.le_refl _⟩, ⟨rm HO_181000.out (fun _ hk => ⟨hk.1, ⟨hk.2.1, hk.2.2.1⟩⟩)⟩, ⟨rm HO_187000.out (fun _ hk => ⟨hk.1, ⟨hk.2.1, hk.2.2.1⟩⟩)⟩, ⟨rm HO_193000.out (fun _ hk => ⟨hk.1, ⟨hk.2.1, hk.2.2.1⟩⟩)⟩, ⟨rm HO_200000.out (fun _ hk => ⟨hk.1, ⟨hk.2.1, hk.2.2.1⟩⟩)⟩, ⟨rc BK160.out⟩, ⟨rc BK161.out⟩, ⟨rc BK180.out⟩, ⟨rc BK186.out⟩, ⟨rc BK192.out⟩, ⟨rc BK199.out⟩, ⟨bb⟩⟩
         ·rw [if_neg c131] at H
          have c131b0 : decide (t215 < 0) = false := decide_eq_false c131
          clear c131
          (first | rw [c131b0] | (simp only [i64_w, i32_w]; rw [c131b0]) | skip)
          replace H := Option.bind_eq_some_iff.mp H
          obtain ⟨t217, A1320, H⟩ := H
          (try dsimp only at H)
          have A132 := Aside0.mk A1320
          clear A1320
          by_cases c133 : t217 = true
          ·subst c133
           rw [if_pos rfl] at H
           have H' := Aside0.mk H
           clear H
           have hnb134 := NB199_160.out
           have hnc134 := NB160_199.out
           have hnb135 := NB199_161.out
           have hnc135 := NB161_199.out
           have hnb136 := NB199_180.out
           have hnc136 := NB180_199.out
           have hnb137 := NB199_186.out
           have hnc137 := NB186_199.out
           have hnb138 := NB199_192.out
           have hnc138 := NB192_199.out
           obtain ⟨hcz139_0, hcz139_1, hcz139_2, hfz139_0, hfz139_1, hfz139_2⟩ := c3 BK199
           have hnb140 := NB180_160.out
           have hnc140 := NB160_180.out
           have hnb141 := NB180_161.out
           have hnc141 := NB161_180.out
           have hnb142 := NB180_186.out
           have hnc142 := NB186_180.out
           have hnb143 := NB180_192.out
           have hnc143 := NB192_180.out
           obtain ⟨hcz144_0, hcz144_1, hcz144_2, hfz144_0, hfz144_1, hfz144_2⟩ := c3 BK180
           go_wp2_with (first | (go_at_call 9; (with_reducible refine (laws_eqMachine.calls kj24 _ _ t193 t196 t197 _ _ t174 t177 t178 true _ ?side1 ?side2 ?side3 ?side4 A132.out).mono ?_); (case side1 => repeat (first | exact (Kd.R_reads' HO_200000.out).2.2 | (with_reducible refine Kd.C_alloc ?_ _) | (with_reducible refine Kd.C_drewN ?_ _) | (with_reducible refine Kd.C_drew ?_))); (case side2 => exact (Kd.R_reads' HO_200000.out).2.1); (case side3 => repeat (first | exact (Kd.R_reads' HO_181000.out).2.2 | (with_reducible refine Kd.C_alloc ?_ _) | (with_reducible refine Kd.C_drewN ?_ _) | (with_reducible refine Kd.C_drew ?_))); (case side4 => exact (Kd.R_reads' HO_181000.out).2.1); rintro e w145 ⟨rfl, hb⟩; have n0_ := kb HO_181000 hb; have n1_ := kb HO_187000 hb; have n2_ := kb HO_193000 hb; have n3_ := kb HO_200000 hb; have n4_ := kb HO203 hb; have n5_ := kb HO209 hb; have n6_ := kp BK160 hb; have n7_ := kp BK161 hb; have n8_ := kp BK180 hb; have n9_ := kp BK186 hb; have n10_ := kp BK192 hb; have n11_ := kp BK199 hb; have n12_ := Aside0.mk (below_step bb hb); clear HO_181000 HO_187000 HO_193000 HO_200000 HO203 HO209 BK160 BK161 BK180 BK186 BK192 BK199 HB; have HO_181000 := n0_; have HO_187000 := n1_; have HO_193000 := n2_; have HO_200000 := n3_; have HO203 := n4_; have HO209 := n5_; have BK160 := n6_; have BK161 := n7_; have BK180 := n8_; have BK186 := n9_; have BK192 := n10_; have BK199 := n11_; have HB := n12_; clear n0_ n1_ n2_ n3_ n4_ n5_ n6_ n7_ n8_ n9_ n10_ n11_ n12_; (try clear hb); (try clear hb2); (try clear hk); (try clear hi)))
           go_meet
           case rel => exact ⟨_, ((t198 != t179)), (by first | rfl | (simp; done) | (simp [*]; done) | (simp only [IntKind.wrap_i64, wrap64]; done)), H', ⟨by have := HJ24.out; first | omega | exact Nat.le_refl _⟩, ⟨rm HO_181000.out (fun _ hk => ⟨hk.1, ⟨hk.2.1, hk.2.2.1⟩⟩)⟩, ⟨rm HO_187000.out (fun _ hk => ⟨hk.1, ⟨hk.2.1, hk.2.2.1⟩⟩)⟩, ⟨rm HO_193000.out (fun _ hk => ⟨hk.1, ⟨hk.2.1, hk.2.2.1⟩⟩)⟩, ⟨rm HO_200000.out (fun _ hk => ⟨hk.1, ⟨hk.2.1, hk.2.2.1⟩⟩)⟩, ⟨rc BK160.out⟩, ⟨rc BK161.out⟩, ⟨rc BK180.out⟩, ⟨rc BK186.out⟩, ⟨rc BK192.out⟩, ⟨rc BK199.out⟩, ⟨bb⟩⟩
          ·replace c133 := Bool.eq_false_iff.mpr c133
           subst c133
           rw [if_neg (show ¬ (false = true) by decide)] at H
           have H' := Aside0.mk H
           clear H
           have hnb146 := NB199_160.out
           have hnc146 := NB160_199.out
           have hnb147 := NB199_161.out
           have hnc147 := NB161_199.out
           have hnb148 := NB199_180.out
           have hnc148 := NB180_199.out
           have hnb149 := NB199_186.out
           have hnc149 := NB186_199.out
           have hnb150 := NB199_192.out
           have hnc150 := NB192_199.out
           obtain ⟨hcz151_0, hcz151_1, hcz151_2, hfz151_0, hfz151_1, hfz151_2⟩ := c3 BK199
           have hnb152 := NB180_160.out
           have hnc152 := NB160_180.out
           have hnb153 := NB180_161.out
           have hnc153 := NB161_180.out
           have hnb154 := NB180_186.out
           have hnc154 := NB186_180.out
           have hnb155 := NB180_192.out
           have hnc155 := NB192_180.out
           obtain ⟨hcz156_0, hcz156_1, hcz156_2, hfz156_0, hfz156_1, hfz156_2⟩ := c3 BK180
           go_wp2_with (first | (go_at_call 9; (with_reducible refine (laws_eqMachine.calls kj24 _ _ t193 t196 t197 _ _ t174 t177 t178 false _ ?side1 ?side2 ?side3 ?side4 A132.out).mono ?_); (case side1 => repeat (first | exact (Kd.R_reads' HO_200000.out).2.2 | (with_reducible refine Kd.C_alloc ?_ _) | (with_reducible refine Kd.C_drewN ?_ _) | (with_reducible refine Kd.C_drew ?_))); (case side2 => exact (Kd.R_reads' HO_200000.out).2.1); (case side3 => repeat (first | exact (Kd.R_reads' HO_181000.out).2.2 | (with_reducible refine Kd.C_alloc ?_ _) | (with_reducible refine Kd.C_drewN ?_ _) | (with_reducible refine Kd.C_drew ?_))); (case side4 => exact (Kd.R_reads' HO_181000.out).2.1); rintro e w157 ⟨rfl, hb⟩; have n0_ := kb HO_181000 hb; have n1_ := kb HO_187000 hb; have n2_ := kb HO_193000 hb; have n3_ := kb HO_200000 hb; have n4_ := kb HO203 hb; have n5_ := kb HO209 hb; have n6_ := kp BK160 hb; have n7_ := kp BK161 hb; have n8_ := kp BK180 hb; have n9_ := kp BK186 hb; have n10_ := kp BK192 hb; have n11_ := kp BK199 hb; have n12_ := Aside0.mk (below_step bb hb); clear HO_181000 HO_187000 HO_193000 HO_200000 HO203 HO209 BK160 BK161 BK180 BK186 BK192 BK199 HB; have HO_181000 := n0_; have HO_187000 := n1_; have HO_193000 := n2_; have HO_200000 := n3_; have HO203 := n4_; have HO209 := n5_; have BK160 := n6_; have BK161 := n7_; have BK180 := n8_; have BK186 := n9_; have BK192 := n10_; have BK199 := n11_; have HB := n12_; clear n0_ n1_ n2_ n3_ n4_ n5_ n6_ n7_ n8_ n9_ n10_ n11_ n12_; (try clear hb); (try clear hb2); (try clear hk); (try clear hi)))
           go_meet
           case rel => exact ⟨_, (true), (by first | rfl | (simp; done) | (simp [*]; done) | (simp only [IntKind.wrap_i64, wrap64]; done)), H', ⟨by have := HJ24.out; first | omega | exact Nat.le_refl _⟩, ⟨rm HO_181000.out (fun _ hk => ⟨hk.1, ⟨hk.2.1, hk.2.2.1⟩⟩)⟩, ⟨rm HO_187000.out (fun _ hk => ⟨hk.1, ⟨hk.2.1, hk.2.2.1⟩⟩)⟩, ⟨rm HO_193000.out (fun _ hk => ⟨hk.1, ⟨hk.2.1, hk.2.2.1⟩⟩)⟩, ⟨rm HO_200000.out (fun _ hk => ⟨hk.1, ⟨hk.2.1, hk.2.2.1⟩⟩)⟩, ⟨rc BK160.out⟩, ⟨rc BK161.out⟩, ⟨rc BK180.out⟩, ⟨rc BK186.out⟩, ⟨rc BK192.out⟩, ⟨rc BK199.out⟩, ⟨bb⟩⟩
        case rest =>
         clear HC109
         (try clear c1); (try clear p2); (try clear c7); (try clear c9); (try clear c10); (try clear c11); (try clear c12); (try clear c13); (try clear c14); (try clear c15); (try clear c100); (try clear c103); (try clear c106); (try clear c118); (try clear c119); (try clear c120); (try clear c121); (try clear c122); (try clear c125); (try clear c126); (try clear c127); (try clear c128); (try clear c131); (try clear c131b0); (try clear c133); (try clear c134); (try clear c135); (try clear c136); (try clear c137); (try clear c138); (try clear c140); (try clear c141); (try clear c142); (try clear c143); (try clear c146); (try clear c147); (try clear c148); (try clear c149); (try clear c150); (try clear c152); (try clear c153); (try clear c154); (try clear c155); (try clear hcz123_0); (try clear hcz123_1); (try clear hcz123_2); (try clear hcz129_0); (try clear hcz129_1); (try clear hcz129_2); (try clear hcz139_0); (try clear hcz139_1); (try clear hcz139_2); (try clear hcz144_0); (try clear hcz144_1); (try clear hcz144_2); (try clear hcz151_0); (try clear hcz151_1); (try clear hcz151_2); (try clear hcz156_0); (try clear hcz156_1); (try clear hcz156_2); (try clear hcz64_1); (try clear hcz64_2); (try clear hcz73_0); (try clear hcz73_1); (try clear hcz73_2); (try clear hcz81_0); (try clear hcz81_1); (try clear hcz81_2); (try clear hcz86_0); (try clear hcz86_1); (try clear hcz86_2); (try clear hcz93_0); (try clear hcz93_1); (try clear hcz93_2); (try clear hcz98_0); (try clear hcz98_1); (try clear hcz98_2); (try clear hfz123_0); (try clear hfz123_1); (try clear hfz123_2); (try clear hfz129_0); (try clear hfz129_1); (try clear hfz129_2); (try clear hfz139_0); (try clear hfz139_1); (try clear hfz139_2); (try clear hfz144_0); (try clear hfz144_1); (try clear hfz144_2); (try clear hfz151_0); (try clear hfz151_1); (try clear hfz151_2); (try clear hfz156_0); (try clear hfz156_1); (try clear hfz156_2); (try clear hfz46_0); (try clear hfz46_1); (try clear hfz46_2); (try clear hfz53_0); (try clear hfz53_1); (try clear hfz53_2); (try clear hfz55_0); (try clear hfz55_1); (try clear hfz55_2); (try clear hfz63_0); (try clear hfz63_1); (try clear hfz63_2); (try clear hfz64_0); (try clear hfz64_1); (try clear hfz64_2); (try clear hfz73_0); (try clear hfz73_1); (try clear hfz73_2); (try clear hfz81_0); (try clear hfz81_1); (try clear hfz81_2); (try clear hfz86_0); (try clear hfz86_1); (try clear hfz86_2); (try clear hfz93_0); (try clear hfz93_1); (try clear hfz93_2); (try clear hfz98_0); (try clear hfz98_1); (try clear hfz98_2)
         obtain ⟨kq, x82_108, rfl, HA, HJ108, HO_181000, HO_187000, HO_193000, HO_200000, BK160, BK161, BK180, BK186, BK192, BK199, HB⟩ := hcut
         have hl187000_108 := (Kd.R_reads' HO_187000.out).1
         rw [hl187000_108] at HO_187000
         (try simp only [hl187000_108])
         (try simp only [hl187000_108] at BK160)
         (try simp only [hl187000_108] at BK161)
         (try simp only [hl187000_108] at BK180)
         (try simp only [hl187000_108] at BK186)
         (try simp only [hl187000_108] at BK192)
         (try simp only [hl187000_108] at BK199)
         (try simp only [hl187000_108] at HO_181000)
         (try simp only [hl187000_108] at HO_193000)
         (try simp only [hl187000_108] at HO_200000)
         have hl193000_108 := (Kd.R_reads' HO_193000.out).1
         rw [hl193000_108] at HO_193000
         (try simp only [hl193000_108])
         (try simp only [hl193000_108] at BK160)
         (try simp only [hl193000_108] at BK161)
         (try simp only [hl193000_108] at BK180)
         (try simp only [hl193000_108] at BK186)
         (try simp only [hl193000_108] at BK192)
         (try simp only [hl193000_108] at BK199)
         (try simp only [hl193000_108] at HO_181000)
         (try simp only [hl193000_108] at HO_187000)
         (try simp only [hl193000_108] at HO_200000)
         cases kq with
         | zero => exact absurd HA.out (by simp [laws_FnExactMachBoth.j1])
         | succ kj108 =>
          have H := HA.out
          clear HA
          simp only [laws_FnExactMachBoth.j1] at H
          by_cases c158 : x82_108 = true
          ·subst c158
           rw [if_pos rfl] at H
           obtain rfl := Option.some.inj H
           go_wp2
           go_ret
           exact ⟨by first | rfl | (simp [errW_none, errW_some] <;> rfl) | (simp [*, errW_none, errW_some] <;> rfl), bb⟩
          ·replace c158 := Bool.eq_false_iff.mpr c158
           subst c158
           rw [if_neg (show ¬ (false = true) by decide)] at H
           replace H := Option.bind_eq_some_iff.mp H
           obtain ⟨⟨t218, t219⟩, A1590, H⟩ := H
           (try dsimp only at H)
           have A159 := Aside0.mk A1590
           clear A1590
           replace H := Option.bind_eq_some_iff.mp H
           obtain ⟨t220, A1600, H⟩ := H
           (try dsimp only at H)
           have A160 := Aside0.mk A1600
           clear A1600
           by_cases c161 : t220 < 0
           ·rw [if_pos c161] at H
            have c161b0 : decide (t220 < 0) = true := decide_eq_true c161
            clear c161
            obtain rfl := Option.some.inj H
            have hnb162 := NB199_160.out
            have hnc162 := NB160_199.out
            have hnb163 := NB199_161.out
            have hnc163 := NB161_199.out
            have hnb164 := NB199_180.out
            have hnc164 := NB180_199.out
            have hnb165 := NB199_186.out
            have hnc165 := NB186_199.out
            have hnb166 := NB199_192.out
            have hnc166 := NB192_199.out
            obtain ⟨hcz167_0, hcz167_1, hcz167_2, hfz167_0, hfz167_1, hfz167_2⟩ := c3 BK199
            go_wp2_with (first | ((with_reducible refine gate_callee (f := 10) rfl ?_); refine goesL_ (some 85) rfl rfl Try.func10 (by kernel_rfl) rfl #[.agg #[.slice Ao67 t193.length co67, .int .i64 t196, .int .i64 t197], .int .i64 1] rfl ll ?_; (with_reducible refine (laws_markMachine.calls kj108 (fun k_ => some k_ = (.slice Ao67 t193.length co67 : Value).ownBlock) (.slice Ao67 t193.length co67) t193 t196 t197 1 t218 t219 w _ ?side1 ?side2 A159.out).mono ?_); (case side1 => repeat (first | (with_reducible first | exact HB.out | apply below_alloc | apply pw_below_drewN | apply below_drew1 | refine below_set ?_ GE160.out | refine below_set ?_ GE161.out | refine below_set ?_ GE180.out | refine below_set ?_ GE186.out | refine below_set ?_ GE192.out | refine below_set ?_ GE199.out) | exact HB.out)); (case side2 => exact Kd.R_tight rfl HO_200000.out); rintro e w168 ⟨rfl, hy0, hb, hkp⟩; refine ⟨_, rfl, ?_⟩; have n0_ := Aside0.mk (Kd.R_mono (ok' := fun k_ => some k_ ≠ (.slice Ao49 t214.length co49 : Value).ownBlock ∧ some k_ ≠ (.slice Ao58 t216.length co58 : Value).ownBlock ∧ some k_ ≠ (.slice Ao67 t193.length co67 : Value).ownBlock) (Kd.R_keptB (HO_181000.out) hkp (fun k_ hk_ hs_ => (hk_.2.2) hs_)) (fun k_ hk_ => ⟨hk_.1.1, hk_.1.2.1, hk_.1.2.2⟩)); have n1_ := Aside0.mk (Kd.R_mono (ok' := fun k_ => some k_ ≠ (.slice Ao41 t174.length co41 : Value).ownBlock ∧ some k_ ≠ (.slice Ao58 t216.length co58 : Value).ownBlock ∧ some k_ ≠ (.slice Ao67 t193.length co67 : Value).ownBlock) (Kd.R_keptB (HO_187000.out) hkp (fun k_ hk_ hs_ => (hk_.2.2) hs_)) (fun k_ hk_ => ⟨hk_.1.1, hk_.1.2.1, hk_.1.2.2⟩)); have n2_ := Aside0.mk (Kd.R_mono (ok' := fun k_ => some k_ ≠ (.slice Ao41 t174.length co41 : Value).ownBlock ∧ some k_ ≠ (.slice Ao49 t214.length co49 : Value).ownBlock ∧ some k_ ≠ (.slice Ao67 t193.length co67 : Value).ownBlock) (Kd.R_keptB (HO_193000.out) hkp (fun k_ hk_ hs_ => (hk_.2.2) hs_)) (fun k_ hk_ => ⟨hk_.1.1, hk_.1.2.1, hk_.1.2.2⟩)); have n3_ := Aside0.mk (Kd.R_reok rfl hy0 (fun k_ e_ => HO_200000.out.1 k_ e_)); have n4_ := Aside0.mk (blk_kept (rc BK160.out) hkp (fun hs_ => (fun e_ => (Kd.R_ne HO_200000.out BK160.out (by decide)) e_) hs_)); have n5_ := Aside0.mk (blk_kept (rc BK161.out) hkp (fun hs_ => (fun e_ => (Kd.R_ne HO_200000.out BK161.out (by decide)) e_) hs_)); have n6_ := Aside0.mk (blk_kept (rc BK180.out) hkp (fun hs_ => (fun e_ => (Kd.R_ne HO_200000.out BK180.out (by decide)) e_) hs_)); have n7_ := Aside0.mk (blk_kept (rc BK186.out) hkp (fun hs_ => (fun e_ => (Kd.R_ne HO_200000.out BK186.out (by decide)) e_) hs_)); have n8_ := Aside0.mk (blk_kept (rc BK192.out) hkp (fun hs_ => (fun e_ => (Kd.R_ne HO_200000.out BK192.out (by decide)) e_) hs_)); have n9_ := Aside0.mk (blk_kept (rc BK199.out) hkp (fun hs_ => (fun e_ => (Kd.R_ne HO_200000.out BK199.out (by decide)) e_) hs_)); have n10_ := Aside0.mk (hb); clear HO_181000 HO_187000 HO_193000 HO_200000 BK160 BK161 BK180 BK186 BK192 BK199 HB; have HO_181000 := n0_; have HO_187000 := n1_; have HO_193000 := n2_; have HO_200000 := n3_; have BK160 := n4_; have BK161 := n5_; have BK180 := n6_; have BK186 := n7_; have BK192 := n8_; have BK199 := n9_; have HB := n10_; clear n0_ n1_ n2_ n3_ n4_ n5_ n6_ n7_ n8_ n9_ n10_; (try clear hb); (try clear hkp); (try clear hy0); obtain ⟨hcz169_0, hcz169_1, hcz169_2, hfz169_0, hfz169_1, hfz169_2⟩ := c3 BK199) | ((with_reducible refine gate_callee (f := 11) rfl ?_); refine goesL_ (some 88) rfl rfl Try.func11 (by kernel_rfl) rfl #[.agg #[.slice Ao67 t219.length co67, .int .i64 t196, .int .i64 t197], .int .i64 1] rfl (by (try simp only [List.map_toArray, List.map_cons, List.map_nil]); first | done | (rw [show t219.length = t193.length from (Kd.R_reads' HO_200000.out).1.symm] <;> rfl) | rfl | (simp only [List.length_drop, List.length_take]; rfl)) ?_; (with_reducible refine (laws_heldMachine.calls kj108 _ _ t219 t196 t197 1 t220 _ ?side1 ?side2 A160.out).mono ?_); (case side1 => repeat (first | exact (Kd.R_reads' HO_200000.out).2.2 | (with_reducible refine Kd.C_alloc ?_ _) | (with_reducible refine Kd.C_drewN ?_ _) | (with_reducible refine Kd.C_drew ?_))); (case side2 => rw [show t219.length = t193.length from (Kd.R_reads' HO_200000.out).1.symm]; exact (Kd.R_reads' HO_200000.out).2.1); rintro e w170 ⟨rfl, hb⟩; refine ⟨_, rfl, ?_⟩; have n0_ := kb HO_181000 hb; have n1_ := kb HO_187000 hb; have n2_ := kb HO_193000 hb; have n3_ := kb HO_200000 hb; have n4_ := kp BK160 hb; have n5_ := kp BK161 hb; have n6_ := kp BK180 hb; have n7_ := kp BK186 hb; have n8_ := kp BK192 hb; have n9_ := kp BK199 hb; have n10_ := Aside0.mk (below_step bb hb); clear HO_181000 HO_187000 HO_193000 HO_200000 BK160 BK161 BK180 BK186 BK192 BK199 HB; have HO_181000 := n0_; have HO_187000 := n1_; have HO_193000 := n2_; have HO_200000 := n3_; have BK160 := n4_; have BK161 := n5_; have BK180 := n6_; have BK186 := n7_; have BK192 := n8_; have BK199 := n9_; have HB := n10_; clear n0_ n1_ n2_ n3_ n4_ n5_ n6_ n7_ n8_ n9_ n10_; (try clear hb); (try clear hb2); (try clear hk); (try clear hi)))
            go_ret
            exact ⟨by first | rfl | (simp [errW_none, errW_some] <;> rfl) | (simp [*, errW_none, errW_some] <;> rfl), bb⟩
           ·rw [if_neg c161] at H
            have c161b0 : decide (t220 < 0) = false := decide_eq_false c161
            clear c161
            by_cases c171 : t220 = t218
            ·rw [if_pos c171] at H
             have c171b0 : (t220 == t218) = true := beq_iff_eq.mpr c171
             have c171b1 : (t220 != t218) = false := bne_eq_false_iff_eq.mpr c171
             clear c171
             replace H := Option.bind_eq_some_iff.mp H
             obtain ⟨⟨t221, t224, t225⟩, A1720, H⟩ := H
             (try dsimp only at H)
             have A172 := Aside0.mk A1720
             clear A1720
             replace H := Option.bind_eq_some_iff.mp H
             obtain ⟨⟨t226, t229, t230⟩, A1730, H⟩ := H
             (try dsimp only at H)
             have A173 := Aside0.mk A1730
             clear A1730
             replace H := Option.bind_eq_some_iff.mp H
             obtain ⟨⟨t231, t234, t235, t236⟩, A1740, H⟩ := H
             (try dsimp only at H)
             have A174 := Aside0.mk A1740
             clear A1740
             have HC175 := Aside0.mk H
             clear H
             have hnb176 := NB199_160.out
             have hnc176 := NB160_199.out
             have hnb177 := NB199_161.out
             have hnc177 := NB161_199.out
             have hnb178 := NB199_180.out
             have hnc178 := NB180_199.out
             have hnb179 := NB199_186.out
             have hnc179 := NB186_199.out
             have hnb180 := NB199_192.out
             have hnc180 := NB192_199.out
             obtain ⟨hcz181_0, hcz181_1, hcz181_2, hfz181_0, hfz181_1, hfz181_2⟩ := c3 BK199
             try go_wp2_with (first | ((with_reducible refine gate_callee (f := 10) rfl ?_); refine goesL_ (some 85) rfl rfl Try.func10 (by kernel_rfl) rfl #[.agg #[.slice Ao67 t193.length co67, .int .i64 t196, .int .i64 t197], .int .i64 1] rfl ll ?_; (with_reducible refine (laws_markMachine.calls kj108 (fun k_ => some k_ = (.slice Ao67 t193.length co67 : Value).ownBlock) (.slice Ao67 t193.length co67) t193 t196 t197 1 t218 t219 w _ ?side1 ?side2 A159.out).mono ?_); (case side1 => repeat (first | (with_reducible first | exact HB.out | apply below_alloc | apply pw_below_drewN | apply below_drew1 | refine below_set ?_ GE160.out | refine below_set ?_ GE161.out | refine below_set ?_ GE180.out | refine below_set ?_ GE186.out | refine below_set ?_ GE192.out | refine below_set ?_ GE199.out) | exact HB.out)); (case side2 => exact Kd.R_tight rfl HO_200000.out); rintro e w182 ⟨rfl, hy0, hb, hkp⟩; refine ⟨_, rfl, ?_⟩; have n0_ := Aside0.mk (Kd.R_mono (ok' := fun k_ => some k_ ≠ (.slice Ao49 t214.length co49 : Value).ownBlock ∧ some k_ ≠ (.slice Ao58 t216.length co58 : Value).ownBlock ∧ some k_ ≠ (.slice Ao67 t193.length co67 : Value).ownBlock) (Kd.R_keptB (HO_181000.out) hkp (fun k_ hk_ hs_ => (hk_.2.2) hs_)) (fun k_ hk_ => ⟨hk_.1.1, hk_.1.2.1, hk_.1.2.2⟩)); have n1_ := Aside0.mk (Kd.R_mono (ok' := fun k_ => some k_ ≠ (.slice Ao41 t174.length co41 : Value).ownBlock ∧ some k_ ≠ (.slice Ao58 t216.length co58 : Value).ownBlock ∧ some k_ ≠ (.slice Ao67 t193.length co67 : Value).ownBlock) (Kd.R_keptB (HO_187000.out) hkp (fun k_ hk_ hs_ => (hk_.2.2) hs_)) (fun k_ hk_ => ⟨hk_.1.1, hk_.1.2.1, hk_.1.2.2⟩)); have n2_ := Aside0.mk (Kd.R_mono (ok' := fun k_ => some k_ ≠ (.slice Ao41 t174.length co41 : Value).ownBlock ∧ some k_ ≠ (.slice Ao49 t214.length co49 : Value).ownBlock ∧ some k_ ≠ (.slice Ao67 t193.length co67 : Value).ownBlock) (Kd.R_keptB (HO_193000.out) hkp (fun k_ hk_ hs_ => (hk_.2.2) hs_)) (fun k_ hk_ => ⟨hk_.1.1, hk_.1.2.1, hk_.1.2.2⟩)); have n3_ := Aside0.mk (Kd.R_reok rfl hy0 (fun k_ e_ => HO_200000.out.1 k_ e_)); have n4_ := Aside0.mk (blk_kept (rc BK160.out) hkp (fun hs_ => (fun e_ => (Kd.R_ne HO_200000.out BK160.out (by decide)) e_) hs_)); have n5_ := Aside0.mk (blk_kept (rc BK161.out) hkp (fun hs_ => (fun e_ => (Kd.R_ne HO_200000.out BK161.out (by decide)) e_) hs_)); have n6_ := Aside0.mk (blk_kept (rc BK180.out) hkp (fun hs_ => (fun e_ => (Kd.R_ne HO_200000.out BK180.out (by decide)) e_) hs_)); have n7_ := Aside0.mk (blk_kept (rc BK186.out) hkp (fun hs_ => (fun e_ => (Kd.R_ne HO_200000.out BK186.out (by decide)) e_) hs_)); have n8_ := Aside0.mk (blk_kept (rc BK192.out) hkp (fun hs_ => (fun e_ => (Kd.R_ne HO_200000.out BK192.out (by decide)) e_) hs_)); have n9_ := Aside0.mk (blk_kept (rc BK199.out) hkp (fun hs_ => (fun e_ => (Kd.R_ne HO_200000.out BK199.out (by decide)) e_) hs_)); have n10_ := Aside0.mk (hb); clear HO_181000 HO_187000 HO_193000 HO_200000 BK160 BK161 BK180 BK186 BK192 BK199 HB; have HO_181000 := n0_; have HO_187000 := n1_; have HO_193000 := n2_; have HO_200000 := n3_; have BK160 := n4_; have BK161 := n5_; have BK180 := n6_; have BK186 := n7_; have BK192 := n8_; have BK199 := n9_; have HB := n10_; clear n0_ n1_ n2_ n3_ n4_ n5_ n6_ n7_ n8_ n9_ n10_; (try clear hb); (try clear hkp); (try clear hy0); obtain ⟨hcz183_0, hcz183_1, hcz183_2, hfz183_0, hfz183_1, hfz183_2⟩ := c3 BK199) | ((with_reducible refine gate_callee (f := 11) rfl ?_); refine goesL_ (some 88) rfl rfl Try.func11 (by kernel_rfl) rfl #[.agg #[.slice Ao67 t219.length co67, .int .i64 t196, .int .i64 t197], .int .i64 1] rfl (by (try simp only [List.map_toArray, List.map_cons, List.map_nil]); first | done | (rw [show t219.length = t193.length from (Kd.R_reads' HO_200000.out).1.symm] <;> rfl) | rfl | (simp only [List.length_drop, List.length_take]; rfl)) ?_; (with_reducible refine (laws_heldMachine.calls kj108 _ _ t219 t196 t197 1 t220 _ ?side1 ?side2 A160.out).mono ?_); (case side1 => repeat (first | exact (Kd.R_reads' HO_200000.out).2.2 | (with_reducible refine Kd.C_alloc ?_ _) | (with_reducible refine Kd.C_drewN ?_ _) | (with_reducible refine Kd.C_drew ?_))); (case side2 => rw [show t219.length = t193.length from (Kd.R_reads' HO_200000.out).1.symm]; exact (Kd.R_reads' HO_200000.out).2.1); rintro e w184 ⟨rfl, hb⟩; refine ⟨_, rfl, ?_⟩; have n0_ := kb HO_181000 hb; have n1_ := kb HO_187000 hb; have n2_ := kb HO_193000 hb; have n3_ := kb HO_200000 hb; have n4_ := kp BK160 hb; have n5_ := kp BK161 hb; have n6_ := kp BK180 hb; have n7_ := kp BK186 hb; have n8_ := kp BK192 hb; have n9_ := kp BK199 hb; have n10_ := Aside0.mk (below_step bb hb); clear HO_181000 HO_187000 HO_193000 HO_200000 BK160 BK161 BK180 BK186 BK192 BK199 HB; have HO_181000 := n0_; have HO_187000 := n1_; have HO_193000 := n2_; have HO_200000 := n3_; have BK160 := n4_; have BK161 := n5_; have BK180 := n6_; have BK186 := n7_; have BK192 := n8_; have BK199 := n9_; have HB := n10_; clear n0_ n1_ n2_ n3_ n4_ n5_ n6_ n7_ n8_ n9_ n10_; (try clear hb); (try clear hb2); (try clear hk); (try clear hi)))
             have n0_ := Aside0.mk (Kd.R_drew HO_181000.out)
             have n1_ := Aside0.mk (Kd.R_drew HO_187000.out)
             have n2_ := Aside0.mk (Kd.R_drew HO_193000.out)
             have n3_ := Aside0.mk (Kd.R_drew HO_200000.out)
             have n4_ := Aside0.mk (blk_drew BK160.out)
             have n5_ := Aside0.mk (blk_drew BK161.out)
             have n6_ := Aside0.mk (blk_drew BK180.out)
             have n7_ := Aside0.mk (blk_drew BK186.out)
             have n8_ := Aside0.mk (blk_drew BK192.out)
             have n9_ := Aside0.mk (blk_drew BK199.out)
             have n10_ := Aside0.mk (below_drew1 HB.out)
             clear HO_181000 HO_187000 HO_193000 HO_200000 BK160 BK161 BK180 BK186 BK192 BK199 HB
             have HO_181000 := n0_
             have HO_187000 := n1_
             have HO_193000 := n2_
             have HO_200000 := n3_
             have BK160 := n4_
             have BK161 := n5_
             have BK180 := n6_
             have BK186 := n7_
             have BK192 := n8_
             have BK199 := n9_
             have HB := n10_
             clear n0_ n1_ n2_ n3_ n4_ n5_ n6_ n7_ n8_ n9_ n10_
             refine start_ (n := 11) (S := fun w' => w'.cell? ⟨gb160, 0, none⟩ = some (.slice A0_0 l0_0.length c0_0) ∧ w'.cell? ⟨gb160, 1, none⟩ = some (.int .i64 a0_1) ∧ w'.cell? ⟨gb160, 2, none⟩ = some (.int .i64 a0_2) ∧ w'.cell? ⟨gb161, 0, none⟩ = some (.slice A1_0 l1_0.length c1_0) ∧ w'.cell? ⟨gb161, 1, none⟩ = some (.int .i64 a1_1) ∧ w'.cell? ⟨gb161, 2, none⟩ = some (.int .i64 a1_2)) (ds := []) #[false, false, false, false, false, false, false, false, false, false, false] (by kernel_rfl) rfl rfl ⟨(blk_cell BK160.out 0).trans rfl, (blk_cell BK160.out 1).trans rfl, (blk_cell BK160.out 2).trans rfl, (blk_cell BK161.out 0).trans rfl, (blk_cell BK161.out 1).trans rfl, (blk_cell BK161.out 2).trans rfl⟩ (fun hHeld => ?_); refine with_tabW laws_FnExactMachBoth.tab31 laws_FnExactMachBoth.bits31 (fun HT_ HW_ => ?_)
             generalize w184.drew = w185 at HO_181000 HO_187000 HO_193000 HO_200000 BK160 BK161 BK180 BK186 BK192 BK199 HB hHeld ⊢
             refine take_ (i := 0) (N := some 95) (v := ?_) (a' := ?_) #[true, false, false, false, false, false, false, false, false, false, false] rfl rfl (take_ofW HT_.out HW_.out (by kernel_rfl)) (fun _ _ _ h => h) (Or.inl ⟨by rfl, ?_⟩) hHeld ?_ ?_
             rotate_left
             ·rintro w' ⟨s0, s1, s2, s3, s4, s5⟩
              go_simp
              with_reducible rfl
             rotate_left
             ·simp only [Act.put, List.setIfInBounds_toArray, List.set_cons_zero, List.set_cons_succ, i64_w, i32_w]
              rfl
             refine take_ (i := 2) (N := some 97) (v := ?_) (a' := ?_) #[true, false, true, false, false, false, false, false, false, false, false] rfl rfl (take_ofW HT_.out HW_.out (by kernel_rfl)) (fun _ _ _ h => h) (Or.inl ⟨by rfl, ?_⟩) hHeld ?_ ?_
             rotate_left
             ·rintro w' ⟨s0, s1, s2, s3, s4, s5⟩
              go_simp
              with_reducible rfl
             rotate_left
             ·simp only [Act.put, List.setIfInBounds_toArray, List.set_cons_zero, List.set_cons_succ, i64_w, i32_w]
              rfl
             refine join_ (σ := Value × Value × Value × Nat) 2 #[true, true, true, true, true, true, true, true, true, false, false] (fun s_ => [(96, .agg #[s_.1, .int .i64 t224, .int .i64 t225]), (98, .agg #[s_.2.1, .int .i64 t229, .int .i64 t230]), (99, .tuple #[.agg #[s_.2.2.1, .int .i64 t234, .int .i64 t235], .bool t236]), (15, .pointer (some ⟨s_.2.2.2, 0, none⟩)), (94, .tuple #[.agg #[s_.2.2.1, .int .i64 t234, .int .i64 t235], .bool t236]), (100, .agg #[s_.2.2.1, .int .i64 t234, .int .i64 t235]), (101, .bool t236)]) (fun s_ w' => (w'.cell? ⟨gb160, 0, none⟩ = some (.slice A0_0 l0_0.length c0_0) ∧ w'.cell? ⟨gb160, 1, none⟩ = some (.int .i64 a0_1) ∧ w'.cell? ⟨gb160, 2, none⟩ = some (.int .i64 a0_2) ∧ w'.cell? ⟨gb161, 0, none⟩ = some (.slice A1_0 l1_0.length c1_0) ∧ w'.cell? ⟨gb161, 1, none⟩ = some (.int .i64 a1_1) ∧ w'.cell? ⟨gb161, 2, none⟩ = some (.int .i64 a1_2)) ∧ (Kd.R (Kd.int .i64) 3 w' w.heap.size (fun k_ => some k_ ≠ (s_.2.1 : Value).ownBlock ∧ some k_ ≠ (s_.2.2.1 : Value).ownBlock ∧ some k_ ≠ (.slice Ao41 t174.length co41 : Value).ownBlock ∧ some k_ ≠ (.slice Ao49 t214.length co49 : Value).ownBlock ∧ some k_ ≠ (.slice Ao58 t216.length co58 : Value).ownBlock ∧ some k_ ≠ (.slice Ao67 t193.length co67 : Value).ownBlock) s_.1 t221) ∧ (Kd.R (Kd.int .i64) 3 w' w.heap.size (fun k_ => some k_ ≠ (s_.1 : Value).ownBlock ∧ some k_ ≠ (s_.2.2.1 : Value).ownBlock ∧ some k_ ≠ (.slice Ao41 t174.length co41 : Value).ownBlock ∧ some k_ ≠ (.slice Ao49 t214.length co49 : Value).ownBlock ∧ some k_ ≠ (.slice Ao58 t216.length co58 : Value).ownBlock ∧ some k_ ≠ (.slice Ao67 t193.length co67 : Value).ownBlock) s_.2.1 t226) ∧ (Kd.R (Kd.int .i64) 3 w' w.heap.size (fun k_ => some k_ ≠ (s_.1 : Value).ownBlock ∧ some k_ ≠ (s_.2.1 : Value).ownBlock ∧ some k_ ≠ (.slice Ao41 t174.length co41 : Value).ownBlock ∧ some k_ ≠ (.slice Ao49 t214.length co49 : Value).ownBlock ∧ some k_ ≠ (.slice Ao58 t216.length co58 : Value).ownBlock ∧ some k_ ≠ (.slice Ao67 t193.length co67 : Value).ownBlock) s_.2.2.1 t231) ∧ (Kd.R (Kd.int .i64) 3 w' w.heap.size (fun k_ => some k_ ≠ (s_.1 : Value).ownBlock ∧ some k_ ≠ (s_.2.1 : Value).ownBlock ∧ some k_ ≠ (s_.2.2.1 : Value).ownBlock ∧ some k_ ≠ (.slice Ao49 t214.length co49 : Value).ownBlock ∧ some k_ ≠ (.slice Ao58 t216.length co58 : Value).ownBlock ∧ some k_ ≠ (.slice Ao67 t193.length co67 : Value).ownBlock) (.slice Ao41 t174.length co41) t174) ∧ (Kd.R (Kd.int .i64) 3 w' w.heap.size (fun k_ => some k_ ≠ (s_.1 : Value).ownBlock ∧ some k_ ≠ (s_.2.1 : Value).ownBlock ∧ some k_ ≠ (s_.2.2.1 : Value).ownBlock ∧ some k_ ≠ (.slice Ao41 t174.length co41 : Value).ownBlock ∧ some k_ ≠ (.slice Ao58 t216.length co58 : Value).ownBlock ∧ some k_ ≠ (.slice Ao67 t193.length co67 : Value).ownBlock) (.slice Ao49 t214.length co49) t214) ∧ (Kd.R (Kd.int .i64) 3 w' w.heap.size (fun k_ => some k_ ≠ (s_.1 : Value).ownBlock ∧ some k_ ≠ (s_.2.1 : Value).ownBlock ∧ some k_ ≠ (s_.2.2.1 : Value).ownBlock ∧ some k_ ≠ (.slice Ao41 t174.length co41 : Value).ownBlock ∧ some k_ ≠ (.slice Ao49 t214.length co49 : Value).ownBlock ∧ some k_ ≠ (.slice Ao67 t193.length co67 : Value).ownBlock) (.slice Ao58 t216.length co58) t216) ∧ (Kd.R (Kd.int .i64) 3 w' w.heap.size (fun k_ => some k_ ≠ (s_.1 : Value).ownBlock ∧ some k_ ≠ (s_.2.1 : Value).ownBlock ∧ some k_ ≠ (s_.2.2.1 : Value).ownBlock ∧ some k_ ≠ (.slice Ao41 t174.length co41 : Value).ownBlock ∧ some k_ ≠ (.slice Ao49 t214.length co49 : Value).ownBlock ∧ some k_ ≠ (.slice Ao58 t216.length co58 : Value).ownBlock) (.slice Ao67 t193.length co67) t219) ∧ (w'.heap[gb160]? = some (.cells #[.slice A0_0 l0_0.length c0_0, .int .i64 a0_1, .int .i64 a0_2] 24 (0, 0))) ∧ (w'.heap[gb161]? = some (.cells #[.slice A1_0 l1_0.length c1_0, .int .i64 a1_1, .int .i64 a1_2] 24 (0, 0))) ∧ (w'.heap[gb180]? = some (.cells #[.slice Ao41 t174.length co41, .int .i64 t177, .int .i64 t178] 26 (0, 0))) ∧ (w'.heap[gb186]? = some (.cells #[.slice Ao49 t214.length co49, .int .i64 t184, .int .i64 t185] 26 (0, 0))) ∧ (w'.heap[gb192]? = some (.cells #[.slice Ao58 t216.length co58, .int .i64 t190, .int .i64 t191] 26 (0, 0))) ∧ (w'.heap[gb199]? = some (.cells #[.slice Ao67 t193.length co67, .int .i64 t196, .int .i64 t197] 26 (0, 0))) ∧ (w'.heap[s_.2.2.2]? = some (.cells #[.slice none 0 0, .int .i64 0, .int .i64 0] 26 (0, 0))) ∧ (w.heap.size ≤ s_.2.2.2) ∧ (w.heap.size ≤ s_.2.2.2) ∧ (gb160 ≠ s_.2.2.2) ∧ (s_.2.2.2 ≠ gb160) ∧ (gb161 ≠ s_.2.2.2) ∧ (s_.2.2.2 ≠ gb161) ∧ (gb180 ≠ s_.2.2.2) ∧ (s_.2.2.2 ≠ gb180) ∧ (gb186 ≠ s_.2.2.2) ∧ (s_.2.2.2 ≠ gb186) ∧ (gb192 ≠ s_.2.2.2) ∧ (s_.2.2.2 ≠ gb192) ∧ (gb199 ≠ s_.2.2.2) ∧ (s_.2.2.2 ≠ gb199) ∧ (Below w.heap.size w w')) ?_ ?_
             rotate_left
             ·intro hCont
              refine two_ (i := 1) (j := 8) (Ni := some 96) (Nj := some 15) #[true, true, true, false, false, false, false, false, false, false, false] #[true, false, true, false, false, false, false, false, true, false, false] rfl rfl rfl rfl (two_of HT_.out (by kernel_rfl)) (by decide) (by decide) (fun K hK => ?_) (fun K hK => ?_)
              ·skip
               refine goes_ Try.func7 (by kernel_rfl) rfl #[.agg #[.slice A0_0 l0_0.length c0_0, .int .i64 a0_1, .int .i64 a0_2]] (by rfl) rfl rfl ll ?_
               with_reducible refine (laws_toMachine.calls kj108 _ _ l0_0 a0_1 a0_2 t221 t224 t225 _ ?side1 ?side2 A172.out).mono ?_
               (case side1 => repeat (first | exact (Kd.C_below HR0_0.out HB.out) | (with_reducible refine Kd.C_alloc ?_ _) | (with_reducible refine Kd.C_drewN ?_ _) | (with_reducible refine Kd.C_drew ?_)))
               (case side2 => exact HC0_0.out)
               rintro e w186 ⟨v222, rfl, ho0, hb⟩
               refine ⟨_, rfl, ?_⟩
               have n0_ := ke HO_181000 ho0 hb
               have n1_ := ke HO_187000 ho0 hb
               have n2_ := ke HO_193000 ho0 hb
               have n3_ := ke HO_200000 ho0 hb
               have n4_ := Aside0.mk (Kd.R_lower (Kd.R_new' (Kd.R_new' (Kd.R_new' (Kd.R_new' ho0 (Kd.R_lt (ra HO_181000.out))) (Kd.R_lt (ra HO_187000.out))) (Kd.R_lt (ra HO_193000.out))) (Kd.R_lt (ra HO_200000.out))) (below_size bb))
               have n5_ := kp BK160 hb
               have n6_ := kp BK161 hb
               have n7_ := kp BK180 hb
               have n8_ := kp BK186 hb
               have n9_ := kp BK192 hb
               have n10_ := kp BK199 hb
               have n11_ := Aside0.mk (below_step bb hb)
               clear HO_181000 HO_187000 HO_193000 HO_200000 BK160 BK161 BK180 BK186 BK192 BK199 HB
               have HO_181000 := n0_
               have HO_187000 := n1_
               have HO_193000 := n2_
               have HO_200000 := n3_
               have HO223 := n4_
               have BK160 := n5_
               have BK161 := n6_
               have BK180 := n7_
               have BK186 := n8_
               have BK192 := n9_
               have BK199 := n10_
               have HB := n11_
               clear n0_ n1_ n2_ n3_ n4_ n5_ n6_ n7_ n8_ n9_ n10_ n11_
               (try clear hb)
               (try clear hb2)
               (try clear hk)
               (try clear hi)
               (try clear ho0)
               refine hK.out _ _ ⟨(blk_cell BK160.out 0).trans rfl, (blk_cell BK160.out 1).trans rfl, (blk_cell BK160.out 2).trans rfl, (blk_cell BK161.out 0).trans rfl, (blk_cell BK161.out 1).trans rfl, (blk_cell BK161.out 2).trans rfl⟩ (fun hHeld => ?_)
               clear hK K
               refine norm_ (a' := ?_) ?_ ?_
               rotate_left
               ·show Act.put _ (some 96) _ = _
                simp only [Act.put, List.setIfInBounds_toArray, List.set_cons_zero, List.set_cons_succ, i64_w, i32_w]
                rfl
               refine two_ (i := 3) (j := 8) (Ni := some 98) (Nj := some 15) #[true, true, true, true, false, false, false, false, false, false, false] #[true, true, true, false, false, false, false, false, true, false, false] rfl rfl rfl rfl (two_of HT_.out (by kernel_rfl)) (by decide) (by decide) (fun K hK => ?_) (fun K hK => ?_)
               ·skip
                refine goes_ Try.func7 (by kernel_rfl) rfl #[.agg #[.slice A1_0 l1_0.length c1_0, .int .i64 a1_1, .int .i64 a1_2]] (by rfl) rfl rfl ll ?_
                with_reducible refine (laws_toMachine.calls kj108 _ _ l1_0 a1_1 a1_2 t226 t229 t230 _ ?side1 ?side2 A173.out).mono ?_
                (case side1 => repeat (first | exact (Kd.C_below HR1_0.out HB.out) | (with_reducible refine Kd.C_alloc ?_ _) | (with_reducible refine Kd.C_drewN ?_ _) | (with_reducible refine Kd.C_drew ?_)))
                (case side2 => exact HC1_0.out)
                rintro e w187 ⟨v227, rfl, ho0, hb⟩
                refine ⟨_, rfl, ?_⟩
                have n0_ := ke HO_181000 ho0 hb
                have n1_ := ke HO_187000 ho0 hb
                have n2_ := ke HO_193000 ho0 hb
                have n3_ := ke HO_200000 ho0 hb
                have n4_ := ke HO223 ho0 hb
                have n5_ := Aside0.mk (Kd.R_lower (Kd.R_new' (Kd.R_new' (Kd.R_new' (Kd.R_new' (Kd.R_new' ho0 (Kd.R_lt (ra HO_181000.out))) (Kd.R_lt (ra HO_187000.out))) (Kd.R_lt (ra HO_193000.out))) (Kd.R_lt (ra HO_200000.out))) (Kd.R_lt (ra HO223.out))) (below_size bb))
                have n6_ := kp BK160 hb
                have n7_ := kp BK161 hb
                have n8_ := kp BK180 hb
                have n9_ := kp BK186 hb
                have n10_ := kp BK192 hb
                have n11_ := kp BK199 hb
                have n12_ := Aside0.mk (below_step bb hb)
                clear HO_181000 HO_187000 HO_193000 HO_200000 HO223 BK160 BK161 BK180 BK186 BK192 BK199 HB
                have HO_181000 := n0_
                have HO_187000 := n1_
                have HO_193000 := n2_
                have HO_200000 := n3_
                have HO223 := n4_
                have HO228 := n5_
                have BK160 := n6_
                have BK161 := n7_
                have BK180 := n8_
                have BK186 := n9_
                have BK192 := n10_
                have BK199 := n11_
                have HB := n12_
                clear n0_ n1_ n2_ n3_ n4_ n5_ n6_ n7_ n8_ n9_ n10_ n11_ n12_
                (try clear hb)
                (try clear hb2)
                (try clear hk)
                (try clear hi)
                (try clear ho0)
                obtain ⟨Ao188, co188, eo188⟩ := Kd.R_slice HO223.out
                (first | subst eo188 | (injection eo188 with f1_ f2_ f3_; have f4_ := f1_.symm; have f5_ := f3_.symm; clear f1_ f2_ f3_; subst f4_; subst f5_))
                obtain ⟨Ao189, co189, eo189⟩ := Kd.R_slice HO228.out
                (first | subst eo189 | (injection eo189 with f1_ f2_ f3_; have f4_ := f1_.symm; have f5_ := f3_.symm; clear f1_ f2_ f3_; subst f4_; subst f5_))
                refine hK.out _ _ ⟨(blk_cell BK160.out 0).trans rfl, (blk_cell BK160.out 1).trans rfl, (blk_cell BK160.out 2).trans rfl, (blk_cell BK161.out 0).trans rfl, (blk_cell BK161.out 1).trans rfl, (blk_cell BK161.out 2).trans rfl⟩ (fun hHeld => ?_)
                clear hK K
                refine norm_ (a' := ?_) ?_ ?_
                rotate_left
                ·show Act.put _ (some 98) _ = _
                 simp only [Act.put, List.setIfInBounds_toArray, List.set_cons_zero, List.set_cons_succ, i64_w, i32_w]
                 rfl
                refine two_ (i := 4) (j := 8) (Ni := some 99) (Nj := some 15) #[true, true, true, true, true, false, false, false, false, false, false] #[true, true, true, true, false, false, false, false, true, false, false] rfl rfl rfl rfl (two_of HT_.out (by kernel_rfl)) (by decide) (by decide) (fun K hK => ?_) (fun K hK => ?_)
                ·skip
                 refine goes_ Try.func8 (by kernel_rfl) rfl #[.agg #[.slice Ao188 t221.length co188, .int .i64 t224, .int .i64 t225], .agg #[.slice Ao189 t226.length co189, .int .i64 t229, .int .i64 t230]] (by rfl) rfl rfl ll ?_
                 with_reducible refine (impl_MachBoth.calls kj108 _ _ t221 t224 t225 _ _ t226 t229 t230 t231 t234 t235 t236 _ ?side1 ?side2 ?side3 ?side4 A174.out).mono ?_
                 (case side1 => repeat (first | exact (Kd.R_reads' HO223.out).2.2 | (with_reducible refine Kd.C_alloc ?_ _) | (with_reducible refine Kd.C_drewN ?_ _) | (with_reducible refine Kd.C_drew ?_)))
                 (case side2 => exact (Kd.R_reads' HO223.out).2.1)
                 (case side3 => repeat (first | exact (Kd.R_reads' HO228.out).2.2 | (with_reducible refine Kd.C_alloc ?_ _) | (with_reducible refine Kd.C_drewN ?_ _) | (with_reducible refine Kd.C_drew ?_)))
                 (case side4 => exact (Kd.R_reads' HO228.out).2.1)
                 rintro e w190 ⟨v232, rfl, ho0, hb⟩
                 refine ⟨_, rfl, ?_⟩
                 have n0_ := ke HO_181000 ho0 hb
                 have n1_ := ke HO_187000 ho0 hb
                 have n2_ := ke HO_193000 ho0 hb
                 have n3_ := ke HO_200000 ho0 hb
                 have n4_ := ke HO223 ho0 hb
                 have n5_ := ke HO228 ho0 hb
                 have n6_ := Aside0.mk (Kd.R_lower (Kd.R_new' (Kd.R_new' (Kd.R_new' (Kd.R_new' (Kd.R_new' (Kd.R_new' ho0 (Kd.R_lt (ra HO_181000.out))) (Kd.R_lt (ra HO_187000.out))) (Kd.R_lt (ra HO_193000.out))) (Kd.R_lt (ra HO_200000.out))) (Kd.R_lt (ra HO223.out))) (Kd.R_lt (ra HO228.out))) (below_size bb))
                 have n7_ := kp BK160 hb
                 have n8_ := kp BK161 hb
                 have n9_ := kp BK180 hb
                 have n10_ := kp BK186 hb
                 have n11_ := kp BK192 hb
                 have n12_ := kp BK199 hb
                 have n13_ := Aside0.mk (below_step bb hb)
                 clear HO_181000 HO_187000 HO_193000 HO_200000 HO223 HO228 BK160 BK161 BK180 BK186 BK192 BK199 HB
                 have HO_181000 := n0_
                 have HO_187000 := n1_
                 have HO_193000 := n2_
                 have HO_200000 := n3_
                 have HO223 := n4_
                 have HO228 := n5_
                 have HO233 := n6_
                 have BK160 := n7_
                 have BK161 := n8_
                 have BK180 := n9_
                 have BK186 := n10_
                 have BK192 := n11_
                 have BK199 := n12_
                 have HB := n13_
                 clear n0_ n1_ n2_ n3_ n4_ n5_ n6_ n7_ n8_ n9_ n10_ n11_ n12_ n13_
                 (try clear hb)
                 (try clear hb2)
                 (try clear hk)
                 (try clear hi)
                 (try clear ho0)
                 refine hK.out _ _ ⟨(blk_cell BK160.out 0).trans rfl, (blk_cell BK160.out 1).trans rfl, (blk_cell BK160.out 2).trans rfl, (blk_cell BK161.out 0).trans rfl, (blk_cell BK161.out 1).trans rfl, (blk_cell BK161.out 2).trans rfl⟩ (fun hHeld => ?_)
                 clear hK K
                 refine norm_ (a' := ?_) ?_ ?_
                 rotate_left
                 ·show Act.put _ (some 99) _ = _
                  simp only [Act.put, List.setIfInBounds_toArray, List.set_cons_zero, List.set_cons_succ, i64_w, i32_w]
                  rfl
                 refine pure_ (i := 5) (N := some 94) (v := ?_) (a' := ?_) #[true, true, true, true, true, true, false, false, false, false, false] rfl rfl (any_of HT_.out (by kernel_rfl)) (fun _ _ _ h => h) (Or.inl ⟨by rfl, ?_⟩) ?_ ?_
                 rotate_left
                 ·intro w'
                  go_simp
                  with_reducible rfl
                 rotate_left
                 ·simp only [Act.put, List.setIfInBounds_toArray, List.set_cons_zero, List.set_cons_succ, i64_w, i32_w]
                  rfl
                 refine pure_ (i := 6) (N := some 100) (v := ?_) (a' := ?_) #[true, true, true, true, true, true, true, false, false, false, false] rfl rfl (any_of HT_.out (by kernel_rfl)) (fun _ _ _ h => h) (Or.inl ⟨by rfl, ?_⟩) ?_ ?_
                 rotate_left
                 ·intro w'
                  go_simp
                  with_reducible rfl
                 rotate_left
                 ·simp only [Act.put, List.setIfInBounds_toArray, List.set_cons_zero, List.set_cons_succ, i64_w, i32_w]
                  rfl
                 refine pure_ (i := 7) (N := some 101) (v := ?_) (a' := ?_) #[true, true, true, true, true, true, true, true, false, false, false] rfl rfl (any_of HT_.out (by kernel_rfl)) (fun _ _ _ h => h) (Or.inl ⟨by rfl, ?_⟩) ?_ ?_
                 rotate_left
                 ·intro w'
                  go_simp
                  with_reducible rfl
                 rotate_left
                 ·simp only [Act.put, List.setIfInBounds_toArray, List.set_cons_zero, List.set_cons_succ, i64_w, i32_w]
                  rfl
                 refine one_ (i := 8) (N := some 15) #[true, true, true, true, true, true, true, true, true, false, false] rfl rfl (one_of HT_.out (by kernel_rfl)) (by decide) (fun K hK => ?_)
                 refine box_step ?hg (N := 15) ?hd (cs := #[.slice none 0 0, .int .i64 0, .int .i64 0]) (t := 26) ?hr ?_; (case hd => rfl); (case hg => rfl); (case hr => first | (go_simp; done) | (go_simp; rfl))
                 intro gb237 hg w191 hbox hb
                 have n0_ := kb HO_181000 hb
                 have n1_ := kb HO_187000 hb
                 have n2_ := kb HO_193000 hb
                 have n3_ := kb HO_200000 hb
                 have n4_ := kb HO223 hb
                 have n5_ := kb HO228 hb
                 have n6_ := kb HO233 hb
                 have n7_ := kp BK160 hb
                 have n8_ := kp BK161 hb
                 have n9_ := kp BK180 hb
                 have n10_ := kp BK186 hb
                 have n11_ := kp BK192 hb
                 have n12_ := kp BK199 hb
                 have n13_ := Aside0.mk (below_step bb hb)
                 have n14_ := Aside0.mk (hbox)
                 have n15_ := Aside0.mk ((by rw [hg]; exact (below_size bb) : w.heap.size ≤ gb237))
                 have n16_ := Aside0.mk ((by rw [hg]; exact (below_size bb) : w.heap.size ≤ gb237))
                 have n17_ := Aside0.mk (nl BK160 hg)
                 have n18_ := Aside0.mk (nl BK160 hg).symm
                 have n19_ := Aside0.mk (nl BK161 hg)
                 have n20_ := Aside0.mk (nl BK161 hg).symm
                 have n21_ := Aside0.mk (nl BK180 hg)
                 have n22_ := Aside0.mk (nl BK180 hg).symm
                 have n23_ := Aside0.mk (nl BK186 hg)
                 have n24_ := Aside0.mk (nl BK186 hg).symm
                 have n25_ := Aside0.mk (nl BK192 hg)
                 have n26_ := Aside0.mk (nl BK192 hg).symm
                 have n27_ := Aside0.mk (nl BK199 hg)
                 have n28_ := Aside0.mk (nl BK199 hg).symm
                 clear HO_181000 HO_187000 HO_193000 HO_200000 HO223 HO228 HO233 BK160 BK161 BK180 BK186 BK192 BK199 HB
                 have HO_181000 := n0_
                 have HO_187000 := n1_
                 have HO_193000 := n2_
                 have HO_200000 := n3_
                 have HO223 := n4_
                 have HO228 := n5_
                 have HO233 := n6_
                 have BK160 := n7_
                 have BK161 := n8_
                 have BK180 := n9_
                 have BK186 := n10_
                 have BK192 := n11_
                 have BK199 := n12_
                 have HB := n13_
                 have BK237 := n14_
                 have GW237 := n15_
                 have GE237 := n16_
                 have NB160_237 := n17_
                 have NB237_160 := n18_
                 have NB161_237 := n19_
                 have NB237_161 := n20_
                 have NB180_237 := n21_
                 have NB237_180 := n22_
                 have NB186_237 := n23_
                 have NB237_186 := n24_
                 have NB192_237 := n25_
                 have NB237_192 := n26_
                 have NB199_237 := n27_
                 have NB237_199 := n28_
                 clear n0_ n1_ n2_ n3_ n4_ n5_ n6_ n7_ n8_ n9_ n10_ n11_ n12_ n13_ n14_ n15_ n16_ n17_ n18_ n19_ n20_ n21_ n22_ n23_ n24_ n25_ n26_ n27_ n28_
                 clear hb hbox hg
                 refine hK.out _ _ ⟨(blk_cell BK160.out 0).trans rfl, (blk_cell BK160.out 1).trans rfl, (blk_cell BK160.out 2).trans rfl, (blk_cell BK161.out 0).trans rfl, (blk_cell BK161.out 1).trans rfl, (blk_cell BK161.out 2).trans rfl⟩ (fun hHeld => ?_)
                 clear hK K
                 refine norm_ (a' := ?_) ?_ ?_
                 rotate_left
                 ·show Act.put _ (some 15) _ = _
                  simp only [Act.put, List.setIfInBounds_toArray, List.set_cons_zero, List.set_cons_succ, i64_w, i32_w]
                  rfl
                 exact norm_ (by simp only [putAll, Act.put, List.setIfInBounds_toArray, List.set_cons_zero, List.set_cons_succ]) (hCont (.slice Ao188 t221.length co188, .slice Ao189 t226.length co189, v232, gb237) _ ⟨hHeld, (rm HO223.out (fun _ hk => by first | exact ⟨hk.1.2, ⟨hk.2, ⟨hk.1.1.1.1.1.2, ⟨hk.1.1.1.1.2, ⟨hk.1.1.1.2, hk.1.1.2⟩⟩⟩⟩⟩ | (simp_all; done) | grind)), (rm HO228.out (fun _ hk => by first | exact ⟨hk.1.2, ⟨hk.2, ⟨hk.1.1.1.1.1.2, ⟨hk.1.1.1.1.2, ⟨hk.1.1.1.2, hk.1.1.2⟩⟩⟩⟩⟩ | (simp_all; done) | grind)), (rm HO233.out (fun _ hk => by first | exact ⟨hk.1.2, ⟨hk.2, ⟨hk.1.1.1.1.1.2, ⟨hk.1.1.1.1.2, ⟨hk.1.1.1.2, hk.1.1.2⟩⟩⟩⟩⟩ | (simp_all; done) | grind)), (rm HO_181000.out (fun _ hk => by first | exact ⟨hk.1.1.2, ⟨hk.1.2, ⟨hk.2, ⟨hk.1.1.1.1, ⟨hk.1.1.1.2.1, hk.1.1.1.2.2⟩⟩⟩⟩⟩ | (simp_all; done) | grind)), (rm HO_187000.out (fun _ hk => by first | exact ⟨hk.1.1.2, ⟨hk.1.2, ⟨hk.2, ⟨hk.1.1.1.1, ⟨hk.1.1.1.2.1, hk.1.1.1.2.2⟩⟩⟩⟩⟩ | (simp_all; done) | grind)), (rm HO_193000.out (fun _ hk => by first | exact ⟨hk.1.1.2, ⟨hk.1.2, ⟨hk.2, ⟨hk.1.1.1.1, ⟨hk.1.1.1.2.1, hk.1.1.1.2.2⟩⟩⟩⟩⟩ | (simp_all; done) | grind)), (rm HO_200000.out (fun _ hk => by first | exact ⟨hk.1.1.2, ⟨hk.1.2, ⟨hk.2, ⟨hk.1.1.1.1, ⟨hk.1.1.1.2.1, hk.1.1.1.2.2⟩⟩⟩⟩⟩ | (simp_all; done) | grind)), (rc BK160.out), (rc BK161.out), (rc BK180.out), (rc BK186.out), (rc BK192.out), (rc BK199.out), (rc BK237.out), GW237.out, GE237.out, NB160_237.out, NB237_160.out, NB161_237.out, NB237_161.out, NB180_237.out, NB237_180.out, NB186_237.out, NB237_186.out, NB192_237.out, NB237_192.out, NB199_237.out, NB237_199.out, bb⟩)
                ·skip
                 refine box_step ?hg (N := 15) ?hd (cs := #[.slice none 0 0, .int .i64 0, .int .i64 0]) (t := 26) ?hr ?_; (case hd => rfl); (case hg => rfl); (case hr => first | (go_simp; done) | (go_simp; rfl))
                 intro gb237 hg w188 hbox hb
                 have n0_ := kb HO_181000 hb
                 have n1_ := kb HO_187000 hb
                 have n2_ := kb HO_193000 hb
                 have n3_ := kb HO_200000 hb
                 have n4_ := kb HO223 hb
                 have n5_ := kb HO228 hb
                 have n6_ := kp BK160 hb
                 have n7_ := kp BK161 hb
                 have n8_ := kp BK180 hb
                 have n9_ := kp BK186 hb
                 have n10_ := kp BK192 hb
                 have n11_ := kp BK199 hb
                 have n12_ := Aside0.mk (below_step bb hb)
                 have n13_ := Aside0.mk (hbox)
                 have n14_ := Aside0.mk ((by rw [hg]; exact (below_size bb) : w.heap.size ≤ gb237))
                 have n15_ := Aside0.mk ((by rw [hg]; exact (below_size bb) : w.heap.size ≤ gb237))
                 have n16_ := Aside0.mk (nl BK160 hg)
                 have n17_ := Aside0.mk (nl BK160 hg).symm
                 have n18_ := Aside0.mk (nl BK161 hg)
                 have n19_ := Aside0.mk (nl BK161 hg).symm
                 have n20_ := Aside0.mk (nl BK180 hg)
                 have n21_ := Aside0.mk (nl BK180 hg).symm
                 have n22_ := Aside0.mk (nl BK186 hg)
                 have n23_ := Aside0.mk (nl BK186 hg).symm
                 have n24_ := Aside0.mk (nl BK192 hg)
                 have n25_ := Aside0.mk (nl BK192 hg).symm
                 have n26_ := Aside0.mk (nl BK199 hg)
                 have n27_ := Aside0.mk (nl BK199 hg).symm
                 clear HO_181000 HO_187000 HO_193000 HO_200000 HO223 HO228 BK160 BK161 BK180 BK186 BK192 BK199 HB
                 have HO_181000 := n0_
                 have HO_187000 := n1_
                 have HO_193000 := n2_
                 have HO_200000 := n3_
                 have HO223 := n4_
                 have HO228 := n5_
                 have BK160 := n6_
                 have BK161 := n7_
                 have BK180 := n8_
                 have BK186 := n9_
                 have BK192 := n10_
                 have BK199 := n11_
                 have HB := n12_
                 have BK237 := n13_
                 have GW237 := n14_
                 have GE237 := n15_
                 have NB160_237 := n16_
                 have NB237_160 := n17_
                 have NB161_237 := n18_
                 have NB237_161 := n19_
                 have NB180_237 := n20_
                 have NB237_180 := n21_
                 have NB186_237 := n22_
                 have NB237_186 := n23_
                 have NB192_237 := n24_
                 have NB237_192 := n25_
                 have NB199_237 := n26_
                 have NB237_199 := n27_
                 clear n0_ n1_ n2_ n3_ n4_ n5_ n6_ n7_ n8_ n9_ n10_ n11_ n12_ n13_ n14_ n15_ n16_ n17_ n18_ n19_ n20_ n21_ n22_ n23_ n24_ n25_ n26_ n27_
                 clear hb hbox hg
                 obtain ⟨Ao189, co189, eo189⟩ := Kd.R_slice HO223.out
                 (first | subst eo189 | (injection eo189 with f1_ f2_ f3_; have f4_ := f1_.symm; have f5_ := f3_.symm; clear f1_ f2_ f3_; subst f4_; subst f5_))
                 obtain ⟨Ao190, co190, eo190⟩ := Kd.R_slice HO228.out
                 (first | subst eo190 | (injection eo190 with f1_ f2_ f3_; have f4_ := f1_.symm; have f5_ := f3_.symm; clear f1_ f2_ f3_; subst f4_; subst f5_))
                 refine hK.out _ _ ⟨(blk_cell BK160.out 0).trans rfl, (blk_cell BK160.out 1).trans rfl, (blk_cell BK160.out 2).trans rfl, (blk_cell BK161.out 0).trans rfl, (blk_cell BK161.out 1).trans rfl, (blk_cell BK161.out 2).trans rfl⟩ (fun hHeld => ?_)
                 clear hK K
                 refine norm_ (a' := ?_) ?_ ?_
                 rotate_left
                 ·show Act.put _ (some 15) _ = _
                  simp only [Act.put, List.setIfInBounds_toArray, List.set_cons_zero, List.set_cons_succ, i64_w, i32_w]
                  rfl
                 refine one_ (i := 4) (N := some 99) #[true, true, true, true, true, false, false, false, true, false, false] rfl rfl (one_of HT_.out (by kernel_rfl)) (by decide) (fun K hK => ?_)
                 refine goes_ Try.func8 (by kernel_rfl) rfl #[.agg #[.slice Ao189 t221.length co189, .int .i64 t224, .int .i64 t225], .agg #[.slice Ao190 t226.length co190, .int .i64 t229, .int .i64 t230]] (by rfl) rfl rfl ll ?_
                 with_reducible refine (impl_MachBoth.calls kj108 _ _ t221 t224 t225 _ _ t226 t229 t230 t231 t234 t235 t236 _ ?side1 ?side2 ?side3 ?side4 A174.out).mono ?_
                 (case side1 => repeat (first | exact (Kd.R_reads' HO223.out).2.2 | (with_reducible refine Kd.C_alloc ?_ _) | (with_reducible refine Kd.C_drewN ?_ _) | (with_reducible refine Kd.C_drew ?_)))
                 (case side2 => exact (Kd.R_reads' HO223.out).2.1)
                 (case side3 => repeat (first | exact (Kd.R_reads' HO228.out).2.2 | (with_reducible refine Kd.C_alloc ?_ _) | (with_reducible refine Kd.C_drewN ?_ _) | (with_reducible refine Kd.C_drew ?_)))
                 (case side4 => exact (Kd.R_reads' HO228.out).2.1)
                 rintro e w191 ⟨v232, rfl, ho0, hb⟩
                 refine ⟨_, rfl, ?_⟩
                 have n0_ := ke HO_181000 ho0 hb
                 have n1_ := ke HO_187000 ho0 hb
                 have n2_ := ke HO_193000 ho0 hb
                 have n3_ := ke HO_200000 ho0 hb
                 have n4_ := ke HO223 ho0 hb
                 have n5_ := ke HO228 ho0 hb
                 have n6_ := Aside0.mk (Kd.R_lower (Kd.R_new' (Kd.R_new' (Kd.R_new' (Kd.R_new' (Kd.R_new' (Kd.R_new' ho0 (Kd.R_lt (ra HO_181000.out))) (Kd.R_lt (ra HO_187000.out))) (Kd.R_lt (ra HO_193000.out))) (Kd.R_lt (ra HO_200000.out))) (Kd.R_lt (ra HO223.out))) (Kd.R_lt (ra HO228.out))) (below_size bb))
                 have n7_ := kp BK160 hb
                 have n8_ := kp BK161 hb
                 have n9_ := kp BK180 hb
                 have n10_ := kp BK186 hb
                 have n11_ := kp BK192 hb
                 have n12_ := kp BK199 hb
                 have n13_ := kp BK237 hb
                 have n14_ := Aside0.mk (below_step bb hb)
                 clear HO_181000 HO_187000 HO_193000 HO_200000 HO223 HO228 BK160 BK161 BK180 BK186 BK192 BK199 BK237 HB
                 have HO_181000 := n0_
                 have HO_187000 := n1_
                 have HO_193000 := n2_
                 have HO_200000 := n3_
                 have HO223 := n4_
                 have HO228 := n5_
                 have HO233 := n6_
                 have BK160 := n7_
                 have BK161 := n8_
                 have BK180 := n9_
                 have BK186 := n10_
                 have BK192 := n11_
                 have BK199 := n12_
                 have BK237 := n13_
                 have HB := n14_
                 clear n0_ n1_ n2_ n3_ n4_ n5_ n6_ n7_ n8_ n9_ n10_ n11_ n12_ n13_ n14_
                 (try clear hb)
                 (try clear hb2)
                 (try clear hk)
                 (try clear hi)
                 (try clear ho0)
                 refine hK.out _ _ ⟨(blk_cell BK160.out 0).trans rfl, (blk_cell BK160.out 1).trans rfl, (blk_cell BK160.out 2).trans rfl, (blk_cell BK161.out 0).trans rfl, (blk_cell BK161.out 1).trans rfl, (blk_cell BK161.out 2).trans rfl⟩ (fun hHeld => ?_)
                 clear hK K
                 refine norm_ (a' := ?_) ?_ ?_
                 rotate_left
                 ·show Act.put _ (some 99) _ = _
                  simp only [Act.put, List.setIfInBounds_toArray, List.set_cons_zero, List.set_cons_succ, i64_w, i32_w]
                  rfl
                 refine pure_ (i := 5) (N := some 94) (v := ?_) (a' := ?_) #[true, true, true, true, true, true, false, false, true, false, false] rfl rfl (any_of HT_.out (by kernel_rfl)) (fun _ _ _ h => h) (Or.inl ⟨by rfl, ?_⟩) ?_ ?_
                 rotate_left
                 ·intro w'
                  go_simp
                  with_reducible rfl
                 rotate_left
                 ·simp only [Act.put, List.setIfInBounds_toArray, List.set_cons_zero, List.set_cons_succ, i64_w, i32_w]
                  rfl
                 refine pure_ (i := 6) (N := some 100) (v := ?_) (a' := ?_) #[true, true, true, true, true, true, true, false, true, false, false] rfl rfl (any_of HT_.out (by kernel_rfl)) (fun _ _ _ h => h) (Or.inl ⟨by rfl, ?_⟩) ?_ ?_
                 rotate_left
                 ·intro w'
                  go_simp
                  with_reducible rfl
                 rotate_left
                 ·simp only [Act.put, List.setIfInBounds_toArray, List.set_cons_zero, List.set_cons_succ, i64_w, i32_w]
                  rfl
                 refine pure_ (i := 7) (N := some 101) (v := ?_) (a' := ?_) #[true, true, true, true, true, true, true, true, true, false, false] rfl rfl (any_of HT_.out (by kernel_rfl)) (fun _ _ _ h => h) (Or.inl ⟨by rfl, ?_⟩) ?_ ?_
                 rotate_left
                 ·intro w'
                  go_simp
                  with_reducible rfl
                 rotate_left
                 ·simp only [Act.put, List.setIfInBounds_toArray, List.set_cons_zero, List.set_cons_succ, i64_w, i32_w]
                  rfl
                 exact norm_ (by simp only [putAll, Act.put, List.setIfInBounds_toArray, List.set_cons_zero, List.set_cons_succ]) (hCont (.slice Ao189 t221.length co189, .slice Ao190 t226.length co190, v232, gb237) _ ⟨hHeld, (rm HO223.out (fun _ hk => by first | exact ⟨hk.1.2, ⟨hk.2, ⟨hk.1.1.1.1.1.2, ⟨hk.1.1.1.1.2, ⟨hk.1.1.1.2, hk.1.1.2⟩⟩⟩⟩⟩ | (simp_all; done) | grind)), (rm HO228.out (fun _ hk => by first | exact ⟨hk.1.2, ⟨hk.2, ⟨hk.1.1.1.1.1.2, ⟨hk.1.1.1.1.2, ⟨hk.1.1.1.2, hk.1.1.2⟩⟩⟩⟩⟩ | (simp_all; done) | grind)), (rm HO233.out (fun _ hk => by first | exact ⟨hk.1.2, ⟨hk.2, ⟨hk.1.1.1.1.1.2, ⟨hk.1.1.1.1.2, ⟨hk.1.1.1.2, hk.1.1.2⟩⟩⟩⟩⟩ | (simp_all; done) | grind)), (rm HO_181000.out (fun _ hk => by first | exact ⟨hk.1.1.2, ⟨hk.1.2, ⟨hk.2, ⟨hk.1.1.1.1, ⟨hk.1.1.1.2.1, hk.1.1.1.2.2⟩⟩⟩⟩⟩ | (simp_all; done) | grind)), (rm HO_187000.out (fun _ hk => by first | exact ⟨hk.1.1.2, ⟨hk.1.2, ⟨hk.2, ⟨hk.1.1.1.1, ⟨hk.1.1.1.2.1, hk.1.1.1.2.2⟩⟩⟩⟩⟩ | (simp_all; done) | grind)), (rm HO_193000.out (fun _ hk => by first | exact ⟨hk.1.1.2, ⟨hk.1.2, ⟨hk.2, ⟨hk.1.1.1.1, ⟨hk.1.1.1.2.1, hk.1.1.1.2.2⟩⟩⟩⟩⟩ | (simp_all; done) | grind)), (rm HO_200000.out (fun _ hk => by first | exact ⟨hk.1.1.2, ⟨hk.1.2, ⟨hk.2, ⟨hk.1.1.1.1, ⟨hk.1.1.1.2.1, hk.1.1.1.2.2⟩⟩⟩⟩⟩ | (simp_all; done) | grind)), (rc BK160.out), (rc BK161.out), (rc BK180.out), (rc BK186.out), (rc BK192.out), (rc BK199.out), (rc BK237.out), GW237.out, GE237.out, NB160_237.out, NB237_160.out, NB161_237.out, NB237_161.out, NB180_237.out, NB237_180.out, NB186_237.out, NB237_186.out, NB192_237.out, NB237_192.out, NB199_237.out, NB237_199.out, bb⟩)
               ·skip
                refine box_step ?hg (N := 15) ?hd (cs := #[.slice none 0 0, .int .i64 0, .int .i64 0]) (t := 26) ?hr ?_; (case hd => rfl); (case hg => rfl); (case hr => first | (go_simp; done) | (go_simp; rfl))
                intro gb237 hg w187 hbox hb
                have n0_ := kb HO_181000 hb
                have n1_ := kb HO_187000 hb
                have n2_ := kb HO_193000 hb
                have n3_ := kb HO_200000 hb
                have n4_ := kb HO223 hb
                have n5_ := kp BK160 hb
                have n6_ := kp BK161 hb
                have n7_ := kp BK180 hb
                have n8_ := kp BK186 hb
                have n9_ := kp BK192 hb
                have n10_ := kp BK199 hb
                have n11_ := Aside0.mk (below_step bb hb)
                have n12_ := Aside0.mk (hbox)
                have n13_ := Aside0.mk ((by rw [hg]; exact (below_size bb) : w.heap.size ≤ gb237))
                have n14_ := Aside0.mk ((by rw [hg]; exact (below_size bb) : w.heap.size ≤ gb237))
                have n15_ := Aside0.mk (nl BK160 hg)
                have n16_ := Aside0.mk (nl BK160 hg).symm
                have n17_ := Aside0.mk (nl BK161 hg)
                have n18_ := Aside0.mk (nl BK161 hg).symm
                have n19_ := Aside0.mk (nl BK180 hg)
                have n20_ := Aside0.mk (nl BK180 hg).symm
                have n21_ := Aside0.mk (nl BK186 hg)
                have n22_ := Aside0.mk (nl BK186 hg).symm
                have n23_ := Aside0.mk (nl BK192 hg)
                have n24_ := Aside0.mk (nl BK192 hg).symm
                have n25_ := Aside0.mk (nl BK199 hg)
                have n26_ := Aside0.mk (nl BK199 hg).symm
                clear HO_181000 HO_187000 HO_193000 HO_200000 HO223 BK160 BK161 BK180 BK186 BK192 BK199 HB
                have HO_181000 := n0_
                have HO_187000 := n1_
                have HO_193000 := n2_
                have HO_200000 := n3_
                have HO223 := n4_
                have BK160 := n5_
                have BK161 := n6_
                have BK180 := n7_
                have BK186 := n8_
                have BK192 := n9_
                have BK199 := n10_
                have HB := n11_
                have BK237 := n12_
                have GW237 := n13_
                have GE237 := n14_
                have NB160_237 := n15_
                have NB237_160 := n16_
                have NB161_237 := n17_
                have NB237_161 := n18_
                have NB180_237 := n19_
                have NB237_180 := n20_
                have NB186_237 := n21_
                have NB237_186 := n22_
                have NB192_237 := n23_
                have NB237_192 := n24_
                have NB199_237 := n25_
                have NB237_199 := n26_
                clear n0_ n1_ n2_ n3_ n4_ n5_ n6_ n7_ n8_ n9_ n10_ n11_ n12_ n13_ n14_ n15_ n16_ n17_ n18_ n19_ n20_ n21_ n22_ n23_ n24_ n25_ n26_
                clear hb hbox hg
                refine hK.out _ _ ⟨(blk_cell BK160.out 0).trans rfl, (blk_cell BK160.out 1).trans rfl, (blk_cell BK160.out 2).trans rfl, (blk_cell BK161.out 0).trans rfl, (blk_cell BK161.out 1).trans rfl, (blk_cell BK161.out 2).trans rfl⟩ (fun hHeld => ?_)
                clear hK K
                refine norm_ (a' := ?_) ?_ ?_
                rotate_left
                ·show Act.put _ (some 15) _ = _
                 simp only [Act.put, List.setIfInBounds_toArray, List.set_cons_zero, List.set_cons_succ, i64_w, i32_w]
                 rfl
                refine one_ (i := 3) (N := some 98) #[true, true, true, true, false, false, false, false, true, false, false] rfl rfl (one_of HT_.out (by kernel_rfl)) (by decide) (fun K hK => ?_)
                refine goes_ Try.func7 (by kernel_rfl) rfl #[.agg #[.slice A1_0 l1_0.length c1_0, .int .i64 a1_1, .int .i64 a1_2]] (by rfl) rfl rfl ll ?_
                with_reducible refine (laws_toMachine.calls kj108 _ _ l1_0 a1_1 a1_2 t226 t229 t230 _ ?side1 ?side2 A173.out).mono ?_
                (case side1 => repeat (first | exact (Kd.C_below HR1_0.out HB.out) | (with_reducible refine Kd.C_alloc ?_ _) | (with_reducible refine Kd.C_drewN ?_ _) | (with_reducible refine Kd.C_drew ?_)))
                (case side2 => exact HC1_0.out)
                rintro e w188 ⟨v227, rfl, ho0, hb⟩
                refine ⟨_, rfl, ?_⟩
                have n0_ := ke HO_181000 ho0 hb
                have n1_ := ke HO_187000 ho0 hb
                have n2_ := ke HO_193000 ho0 hb
                have n3_ := ke HO_200000 ho0 hb
                have n4_ := ke HO223 ho0 hb
                have n5_ := Aside0.mk (Kd.R_lower (Kd.R_new' (Kd.R_new' (Kd.R_new' (Kd.R_new' (Kd.R_new' ho0 (Kd.R_lt (ra HO_181000.out))) (Kd.R_lt (ra HO_187000.out))) (Kd.R_lt (ra HO_193000.out))) (Kd.R_lt (ra HO_200000.out))) (Kd.R_lt (ra HO223.out))) (below_size bb))
                have n6_ := kp BK160 hb
                have n7_ := kp BK161 hb
                have n8_ := kp BK180 hb
                have n9_ := kp BK186 hb
                have n10_ := kp BK192 hb
                have n11_ := kp BK199 hb
                have n12_ := kp BK237 hb
                have n13_ := Aside0.mk (below_step bb hb)
                clear HO_181000 HO_187000 HO_193000 HO_200000 HO223 BK160 BK161 BK180 BK186 BK192 BK199 BK237 HB
                have HO_181000 := n0_
                have HO_187000 := n1_
                have HO_193000 := n2_
                have HO_200000 := n3_
                have HO223 := n4_
                have HO228 := n5_
                have BK160 := n6_
                have BK161 := n7_
                have BK180 := n8_
                have BK186 := n9_
                have BK192 := n10_
                have BK199 := n11_
                have BK237 := n12_
                have HB := n13_
                clear n0_ n1_ n2_ n3_ n4_ n5_ n6_ n7_ n8_ n9_ n10_ n11_ n12_ n13_
                (try clear hb)
                (try clear hb2)
                (try clear hk)
                (try clear hi)
                (try clear ho0)
                obtain ⟨Ao189, co189, eo189⟩ := Kd.R_slice HO223.out
                (first | subst eo189 | (injection eo189 with f1_ f2_ f3_; have f4_ := f1_.symm; have f5_ := f3_.symm; clear f1_ f2_ f3_; subst f4_; subst f5_))
                obtain ⟨Ao190, co190, eo190⟩ := Kd.R_slice HO228.out
                (first | subst eo190 | (injection eo190 with f1_ f2_ f3_; have f4_ := f1_.symm; have f5_ := f3_.symm; clear f1_ f2_ f3_; subst f4_; subst f5_))
                refine hK.out _ _ ⟨(blk_cell BK160.out 0).trans rfl, (blk_cell BK160.out 1).trans rfl, (blk_cell BK160.out 2).trans rfl, (blk_cell BK161.out 0).trans rfl, (blk_cell BK161.out 1).trans rfl, (blk_cell BK161.out 2).trans rfl⟩ (fun hHeld => ?_)
                clear hK K
                refine norm_ (a' := ?_) ?_ ?_
                rotate_left
                ·show Act.put _ (some 98) _ = _
                 simp only [Act.put, List.setIfInBounds_toArray, List.set_cons_zero, List.set_cons_succ, i64_w, i32_w]
                 rfl
                refine one_ (i := 4) (N := some 99) #[true, true, true, true, true, false, false, false, true, false, false] rfl rfl (one_of HT_.out (by kernel_rfl)) (by decide) (fun K hK => ?_)
                refine goes_ Try.func8 (by kernel_rfl) rfl #[.agg #[.slice Ao189 t221.length co189, .int .i64 t224, .int .i64 t225], .agg #[.slice Ao190 t226.length co190, .int .i64 t229, .int .i64 t230]] (by rfl) rfl rfl ll ?_
                with_reducible refine (impl_MachBoth.calls kj108 _ _ t221 t224 t225 _ _ t226 t229 t230 t231 t234 t235 t236 _ ?side1 ?side2 ?side3 ?side4 A174.out).mono ?_
                (case side1 => repeat (first | exact (Kd.R_reads' HO223.out).2.2 | (with_reducible refine Kd.C_alloc ?_ _) | (with_reducible refine Kd.C_drewN ?_ _) | (with_reducible refine Kd.C_drew ?_)))
                (case side2 => exact (Kd.R_reads' HO223.out).2.1)
                (case side3 => repeat (first | exact (Kd.R_reads' HO228.out).2.2 | (with_reducible refine Kd.C_alloc ?_ _) | (with_reducible refine Kd.C_drewN ?_ _) | (with_reducible refine Kd.C_drew ?_)))
                (case side4 => exact (Kd.R_reads' HO228.out).2.1)
                rintro e w191 ⟨v232, rfl, ho0, hb⟩
                refine ⟨_, rfl, ?_⟩
                have n0_ := ke HO_181000 ho0 hb
                have n1_ := ke HO_187000 ho0 hb
                have n2_ := ke HO_193000 ho0 hb
                have n3_ := ke HO_200000 ho0 hb
                have n4_ := ke HO223 ho0 hb
                have n5_ := ke HO228 ho0 hb
                have n6_ := Aside0.mk (Kd.R_lower (Kd.R_new' (Kd.R_new' (Kd.R_new' (Kd.R_new' (Kd.R_new' (Kd.R_new' ho0 (Kd.R_lt (ra HO_181000.out))) (Kd.R_lt (ra HO_187000.out))) (Kd.R_lt (ra HO_193000.out))) (Kd.R_lt (ra HO_200000.out))) (Kd.R_lt (ra HO223.out))) (Kd.R_lt (ra HO228.out))) (below_size bb))
                have n7_ := kp BK160 hb
                have n8_ := kp BK161 hb
                have n9_ := kp BK180 hb
                have n10_ := kp BK186 hb
                have n11_ := kp BK192 hb
                have n12_ := kp BK199 hb
                have n13_ := kp BK237 hb
                have n14_ := Aside0.mk (below_step bb hb)
                clear HO_181000 HO_187000 HO_193000 HO_200000 HO223 HO228 BK160 BK161 BK180 BK186 BK192 BK199 BK237 HB
                have HO_181000 := n0_
                have HO_187000 := n1_
                have HO_193000 := n2_
                have HO_200000 := n3_
                have HO223 := n4_
                have HO228 := n5_
                have HO233 := n6_
                have BK160 := n7_
                have BK161 := n8_
                have BK180 := n9_
                have BK186 := n10_
                have BK192 := n11_
                have BK199 := n12_
                have BK237 := n13_
                have HB := n14_
                clear n0_ n1_ n2_ n3_ n4_ n5_ n6_ n7_ n8_ n9_ n10_ n11_ n12_ n13_ n14_
                (try clear hb)
                (try clear hb2)
                (try clear hk)
                (try clear hi)
                (try clear ho0)
                refine hK.out _ _ ⟨(blk_cell BK160.out 0).trans rfl, (blk_cell BK160.out 1).trans rfl, (blk_cell BK160.out 2).trans rfl, (blk_cell BK161.out 0).trans rfl, (blk_cell BK161.out 1).trans rfl, (blk_cell BK161.out 2).trans rfl⟩ (fun hHeld => ?_)
                clear hK K
                refine norm_ (a' := ?_) ?_ ?_
                rotate_left
                ·show Act.put _ (some 99) _ = _
                 simp only [Act.put, List.setIfInBounds_toArray, List.set_cons_zero, List.set_cons_succ, i64_w, i32_w]
                 rfl
                refine pure_ (i := 5) (N := some 94) (v := ?_) (a' := ?_) #[true, true, true, true, true, true, false, false, true, false, false] rfl rfl (any_of HT_.out (by kernel_rfl)) (fun _ _ _ h => h) (Or.inl ⟨by rfl, ?_⟩) ?_ ?_
                rotate_left
                ·intro w'
                 go_simp
                 with_reducible rfl
                rotate_left
                ·simp only [Act.put, List.setIfInBounds_toArray, List.set_cons_zero, List.set_cons_succ, i64_w, i32_w]
                 rfl
                refine pure_ (i := 6) (N := some 100) (v := ?_) (a' := ?_) #[true, true, true, true, true, true, true, false, true, false, false] rfl rfl (any_of HT_.out (by kernel_rfl)) (fun _ _ _ h => h) (Or.inl ⟨by rfl, ?_⟩) ?_ ?_
                rotate_left
                ·intro w'
                 go_simp
                 with_reducible rfl
                rotate_left
                ·simp only [Act.put, List.setIfInBounds_toArray, List.set_cons_zero, List.set_cons_succ, i64_w, i32_w]
                 rfl
                refine pure_ (i := 7) (N := some 101) (v := ?_) (a' := ?_) #[true, true, true, true, true, true, true, true, true, false, false] rfl rfl (any_of HT_.out (by kernel_rfl)) (fun _ _ _ h => h) (Or.inl ⟨by rfl, ?_⟩) ?_ ?_
                rotate_left
                ·intro w'
                 go_simp
                 with_reducible rfl
                rotate_left
                ·simp only [Act.put, List.setIfInBounds_toArray, List.set_cons_zero, List.set_cons_succ, i64_w, i32_w]
                 rfl
                exact norm_ (by simp only [putAll, Act.put, List.setIfInBounds_toArray, List.set_cons_zero, List.set_cons_succ]) (hCont (.slice Ao189 t221.length co189, .slice Ao190 t226.length co190, v232, gb237) _ ⟨hHeld, (rm HO223.out (fun _ hk => by first | exact ⟨hk.1.2, ⟨hk.2, ⟨hk.1.1.1.1.1.2, ⟨hk.1.1.1.1.2, ⟨hk.1.1.1.2, hk.1.1.2⟩⟩⟩⟩⟩ | (simp_all; done) | grind)), (rm HO228.out (fun _ hk => by first | exact ⟨hk.1.2, ⟨hk.2, ⟨hk.1.1.1.1.1.2, ⟨hk.1.1.1.1.2, ⟨hk.1.1.1.2, hk.1.1.2⟩⟩⟩⟩⟩ | (simp_all; done) | grind)), (rm HO233.out (fun _ hk => by first | exact ⟨hk.1.2, ⟨hk.2, ⟨hk.1.1.1.1.1.2, ⟨hk.1.1.1.1.2, ⟨hk.1.1.1.2, hk.1.1.2⟩⟩⟩⟩⟩ | (simp_all; done) | grind)), (rm HO_181000.out (fun _ hk => by first | exact ⟨hk.1.1.2, ⟨hk.1.2, ⟨hk.2, ⟨hk.1.1.1.1, ⟨hk.1.1.1.2.1, hk.1.1.1.2.2⟩⟩⟩⟩⟩ | (simp_all; done) | grind)), (rm HO_187000.out (fun _ hk => by first | exact ⟨hk.1.1.2, ⟨hk.1.2, ⟨hk.2, ⟨hk.1.1.1.1, ⟨hk.1.1.1.2.1, hk.1.1.1.2.2⟩⟩⟩⟩⟩ | (simp_all; done) | grind)), (rm HO_193000.out (fun _ hk => by first | exact ⟨hk.1.1.2, ⟨hk.1.2, ⟨hk.2, ⟨hk.1.1.1.1, ⟨hk.1.1.1.2.1, hk.1.1.1.2.2⟩⟩⟩⟩⟩ | (simp_all; done) | grind)), (rm HO_200000.out (fun _ hk => by first | exact ⟨hk.1.1.2, ⟨hk.1.2, ⟨hk.2, ⟨hk.1.1.1.1, ⟨hk.1.1.1.2.1, hk.1.1.1.2.2⟩⟩⟩⟩⟩ | (simp_all; done) | grind)), (rc BK160.out), (rc BK161.out), (rc BK180.out), (rc BK186.out), (rc BK192.out), (rc BK199.out), (rc BK237.out), GW237.out, GE237.out, NB160_237.out, NB237_160.out, NB161_237.out, NB237_161.out, NB180_237.out, NB237_180.out, NB186_237.out, NB237_186.out, NB192_237.out, NB237_192.out, NB199_237.out, NB237_199.out, bb⟩)
              ·skip
               refine box_step ?hg (N := 15) ?hd (cs := #[.slice none 0 0, .int .i64 0, .int .i64 0]) (t := 26) ?hr ?_; (case hd => rfl); (case hg => rfl); (case hr => first | (go_simp; done) | (go_simp; rfl))
               intro gb237 hg w186 hbox hb
               have n0_ := kb HO_181000 hb
               have n1_ := kb HO_187000 hb
               have n2_ := kb HO_193000 hb
               have n3_ := kb HO_200000 hb
               have n4_ := kp BK160 hb
               have n5_ := kp BK161 hb
               have n6_ := kp BK180 hb
               have n7_ := kp BK186 hb
               have n8_ := kp BK192 hb
               have n9_ := kp BK199 hb
               have n10_ := Aside0.mk (below_step bb hb)
               have n11_ := Aside0.mk (hbox)
               have n12_ := Aside0.mk ((by rw [hg]; exact (below_size bb) : w.heap.size ≤ gb237))
               have n13_ := Aside0.mk ((by rw [hg]; exact (below_size bb) : w.heap.size ≤ gb237))
               have n14_ := Aside0.mk (nl BK160 hg)
               have n15_ := Aside0.mk (nl BK160 hg).symm
               have n16_ := Aside0.mk (nl BK161 hg)
               have n17_ := Aside0.mk (nl BK161 hg).symm
               have n18_ := Aside0.mk (nl BK180 hg)
               have n19_ := Aside0.mk (nl BK180 hg).symm
               have n20_ := Aside0.mk (nl BK186 hg)
               have n21_ := Aside0.mk (nl BK186 hg).symm
               have n22_ := Aside0.mk (nl BK192 hg)
               have n23_ := Aside0.mk (nl BK192 hg).symm
               have n24_ := Aside0.mk (nl BK199 hg)
               have n25_ := Aside0.mk (nl BK199 hg).symm
               clear HO_181000 HO_187000 HO_193000 HO_200000 BK160 BK161 BK180 BK186 BK192 BK199 HB
               have HO_181000 := n0_
               have HO_187000 := n1_
               have HO_193000 := n2_
               have HO_200000 := n3_
               have BK160 := n4_
               have BK161 := n5_
               have BK180 := n6_
               have BK186 := n7_
               have BK192 := n8_
               have BK199 := n9_
               have HB := n10_
               have BK237 := n11_
               have GW237 := n12_
               have GE237 := n13_
               have NB160_237 := n14_
               have NB237_160 := n15_
               have NB161_237 := n16_
               have NB237_161 := n17_
               have NB180_237 := n18_
               have NB237_180 := n19_
               have NB186_237 := n20_
               have NB237_186 := n21_
               have NB192_237 := n22_
               have NB237_192 := n23_
               have NB199_237 := n24_
               have NB237_199 := n25_
               clear n0_ n1_ n2_ n3_ n4_ n5_ n6_ n7_ n8_ n9_ n10_ n11_ n12_ n13_ n14_ n15_ n16_ n17_ n18_ n19_ n20_ n21_ n22_ n23_ n24_ n25_
               clear hb hbox hg
               refine hK.out _ _ ⟨(blk_cell BK160.out 0).trans rfl, (blk_cell BK160.out 1).trans rfl, (blk_cell BK160.out 2).trans rfl, (blk_cell BK161.out 0).trans rfl, (blk_cell BK161.out 1).trans rfl, (blk_cell BK161.out 2).trans rfl⟩ (fun hHeld => ?_)
               clear hK K
               refine norm_ (a' := ?_) ?_ ?_
               rotate_left
               ·show Act.put _ (some 15) _ = _
                simp only [Act.put, List.setIfInBounds_toArray, List.set_cons_zero, List.set_cons_succ, i64_w, i32_w]
                rfl
               refine one_ (i := 1) (N := some 96) #[true, true, true, false, false, false, false, false, true, false, false] rfl rfl (one_of HT_.out (by kernel_rfl)) (by decide) (fun K hK => ?_)
               refine goes_ Try.func7 (by kernel_rfl) rfl #[.agg #[.slice A0_0 l0_0.length c0_0, .int .i64 a0_1, .int .i64 a0_2]] (by rfl) rfl rfl ll ?_
               with_reducible refine (laws_toMachine.calls kj108 _ _ l0_0 a0_1 a0_2 t221 t224 t225 _ ?side1 ?side2 A172.out).mono ?_
               (case side1 => repeat (first | exact (Kd.C_below HR0_0.out HB.out) | (with_reducible refine Kd.C_alloc ?_ _) | (with_reducible refine Kd.C_drewN ?_ _) | (with_reducible refine Kd.C_drew ?_)))
               (case side2 => exact HC0_0.out)
               rintro e w187 ⟨v222, rfl, ho0, hb⟩
               refine ⟨_, rfl, ?_⟩
               have n0_ := ke HO_181000 ho0 hb
               have n1_ := ke HO_187000 ho0 hb
               have n2_ := ke HO_193000 ho0 hb
               have n3_ := ke HO_200000 ho0 hb
               have n4_ := Aside0.mk (Kd.R_lower (Kd.R_new' (Kd.R_new' (Kd.R_new' (Kd.R_new' ho0 (Kd.R_lt (ra HO_181000.out))) (Kd.R_lt (ra HO_187000.out))) (Kd.R_lt (ra HO_193000.out))) (Kd.R_lt (ra HO_200000.out))) (below_size bb))
               have n5_ := kp BK160 hb
               have n6_ := kp BK161 hb
               have n7_ := kp BK180 hb
               have n8_ := kp BK186 hb
               have n9_ := kp BK192 hb
               have n10_ := kp BK199 hb
               have n11_ := kp BK237 hb
               have n12_ := Aside0.mk (below_step bb hb)
               clear HO_181000 HO_187000 HO_193000 HO_200000 BK160 BK161 BK180 BK186 BK192 BK199 BK237 HB
               have HO_181000 := n0_
               have HO_187000 := n1_
               have HO_193000 := n2_
               have HO_200000 := n3_
               have HO223 := n4_
               have BK160 := n5_
               have BK161 := n6_
               have BK180 := n7_
               have BK186 := n8_
               have BK192 := n9_
               have BK199 := n10_
               have BK237 := n11_
               have HB := n12_
               clear n0_ n1_ n2_ n3_ n4_ n5_ n6_ n7_ n8_ n9_ n10_ n11_ n12_
               (try clear hb)
               (try clear hb2)
               (try clear hk)
               (try clear hi)
               (try clear ho0)
               refine hK.out _ _ ⟨(blk_cell BK160.out 0).trans rfl, (blk_cell BK160.out 1).trans rfl, (blk_cell BK160.out 2).trans rfl, (blk_cell BK161.out 0).trans rfl, (blk_cell BK161.out 1).trans rfl, (blk_cell BK161.out 2).trans rfl⟩ (fun hHeld => ?_)
               clear hK K
               refine norm_ (a' := ?_) ?_ ?_
               rotate_left
               ·show Act.put _ (some 96) _ = _
                simp only [Act.put, List.setIfInBounds_toArray, List.set_cons_zero, List.set_cons_succ, i64_w, i32_w]
                rfl
               refine one_ (i := 3) (N := some 98) #[true, true, true, true, false, false, false, false, true, false, false] rfl rfl (one_of HT_.out (by kernel_rfl)) (by decide) (fun K hK => ?_)
               refine goes_ Try.func7 (by kernel_rfl) rfl #[.agg #[.slice A1_0 l1_0.length c1_0, .int .i64 a1_1, .int .i64 a1_2]] (by rfl) rfl rfl ll ?_
               with_reducible refine (laws_toMachine.calls kj108 _ _ l1_0 a1_1 a1_2 t226 t229 t230 _ ?side1 ?side2 A173.out).mono ?_
               (case side1 => repeat (first | exact (Kd.C_below HR1_0.out HB.out) | (with_reducible refine Kd.C_alloc ?_ _) | (with_reducible refine Kd.C_drewN ?_ _) | (with_reducible refine Kd.C_drew ?_)))
               (case side2 => exact HC1_0.out)
               rintro e w188 ⟨v227, rfl, ho0, hb⟩
               refine ⟨_, rfl, ?_⟩
               have n0_ := ke HO_181000 ho0 hb
               have n1_ := ke HO_187000 ho0 hb
               have n2_ := ke HO_193000 ho0 hb
               have n3_ := ke HO_200000 ho0 hb
               have n4_ := ke HO223 ho0 hb
               have n5_ := Aside0.mk (Kd.R_lower (Kd.R_new' (Kd.R_new' (Kd.R_new' (Kd.R_new' (Kd.R_new' ho0 (Kd.R_lt (ra HO_181000.out))) (Kd.R_lt (ra HO_187000.out))) (Kd.R_lt (ra HO_193000.out))) (Kd.R_lt (ra HO_200000.out))) (Kd.R_lt (ra HO223.out))) (below_size bb))
               have n6_ := kp BK160 hb
               have n7_ := kp BK161 hb
               have n8_ := kp BK180 hb
               have n9_ := kp BK186 hb
               have n10_ := kp BK192 hb
               have n11_ := kp BK199 hb
               have n12_ := kp BK237 hb
               have n13_ := Aside0.mk (below_step bb hb)
               clear HO_181000 HO_187000 HO_193000 HO_200000 HO223 BK160 BK161 BK180 BK186 BK192 BK199 BK237 HB
               have HO_181000 := n0_
               have HO_187000 := n1_
               have HO_193000 := n2_
               have HO_200000 := n3_
               have HO223 := n4_
               have HO228 := n5_
               have BK160 := n6_
               have BK161 := n7_
               have BK180 := n8_
               have BK186 := n9_
               have BK192 := n10_
               have BK199 := n11_
               have BK237 := n12_
               have HB := n13_
               clear n0_ n1_ n2_ n3_ n4_ n5_ n6_ n7_ n8_ n9_ n10_ n11_ n12_ n13_
               (try clear hb)
               (try clear hb2)
               (try clear hk)
               (try clear hi)
               (try clear ho0)
               obtain ⟨Ao189, co189, eo189⟩ := Kd.R_slice HO223.out
               (first | subst eo189 | (injection eo189 with f1_ f2_ f3_; have f4_ := f1_.symm; have f5_ := f3_.symm; clear f1_ f2_ f3_; subst f4_; subst f5_))
               obtain ⟨Ao190, co190, eo190⟩ := Kd.R_slice HO228.out
               (first | subst eo190 | (injection eo190 with f1_ f2_ f3_; have f4_ := f1_.symm; have f5_ := f3_.symm; clear f1_ f2_ f3_; subst f4_; subst f5_))
               refine hK.out _ _ ⟨(blk_cell BK160.out 0).trans rfl, (blk_cell BK160.out 1).trans rfl, (blk_cell BK160.out 2).trans rfl, (blk_cell BK161.out 0).trans rfl, (blk_cell BK161.out 1).trans rfl, (blk_cell BK161.out 2).trans rfl⟩ (fun hHeld => ?_)
               clear hK K
               refine norm_ (a' := ?_) ?_ ?_
               rotate_left
               ·show Act.put _ (some 98) _ = _
                simp only [Act.put, List.setIfInBounds_toArray, List.set_cons_zero, List.set_cons_succ, i64_w, i32_w]
                rfl
               refine one_ (i := 4) (N := some 99) #[true, true, true, true, true, false, false, false, true, false, false] rfl rfl (one_of HT_.out (by kernel_rfl)) (by decide) (fun K hK => ?_)
               refine goes_ Try.func8 (by kernel_rfl) rfl #[.agg #[.slice Ao189 t221.length co189, .int .i64 t224, .int .i64 t225], .agg #[.slice Ao190 t226.length co190, .int .i64 t229, .int .i64 t230]] (by rfl) rfl rfl ll ?_
               with_reducible refine (impl_MachBoth.calls kj108 _ _ t221 t224 t225 _ _ t226 t229 t230 t231 t234 t235 t236 _ ?side1 ?side2 ?side3 ?side4 A174.out).mono ?_
               (case side1 => repeat (first | exact (Kd.R_reads' HO223.out).2.2 | (with_reducible refine Kd.C_alloc ?_ _) | (with_reducible refine Kd.C_drewN ?_ _) | (with_reducible refine Kd.C_drew ?_)))
               (case side2 => exact (Kd.R_reads' HO223.out).2.1)
               (case side3 => repeat (first | exact (Kd.R_reads' HO228.out).2.2 | (with_reducible refine Kd.C_alloc ?_ _) | (with_reducible refine Kd.C_drewN ?_ _) | (with_reducible refine Kd.C_drew ?_)))
               (case side4 => exact (Kd.R_reads' HO228.out).2.1)
               rintro e w191 ⟨v232, rfl, ho0, hb⟩
               refine ⟨_, rfl, ?_⟩
               have n0_ := ke HO_181000 ho0 hb
               have n1_ := ke HO_187000 ho0 hb
               have n2_ := ke HO_193000 ho0 hb
               have n3_ := ke HO_200000 ho0 hb
               have n4_ := ke HO223 ho0 hb
               have n5_ := ke HO228 ho0 hb
               have n6_ := Aside0.mk (Kd.R_lower (Kd.R_new' (Kd.R_new' (Kd.R_new' (Kd.R_new' (Kd.R_new' (Kd.R_new' ho0 (Kd.R_lt (ra HO_181000.out))) (Kd.R_lt (ra HO_187000.out))) (Kd.R_lt (ra HO_193000.out))) (Kd.R_lt (ra HO_200000.out))) (Kd.R_lt (ra HO223.out))) (Kd.R_lt (ra HO228.out))) (below_size bb))
               have n7_ := kp BK160 hb
               have n8_ := kp BK161 hb
               have n9_ := kp BK180 hb
               have n10_ := kp BK186 hb
               have n11_ := kp BK192 hb
               have n12_ := kp BK199 hb
               have n13_ := kp BK237 hb
               have n14_ := Aside0.mk (below_step bb hb)
               clear HO_181000 HO_187000 HO_193000 HO_200000 HO223 HO228 BK160 BK161 BK180 BK186 BK192 BK199 BK237 HB
               have HO_181000 := n0_
               have HO_187000 := n1_
               have HO_193000 := n2_
               have HO_200000 := n3_
               have HO223 := n4_
               have HO228 := n5_
               have HO233 := n6_
               have BK160 := n7_
               have BK161 := n8_
               have BK180 := n9_
               have BK186 := n10_
               have BK192 := n11_
               have BK199 := n12_
               have BK237 := n13_
               have HB := n14_
               clear n0_ n1_ n2_ n3_ n4_ n5_ n6_ n7_ n8_ n9_ n10_ n11_ n12_ n13_ n14_
               (try clear hb)
               (try clear hb2)
               (try clear hk)
               (try clear hi)
               (try clear ho0)
               refine hK.out _ _ ⟨(blk_cell BK160.out 0).trans rfl, (blk_cell BK160.out 1).trans rfl, (blk_cell BK160.out 2).trans rfl, (blk_cell BK161.out 0).trans rfl, (blk_cell BK161.out 1).trans rfl, (blk_cell BK161.out 2).trans rfl⟩ (fun hHeld => ?_)
               clear hK K
               refine norm_ (a' := ?_) ?_ ?_
               rotate_left
               ·show Act.put _ (some 99) _ = _
                simp only [Act.put, List.setIfInBounds_toArray, List.set_cons_zero, List.set_cons_succ, i64_w, i32_w]
                rfl
               refine pure_ (i := 5) (N := some 94) (v := ?_) (a' := ?_) #[true, true, true, true, true, true, false, false, true, false, false] rfl rfl (any_of HT_.out (by kernel_rfl)) (fun _ _ _ h => h) (Or.inl ⟨by rfl, ?_⟩) ?_ ?_
               rotate_left
               ·intro w'
                go_simp
                with_reducible rfl
               rotate_left
               ·simp only [Act.put, List.setIfInBounds_toArray, List.set_cons_zero, List.set_cons_succ, i64_w, i32_w]
                rfl
               refine pure_ (i := 6) (N := some 100) (v := ?_) (a' := ?_) #[true, true, true, true, true, true, true, false, true, false, false] rfl rfl (any_of HT_.out (by kernel_rfl)) (fun _ _ _ h => h) (Or.inl ⟨by rfl, ?_⟩) ?_ ?_
               rotate_left
               ·intro w'
                go_simp
                with_reducible rfl
               rotate_left
               ·simp only [Act.put, List.setIfInBounds_toArray, List.set_cons_zero, List.set_cons_succ, i64_w, i32_w]
                rfl
               refine pure_ (i := 7) (N := some 101) (v := ?_) (a' := ?_) #[true, true, true, true, true, true, true, true, true, false, false] rfl rfl (any_of HT_.out (by kernel_rfl)) (fun _ _ _ h => h) (Or.inl ⟨by rfl, ?_⟩) ?_ ?_
               rotate_left
               ·intro w'
                go_simp
                with_reducible rfl
               rotate_left
               ·simp only [Act.put, List.setIfInBounds_toArray, List.set_cons_zero, List.set_cons_succ, i64_w, i32_w]
                rfl
               exact norm_ (by simp only [putAll, Act.put, List.setIfInBounds_toArray, List.set_cons_zero, List.set_cons_succ]) (hCont (.slice Ao189 t221.length co189, .slice Ao190 t226.length co190, v232, gb237) _ ⟨hHeld, (rm HO223.out (fun _ hk => by first | exact ⟨hk.1.2, ⟨hk.2, ⟨hk.1.1.1.1.1.2, ⟨hk.1.1.1.1.2, ⟨hk.1.1.1.2, hk.1.1.2⟩⟩⟩⟩⟩ | (simp_all; done) | grind)), (rm HO228.out (fun _ hk => by first | exact ⟨hk.1.2, ⟨hk.2, ⟨hk.1.1.1.1.1.2, ⟨hk.1.1.1.1.2, ⟨hk.1.1.1.2, hk.1.1.2⟩⟩⟩⟩⟩ | (simp_all; done) | grind)), (rm HO233.out (fun _ hk => by first | exact ⟨hk.1.2, ⟨hk.2, ⟨hk.1.1.1.1.1.2, ⟨hk.1.1.1.1.2, ⟨hk.1.1.1.2, hk.1.1.2⟩⟩⟩⟩⟩ | (simp_all; done) | grind)), (rm HO_181000.out (fun _ hk => by first | exact ⟨hk.1.1.2, ⟨hk.1.2, ⟨hk.2, ⟨hk.1.1.1.1, ⟨hk.1.1.1.2.1, hk.1.1.1.2.2⟩⟩⟩⟩⟩ | (simp_all; done) | grind)), (rm HO_187000.out (fun _ hk => by first | exact ⟨hk.1.1.2, ⟨hk.1.2, ⟨hk.2, ⟨hk.1.1.1.1, ⟨hk.1.1.1.2.1, hk.1.1.1.2.2⟩⟩⟩⟩⟩ | (simp_all; done) | grind)), (rm HO_193000.out (fun _ hk => by first | exact ⟨hk.1.1.2, ⟨hk.1.2, ⟨hk.2, ⟨hk.1.1.1.1, ⟨hk.1.1.1.2.1, hk.1.1.1.2.2⟩⟩⟩⟩⟩ | (simp_all; done) | grind)), (rm HO_200000.out (fun _ hk => by first | exact ⟨hk.1.1.2, ⟨hk.1.2, ⟨hk.2, ⟨hk.1.1.1.1, ⟨hk.1.1.1.2.1, hk.1.1.1.2.2⟩⟩⟩⟩⟩ | (simp_all; done) | grind)), (rc BK160.out), (rc BK161.out), (rc BK180.out), (rc BK186.out), (rc BK192.out), (rc BK199.out), (rc BK237.out), GW237.out, GE237.out, NB160_237.out, NB237_160.out, NB161_237.out, NB237_161.out, NB180_237.out, NB237_180.out, NB186_237.out, NB237_186.out, NB192_237.out, NB237_192.out, NB199_237.out, NB237_199.out, bb⟩)
             rintro ⟨v222, v227, v232, gb237⟩ w192 ⟨hS_, h0_, h1_, h2_, h3_, h4_, h5_, h6_, h7_, h8_, h9_, h10_, h11_, h12_, h13_, h14_, h15_, h16_, h17_, h18_, h19_, h20_, h21_, h22_, h23_, h24_, h25_, h26_, h27_, h28_⟩
             have n0_ : Aside0 (Kd.R (Kd.int .i64) 3 w192 w.heap.size (fun k_ => some k_ ≠ (v227 : Value).ownBlock ∧ some k_ ≠ (v232 : Value).ownBlock ∧ some k_ ≠ (.slice Ao41 t174.length co41 : Value).ownBlock ∧ some k_ ≠ (.slice Ao49 t214.length co49 : Value).ownBlock ∧ some k_ ≠ (.slice Ao58 t216.length co58 : Value).ownBlock ∧ some k_ ≠ (.slice Ao67 t193.length co67 : Value).ownBlock) v222 t221) := ⟨h0_⟩
             have n1_ : Aside0 (Kd.R (Kd.int .i64) 3 w192 w.heap.size (fun k_ => some k_ ≠ (v222 : Value).ownBlock ∧ some k_ ≠ (v232 : Value).ownBlock ∧ some k_ ≠ (.slice Ao41 t174.length co41 : Value).ownBlock ∧ some k_ ≠ (.slice Ao49 t214.length co49 : Value).ownBlock ∧ some k_ ≠ (.slice Ao58 t216.length co58 : Value).ownBlock ∧ some k_ ≠ (.slice Ao67 t193.length co67 : Value).ownBlock) v227 t226) := ⟨h1_⟩
             have n2_ : Aside0 (Kd.R (Kd.int .i64) 3 w192 w.heap.size (fun k_ => some k_ ≠ (v222 : Value).ownBlock ∧ some k_ ≠ (v227 : Value).ownBlock ∧ some k_ ≠ (.slice Ao41 t174.length co41 : Value).ownBlock ∧ some k_ ≠ (.slice Ao49 t214.length co49 : Value).ownBlock ∧ some k_ ≠ (.slice Ao58 t216.length co58 : Value).ownBlock ∧ some k_ ≠ (.slice Ao67 t193.length co67 : Value).ownBlock) v232 t231) := ⟨h2_⟩
             have n3_ : Aside0 (Kd.R (Kd.int .i64) 3 w192 w.heap.size (fun k_ => some k_ ≠ (v222 : Value).ownBlock ∧ some k_ ≠ (v227 : Value).ownBlock ∧ some k_ ≠ (v232 : Value).ownBlock ∧ some k_ ≠ (.slice Ao49 t214.length co49 : Value).ownBlock ∧ some k_ ≠ (.slice Ao58 t216.length co58 : Value).ownBlock ∧ some k_ ≠ (.slice Ao67 t193.length co67 : Value).ownBlock) (.slice Ao41 t174.length co41) t174) := ⟨h3_⟩
             have n4_ : Aside0 (Kd.R (Kd.int .i64) 3 w192 w.heap.size (fun k_ => some k_ ≠ (v222 : Value).ownBlock ∧ some k_ ≠ (v227 : Value).ownBlock ∧ some k_ ≠ (v232 : Value).ownBlock ∧ some k_ ≠ (.slice Ao41 t174.length co41 : Value).ownBlock ∧ some k_ ≠ (.slice Ao58 t216.length co58 : Value).ownBlock ∧ some k_ ≠ (.slice Ao67 t193.length co67 : Value).ownBlock) (.slice Ao49 t214.length co49) t214) := ⟨h4_⟩
             have n5_ : Aside0 (Kd.R (Kd.int .i64) 3 w192 w.heap.size (fun k_ => some k_ ≠ (v222 : Value).ownBlock ∧ some k_ ≠ (v227 : Value).ownBlock ∧ some k_ ≠ (v232 : Value).ownBlock ∧ some k_ ≠ (.slice Ao41 t174.length co41 : Value).ownBlock ∧ some k_ ≠ (.slice Ao49 t214.length co49 : Value).ownBlock ∧ some k_ ≠ (.slice Ao67 t193.length co67 : Value).ownBlock) (.slice Ao58 t216.length co58) t216) := ⟨h5_⟩
             have n6_ : Aside0 (Kd.R (Kd.int .i64) 3 w192 w.heap.size (fun k_ => some k_ ≠ (v222 : Value).ownBlock ∧ some k_ ≠ (v227 : Value).ownBlock ∧ some k_ ≠ (v232 : Value).ownBlock ∧ some k_ ≠ (.slice Ao41 t174.length co41 : Value).ownBlock ∧ some k_ ≠ (.slice Ao49 t214.length co49 : Value).ownBlock ∧ some k_ ≠ (.slice Ao58 t216.length co58 : Value).ownBlock) (.slice Ao67 t193.length co67) t219) := ⟨h6_⟩
             have n7_ : Aside0 (w192.heap[gb160]? = some (.cells #[.slice A0_0 l0_0.length c0_0, .int .i64 a0_1, .int .i64 a0_2] 24 (0, 0))) := ⟨h7_⟩
             have n8_ : Aside0 (w192.heap[gb161]? = some (.cells #[.slice A1_0 l1_0.length c1_0, .int .i64 a1_1, .int .i64 a1_2] 24 (0, 0))) := ⟨h8_⟩
             have n9_ : Aside0 (w192.heap[gb180]? = some (.cells #[.slice Ao41 t174.length co41, .int .i64 t177, .int .i64 t178] 26 (0, 0))) := ⟨h9_⟩
             have n10_ : Aside0 (w192.heap[gb186]? = some (.cells #[.slice Ao49 t214.length co49, .int .i64 t184, .int .i64 t185] 26 (0, 0))) := ⟨h10_⟩
             have n11_ : Aside0 (w192.heap[gb192]? = some (.cells #[.slice Ao58 t216.length co58, .int .i64 t190, .int .i64 t191] 26 (0, 0))) := ⟨h11_⟩
             have n12_ : Aside0 (w192.heap[gb199]? = some (.cells #[.slice Ao67 t193.length co67, .int .i64 t196, .int .i64 t197] 26 (0, 0))) := ⟨h12_⟩
             have n13_ : Aside0 (w192.heap[gb237]? = some (.cells #[.slice none 0 0, .int .i64 0, .int .i64 0] 26 (0, 0))) := ⟨h13_⟩
             have n14_ : Aside0 (w.heap.size ≤ gb237) := ⟨h14_⟩
             have n15_ : Aside0 (w.heap.size ≤ gb237) := ⟨h15_⟩
             have n16_ : Aside0 (gb160 ≠ gb237) := ⟨h16_⟩
             have n17_ : Aside0 (gb237 ≠ gb160) := ⟨h17_⟩
             have n18_ : Aside0 (gb161 ≠ gb237) := ⟨h18_⟩
             have n19_ : Aside0 (gb237 ≠ gb161) := ⟨h19_⟩
             have n20_ : Aside0 (gb180 ≠ gb237) := ⟨h20_⟩
             have n21_ : Aside0 (gb237 ≠ gb180) := ⟨h21_⟩
             have n22_ : Aside0 (gb186 ≠ gb237) := ⟨h22_⟩
             have n23_ : Aside0 (gb237 ≠ gb186) := ⟨h23_⟩
             have n24_ : Aside0 (gb192 ≠ gb237) := ⟨h24_⟩
             have n25_ : Aside0 (gb237 ≠ gb192) := ⟨h25_⟩
             have n26_ : Aside0 (gb199 ≠ gb237) := ⟨h26_⟩
             have n27_ : Aside0 (gb237 ≠ gb199) := ⟨h27_⟩
             have n28_ : Aside0 (Below w.heap.size w w192) := ⟨h28_⟩
             clear HO_181000 HO_187000 HO_193000 HO_200000 BK160 BK161 BK180 BK186 BK192 BK199 HB
             clear h0_ h1_ h2_ h3_ h4_ h5_ h6_ h7_ h8_ h9_ h10_ h11_ h12_ h13_ h14_ h15_ h16_ h17_ h18_ h19_ h20_ h21_ h22_ h23_ h24_ h25_ h26_ h27_ h28_
             have HO223 := n0_
             have HO228 := n1_
             have HO233 := n2_
             have HO_181000 := n3_
             have HO_187000 := n4_
             have HO_193000 := n5_
             have HO_200000 := n6_
             have BK160 := n7_
             have BK161 := n8_
             have BK180 := n9_
             have BK186 := n10_
             have BK192 := n11_
             have BK199 := n12_
             have BK237 := n13_
             have GW237 := n14_
             have GE237 := n15_
             have NB160_237 := n16_
             have NB237_160 := n17_
             have NB161_237 := n18_
             have NB237_161 := n19_
             have NB180_237 := n20_
             have NB237_180 := n21_
             have NB186_237 := n22_
             have NB237_186 := n23_
             have NB192_237 := n24_
             have NB237_192 := n25_
             have NB199_237 := n26_
             have NB237_199 := n27_
             have HB := n28_
             clear n0_ n1_ n2_ n3_ n4_ n5_ n6_ n7_ n8_ n9_ n10_ n11_ n12_ n13_ n14_ n15_ n16_ n17_ n18_ n19_ n20_ n21_ n22_ n23_ n24_ n25_ n26_ n27_ n28_
             have hHeld : w192.cell? ⟨gb160, 0, none⟩ = some (.slice A0_0 l0_0.length c0_0) ∧ w192.cell? ⟨gb160, 1, none⟩ = some (.int .i64 a0_1) ∧ w192.cell? ⟨gb160, 2, none⟩ = some (.int .i64 a0_2) ∧ w192.cell? ⟨gb161, 0, none⟩ = some (.slice A1_0 l1_0.length c1_0) ∧ w192.cell? ⟨gb161, 1, none⟩ = some (.int .i64 a1_1) ∧ w192.cell? ⟨gb161, 2, none⟩ = some (.int .i64 a1_2) := hS_
             obtain ⟨Ao193, co193, eo193⟩ := Kd.R_slice HO233.out
             (first | subst eo193 | (injection eo193 with f1_ f2_ f3_; have f4_ := f1_.symm; have f5_ := f3_.symm; clear f1_ f2_ f3_; subst f4_; subst f5_))
             refine norm_ (a' := ?_) ?_ ?_
             rotate_left
             ·simp only [putAll, Act.put, List.setIfInBounds_toArray, List.set_cons_zero, List.set_cons_succ]
              rfl
             refine one_ (i := 9) (N := none) #[true, true, true, true, true, true, true, true, true, true, false] rfl rfl (one_of HT_.out (by kernel_rfl)) (by decide) (fun K hK => ?_)
             have hs194 : w192.cell? ⟨gb237, 0, none⟩ = some (.slice none 0 0) := (blk_cell BK237.out 0).trans rfl
             have hfs194 := blk_frozen BK237.out 0
             have hns194_0 := NB160_237.out
             have hns194_1 := NB161_237.out
             have hns194_2 := NB180_237.out
             have hns194_3 := NB186_237.out
             have hns194_4 := NB192_237.out
             have hns194_5 := NB199_237.out
             have hms194_0 := NB237_160.out
             have hms194_1 := NB237_161.out
             have hms194_2 := NB237_180.out
             have hms194_3 := NB237_186.out
             have hms194_4 := NB237_192.out
             have hms194_5 := NB237_199.out
             have hs195 : w192.cell? ⟨gb237, 1, none⟩ = some (.int .i64 0) := (blk_cell BK237.out 1).trans rfl
             have hfs195 := blk_frozen BK237.out 1
             have hns195_0 := NB160_237.out
             have hns195_1 := NB161_237.out
             have hns195_2 := NB180_237.out
             have hns195_3 := NB186_237.out
             have hns195_4 := NB192_237.out
             have hns195_5 := NB199_237.out
             have hms195_0 := NB237_160.out
             have hms195_1 := NB237_161.out
             have hms195_2 := NB237_180.out
             have hms195_3 := NB237_186.out
             have hms195_4 := NB237_192.out
             have hms195_5 := NB237_199.out
             have hs196 : w192.cell? ⟨gb237, 2, none⟩ = some (.int .i64 0) := (blk_cell BK237.out 2).trans rfl
             have hfs196 := blk_frozen BK237.out 2
             have hns196_0 := NB160_237.out
             have hns196_1 := NB161_237.out
             have hns196_2 := NB180_237.out
             have hns196_3 := NB186_237.out
             have hns196_4 := NB192_237.out
             have hns196_5 := NB199_237.out
             have hms196_0 := NB237_160.out
             have hms196_1 := NB237_161.out
             have hms196_2 := NB237_180.out
             have hms196_3 := NB237_186.out
             have hms196_4 := NB237_192.out
             have hms196_5 := NB237_199.out
             refine skip_ (w1 := ?_) (by rfl) rfl ?_ ?_
             rotate_left
             ·go_simp
              rfl
             refine hK.out _ _ ⟨((cell_far (p := ⟨gb237, _, none⟩) NB160_237.out _).trans (((cell_far (p := ⟨gb237, _, none⟩) NB160_237.out _).trans (((cell_far (p := ⟨gb237, _, none⟩) NB160_237.out _).trans (hHeld.1)))))), ((cell_far (p := ⟨gb237, _, none⟩) NB160_237.out _).trans (((cell_far (p := ⟨gb237, _, none⟩) NB160_237.out _).trans (((cell_far (p := ⟨gb237, _, none⟩) NB160_237.out _).trans (hHeld.2.1)))))), ((cell_far (p := ⟨gb237, _, none⟩) NB160_237.out _).trans (((cell_far (p := ⟨gb237, _, none⟩) NB160_237.out _).trans (((cell_far (p := ⟨gb237, _, none⟩) NB160_237.out _).trans (hHeld.2.2.1)))))), ((cell_far (p := ⟨gb237, _, none⟩) NB161_237.out _).trans (((cell_far (p := ⟨gb237, _, none⟩) NB161_237.out _).trans (((cell_far (p := ⟨gb237, _, none⟩) NB161_237.out _).trans (hHeld.2.2.2.1)))))), ((cell_far (p := ⟨gb237, _, none⟩) NB161_237.out _).trans (((cell_far (p := ⟨gb237, _, none⟩) NB161_237.out _).trans (((cell_far (p := ⟨gb237, _, none⟩) NB161_237.out _).trans (hHeld.2.2.2.2.1)))))), ((cell_far (p := ⟨gb237, _, none⟩) NB161_237.out _).trans (((cell_far (p := ⟨gb237, _, none⟩) NB161_237.out _).trans (((cell_far (p := ⟨gb237, _, none⟩) NB161_237.out _).trans (hHeld.2.2.2.2.2))))))⟩ (fun hHeld => ?_)
             clear hK K
             refine pure_ (i := 10) (N := some 16) (v := ?_) (a' := ?_) #[true, true, true, true, true, true, true, true, true, true, true] rfl rfl (any_of HT_.out (by kernel_rfl)) (fun _ _ _ h => h) (Or.inl ⟨by rfl, ?_⟩) ?_ ?_
             rotate_left
             ·intro w'
              go_simp
              with_reducible rfl
             rotate_left
             ·simp only [Act.put, List.setIfInBounds_toArray, List.set_cons_zero, List.set_cons_succ, i64_w, i32_w]
              rfl
             refine done_ (done_of HT_.out (by kernel_rfl)) ?_
             go_upto_region 32 with (fail)
             go_cut [110] (fun v110 wc => ∃ (kq : Nat) (x110_174 : Bool), v110 = .bool x110_174 ∧ Aside0 (laws_FnExactMachBoth.j2 kq t218 x110_174 t219 t196 t197 = some r) ∧ Aside0 (kq ≤ kj108) ∧ Aside0 (Kd.R (Kd.int .i64) 3 wc w.heap.size (fun k_ => some k_ ≠ ((.slice Ao49 t214.length co49) : Value).ownBlock ∧ some k_ ≠ ((.slice Ao58 t216.length co58) : Value).ownBlock ∧ some k_ ≠ ((.slice Ao67 t193.length co67) : Value).ownBlock ∧ some k_ ≠ ((.slice Ao193 t231.length co193) : Value).ownBlock) (.slice Ao41 t174.length co41) t174) ∧ Aside0 (Kd.R (Kd.int .i64) 3 wc w.heap.size (fun k_ => some k_ ≠ ((.slice Ao41 t174.length co41) : Value).ownBlock ∧ some k_ ≠ ((.slice Ao58 t216.length co58) : Value).ownBlock ∧ some k_ ≠ ((.slice Ao67 t193.length co67) : Value).ownBlock ∧ some k_ ≠ ((.slice Ao193 t231.length co193) : Value).ownBlock) (.slice Ao49 t214.length co49) t214) ∧ Aside0 (Kd.R (Kd.int .i64) 3 wc w.heap.size (fun k_ => some k_ ≠ ((.slice Ao41 t174.length co41) : Value).ownBlock ∧ some k_ ≠ ((.slice Ao49 t214.length co49) : Value).ownBlock ∧ some k_ ≠ ((.slice Ao67 t193.length co67) : Value).ownBlock ∧ some k_ ≠ ((.slice Ao193 t231.length co193) : Value).ownBlock) (.slice Ao58 t216.length co58) t216) ∧ Aside0 (Kd.R (Kd.int .i64) 3 wc w.heap.size (fun k_ => some k_ ≠ ((.slice Ao41 t174.length co41) : Value).ownBlock ∧ some k_ ≠ ((.slice Ao49 t214.length co49) : Value).ownBlock ∧ some k_ ≠ ((.slice Ao58 t216.length co58) : Value).ownBlock ∧ some k_ ≠ ((.slice Ao193 t231.length co193) : Value).ownBlock) (.slice Ao67 t193.length co67) t219) ∧ Aside0 (Kd.R (Kd.int .i64) 3 wc w.heap.size (fun k_ => some k_ ≠ ((.slice Ao41 t174.length co41) : Value).ownBlock ∧ some k_ ≠ ((.slice Ao49 t214.length co49) : Value).ownBlock ∧ some k_ ≠ ((.slice Ao58 t216.length co58) : Value).ownBlock ∧ some k_ ≠ ((.slice Ao67 t193.length co67) : Value).ownBlock) (.slice Ao193 t231.length co193) t231) ∧ Aside0 (wc.heap[gb160]? = some (.cells #[(.slice A0_0 l0_0.length c0_0), .int .i64 a0_1, .int .i64 a0_2] 24 (0, 0))) ∧ Aside0 (wc.heap[gb161]? = some (.cells #[(.slice A1_0 l1_0.length c1_0), .int .i64 a1_1, .int .i64 a1_2] 24 (0, 0))) ∧ Aside0 (wc.heap[gb180]? = some (.cells #[(.slice Ao41 t174.length co41), .int .i64 t177, .int .i64 t178] 26 (0, 0))) ∧ Aside0 (wc.heap[gb186]? = some (.cells #[(.slice Ao49 t214.length co49), .int .i64 t184, .int .i64 t185] 26 (0, 0))) ∧ Aside0 (wc.heap[gb192]? = some (.cells #[(.slice Ao58 t216.length co58), .int .i64 t190, .int .i64 t191] 26 (0, 0))) ∧ Aside0 (wc.heap[gb199]? = some (.cells #[(.slice Ao67 t193.length co67), .int .i64 t196, .int .i64 t197] 26 (0, 0))) ∧ Aside0 (wc.heap[gb237]? = some (.cells #[(.slice Ao193 t231.length co193), .int .i64 t234, .int .i64 t235] 26 (0, 0))) ∧ Aside0 (Below w.heap.size w wc))
             case first =>
              have H := HC175.out
              clear HC175
              replace H := Option.bind_eq_some_iff.mp H
              obtain ⟨t238, A1970, H⟩ := H
              (try dsimp only at H)
              have A197 := Aside0.mk A1970
              clear A1970
              by_cases c198 : t238 = true
              ·subst c198
               rw [if_pos rfl] at H
               have H' := Aside0.mk H
               clear H
               have hnb199 := NB237_160.out
               have hnc199 := NB160_237.out
               have hnb200 := NB237_161.out
               have hnc200 := NB161_237.out
               have hnb201 := NB237_180.out
               have hnc201 := NB180_237.out
               have hnb202 := NB237_186.out
               have hnc202 := NB186_237.out
               have hnb203 := NB237_192.out
               have hnc203 := NB192_237.out
               have hnb204 := NB237_199.out
               have hnc204 := NB199_237.out
               obtain ⟨hcz205_0, hcz205_1, hcz205_2, hfz205_0, hfz205_1, hfz205_2⟩ := c3 BK237
               have hnb206 := NB180_160.out
               have hnc206 := NB160_180.out
               have hnb207 := NB180_161.out
               have hnc207 := NB161_180.out
               have hnb208 := NB180_186.out
               have hnc208 := NB186_180.out
               have hnb209 := NB180_192.out
               have hnc209 := NB192_180.out
               have hnb210 := NB180_199.out
               have hnc210 := NB199_180.out
               obtain ⟨hcz211_0, hcz211_1, hcz211_2, hfz211_0, hfz211_1, hfz211_2⟩ := c3 BK180
               go_wp2_with (first | ((with_reducible refine gate_callee (f := 9) rfl ?_); refine goesL_ (some 104) rfl rfl Try.func9 (by kernel_rfl) rfl #[.agg #[.slice Ao193 t231.length co193, .int .i64 t234, .int .i64 t235], .agg #[.slice Ao41 t174.length co41, .int .i64 t177, .int .i64 t178]] rfl ll ?_; (with_reducible refine (laws_eqMachine.calls kj108 _ _ t231 t234 t235 _ _ t174 t177 t178 true _ ?side1 ?side2 ?side3 ?side4 A197.out).mono ?_); (case side1 => refine (Kd.R_reads' (e := 3) (base := w.heap.size) (ok := fun k_ => (some k_ ≠ (v222 : Value).ownBlock ∧ (some k_ ≠ (v227 : Value).ownBlock ∧ (some k_ ≠ (.slice Ao41 t174.length co41 : Value).ownBlock ∧ (some k_ ≠ (.slice Ao49 t214.length co49 : Value).ownBlock ∧ (some k_ ≠ (.slice Ao58 t216.length co58 : Value).ownBlock ∧ some k_ ≠ (.slice Ao67 t193.length co67 : Value).ownBlock)))))) (n := t231.length) (c := co193) ?_).2.2; exact (rr HO233.out BK237.out)); (case side2 => exact (Kd.R_reads' HO233.out).2.1); (case side3 => refine (Kd.R_reads' (e := 3) (base := w.heap.size) (ok := fun k_ => (some k_ ≠ (v222 : Value).ownBlock ∧ (some k_ ≠ (v227 : Value).ownBlock ∧ (some k_ ≠ (.slice Ao193 t231.length co193 : Value).ownBlock ∧ (some k_ ≠ (.slice Ao49 t214.length co49 : Value).ownBlock ∧ (some k_ ≠ (.slice Ao58 t216.length co58 : Value).ownBlock ∧ some k_ ≠ (.slice Ao67 t193.length co67 : Value).ownBlock)))))) (n := t174.length) (c := co41) ?_).2.2; exact (rr HO_181000.out BK237.out)); (case side4 => exact (Kd.R_reads' HO_181000.out).2.1); rintro e w212 ⟨rfl, hb⟩; refine ⟨_, rfl, ?_⟩; have n0_ := Aside0.mk (Kd.R_below (rr HO_181000.out BK237.out) hb); have n1_ := Aside0.mk (Kd.R_below (rr HO_187000.out BK237.out) hb); have n2_ := Aside0.mk (Kd.R_below (rr HO_193000.out BK237.out) hb); have n3_ := Aside0.mk (Kd.R_below (rr HO_200000.out BK237.out) hb); have n4_ := Aside0.mk (Kd.R_below (rr HO223.out BK237.out) hb); have n5_ := Aside0.mk (Kd.R_below (rr HO228.out BK237.out) hb); have n6_ := Aside0.mk (Kd.R_below (rr HO233.out BK237.out) hb); have n7_ := kf NB160_237.out BK160 hb; have n8_ := kf NB161_237.out BK161 hb; have n9_ := kf NB180_237.out BK180 hb; have n10_ := kf NB186_237.out BK186 hb; have n11_ := kf NB192_237.out BK192 hb; have n12_ := kf NB199_237.out BK199 hb; have n13_ := Aside0.mk (blk_below (g := gb237) (o := .cells #[.slice Ao193 t231.length co193, .int .i64 t234, .int .i64 t235] 26 (0, 0)) (k3 BK237.out) hb); have n14_ := Aside0.mk (below_step bb hb); clear HO_181000 HO_187000 HO_193000 HO_200000 HO223 HO228 HO233 BK160 BK161 BK180 BK186 BK192 BK199 BK237 HB; have HO_181000 := n0_; have HO_187000 := n1_; have HO_193000 := n2_; have HO_200000 := n3_; have HO223 := n4_; have HO228 := n5_; have HO233 := n6_; have BK160 := n7_; have BK161 := n8_; have BK180 := n9_; have BK186 := n10_; have BK192 := n11_; have BK199 := n12_; have BK237 := n13_; have HB := n14_; clear n0_ n1_ n2_ n3_ n4_ n5_ n6_ n7_ n8_ n9_ n10_ n11_ n12_ n13_ n14_; (try clear hb); (try clear hb2); (try clear hk); (try clear hi)))
               go_meet
               case rel => exact ⟨_, ((t236 != t179)), (by first | rfl | (simp; done) | (simp [*]; done) | (simp only [IntKind.wrap_i64, wrap64]; done)), H', ⟨by have := HJ24.out; have := HJ108.out; first | omega | exact Nat.le_refl _⟩, ⟨by (try simp only [hl187000_108]); (try simp only [hl193000_108]); (with_reducible repeat (first | apply Kd.R_alloc | apply Kd.R_drewN | apply Kd.R_drew)); exact Kd.R_mono HO_181000.out (fun _ hk => ⟨hk.2.2.2.1, ⟨hk.2.2.2.2.1, ⟨hk.2.2.2.2.2, hk.2.2.1⟩⟩⟩)⟩, ⟨by (try simp only [hl187000_108]); (try simp only [hl193000_108]); (with_reducible repeat (first | apply Kd.R_alloc | apply Kd.R_drewN | apply Kd.R_drew)); exact Kd.R_mono HO_187000.out (fun _ hk => ⟨hk.2.2.2.1, ⟨hk.2.2.2.2.1, ⟨hk.2.2.2.2.2, hk.2.2.1⟩⟩⟩)⟩, ⟨by (try simp only [hl187000_108]); (try simp only [hl193000_108]); (with_reducible repeat (first | apply Kd.R_alloc | apply Kd.R_drewN | apply Kd.R_drew)); exact Kd.R_mono HO_193000.out (fun _ hk => ⟨hk.2.2.2.1, ⟨hk.2.2.2.2.1, ⟨hk.2.2.2.2.2, hk.2.2.1⟩⟩⟩)⟩, ⟨by (try simp only [hl187000_108]); (try simp only [hl193000_108]); (with_reducible repeat (first | apply Kd.R_alloc | apply Kd.R_drewN | apply Kd.R_drew)); exact Kd.R_mono HO_200000.out (fun _ hk => ⟨hk.2.2.2.1, ⟨hk.2.2.2.2.1, ⟨hk.2.2.2.2.2, hk.2.2.1⟩⟩⟩)⟩, ⟨by (try simp only [hl187000_108]); (try simp only [hl193000_108]); (with_reducible repeat (first | apply Kd.R_alloc | apply Kd.R_drewN | apply Kd.R_drew)); exact Kd.R_mono HO233.out (fun _ hk => ⟨hk.2.2.1, ⟨hk.2.2.2.1, ⟨hk.2.2.2.2.1, hk.2.2.2.2.2⟩⟩⟩)⟩, ⟨by (try simp only [hl187000_108]); (try simp only [hl193000_108]); (with_reducible repeat (first | refine blk_drewN ?_ _ | refine blk_drew ?_ | refine blk_alloc ?_ _)); exact BK160.out⟩, ⟨by (try simp only [hl187000_108]); (try simp only [hl193000_108]); (with_reducible repeat (first | refine blk_drewN ?_ _ | refine blk_drew ?_ | refine blk_alloc ?_ _)); exact BK161.out⟩, ⟨by (try simp only [hl187000_108]); (try simp only [hl193000_108]); (with_reducible repeat (first | refine blk_drewN ?_ _ | refine blk_drew ?_ | refine blk_alloc ?_ _)); exact BK180.out⟩, ⟨by (try simp only [hl187000_108]); (try simp only [hl193000_108]); (with_reducible repeat (first | refine blk_drewN ?_ _ | refine blk_drew ?_ | refine blk_alloc ?_ _)); exact BK186.out⟩, ⟨by (try simp only [hl187000_108]); (try simp only [hl193000_108]); (with_reducible repeat (first | refine blk_drewN ?_ _ | refine blk_drew ?_ | refine blk_alloc ?_ _)); exact BK192.out⟩, ⟨by (try simp only [hl187000_108]); (try simp only [hl193000_108]); (with_reducible repeat (first | refine blk_drewN ?_ _ | refine blk_drew ?_ | refine blk_alloc ?_ _)); exact BK199.out⟩, ⟨by (try simp only [hl187000_108]); (try simp only [hl193000_108]); (with_reducible repeat (first | refine blk_drewN ?_ _ | refine blk_drew ?_ | refine blk_alloc ?_ _)); exact BK237.out⟩, ⟨bb⟩⟩
              ·replace c198 := Bool.eq_false_iff.mpr c198
               subst c198
               rw [if_neg (show ¬ (false = true) by decide)] at H
               have H' := Aside0.mk H
               clear H
               have hnb213 := NB237_160.out
               have hnc213 := NB160_237.out
               have hnb214 := NB237_161.out
               have hnc214 := NB161_237.out
               have hnb215 := NB237_180.out
               have hnc215 := NB180_237.out
               have hnb216 := NB237_186.out
               have hnc216 := NB186_237.out
               have hnb217 := NB237_192.out
               have hnc217 := NB192_237.out
               have hnb218 := NB237_199.out
               have hnc218 := NB199_237.out
               obtain ⟨hcz219_0, hcz219_1, hcz219_2, hfz219_0, hfz219_1, hfz219_2⟩ := c3 BK237
               have hnb220 := NB180_160.out
               have hnc220 := NB160_180.out
               have hnb221 := NB180_161.out
               have hnc221 := NB161_180.out
               have hnb222 := NB180_186.out
               have hnc222 := NB186_180.out
               have hnb223 := NB180_192.out
               have hnc223 := NB192_180.out
               have hnb224 := NB180_199.out
               have hnc224 := NB199_180.out
               obtain ⟨hcz225_0, hcz225_1, hcz225_2, hfz225_0, hfz225_1, hfz225_2⟩ := c3 BK180
               go_wp2_with (first | ((with_reducible refine gate_callee (f := 9) rfl ?_); refine goesL_ (some 104) rfl rfl Try.func9 (by kernel_rfl) rfl #[.agg #[.slice Ao193 t231.length co193, .int .i64 t234, .int .i64 t235], .agg #[.slice Ao41 t174.length co41, .int .i64 t177, .int .i64 t178]] rfl ll ?_; (with_reducible refine (laws_eqMachine.calls kj108 _ _ t231 t234 t235 _ _ t174 t177 t178 false _ ?side1 ?side2 ?side3 ?side4 A197.out).mono ?_); (case side1 => refine (Kd.R_reads' (e := 3) (base := w.heap.size) (ok := fun k_ => (some k_ ≠ (v222 : Value).ownBlock ∧ (some k_ ≠ (v227 : Value).ownBlock ∧ (some k_ ≠ (.slice Ao41 t174.length co41 : Value).ownBlock ∧ (some k_ ≠ (.slice Ao49 t214.length co49 : Value).ownBlock ∧ (some k_ ≠ (.slice Ao58 t216.length co58 : Value).ownBlock ∧ some k_ ≠ (.slice Ao67 t193.length co67 : Value).ownBlock)))))) (n := t231.length) (c := co193) ?_).2.2; exact (rr HO233.out BK237.out)); (case side2 => exact (Kd.R_reads' HO233.out).2.1); (case side3 => refine (Kd.R_reads' (e := 3) (base := w.heap.size) (ok := fun k_ => (some k_ ≠ (v222 : Value).ownBlock ∧ (some k_ ≠ (v227 : Value).ownBlock ∧ (some k_ ≠ (.slice Ao193 t231.length co193 : Value).ownBlock ∧ (some k_ ≠ (.slice Ao49 t214.length co49 : Value).ownBlock ∧ (some k_ ≠ (.slice Ao58 t216.length co58 : Value).ownBlock ∧ some k_ ≠ (.slice Ao67 t193.length co67 : Value).ownBlock)))))) (n := t174.length) (c := co41) ?_).2.2; exact (rr HO_181000.out BK237.out)); (case side4 => exact (Kd.R_reads' HO_181000.out).2.1); rintro e w226 ⟨rfl, hb⟩; refine ⟨_, rfl, ?_⟩; have n0_ := Aside0.mk (Kd.R_below (rr HO_181000.out BK237.out) hb); have n1_ := Aside0.mk (Kd.R_below (rr HO_187000.out BK237.out) hb); have n2_ := Aside0.mk (Kd.R_below (rr HO_193000.out BK237.out) hb); have n3_ := Aside0.mk (Kd.R_below (rr HO_200000.out BK237.out) hb); have n4_ := Aside0.mk (Kd.R_below (rr HO223.out BK237.out) hb); have n5_ := Aside0.mk (Kd.R_below (rr HO228.out BK237.out) hb); have n6_ := Aside0.mk (Kd.R_below (rr HO233.out BK237.out) hb); have n7_ := kf NB160_237.out BK160 hb; have n8_ := kf NB161_237.out BK161 hb; have n9_ := kf NB180_237.out BK180 hb; have n10_ := kf NB186_237.out BK186 hb; have n11_ := kf NB192_237.out BK192 hb; have n12_ := kf NB199_237.out BK199 hb; have n13_ := Aside0.mk (blk_below (g := gb237) (o := .cells #[.slice Ao193 t231.length co193, .int .i64 t234, .int .i64 t235] 26 (0, 0)) (k3 BK237.out) hb); have n14_ := Aside0.mk (below_step bb hb); clear HO_181000 HO_187000 HO_193000 HO_200000 HO223 HO228 HO233 BK160 BK161 BK180 BK186 BK192 BK199 BK237 HB; have HO_181000 := n0_; have HO_187000 := n1_; have HO_193000 := n2_; have HO_200000 := n3_; have HO223 := n4_; have HO228 := n5_; have HO233 := n6_; have BK160 := n7_; have BK161 := n8_; have BK180 := n9_; have BK186 := n10_; have BK192 := n11_; have BK199 := n12_; have BK237 := n13_; have HB := n14_; clear n0_ n1_ n2_ n3_ n4_ n5_ n6_ n7_ n8_ n9_ n10_ n11_ n12_ n13_ n14_; (try clear hb); (try clear hb2); (try clear hk); (try clear hi)))
               go_meet
               case rel => exact ⟨_, (true), (by first | rfl | (simp; done) | (simp [*]; done) | (simp only [IntKind.wrap_i64, wrap64]; done)), H', ⟨by have := HJ24.out; have := HJ108.out; first | omega | exact Nat.le_refl _⟩, ⟨by (try simp only [hl187000_108]); (try simp only [hl193000_108]); (with_reducible repeat (first | apply Kd.R_alloc | apply Kd.R_drewN | apply Kd.R_drew)); exact Kd.R_mono HO_181000.out (fun _ hk => ⟨hk.2.2.2.1, ⟨hk.2.2.2.2.1, ⟨hk.2.2.2.2.2, hk.2.2.1⟩⟩⟩)⟩, ⟨by (try simp only [hl187000_108]); (try simp only [hl193000_108]); (with_reducible repeat (first | apply Kd.R_alloc | apply Kd.R_drewN | apply Kd.R_drew)); exact Kd.R_mono HO_187000.out (fun _ hk => ⟨hk.2.2.2.1, ⟨hk.2.2.2.2.1, ⟨hk.2.2.2.2.2, hk.2.2.1⟩⟩⟩)⟩, ⟨by (try simp only [hl187000_108]); (try simp only [hl193000_108]); (with_reducible repeat (first | apply Kd.R_alloc | apply Kd.R_drewN | apply Kd.R_drew)); exact Kd.R_mono HO_193000.out (fun _ hk => ⟨hk.2.2.2.1, ⟨hk.2.2.2.2.1, ⟨hk.2.2.2.2.2, hk.2.2.1⟩⟩⟩)⟩, ⟨by (try simp only [hl187000_108]); (try simp only [hl193000_108]); (with_reducible repeat (first | apply Kd.R_alloc | apply Kd.R_drewN | apply Kd.R_drew)); exact Kd.R_mono HO_200000.out (fun _ hk => ⟨hk.2.2.2.1, ⟨hk.2.2.2.2.1, ⟨hk.2.2.2.2.2, hk.2.2.1⟩⟩⟩)⟩, ⟨by (try simp only [hl187000_108]); (try simp only [hl193000_108]); (with_reducible repeat (first | apply Kd.R_alloc | apply Kd.R_drewN | apply Kd.R_drew)); exact Kd.R_mono HO233.out (fun _ hk => ⟨hk.2.2.1, ⟨hk.2.2.2.1, ⟨hk.2.2.2.2.1, hk.2.2.2.2.2⟩⟩⟩)⟩, ⟨by (try simp only [hl187000_108]); (try simp only [hl193000_108]); (with_reducible repeat (first | refine blk_drewN ?_ _ | refine blk_drew ?_ | refine blk_alloc ?_ _)); exact BK160.out⟩, ⟨by (try simp only [hl187000_108]); (try simp only [hl193000_108]); (with_reducible repeat (first | refine blk_drewN ?_ _ | refine blk_drew ?_ | refine blk_alloc ?_ _)); exact BK161.out⟩, ⟨by (try simp only [hl187000_108]); (try simp only [hl193000_108]); (with_reducible repeat (first | refine blk_drewN ?_ _ | refine blk_drew ?_ | refine blk_alloc ?_ _)); exact BK180.out⟩, ⟨by (try simp only [hl187000_108]); (try simp only [hl193000_108]); (with_reducible repeat (first | refine blk_drewN ?_ _ | refine blk_drew ?_ | refine blk_alloc ?_ _)); exact BK186.out⟩, ⟨by (try simp only [hl187000_108]); (try simp only [hl193000_108]); (with_reducible repeat (first | refine blk_drewN ?_ _ | refine blk_drew ?_ | refine blk_alloc ?_ _)); exact BK192.out⟩, ⟨by (try simp only [hl187000_108]); (try simp only [hl193000_108]); (with_reducible repeat (first | refine blk_drewN ?_ _ | refine blk_drew ?_ | refine blk_alloc ?_ _)); exact BK199.out⟩, ⟨by (try simp only [hl187000_108]); (try simp only [hl193000_108]); (with_reducible repeat (first | refine blk_drewN ?_ _ | refine blk_drew ?_ | refine blk_alloc ?_ _)); exact BK237.out⟩, ⟨bb⟩⟩
             case rest =>
              clear HC175
              (try clear c1); (try clear c2); (try clear p2); (try clear c7); (try clear c8); (try clear c9); (try clear c19); (try clear c20); (try clear c21); (try clear c22); (try clear c198); (try clear c199); (try clear c200); (try clear c201); (try clear c202); (try clear c203); (try clear c204); (try clear c206); (try clear c207); (try clear c208); (try clear c209); (try clear c210); (try clear c213); (try clear c214); (try clear c215); (try clear c216); (try clear c217); (try clear c218); (try clear c220); (try clear c221); (try clear c222); (try clear c223); (try clear c224); (try clear hcz205_0); (try clear hcz205_1); (try clear hcz205_2); (try clear hcz211_0); (try clear hcz211_1); (try clear hcz211_2); (try clear hcz219_0); (try clear hcz219_1); (try clear hcz219_2); (try clear hcz225_0); (try clear hcz225_1); (try clear hcz225_2); (try clear hfz205_0); (try clear hfz205_1); (try clear hfz205_2); (try clear hfz211_0); (try clear hfz211_1); (try clear hfz211_2); (try clear hfz219_0); (try clear hfz219_1); (try clear hfz219_2); (try clear hfz225_0); (try clear hfz225_1); (try clear hfz225_2)
              obtain ⟨kq, x110_174, rfl, HA, HJ174, HO_181000, HO_187000, HO_193000, HO_200000, HO_238000, BK160, BK161, BK180, BK186, BK192, BK199, BK237, HB⟩ := hcut
              have hl200000_174 := (Kd.R_reads' HO_200000.out).1
              rw [hl200000_174] at HO_200000
              (try simp only [hl200000_174])
              (try simp only [hl200000_174] at BK160)
              (try simp only [hl200000_174] at BK161)
              (try simp only [hl200000_174] at BK180)
              (try simp only [hl200000_174] at BK186)
              (try simp only [hl200000_174] at BK192)
              (try simp only [hl200000_174] at BK199)
              (try simp only [hl200000_174] at BK237)
              (try simp only [hl200000_174] at HO_181000)
              (try simp only [hl200000_174] at HO_187000)
              (try simp only [hl200000_174] at HO_193000)
              (try simp only [hl200000_174] at HO_238000)
              cases kq with
              | zero => exact absurd HA.out (by simp [laws_FnExactMachBoth.j2])
              | succ kj174 =>
               have H := HA.out
               clear HA
               simp only [laws_FnExactMachBoth.j2] at H
               by_cases c227 : x110_174 = true
               ·subst c227
                rw [if_pos rfl] at H
                obtain rfl := Option.some.inj H
                go_wp2
                go_ret
                exact ⟨by first | rfl | (simp [errW_none, errW_some] <;> rfl) | (simp [*, errW_none, errW_some] <;> rfl), bb⟩
               ·replace c227 := Bool.eq_false_iff.mpr c227
                subst c227
                rw [if_neg (show ¬ (false = true) by decide)] at H
                replace H := Option.bind_eq_some_iff.mp H
                obtain ⟨t239, A2280, H⟩ := H
                (try dsimp only at H)
                have A228 := Aside0.mk A2280
                clear A2280
                by_cases c229 : t239 < 0
                ·rw [if_pos c229] at H
                 have c229b0 : decide (t239 < 0) = true := decide_eq_true c229
                 clear c229
                 obtain rfl := Option.some.inj H
                 have hnb230 := NB199_160.out
                 have hnc230 := NB160_199.out
                 have hnb231 := NB199_161.out
                 have hnc231 := NB161_199.out
                 have hnb232 := NB199_180.out
                 have hnc232 := NB180_199.out
                 have hnb233 := NB199_186.out
                 have hnc233 := NB186_199.out
                 have hnb234 := NB199_192.out
                 have hnc234 := NB192_199.out
                 have hnb235 := NB199_237.out
                 have hnc235 := NB237_199.out
                 obtain ⟨hcz236_0, hcz236_1, hcz236_2, hfz236_0, hfz236_1, hfz236_2⟩ := c3 BK199
                 go_wp2_with (first | ((with_reducible refine gate_callee (f := 11) rfl ?_); refine goesL_ (some 113) rfl rfl Try.func11 (by kernel_rfl) rfl #[.agg #[.slice Ao67 t219.length co67, .int .i64 t196, .int .i64 t197], .int .i64 1] rfl ll ?_; (with_reducible refine (laws_heldMachine.calls kj174 _ _ t219 t196 t197 1 t239 _ ?side1 ?side2 A228.out).mono ?_); (case side1 => repeat (first | exact (Kd.R_reads' HO_200000.out).2.2 | (with_reducible refine Kd.C_alloc ?_ _) | (with_reducible refine Kd.C_drewN ?_ _) | (with_reducible refine Kd.C_drew ?_))); (case side2 => exact (Kd.R_reads' HO_200000.out).2.1); rintro e w237 ⟨rfl, hb⟩; refine ⟨_, rfl, ?_⟩; have n0_ := kb HO_181000 hb; have n1_ := kb HO_187000 hb; have n2_ := kb HO_193000 hb; have n3_ := kb HO_200000 hb; have n4_ := kb HO_238000 hb; have n5_ := kp BK160 hb; have n6_ := kp BK161 hb; have n7_ := kp BK180 hb; have n8_ := kp BK186 hb; have n9_ := kp BK192 hb; have n10_ := kp BK199 hb; have n11_ := kp BK237 hb; have n12_ := Aside0.mk (below_step bb hb); clear HO_181000 HO_187000 HO_193000 HO_200000 HO_238000 BK160 BK161 BK180 BK186 BK192 BK199 BK237 HB; have HO_181000 := n0_; have HO_187000 := n1_; have HO_193000 := n2_; have HO_200000 := n3_; have HO_238000 := n4_; have BK160 := n5_; have BK161 := n6_; have BK180 := n7_; have BK186 := n8_; have BK192 := n9_; have BK199 := n10_; have BK237 := n11_; have HB := n12_; clear n0_ n1_ n2_ n3_ n4_ n5_ n6_ n7_ n8_ n9_ n10_ n11_ n12_; (try clear hb); (try clear hb2); (try clear hk); (try clear hi)))
                 go_ret
                 exact ⟨by first | rfl | (simp [errW_none, errW_some] <;> rfl) | (simp [*, errW_none, errW_some] <;> rfl), bb⟩
                ·rw [if_neg c229] at H
                 have c229b0 : decide (t239 < 0) = false := decide_eq_false c229
                 clear c229
                 by_cases c238 : t239 = t218
                 ·rw [if_pos c238] at H
                  have c238b0 : (t239 == t218) = true := beq_iff_eq.mpr c238
                  have c238b1 : (t239 != t218) = false := bne_eq_false_iff_eq.mpr c238
                  clear c238
                  obtain rfl := Option.some.inj H
                  have hnb239 := NB199_160.out
                  have hnc239 := NB160_199.out
                  have hnb240 := NB199_161.out
                  have hnc240 := NB161_199.out
                  have hnb241 := NB199_180.out
                  have hnc241 := NB180_199.out
                  have hnb242 := NB199_186.out
                  have hnc242 := NB186_199.out
                  have hnb243 := NB199_192.out
                  have hnc243 := NB192_199.out
                  have hnb244 := NB199_237.out
                  have hnc244 := NB237_199.out
                  obtain ⟨hcz245_0, hcz245_1, hcz245_2, hfz245_0, hfz245_1, hfz245_2⟩ := c3 BK199
                  go_wp2_with (first | ((with_reducible refine gate_callee (f := 11) rfl ?_); refine goesL_ (some 113) rfl rfl Try.func11 (by kernel_rfl) rfl #[.agg #[.slice Ao67 t219.length co67, .int .i64 t196, .int .i64 t197], .int .i64 1] rfl ll ?_; (with_reducible refine (laws_heldMachine.calls kj174 _ _ t219 t196 t197 1 t239 _ ?side1 ?side2 A228.out).mono ?_); (case side1 => repeat (first | exact (Kd.R_reads' HO_200000.out).2.2 | (with_reducible refine Kd.C_alloc ?_ _) | (with_reducible refine Kd.C_drewN ?_ _) | (with_reducible refine Kd.C_drew ?_))); (case side2 => exact (Kd.R_reads' HO_200000.out).2.1); rintro e w246 ⟨rfl, hb⟩; refine ⟨_, rfl, ?_⟩; have n0_ := kb HO_181000 hb; have n1_ := kb HO_187000 hb; have n2_ := kb HO_193000 hb; have n3_ := kb HO_200000 hb; have n4_ := kb HO_238000 hb; have n5_ := kp BK160 hb; have n6_ := kp BK161 hb; have n7_ := kp BK180 hb; have n8_ := kp BK186 hb; have n9_ := kp BK192 hb; have n10_ := kp BK199 hb; have n11_ := kp BK237 hb; have n12_ := Aside0.mk (below_step bb hb); clear HO_181000 HO_187000 HO_193000 HO_200000 HO_238000 BK160 BK161 BK180 BK186 BK192 BK199 BK237 HB; have HO_181000 := n0_; have HO_187000 := n1_; have HO_193000 := n2_; have HO_200000 := n3_; have HO_238000 := n4_; have BK160 := n5_; have BK161 := n6_; have BK180 := n7_; have BK186 := n8_; have BK192 := n9_; have BK199 := n10_; have BK237 := n11_; have HB := n12_; clear n0_ n1_ n2_ n3_ n4_ n5_ n6_ n7_ n8_ n9_ n10_ n11_ n12_; (try clear hb); (try clear hb2); (try clear hk); (try clear hi)))
                  go_ret
                  exact ⟨by first | rfl | (simp [errW_none, errW_some] <;> rfl) | (simp [*, errW_none, errW_some] <;> rfl), bb⟩
                 ·rw [if_neg c238] at H
                  have c238b0 : (t239 == t218) = false := beq_eq_false_iff_ne.mpr c238
                  have c238b1 : (t239 != t218) = true := bne_iff_ne.mpr c238
                  obtain rfl := Option.some.inj H
                  have hnb247 := NB199_160.out
                  have hnc247 := NB160_199.out
                  have hnb248 := NB199_161.out
                  have hnc248 := NB161_199.out
                  have hnb249 := NB199_180.out
                  have hnc249 := NB180_199.out
                  have hnb250 := NB199_186.out
                  have hnc250 := NB186_199.out
                  have hnb251 := NB199_192.out
                  have hnc251 := NB192_199.out
                  have hnb252 := NB199_237.out
                  have hnc252 := NB237_199.out
                  obtain ⟨hcz253_0, hcz253_1, hcz253_2, hfz253_0, hfz253_1, hfz253_2⟩ := c3 BK199
                  go_wp2_with (first | ((with_reducible refine gate_callee (f := 11) rfl ?_); refine goesL_ (some 113) rfl rfl Try.func11 (by kernel_rfl) rfl #[.agg #[.slice Ao67 t219.length co67, .int .i64 t196, .int .i64 t197], .int .i64 1] rfl ll ?_; (with_reducible refine (laws_heldMachine.calls kj174 _ _ t219 t196 t197 1 t239 _ ?side1 ?side2 A228.out).mono ?_); (case side1 => repeat (first | exact (Kd.R_reads' HO_200000.out).2.2 | (with_reducible refine Kd.C_alloc ?_ _) | (with_reducible refine Kd.C_drewN ?_ _) | (with_reducible refine Kd.C_drew ?_))); (case side2 => exact (Kd.R_reads' HO_200000.out).2.1); rintro e w254 ⟨rfl, hb⟩; refine ⟨_, rfl, ?_⟩; have n0_ := kb HO_181000 hb; have n1_ := kb HO_187000 hb; have n2_ := kb HO_193000 hb; have n3_ := kb HO_200000 hb; have n4_ := kb HO_238000 hb; have n5_ := kp BK160 hb; have n6_ := kp BK161 hb; have n7_ := kp BK180 hb; have n8_ := kp BK186 hb; have n9_ := kp BK192 hb; have n10_ := kp BK199 hb; have n11_ := kp BK237 hb; have n12_ := Aside0.mk (below_step bb hb); clear HO_181000 HO_187000 HO_193000 HO_200000 HO_238000 BK160 BK161 BK180 BK186 BK192 BK199 BK237 HB; have HO_181000 := n0_; have HO_187000 := n1_; have HO_193000 := n2_; have HO_200000 := n3_; have HO_238000 := n4_; have BK160 := n5_; have BK161 := n6_; have BK180 := n7_; have BK186 := n8_; have BK192 := n9_; have BK199 := n10_; have BK237 := n11_; have HB := n12_; clear n0_ n1_ n2_ n3_ n4_ n5_ n6_ n7_ n8_ n9_ n10_ n11_ n12_; (try clear hb); (try clear hb2); (try clear hk); (try clear hi)))
                  go_ret
                  exact ⟨by first | rfl | (simp [errW_none, errW_some] <;> rfl) | (simp [*, errW_none, errW_some] <;> rfl), bb⟩
            ·rw [if_neg c171] at H
             have c171b0 : (t220 == t218) = false := beq_eq_false_iff_ne.mpr c171
             have c171b1 : (t220 != t218) = true := bne_iff_ne.mpr c171
             obtain rfl := Option.some.inj H
             have hnb255 := NB199_160.out
             have hnc255 := NB160_199.out
             have hnb256 := NB199_161.out
             have hnc256 := NB161_199.out
             have hnb257 := NB199_180.out
             have hnc257 := NB180_199.out
             have hnb258 := NB199_186.out
             have hnc258 := NB186_199.out
             have hnb259 := NB199_192.out
             have hnc259 := NB192_199.out
             obtain ⟨hcz260_0, hcz260_1, hcz260_2, hfz260_0, hfz260_1, hfz260_2⟩ := c3 BK199
             go_wp2_with (first | ((with_reducible refine gate_callee (f := 10) rfl ?_); refine goesL_ (some 85) rfl rfl Try.func10 (by kernel_rfl) rfl #[.agg #[.slice Ao67 t193.length co67, .int .i64 t196, .int .i64 t197], .int .i64 1] rfl ll ?_; (with_reducible refine (laws_markMachine.calls kj108 (fun k_ => some k_ = (.slice Ao67 t193.length co67 : Value).ownBlock) (.slice Ao67 t193.length co67) t193 t196 t197 1 t218 t219 w _ ?side1 ?side2 A159.out).mono ?_); (case side1 => repeat (first | (with_reducible first | exact HB.out | apply below_alloc | apply pw_below_drewN | apply below_drew1 | refine below_set ?_ GE160.out | refine below_set ?_ GE161.out | refine below_set ?_ GE180.out | refine below_set ?_ GE186.out | refine below_set ?_ GE192.out | refine below_set ?_ GE199.out) | exact HB.out)); (case side2 => exact Kd.R_tight rfl HO_200000.out); rintro e w261 ⟨rfl, hy0, hb, hkp⟩; refine ⟨_, rfl, ?_⟩; have n0_ := Aside0.mk (Kd.R_mono (ok' := fun k_ => some k_ ≠ (.slice Ao49 t214.length co49 : Value).ownBlock ∧ some k_ ≠ (.slice Ao58 t216.length co58 : Value).ownBlock ∧ some k_ ≠ (.slice Ao67 t193.length co67 : Value).ownBlock) (Kd.R_keptB (HO_181000.out) hkp (fun k_ hk_ hs_ => (hk_.2.2) hs_)) (fun k_ hk_ => ⟨hk_.1.1, hk_.1.2.1, hk_.1.2.2⟩)); have n1_ := Aside0.mk (Kd.R_mono (ok' := fun k_ => some k_ ≠ (.slice Ao41 t174.length co41 : Value).ownBlock ∧ some k_ ≠ (.slice Ao58 t216.length co58 : Value).ownBlock ∧ some k_ ≠ (.slice Ao67 t193.length co67 : Value).ownBlock) (Kd.R_keptB (HO_187000.out) hkp (fun k_ hk_ hs_ => (hk_.2.2) hs_)) (fun k_ hk_ => ⟨hk_.1.1, hk_.1.2.1, hk_.1.2.2⟩)); have n2_ := Aside0.mk (Kd.R_mono (ok' := fun k_ => some k_ ≠ (.slice Ao41 t174.length co41 : Value).ownBlock ∧ some k_ ≠ (.slice Ao49 t214.length co49 : Value).ownBlock ∧ some k_ ≠ (.slice Ao67 t193.length co67 : Value).ownBlock) (Kd.R_keptB (HO_193000.out) hkp (fun k_ hk_ hs_ => (hk_.2.2) hs_)) (fun k_ hk_ => ⟨hk_.1.1, hk_.1.2.1, hk_.1.2.2⟩)); have n3_ := Aside0.mk (Kd.R_reok rfl hy0 (fun k_ e_ => HO_200000.out.1 k_ e_)); have n4_ := Aside0.mk (blk_kept (rc BK160.out) hkp (fun hs_ => (fun e_ => (Kd.R_ne HO_200000.out BK160.out (by decide)) e_) hs_)); have n5_ := Aside0.mk (blk_kept (rc BK161.out) hkp (fun hs_ => (fun e_ => (Kd.R_ne HO_200000.out BK161.out (by decide)) e_) hs_)); have n6_ := Aside0.mk (blk_kept (rc BK180.out) hkp (fun hs_ => (fun e_ => (Kd.R_ne HO_200000.out BK180.out (by decide)) e_) hs_)); have n7_ := Aside0.mk (blk_kept (rc BK186.out) hkp (fun hs_ => (fun e_ => (Kd.R_ne HO_200000.out BK186.out (by decide)) e_) hs_)); have n8_ := Aside0.mk (blk_kept (rc BK192.out) hkp (fun hs_ => (fun e_ => (Kd.R_ne HO_200000.out BK192.out (by decide)) e_) hs_)); have n9_ := Aside0.mk (blk_kept (rc BK199.out) hkp (fun hs_ => (fun e_ => (Kd.R_ne HO_200000.out BK199.out (by decide)) e_) hs_)); have n10_ := Aside0.mk (hb); clear HO_181000 HO_187000 HO_193000 HO_200000 BK160 BK161 BK180 BK186 BK192 BK199 HB; have HO_181000 := n0_; have HO_187000 := n1_; have HO_193000 := n2_; have HO_200000 := n3_; have BK160 := n4_; have BK161 := n5_; have BK180 := n6_; have BK186 := n7_; have BK192 := n8_; have BK199 := n9_; have HB := n10_; clear n0_ n1_ n2_ n3_ n4_ n5_ n6_ n7_ n8_ n9_ n10_; (try clear hb); (try clear hkp); (try clear hy0); obtain ⟨hcz262_0, hcz262_1, hcz262_2, hfz262_0, hfz262_1, hfz262_2⟩ := c3 BK199) | ((with_reducible refine gate_callee (f := 11) rfl ?_); refine goesL_ (some 88) rfl rfl Try.func11 (by kernel_rfl) rfl #[.agg #[.slice Ao67 t219.length co67, .int .i64 t196, .int .i64 t197], .int .i64 1] rfl (by (try simp only [List.map_toArray, List.map_cons, List.map_nil]); first | done | (rw [show t219.length = t193.length from (Kd.R_reads' HO_200000.out).1.symm] <;> rfl) | rfl | (simp only [List.length_drop, List.length_take]; rfl)) ?_; (with_reducible refine (laws_heldMachine.calls kj108 _ _ t219 t196 t197 1 t220 _ ?side1 ?side2 A160.out).mono ?_); (case side1 => repeat (first | exact (Kd.R_reads' HO_200000.out).2.2 | (with_reducible refine Kd.C_alloc ?_ _) | (with_reducible refine Kd.C_drewN ?_ _) | (with_reducible refine Kd.C_drew ?_))); (case side2 => rw [show t219.length = t193.length from (Kd.R_reads' HO_200000.out).1.symm]; exact (Kd.R_reads' HO_200000.out).2.1); rintro e w263 ⟨rfl, hb⟩; refine ⟨_, rfl, ?_⟩; have n0_ := kb HO_181000 hb; have n1_ := kb HO_187000 hb; have n2_ := kb HO_193000 hb; have n3_ := kb HO_200000 hb; have n4_ := kp BK160 hb; have n5_ := kp BK161 hb; have n6_ := kp BK180 hb; have n7_ := kp BK186 hb; have n8_ := kp BK192 hb; have n9_ := kp BK199 hb; have n10_ := Aside0.mk (below_step bb hb); clear HO_181000 HO_187000 HO_193000 HO_200000 BK160 BK161 BK180 BK186 BK192 BK199 HB; have HO_181000 := n0_; have HO_187000 := n1_; have HO_193000 := n2_; have HO_200000 := n3_; have BK160 := n4_; have BK161 := n5_; have BK180 := n6_; have BK186 := n7_; have BK192 := n8_; have BK199 := n9_; have HB := n10_; clear n0_ n1_ n2_ n3_ n4_ n5_ n6_ n7_ n8_ n9_ n10_; (try clear hb); (try clear hb2); (try clear hk); (try clear hi)))
             go_ret
             exact ⟨by first | rfl | (simp [errW_none, errW_some] <;> rfl) | (simp [*, errW_none, errW_some] <;> rfl), bb⟩
       ·replace c106 := Bool.eq_false_iff.mpr c106
        subst c106
        rw [if_neg (show ¬ (false = true) by decide)] at H
        obtain rfl := Option.some.inj H
        try go_wp2
        have n0_ := Aside0.mk (Kd.R_drew HO_181000.out)
        have n1_ := Aside0.mk (Kd.R_drew HO_187000.out)
        have n2_ := Aside0.mk (Kd.R_drew HO_193000.out)
        have n3_ := Aside0.mk (Kd.R_drew HO_200000.out)
        have n4_ := Aside0.mk (blk_drew BK160.out)
        have n5_ := Aside0.mk (blk_drew BK161.out)
        have n6_ := Aside0.mk (blk_drew BK180.out)
        have n7_ := Aside0.mk (blk_drew BK186.out)
        have n8_ := Aside0.mk (blk_drew BK192.out)
        have n9_ := Aside0.mk (blk_drew BK199.out)
        have n10_ := Aside0.mk (below_drew1 HB.out)
        clear HO_181000 HO_187000 HO_193000 HO_200000 BK160 BK161 BK180 BK186 BK192 BK199 HB
        have HO_181000 := n0_
        have HO_187000 := n1_
        have HO_193000 := n2_
        have HO_200000 := n3_
        have BK160 := n4_
        have BK161 := n5_
        have BK180 := n6_
        have BK186 := n7_
        have BK192 := n8_
        have BK199 := n9_
        have HB := n10_
        clear n0_ n1_ n2_ n3_ n4_ n5_ n6_ n7_ n8_ n9_ n10_
        refine start_ (n := 5) (S := fun w' => w'.cell? ⟨gb186, 0, none⟩ = some (.slice Ao49 t181.length co49) ∧ w'.cell? ⟨gb186, 1, none⟩ = some (.int .i64 t184) ∧ w'.cell? ⟨gb186, 2, none⟩ = some (.int .i64 t185) ∧ w'.cell? ⟨gb160, 0, none⟩ = some (.slice A0_0 l0_0.length c0_0) ∧ w'.cell? ⟨gb160, 1, none⟩ = some (.int .i64 a0_1) ∧ w'.cell? ⟨gb160, 2, none⟩ = some (.int .i64 a0_2)) (ds := []) #[false, false, false, false, false] (by kernel_rfl) rfl rfl ⟨(blk_cell BK186.out 0).trans rfl, (blk_cell BK186.out 1).trans rfl, (blk_cell BK186.out 2).trans rfl, (blk_cell BK160.out 0).trans rfl, (blk_cell BK160.out 1).trans rfl, (blk_cell BK160.out 2).trans rfl⟩ (fun hHeld => ?_)
        generalize wc.drew = w264 at HO_181000 HO_187000 HO_193000 HO_200000 BK160 BK161 BK180 BK186 BK192 BK199 HB hHeld ⊢
        refine take_ (i := 0) (N := some 54) (v := ?_) (a' := ?_) #[true, false, false, false, false] rfl rfl (by kernel_rfl) (fun _ _ _ h => h) (Or.inl ⟨by rfl, ?_⟩) hHeld ?_ ?_
        rotate_left
        ·rintro w' ⟨s0, s1, s2, s3, s4, s5⟩
         go_simp
         with_reducible rfl
        rotate_left
        ·simp only [Act.put, List.setIfInBounds_toArray, List.set_cons_zero, List.set_cons_succ, i64_w, i32_w]
         rfl
        refine take_ (i := 1) (N := some 55) (v := ?_) (a' := ?_) #[true, true, false, false, false] rfl rfl (by kernel_rfl) (fun _ _ _ h => h) (Or.inl ⟨by rfl, ?_⟩) hHeld ?_ ?_
        rotate_left
        ·rintro w' ⟨s0, s1, s2, s3, s4, s5⟩
         go_simp
         with_reducible rfl
        rotate_left
        ·simp only [Act.put, List.setIfInBounds_toArray, List.set_cons_zero, List.set_cons_succ, i64_w, i32_w]
         rfl
        refine one_ (i := 2) (N := some 56) #[true, true, true, false, false] rfl rfl (by kernel_rfl) (by decide) (fun K hK => ?_)
        refine goes_ Try.func7 (by kernel_rfl) rfl #[.agg #[.slice A0_0 l0_0.length c0_0, .int .i64 a0_1, .int .i64 a0_2]] (by rfl) rfl rfl ll ?_
        with_reducible refine (laws_toMachine.calls kj24 _ _ l0_0 a0_1 a0_2 t201 t204 t205 _ ?side1 ?side2 A101.out).mono ?_
        (case side1 => repeat (first | exact (Kd.C_below HR0_0.out HB.out) | (with_reducible refine Kd.C_alloc ?_ _) | (with_reducible refine Kd.C_drewN ?_ _) | (with_reducible refine Kd.C_drew ?_)))
        (case side2 => exact HC0_0.out)
        rintro e w265 ⟨v202, rfl, ho0, hb⟩
        refine ⟨_, rfl, ?_⟩
        have n0_ := ke HO_181000 ho0 hb
        have n1_ := ke HO_187000 ho0 hb
        have n2_ := ke HO_193000 ho0 hb
        have n3_ := ke HO_200000 ho0 hb
        have n4_ := Aside0.mk (Kd.R_lower (Kd.R_new' (Kd.R_new' (Kd.R_new' (Kd.R_new' ho0 (Kd.R_lt (ra HO_181000.out))) (Kd.R_lt (ra HO_187000.out))) (Kd.R_lt (ra HO_193000.out))) (Kd.R_lt (ra HO_200000.out))) (below_size bb))
        have n5_ := kp BK160 hb
        have n6_ := kp BK161 hb
        have n7_ := kp BK180 hb
        have n8_ := kp BK186 hb
        have n9_ := kp BK192 hb
        have n10_ := kp BK199 hb
        have n11_ := Aside0.mk (below_step bb hb)
        clear HO_181000 HO_187000 HO_193000 HO_200000 BK160 BK161 BK180 BK186 BK192 BK199 HB
        have HO_181000 := n0_
        have HO_187000 := n1_
        have HO_193000 := n2_
        have HO_200000 := n3_
        have HO203 := n4_
        have BK160 := n5_
        have BK161 := n6_
        have BK180 := n7_
        have BK186 := n8_
        have BK192 := n9_
        have BK199 := n10_
        have HB := n11_
        clear n0_ n1_ n2_ n3_ n4_ n5_ n6_ n7_ n8_ n9_ n10_ n11_
        (try clear hb)
        (try clear hb2)
        (try clear hk)
        (try clear hi)
        (try clear ho0)
        obtain ⟨Ao266, co266, eo266⟩ := Kd.R_slice HO203.out
        (first | subst eo266 | (injection eo266 with f1_ f2_ f3_; have f4_ := f1_.symm; have f5_ := f3_.symm; clear f1_ f2_ f3_; subst f4_; subst f5_))
        refine hK.out _ _ ⟨(blk_cell BK186.out 0).trans rfl, (blk_cell BK186.out 1).trans rfl, (blk_cell BK186.out 2).trans rfl, (blk_cell BK160.out 0).trans rfl, (blk_cell BK160.out 1).trans rfl, (blk_cell BK160.out 2).trans rfl⟩ (fun hHeld => ?_)
        clear hK K
        refine norm_ (a' := ?_) ?_ ?_
        rotate_left
        ·show Act.put _ (some 56) _ = _
         simp only [Act.put, List.setIfInBounds_toArray, List.set_cons_zero, List.set_cons_succ, i64_w, i32_w]
         rfl
        refine one_ (i := 3) (N := some 57) #[true, true, true, true, false] rfl rfl (by kernel_rfl) (by decide) (fun K hK => ?_)
        refine goes_ Try.func9 (by kernel_rfl) rfl #[.agg #[.slice Ao49 t181.length co49, .int .i64 t184, .int .i64 t185], .agg #[.slice Ao266 t201.length co266, .int .i64 t204, .int .i64 t205]] (by rfl) rfl rfl ll ?_
        with_reducible refine (laws_eqMachine.calls kj24 _ _ t181 t184 t185 _ _ t201 t204 t205 true _ ?side1 ?side2 ?side3 ?side4 A102.out).mono ?_
        (case side1 => repeat (first | exact (Kd.R_reads' HO_187000.out).2.2 | (with_reducible refine Kd.C_alloc ?_ _) | (with_reducible refine Kd.C_drewN ?_ _) | (with_reducible refine Kd.C_drew ?_)))
        (case side2 => exact (Kd.R_reads' HO_187000.out).2.1)
        (case side3 => repeat (first | exact (Kd.R_reads' HO203.out).2.2 | (with_reducible refine Kd.C_alloc ?_ _) | (with_reducible refine Kd.C_drewN ?_ _) | (with_reducible refine Kd.C_drew ?_)))
        (case side4 => exact (Kd.R_reads' HO203.out).2.1)
        rintro e w267 ⟨rfl, hb⟩
        refine ⟨_, rfl, ?_⟩
        have n0_ := kb HO_181000 hb
        have n1_ := kb HO_187000 hb
        have n2_ := kb HO_193000 hb
        have n3_ := kb HO_200000 hb
        have n4_ := kb HO203 hb
        have n5_ := kp BK160 hb
        have n6_ := kp BK161 hb
        have n7_ := kp BK180 hb
        have n8_ := kp BK186 hb
        have n9_ := kp BK192 hb
        have n10_ := kp BK199 hb
        have n11_ := Aside0.mk (below_step bb hb)
        clear HO_181000 HO_187000 HO_193000 HO_200000 HO203 BK160 BK161 BK180 BK186 BK192 BK199 HB
        have HO_181000 := n0_
        have HO_187000 := n1_
        have HO_193000 := n2_
        have HO_200000 := n3_
        have HO203 := n4_
        have BK160 := n5_
        have BK161 := n6_
        have BK180 := n7_
        have BK186 := n8_
        have BK192 := n9_
        have BK199 := n10_
        have HB := n11_
        clear n0_ n1_ n2_ n3_ n4_ n5_ n6_ n7_ n8_ n9_ n10_ n11_
        (try clear hb)
        (try clear hb2)
        (try clear hk)
        (try clear hi)
        refine hK.out _ _ ⟨(blk_cell BK186.out 0).trans rfl, (blk_cell BK186.out 1).trans rfl, (blk_cell BK186.out 2).trans rfl, (blk_cell BK160.out 0).trans rfl, (blk_cell BK160.out 1).trans rfl, (blk_cell BK160.out 2).trans rfl⟩ (fun hHeld => ?_)
        clear hK K
        refine norm_ (a' := ?_) ?_ ?_
        rotate_left
        ·show Act.put _ (some 57) _ = _
         simp only [Act.put, List.setIfInBounds_toArray, List.set_cons_zero, List.set_cons_succ, i64_w, i32_w]
         rfl
        refine pure_ (i := 4) (N := some 58) (v := ?_) (a' := ?_) #[true, true, true, true, true] rfl rfl (by kernel_rfl) (fun _ _ _ h => h) (Or.inl ⟨by rfl, ?_⟩) ?_ ?_
        rotate_left
        ·intro w'
         go_simp
         with_reducible rfl
        rotate_left
        ·simp only [Act.put, List.setIfInBounds_toArray, List.set_cons_zero, List.set_cons_succ, i64_w, i32_w]
         rfl
        refine done_ (by kernel_rfl) ?_
        try go_wp2
        have n0_ := Aside0.mk (Kd.R_drew HO_181000.out)
        have n1_ := Aside0.mk (Kd.R_drew HO_187000.out)
        have n2_ := Aside0.mk (Kd.R_drew HO_193000.out)
        have n3_ := Aside0.mk (Kd.R_drew HO_200000.out)
        have n4_ := Aside0.mk (Kd.R_drew HO203.out)
        have n5_ := Aside0.mk (blk_drew BK160.out)
        have n6_ := Aside0.mk (blk_drew BK161.out)
        have n7_ := Aside0.mk (blk_drew BK180.out)
        have n8_ := Aside0.mk (blk_drew BK186.out)
        have n9_ := Aside0.mk (blk_drew BK192.out)
        have n10_ := Aside0.mk (blk_drew BK199.out)
        have n11_ := Aside0.mk (below_drew1 HB.out)
        clear HO_181000 HO_187000 HO_193000 HO_200000 HO203 BK160 BK161 BK180 BK186 BK192 BK199 HB
        have HO_181000 := n0_
        have HO_187000 := n1_
        have HO_193000 := n2_
        have HO_200000 := n3_
        have HO203 := n4_
        have BK160 := n5_
        have BK161 := n6_
        have BK180 := n7_
        have BK186 := n8_
        have BK192 := n9_
        have BK199 := n10_
        have HB := n11_
        clear n0_ n1_ n2_ n3_ n4_ n5_ n6_ n7_ n8_ n9_ n10_ n11_
        refine start_ (n := 5) (S := fun w' => w'.cell? ⟨gb192, 0, none⟩ = some (.slice Ao58 t187.length co58) ∧ w'.cell? ⟨gb192, 1, none⟩ = some (.int .i64 t190) ∧ w'.cell? ⟨gb192, 2, none⟩ = some (.int .i64 t191) ∧ w'.cell? ⟨gb161, 0, none⟩ = some (.slice A1_0 l1_0.length c1_0) ∧ w'.cell? ⟨gb161, 1, none⟩ = some (.int .i64 a1_1) ∧ w'.cell? ⟨gb161, 2, none⟩ = some (.int .i64 a1_2)) (ds := []) #[false, false, false, false, false] (by kernel_rfl) rfl rfl ⟨(blk_cell BK192.out 0).trans rfl, (blk_cell BK192.out 1).trans rfl, (blk_cell BK192.out 2).trans rfl, (blk_cell BK161.out 0).trans rfl, (blk_cell BK161.out 1).trans rfl, (blk_cell BK161.out 2).trans rfl⟩ (fun hHeld => ?_)
        generalize w267.drew = w268 at HO_181000 HO_187000 HO_193000 HO_200000 HO203 BK160 BK161 BK180 BK186 BK192 BK199 HB hHeld ⊢
        refine take_ (i := 0) (N := some 59) (v := ?_) (a' := ?_) #[true, false, false, false, false] rfl rfl (by kernel_rfl) (fun _ _ _ h => h) (Or.inl ⟨by rfl, ?_⟩) hHeld ?_ ?_
        rotate_left
        ·rintro w' ⟨s0, s1, s2, s3, s4, s5⟩
         go_simp
         with_reducible rfl
        rotate_left
        ·simp only [Act.put, List.setIfInBounds_toArray, List.set_cons_zero, List.set_cons_succ, i64_w, i32_w]
         rfl
        refine take_ (i := 1) (N := some 60) (v := ?_) (a' := ?_) #[true, true, false, false, false] rfl rfl (by kernel_rfl) (fun _ _ _ h => h) (Or.inl ⟨by rfl, ?_⟩) hHeld ?_ ?_
        rotate_left
        ·rintro w' ⟨s0, s1, s2, s3, s4, s5⟩
         go_simp
         with_reducible rfl
        rotate_left
        ·simp only [Act.put, List.setIfInBounds_toArray, List.set_cons_zero, List.set_cons_succ, i64_w, i32_w]
         rfl
        refine one_ (i := 2) (N := some 61) #[true, true, true, false, false] rfl rfl (by kernel_rfl) (by decide) (fun K hK => ?_)
        refine goes_ Try.func7 (by kernel_rfl) rfl #[.agg #[.slice A1_0 l1_0.length c1_0, .int .i64 a1_1, .int .i64 a1_2]] (by rfl) rfl rfl ll ?_
        with_reducible refine (laws_toMachine.calls kj24 _ _ l1_0 a1_1 a1_2 t207 t210 t211 _ ?side1 ?side2 A104.out).mono ?_
        (case side1 => repeat (first | exact (Kd.C_below HR1_0.out HB.out) | (with_reducible refine Kd.C_alloc ?_ _) | (with_reducible refine Kd.C_drewN ?_ _) | (with_reducible refine Kd.C_drew ?_)))
        (case side2 => exact HC1_0.out)
        rintro e w269 ⟨v208, rfl, ho0, hb⟩
        refine ⟨_, rfl, ?_⟩
        have n0_ := ke HO_181000 ho0 hb
        have n1_ := ke HO_187000 ho0 hb
        have n2_ := ke HO_193000 ho0 hb
        have n3_ := ke HO_200000 ho0 hb
        have n4_ := ke HO203 ho0 hb
        have n5_ := Aside0.mk (Kd.R_lower (Kd.R_new' (Kd.R_new' (Kd.R_new' (Kd.R_new' (Kd.R_new' ho0 (Kd.R_lt (ra HO_181000.out))) (Kd.R_lt (ra HO_187000.out))) (Kd.R_lt (ra HO_193000.out))) (Kd.R_lt (ra HO_200000.out))) (Kd.R_lt (ra HO203.out))) (below_size bb))
        have n6_ := kp BK160 hb
        have n7_ := kp BK161 hb
        have n8_ := kp BK180 hb
        have n9_ := kp BK186 hb
        have n10_ := kp BK192 hb
        have n11_ := kp BK199 hb
        have n12_ := Aside0.mk (below_step bb hb)
        clear HO_181000 HO_187000 HO_193000 HO_200000 HO203 BK160 BK161 BK180 BK186 BK192 BK199 HB
        have HO_181000 := n0_
        have HO_187000 := n1_
        have HO_193000 := n2_
        have HO_200000 := n3_
        have HO203 := n4_
        have HO209 := n5_
        have BK160 := n6_
        have BK161 := n7_
        have BK180 := n8_
        have BK186 := n9_
        have BK192 := n10_
        have BK199 := n11_
        have HB := n12_
        clear n0_ n1_ n2_ n3_ n4_ n5_ n6_ n7_ n8_ n9_ n10_ n11_ n12_
        (try clear hb)
        (try clear hb2)
        (try clear hk)
        (try clear hi)
        (try clear ho0)
        obtain ⟨Ao270, co270, eo270⟩ := Kd.R_slice HO209.out
        (first | subst eo270 | (injection eo270 with f1_ f2_ f3_; have f4_ := f1_.symm; have f5_ := f3_.symm; clear f1_ f2_ f3_; subst f4_; subst f5_))
        refine hK.out _ _ ⟨(blk_cell BK192.out 0).trans rfl, (blk_cell BK192.out 1).trans rfl, (blk_cell BK192.out 2).trans rfl, (blk_cell BK161.out 0).trans rfl, (blk_cell BK161.out 1).trans rfl, (blk_cell BK161.out 2).trans rfl⟩ (fun hHeld => ?_)
        clear hK K
        refine norm_ (a' := ?_) ?_ ?_
        rotate_left
        ·show Act.put _ (some 61) _ = _
         simp only [Act.put, List.setIfInBounds_toArray, List.set_cons_zero, List.set_cons_succ, i64_w, i32_w]
         rfl
        refine one_ (i := 3) (N := some 62) #[true, true, true, true, false] rfl rfl (by kernel_rfl) (by decide) (fun K hK => ?_)
        refine goes_ Try.func9 (by kernel_rfl) rfl #[.agg #[.slice Ao58 t187.length co58, .int .i64 t190, .int .i64 t191], .agg #[.slice Ao270 t207.length co270, .int .i64 t210, .int .i64 t211]] (by rfl) rfl rfl ll ?_
        with_reducible refine (laws_eqMachine.calls kj24 _ _ t187 t190 t191 _ _ t207 t210 t211 false _ ?side1 ?side2 ?side3 ?side4 A105.out).mono ?_
        (case side1 => repeat (first | exact (Kd.R_reads' HO_193000.out).2.2 | (with_reducible refine Kd.C_alloc ?_ _) | (with_reducible refine Kd.C_drewN ?_ _) | (with_reducible refine Kd.C_drew ?_)))
        (case side2 => exact (Kd.R_reads' HO_193000.out).2.1)
        (case side3 => repeat (first | exact (Kd.R_reads' HO209.out).2.2 | (with_reducible refine Kd.C_alloc ?_ _) | (with_reducible refine Kd.C_drewN ?_ _) | (with_reducible refine Kd.C_drew ?_)))
        (case side4 => exact (Kd.R_reads' HO209.out).2.1)
        rintro e w271 ⟨rfl, hb⟩
        refine ⟨_, rfl, ?_⟩
        have n0_ := kb HO_181000 hb
        have n1_ := kb HO_187000 hb
        have n2_ := kb HO_193000 hb
        have n3_ := kb HO_200000 hb
        have n4_ := kb HO203 hb
        have n5_ := kb HO209 hb
        have n6_ := kp BK160 hb
        have n7_ := kp BK161 hb
        have n8_ := kp BK180 hb
        have n9_ := kp BK186 hb
        have n10_ := kp BK192 hb
        have n11_ := kp BK199 hb
        have n12_ := Aside0.mk (below_step bb hb)
        clear HO_181000 HO_187000 HO_193000 HO_200000 HO203 HO209 BK160 BK161 BK180 BK186 BK192 BK199 HB
        have HO_181000 := n0_
        have HO_187000 := n1_
        have HO_193000 := n2_
        have HO_200000 := n3_
        have HO203 := n4_
        have HO209 := n5_
        have BK160 := n6_
        have BK161 := n7_
        have BK180 := n8_
        have BK186 := n9_
        have BK192 := n10_
        have BK199 := n11_
        have HB := n12_
        clear n0_ n1_ n2_ n3_ n4_ n5_ n6_ n7_ n8_ n9_ n10_ n11_ n12_
        (try clear hb)
        (try clear hb2)
        (try clear hk)
        (try clear hi)
        refine hK.out _ _ ⟨(blk_cell BK192.out 0).trans rfl, (blk_cell BK192.out 1).trans rfl, (blk_cell BK192.out 2).trans rfl, (blk_cell BK161.out 0).trans rfl, (blk_cell BK161.out 1).trans rfl, (blk_cell BK161.out 2).trans rfl⟩ (fun hHeld => ?_)
        clear hK K
        refine norm_ (a' := ?_) ?_ ?_
        rotate_left
        ·show Act.put _ (some 62) _ = _
         simp only [Act.put, List.setIfInBounds_toArray, List.set_cons_zero, List.set_cons_succ, i64_w, i32_w]
         rfl
        refine pure_ (i := 4) (N := some 63) (v := ?_) (a' := ?_) #[true, true, true, true, true] rfl rfl (by kernel_rfl) (fun _ _ _ h => h) (Or.inl ⟨by rfl, ?_⟩) ?_ ?_
        rotate_left
        ·intro w'
         go_simp
         with_reducible rfl
        rotate_left
        ·simp only [Act.put, List.setIfInBounds_toArray, List.set_cons_zero, List.set_cons_succ, i64_w, i32_w]
         rfl
        refine done_ (by kernel_rfl) ?_
        try go_wp2
        go_ret
        exact ⟨by first | rfl | (simp [errW_none, errW_some] <;> rfl) | (simp [*, errW_none, errW_some] <;> rfl), bb⟩
      ·replace c103 := Bool.eq_false_iff.mpr c103
       subst c103
       rw [if_neg (show ¬ (false = true) by decide)] at H
       obtain rfl := Option.some.inj H
       try go_wp2
       have n0_ := Aside0.mk (Kd.R_drew HO_181000.out)
       have n1_ := Aside0.mk (Kd.R_drew HO_187000.out)
       have n2_ := Aside0.mk (Kd.R_drew HO_193000.out)
       have n3_ := Aside0.mk (Kd.R_drew HO_200000.out)
       have n4_ := Aside0.mk (blk_drew BK160.out)
       have n5_ := Aside0.mk (blk_drew BK161.out)
       have n6_ := Aside0.mk (blk_drew BK180.out)
       have n7_ := Aside0.mk (blk_drew BK186.out)
       have n8_ := Aside0.mk (blk_drew BK192.out)
       have n9_ := Aside0.mk (blk_drew BK199.out)
       have n10_ := Aside0.mk (below_drew1 HB.out)
       clear HO_181000 HO_187000 HO_193000 HO_200000 BK160 BK161 BK180 BK186 BK192 BK199 HB
       have HO_181000 := n0_
       have HO_187000 := n1_
       have HO_193000 := n2_
       have HO_200000 := n3_
       have BK160 := n4_
       have BK161 := n5_
       have BK180 := n6_
       have BK186 := n7_
       have BK192 := n8_
       have BK199 := n9_
       have HB := n10_
       clear n0_ n1_ n2_ n3_ n4_ n5_ n6_ n7_ n8_ n9_ n10_
       refine start_ (n := 5) (S := fun w' => w'.cell? ⟨gb186, 0, none⟩ = some (.slice Ao49 t181.length co49) ∧ w'.cell? ⟨gb186, 1, none⟩ = some (.int .i64 t184) ∧ w'.cell? ⟨gb186, 2, none⟩ = some (.int .i64 t185) ∧ w'.cell? ⟨gb160, 0, none⟩ = some (.slice A0_0 l0_0.length c0_0) ∧ w'.cell? ⟨gb160, 1, none⟩ = some (.int .i64 a0_1) ∧ w'.cell? ⟨gb160, 2, none⟩ = some (.int .i64 a0_2)) (ds := []) #[false, false, false, false, false] (by kernel_rfl) rfl rfl ⟨(blk_cell BK186.out 0).trans rfl, (blk_cell BK186.out 1).trans rfl, (blk_cell BK186.out 2).trans rfl, (blk_cell BK160.out 0).trans rfl, (blk_cell BK160.out 1).trans rfl, (blk_cell BK160.out 2).trans rfl⟩ (fun hHeld => ?_)
       generalize wc.drew = w272 at HO_181000 HO_187000 HO_193000 HO_200000 BK160 BK161 BK180 BK186 BK192 BK199 HB hHeld ⊢
       refine take_ (i := 0) (N := some 54) (v := ?_) (a' := ?_) #[true, false, false, false, false] rfl rfl (by kernel_rfl) (fun _ _ _ h => h) (Or.inl ⟨by rfl, ?_⟩) hHeld ?_ ?_
       rotate_left
       ·rintro w' ⟨s0, s1, s2, s3, s4, s5⟩
        go_simp
        with_reducible rfl
       rotate_left
       ·simp only [Act.put, List.setIfInBounds_toArray, List.set_cons_zero, List.set_cons_succ, i64_w, i32_w]
        rfl
       refine take_ (i := 1) (N := some 55) (v := ?_) (a' := ?_) #[true, true, false, false, false] rfl rfl (by kernel_rfl) (fun _ _ _ h => h) (Or.inl ⟨by rfl, ?_⟩) hHeld ?_ ?_
       rotate_left
       ·rintro w' ⟨s0, s1, s2, s3, s4, s5⟩
        go_simp
        with_reducible rfl
       rotate_left
       ·simp only [Act.put, List.setIfInBounds_toArray, List.set_cons_zero, List.set_cons_succ, i64_w, i32_w]
        rfl
       refine one_ (i := 2) (N := some 56) #[true, true, true, false, false] rfl rfl (by kernel_rfl) (by decide) (fun K hK => ?_)
       refine goes_ Try.func7 (by kernel_rfl) rfl #[.agg #[.slice A0_0 l0_0.length c0_0, .int .i64 a0_1, .int .i64 a0_2]] (by rfl) rfl rfl ll ?_
       with_reducible refine (laws_toMachine.calls kj24 _ _ l0_0 a0_1 a0_2 t201 t204 t205 _ ?side1 ?side2 A101.out).mono ?_
       (case side1 => repeat (first | exact (Kd.C_below HR0_0.out HB.out) | (with_reducible refine Kd.C_alloc ?_ _) | (with_reducible refine Kd.C_drewN ?_ _) | (with_reducible refine Kd.C_drew ?_)))
       (case side2 => exact HC0_0.out)
       rintro e w273 ⟨v202, rfl, ho0, hb⟩
       refine ⟨_, rfl, ?_⟩
       have n0_ := ke HO_181000 ho0 hb
       have n1_ := ke HO_187000 ho0 hb
       have n2_ := ke HO_193000 ho0 hb
       have n3_ := ke HO_200000 ho0 hb
       have n4_ := Aside0.mk (Kd.R_lower (Kd.R_new' (Kd.R_new' (Kd.R_new' (Kd.R_new' ho0 (Kd.R_lt (ra HO_181000.out))) (Kd.R_lt (ra HO_187000.out))) (Kd.R_lt (ra HO_193000.out))) (Kd.R_lt (ra HO_200000.out))) (below_size bb))
       have n5_ := kp BK160 hb
       have n6_ := kp BK161 hb
       have n7_ := kp BK180 hb
       have n8_ := kp BK186 hb
       have n9_ := kp BK192 hb
       have n10_ := kp BK199 hb
       have n11_ := Aside0.mk (below_step bb hb)
       clear HO_181000 HO_187000 HO_193000 HO_200000 BK160 BK161 BK180 BK186 BK192 BK199 HB
       have HO_181000 := n0_
       have HO_187000 := n1_
       have HO_193000 := n2_
       have HO_200000 := n3_
       have HO203 := n4_
       have BK160 := n5_
       have BK161 := n6_
       have BK180 := n7_
       have BK186 := n8_
       have BK192 := n9_
       have BK199 := n10_
       have HB := n11_
       clear n0_ n1_ n2_ n3_ n4_ n5_ n6_ n7_ n8_ n9_ n10_ n11_
       (try clear hb)
       (try clear hb2)
       (try clear hk)
       (try clear hi)
       (try clear ho0)
       obtain ⟨Ao274, co274, eo274⟩ := Kd.R_slice HO203.out
       (first | subst eo274 | (injection eo274 with f1_ f2_ f3_; have f4_ := f1_.symm; have f5_ := f3_.symm; clear f1_ f2_ f3_; subst f4_; subst f5_))
       refine hK.out _ _ ⟨(blk_cell BK186.out 0).trans rfl, (blk_cell BK186.out 1).trans rfl, (blk_cell BK186.out 2).trans rfl, (blk_cell BK160.out 0).trans rfl, (blk_cell BK160.out 1).trans rfl, (blk_cell BK160.out 2).trans rfl⟩ (fun hHeld => ?_)
       clear hK K
       refine norm_ (a' := ?_) ?_ ?_
       rotate_left
       ·show Act.put _ (some 56) _ = _
        simp only [Act.put, List.setIfInBounds_toArray, List.set_cons_zero, List.set_cons_succ, i64_w, i32_w]
        rfl
       refine one_ (i := 3) (N := some 57) #[true, true, true, true, false] rfl rfl (by kernel_rfl) (by decide) (fun K hK => ?_)
       refine goes_ Try.func9 (by kernel_rfl) rfl #[.agg #[.slice Ao49 t181.length co49, .int .i64 t184, .int .i64 t185], .agg #[.slice Ao274 t201.length co274, .int .i64 t204, .int .i64 t205]] (by rfl) rfl rfl ll ?_
       with_reducible refine (laws_eqMachine.calls kj24 _ _ t181 t184 t185 _ _ t201 t204 t205 false _ ?side1 ?side2 ?side3 ?side4 A102.out).mono ?_
       (case side1 => repeat (first | exact (Kd.R_reads' HO_187000.out).2.2 | (with_reducible refine Kd.C_alloc ?_ _) | (with_reducible refine Kd.C_drewN ?_ _) | (with_reducible refine Kd.C_drew ?_)))
       (case side2 => exact (Kd.R_reads' HO_187000.out).2.1)
       (case side3 => repeat (first | exact (Kd.R_reads' HO203.out).2.2 | (with_reducible refine Kd.C_alloc ?_ _) | (with_reducible refine Kd.C_drewN ?_ _) | (with_reducible refine Kd.C_drew ?_)))
       (case side4 => exact (Kd.R_reads' HO203.out).2.1)
       rintro e w275 ⟨rfl, hb⟩
       refine ⟨_, rfl, ?_⟩
       have n0_ := kb HO_181000 hb
       have n1_ := kb HO_187000 hb
       have n2_ := kb HO_193000 hb
       have n3_ := kb HO_200000 hb
       have n4_ := kb HO203 hb
       have n5_ := kp BK160 hb
       have n6_ := kp BK161 hb
       have n7_ := kp BK180 hb
       have n8_ := kp BK186 hb
       have n9_ := kp BK192 hb
       have n10_ := kp BK199 hb
       have n11_ := Aside0.mk (below_step bb hb)
       clear HO_181000 HO_187000 HO_193000 HO_200000 HO203 BK160 BK161 BK180 BK186 BK192 BK199 HB
       have HO_181000 := n0_
       have HO_187000 := n1_
       have HO_193000 := n2_
       have HO_200000 := n3_
       have HO203 := n4_
       have BK160 := n5_
       have BK161 := n6_
       have BK180 := n7_
       have BK186 := n8_
       have BK192 := n9_
       have BK199 := n10_
       have HB := n11_
       clear n0_ n1_ n2_ n3_ n4_ n5_ n6_ n7_ n8_ n9_ n10_ n11_
       (try clear hb)
       (try clear hb2)
       (try clear hk)
       (try clear hi)
       refine hK.out _ _ ⟨(blk_cell BK186.out 0).trans rfl, (blk_cell BK186.out 1).trans rfl, (blk_cell BK186.out 2).trans rfl, (blk_cell BK160.out 0).trans rfl, (blk_cell BK160.out 1).trans rfl, (blk_cell BK160.out 2).trans rfl⟩ (fun hHeld => ?_)
       clear hK K
       refine norm_ (a' := ?_) ?_ ?_
       rotate_left
       ·show Act.put _ (some 57) _ = _
        simp only [Act.put, List.setIfInBounds_toArray, List.set_cons_zero, List.set_cons_succ, i64_w, i32_w]
        rfl
       refine pure_ (i := 4) (N := some 58) (v := ?_) (a' := ?_) #[true, true, true, true, true] rfl rfl (by kernel_rfl) (fun _ _ _ h => h) (Or.inl ⟨by rfl, ?_⟩) ?_ ?_
       rotate_left
       ·intro w'
        go_simp
        with_reducible rfl
       rotate_left
       ·simp only [Act.put, List.setIfInBounds_toArray, List.set_cons_zero, List.set_cons_succ, i64_w, i32_w]
        rfl
       refine done_ (by kernel_rfl) ?_
       try go_wp2
       go_ret
       exact ⟨by first | rfl | (simp [errW_none, errW_some] <;> rfl) | (simp [*, errW_none, errW_some] <;> rfl), bb⟩

end Go.Proofs.Ytbgjehgfaakfdaa.G
