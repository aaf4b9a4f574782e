-- Made by gprint.py (the kit's print with contracts of this session's own among its functions).
import Derived.Test.YtdkebjjmnhdcnaaG0
import Derived.Test.YtdkebjjmnhdcnaaG7
import Derived.Test.YtdkebjjmnhdcnaaG22
import Derived.Test.YtdkebjjmnhdcnaaG28
import Derived.Test.YtdkebjjmnhdcnaaG29
namespace Go.Proofs.Ytdkebjjmnhdcnaa.G
open Go.RowKit Go.Proofs.YtdkebjjmnhdcnaaW.PrintWords Go.Proofs.YtdkebjjmnhdcnaaW.PrintLast Go.Proofs.YtdkebjjmnhdcnaaW.PrintMore
attribute [local go_sem] max2_int min2_int max_two min_two max_three min_three max_four min_four   -- for this text's walks alone
set_option linter.unusedVariables false
set_option linter.unusedSimpArgs false

/-! ### impl_MakeUp: function 29 -/
def impl_MakeUp.f (k : Nat) (a0 : ByteArray) (a1 : Int) : Option (ByteArray × Bool) := (impl_setOf.f a0).bind fun b => if b.2.2 = true then (impl_in.f a1 0 60).bind fun t => (if t = true then impl_made.f (fun x => impl_set_has.f b.1 b.2.1 (wrap64 (x - a1))) k (wrap64 ((b.1.length : Int) + a1)) (b.2.1.length : Int) 0 else some (⟨#[]⟩, false)) else some (⟨#[]⟩, false)
theorem impl_MakeUp.mono : ∀ a0 a1 k, LeO (impl_MakeUp.f k a0 a1) (impl_MakeUp.f (k + 1) a0 a1) := by
 intro a0 a1 k
 unfold impl_MakeUp.f
 repeat' first
 | (with_reducible exact impl_made.mono _ _ _ _ _)
 | (with_reducible exact LeO.refl _)
 | (with_reducible refine LeO.ite ?_ ?_)
 | (with_reducible refine LeO.bind ?_ (fun _ => ?_))
set_option maxHeartbeats 4000000 in
set_option maxRecDepth 100000 in
theorem mu_asks (B K : Nat) (Ao Bo : Option Addr) (ca cb : Nat) (t r : List Bool) (kk x : Int) (b : Bool) (W : World) (hc0 : W.cell? ⟨B, 0, none⟩ = some (.slice Ao t.length ca)) (hc1 : W.cell? ⟨B, 1, none⟩ = some (.slice Bo r.length cb)) (hk : W.cell? ⟨K, 0, none⟩ = some (.int .i64 kk))
  (hr : Kd.C Kd.bool W Ao t.length t) (hl : t.length ≤ ca) (hs : Kd.C Kd.bool W Bo r.length r) (hm : r.length ≤ cb) (h : impl_set_has.f t r (wrap64 (x - kk)) = some b) :
  Calls Try.prog 54 #[.int .i64 x, .pointer (some ⟨B, 0, none⟩), .pointer (some ⟨K, 0, none⟩)] W fun e W' => e = .returned (.bool b) ∧ Below W.heap.size W W' := by
 have HR := Aside0.mk hr
 have HL := Aside0.mk hl
 have HS := Aside0.mk hs
 have HM := Aside0.mk hm
 have H := Aside0.mk h
 have hu_ := Try.underlying55
 clear hr hl hs hm h
 go_enter Try.func54, Try.ntmps54
 go_wp2_with (first | (go_at_call 45; (with_reducible refine (impl_set_has.calls Ao ca t Bo cb r (wrap64 (x - kk)) b _ HR.out HL.out HS.out HM.out H.out).mono ?_); rintro e w' ⟨rfl, hb⟩; have HB := Aside0.mk hb; clear hb))
 go_ret
 exact ⟨rfl, HB.out⟩
set_option maxHeartbeats 4000000 in
set_option maxRecDepth 100000 in
theorem impl_MakeUp.calls (k : Nat) (a0 : ByteArray) (a1 : Int) (r1 : ByteArray) (r2 : Bool) (w : World) (h : impl_MakeUp.f k a0 a1 = some (r1, r2)) :
  Calls Try.prog 29 #[.string a0, .int .i64 a1] w fun e w' => e = .returned (.tuple #[.string r1, .bool r2]) ∧ Below w.heap.size w w' := by
 unfold impl_MakeUp.f at h
 have hu_ := Try.underlying55
 cases hso : impl_setOf.f a0 with
 | none => rw [hso] at h; cases h
 | some q =>
 obtain ⟨t, r, ok⟩ := q
 rw [hso, Option.bind_some] at h
 simp only at h
 have HSO := Aside0.mk hso
 have HH := Aside0.mk h
 clear hso h
 have hb1 : Below w.heap.size w (w.alloc (.cells #[.int .i64 a1] 3)) := below_alloc (Below.refl _ _) _
 have hk : (w.alloc (.cells #[.int .i64 a1] 3)).cell? ⟨w.heap.size, 0, none⟩ = some (.int .i64 a1) := by go_simp
 obtain ⟨W1, hW1⟩ : ∃ W1, (w.alloc (.cells #[.int .i64 a1] 3)) = W1 := ⟨_, rfl⟩
 rw [hW1] at hb1 hk
 have HB1 := Aside0.mk hb1
 clear hb1
 go_enter Try.func29, Try.ntmps29
 go_wp2_with fail
 refine (impl_setOf.calls a0 t r ok _ HSO.out).mono ?_
 rintro e W2 ⟨v0, v1, rfl, ho0, ho1, hb⟩
 obtain ⟨Ao, ca, rfl, hl, hr⟩ := Kd.R_reads ho0
 obtain ⟨Bo, cb, rfl, hm, hs⟩ := Kd.R_reads ho1
 have hk2 := pw_cell_below hb hk
 have HB2 := Aside0.mk (below_step HB1.out hb)
 have HL := Aside0.mk hl
 have HR := Aside0.mk hr
 have HM := Aside0.mk hm
 have HS := Aside0.mk hs
 clear hb hk HB1 ho0 ho1 hl hr hm hs
 cases ok with
 | false =>
  have hq := HH.out
  rw [if_neg (by decide)] at hq
  obtain ⟨rfl, rfl⟩ := Prod.mk.inj (Option.some.inj hq)
  clear hq
  go_wp2
  go_ret2
  exact ⟨rfl, below_alloc HB2.out _⟩
 | true =>
  have hq := HH.out
  rw [if_pos rfl] at hq
  cases hin : impl_in.f a1 0 60 with
  | none => rw [hin] at hq; cases hq
  | some b =>
  rw [hin, Option.bind_some] at hq
  have HIN := Aside0.mk hin
  have HQ := Aside0.mk hq
  clear hin hq HH
  have hb3 : Below w.heap.size w (W2.alloc (.cells #[.slice Ao t.length ca, .slice Bo r.length cb] 55)) := below_alloc HB2.out _
  have hc0 : (W2.alloc (.cells #[.slice Ao t.length ca, .slice Bo r.length cb] 55)).cell? ⟨W2.heap.size, 0, none⟩ = some (.slice Ao t.length ca) := by go_simp
  have hc1 : (W2.alloc (.cells #[.slice Ao t.length ca, .slice Bo r.length cb] 55)).cell? ⟨W2.heap.size, 1, none⟩ = some (.slice Bo r.length cb) := by go_simp
  have hbl : Below W2.heap.size W2 (W2.alloc (.cells #[.slice Ao t.length ca, .slice Bo r.length cb] 55)) := below_alloc (Below.refl _ _) _
  have hk3 := pw_cell_below hbl hk2
  have HR3 := Aside0.mk (Kd.C_below HR.out hbl)
  have HS3 := Aside0.mk (Kd.C_below HS.out hbl)
  obtain ⟨W3, hW3⟩ : ∃ W3, (W2.alloc (.cells #[.slice Ao t.length ca, .slice Bo r.length cb] 55)) = W3 := ⟨_, rfl⟩
  rw [hW3] at hb3 hc0 hc1 hk3 HR3 HS3
  have HB3 := Aside0.mk hb3
  clear hb3 hbl hk2 HR HS HB2
  go_wp2_with fail
  refine (impl_in.calls a1 0 60 b _ HIN.out).mono ?_
  rintro e W4 ⟨rfl, hd⟩
  have hb := hd.below
  clear hd
  have hk4 := pw_cell_below hb hk3
  have hd0 := pw_cell_below hb hc0
  have hd1 := pw_cell_below hb hc1
  have HB4 := Aside0.mk (below_step HB3.out hb)
  have HR4 := Aside0.mk (Kd.C_below HR3.out hb)
  have HS4 := Aside0.mk (Kd.C_below HS3.out hb)
  clear hb hk3 hc0 hc1 HB3 HR3 HS3 hW3 hW1
  cases b with
  | false =>
   have hq := HQ.out
   rw [if_neg (by decide)] at hq
   obtain ⟨rfl, rfl⟩ := Prod.mk.inj (Option.some.inj hq)
   clear hq
   go_wp2
   go_ret2
   exact ⟨rfl, HB4.out⟩
  | true =>
   have hq := HQ.out
   rw [if_pos rfl] at hq
   have HQ2 := Aside0.mk hq
   have HK4 := Aside0.mk hk4
   have HD0 := Aside0.mk hd0
   have HD1 := Aside0.mk hd1
   clear hq HQ
   go_wp2_with fail
   refine (impl_made.calls 54 _ #[.pointer (some ⟨W2.heap.size, 0, none⟩), .pointer (some ⟨w.heap.size, 0, none⟩)] (fun x => impl_set_has.f t r (wrap64 (x - a1))) k (wrap64 ((t.length : Int) + a1)) (r.length : Int) 0 r1 r2 _ ⟨Try.func54, by kernel_rfl, by kernel_rfl⟩ (fun x b W hb hx => mu_asks W2.heap.size w.heap.size Ao Bo ca cb t r a1 x b W (pw_cell_below hb HD0.out) (pw_cell_below hb HD1.out) (pw_cell_below hb HK4.out) (Kd.C_below HR4.out hb) HL.out (Kd.C_below HS4.out hb) HM.out hx) HQ2.out).mono ?_
   rintro e W5 ⟨rfl, hb⟩
   have HB5 := Aside0.mk (below_step HB4.out hb)
   clear hb
   go_wp2
   go_ret2
   exact ⟨rfl, HB5.out⟩

end Go.Proofs.Ytdkebjjmnhdcnaa.G
