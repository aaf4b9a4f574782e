/- The reference's tidy text of a term is the tidy term's text. -/
import Derived.Test.YtijmkmbepjjphaaQtree
import Derived.Test.YtijmkmbepjjphaaG5
import Derived.Test.YtijmkmbepjjphaaG6
import Derived.Test.YtijmkmbepjjphaaG7
namespace Go.Proofs.Ytijmkmbepjjphaa.Pure
open Go.RowKit Go.Proofs.Ytijmkmbepjjphaa.G Go.Proofs.Ytijmkmbepjjphaa.G.X Go.Proofs.YtijmkmbepjjphaaW.PrintWords Go.Proofs.YtijmkmbepjjphaaW.PrintLast

theorem lit_list (c : UInt8) : (⟨#[c]⟩ : ByteArray).toList = [c] := by
  rw [Lib.toList_data]
theorem tsg_list (c : UInt8) : (tsg c).toList = [c] := by
  have h : tsg c = ⟨#[c]⟩ := by
    unfold tsg strOfNums
    simp
  rw [h, lit_list]
theorem ba_app (a b : ByteArray) : (a ++ b).toList = a.toList ++ b.toList := by
  rw [Lib.toList_data, Lib.toList_data, Lib.toList_data]
  simp
theorem lone_list {x : Te} {d : UInt8} : (te_text x).toList = [d] ↔ te_lone x d = true := by
  cases x with
  | leaf c =>
    show (tsg c).toList = [d] ↔ (c == d) = true
    rw [tsg_list]
    simp
  | one c x =>
    have h : (te_text (.one c x)).toList.length = 1 + (te_text x).size := by
      rw [Lib.toList_data, ← Lib.size_eq, size_one]
    have hp := size_pos x
    constructor
    · intro e
      rw [e, show ([d] : List UInt8).length = 1 from rfl] at h
      omega
    · intro e
      cases e
  | two c x y =>
    have h : (te_text (.two c x y)).toList.length = 3 + (te_text x).size + (te_text y).size := by
      rw [Lib.toList_data, ← Lib.size_eq, size_two]
    constructor
    · intro e
      rw [e, show ([d] : List UInt8).length = 1 from rfl] at h
      omega
    · intro e
      cases e
theorem lone_text {x : Te} {d : UInt8} (h : te_lone x d = true) : te_text (.leaf d) = te_text x := by
  cases x with
  | leaf c =>
    have : c = d := by simpa [te_lone] using h
    rw [this]
  | one c x => cases h
  | two c x y => cases h
theorem lone_beq (x : Te) (d : UInt8) : ((te_text x).toList == [d]) = te_lone x d := by
  cases h : te_lone x d with
  | true => rw [lone_list.2 h]; simp
  | false =>
    rw [beq_eq_false_iff_ne]
    intro e
    rw [lone_list.1 e] at h
    cases h
theorem bt_zero {a : ByteArray} {c : UInt8} {l : List UInt8} (h : a.toList = c :: l) : bt a 0 = (c.toNat : Int) := by
  have h' : a.data.toList = c :: l := by rw [← Lib.toList_data]; exact h
  have hs : 0 < a.size := by
    have : a.size = a.data.toList.length := Lib.size_eq a
    rw [h'] at this
    simp at this
    omega
  unfold bt
  rw [dif_pos (by simpa using hs)]
  have : a.data.toList[0]'(by rw [h']; simp) = c := by simp [h']
  rw [← this]
  rfl
theorem sign_bt {x : Te} (h : Wt x) : (bt (te_text x) 0 == 42) = (te_sign x == 42) := by
  cases h with
  | leaf c hc =>
    show (bt (tsg c) 0 == 42) = (c == 42)
    rw [bt_zero (c := c) (l := []) (tsg_list c)]
    exact u8_eq rfl
  | one c x hc hx =>
    rw [bt_zero (c := c) (l := (te_text x).toList) (by rw [te_text, ba_app, tsg_list]; rfl)]
    exact u8_eq rfl
  | two c x y hc hx hy =>
    rw [bt_zero (c := 40) (l := (te_text x).toList ++ [c] ++ (te_text y).toList ++ [41]) (by
      rw [te_text, ba_app, ba_app, ba_app, ba_app, tsg_list, lit_list, lit_list]
      rfl)]
    have : (te_sign (.two c x y) == 42) = false := by
      show (c == 42) = false
      rw [beq_eq_false_iff_ne]
      rintro rfl
      exact absurd hc (by decide)
    rw [this]
    rfl
theorem wt_te_one {c : UInt8} {x : Te} (h : tp_one c = true) (hx : Wt x) : Wt (te_one c x) := by
  unfold te_one
  split
  · exact .leaf 49 rfl
  · split
    · exact hx
    · exact .one c x h hx
theorem wt_te_two {c : UInt8} {x y : Te} (h : tp_op c = true) (hx : Wt x) (hy : Wt y) : Wt (te_two c x y) := by
  unfold te_two
  split
  · exact hy
  · split
    · exact hx
    · split
      · exact .leaf 48 rfl
      · split
        · exact hx
        · exact .two c x y h hx hy
theorem wt_tidy : ∀ {x : Te}, Wt x → Wt (te_tidy x)
  | _, .leaf c h => .leaf c h
  | _, .one c x h hx => wt_te_one h (wt_tidy hx)
  | _, .two c x y h hx hy => wt_te_two h (wt_tidy hx) (wt_tidy hy)
theorem u8_int {c : UInt8} {e : Int} {d : UInt8} (he : e = (d.toNat : Int)) : ((c.toNat : Int) = e) ↔ (c == d) = true := by
  rw [← u8_eq he]
  simp
theorem tidy_one (c : UInt8) (x : Te) (hx : Wt x) (hs : (te_text x).size ≤ 1000) (l : List S28) (k : Nat) :
    (if (c.toNat : Int) = 42 then (if (te_text x).toList = ([48] : List UInt8) then (spec_l7Tidy.j0 (k + 2) (te_text x) true (c.toNat : Int) l) else (spec_l7Tidy.j0 (k + 2) (te_text x) ((te_text x).toList == ([49] : List UInt8)) (c.toNat : Int) l)) else (spec_l7Tidy.j0 (k + 2) (te_text x) false (c.toNat : Int) l)) = some (te_text (te_one c x)) := by
  have e42 : ((c.toNat : Int) = 42) ↔ (c == 42) = true := u8_int rfl
  have e48 : ((te_text x).toList = [48]) ↔ te_lone x 48 = true := lone_list
  have e49 : ((te_text x).toList = [49]) ↔ te_lone x 49 = true := lone_list
  have e49b : ((te_text x).toList == [49]) = te_lone x 49 := lone_beq x 49
  have eb : (bt (te_text x) 0 == 42) = (te_sign x == 42) := sign_bt hx
  have hp := size_pos x
  have hz : (0 < ((te_text x).size : Int)) = True := eq_true (by omega)
  have hc : ((strOfNums ([(c.toNat : Int)] : List Int)).size + (te_text x).size ≤ 9223372036854775807) = True := eq_true (by
    have : (strOfNums ([(c.toNat : Int)] : List Int)).size = 1 := rfl
    omega)
  have ht : strOfNums ([(c.toNat : Int)] : List Int) ++ te_text x = te_text (.one c x) := rfl
  have h49 : (⟨#[49]⟩ : ByteArray) = te_text (.leaf 49) := rfl
  simp only [spec_l7Tidy.j0, spec_l7Tidy.j1, Option.bind_some, e42, e48, e49, e49b, eb, hz, hc, ht, h49, te_one]
  cases (c == 42) <;> cases te_lone x 48 <;> cases te_lone x 49 <;> cases (te_sign x == 42) <;> simp
theorem tidy_two (c : UInt8) (x y : Te) (hs : (te_text x).size ≤ 1000) (hs2 : (te_text y).size ≤ 1000) (l : List S28) (k : Nat) :
    (if (c.toNat : Int) = 43 then (spec_l7Tidy.j2 (k + 5) (te_text x) (te_text y) ((te_text x).toList == ([48] : List UInt8)) (c.toNat : Int) l) else (spec_l7Tidy.j2 (k + 5) (te_text x) (te_text y) false (c.toNat : Int) l)) = some (te_text (te_two c x y)) := by
  have e43 : ((c.toNat : Int) = 43) ↔ (c == 43) = true := u8_int rfl
  have e46 : ((c.toNat : Int) = 46) ↔ (c == 46) = true := u8_int rfl
  have x48 : ((te_text x).toList = [48]) ↔ te_lone x 48 = true := lone_list
  have x48b : ((te_text x).toList == [48]) = te_lone x 48 := lone_beq x 48
  have x49b : ((te_text x).toList == [49]) = te_lone x 49 := lone_beq x 49
  have y48b : ((te_text y).toList == [48]) = te_lone y 48 := lone_beq y 48
  have y49b : ((te_text y).toList == [49]) = te_lone y 49 := lone_beq y 49
  have eq : ((te_text x).toList = (te_text y).toList) ↔ ((te_text x).toList == (te_text y).toList) = true := by simp
  have z1 : (strOfNums ([(c.toNat : Int)] : List Int)).size = 1 := rfl
  have r0 : (1 + (te_text x).size ≤ 9223372036854775807) = True := eq_true (by omega)
  have k40 : (⟨#[40]⟩ : ByteArray).size = 1 := rfl
  have r1 : (((⟨#[40]⟩ : ByteArray) ++ te_text x).size + (strOfNums ([(c.toNat : Int)] : List Int)).size ≤ 9223372036854775807) = True := eq_true (by rw [ByteArray.size_append]; omega)
  have r2 : ((((⟨#[40]⟩ : ByteArray) ++ te_text x) ++ (strOfNums ([(c.toNat : Int)] : List Int))).size + (te_text y).size ≤ 9223372036854775807) = True := eq_true (by rw [ByteArray.size_append, ByteArray.size_append]; omega)
  have r3 : (((((⟨#[40]⟩ : ByteArray) ++ te_text x) ++ (strOfNums ([(c.toNat : Int)] : List Int))) ++ te_text y).size + 1 ≤ 9223372036854775807) = True := eq_true (by rw [ByteArray.size_append, ByteArray.size_append, ByteArray.size_append]; omega)
  have ht : (((((⟨#[40]⟩ : ByteArray) ++ te_text x) ++ (strOfNums ([(c.toNat : Int)] : List Int))) ++ te_text y) ++ (⟨#[41]⟩ : ByteArray)) = te_text (.two c x y) := rfl
  have h48 : (⟨#[48]⟩ : ByteArray) = te_text (.leaf 48) := rfl
  simp only [spec_l7Tidy.j2, spec_l7Tidy.j3, spec_l7Tidy.j4, spec_l7Tidy.j5, spec_l7Tidy.j6, Option.bind_some, e43, e46, x48, x48b, x49b, y48b, y49b, eq, r0, r1, r2, r3, ht, h48, te_two]
  obtain ⟨p, d, ep, ed, hpd⟩ := sign_ex c
  obtain ⟨x0, x1, ex0, ex1, hxx⟩ := lone_ex x
  obtain ⟨y0, y1, ey0, ey1, hyy⟩ := lone_ex y
  rw [ep, ed, ex0, ex1, ey0, ey1]
  have hX : x0 = true → te_text (.leaf 48) = te_text x := fun h => lone_text (ex0.trans h)
  have hY : y0 = true → te_text (.leaf 48) = te_text y := fun h => lone_text (ey0.trans h)
  generalize ((te_text x).toList == (te_text y).toList) = t
  rcases hpd with ⟨rfl, rfl⟩ | ⟨rfl, rfl⟩ | ⟨rfl, rfl⟩ <;> rcases hxx with ⟨rfl, rfl⟩ | ⟨rfl, rfl⟩ | ⟨rfl, rfl⟩ <;> rcases hyy with ⟨rfl, rfl⟩ | ⟨rfl, rfl⟩ | ⟨rfl, rfl⟩ <;> cases t <;> (try simp) <;> first | exact hX rfl | exact hY rfl
theorem tidy_ev : ∀ {x : Te}, Wt x → (te_text x).size ≤ 1000 → Ev (fun k => spec_l7Tidy.f k (sm x).f0 (sm x).f1) (te_text (te_tidy x))
  | _, .leaf c h, hs => by
    refine (ev_step (f := fun k => (spec_l7Write.f k (c.toNat : Int) []).bind fun t => some t) (fun k => by rw [spec_l7Tidy.f]; rfl)).2 ?_
    have hw : Ev (fun k => spec_l7Write.f k (c.toNat : Int) []) (tsg c) := (ev_step (f := fun k => some (tsg c)) (fun k => by rw [spec_l7Write.f]; rfl)).2 ((ev_some _ _).2 rfl)
    rw [ev_bind hw, ev_some]
    rfl
  | _, .one c x h hx, hs => by
    have hsx : (te_text x).size ≤ 1000 := by rw [size_one] at hs; omega
    have hst := size_tidy x
    have ih := tidy_ev hx hsx
    refine (ev_step (f := fun k => (spec_l7Tidy.f k (sm x).f0 (sm x).f1).bind fun t => (if (c.toNat : Int) = 42 then (if t.toList = ([48] : List UInt8) then (spec_l7Tidy.j0 k t true (c.toNat : Int) [sm x]) else (spec_l7Tidy.j0 k t (t.toList == ([49] : List UInt8)) (c.toNat : Int) [sm x])) else (spec_l7Tidy.j0 k t false (c.toNat : Int) [sm x]))) (fun k => by rw [spec_l7Tidy.f]; rfl)).2 ?_
    rw [ev_bind ih]
    refine ⟨2, fun k hk => ?_⟩
    obtain ⟨k, rfl⟩ : ∃ m, k = m + 2 := ⟨k - 2, by omega⟩
    exact tidy_one c (te_tidy x) (wt_tidy hx) (by omega) _ k
  | _, .two c x y h hx hy, hs => by
    have hsx : (te_text x).size ≤ 1000 := by rw [size_two] at hs; omega
    have hsy : (te_text y).size ≤ 1000 := by rw [size_two] at hs; omega
    have hst := size_tidy x
    have hsu := size_tidy y
    have ih := tidy_ev hx hsx
    have ih2 := tidy_ev hy hsy
    refine (ev_step (f := fun k => (spec_l7Tidy.f k (sm x).f0 (sm x).f1).bind fun t => (spec_l7Tidy.f k (sm y).f0 (sm y).f1).bind fun u => (if (c.toNat : Int) = 43 then (spec_l7Tidy.j2 k t u (t.toList == ([48] : List UInt8)) (c.toNat : Int) [sm x, sm y]) else (spec_l7Tidy.j2 k t u false (c.toNat : Int) [sm x, sm y]))) (fun k => by rw [spec_l7Tidy.f]; rfl)).2 ?_
    rw [ev_bind ih, ev_bind ih2]
    refine ⟨5, fun k hk => ?_⟩
    obtain ⟨k, rfl⟩ : ∃ m, k = m + 5 := ⟨k - 5, by omega⟩
    exact tidy_two c (te_tidy x) (te_tidy y) (by omega) (by omega) _ k
end Go.Proofs.Ytijmkmbepjjphaa.Pure
