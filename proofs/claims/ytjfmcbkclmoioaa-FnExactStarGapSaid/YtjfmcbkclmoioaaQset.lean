/- How a text of a set is read: the program's setOf and the reference's l1Read come to the same. -/
import Derived.Test.YtjfmcbkclmoioaaQ0
import Derived.Test.YtjfmcbkclmoioaaG1
import Derived.Test.YtjfmcbkclmoioaaG2
import Derived.Test.YtjfmcbkclmoioaaG8
import Derived.Test.YtjfmcbkclmoioaaG9
namespace Go.Proofs.Ytjfmcbkclmoioaa.Pure
open Go.RowKit Go.Proofs.Ytjfmcbkclmoioaa.G Go.Proofs.YtjfmcbkclmoioaaW.PrintWords Go.Proofs.YtjfmcbkclmoioaaW.PrintLast Go.Proofs.YtjfmcbkclmoioaaW.PrintMore

theorem size_len (s : ByteArray) : s.size = s.data.toList.length := Lib.size_eq s
theorem ext_list (s : ByteArray) (i j : Nat) : (s.extract i j).data.toList = (s.data.toList.drop i).take (j - i) := by
  rw [Lib.extract_eq]
theorem toList_list (s : ByteArray) : s.toList = s.data.toList := Lib.toList_data s
theorem bt_get (s : ByteArray) (i : Nat) : bt s (i : Int) = ((s.data.toList.getD i 0).toNat : Int) := by
  unfold bt
  rw [List.getD_eq_getElem?_getD]
  by_cases h : i < s.size
  · have h2 : i < s.data.toList.length := by rw [← size_len]; exact h
    rw [dif_pos (by simpa using h), List.getElem?_eq_getElem h2]
    rfl
  · have h2 : s.data.toList.length ≤ i := by rw [← size_len]; omega
    rw [dif_neg (by simpa using h), List.getElem?_eq_none h2]
    rfl
/-- Where the sign '(' stands first, or the end. -/
def pos (l : List UInt8) : Nat := l.findIdx (fun c => c == 40)
theorem pos_le (l : List UInt8) : pos l ≤ l.length := List.findIdx_le_length
theorem index_pos (l : List UInt8) : Lib.indexByte l 40 = if pos l < l.length then (pos l : Int) else -1 := by
  induction l with
  | nil => rfl
  | cons b l ih =>
    unfold pos at ih ⊢
    rw [Lib.indexByte, List.findIdx_cons]
    by_cases h : (b == 40) = true
    · rw [if_pos h, h]
      simp
    · rw [if_neg h, Bool.eq_false_iff.2 h, ih]
      simp only [cond_false, List.length_cons, Nat.add_lt_add_iff_right]
      by_cases g : List.findIdx (fun c => c == 40) l < l.length
      · rw [if_pos g, if_pos g, if_neg (by rw [beq_iff_eq]; omega)]
        omega
      · rw [if_neg g, if_neg g, if_pos (by rfl)]
theorem cut_eq (a : ByteArray) (hs : a.size ≤ 1048576) : strings_Cut.f a (⟨#[40]⟩ : ByteArray) = some (if pos a.data.toList < a.data.toList.length then (a.extract 0 (pos a.data.toList), a.extract (pos a.data.toList + 1) a.size, true) else (a, ⟨#[]⟩, false)) := by
  have hl := size_len a
  have e : stringslite_Index.f a (⟨#[40]⟩ : ByteArray) = some (if pos a.data.toList < a.data.toList.length then (pos a.data.toList : Int) else -1) := by
    unfold stringslite_Index.f
    rw [if_pos (by rfl)]
    show some (Lib.indexByte a.data.toList 40) = _
    rw [index_pos]
  unfold strings_Cut.f stringslite_Cut.f
  rw [e, Option.bind_some]
  have h1 : ((⟨#[40]⟩ : ByteArray).size : Int) = 1 := rfl
  rw [h1]
  by_cases h : pos a.data.toList < a.data.toList.length
  · rw [if_pos h, if_pos h, if_pos (by omega), if_pos (by omega), if_pos (by omega), wrap_in _ (by omega), if_pos (by omega), if_pos (by omega)]
    simp only [Option.bind_some, Int.toNat_natCast]
    congr 2
  · rw [if_neg h, if_neg h, if_neg (by decide)]
    rfl
theorem suffix_eq (a : ByteArray) (hs : a.size ≤ 1048576) : strings_CutSuffix.f a (⟨#[41]⟩ : ByteArray) = some (if a.data.toList.getLast? = some 41 then (a.extract 0 (a.size - 1), true) else (a, false)) := by
  have hl := size_len a
  have h1 : ((⟨#[41]⟩ : ByteArray).size : Int) = 1 := rfl
  have e : stringslite_HasSuffix.f a (⟨#[41]⟩ : ByteArray) = some (decide (a.data.toList.getLast? = some 41)) := by
    unfold stringslite_HasSuffix.f
    rw [h1]
    by_cases h : (a.size : Int) ≥ 1
    · rw [if_pos h, wrap_in _ (by omega), if_pos (by omega), if_pos (by omega), toList_list, ext_list]
      have e1 : ((a.size : Int) - 1).toNat = a.data.toList.length - 1 := by omega
      have e2 : a.size - ((a.size : Int) - 1).toNat = 1 := by omega
      rw [e2, e1, toList_list]
      have hlt : a.data.toList.length - 1 < a.data.toList.length := by omega
      rw [List.drop_eq_getElem_cons hlt, List.getLast?_eq_getElem?, List.getElem?_eq_getElem hlt]
      congr 1
      show ([a.data.toList[a.data.toList.length - 1]] == [41]) = _
      rw [Bool.eq_iff_iff]
      simp
    · rw [if_neg h]
      have : a.data.toList = [] := List.eq_nil_of_length_eq_zero (by omega)
      rw [this]
      rfl
  unfold strings_CutSuffix.f stringslite_CutSuffix.f
  rw [e, Option.bind_some, h1]
  by_cases h : a.data.toList.getLast? = some 41
  · have hne : a.data.toList ≠ [] := by
      intro z
      rw [z] at h
      cases h
    have hpos := List.length_pos_iff.2 hne
    rw [decide_eq_true h, if_pos rfl, if_pos h, wrap_in _ (by omega), if_pos (by omega), if_pos (by omega), Option.bind_some]
    have e1 : ((a.size : Int) - 1).toNat = a.size - 1 := by omega
    rw [e1]
  · rw [decide_eq_false h, if_neg (by decide), if_neg h]
    rfl
def tailL (l : List UInt8) : List UInt8 := l.take (pos l)
def ringL (l : List UInt8) : List UInt8 := (l.drop (pos l + 1)).take (l.length - 1 - (pos l + 1))
def bitsL (l : List UInt8) : List Bool := l.map (fun c => c == 49)
def readOk (l : List UInt8) : Prop := pos l + 2 < l.length ∧ l.getLast? = some 41 ∧ (tailL l).all sg_ok = true ∧ (ringL l).all sg_ok = true ∧ (tailL l).length ≤ 60 ∧ (ringL l).length ≤ 60
instance (l : List UInt8) : Decidable (readOk l) := by unfold readOk; exact inferInstance
theorem signs_eq (a : ByteArray) (hs : a.size ≤ 1048576) : impl_signs.f a = some (sg_out a.data.toList) := by
  unfold impl_signs.f
  rw [if_pos (by omega)]
theorem sg_yes {l : List UInt8} (h : l.all sg_ok = true) (h2 : l.length ≤ 60) : sg_out l = (bitsL l, true) := by
  unfold sg_out bitsL
  rw [if_pos h, List.length_map, decide_eq_true (by omega)]
theorem sg_no {l : List UInt8} (h : ¬ (l.all sg_ok = true ∧ l.length ≤ 60)) : (sg_out l).2 = false := by
  unfold sg_out
  by_cases c : l.all sg_ok = true
  · rw [if_pos c, List.length_map]
    exact decide_eq_false (fun z => h ⟨c, by omega⟩)
  · rw [if_neg c]
theorem setOf_eq (a : ByteArray) (hs : a.size ≤ 1048576) : ∃ t r, impl_setOf.f a = some (t, r, decide (readOk a.data.toList)) ∧ (readOk a.data.toList → t = bitsL (tailL a.data.toList) ∧ r = bitsL (ringL a.data.toList)) := by
  have hl := size_len a
  have hp := pos_le a.data.toList
  unfold impl_setOf.f
  rw [cut_eq a hs, Option.bind_some]
  by_cases h : pos a.data.toList < a.data.toList.length
  · rw [if_pos h]
    have l1 := ext_list a (pos a.data.toList + 1) a.size
    have hsz : (a.extract (pos a.data.toList + 1) a.size).size = a.data.toList.length - (pos a.data.toList + 1) := by
      rw [size_len, l1, List.length_take, List.length_drop]
      omega
    have l1' : (a.extract (pos a.data.toList + 1) a.size).data.toList = a.data.toList.drop (pos a.data.toList + 1) := by
      rw [l1, List.take_of_length_le (by rw [List.length_drop]; omega)]
    have l2 : (a.extract 0 (pos a.data.toList)).data.toList = tailL a.data.toList := by
      rw [ext_list, List.drop_zero, Nat.sub_zero]
      rfl
    have s2 : (a.extract 0 (pos a.data.toList)).size ≤ 1048576 := by
      rw [size_len, l2]
      unfold tailL
      rw [List.length_take]
      omega
    simp only
    rw [suffix_eq _ (by omega), Option.bind_some, signs_eq _ s2, Option.bind_some, l2, l1', List.getLast?_drop]
    by_cases e : (if a.data.toList.length ≤ pos a.data.toList + 1 then none else a.data.toList.getLast?) = some 41
    · rw [if_pos e]
      have hlt : ¬ a.data.toList.length ≤ pos a.data.toList + 1 := fun z => by rw [if_pos z] at e; cases e
      rw [if_neg hlt] at e
      have l3 : ((a.extract (pos a.data.toList + 1) a.size).extract 0 ((a.extract (pos a.data.toList + 1) a.size).size - 1)).data.toList = ringL a.data.toList := by
        rw [ext_list, List.drop_zero, Nat.sub_zero, l1', hsz]
        unfold ringL
        congr 1
        omega
      have s3 : ((a.extract (pos a.data.toList + 1) a.size).extract 0 ((a.extract (pos a.data.toList + 1) a.size).size - 1)).size ≤ 1048576 := by
        rw [size_len, l3]
        unfold ringL
        rw [List.length_take]
        omega
      have rlen : (ringL a.data.toList).length = a.data.toList.length - 1 - (pos a.data.toList + 1) := by
        unfold ringL
        rw [List.length_take, List.length_drop]
        omega
      simp only
      rw [signs_eq _ s3, Option.bind_some, l3, if_pos trivial, if_pos trivial]
      by_cases c1 : (tailL a.data.toList).all sg_ok = true ∧ (tailL a.data.toList).length ≤ 60
      · rw [sg_yes c1.1 c1.2, if_pos rfl]
        by_cases c2 : (ringL a.data.toList).all sg_ok = true ∧ (ringL a.data.toList).length ≤ 60
        · rw [sg_yes c2.1 c2.2, if_pos rfl]
          have hd : decide (((bitsL (ringL a.data.toList)).length : Int) > 0) = decide (readOk a.data.toList) := by
            refine decide_eq_decide.2 ?_
            have e2 : (bitsL (ringL a.data.toList)).length = (ringL a.data.toList).length := List.length_map ..
            rw [e2]
            constructor
            · intro z
              exact ⟨by omega, e, c1.1, c2.1, c1.2, c2.2⟩
            · intro z
              have := z.1
              omega
          refine ⟨bitsL (tailL a.data.toList), bitsL (ringL a.data.toList), ?_, fun _ => ⟨rfl, rfl⟩⟩
          show some (bitsL (tailL a.data.toList), bitsL (ringL a.data.toList), decide (((bitsL (ringL a.data.toList)).length : Int) > 0)) = _
          rw [hd]
        · have n2 := sg_no c2
          rw [if_neg (by rw [n2]; decide)]
          have nr : ¬ readOk a.data.toList := fun z => c2 ⟨z.2.2.2.1, z.2.2.2.2.2⟩
          exact ⟨_, _, by rw [decide_eq_false nr], fun z => absurd z nr⟩
      · have n1 := sg_no c1
        rw [if_neg (by rw [n1]; decide)]
        have nr : ¬ readOk a.data.toList := fun z => c1 ⟨z.2.2.1, z.2.2.2.2.1⟩
        exact ⟨_, _, by rw [decide_eq_false nr], fun z => absurd z nr⟩
    · rw [if_neg e]
      have nr : ¬ readOk a.data.toList := fun z => e (by rw [if_neg (by have := z.1; omega)]; exact z.2.1)
      simp only
      rw [signs_eq _ (by omega), Option.bind_some, if_pos trivial, if_neg (by decide)]
      exact ⟨_, _, by rw [decide_eq_false nr], fun z => absurd z nr⟩
  · rw [if_neg h]
    have nr : ¬ readOk a.data.toList := fun z => h (by have := z.1; omega)
    simp only
    rw [suffix_eq _ (by decide), if_neg (by decide), Option.bind_some, signs_eq _ hs, Option.bind_some]
    simp only
    rw [signs_eq _ (by decide), Option.bind_some, if_neg (by decide)]
    exact ⟨_, _, by rw [decide_eq_false nr], fun z => absurd z nr⟩
theorem spec_signs_l0 (s : ByteArray) (hs : s.size ≤ 1048576) (d : Nat) : ∀ (i : Nat), s.data.toList.length - i = d → i ≤ s.data.toList.length → (s.data.toList.take i).all sg_ok = true →
    Ev (fun k => spec_l1Signs.l0 k s (bitsL (s.data.toList.take i)) (i : Int)) (if s.data.toList.all sg_ok = true then (bitsL s.data.toList, true) else ([], false)) := by
  have hl := size_len s
  induction d with
  | zero =>
    intro i hd hi ha
    rw [List.take_of_length_le (by omega)] at ha ⊢
    rw [ev_step (fun k => by rw [spec_l1Signs.l0]), ev_neg (by omega), ev_some, if_pos ha]
  | succ d ih =>
    intro i hd hi ha
    have hi2 : i < s.data.toList.length := by omega
    have htk := sg_take hi2
    have hb : (bitsL (s.data.toList.take i)).length < 140737488355328 := by
      unfold bitsL
      rw [List.length_map, List.length_take]
      omega
    have e49 : ((bt s (i : Int)) == 49) = (s.data.toList.getD i 0 == 49) := by rw [bt_get]; exact sg_u8 _ 49
    have e48 : ((bt s (i : Int)) == 48) = (s.data.toList.getD i 0 == 48) := by rw [bt_get]; exact sg_u8 _ 48
    have hsn : bitsL (s.data.toList.take (i + 1)) = bitsL (s.data.toList.take i) ++ [(bt s (i : Int)) == 49] := by
      rw [htk, e49]
      unfold bitsL
      rw [List.map_append, List.map_singleton]
    rw [ev_step (fun k => by rw [spec_l1Signs.l0]), ev_pos (by omega), ev_pos (by omega), ← hsn, wrap_in _ (by omega)]
    by_cases c : sg_ok (s.data.toList.getD i 0) = true
    · have := ih (i + 1) (by omega) (by omega) (by rw [htk, List.all_append, ha, List.all_cons, List.all_nil, c]; rfl)
      by_cases c48 : bt s (i : Int) = 48
      · rw [ev_pos c48, ev_pos hb]
        exact this
      · have c49 : bt s (i : Int) = 49 := by
          unfold sg_ok at c
          rw [← e48, ← e49, Bool.or_eq_true, beq_iff_eq, beq_iff_eq] at c
          rcases c with z | z
          · exact absurd z c48
          · exact z
        rw [ev_neg c48, ev_pos c49, ev_pos hb]
        exact this
    · have c2 := Bool.eq_false_iff.2 c
      have hbad := sg_bad hi2 c2
      unfold sg_ok at c2
      rw [← e48, ← e49, Bool.or_eq_false_iff, beq_eq_false_iff_ne, beq_eq_false_iff_ne] at c2
      rw [ev_neg c2.1, ev_neg c2.2, ev_some, if_neg (by rw [hbad]; decide)]
theorem spec_signs_ev (s : ByteArray) (hs : s.size ≤ 1048576) : Ev (fun k => spec_l1Signs.f k s) (if s.data.toList.all sg_ok = true then (bitsL s.data.toList, true) else ([], false)) := by
  simp only [spec_l1Signs.f]
  exact spec_signs_l0 s hs s.data.toList.length 0 (by omega) (by omega) rfl
def readC (l : List UInt8) : List Bool × List Bool × Bool := if readOk l then (bitsL (tailL l), bitsL (ringL l), true) else ([], [false], false)
theorem read_j2 (a : ByteArray) (hs : a.size ≤ 1048576) (hp : pos a.data.toList + 2 < a.data.toList.length) (c : Bool) (hc : c = decide (¬ a.data.toList.getLast? = some 41)) :
    Ev (fun k => spec_l1Read.j2 k a (pos a.data.toList : Int) c [] [false]) (readC a.data.toList) := by
  have hl := size_len a
  rw [ev_step (fun k => by rw [spec_l1Read.j2])]
  unfold readC
  by_cases e : a.data.toList.getLast? = some 41
  · rw [decide_eq_false (by simpa using e)] at hc
    have l2 : (a.extract 0 (pos a.data.toList)).data.toList = tailL a.data.toList := by
      rw [ext_list, List.drop_zero, Nat.sub_zero]
      rfl
    have s2 : (a.extract 0 (pos a.data.toList)).size ≤ 1048576 := by
      rw [size_len, l2]
      unfold tailL
      rw [List.length_take]
      omega
    have l3 : (a.extract (pos a.data.toList + 1) (a.size - 1)).data.toList = ringL a.data.toList := by
      rw [ext_list]
      unfold ringL
      congr 1 <;> omega
    have s3 : (a.extract (pos a.data.toList + 1) (a.size - 1)).size ≤ 1048576 := by
      rw [size_len, l3]
      unfold ringL
      rw [List.length_take]
      omega
    have g2 := spec_signs_ev _ s2
    have g3 := spec_signs_ev _ s3
    rw [l2] at g2
    rw [l3] at g3
    have w1 : wrap64 ((pos a.data.toList : Int) + 1) = ((pos a.data.toList + 1 : Nat) : Int) := by rw [wrap_in _ (by omega)]; omega
    have w2 : wrap64 ((a.size : Int) - 1) = ((a.size - 1 : Nat) : Int) := by rw [wrap_in _ (by omega)]; omega
    rw [w1, w2]
    simp only [Int.toNat_natCast]
    rw [ev_neg (by rw [hc]; decide), ev_pos (by omega), ev_pos (by omega), ev_bind g2, ev_pos (by omega), ev_pos (by omega), ev_pos (by omega), ev_bind g3]
    by_cases c1 : (tailL a.data.toList).all sg_ok = true
    · rw [if_pos c1, ev_pos rfl]
      by_cases c2 : (ringL a.data.toList).all sg_ok = true
      · rw [if_pos c2, ev_pos rfl]
        have b1 : (bitsL (tailL a.data.toList)).length = (tailL a.data.toList).length := List.length_map ..
        have b2 : (bitsL (ringL a.data.toList)).length = (ringL a.data.toList).length := List.length_map ..
        simp only [b1, b2]
        by_cases d1 : (tailL a.data.toList).length ≤ 60
        · rw [ev_neg (by omega)]
          by_cases d2 : (ringL a.data.toList).length ≤ 60
          · rw [ev_neg (by omega), ev_some, if_pos ⟨hp, e, c1, c2, d1, d2⟩]
          · rw [ev_pos (by omega), ev_some, if_neg (fun z => d2 z.2.2.2.2.2)]
        · rw [ev_pos (by omega), ev_some, if_neg (fun z => d1 z.2.2.2.2.1)]
      · rw [if_neg c2, ev_neg (by decide), ev_some, if_neg (fun z => c2 z.2.2.2.1)]
    · rw [if_neg c1, ev_neg (by decide), ev_some, if_neg (fun z => c1 z.2.2.1)]
  · rw [decide_eq_true (by simpa using e)] at hc
    rw [ev_pos hc, ev_some, if_neg (fun z => e z.2.1)]
theorem read_j1 (a : ByteArray) (hs : a.size ≤ 1048576) : Ev (fun k => spec_l1Read.j1 k a (pos a.data.toList : Int) [] [false]) (readC a.data.toList) := by
  have hl := size_len a
  have hp := pos_le a.data.toList
  rw [ev_step (fun k => by rw [spec_l1Read.j1]), wrap_in ((pos a.data.toList : Int) + 2) (by omega)]
  by_cases h : pos a.data.toList + 2 < a.data.toList.length
  · have w2 : wrap64 ((a.size : Int) - 1) = ((a.size - 1 : Nat) : Int) := by rw [wrap_in _ (by omega)]; omega
    rw [ev_neg (by omega), w2, ev_pos (by omega), ev_pos (by omega)]
    refine read_j2 a hs h _ ?_
    have hlt : a.size - 1 < a.data.toList.length := by omega
    rw [bt_get, List.getLast?_eq_getElem?, ← hl, List.getElem?_eq_getElem hlt, List.getD_eq_getElem?_getD, List.getElem?_eq_getElem hlt, Option.getD_some]
    have := sg_u8 a.data.toList[a.size - 1] 41
    show (!(((a.data.toList[a.size - 1]).toNat : Int) == ((41 : UInt8).toNat : Int))) = _
    rw [this, Bool.eq_iff_iff]
    simp
  · rw [ev_pos (by omega), ev_step (fun k => by rw [spec_l1Read.j2]), ev_pos rfl, ev_some]
    unfold readC
    rw [if_neg (fun z => h z.1)]
theorem read_l0 (a : ByteArray) (hs : a.size ≤ 1048576) (d : Nat) : ∀ (i : Nat), pos a.data.toList - i = d → i ≤ pos a.data.toList → Ev (fun k => spec_l1Read.l0 k a (i : Int) [] [false]) (readC a.data.toList) := by
  have hl := size_len a
  have hp := pos_le a.data.toList
  induction d with
  | zero =>
    intro i hd hi
    have : i = pos a.data.toList := by omega
    subst this
    rw [ev_step (fun k => by rw [spec_l1Read.l0])]
    by_cases h : pos a.data.toList < a.data.toList.length
    · have hf : (a.data.toList[pos a.data.toList] == 40) = true := List.findIdx_getElem (w := h)
      have hb : bt a (pos a.data.toList : Int) = 40 := by
        rw [bt_get, List.getD_eq_getElem?_getD, List.getElem?_eq_getElem h, Option.getD_some, beq_iff_eq.1 hf]
        rfl
      rw [ev_pos (by omega), ev_pos (by omega), ev_pos hb]
      exact read_j1 a hs
    · rw [ev_neg (by omega)]
      exact read_j1 a hs
  | succ d ih =>
    intro i hd hi
    have hlt : i < pos a.data.toList := by omega
    have hi2 : i < a.data.toList.length := by omega
    have hn : ¬ (a.data.toList[i] == 40) = true := by
      have hf : (a.data.toList[i] == 40) = false := List.not_of_lt_findIdx hlt
      rw [hf]
      decide
    have hb : ¬ bt a (i : Int) = 40 := by
      rw [bt_get, List.getD_eq_getElem?_getD, List.getElem?_eq_getElem hi2, Option.getD_some]
      intro z
      have := sg_u8 a.data.toList[i] 40
      rw [Bool.eq_iff_iff] at this
      exact hn (this.1 (beq_iff_eq.2 z))
    rw [ev_step (fun k => by rw [spec_l1Read.l0]), ev_pos (by omega), ev_pos (by omega), ev_neg hb, wrap_in _ (by omega)]
    exact ih (i + 1) (by omega) (by omega)
theorem read_ev (a : ByteArray) (hs : a.size ≤ 1048576) : Ev (fun k => spec_l1Read.f k a) (readC a.data.toList) := by
  simp only [spec_l1Read.f]
  exact read_l0 a hs _ 0 rfl (by omega)
end Go.Proofs.Ytjfmcbkclmoioaa.Pure
