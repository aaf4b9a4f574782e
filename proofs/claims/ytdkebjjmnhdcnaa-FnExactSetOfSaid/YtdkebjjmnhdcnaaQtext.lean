/- The text of a set: what the program writes; it is read back as it was. -/
import Derived.Test.YtdkebjjmnhdcnaaQwrite
import Derived.Test.YtdkebjjmnhdcnaaG10
namespace Go.Proofs.Ytdkebjjmnhdcnaa.Pure
open Go.RowKit Go.Proofs.Ytdkebjjmnhdcnaa.G Go.Proofs.YtdkebjjmnhdcnaaW.PrintWords Go.Proofs.YtdkebjjmnhdcnaaW.PrintLast Go.Proofs.YtdkebjjmnhdcnaaW.PrintMore
set_option linter.unusedVariables false

theorem byte_ext {a b : ByteArray} (h : a.data.toList = b.data.toList) : a = b := by
  obtain ⟨⟨x⟩⟩ := a
  obtain ⟨⟨y⟩⟩ := b
  simp at h
  rw [h]
theorem append_list (a b : ByteArray) : (a ++ b).data.toList = a.data.toList ++ b.data.toList := by
  rw [ByteArray.data_append, Array.toList_append]
theorem str_list (q : List Int) : (strOfNums q).data.toList = q.map (fun n => n.toNat.toUInt8) := by
  unfold strOfNums
  simp
theorem bit_byte (b : Bool) : (bitI b).toNat.toUInt8 = bitB b := by
  cases b <;> rfl
theorem bits_bytes (l : List Bool) : (l.map bitI).map (fun n => n.toNat.toUInt8) = l.map bitB := by
  rw [List.map_map]
  congr 1
  funext b
  exact bit_byte b
/-- The bytes of the text. -/
theorem wrB_list (t r : List Bool) : (wrB t r).data.toList = t.map bitB ++ 40 :: (r.map bitB ++ [41]) := by
  unfold wrB wrI
  rw [str_list, List.map_append, List.map_append, List.map_append, bits_bytes, bits_bytes, List.append_assoc, List.append_assoc]
  rfl
theorem wrB_size (t r : List Bool) : (wrB t r).size = t.length + r.length + 2 := by
  rw [size_len, wrB_list]
  simp
  omega
theorem told_eq (l : List Bool) (h : l.length ≤ 100000) : impl_told.f l = some ⟨(l.map bitB).toArray⟩ := by
  unfold impl_told.f
  rw [if_pos (by omega)]
theorem text_eq (t r : List Bool) : ((((⟨(t.map bitB).toArray⟩ : ByteArray) ++ (⟨#[40]⟩ : ByteArray)) ++ (⟨(r.map bitB).toArray⟩ : ByteArray)) ++ (⟨#[41]⟩ : ByteArray)) = wrB t r := by
  refine byte_ext ?_
  rw [append_list, append_list, append_list, wrB_list]
  simp
theorem text_ev (t r : List Bool) (ht : t.length ≤ 60) (hr : r.length ≤ 60) : Ev (fun k => impl_set_text.f k t r) (wrB t r, true) := by
  have z1 : (⟨(t.map bitB).toArray⟩ : ByteArray).size = t.length := by simp [ByteArray.size]
  have z2 : (⟨(r.map bitB).toArray⟩ : ByteArray).size = r.length := by simp [ByteArray.size]
  have z3 : ((⟨(t.map bitB).toArray⟩ : ByteArray) ++ (⟨#[40]⟩ : ByteArray)).size = t.length + 1 := by rw [ByteArray.size_append, z1]; rfl
  have z4 : (((⟨(t.map bitB).toArray⟩ : ByteArray) ++ (⟨#[40]⟩ : ByteArray)) ++ (⟨(r.map bitB).toArray⟩ : ByteArray)).size = t.length + 1 + r.length := by rw [ByteArray.size_append, z3, z2]
  simp only [impl_set_text.f]
  rw [ev_neg (by omega), ev_step (fun k => by rw [impl_set_text.j0]), ev_neg (by simp; omega), ev_bind0 (told_eq t (by omega)), ev_pos (by omega), ev_bind0 (told_eq r (by omega)), ev_pos (by omega), ev_pos (by omega), ev_some, text_eq]
theorem find_bits (l : List Bool) (x : List UInt8) : (l.map bitB ++ 40 :: x).findIdx (fun c => c == 40) = l.length := by
  induction l with
  | nil => rfl
  | cons b l ih =>
    rw [List.map_cons, List.cons_append, List.findIdx_cons, ih]
    cases b <;> rfl
theorem bitsL_map (l : List Bool) : bitsL (l.map bitB) = l := by
  unfold bitsL
  rw [List.map_map]
  induction l with
  | nil => rfl
  | cons b l ih =>
    rw [List.map_cons, ih]
    cases b <;> rfl
theorem all_bits (l : List Bool) : (l.map bitB).all sg_ok = true := by
  rw [List.all_eq_true]
  intro x hx
  obtain ⟨b, _, rfl⟩ := List.mem_map.1 hx
  cases b <;> rfl
/-- What is written is read back. -/
theorem setC_wr {t r : List Bool} (ht : t.length ≤ 60) (h1 : 1 ≤ r.length) (hr : r.length ≤ 60) : setC (wrB t r).data.toList = some (t, r) := by
  rw [wrB_list]
  have hp : pos (t.map bitB ++ 40 :: (r.map bitB ++ [41])) = t.length := find_bits t _
  have htl : tailL (t.map bitB ++ 40 :: (r.map bitB ++ [41])) = t.map bitB := by
    unfold tailL
    rw [hp, List.take_append_of_le_length (by simp), List.take_of_length_le (by simp)]
  have hlen : (t.map bitB ++ 40 :: (r.map bitB ++ [41])).length = t.length + r.length + 2 := by
    simp
    omega
  have hrl : ringL (t.map bitB ++ 40 :: (r.map bitB ++ [41])) = r.map bitB := by
    unfold ringL
    rw [hp, hlen, List.drop_append, List.drop_of_length_le (by simp)]
    simp
  have ok : readOk (t.map bitB ++ 40 :: (r.map bitB ++ [41])) := by
    unfold readOk
    rw [hp, htl, hrl, hlen]
    refine ⟨by omega, ?_, all_bits t, all_bits r, by simpa using ht, by simpa using hr⟩
    rw [show t.map bitB ++ 40 :: (r.map bitB ++ [41]) = (t.map bitB ++ 40 :: r.map bitB) ++ [41] by simp, List.getLast?_concat]
  unfold setC
  rw [if_pos ok, htl, hrl, bitsL_map, bitsL_map]
/-- The tidy text. -/
def tidyS (l : List UInt8) : ByteArray × Bool := match setC l with
  | none => (⟨#[]⟩, false)
  | some (t, r) => (wrB (nf t r).1 (nf t r).2, true)
theorem nf_small {t r : List Bool} (h : SOk t r) : (nf t r).1.length ≤ t.length ∧ 1 ≤ (nf t r).2.length ∧ (nf t r).2.length ≤ r.length := by
  obtain ⟨g1, g2, g3, _⟩ := per_spec h.r1
  have := nf_le (t := t) h.r1
  omega
theorem impl_setTidy_ev (a : ByteArray) (hs : a.size ≤ 1048576) : Ev (fun k => impl_SetTidy.f k a) (tidyS a.data.toList) := by
  simp only [impl_SetTidy.f]
  unfold tidyS
  cases hc : setC a.data.toList with
  | none => rw [ev_bind (impl_tidied_none hs hc), ev_neg (by simp), ev_some]
  | some q =>
    obtain ⟨t, r⟩ := q
    have h := setC_ok hc
    have h1 := h.t60
    have h3 := h.r60
    have hn := nf_small h
    have q1 : (nf t r).1.length ≤ 60 := by omega
    have q2 : (nf t r).2.length ≤ 60 := by omega
    rw [ev_bind (impl_tidied_some hs hc), ev_pos rfl, ev_bind (text_ev _ _ q1 q2), ev_some]
end Go.Proofs.Ytdkebjjmnhdcnaa.Pure
