/- The text of a set, sign by sign: what the reference writes; it tells the set. -/
import Derived.Test.YtdkebjjmnhdcnaaQtidy
import Derived.Test.YtdkebjjmnhdcnaaG3
namespace Go.Proofs.Ytdkebjjmnhdcnaa.Pure
open Go.RowKit Go.Proofs.Ytdkebjjmnhdcnaa.G Go.Proofs.YtdkebjjmnhdcnaaW.PrintWords Go.Proofs.YtdkebjjmnhdcnaaW.PrintLast Go.Proofs.YtdkebjjmnhdcnaaW.PrintMore
set_option linter.unusedVariables false

def bitI (b : Bool) : Int := if b = true then 49 else 48
def wrI (t r : List Bool) : List Int := t.map bitI ++ [40] ++ r.map bitI ++ [41]
/-- The text of a tail and a ring. -/
def wrB (t r : List Bool) : ByteArray := strOfNums (wrI t r)
theorem bit_eq (b : Bool) : ∃ v, spec_l1Bit.f b = some v ∧ 0 ≤ v ∧ v < 2 ∧ bt (⟨#[48, 49]⟩ : ByteArray) v = bitI b := by
  cases b with
  | false => exact ⟨0, rfl, by omega, by omega, rfl⟩
  | true => exact ⟨1, rfl, by omega, by omega, rfl⟩
theorem take_get {l : List Bool} {i : Nat} (h : i < l.length) : l.take (i + 1) = l.take i ++ [l.getD i false] := by
  rw [List.take_succ_eq_append_getElem h, List.getD_eq_getElem?_getD, List.getElem?_eq_getElem h, Option.getD_some]
theorem write_l1 (t r : List Bool) (ht : t.length ≤ 100000) (hr : r.length ≤ 100000) (d : Nat) : ∀ (i : Nat), r.length - i = d → i ≤ r.length →
    Ev (fun k => spec_l1Write.l1 k (t.map bitI ++ [40] ++ (r.take i).map bitI) (i : Int) t r) (wrB t r) := by
  induction d with
  | zero =>
    intro i hd hi
    obtain rfl : i = r.length := by omega
    rw [List.take_of_length_le (Nat.le_refl _), ev_step (fun k => by rw [spec_l1Write.l1]), ev_neg (by omega), ev_pos (by simp; omega), ev_some]
    rfl
  | succ d ih =>
    intro i hd hi
    obtain ⟨v, e1, e2, e3, e4⟩ := bit_eq (r.getD i false)
    have := ih (i + 1) (by omega) (by omega)
    rw [take_get (by omega), List.map_append, List.map_singleton, ← List.append_assoc] at this
    rw [ev_step (fun k => by rw [spec_l1Write.l1]), ev_pos (by omega), ev_pos (by omega), rdOf_nat, ev_bind0 e1, ev_pos e2, ev_pos e3, ev_pos (by simp; omega), e4, wrap_in _ (by omega)]
    exact this
theorem write_l0 (t r : List Bool) (ht : t.length ≤ 100000) (hr : r.length ≤ 100000) (d : Nat) : ∀ (i : Nat), t.length - i = d → i ≤ t.length →
    Ev (fun k => spec_l1Write.l0 k ((t.take i).map bitI) (i : Int) t r) (wrB t r) := by
  induction d with
  | zero =>
    intro i hd hi
    obtain rfl : i = t.length := by omega
    have := write_l1 t r ht hr r.length 0 (by omega) (by omega)
    rw [List.take_zero, List.map_nil, List.append_nil] at this
    rw [List.take_of_length_le (Nat.le_refl _), ev_step (fun k => by rw [spec_l1Write.l0]), ev_neg (by omega), ev_pos (by simp; omega)]
    exact this
  | succ d ih =>
    intro i hd hi
    obtain ⟨v, e1, e2, e3, e4⟩ := bit_eq (t.getD i false)
    have := ih (i + 1) (by omega) (by omega)
    rw [take_get (by omega), List.map_append, List.map_singleton] at this
    rw [ev_step (fun k => by rw [spec_l1Write.l0]), ev_pos (by omega), ev_pos (by omega), rdOf_nat, ev_bind0 e1, ev_pos e2, ev_pos e3, ev_pos (by simp; omega), e4, wrap_in _ (by omega)]
    exact this
theorem write_ev (t r : List Bool) (ht : t.length ≤ 100000) (hr : r.length ≤ 100000) : Ev (fun k => spec_l1Write.f k t r) (wrB t r) := by
  simp only [spec_l1Write.f]
  have := write_l0 t r ht hr t.length 0 (by omega) (by omega)
  rw [List.take_zero, List.map_nil] at this
  exact this
/-- The text tells the tail and the ring. -/
theorem wr_inj {x y : List Int} (hy : ∀ z ∈ y, z ≠ 40) : ∀ {t u : List Bool}, t.map bitI ++ 40 :: x = u.map bitI ++ 40 :: y → t = u ∧ x = y
  | [], [], h => ⟨rfl, by simpa using h⟩
  | [], b :: u, h => by
    simp only [List.map_nil, List.nil_append, List.map_cons, List.cons_append, List.cons.injEq] at h
    have := h.1
    unfold bitI at this
    split at this <;> omega
  | b :: t, [], h => by
    simp only [List.map_nil, List.nil_append, List.map_cons, List.cons_append, List.cons.injEq] at h
    have := h.1
    unfold bitI at this
    split at this <;> omega
  | b :: t, c :: u, h => by
    simp only [List.map_cons, List.cons_append, List.cons.injEq] at h
    obtain ⟨e1, e2⟩ := wr_inj hy h.2
    have hb : b = c := by
      have := h.1
      unfold bitI at this
      cases b <;> cases c <;> simp at this ⊢
    exact ⟨by rw [hb, e1], e2⟩
theorem bits_inj : ∀ {t u : List Bool}, t.map bitI = u.map bitI → t = u
  | [], [], _ => rfl
  | [], b :: u, h => by simp at h
  | b :: t, [], h => by simp at h
  | b :: t, c :: u, h => by
    simp only [List.map_cons, List.cons.injEq] at h
    have hb : b = c := by
      have := h.1
      unfold bitI at this
      cases b <;> cases c <;> simp at this ⊢
    rw [hb, bits_inj h.2]
def BytesI (l : List Int) : Prop := ∀ x ∈ l, 0 ≤ x ∧ x ≤ 255
theorem u8_inj {x y : Int} (hx : 0 ≤ x ∧ x ≤ 255) (hy : 0 ≤ y ∧ y ≤ 255) (h : x.toNat.toUInt8 = y.toNat.toUInt8) : x = y := by
  have e : ∀ n : Nat, n.toUInt8.toNat = n % 256 := fun n => UInt8.toNat_ofNat'
  have := congrArg UInt8.toNat h
  rw [e, e] at this
  omega
theorem str_inj : ∀ {l m : List Int}, BytesI l → BytesI m → (strOfNums l).toList = (strOfNums m).toList → l = m := by
  intro l m hl hm h
  rw [toList_list, toList_list] at h
  have h2 : l.map (fun n => n.toNat.toUInt8) = m.map (fun n => n.toNat.toUInt8) := by
    have e : ∀ q : List Int, (strOfNums q).data.toList = q.map (fun n => n.toNat.toUInt8) := by
      intro q
      unfold strOfNums
      simp
    rw [e, e] at h
    exact h
  clear h
  induction l generalizing m with
  | nil =>
    cases m with
    | nil => rfl
    | cons y m => simp at h2
  | cons x l ih =>
    cases m with
    | nil => simp at h2
    | cons y m =>
      simp only [List.map_cons, List.cons.injEq] at h2
      rw [u8_inj (hl x (by simp)) (hm y (by simp)) h2.1, ih (fun z hz => hl z (by simp [hz])) (fun z hz => hm z (by simp [hz])) h2.2]
theorem bitI_byte (b : Bool) : 0 ≤ bitI b ∧ bitI b ≤ 255 ∧ bitI b ≠ 40 ∧ bitI b ≠ 41 := by
  unfold bitI
  cases b <;> simp
theorem wrI_bytes (t r : List Bool) : BytesI (wrI t r) := by
  intro x hx
  unfold wrI at hx
  simp only [List.mem_append, List.mem_map, List.mem_singleton] at hx
  rcases hx with ((⟨b, _, rfl⟩ | rfl) | ⟨b, _, rfl⟩) | rfl
  · exact ⟨(bitI_byte b).1, (bitI_byte b).2.1⟩
  · omega
  · exact ⟨(bitI_byte b).1, (bitI_byte b).2.1⟩
  · omega
theorem wrB_iff {t r u v : List Bool} : (wrB t r).toList = (wrB u v).toList ↔ (t, r) = (u, v) := by
  constructor
  · intro h
    have h2 := str_inj (wrI_bytes t r) (wrI_bytes u v) h
    unfold wrI at h2
    rw [List.append_assoc, List.append_assoc, List.append_assoc, List.append_assoc] at h2
    have h3 : t.map bitI ++ 40 :: (r.map bitI ++ [41]) = u.map bitI ++ 40 :: (v.map bitI ++ [41]) := h2
    obtain ⟨e1, e2⟩ := wr_inj (by
      intro z hz
      simp only [List.mem_append, List.mem_map, List.mem_singleton] at hz
      rcases hz with ⟨b, _, rfl⟩ | rfl
      · exact (bitI_byte b).2.2.1
      · omega) h3
    rw [e1, bits_inj (List.append_inj' e2 rfl).1]
  · intro h
    injection h with h1 h2
    rw [h1, h2]
end Go.Proofs.Ytdkebjjmnhdcnaa.Pure
