/- The law FnRowsShare answers true for all rows that are drawn. It has no condition. -/
import Derived.Test.YtdiaifmlockohaaQcount
import Derived.Test.YtdiaifmlockohaaQdr2
import Derived.Test.YtdiaifmlockohaaG10
import Derived.Test.YtdiaifmlockohaaG11
import Derived.Test.YtdiaifmlockohaaG12
namespace Go.Proofs.Ytdiaifmlockohaa.Pure
open Go.RowKit Go.Proofs.Ytdiaifmlockohaa.G Go.Proofs.YtdiaifmlockohaaW.PrintWords Go.Proofs.YtdiaifmlockohaaW.PrintLast

theorem cover_ev {l : List (List Int)} {low : Nat} (h : rowsIn l = true) (hm : mulL (stepsL l) 1 = some low) : ∃ c, Ev (fun k => impl_RowsCover.f k l) c ∧ (c = true → low ≤ upL low (stepsL l)) := by
  have h' := h
  unfold rowsIn at h'
  rw [Bool.and_eq_true, decide_eq_true_eq] at h'
  obtain ⟨l1, l2⟩ := mul_le _ _ _ (by omega) (by omega) (stepsL_pos l) hm
  obtain ⟨_, hdv⟩ := mul_dvd _ _ _ hm
  have hg := keep_good h'.1 hdv
  have hkl := keep_len (l.map rowOf)
  rw [List.length_map] at hkl
  obtain ⟨c, e, hc⟩ := covered_ev l2 l1 (tot 1 (keep (l.map rowOf))) 0 1 (keep (l.map rowOf)) hg (by omega) (Nat.one_dvd _) (by omega) (Nat.le_refl _)
  have mv : impl_moving.f (l.map rowOf) = some (keep (l.map rowOf)) := by
    unfold impl_moving.f
    rw [if_pos (by rw [List.length_map]; omega)]
  refine ⟨c, ?_, fun z => ?_⟩
  · simp only [impl_RowsCover.f]
    have ro := rowsOf_ev l (by omega)
    rw [if_pos h'.1, decide_eq_true h'.2] at ro
    rw [ev_bind ro, ev_pos rfl, ev_bind0 mv]
    have e' : Ev (fun k => impl_covered.f k 0 1 (keep (l.map rowOf))) c := e
    rw [ev_bind e', ev_some]
  · have hall := hc z
    have := sumD_all (xs := keep (l.map rowOf)) (fun n => by
      obtain ⟨x, hx, hd⟩ := hall (n : Int) ⟨(n : Int), by simp⟩
      obtain ⟨h3, h4⟩ := (hg x hx).f1
      exact ⟨x, hx, by rw [show ((x.f1.toNat : Nat) : Int) = x.f1 by omega]; exact hd⟩) low
    rwa [sumD_up _ hg, (keep_steps l h'.1).1] at this
theorem law_l0 (l : List (List Int)) (a b : Nat) (hb : b ≤ 1000000) (h1 : 1 ≤ b) (hc : Nat.Coprime a b) (hz : a = 0 → b = 1) (c : Bool) (e : Ev (fun k => impl_RowsCover.f k l) c) (he : c = true → b ≤ a) (d : Nat) : ∀ i : Nat, b + 1 - i = d → 2 ≤ i → i ≤ b + 2 → Ev (fun k => laws_FnRowsShare.l0 k l (a : Int) (b : Int) (i : Int)) true := by
  induction d with
  | zero =>
    intro i hd h2 h3
    have fin : Ev (fun k => (impl_RowsCover.f k l).bind fun t => if t = true then (some (decide ((a : Int) ≥ (b : Int)))) else some true) true := by
      rw [ev_bind e]
      by_cases cc : c = true
      · rw [ev_pos cc, ev_some, decide_eq_true_eq]
        have := he cc
        omega
      · rw [ev_neg cc, ev_some]
    rw [ev_step (fun k => by rw [laws_FnRowsShare.l0]), ev_neg (by omega), ev_pos (by omega), ev_pos (by omega)]
    by_cases az : a = 0
    · rw [ev_neg (by omega), ev_pos (by have := hz az; omega)]
      exact fin
    · rw [ev_pos (by omega)]
      exact fin
  | succ d ih =>
    intro i hd h2 h3
    have go := ih (i + 1) (by omega) (by omega) (by omega)
    have hw : wrap64 ((i : Int) + 1) = ((i + 1 : Nat) : Int) := by rw [wrap_in _ (by omega)]; omega
    rw [ev_step (fun k => by rw [laws_FnRowsShare.l0]), ev_pos (by omega), ev_neg (by omega), hw, ← Int.ofNat_tmod, ← Int.ofNat_tmod]
    by_cases ca : a % i = 0
    · have cb : ¬ b % i = 0 := fun z => by
        have := Nat.dvd_gcd (Nat.dvd_of_mod_eq_zero ca) (Nat.dvd_of_mod_eq_zero z)
        rw [hc] at this
        have := Nat.le_of_dvd (by omega) this
        omega
      generalize b % i = z at cb
      rw [ca, ev_pos (by rfl), ev_neg (by omega)]
      exact go
    · generalize a % i = z at ca
      rw [ev_neg (by omega)]
      exact go
theorem FnRowsShare : laws_FnRowsShare.Pure := by
  intro l0 hm _ hw
  refine Ev.rounds ?_
  simp only [laws_FnRowsShare.f]
  by_cases c0 : (l0.length : Int) > 1048576
  · rw [ev_pos c0, ev_some]
  obtain ⟨s, hs, eo⟩ := open_ev l0 hw
  obtain ⟨l, q, g1, g2, g3⟩ := drows_ev s hs 0 (by omega)
  have ed : Ev (fun k => spec_DrawRowsShare.f k l0) l := by
    simp only [spec_DrawRowsShare.f]
    rw [ev_bind0 eo, ev_bind g3, ev_some]
  rw [ev_neg c0, ev_bind ed, ev_bind (impl_rowsShare_ev l (by omega)), ev_bind (spec_rowsShare_ev l (by omega)), ev_pos rfl, ev_pos rfl, ev_step (fun k => by rw [laws_FnRowsShare.j0]), ev_pos (by simp), ev_step (fun k => by rw [laws_FnRowsShare.j1])]
  by_cases hr : rowsIn l = true
  · cases hmu : mulL (stepsL l) 1 with
    | none =>
      have e : shareC l = (0, 0, false) := by
        unfold shareC
        rw [if_pos hr, hmu]
      rw [e, ev_pos (by rfl), ev_some]
      rfl
    | some low =>
      obtain ⟨l1, l2⟩ := mul_le _ _ _ (by omega) (by omega) (stepsL_pos l) hmu
      obtain ⟨c, ec, hc⟩ := cover_ev hr hmu
      have e : shareC l = lowest (upL low (stepsL l)) low := by
        unfold shareC
        rw [if_pos hr, hmu]
      rw [e]
      unfold lowest
      have gp := Nat.gcd_pos_of_pos_right (upL low (stepsL l)) (show 0 < low by omega)
      have hle := Nat.div_le_self low (Nat.gcd (upL low (stepsL l)) low)
      have hpos : 1 ≤ low / Nat.gcd (upL low (stepsL l)) low := Nat.div_pos (Nat.gcd_le_right _ (by omega)) gp
      rw [ev_neg (by simp)]
      refine law_l0 l _ _ (by omega) hpos (Nat.coprime_div_gcd_div_gcd gp) (fun z => ?_) c ec (fun z => Nat.div_le_div_right (hc z)) _ 2 rfl (by omega) (by omega)
      have : upL low (stepsL l) = 0 := by
        have := Nat.div_mul_cancel (Nat.gcd_dvd_left (upL low (stepsL l)) low)
        rw [z, Nat.zero_mul] at this
        exact this.symm
      rw [this, Nat.gcd_zero_left]
      exact Nat.div_self (by omega)
  · have e : shareC l = (0, 0, false) := by
      unfold shareC
      rw [if_neg hr]
    rw [e, ev_pos (by rfl), ev_some]
    rfl
end Go.Proofs.Ytdiaifmlockohaa.Pure
