/- What the exact laws' helpers over lists of lists come to. -/
import Derived.Test.YtdiaifmlockohaaQrowsA
import Derived.Test.YtdiaifmlockohaaG1
import Derived.Test.YtdiaifmlockohaaG2
import Derived.Test.YtdiaifmlockohaaG6
namespace Go.Proofs.Ytdiaifmlockohaa.Pure
open Go.RowKit Go.Proofs.Ytdiaifmlockohaa.G Go.Proofs.YtdiaifmlockohaaW.PrintWords Go.Proofs.YtdiaifmlockohaaW.PrintLast


theorem toIntS_l0 (x : List Int) (hm : x.length ≤ 9223372036854775806) (d : Nat) : ∀ (i : Nat) (y : List Int), x.length - i = d → i ≤ x.length → y.length = x.length → y.take i = x.take i → Ev (fun k => laws_toIntS.l0 k x y (i : Int)) x := by
  induction d with
  | zero =>
    intro i y hd hi hl ht
    rw [ev_step (fun k => by rw [laws_toIntS.l0]), ev_neg (by omega), ev_some]
    rwa [List.take_of_length_le (by omega), List.take_of_length_le (by omega)] at ht
  | succ d ih =>
    intro i y hd hi hl ht
    rw [ev_step (fun k => by rw [laws_toIntS.l0]), ev_pos (by omega), ev_pos (by omega), ev_pos (by omega), wrap_in _ (by omega), Int.toNat_natCast, rd_get (by omega)]
    exact ih (i + 1) _ (by omega) (by omega) (by rw [List.length_set]; exact hl) (take_set_next (by omega) (by omega) ht)
theorem toIntS_ev (x : List Int) (hm : x.length ≤ 35184372088832) : Ev (fun k => laws_toIntS.f k x) x := by
  simp only [laws_toIntS.f]
  rw [ev_pos (by omega), ev_pos (by omega)]
  exact toIntS_l0 x (by omega) x.length 0 _ (by omega) (by omega) (by simp) (by simp)
theorem eqIntS_l0 (x y : List Int) (hm : x.length ≤ 9223372036854775806) (hl : x.length = y.length) (d : Nat) : ∀ (i : Nat), x.length - i = d → i ≤ x.length → Ev (fun k => laws_eqIntS.l0 k x y (i : Int)) (decide (x.drop i = y.drop i)) := by
  induction d with
  | zero =>
    intro i hd hi
    rw [ev_step (fun k => by rw [laws_eqIntS.l0]), ev_neg (by omega), ev_some, List.drop_of_length_le (by omega), List.drop_of_length_le (by omega)]
    simp
  | succ d ih =>
    intro i hd hi
    rw [ev_step (fun k => by rw [laws_eqIntS.l0]), ev_pos (by omega), ev_pos (by omega), ev_pos (by omega), wrap_in _ (by omega), rd_get (by omega), rd_get (by omega)]
    have he := drop_eq_iff (x := x) (y := y) (i := i) (by omega) (by omega)
    by_cases h : x[i] = y[i]
    · rw [ev_pos h]
      have := ih (i + 1) (by omega) (by omega)
      rwa [show decide (x.drop i = y.drop i) = decide (x.drop (i + 1) = y.drop (i + 1)) from decide_eq_decide.2 (by rw [he]; simp [h])]
    · rw [ev_neg h, ev_some, eq_comm, decide_eq_false_iff_not, he]
      exact fun h2 => h h2.1
theorem eqIntS_ev (x y : List Int) (hm : x.length ≤ 9223372036854775806) : Ev (fun k => laws_eqIntS.f k x y) (decide (x = y)) := by
  simp only [laws_eqIntS.f]
  by_cases h : x.length = y.length
  · rw [ev_pos (by omega)]
    exact eqIntS_l0 x y hm h x.length 0 (by omega) (by omega)
  · rw [ev_neg (by omega), ev_some, eq_comm, decide_eq_false_iff_not]
    exact fun e => h (by rw [e])
theorem eqIntS_self (x : List Int) (hm : x.length ≤ 9223372036854775806) : Ev (fun k => laws_eqIntS.f k x x) true := by
  have := eqIntS_ev x x hm
  simpa using this
theorem szIntS_eq (l : List Int) (a : Int) (ha : 0 ≤ a ∧ a ≤ 1048576) (hl : l.length ≤ maxLen) : laws_szIntS.f l a = some (if a - l.length < 0 then -1 else a - l.length) := by
  unfold maxLen at hl
  unfold laws_szIntS.f
  rw [wrap_in _ (by omega)]
  split <;> rfl
theorem sz_l0 (l : List (List Int)) (hm : l.length ≤ 1048576) (hl : ∀ r ∈ l, r.length ≤ maxLen) (d : Nat) : ∀ (i : Nat) (a : Int), l.length - i = d → i ≤ l.length → 0 ≤ a → a ≤ 1048576 → ∃ r, Ev (fun k => laws_szIntSS.l0 k l a (i : Int)) r ∧ (0 ≤ r → ∀ q ∈ l.drop i, q.length ≤ 1048576) := by
  induction d with
  | zero =>
    intro i a hd hi h0 h1
    refine ⟨a, ?_, fun _ q hq => ?_⟩
    · rw [ev_step (fun k => by rw [laws_szIntSS.l0]), ev_neg (by omega), ev_some]
    · rw [List.drop_of_length_le (by omega)] at hq
      simp at hq
  | succ d ih =>
    intro i a hd hi h0 h1
    have hi2 : i < l.length := by omega
    have hs := szIntS_eq l[i] a (by omega) (hl _ (List.getElem_mem hi2))
    by_cases hneg : a - l[i].length < 0
    · refine ⟨-1, ?_, fun h => by omega⟩
      rw [ev_step (fun k => by rw [laws_szIntSS.l0]), ev_pos (by omega), ev_pos (by omega), rd_L1_get hi2, ev_bind0 hs, if_pos hneg, ev_pos (by omega), ev_some]
    · obtain ⟨r, hr, hq⟩ := ih (i + 1) (a - l[i].length) (by omega) (by omega) (by omega) (by omega)
      refine ⟨r, ?_, fun h q hqm => ?_⟩
      · rw [ev_step (fun k => by rw [laws_szIntSS.l0]), ev_pos (by omega), ev_pos (by omega), rd_L1_get hi2, ev_bind0 hs, if_neg hneg, ev_neg hneg, wrap_in _ (by omega)]
        exact hr
      · rw [List.drop_eq_getElem_cons hi2, List.mem_cons] at hqm
        rcases hqm with rfl | hqm
        · omega
        · exact hq h q hqm
theorem sz_ev (l : List (List Int)) (hm : l.length ≤ maxLen) (hl : ∀ r ∈ l, r.length ≤ maxLen) : ∃ r, Ev (fun k => laws_szIntSS.f k l 1048576) r ∧ (0 ≤ r → l.length ≤ 1048576 ∧ ∀ q ∈ l, q.length ≤ 1048576) := by
  unfold maxLen at hm
  simp only [laws_szIntSS.f]
  by_cases h : (1048576 : Int) - l.length < 0
  · refine ⟨-1, ?_, fun h => by omega⟩
    rw [wrap_in _ (by omega), ev_pos h, ev_some]
  · obtain ⟨r, hr, hq⟩ := sz_l0 l (by omega) hl l.length 0 (1048576 - l.length) (by omega) (by omega) (by omega) (by omega)
    refine ⟨r, ?_, fun h => ⟨by omega, fun q hqm => hq h q (by simpa using hqm)⟩⟩
    rw [wrap_in _ (by omega), ev_neg h]
    exact hr
theorem toIntSS_l0 (x : List (List Int)) (hm : x.length ≤ 1048576) (hx : ∀ q ∈ x, q.length ≤ 1048576) (d : Nat) : ∀ (i : Nat) (y : List (List Int)), x.length - i = d → i ≤ x.length → y.length = x.length → y.take i = x.take i → Ev (fun k => laws_toIntSS.l0 k x y (i : Int)) x := by
  induction d with
  | zero =>
    intro i y hd hi hl ht
    rw [ev_step (fun k => by rw [laws_toIntSS.l0]), ev_neg (by omega), ev_some]
    rwa [List.take_of_length_le (by omega), List.take_of_length_le (by omega)] at ht
  | succ d ih =>
    intro i y hd hi hl ht
    have hi2 : i < x.length := by omega
    rw [ev_step (fun k => by rw [laws_toIntSS.l0]), ev_pos (by omega), ev_pos (by omega), rd_L1_get hi2, ev_bind (toIntS_ev x[i] (by have := hx _ (List.getElem_mem hi2); omega)), ev_pos (by omega), wrap_in _ (by omega), Int.toNat_natCast]
    exact ih (i + 1) _ (by omega) (by omega) (by rw [List.length_set]; exact hl) (take_set_next hi2 (by omega) ht)
theorem toIntSS_ev (x : List (List Int)) (hm : x.length ≤ 1048576) (hx : ∀ q ∈ x, q.length ≤ 1048576) : Ev (fun k => laws_toIntSS.f k x) x := by
  simp only [laws_toIntSS.f]
  rw [ev_pos (by omega), ev_pos (by omega)]
  exact toIntSS_l0 x hm hx x.length 0 _ (by omega) (by omega) (by simp) (by simp)
theorem eqIntSS_l0 (x : List (List Int)) (hm : x.length ≤ 1048576) (hx : ∀ q ∈ x, q.length ≤ 1048576) (d : Nat) : ∀ (i : Nat), x.length - i = d → i ≤ x.length → Ev (fun k => laws_eqIntSS.l0 k x x (i : Int)) true := by
  induction d with
  | zero =>
    intro i hd hi
    rw [ev_step (fun k => by rw [laws_eqIntSS.l0]), ev_neg (by omega), ev_some]
  | succ d ih =>
    intro i hd hi
    have hi2 : i < x.length := by omega
    rw [ev_step (fun k => by rw [laws_eqIntSS.l0]), ev_pos (by omega), ev_pos (by omega), ev_pos (by omega), rd_L1_get hi2, ev_bind (eqIntS_self x[i] (by have := hx _ (List.getElem_mem hi2); omega)), ev_pos rfl, wrap_in _ (by omega)]
    exact ih (i + 1) (by omega) (by omega)
theorem eqIntSS_self (x : List (List Int)) (hm : x.length ≤ 1048576) (hx : ∀ q ∈ x, q.length ≤ 1048576) : Ev (fun k => laws_eqIntSS.f k x x) true := by
  simp only [laws_eqIntSS.f]
  rw [ev_pos trivial]
  exact eqIntSS_l0 x hm hx x.length 0 (by omega) (by omega)
end Go.Proofs.Ytdiaifmlockohaa.Pure
