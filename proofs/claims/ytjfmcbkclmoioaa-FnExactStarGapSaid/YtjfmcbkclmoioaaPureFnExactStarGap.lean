/- The law FnExactStarGap answers true for every text. It has no condition. -/
import Derived.Test.YtjfmcbkclmoioaaQgap
import Derived.Test.YtjfmcbkclmoioaaQsmallG
import Derived.Test.YtjfmcbkclmoioaaQcomes
import Derived.Test.YtjfmcbkclmoioaaG16
import Derived.Test.YtjfmcbkclmoioaaG17
import Derived.Test.YtjfmcbkclmoioaaG5
import Derived.Test.YtjfmcbkclmoioaaG7
namespace Go.Proofs.Ytjfmcbkclmoioaa.Pure
open Go.RowKit Go.Proofs.Ytjfmcbkclmoioaa.G Go.Proofs.YtjfmcbkclmoioaaW.PrintWords Go.Proofs.YtjfmcbkclmoioaaW.PrintLast

/-- What the reference's search for a least number comes to. -/
def LeastIs (A : Nat → Bool) (v : Int) : Prop := (v = 0 ∧ ∀ k, 1 ≤ k → k ≤ 20 → A k = false) ∨ ∃ a : Nat, v = (a : Int) ∧ 1 ≤ a ∧ A a = true ∧ ∀ k, 1 ≤ k → k < a → A k = false
theorem least_l0 {t r : List Bool} (h : SOk t r) (d : Nat) : ∀ (x : Nat), 21 - x = d → 1 ≤ x → x ≤ 21 → (∀ k, 1 ≤ k → k < x → hasN t r k = false) → ∃ v, Ev (fun q => spec_l4Least.l0 q (x : Int) t r) v ∧ LeastIs (hasN t r) v := by
  induction d with
  | zero =>
    intro x hd h1 h2 hs
    refine ⟨0, ?_, .inl ⟨rfl, fun k g1 g2 => hs k g1 (by omega)⟩⟩
    rw [ev_step (fun q => by rw [spec_l4Least.l0]), ev_neg (by omega), ev_some]
  | succ d ih =>
    intro x hd h1 h2 hs
    by_cases c : hasN t r x = true
    · refine ⟨(x : Int), ?_, .inr ⟨x, rfl, h1, c, hs⟩⟩
      rw [ev_step (fun q => by rw [spec_l4Least.l0]), ev_pos (by omega), ev_bind0 (spec_has h x (by omega)), ev_pos c, ev_some]
    · obtain ⟨v, e, q⟩ := ih (x + 1) (by omega) (by omega) (by omega) (fun k g1 g2 => by
        by_cases z : k = x
        · rw [z]
          exact Bool.eq_false_iff.2 c
        · exact hs k g1 (by omega))
      refine ⟨v, ?_, q⟩
      rw [ev_step (fun q => by rw [spec_l4Least.l0]), ev_pos (by omega), ev_bind0 (spec_has h x (by omega)), ev_neg c, wrap_in _ (by omega)]
      exact e
theorem least_ev {t r : List Bool} (h : SOk t r) : ∃ v, Ev (fun q => spec_l4Least.f q t r) v ∧ LeastIs (hasN t r) v := by
  simp only [spec_l4Least.f]
  exact least_l0 h 20 1 rfl (by omega) (by omega) (fun k h1 h2 => by omega)
/-- The program's loop: all are in, or there is a last one that is not. -/
theorem bw_find (l : List Bool) : ∀ j, j ≤ l.length → (∀ i, i < j → (bw_at l i).2 = true) ∨ ∃ i, i < j ∧ (bw_at l i).2 = false ∧ ∀ i', i' < i → (bw_at l i').2 = true
  | 0, _ => .inl (fun i hi => by omega)
  | j + 1, h => by
    rcases bw_find l j (by omega) with g | ⟨i, g1, g2, g3⟩
    · by_cases c : (bw_at l j).2 = true
      · left
        intro i hi
        by_cases e : i = j
        · rw [e]
          exact c
        · exact g i (by omega)
      · exact .inr ⟨j, by omega, Bool.eq_false_iff.2 c, g⟩
    · exact .inr ⟨i, by omega, g2, g3⟩
theorem bw_mem (l : List Bool) (j : Nat) (h : ∀ i, i < j → (bw_at l i).2 = true) : ∀ p ∈ bw_upto (bw_at l) j, p.2 = true := by
  intro p hp
  unfold bw_upto at hp
  rw [List.mem_map] at hp
  obtain ⟨i, hi, rfl⟩ := hp
  exact h i (List.mem_range.1 hi)
theorem bw_snd (l : List Bool) (i : Nat) : (bw_at l i).2 = l.getD (l.length - 1 - i) false := by
  unfold bw_at
  rw [List.getD_eq_getElem?_getD]
theorem gap_out (l : List Bool) : ((∀ n, n < l.length → l.getD n false = true) ∧ gapOut l = (0, false)) ∨ ∃ n, n < l.length ∧ l.getD n false = false ∧ (∀ m, n < m → m < l.length → l.getD m false = true) ∧ gapOut l = gapGo [(n, false)] := by
  rcases bw_find l l.length (Nat.le_refl _) with g | ⟨i, g1, g2, g3⟩
  · left
    refine ⟨fun n hn => ?_, ?_⟩
    · have := g (l.length - 1 - n) (by omega)
      rwa [bw_snd, show l.length - 1 - (l.length - 1 - n) = n by omega] at this
    · unfold gapOut
      have := gapGo_all _ [] (bw_mem l l.length g)
      rw [List.append_nil] at this
      exact this
  · right
    rw [bw_snd] at g2
    refine ⟨l.length - 1 - i, by omega, g2, fun m h1 h2 => ?_, ?_⟩
    · have := g3 (l.length - 1 - m) (by omega)
      rwa [bw_snd, show l.length - 1 - (l.length - 1 - m) = m by omega] at this
    · obtain ⟨r, hr⟩ := bw_pre l (i + 1) (by omega)
      have e : bw_at l i = (l.length - 1 - i, false) := by
        have := bw_snd l i
        rw [g2] at this
        rw [← this]
        rfl
      unfold gapOut
      rw [hr, bw_succ, List.append_assoc, gapGo_all _ _ (bw_mem l i g3), e]
      exact gapGo_first _ _
theorem spec_all (M : List Bool) (hM : M.length = 2440) (R : Int × Bool) (h1 : Ev (fun q => spec_StarGap.l1 q M 2399) R) (d : Nat) : ∀ (x : Nat), 2440 - x = d → x ≤ 2440 → (∀ m, x ≤ m → m < 2440 → M.getD m false = true) → Ev (fun q => spec_StarGap.l0 q M (x : Int)) R := by
  induction d with
  | zero =>
    intro x hd hx _
    rw [ev_step (fun q => by rw [spec_StarGap.l0]), ev_neg (by omega)]
    exact h1
  | succ d ih =>
    intro x hd hx hs
    rw [ev_step (fun q => by rw [spec_StarGap.l0]), ev_pos (by omega), ev_pos (by omega), ev_pos (by omega), rdOf_nat, ev_pos (hs x (Nat.le_refl _) (by omega)), wrap_in _ (by omega)]
    exact ih (x + 1) (by omega) (by omega) (fun m g1 g2 => hs m (by omega) g2)
theorem spec_not (M : List Bool) (hM : M.length = 2440) (m0 : Nat) (h0 : m0 < 2440) (hm : M.getD m0 false = false) (d : Nat) : ∀ (x : Nat), m0 - x = d → x ≤ m0 → Ev (fun q => spec_StarGap.l0 q M (x : Int)) (0, false) := by
  induction d with
  | zero =>
    intro x hd hx
    obtain rfl : x = m0 := by omega
    rw [ev_step (fun q => by rw [spec_StarGap.l0]), ev_pos (by omega), ev_pos (by omega), ev_pos (by omega), rdOf_nat, ev_neg (by rw [hm]; simp), ev_some]
  | succ d ih =>
    intro x hd hx
    rw [ev_step (fun q => by rw [spec_StarGap.l0]), ev_pos (by omega), ev_pos (by omega), ev_pos (by omega), rdOf_nat]
    by_cases c : M.getD x false = true
    · rw [ev_pos c, wrap_in _ (by omega)]
      exact ih (x + 1) (by omega) (by omega)
    · rw [ev_neg c, ev_some]
theorem spec_found (M : List Bool) (hM : M.length = 2440) (n : Nat) (h0 : 1 ≤ n) (hn : M.getD n false = false) (d : Nat) : ∀ (x : Nat), x - n = d → n ≤ x → x < 2440 → (∀ m, n < m → m ≤ x → M.getD m false = true) → Ev (fun q => spec_StarGap.l1 q M (x : Int)) ((n : Int), true) := by
  induction d with
  | zero =>
    intro x hd h1 h2 _
    obtain rfl : x = n := by omega
    rw [ev_step (fun q => by rw [spec_StarGap.l1]), ev_pos (by omega), ev_pos (by omega), ev_pos (by omega), rdOf_nat, ev_neg (by rw [hn]; simp), ev_some]
  | succ d ih =>
    intro x hd h1 h2 hs
    rw [ev_step (fun q => by rw [spec_StarGap.l1]), ev_pos (by omega), ev_pos (by omega), ev_pos (by omega), rdOf_nat, ev_pos (hs x (by omega) (Nat.le_refl _)), wrap_in _ (by omega)]
    have := ih (x - 1) (by omega) (by omega) (by omega) (fun m g1 g2 => hs m g1 (by omega))
    rwa [show ((x - 1 : Nat) : Int) = (x : Int) - 1 by omega] at this
theorem spec_none_ (M : List Bool) (hM : M.length = 2440) (d : Nat) : ∀ (x : Nat), x = d → x < 2440 → (∀ m, 0 < m → m ≤ x → M.getD m false = true) → Ev (fun q => spec_StarGap.l1 q M (x : Int)) (0, false) := by
  induction d with
  | zero =>
    intro x hd _ _
    subst hd
    rw [ev_step (fun q => by rw [spec_StarGap.l1]), ev_neg (by omega), ev_some]
  | succ d ih =>
    intro x hd h2 hs
    rw [ev_step (fun q => by rw [spec_StarGap.l1]), ev_pos (by omega), ev_pos (by omega), ev_pos (by omega), rdOf_nat, ev_pos (hs x (by omega) (Nat.le_refl _)), wrap_in _ (by omega)]
    have := ih (x - 1) (by omega) (by omega) (fun m g1 g2 => hs m g1 (by omega))
    rwa [show ((x - 1 : Nat) : Int) = (x : Int) - 1 by omega] at this
theorem told_false {A : Nat → Bool} {many : Nat} {l : List Bool} (h : IsStar A many l) {n : Nat} (hn : n < many) : l.getD n false = false ↔ ¬ Star A n := by
  rw [← h.2 n hn, Bool.eq_false_iff]
theorem gapGo_one (n : Nat) (h : n < 1000) : gapGo [(n, false)] = if 800 ≤ n then (0, false) else ((n : Int), true) := by
  simp only [gapGo, Bool.false_eq_true, if_false]
  rw [wrap_in _ (by omega)]
  by_cases c : 800 ≤ n
  · rw [if_pos c, if_pos (by omega)]
  · rw [if_neg c, if_neg (by omega)]
/-- Both answer the same. -/
theorem gap_same {t r : List Bool} (h : SOk t r) (h8 : t.length ≤ 8) (r8 : r.length ≤ 8) : ∃ v, Ev (fun q => (spec_l4Least.f q t r).bind fun b => spec_StarGap.j0 q (b == 0) t r) v ∧ Ev (fun q => (impl_star.f q t r 1000).bind (fun l => if l.length = 1000 then some (gapOut l) else none)) v := by
  obtain ⟨l, e1, q1⟩ := impl_star_ev h 1000 (by omega)
  obtain ⟨M, e2, q2⟩ := spec_star_ev h 2440 (by omega)
  obtain ⟨a0, e3, q3⟩ := least_ev h
  have hl := q1.1
  have hM := q2.1
  have hr1 := h.r1
  have hcome : ∀ x, t.length ≤ x → hasN t r (x + r.length) = hasN t r x := fun x hx => hasN_comes t r x hx
  have impl : Ev (fun q => (impl_star.f q t r 1000).bind (fun l => if l.length = 1000 then some (gapOut l) else none)) (gapOut l) := by
    have e1' : Ev (fun q => impl_star.f q t r 1000) l := e1
    rw [ev_bind e1', ev_pos hl, ev_some]
  refine ⟨gapOut l, ?_, impl⟩
  rw [ev_bind e3]
  have go := gap_out l
  rw [hl] at go
  rcases q3 with ⟨rfl, hno⟩ | ⟨a, rfl, a1, ha, hmin⟩
  · have hz : ∀ k, 1 ≤ k → hasN t r k = false := by
      intro k
      induction k using Nat.strongRecOn with
      | _ k ih =>
        intro hk
        by_cases c : k ≤ 20
        · exact hno k hk c
        · have := hcome (k - r.length) (by omega)
          rw [Nat.sub_add_cancel (by omega)] at this
          rw [this]
          exact ih _ (by omega) (by omega)
    have hs : ∀ n, 1 ≤ n → ¬ Star (hasN t r) n := fun n hn z => by
      obtain ⟨k, g1, _, g3, _⟩ := z.last hn
      rw [hz k g1] at g3
      cases g3
    have e : gapOut l = (0, false) := by
      rcases go with ⟨_, g⟩ | ⟨n, g1, g2, g3, g4⟩
      · exact g
      · have : n = 999 := by
          by_cases c : n = 999
          · exact c
          · have := g3 999 (by omega) (by omega)
            rw [q1.2 999 (by omega)] at this
            exact absurd this (hs 999 (by omega))
        rw [g4, gapGo_one n (by omega), if_pos (by omega)]
    rw [e, ev_step (fun k => by rw [spec_StarGap.j0]), ev_pos (by rfl), ev_some]
  · have sm : SmallSet (hasN t r) t.length r.length a := ⟨hcome, hr1, by omega, a1, ha, hmin⟩
    have a16 := sm.a16
    have e2' : Ev (fun q => spec_l4Star.f q t r 2440) M := e2
    rw [ev_step (fun k => by rw [spec_StarGap.j0]), ev_neg (by simp; omega), ev_bind e2']
    rcases go with ⟨g1, g2⟩ | ⟨n, g1, g2, g3, g4⟩
    · have all : ∀ m, Star (hasN t r) m := fun m => star_all sm (n0 := 0) (by omega) (fun m _ hm => (q1.2 m hm).1 (g1 m hm)) m (Nat.zero_le _)
      have allM : ∀ m, m < 2440 → M.getD m false = true := fun m hm => (q2.2 m hm).2 (all m)
      rw [g2]
      exact spec_all M hM (0, false) (spec_none_ M hM 2399 2399 rfl (by omega) (fun m _ hm => allM m (by omega))) 40 2400 rfl (by omega) (fun m _ hm => allM m hm)
    · have hn : ¬ Star (hasN t r) n := (told_false q1 g1).1 g2
      have hn0 : n ≠ 0 := by
        rintro rfl
        exact hn .zero
      rw [g4, gapGo_one n g1]
      by_cases c : 800 ≤ n
      · rw [if_pos c]
        obtain ⟨j, j1, j2⟩ := some_step a1 n 2400 (by omega)
        exact spec_not M hM (n + a * j) (by omega) ((told_false q2 (by omega)).2 (fun z => hn (star_downs sm (by omega) j z))) (n + a * j - 2400) 2400 rfl j1
      · rw [if_neg c]
        have all : ∀ m, n < m → Star (hasN t r) m := fun m hm => star_all sm (n0 := n + 1) (by omega) (fun m h1 h2 => (q1.2 m h2).1 (g3 m (by omega) h2)) m hm
        exact spec_all M hM ((n : Int), true) (spec_found M hM n (by omega) ((told_false q2 (by omega)).2 hn) (2399 - n) 2399 rfl (by omega) (by omega) (fun m h1 h2 => (q2.2 m (by omega)).2 (all m h1))) 40 2400 rfl (by omega) (fun m h1 h2 => (q2.2 m h2).2 (all m (by omega)))
theorem FnExactStarGap : laws_FnExactStarGap.Pure := by
  intro a hs0
  refine Ev.rounds ?_
  simp only [laws_FnExactStarGap.f]
  by_cases c : (a.size : Int) > 1048576
  · rw [ev_pos c, ev_some]
  have hs : a.size ≤ 1048576 := by omega
  rw [ev_neg c]
  have key : ∃ v, Ev (fun k => spec_StarGap.f k a) v ∧ Ev (fun k => impl_StarGap.f k a) v := by
    simp only [spec_StarGap.f, impl_StarGap.f]
    cases hc : setC a.data.toList with
    | none =>
      refine ⟨(0, false), ?_, ?_⟩
      · rw [ev_bind (spec_small_none hs hc), ev_neg (by simp), ev_step (fun k => by rw [spec_StarGap.j0]), ev_pos rfl, ev_some]
      · rw [ev_bind (impl_small_none hs hc), ev_neg (by simp), ev_some]
    | some q =>
      obtain ⟨t, r⟩ := q
      have h := nf_ok (setC_ok hc)
      by_cases b : smallB (nf t r).1 (nf t r).2 = true
      · have b' := b
        unfold smallB at b'
        rw [decide_eq_true_eq] at b'
        obtain ⟨v, e1, e2⟩ := gap_same h b'.1 b'.2
        refine ⟨v, ?_, ?_⟩
        · rw [ev_bind (spec_small_some hs hc), ev_pos b]
          exact e1
        · rw [ev_bind (impl_small_some hs hc), ev_pos b]
          exact e2
      · refine ⟨(0, false), ?_, ?_⟩
        · rw [ev_bind (spec_small_some hs hc), ev_neg b, ev_step (fun k => by rw [spec_StarGap.j0]), ev_pos rfl, ev_some]
        · rw [ev_bind (impl_small_some hs hc), ev_neg b, ev_some]
  obtain ⟨v, e1, e2⟩ := key
  rw [ev_bind e1, ev_bind e2, ev_pos rfl, ev_neg (by simp), ev_some]
end Go.Proofs.Ytjfmcbkclmoioaa.Pure
