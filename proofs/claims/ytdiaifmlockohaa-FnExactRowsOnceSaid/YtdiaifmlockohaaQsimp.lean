/- Rows that have each number just once: the common multiple of their steps isn't over 60000. -/
import Derived.Test.YtdiaifmlockohaaQ0
namespace Go.Proofs.Ytdiaifmlockohaa.Pure

abbrev Pr := Int × Nat
def Hit (r : Pr) (n : Int) : Prop := (r.2 : Int) ∣ n - r.1
structure Once (rs : List Pr) : Prop where
  ste : ∀ r ∈ rs, 1 ≤ r.2 ∧ r.2 ≤ 60
  cov : ∀ n : Int, ∃ r ∈ rs, Hit r n
  one : ∀ r ∈ rs, ∀ t ∈ rs, ∀ n, Hit r n → Hit t n → r = t
  len : rs.length ≤ 20
theorem pigeon {α β : Type} [DecidableEq β] (R : α → β → Prop) : ∀ (cs : List α) (ys : List β), cs.Nodup → (∀ c ∈ cs, ∃ y ∈ ys, R c y) → (∀ c ∈ cs, ∀ c' ∈ cs, ∀ y ∈ ys, R c y → R c' y → c = c') → cs.length ≤ ys.length
  | [], _, _, _, _ => Nat.zero_le _
  | c :: cs, ys, hn, h, hi => by
    obtain ⟨y, hy, hr⟩ := h c List.mem_cons_self
    have hn' := List.nodup_cons.1 hn
    have := pigeon R cs (ys.erase y) hn'.2 (fun c' hc' => by
      obtain ⟨y', hy', hr'⟩ := h c' (List.mem_cons_of_mem _ hc')
      have ne : y' ≠ y := fun e => by
        subst e
        have := hi c List.mem_cons_self c' (List.mem_cons_of_mem _ hc') _ hy' hr hr'
        subst this
        exact hn'.1 hc'
      exact ⟨y', (List.mem_erase_of_ne ne).2 hy', hr'⟩) (fun a ha b hb y' hy' => hi a (List.mem_cons_of_mem _ ha) b (List.mem_cons_of_mem _ hb) y' (List.mem_of_mem_erase hy'))
    rw [List.length_erase_of_mem hy] at this
    have := List.length_pos_of_mem hy
    rw [List.length_cons]
    omega
def upto : List Nat := (List.range 60).map (fun i => i + 1)
theorem mem_upto {d : Nat} (h : 1 ≤ d ∧ d ≤ 60) : d ∈ upto := by
  unfold upto
  rw [List.mem_map]
  exact ⟨d - 1, List.mem_range.2 (by omega), by omega⟩
/-- Shifts that lead out of a row by steps that top divides, each into another row by steps that q divides. -/
def okShifts (q top : Nat) (cs : List Nat) : Bool :=
  decide cs.Nodup && decide (q ∣ top) && cs.all fun c => upto.all fun d => (decide (c = 0) || !decide (top ∣ d) || !decide (d ∣ c)) && (decide (q ∣ d) || decide (d ∣ c)) && cs.all fun c' => decide (c' ≤ c) || !decide (d ∣ c' - c) || decide (d ∣ c)
theorem hit_shift {r : Pr} {x : Int} {c : Nat} (h : Hit r (x + c)) (hd : r.2 ∣ c) : Hit r x := by
  unfold Hit at *
  have h2 : (r.2 : Int) ∣ (c : Int) := Int.natCast_dvd_natCast.2 hd
  have := Int.dvd_sub h h2
  rwa [show x + (c : Int) - r.1 - (c : Int) = x - r.1 by omega] at this
theorem many {rs : List Pr} (H : Once rs) {q top : Nat} {cs : List Nat} (hc : okShifts q top cs = true) (ht : ∃ r ∈ rs, top ∣ r.2) : cs.length ≤ (rs.filter (fun r => decide (q ∣ r.2))).length := by
  obtain ⟨r0, hr0, ht⟩ := ht
  unfold okShifts at hc
  rw [Bool.and_eq_true, Bool.and_eq_true, decide_eq_true_eq, decide_eq_true_eq, List.all_eq_true] at hc
  obtain ⟨⟨nd, hq⟩, hc⟩ := hc
  have ok : ∀ c ∈ cs, ∀ r ∈ rs, (c = 0 ∨ ¬ top ∣ r.2 ∨ ¬ r.2 ∣ c) ∧ (q ∣ r.2 ∨ r.2 ∣ c) ∧ ∀ c' ∈ cs, c' ≤ c ∨ ¬ r.2 ∣ c' - c ∨ r.2 ∣ c := by
    intro c hcs r hr
    have h1 := hc c hcs
    rw [List.all_eq_true] at h1
    have h2 := h1 r.2 (mem_upto (H.ste r hr))
    rw [Bool.and_eq_true, Bool.and_eq_true, List.all_eq_true] at h2
    obtain ⟨⟨h3, h4⟩, h5⟩ := h2
    refine ⟨by simpa [or_assoc] using h3, by simpa using h4, fun c' hc' => ?_⟩
    simpa [or_assoc] using h5 c' hc'
  have self : Hit r0 r0.1 := by unfold Hit; rw [Int.sub_self]; exact Int.dvd_zero _
  have key : ∀ c ∈ cs, ∀ r ∈ rs, Hit r (r0.1 + c) → r.2 ∣ c → r = r0 := fun c _ r hr h hd => H.one r hr r0 hr0 _ (hit_shift h hd) self
  refine pigeon (fun (c : Nat) (r : Pr) => Hit r (r0.1 + c)) cs _ nd (fun c hcs => ?_) ?_
  · obtain ⟨r, hr, h⟩ := H.cov (r0.1 + c)
    refine ⟨r, List.mem_filter.2 ⟨hr, decide_eq_true ?_⟩, h⟩
    rcases (ok c hcs r hr).2.1 with g | g
    · exact g
    · have := key c hcs r hr h g
      subst this
      exact Nat.dvd_trans hq ht
  · have lt : ∀ c ∈ cs, ∀ c' ∈ cs, ∀ r ∈ rs, Hit r (r0.1 + c) → Hit r (r0.1 + c') → c < c' → False := by
      intro c h1 c' h2 r hr g1 g2 hlt
      have hd : r.2 ∣ c' - c := by
        unfold Hit at g1 g2
        have := Int.dvd_sub g2 g1
        rw [show r0.1 + (c' : Int) - r.1 - (r0.1 + (c : Int) - r.1) = ((c' - c : Nat) : Int) by omega] at this
        exact Int.natCast_dvd_natCast.1 this
      have d1 : r.2 ∣ c := by
        rcases (ok c h1 r hr).2.2 c' h2 with g | g | g
        · omega
        · exact absurd hd g
        · exact g
      have d2 : r.2 ∣ c' := by
        have := Nat.dvd_add hd d1
        rwa [Nat.sub_add_cancel (by omega)] at this
      have e := key c h1 r hr g1 d1
      rcases (ok c' h2 r hr).1 with g | g | g
      · omega
      · rw [e] at g
        exact g ht
      · exact g d2
    intro c h1 c' h2 r hr g1 g2
    have hr' := (List.mem_filter.1 hr).1
    rcases Nat.lt_trichotomy c c' with h | h | h
    · exact absurd h (fun h => lt c h1 c' h2 r hr' g1 g2 h)
    · exact h
    · exact absurd h (fun h => lt c' h2 c h1 r hr' g2 g1 h)
def crtOk : Bool := upto.all fun d => upto.all fun m => decide (Nat.gcd d m ≠ 1) || (List.range 61).any fun u => decide (m ∣ (d * u + 60 * m - 1))
theorem crt_ok : crtOk = true := by decide +kernel
theorem crt {d m : Nat} (hd : 1 ≤ d ∧ d ≤ 60) (hm : 1 ≤ m ∧ m ≤ 60) (hg : Nat.gcd d m = 1) (a b : Int) : ∃ n : Int, (d : Int) ∣ n - a ∧ (m : Int) ∣ n - b := by
  have h := crt_ok
  unfold crtOk at h
  rw [List.all_eq_true] at h
  have h1 := h d (mem_upto hd)
  rw [List.all_eq_true] at h1
  have h2 := h1 m (mem_upto hm)
  rw [Bool.or_eq_true, decide_eq_true_eq, List.any_eq_true] at h2
  rcases h2 with h2 | ⟨u, _, h2⟩
  · exact absurd hg h2
  · rw [decide_eq_true_eq] at h2
    have h3 : (m : Int) ∣ (d : Int) * (u : Int) - 1 := by
      have h4 := Int.natCast_dvd_natCast.2 h2
      have e : ((d * u + 60 * m - 1 : Nat) : Int) = ((d : Int) * (u : Int) - 1) + (m : Int) * 60 := by
        have : 1 ≤ 60 * m := by omega
        rw [← Int.natCast_mul]
        generalize d * u = z at *
        omega
      rw [e] at h4
      have := Int.dvd_sub h4 (Int.dvd_mul_right (m : Int) 60)
      rwa [Int.add_sub_cancel] at this
    refine ⟨a + (d : Int) * (u : Int) * (b - a), ?_, ?_⟩
    · rw [show a + (d : Int) * (u : Int) * (b - a) - a = (d : Int) * (u : Int) * (b - a) by omega, Int.mul_assoc]
      exact Int.dvd_mul_right _ _
    · have e : a + (d : Int) * (u : Int) * (b - a) - b = ((d : Int) * (u : Int) - 1) * (b - a) := by
        rw [Int.sub_mul, Int.one_mul]
        omega
      rw [e]
      exact Int.dvd_trans h3 (Int.dvd_mul_right _ _)
def allowedD (ts : List Nat) (d : Nat) : Bool := ts.all fun t => upto.any fun m => decide (t ∣ m) && decide (Nat.gcd d m ≠ 1)
def Pres (rs : List Pr) (t : Nat) : Prop := ∃ r ∈ rs, t ∣ r.2
theorem allow {rs : List Pr} (H : Once rs) {ts : List Nat} (h2 : ∀ t ∈ ts, 2 ≤ t) (h : ∀ t ∈ ts, Pres rs t) : ∀ r ∈ rs, allowedD ts r.2 = true := by
  intro r hr
  unfold allowedD
  rw [List.all_eq_true]
  intro t ht
  obtain ⟨s, hs, hd⟩ := h t ht
  have b1 := H.ste r hr
  have b2 := H.ste s hs
  rw [List.any_eq_true]
  refine ⟨s.2, mem_upto b2, ?_⟩
  rw [Bool.and_eq_true, decide_eq_true_eq, decide_eq_true_eq]
  refine ⟨hd, fun hg => ?_⟩
  obtain ⟨n, g1, g2⟩ := crt b1 b2 hg r.1 s.1
  have e := H.one r hr s hs n g1 g2
  subst e
  rw [Nat.gcd_self] at hg
  rw [hg] at hd
  have := Nat.le_of_dvd (by omega) hd
  have := h2 t ht
  omega
structure Item where
  q : Nat
  top : Nat
  cs : List Nat
def certOk (ts : List Nat) (its : List Item) : Bool :=
  ts.all (fun t => decide (2 ≤ t)) && its.all (fun i => okShifts i.q i.top i.cs && ts.any (fun t => decide (i.top ∣ t))) && upto.all (fun d => !allowedD ts d || decide (its.countP (fun i => decide (i.q ∣ d)) ≤ 1)) && decide (20 < (its.map (fun i => i.cs.length)).sum)
theorem swap_cons (r : Pr) (rs : List Pr) : ∀ its : List Item, (its.map fun i => ((r :: rs).filter fun r => decide (i.q ∣ r.2)).length).sum = its.countP (fun i => decide (i.q ∣ r.2)) + (its.map fun i => (rs.filter fun r => decide (i.q ∣ r.2)).length).sum
  | [] => rfl
  | i :: its => by
    have ih := swap_cons r rs its
    rw [List.map_cons, List.map_cons, List.sum_cons, List.sum_cons, ih]
    by_cases c : i.q ∣ r.2
    · rw [List.filter_cons_of_pos (by simpa using c), List.countP_cons_of_pos (by simpa using c), List.length_cons]
      omega
    · rw [List.filter_cons_of_neg (by simpa using c), List.countP_cons_of_neg (by simpa using c)]
      omega
theorem swap (its : List Item) : ∀ rs : List Pr, (∀ r ∈ rs, its.countP (fun i => decide (i.q ∣ r.2)) ≤ 1) → (its.map fun i => (rs.filter fun r => decide (i.q ∣ r.2)).length).sum ≤ rs.length
  | [], _ => by
    have : ∀ its : List Item, (its.map fun i => (([] : List Pr).filter fun r => decide (i.q ∣ r.2)).length).sum = 0 := by
      intro its
      induction its with
      | nil => rfl
      | cons i its ih => rw [List.map_cons, List.sum_cons, ih]; rfl
    rw [this]
    exact Nat.zero_le _
  | r :: rs, h => by
    have ih := swap its rs (fun t ht => h t (List.mem_cons_of_mem _ ht))
    have h1 := h r List.mem_cons_self
    rw [swap_cons, List.length_cons]
    omega
theorem sum_le {f g : Item → Nat} : ∀ its : List Item, (∀ i ∈ its, f i ≤ g i) → (its.map f).sum ≤ (its.map g).sum
  | [], _ => Nat.le_refl _
  | i :: its, h => by
    have ih := sum_le its (fun j hj => h j (List.mem_cons_of_mem _ hj))
    have h1 := h i List.mem_cons_self
    rw [List.map_cons, List.map_cons, List.sum_cons, List.sum_cons]
    omega
theorem cert_false {rs : List Pr} (H : Once rs) {ts : List Nat} {its : List Item} (hc : certOk ts its = true) (h : ∀ t ∈ ts, Pres rs t) : False := by
  unfold certOk at hc
  rw [Bool.and_eq_true, Bool.and_eq_true, Bool.and_eq_true, List.all_eq_true, List.all_eq_true, List.all_eq_true, decide_eq_true_eq] at hc
  obtain ⟨⟨⟨h1, h2⟩, h3⟩, h4⟩ := hc
  have ha := allow H (fun t ht => by simpa using h1 t ht) h
  have s1 := swap its rs (fun r hr => by
    have := h3 r.2 (mem_upto (H.ste r hr))
    rw [ha r hr] at this
    simpa using this)
  have s2 := sum_le (f := fun i => i.cs.length) (g := fun i => (rs.filter fun r => decide (i.q ∣ r.2)).length) its (fun i hi => by
    have := h2 i hi
    rw [Bool.and_eq_true, List.any_eq_true] at this
    obtain ⟨g1, t, ht, g2⟩ := this
    rw [decide_eq_true_eq] at g2
    obtain ⟨r, hr, hd⟩ := h t ht
    exact many H g1 ⟨r, hr, Nat.dvd_trans g2 hd⟩)
  have := H.len
  omega
end Go.Proofs.Ytdiaifmlockohaa.Pure
