/- Floats from below: a sum of floats is at most a little less than the sum of what they stand for. -/
import Derived.Test.YtdiaifmlockohaaQcov
namespace Go.Proofs.Ytdiaifmlockohaa.Pure
open Go.RowKit Go.Proofs.Ytdiaifmlockohaa.G Go.Proofs.YtdiaifmlockohaaW.PrintWords Go.Proofs.YtdiaifmlockohaaW.PrintLast

/-- It stands for T or more (a unit is the least float). -/
inductive LB (T : Nat) : Ieee.Datum → Prop
  | num (m : Nat) (p : Int) (hp : -1074 ≤ p) (h : T ≤ m * 2 ^ (p + 1074).toNat) : LB T (.number false m p)
  | inf : LB T (.infinity false)
def LW (T w : Nat) : Prop := LB T (Ieee.double.read w)
theorem LB.mono {S T : Nat} {d : Ieee.Datum} (h : LB T d) (k : S ≤ T) : LB S d := by
  cases h with
  | num m p hp h => exact .num m p hp (Nat.le_trans k h)
  | inf => exact .inf
theorem cut_lb (n drop : Nat) (h : drop ≤ n.log2 + 2) : 2 * n ≤ 2 * (Ieee.Toward.even.cut false n drop * 2 ^ drop) + 2 ^ drop ∧ Ieee.Toward.even.cut false n drop ≤ n / 2 ^ drop + 1 := by
  unfold Ieee.Toward.cut
  simp only [Nat.min_eq_left h, Nat.one_shiftLeft]
  have g0 : 0 < 2 ^ drop := Nat.two_pow_pos drop
  generalize 2 ^ drop = g at g0 ⊢
  have e := Nat.div_add_mod n g
  have r := Nat.mod_lt n g0
  generalize n % g = rest at *
  generalize n / g = low at *
  have e2 : low * g = g * low := Nat.mul_comm _ _
  by_cases c : (decide (g < 2 * rest) || g == 2 * rest && low % 2 == 1) = true
  · rw [c]
    simp only [Bool.toNat_true]
    rw [Nat.add_mul, Nat.one_mul, e2]
    omega
  · rw [Bool.eq_false_iff.2 c]
    simp only [Bool.toNat_false]
    rw [Bool.or_eq_true, decide_eq_true_eq] at c
    rw [Nat.add_zero, e2]
    omega
theorem read_lb {L kept : Nat} (hk : kept ≤ 9007199254740992) : LB (kept * 2 ^ L) (Ieee.double.read (min (L * 4503599627370496 + kept) 9218868437227405312)) := by
  have e1 : Ieee.double.signWeight = 9223372036854775808 := by decide +kernel
  have e2 : Ieee.double.infRung = 9218868437227405312 := by decide +kernel
  have e3 : Ieee.double.binade = 4503599627370496 := by decide +kernel
  have e4 : Ieee.double.leastPlace = -1074 := by decide +kernel
  generalize hr : min (L * 4503599627370496 + kept) 9218868437227405312 = r
  have r1 : r ≤ 9218868437227405312 := by omega
  have d1 : r / 9223372036854775808 = 0 := by omega
  have d2 : r % 9223372036854775808 = r := by omega
  unfold Ieee.Format.read
  simp only [e1, e2, e3, e4, d1, d2]
  by_cases c1 : r < 4503599627370496
  · rw [if_pos c1]
    have : L = 0 := by omega
    subst this
    refine .num _ _ (by omega) ?_
    rw [show ((-1074 : Int) + 1074).toNat = 0 by decide]
    omega
  · rw [if_neg c1]
    by_cases c2 : r < 9218868437227405312
    · rw [if_pos c2]
      refine .num _ _ (by omega) ?_
      rw [show ((-1074 : Int) + ((r / 4503599627370496 - 1 : Nat) : Int) + 1074).toNat = r / 4503599627370496 - 1 by omega]
      have hr2 : r = L * 4503599627370496 + kept := by omega
      by_cases k1 : kept < 4503599627370496
      · have q1 : r / 4503599627370496 = L := by omega
        have q2 : r % 4503599627370496 = kept := by omega
        obtain ⟨L', rfl⟩ : ∃ L', L = L' + 1 := ⟨L - 1, by omega⟩
        rw [q1, q2, show L' + 1 - 1 = L' by omega, Nat.pow_succ, Nat.mul_comm (2 ^ L') 2, ← Nat.mul_assoc]
        exact Nat.mul_le_mul_right _ (by omega)
      · by_cases k2 : kept < 9007199254740992
        · have q1 : r / 4503599627370496 = L + 1 := by omega
          have q2 : r % 4503599627370496 = kept - 4503599627370496 := by omega
          rw [q1, q2, show L + 1 - 1 = L by omega]
          exact Nat.mul_le_mul_right _ (by omega)
        · have q1 : r / 4503599627370496 = L + 2 := by omega
          have q2 : r % 4503599627370496 = 0 := by omega
          rw [q1, q2, show L + 2 - 1 = L + 1 by omega, Nat.pow_succ, Nat.mul_comm (2 ^ L) 2, ← Nat.mul_assoc]
          exact Nat.mul_le_mul_right _ (by omega)
    · rw [if_neg c2, if_pos (by omega)]
      exact .inf
/-- Half of the last place below 1, doubled. -/
def KE : Nat := 1021
def KK : Nat := 2 ^ KE
theorem kk_eq : (2 : Nat) ^ KE = KK := by
  unfold KK
  rfl
/-- 1. -/
def MM : Nat := 9007199254740992 * KK
theorem nearest_lb {m : Nat} {p : Int} (hp : -1074 ≤ p) : LW (min (m * 2 ^ (p + 1074).toNat) MM - KK) (Ieee.double.nearest false m p) := by
  have e1 : Ieee.double.infRung = 9218868437227405312 := by decide +kernel
  have e2 : Ieee.double.binade = 4503599627370496 := by decide +kernel
  have e3 : Ieee.double.leastPlace = -1074 := by decide +kernel
  have e4 : Ieee.double.fractionBits = 52 := by decide +kernel
  obtain ⟨e, he⟩ : ∃ e : Nat, p = (e : Int) - 1074 := ⟨(p + 1074).toNat, by omega⟩
  subst he
  rw [show ((e : Int) - 1074 + 1074).toNat = e by omega]
  unfold LW Ieee.Format.nearest Ieee.Format.word
  by_cases h0 : m = 0
  · rw [if_pos h0]
    subst h0
    simp only [Bool.false_eq_true, if_false]
    have := read_lb (L := 0) (kept := 0) (by omega)
    simp only [Nat.zero_mul, Nat.add_zero, Nat.zero_min] at this ⊢
    exact this.mono (by omega)
  · rw [if_neg h0]
    simp only [e1, e2, e3, e4, Bool.false_eq_true, if_false]
    have w1 := Nat.log2_self_le h0
    have w2 := Nat.lt_log2_self (n := m)
    generalize hg : m.log2 = g at *
    obtain ⟨L, hL⟩ : ∃ L : Nat, L = e + g - 52 := ⟨_, rfl⟩
    have last : max ((e : Int) - 1074 + (g : Int) - ((52 : Nat) : Int)) (-1074) = (L : Int) - 1074 := by omega
    rw [last, show ((e : Int) - 1074 - ((L : Int) - 1074)).toNat = e - L by omega, show ((L : Int) - 1074 - ((e : Int) - 1074)).toNat = L - e by omega, show ((L : Int) - 1074 - -1074).toNat = L by omega]
    generalize hk : Ieee.Toward.even.cut false (m <<< (e - L)) (L - e) = kept
    have main : kept ≤ 9007199254740992 ∧ 2 * (m * 2 ^ e) ≤ 2 * (kept * 2 ^ L) + 2 ^ L := by
      by_cases c : L ≤ e
      · have k0 : L - e = 0 := by omega
        rw [k0] at hk
        have k1 : kept = m * 2 ^ (e - L) := by
          rw [← hk, ← Nat.shiftLeft_eq]
          unfold Ieee.Toward.cut
          simp [Nat.mod_one]
        have k2 : kept * 2 ^ L = m * 2 ^ e := by
          rw [k1, Nat.mul_assoc, ← Nat.pow_add, show e - L + L = e by omega]
        refine ⟨?_, by rw [k2]; exact Nat.le_add_right _ _⟩
        rw [k1]
        have a1 : m * 2 ^ (e - L) ≤ 2 ^ (g + 1) * 2 ^ (e - L) := Nat.mul_le_mul_right _ (by omega)
        rw [← Nat.pow_add] at a1
        have a2 : 2 ^ (g + 1 + (e - L)) ≤ 2 ^ 53 := Nat.pow_le_pow_right (by decide) (by omega)
        exact Nat.le_trans a1 a2
      · have k0 : e - L = 0 := by omega
        rw [k0, Nat.shiftLeft_zero] at hk
        obtain ⟨b1, b2⟩ := cut_lb m (L - e) (by omega)
        rw [hk] at b1 b2
        constructor
        · have a1 : m / 2 ^ (L - e) < 2 ^ 53 := by
            rw [Nat.div_lt_iff_lt_mul (Nat.two_pow_pos _), ← Nat.pow_add]
            exact Nat.lt_of_lt_of_le w2 (Nat.pow_le_pow_right (by decide) (by omega))
          have : (2 : Nat) ^ 53 = 9007199254740992 := by decide
          omega
        · have a1 := Nat.mul_le_mul_right (2 ^ e) b1
          rw [Nat.add_mul, ← Nat.pow_add, Nat.mul_assoc, Nat.mul_assoc, Nat.mul_assoc, ← Nat.pow_add, show L - e + e = L by omega] at a1
          exact a1
    obtain ⟨m1, m2⟩ := main
    refine (read_lb m1).mono ?_
    generalize hV : kept * 2 ^ L = V at m2 ⊢
    by_cases c : e + g ≤ 1073
    · have a1 : 2 ^ L ≤ KK := by
        rw [← kk_eq]
        exact Nat.pow_le_pow_right (by decide) (by unfold KE; omega)
      generalize m * 2 ^ e = X at *
      generalize 2 ^ L = PL at *
      omega
    · have a0 : 2 ^ g * 2 ^ e ≤ m * 2 ^ e := Nat.mul_le_mul_right _ w1
      rw [← Nat.pow_add, show g + e = 52 + L by omega, Nat.pow_add] at a0
      have a1 : 2 ^ (KE + 1) ≤ 2 ^ L := Nat.pow_le_pow_right (by decide) (by unfold KE; omega)
      have a2 : (2 : Nat) ^ (KE + 1) = 2 * KK := by rw [Nat.pow_succ, kk_eq, Nat.mul_comm]
      have a3 : (2 : Nat) ^ 52 = 4503599627370496 := by decide
      rw [a2] at a1
      rw [a3] at a0
      have a4 : MM = 9007199254740992 * KK := rfl
      generalize m * 2 ^ e = X at *
      generalize 2 ^ L = PL at *
      generalize KK = K at *
      generalize MM = M at *
      omega
theorem write_lb {T : Nat} {d : Ieee.Datum} (h : LB T d) : LW (min T MM - KK) (Ieee.double.write d) := by
  cases h with
  | num m p hp h =>
    refine (nearest_lb hp).mono ?_
    generalize m * 2 ^ (p + 1074).toNat = X at *
    generalize KK = K at *
    generalize MM = M at *
    omega
  | inf =>
    have := read_lb (L := 2047) (kept := 0) (by omega)
    rw [show min (2047 * 4503599627370496 + 0) 9218868437227405312 = Ieee.double.infRung by decide +kernel] at this
    show LB _ (Ieee.double.read (Ieee.double.word false Ieee.double.infRung))
    have e : Ieee.double.read Ieee.double.infRung = .infinity false := by decide +kernel
    show LB _ (Ieee.double.read Ieee.double.infRung)
    rw [e]
    exact .inf
theorem sum_lb {S T : Nat} {a b : Ieee.Datum} (ha : LB S a) (hb : LB T b) : ∃ d, a.sum b = some d ∧ LB (S + T) d ∧ DOk d := by
  cases ha with
  | num m p hp h =>
    cases hb with
    | num n q hq g =>
      obtain ⟨d1, e1, o1⟩ := sum_ok (DOk.num m p) (DOk.num n q)
      refine ⟨d1, e1, ?_, o1⟩
      unfold Ieee.Datum.sum at e1
      simp only [Option.some.injEq] at e1
      unfold Ieee.signed at e1
      simp only [Bool.false_eq_true, if_false] at e1
      rw [← Int.natCast_add, Int.natAbs_natCast] at e1
      cases o1 with
      | num M P =>
        simp only [Ieee.Datum.number.injEq] at e1
        obtain ⟨_, e3, e4⟩ := e1
        subst e3 e4
        refine .num _ _ (by omega) ?_
        rw [Nat.shiftLeft_eq, Nat.shiftLeft_eq, Nat.add_mul, Nat.mul_assoc, Nat.mul_assoc, ← Nat.pow_add, ← Nat.pow_add, show (p - min p q).toNat + (min p q + 1074).toNat = (p + 1074).toNat by omega, show (q - min p q).toNat + (min p q + 1074).toNat = (q + 1074).toNat by omega]
        omega
      | inf => cases e1
    | inf => exact ⟨_, rfl, .inf, .inf⟩
  | inf =>
    cases hb with
    | num n q hq g => exact ⟨_, rfl, .inf, .inf⟩
    | inf => exact ⟨_, rfl, .inf, .inf⟩
theorem add_lb {S T a b : Nat} (ha : LW S a) (hb : LW T b) : ∃ r, floatBits .add .f64 a b = some r ∧ FOk r ∧ LW (min (S + T) MM - KK) r := by
  obtain ⟨d, h1, h2, h3⟩ := sum_lb ha hb
  refine ⟨Ieee.double.write d, ?_, write_ok h3, write_lb h2⟩
  show Option.map Ieee.double.write ((Ieee.double.read a).sum (Ieee.double.read b)) = _
  rw [h1]
  rfl
def quoB (p : Nat) : Bool := match floatBits .quo .f64 4607182418800017408 (floatOfInt .f64 (p : Int)) with
  | some q => decide (q ≤ 9218868437227405312) && match Ieee.double.read q with
    | .number false m e => decide (-1074 ≤ e) && decide (MM / p ≤ m * 2 ^ (e + 1074).toNat + KK)
    | _ => false
  | none => false
theorem quo_all : ((List.range 61).all fun p => decide (p = 0) || quoB p) = true := by decide +kernel
theorem quo_lb {p : Nat} (h1 : 1 ≤ p) (h2 : p ≤ 60) : ∃ q, floatBits .quo .f64 4607182418800017408 (floatOfInt .f64 (p : Int)) = some q ∧ FOk q ∧ LW (MM / p - KK) q := by
  have h := List.all_eq_true.1 quo_all p (List.mem_range.2 (by omega))
  rw [Bool.or_eq_true, decide_eq_true_eq] at h
  rcases h with h | h
  · omega
  · unfold quoB at h
    cases e : floatBits .quo .f64 4607182418800017408 (floatOfInt .f64 (p : Int)) with
    | none => rw [e] at h; cases h
    | some q =>
      rw [e] at h
      simp only [Bool.and_eq_true, decide_eq_true_eq] at h
      obtain ⟨g1, g2⟩ := h
      refine ⟨q, rfl, g1, ?_⟩
      unfold LW
      generalize Ieee.double.read q = d at g2
      cases d with
      | number s m e =>
        cases s with
        | false =>
          simp only [Bool.and_eq_true, decide_eq_true_eq] at g2
          exact .num _ _ g2.1 (by omega)
        | true => cases g2
      | infinity s => cases g2
      | nan s t => cases g2
theorem lss_lb {T w : Nat} (h : LW T w) (hT : MM - 41 * KK ≤ T) : cv_lss w 4607182418791010209 = false := by
  have e : Ieee.double.read 4607182418791010209 = .number false 9007199245733793 (-53) := by decide +kernel
  unfold cv_lss
  show (((Ieee.double.read w).order (Ieee.double.read 4607182418791010209)) == some Ordering.lt) = false
  rw [e]
  unfold LW at h
  generalize Ieee.double.read w = d at h
  cases h with
  | num m p hp h =>
    unfold Ieee.Datum.order Ieee.signed
    simp only [Bool.false_eq_true, if_false]
    have key : ¬ ((m <<< (p - min p (-53)).toNat : Nat) : Int) < ((9007199245733793 <<< ((-53) - min p (-53)).toNat : Nat) : Int) := by
      intro hlt
      have hlt := Int.ofNat_lt.1 hlt
      rw [Nat.shiftLeft_eq, Nat.shiftLeft_eq] at hlt
      have hlt := (Nat.mul_lt_mul_right (Nat.two_pow_pos ((min p (-53)) + 1074).toNat)).2 hlt
      rw [Nat.mul_assoc, Nat.mul_assoc, ← Nat.pow_add, ← Nat.pow_add, show (p - min p (-53)).toNat + (min p (-53) + 1074).toNat = (p + 1074).toNat by omega, show (-53 - min p (-53)).toNat + (min p (-53) + 1074).toNat = KE by unfold KE; omega] at hlt
      rw [kk_eq] at hlt
      have a4 : MM = 9007199254740992 * KK := rfl
      have a5 : 1 ≤ KK := Nat.two_pow_pos _
      generalize m * 2 ^ (p + 1074).toNat = X at *
      generalize KK = K at *
      generalize MM = M at *
      omega
    generalize ((m <<< (p - min p (-53)).toNat : Nat) : Int) = x at key ⊢
    generalize ((9007199245733793 <<< ((-53) - min p (-53)).toNat : Nat) : Int) = y at key ⊢
    unfold compare instOrdInt compareOfLessAndEq
    simp only [if_neg key]
    split <;> rfl
  | inf => rfl
end Go.Proofs.Ytdiaifmlockohaa.Pure
