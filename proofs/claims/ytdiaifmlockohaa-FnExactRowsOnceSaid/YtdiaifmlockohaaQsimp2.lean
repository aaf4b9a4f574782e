/- Rows that have each number just once: the common multiple of their steps isn't over 60000 (the certificates). -/
import Derived.Test.YtdiaifmlockohaaQsimp
namespace Go.Proofs.Ytdiaifmlockohaa.Pure

/-- The least common multiple of 1 to 60. -/
def big : Nat := 32 * 27 * 25 * 49 * 11 * 13 * 17 * 19 * 23 * 29 * 31 * 37 * 41 * 43 * 47 * 53 * 59
def shifts (p part : Nat) (fs : List Nat) : List Nat := 0 :: fs.flatMap fun f => (List.range (p - 1)).map fun j => (j + 1) * (big / part * f)
def certs : List (List (Nat × Nat) × List Item) := [
  ([(7, 1), (19, 1)], [⟨7, 7, shifts 7 49 [1]⟩, ⟨19, 19, shifts 19 19 [1]⟩]),
  ([(5, 1), (17, 1)], [⟨5, 5, shifts 5 25 [1]⟩, ⟨17, 17, shifts 17 17 [1]⟩]),
  ([(11, 1), (13, 1)], [⟨11, 11, shifts 11 11 [1]⟩, ⟨13, 13, shifts 13 13 [1]⟩]),
  ([(3, 2), (7, 2)], [⟨9, 9, shifts 3 27 [3]⟩, ⟨7, 49, shifts 7 49 [1, 7]⟩, ⟨49, 49, shifts 7 49 [7]⟩]),
  ([(2, 2), (19, 1)], [⟨4, 4, shifts 2 32 [2]⟩, ⟨19, 19, shifts 19 19 [1]⟩]),
  ([(7, 1), (17, 1)], [⟨7, 7, shifts 7 49 [1]⟩, ⟨17, 17, shifts 17 17 [1]⟩]),
  ([(5, 1), (7, 1), (13, 1)], [⟨5, 5, shifts 5 25 [1]⟩, ⟨7, 7, shifts 7 49 [1]⟩, ⟨13, 13, shifts 13 13 [1]⟩]),
  ([(5, 2), (7, 1), (11, 1)], [⟨25, 25, shifts 5 25 [5]⟩, ⟨7, 7, shifts 7 49 [1]⟩, ⟨11, 11, shifts 11 11 [1]⟩]),
  ([(3, 2), (19, 1)], [⟨9, 9, shifts 3 27 [3]⟩, ⟨19, 19, shifts 19 19 [1]⟩]),
  ([(2, 4), (5, 1), (7, 1), (11, 1)], [⟨16, 16, shifts 2 32 [8]⟩, ⟨5, 5, shifts 5 25 [1]⟩, ⟨7, 7, shifts 7 49 [1]⟩, ⟨11, 11, shifts 11 11 [1]⟩]),
  ([(2, 3), (3, 2), (17, 1)], [⟨8, 8, shifts 2 32 [4]⟩, ⟨9, 9, shifts 3 27 [3]⟩, ⟨17, 17, shifts 17 17 [1]⟩]),
  ([(5, 2), (13, 1)], [⟨5, 25, shifts 5 25 [1, 5]⟩, ⟨13, 13, shifts 13 13 [1]⟩]),
  ([(3, 2), (5, 2), (11, 1)], [⟨3, 9, shifts 3 27 [1, 3]⟩, ⟨25, 25, shifts 5 25 [5]⟩, ⟨11, 11, shifts 11 11 [1]⟩]),
  ([(3, 2), (7, 1), (11, 1)], [⟨9, 9, shifts 3 27 [3]⟩, ⟨7, 7, shifts 7 49 [1]⟩, ⟨11, 11, shifts 11 11 [1]⟩]),
  ([(2, 4), (7, 1), (13, 1)], [⟨16, 16, shifts 2 32 [8]⟩, ⟨7, 7, shifts 7 49 [1]⟩, ⟨13, 13, shifts 13 13 [1]⟩]),
  ([(2, 4), (3, 3), (5, 2), (7, 1)], [⟨16, 16, shifts 2 32 [8]⟩, ⟨27, 27, shifts 3 27 [9]⟩, ⟨5, 25, shifts 5 25 [1, 5]⟩, ⟨7, 7, shifts 7 49 [1]⟩]),
  ([(7, 2), (11, 1)], [⟨7, 49, shifts 7 49 [1, 7]⟩, ⟨49, 49, shifts 7 49 [7]⟩, ⟨11, 11, shifts 11 11 [1]⟩]),
  ([(5, 2), (7, 2)], [⟨25, 25, shifts 5 25 [5]⟩, ⟨7, 49, shifts 7 49 [1, 7]⟩, ⟨49, 49, shifts 7 49 [7]⟩])]
def tsOf (u : List (Nat × Nat)) : List Nat := u.map fun x => x.1 ^ x.2
def primes : List Nat := [2, 3, 5, 7, 11, 13, 17, 19]
theorem certs_ok : (certs.all fun c => certOk (tsOf c.1) c.2 && c.1.all fun x => decide (x.1 ∈ primes) && decide (1 ≤ x.2)) = true := by decide +kernel
def greats : List Nat := [23, 29, 31, 37, 41, 43, 47, 53, 59]
theorem greats_ok : (greats.all fun p => certOk [p] [⟨p, p, (List.range 21).map fun j => j * (big / p)⟩]) = true := by decide +kernel
def top (p : Nat) : Nat := if p = 2 then 5 else if p = 3 then 3 else if p = 5 then 2 else if p = 7 then 2 else 1
def mk (a b c d e f g h : Nat) (p : Nat) : Nat := if p = 2 then a else if p = 3 then b else if p = 5 then c else if p = 7 then d else if p = 11 then e else if p = 13 then f else if p = 17 then g else h
def prodV (v : Nat → Nat) : Nat := 2 ^ v 2 * 3 ^ v 3 * 5 ^ v 5 * 7 ^ v 7 * 11 ^ v 11 * 13 ^ v 13 * 17 ^ v 17 * 19 ^ v 19
def us : List (List (Nat × Nat)) := certs.map fun c => c.1
def vecOk (us : List (List (Nat × Nat))) (v : Nat → Nat) : Bool := decide (prodV v ≤ 60000) || us.any fun u => u.all fun x => decide (x.2 ≤ v x.1)
def allVecs : Bool := (List.range 6).all fun a => (List.range 4).all fun b => (List.range 3).all fun c => (List.range 3).all fun d => (List.range 2).all fun e => (List.range 2).all fun f => (List.range 2).all fun g => (List.range 2).all fun h => vecOk us (mk a b c d e f g h)
theorem all_vecs : allVecs = true := by decide +kernel
end Go.Proofs.Ytdiaifmlockohaa.Pure
