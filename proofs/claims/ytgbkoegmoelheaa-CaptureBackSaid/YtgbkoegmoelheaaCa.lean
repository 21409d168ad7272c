/- THE PLAIN MODEL of a capture file: packets, blocks, what is read of bytes, a writer's state. A slice of packets as it lies in memory. -/
import Derived.Test.YtgbkoegmoelheaaSz
import Derived.Test.YtgbkoegmoelheaaCkOfx
namespace Go.Proofs.Ytgbkoegmoelheaa
open Go.RowKit
set_option linter.unusedVariables false
set_option linter.unusedSimpArgs false

/-- A packet. -/
structure Pk where
  t : Int
  f : Int
  d : List UInt8
def validP (p : Pk) : Bool := decide (0 ≤ p.t) && (decide (p.t ≤ 1099511627776) && (decide (0 ≤ p.f) && (decide (p.f ≤ 65535) && decide (p.d.length ≤ 4096))))
theorem validP_iff {p : Pk} : validP p = true ↔ 0 ≤ p.t ∧ p.t ≤ 1099511627776 ∧ 0 ≤ p.f ∧ p.f ≤ 65535 ∧ p.d.length ≤ 4096 := by simp [validP]
/-- How many bytes the packets' encodings have. -/
def sizeP : List Pk → Nat
  | [] => 0
  | p :: l => 10 + p.d.length + sizeP l
theorem sizeP_append (a b : List Pk) : sizeP (a ++ b) = sizeP a + sizeP b := by
  induction a with
  | nil => simp [sizeP]
  | cons p a ih => simp [sizeP, ih]; omega
/-- In the order of their times. -/
def ordP : List Pk → Bool
  | a :: b :: l => decide (a.t ≤ b.t) && ordP (b :: l)
  | _ => true
theorem ordP_iff : ∀ {l : List Pk}, ordP l = true ↔ ∀ i (h : i + 1 < l.length), (l[i]).t ≤ (l[i + 1]).t
  | [] => by simp [ordP]
  | [a] => by simp [ordP]
  | a :: b :: l => by
    rw [ordP, Bool.and_eq_true, decide_eq_true_iff, ordP_iff (l := b :: l)]
    constructor
    · rintro ⟨h0, h1⟩ i hi
      cases i with
      | zero => exact h0
      | succ i => exact h1 i (by simpa using hi)
    · intro h
      exact ⟨h 0 (by simp), fun i hi => h (i + 1) (by simpa using hi)⟩
def fitsP (l : List Pk) : Bool := decide (1 ≤ l.length) && (decide (l.length ≤ 64) && (decide (sizeP l ≤ 8192) && ordP l))
/-- A number's bytes, the high ones first. -/
def be (v : Nat) : Nat → List UInt8
  | 0 => []
  | n + 1 => UInt8.ofNat (v / 256 ^ n % 256) :: be v n
theorem be_length (v n : Nat) : (be v n).length = n := by induction n <;> simp [be, *]
/-- The number of bytes. -/
def num (l : List UInt8) : Nat := l.foldl (fun v x => 256 * v + x.toNat) 0
theorem num_snoc (l : List UInt8) (x : UInt8) : num (l ++ [x]) = 256 * num l + x.toNat := by simp [num]
theorem snoc_ind {α : Type} {M : List α → Prop} (h0 : M []) (h1 : ∀ l x, M l → M (l ++ [x])) (l : List α) : M l := by
  rw [← List.reverse_reverse l]
  induction l.reverse with
  | nil => exact h0
  | cons x l ih => rw [List.reverse_cons]; exact h1 _ _ ih
theorem num_lt (l : List UInt8) : num l < 256 ^ l.length := by
  refine snoc_ind (M := fun l => num l < 256 ^ l.length) (by simp [num]) (fun l x ih => ?_) l
  rw [num_snoc, List.length_append]
  have := x.toNat_lt
  simp only [List.length_singleton, Nat.pow_succ]
  omega
def encP (p : Pk) : List UInt8 := be p.t.toNat 6 ++ be p.f.toNat 2 ++ be p.d.length 2 ++ p.d
def bodyP (l : List Pk) : List UInt8 := l.flatMap encP
theorem encP_length (p : Pk) : (encP p).length = 10 + p.d.length := by simp [encP, be_length]; omega
theorem bodyP_length (l : List Pk) : (bodyP l).length = sizeP l := by
  induction l with
  | nil => rfl
  | cons p l ih => 
    have : bodyP (p :: l) = encP p ++ bodyP l := rfl
    rw [this, List.length_append, ih, encP_length]; rfl
def padN (n : Nat) : Nat := (n + 3) / 4 * 4
/-- Adler-32. -/
def adlN (l : List UInt8) : Nat := ((Ck.adlS 1 0 l).2 * 65536 + (Ck.adlS 1 0 l).1).toNat
def magicB : List UInt8 := [80, 66, 75, 49]
/-- A block's bytes ahead of the checksum, and all of them. -/
def headP (l : List Pk) : List UInt8 := magicB ++ be l.length 1 ++ be (sizeP l) 2 ++ bodyP l
def preP (l : List Pk) : List UInt8 := headP l ++ List.replicate (padN (7 + sizeP l) - (7 + sizeP l)) 0
def encB (l : List Pk) : List UInt8 := preP l ++ be (adlN (preP l)) 4
/-- The packets of encodings. -/
def packs : List UInt8 → Nat → Option (List Pk)
  | b, 0 => if b.length = 0 then some [] else none
  | b, n + 1 =>
    if b.length < 10 then none
    else
      let s := num ((b.take 10).drop 8)
      if b.length < 10 + s then none
      else
        let p : Pk := ⟨num (b.take 6), num ((b.take 8).drop 6), (b.take (10 + s)).drop 10⟩
        if validP p = true then (packs (b.drop (10 + s)) n).map (p :: ·) else none
/-- The block with which bytes begin: its packets and its size, or the error. -/
def dec (b : List UInt8) : Except Int (List Pk × Nat) :=
  if b.length < 7 then .error 4
  else
    let n := (b.getD 4 0).toNat
    let s := num ((b.take 7).drop 5)
    if b.take 4 = magicB ∧ 1 ≤ n ∧ n ≤ 64 ∧ s ≤ 8192 then
      if b.length < padN (7 + s) + 4 then .error 4
      else
        match packs ((b.take (7 + s)).drop 7) n with
        | none => .error 6
        | some l =>
          if fitsP l = true ∧ num ((b.take (padN (7 + s))).drop (7 + s)) = 0 then
            if be (adlN (b.take (padN (7 + s)))) 4 = (b.take (padN (7 + s) + 4)).drop (padN (7 + s)) then .ok (l, padN (7 + s) + 4) else .error 10
          else .error 6
    else .error 6
end Go.Proofs.Ytgbkoegmoelheaa
