/- The plain model of the scanner: what Scan gives, on lists of bytes. -/
import Derived.Test.YtkihoekldklkhaaDoorSz
namespace Go.Proofs.YtkihoekldklkhaaDoor
open Go.RowKit
set_option linter.unusedVariables false
set_option linter.unusedSimpArgs false

def ltrI (x : Int) : Bool := (decide (65 ≤ x) && decide (x ≤ 90)) || (decide (97 ≤ x) && decide (x ≤ 122))
def digI (x : Int) : Bool := decide (48 ≤ x) && decide (x ≤ 57)
def worI (x : Int) : Bool := (ltrI x || digI x) || x == 95
def hexI (x : Int) : Int := if digI x = true then x - 48 else if 97 ≤ x ∧ x ≤ 102 then x - 87 else if 65 ≤ x ∧ x ≤ 70 then x - 55 else -1
def isHex (x : Int) : Bool := decide (0 ≤ hexI x)
def blkI (x : Int) : Bool := x == 32 || x == 9 || x == 10 || x == 13
def notNl (x : Int) : Bool := !(x == 10)
def quoI (x : Int) : Bool := (decide (32 ≤ x) && decide (x ≤ 126)) && !(x == 34)
def symbols : List UInt8 := [40, 41, 123, 125, 91, 93, 60, 62, 44, 59, 58, 46, 61, 43, 45, 42, 47, 124, 33, 63, 64]
def symI (x : Int) : Bool := symbols.any fun c => (c.toNat : Int) == x
def isI (y x : Int) : Bool := x == y

/-- How many bytes at the beginning have a property, at most some. -/
def runL (p : Int → Bool) : Nat → List UInt8 → Nat
  | 0, _ => 0
  | _ + 1, [] => 0
  | m + 1, c :: r => if p c.toNat = true then runL p m r + 1 else 0
def cntL (p : Int → Bool) (r : List UInt8) : Nat := runL p r.length r
/-- Whether the next byte has a property. -/
def headP (p : Int → Bool) : List UInt8 → Bool
  | [] => false
  | c :: _ => p c.toNat
/-- Blanks and comments. -/
def skipL : Bool → List UInt8 → Nat
  | _, [] => 0
  | false, c :: r => if blkI c.toNat = true then skipL false r + 1 else if c = 35 then skipL true r + 1 else 0
  | true, c :: r => if c = 10 then skipL false r + 1 else skipL true r + 1
/-- What stands at the beginning: a wrong byte at a place, or a token: its kind, its value, how many bytes. -/
inductive TR where
  | bad (n : Nat)
  | ok (k : Nat) (v : Int) (n : Nat)
def digsL (base : Int) (alone : Bool) : List UInt8 → Int → Nat → TR
  | [], v, n => .ok 2 v n
  | c :: r, v, n =>
    if 0 ≤ hexI c.toNat ∧ hexI c.toNat < base then
      if alone = true ∧ n ≠ 0 then .bad n
      else if v ≤ (4611686018427387904 - hexI c.toNat) / base then digsL base alone r (base * v + hexI c.toNat) (n + 1) else .bad n
    else if worI c.toNat = true then .bad n else .ok 2 v n
def numL (r : List UInt8) : TR :=
  if headP (isI 48) r = true ∧ headP (isI 120) (r.drop 1) = true then
    if headP isHex (r.drop 2) = true then digsL 16 false (r.drop 2) 0 2 else .bad 2
  else digsL 10 (headP (isI 48) r) r 0 0
def wordL (r : List UInt8) : TR := if headP worI (r.drop (runL worI 32 r)) = true then .bad (runL worI 32 r) else .ok 1 0 (runL worI 32 r)
def quoL (r : List UInt8) : TR := if headP (isI 34) ((r.drop 1).drop (cntL quoI (r.drop 1))) = true then .ok 3 0 (cntL quoI (r.drop 1) + 2) else .bad (cntL quoI (r.drop 1) + 1)
def twoL (r : List UInt8) : Bool := (headP (isI 46) r && headP (isI 46) (r.drop 1)) || (headP (isI 45) r && headP (isI 62) (r.drop 1))
def symL (r : List UInt8) : TR := .ok 4 0 (if twoL r = true then 2 else 1)
def tokL (r : List UInt8) : TR :=
  if headP ltrI r = true then wordL r else if headP digI r = true then numL r else if headP (isI 34) r = true then quoL r else if headP symI r = true then symL r else .bad 0
structure Tk where
  k : Nat
  t : List UInt8
  v : Int
  a : Nat
def txtL (k : Nat) (r : List UInt8) (n : Nat) : List UInt8 := if k = 3 then (r.take (n - 1)).drop 1 else r.take n
theorem runL_le (p : Int → Bool) : ∀ (m : Nat) (r : List UInt8), runL p m r ≤ r.length ∧ runL p m r ≤ m
  | 0, r => by simp [runL]
  | m + 1, [] => by simp [runL]
  | m + 1, c :: r => by
    have := runL_le p m r
    unfold runL
    split <;> simp <;> omega
theorem runL_big (p : Int → Bool) : ∀ (m : Nat) (r : List UInt8), r.length ≤ m → runL p m r = cntL p r
  | m, [], _ => by cases m <;> rfl
  | 0, c :: r, h => by simp at h
  | m + 1, c :: r, h => by
    have h1 := runL_big p m r (by simpa using h)
    have e : cntL p (c :: r) = if p c.toNat = true then runL p r.length r + 1 else 0 := by unfold cntL; rw [List.length_cons]; rfl
    rw [e, runL, h1]
    rfl
theorem cntL_le (p : Int → Bool) (r : List UInt8) : cntL p r ≤ r.length := (runL_le p _ r).1
theorem cntL_cons (p : Int → Bool) (c : UInt8) (r : List UInt8) : cntL p (c :: r) = if p c.toNat = true then cntL p r + 1 else 0 := by unfold cntL; rw [List.length_cons]; rfl
theorem digsL_pos (base : Int) (al : Bool) : ∀ (r : List UInt8) (v : Int) (n : Nat) (k : Nat) (u : Int) (m : Nat), digsL base al r v n = .ok k u m → n ≤ m ∧ m ≤ n + r.length ∧ k = 2
  | [], v, n, k, u, m, h => by unfold digsL at h; injection h with h1 h2 h3; simp; omega
  | c :: r, v, n, k, u, m, h => by
    unfold digsL at h
    split at h
    · split at h
      · cases h
      · split at h
        · have := digsL_pos base al r _ _ k u m h
          simp; omega
        · cases h
    · split at h
      · cases h
      · injection h with h1 h2 h3; simp; omega
theorem digsL_bad (base : Int) (al : Bool) : ∀ (r : List UInt8) (v : Int) (n m : Nat), digsL base al r v n = .bad m → n ≤ m ∧ m < n + r.length
  | [], v, n, m, h => by unfold digsL at h; cases h
  | c :: r, v, n, m, h => by
    unfold digsL at h
    split at h
    · split at h
      · injection h with h1; simp; omega
      · split at h
        · have := digsL_bad base al r _ _ m h
          simp; omega
        · injection h with h1; simp; omega
    · split at h
      · injection h with h1; simp; omega
      · cases h
theorem headP_pos {p : Int → Bool} {r : List UInt8} (h : headP p r = true) : 0 < r.length := by cases r with | nil => cases h | cons c r => simp
theorem headP_drop {p : Int → Bool} {r : List UInt8} {n : Nat} (h : headP p (r.drop n) = true) : n < r.length := by have := headP_pos h; rw [List.length_drop] at this; omega
theorem digI_hex {x : Int} (h : digI x = true) : 0 ≤ hexI x ∧ hexI x < 10 := by
  have h' := h
  unfold digI at h
  simp at h
  unfold hexI
  rw [if_pos h']
  omega
/-- A token has a byte and its kind is one of four. -/
theorem tokL_ok {r : List UInt8} {k : Nat} {v : Int} {n : Nat} (h : tokL r = .ok k v n) : 0 < n ∧ n ≤ r.length ∧ 1 ≤ k ∧ k ≤ 4 ∧ (k = 3 → 2 ≤ n) := by
  unfold tokL at h
  split at h
  · rename_i hl
    unfold wordL at h
    split at h
    · cases h
    · injection h with h1 h2 h3
      have := runL_le worI 32 r
      refine ⟨?_, by omega, by omega, by omega, by omega⟩
      rw [← h3]
      cases r with
      | nil => cases hl
      | cons c r =>
        have hw : worI c.toNat = true := by unfold worI; have : ltrI c.toNat = true := hl; rw [this]; rfl
        unfold runL
        rw [if_pos hw]
        omega
  · split at h
    · rename_i hl
      unfold numL at h
      split at h
      · rename_i h2
        split at h
        · have h3 := digsL_pos _ _ _ _ _ _ _ _ h
          rw [List.length_drop] at h3
          have := headP_drop h2.2
          omega
        · cases h
      · have h3 := digsL_pos _ _ _ _ _ _ _ _ h
        have h4 := headP_pos hl
        refine ⟨?_, by omega, by omega, by omega, by omega⟩
        cases r with
        | nil => cases hl
        | cons c r =>
          have hd : digI c.toNat = true := hl
          have := digI_hex hd
          unfold digsL at h
          rw [if_pos (by omega)] at h
          split at h
          · cases h
          · split at h
            · have := digsL_pos _ _ _ _ _ _ _ _ h
              omega
            · cases h
    · split at h
      · unfold quoL at h
        split at h
        · rename_i h2
          injection h with h1 _ h3
          have := headP_drop h2
          rw [List.length_drop] at this
          omega
        · cases h
      · split at h
        · rename_i h5
          unfold symL at h
          injection h with h1 _ h3
          have h4 := headP_pos h5
          subst h3
          refine ⟨by split <;> omega, ?_, by omega, by omega, by omega⟩
          split
          · rename_i h6
            unfold twoL at h6
            simp at h6
            rcases h6 with ⟨_, h6⟩ | ⟨_, h6⟩
            · rw [← List.drop_one] at h6; have := headP_drop h6; omega
            · rw [← List.drop_one] at h6; have := headP_drop h6; omega
          · omega
        · cases h
theorem tokL_bad {r : List UInt8} {n : Nat} (h : tokL r = .bad n) : n ≤ r.length := by
  unfold tokL at h
  split at h
  · unfold wordL at h
    split at h
    · injection h with h1; have := runL_le worI 32 r; omega
    · cases h
  · split at h
    · unfold numL at h
      split at h
      · rename_i h2
        have := headP_drop h2.2
        split at h
        · have h3 := digsL_bad _ _ _ _ _ _ h
          rw [List.length_drop] at h3
          omega
        · injection h with h1; omega
      · have h3 := digsL_bad _ _ _ _ _ _ h; omega
    · split at h
      · rename_i h2
        have := headP_pos h2
        unfold quoL at h
        split at h
        · cases h
        · injection h with h1; have := cntL_le quoI (r.drop 1); rw [List.length_drop] at this; omega
      · split at h
        · unfold symL at h; cases h
        · injection h with h1; omega
theorem skipL_le : ∀ (b : Bool) (r : List UInt8), skipL b r ≤ r.length
  | true, [] => by simp [skipL]
  | false, [] => by simp [skipL]
  | false, c :: r => by have h1 := skipL_le false r; have h2 := skipL_le true r; unfold skipL; split <;> (try split) <;> simp <;> omega
  | true, c :: r => by have h1 := skipL_le false r; have h2 := skipL_le true r; unfold skipL; split <;> simp <;> omega
/-- The tokens of a text from a place on, and the place of the first wrong byte. -/
def scanL (i : Nat) (r : List UInt8) : List Tk × Option Nat :=
  if hr : r.drop (skipL false r) = [] then ([], none)
  else match tokL (r.drop (skipL false r)) with
    | .bad n => ([], some (i + skipL false r + n))
    | .ok k v n => if hn : 0 < n then
        (⟨k, txtL k (r.drop (skipL false r)) n, v, i + skipL false r⟩ :: (scanL (i + skipL false r + n) ((r.drop (skipL false r)).drop n)).1, (scanL (i + skipL false r + n) ((r.drop (skipL false r)).drop n)).2)
      else ([], none)
termination_by r.length
decreasing_by
  all_goals
    have : 0 < (r.drop (skipL false r)).length := List.length_pos_iff.2 hr
    rw [List.length_drop] at this
    simp only [List.length_drop]
    omega
theorem scanL_fin {i : Nat} {r : List UInt8} (h : r.drop (skipL false r) = []) : scanL i r = ([], none) := by rw [scanL, dif_pos h]
theorem scanL_bad {i : Nat} {r : List UInt8} {n : Nat} (h : r.drop (skipL false r) ≠ []) (ht : tokL (r.drop (skipL false r)) = .bad n) : scanL i r = ([], some (i + skipL false r + n)) := by rw [scanL, dif_neg h, ht]
theorem scanL_tok {i : Nat} {r : List UInt8} {k : Nat} {v : Int} {n : Nat} (h : r.drop (skipL false r) ≠ []) (ht : tokL (r.drop (skipL false r)) = .ok k v n) :
    scanL i r = (⟨k, txtL k (r.drop (skipL false r)) n, v, i + skipL false r⟩ :: (scanL (i + skipL false r + n) ((r.drop (skipL false r)).drop n)).1, (scanL (i + skipL false r + n) ((r.drop (skipL false r)).drop n)).2) := by
  rw [scanL, dif_neg h, ht]
  simp only
  rw [dif_pos (tokL_ok ht).1]
/-- Line and column of a place. -/
def lcStep (p : Nat × Nat) (c : UInt8) : Nat × Nat := if c = 10 then (p.1 + 1, 1) else (p.1, p.2 + 1)
def lcOf (L : List UInt8) (i : Nat) : Nat × Nat := (L.take i).foldl lcStep (1, 1)
theorem lcOf_zero (L : List UInt8) : lcOf L 0 = (1, 1) := rfl
theorem lcOf_succ {L : List UInt8} {i : Nat} (h : i < L.length) : lcOf L (i + 1) = lcStep (lcOf L i) L[i] := by
  unfold lcOf
  rw [List.take_succ_eq_append_getElem h, List.foldl_append]
  rfl
theorem lc_bound (l : List UInt8) : ∀ (p : Nat × Nat), (l.foldl lcStep p).1 ≤ p.1 + l.length ∧ (l.foldl lcStep p).2 ≤ max p.2 1 + l.length ∧ p.1 ≤ (l.foldl lcStep p).1 := by
  induction l with
  | nil => intro p; simp; omega
  | cons c l ih =>
    intro p
    have := ih (lcStep p c)
    rw [List.foldl_cons, List.length_cons]
    unfold lcStep at this ⊢
    split at this <;> rename_i h <;> simp only [h, if_true, if_false] at this ⊢ <;> omega
theorem lcOf_le (L : List UInt8) (i : Nat) : (lcOf L i).1 ≤ 1 + L.length ∧ (lcOf L i).2 ≤ 1 + L.length ∧ 1 ≤ (lcOf L i).1 := by
  have := lc_bound (L.take i) (1, 1)
  have h2 : (L.take i).length ≤ L.length := by rw [List.length_take]; omega
  unfold lcOf
  omega
end Go.Proofs.YtkihoekldklkhaaDoor
