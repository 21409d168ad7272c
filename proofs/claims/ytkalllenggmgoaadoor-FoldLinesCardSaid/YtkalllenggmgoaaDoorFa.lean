/- The plain model of header blocks: bytes, lines, the scanner, the reference's scanner. -/
namespace Go.Proofs.YtkalllenggmgoaaDoor
set_option linter.unusedVariables false
set_option linter.unusedSimpArgs false

def inI (x lo hi : Int) : Bool := decide (lo ≤ x) && decide (x ≤ hi)
def namedI (x : Int) : Bool := inI x 65 90 || (inI x 97 122 || (inI x 48 57 || decide (x = 45)))
def visI (x : Int) : Bool := inI x 33 126
def blankI (x : Int) : Bool := decide (x = 32) || decide (x = 9)
def named (c : UInt8) : Bool := namedI c.toNat
def vis (c : UInt8) : Bool := visI c.toNat
def blank (c : UInt8) : Bool := blankI c.toNat
theorem named_iff (c : UInt8) : named c = true ↔ (65 ≤ c.toNat ∧ c.toNat ≤ 90) ∨ (97 ≤ c.toNat ∧ c.toNat ≤ 122) ∨ (48 ≤ c.toNat ∧ c.toNat ≤ 57) ∨ c.toNat = 45 := by
  unfold named namedI inI
  simp only [Bool.or_eq_true, Bool.and_eq_true, decide_eq_true_eq]
  omega
theorem vis_iff (c : UInt8) : vis c = true ↔ 33 ≤ c.toNat ∧ c.toNat ≤ 126 := by
  unfold vis visI inI
  simp only [Bool.or_eq_true, Bool.and_eq_true, decide_eq_true_eq]
  omega
theorem blank_iff (c : UInt8) : blank c = true ↔ c.toNat = 32 ∨ c.toNat = 9 := by
  unfold blank blankI
  simp only [Bool.or_eq_true, Bool.and_eq_true, decide_eq_true_eq]
  omega
theorem u8_iff (c d : UInt8) : c = d ↔ c.toNat = d.toNat := UInt8.toNat_inj.symm

/-- A header. -/
structure Hd where
  n : List UInt8
  t : List UInt8
deriving DecidableEq
def nameOk (n : List UInt8) : Bool := decide (1 ≤ n.length) && (decide (n.length ≤ 32) && n.all named)
def txtC (c : UInt8) : Bool := decide (c = 32) || vis c
def textOk (t : List UInt8) : Bool := t.all txtC && (t.isEmpty || (decide (t.head? ≠ some 32) && decide (t.getLast? ≠ some 32)))
def validH (h : Hd) : Bool := nameOk h.n && textOk h.t
def validL (l : List Hd) : Bool := decide (l.length ≤ 100) && l.all validH
def lineOf (h : Hd) : List UInt8 := h.n ++ (58 :: 32 :: (h.t ++ [13, 10]))
def writeL (l : List Hd) : List UInt8 := l.flatMap lineOf ++ [13, 10]

/-- A line in the making. -/
structure Ln where
  at_ : Nat
  name : List UInt8
  text : List UInt8
  gap : List UInt8
  opn : Bool
  spr : Bool
def Ln.hd (l : Ln) : Hd := ⟨l.name, l.text⟩
def Ln.eff (l : Ln) : List UInt8 := if l.spr then [32] else l.gap
def Ln.put (l : Ln) (c : UInt8) : Ln := { l with text := (if l.text.isEmpty then [] else l.text ++ l.eff) ++ [c], gap := [], spr := false }
def Ln.wait (l : Ln) (c : UInt8) : Ln := { l with gap := l.gap ++ [c], spr := l.spr || decide (c ≠ 32) }
def Ln.new (p : Nat) : Ln := ⟨p, [], [], [], false, false⟩
/-- The scanner. -/
structure Sc where
  ln : Ln
  loose : Bool
  place : Nat
  done : List Ln
def Sc.init (loose : Bool) : Sc := ⟨Ln.new 0, loose, 0, []⟩
def Sc.dn (s : Sc) : List Ln := if s.ln.opn then s.done ++ [s.ln] else s.done
def sBegin (s : Sc) (c : UInt8) : Nat × Sc :=
  if s.loose && (s.ln.opn && blank c) then (4, { s with ln := { s.ln.wait c with spr := true } })
  else if c = 13 then (7, { s with done := s.dn, ln := Ln.new s.place })
  else if named c && decide (s.dn.length < 100) then (1, { s with done := s.dn, ln := { Ln.new s.place with name := [c], opn := true } })
  else (9, { s with done := s.dn, ln := Ln.new s.place })
def sNaming (s : Sc) (c : UInt8) : Nat × Sc :=
  if c = 58 then (if s.loose then 4 else 2, s)
  else if named c && decide (s.ln.name.length < 32) then (1, { s with ln := { s.ln with name := s.ln.name ++ [c] } })
  else (9, s)
def sColon (s : Sc) (c : UInt8) : Nat × Sc := (if c = 32 then 3 else 9, s)
def sText (s : Sc) (c : UInt8) : Nat × Sc :=
  if vis c then (4, { s with ln := s.ln.put c })
  else if s.loose && blank c then (4, { s with ln := s.ln.wait c })
  else if c = 32 then (5, { s with ln := s.ln.wait c })
  else if c = 13 then (6, s)
  else (9, s)
def sFirst (s : Sc) (c : UInt8) : Nat × Sc := if c = 32 then (9, s) else sText s c
def sSpace (s : Sc) (c : UInt8) : Nat × Sc := if c = 13 then (9, s) else sText s c
def sTurn (s : Sc) (c : UInt8) : Nat × Sc := (if c = 10 then 0 else 9, s)
def sLast (s : Sc) (c : UInt8) : Nat × Sc := (if c = 10 then 8 else 9, s)
def stepF : Nat → Sc → UInt8 → Nat × Sc
  | 0, s, c => sBegin s c
  | 1, s, c => sNaming s c
  | 2, s, c => sColon s c
  | 3, s, c => sFirst s c
  | 4, s, c => sText s c
  | 5, s, c => sSpace s c
  | 6, s, c => sTurn s c
  | 7, s, c => sLast s c
  | _, s, _ => (9, s)
def Sc.to (s : Sc) (i : Nat) : Sc := { s with place := i }
def runF : Nat → Sc → Nat → List UInt8 → Nat × Sc
  | st, s, _, [] => (st, s)
  | st, s, i, c :: cs => if (stepF st (s.to i) c).1 = 8 ∨ (stepF st (s.to i) c).1 = 9 then stepF st (s.to i) c else runF (stepF st (s.to i) c).1 (stepF st (s.to i) c).2 (i + 1) cs
def needsF (st : Nat) (loose : Bool) : Nat := if loose then [2, 5, 0, 0, 4, 0, 3, 1].getD st 0 else [2, 6, 5, 4, 4, 5, 3, 1].getD st 0
/-- What scanning gives: end, need, at. -/
structure Scd where
  e : Int
  n : Int
  a : Int
deriving DecidableEq
def resF (r : Nat × Sc) : Scd := if r.1 = 8 then ⟨r.2.place + 1, 0, -1⟩ else if r.1 = 9 then ⟨-1, 0, r.2.place⟩ else ⟨-1, needsF r.1 r.2.loose, -1⟩
def scanF (l : List UInt8) (loose : Bool) : Nat × Sc := runF 0 (Sc.init loose) 0 l
def scanR (l : List UInt8) (loose : Bool) : Scd := resF (scanF l loose)

/-- The reference's scanner. -/
def nextR (st : Nat) (c : UInt8) (loose : Bool) (name lines : Nat) : Nat :=
  match st with
  | 0 => if loose && (decide (0 < lines) && blank c) then 4 else if c = 13 then 7 else if named c && decide (lines < 100) then 1 else 9
  | 1 => if c = 58 then (if loose then 4 else 2) else if named c && decide (name < 32) then 1 else 9
  | 2 => if c = 32 then 3 else 9
  | 3 => if vis c || (loose && blank c) then 4 else if c = 13 then 6 else 9
  | 4 => if vis c || (loose && blank c) then 4 else if c = 13 then 6 else if c = 32 then 5 else 9
  | 5 => if vis c || (loose && blank c) then 4 else if c = 32 then 5 else 9
  | 6 => if c = 10 then 0 else 9
  | 7 => if c = 10 then 8 else 9
  | _ => 9
def needsR (st : Nat) (loose : Bool) : Nat := if loose then [2, 5, 4, 4, 4, 4, 3, 1, 0, 0].getD st 0 else [2, 6, 5, 4, 4, 5, 3, 1, 0, 0].getD st 0
def nmR (was st name : Nat) : Nat := if st = 1 then (if was = 0 then 0 else name) + 1 else name
def lnR (was st lines : Nat) : Nat := if st = 1 ∧ was = 0 then lines + 1 else lines
def runR (loose : Bool) : Nat → Nat → Nat → Nat → List UInt8 → Scd
  | st, _, _, _, [] => ⟨-1, needsR st loose, -1⟩
  | st, nm, ln, i, c :: cs =>
    if nextR st c loose nm ln = 9 then ⟨-1, 0, i⟩
    else if nextR st c loose nm ln = 8 then ⟨(i : Int) + 1, 0, -1⟩
    else runR loose (nextR st c loose nm ln) (nmR st (nextR st c loose nm ln) nm) (lnR st (nextR st c loose nm ln) ln) (i + 1) cs

/-- The two scanners go together. -/
structure Sim (st : Nat) (s : Sc) (nm ln : Nat) : Prop where
  st7 : st ≤ 7
  lines : ln = s.dn.length
  name : st = 1 → nm = s.ln.name.length
  emp : st = 0 → s.ln.opn = false → s.done = []
  opn : 1 ≤ st → st ≤ 6 → s.ln.opn = true
  lo : s.loose = true → st ≠ 2 ∧ st ≠ 3 ∧ st ≠ 5
theorem done_le (s : Sc) : s.dn.length = s.done.length + (if s.ln.opn then 1 else 0) := by unfold Sc.dn; split <;> simp
theorem dn_opn {s t : Sc} (h : s.done = t.done) (ho : s.ln.opn = t.ln.opn) : s.dn.length = t.dn.length := by rw [done_le, done_le, h, ho]
theorem blank_ne13 {c : UInt8} (h : blank c = true) : c ≠ 13 := by rw [blank_iff] at h; rw [Ne, u8_iff]; intro e; rw [e] at h; revert h; decide
theorem vis_ne {c : UInt8} (h : vis c = true) : c ≠ 13 ∧ c ≠ 32 ∧ c ≠ 10 ∧ blank c = false := by
  have hb := h
  rw [vis_iff] at h
  refine ⟨?_, ?_, ?_, ?_⟩
  · rw [Ne, u8_iff]; intro e; rw [e] at h; revert h; decide
  · rw [Ne, u8_iff]; intro e; rw [e] at h; revert h; decide
  · rw [Ne, u8_iff]; intro e; rw [e] at h; revert h; decide
  · rcases Bool.eq_false_or_eq_true (blank c) with e | e
    · rw [blank_iff] at e; omega
    · exact e
def Nxt (st : Nat) (s : Sc) (i : Nat) (loose : Bool) (r : Nat × Sc) (nm ln k : Nat) : Prop :=
  r.1 = k ∧ r.2.place = i ∧ r.2.loose = loose ∧ (k ≠ 8 → k ≠ 9 → Sim k r.2 (nmR st k nm) (lnR st k ln))
theorem sText_next {st : Nat} {s : Sc} {nm ln : Nat} (h : Sim st s nm ln) (i : Nat) (c : UInt8) (h3 : 3 ≤ st) (h5 : st ≤ 5) (hx : st = 3 → c ≠ 32) (hy : st = 5 → c ≠ 13) :
    Nxt st s i s.loose (sText (s.to i) c) nm ln (nextR st c s.loose nm ln) := by
  have hop := h.opn (by omega) (by omega)
  have hlo := h.lo
  have hsim : ∀ (k : Nat) (l : Ln), l.opn = true → k = 4 ∨ k = 5 ∨ k = 6 → (s.loose = true → k ≠ 5) → Nxt st s i s.loose (k, { s.to i with ln := l }) nm ln k := fun k l hl hk hk5 =>
    ⟨rfl, rfl, rfl, fun _ _ => ⟨by omega, by
        unfold lnR
        rw [if_neg (by omega), h.lines]
        exact dn_opn rfl (by rw [hop, hl]), by omega, by omega, fun _ _ => hl, fun hh => ⟨by omega, by omega, hk5 hh⟩⟩⟩
  have hsim9 : Nxt st s i s.loose (9, s.to i) nm ln 9 := ⟨rfl, rfl, rfl, fun _ h => absurd rfl h⟩
  have hn : nextR st c s.loose nm ln = if vis c || (s.loose && blank c) then 4 else if c = 13 then 6 else if c = 32 then 5 else 9 := by
    rcases (by omega : st = 3 ∨ st = 4 ∨ st = 5) with e | e | e <;> subst e
    · have := hx rfl
      simp only [nextR, if_neg this]
    · rfl
    · have := hy rfl
      simp only [nextR, if_neg this]
  rw [hn]
  unfold sText
  cases hv : vis c with
  | true => simp only [if_true, Bool.true_or]; exact hsim 4 _ (by simpa [Ln.put, Sc.to] using hop) (by omega) (by omega)
  | false =>
    simp only [Bool.false_eq_true, if_false, Bool.false_or]
    have hl : (s.to i).loose = s.loose := rfl
    rw [hl]
    cases hb : (s.loose && blank c) with
    | true => simp only [if_true]; exact hsim 4 _ (by simpa [Ln.wait, Sc.to] using hop) (by omega) (by omega)
    | false =>
      simp only [Bool.false_eq_true, if_false]
      by_cases h32 : c = 32
      · rw [if_pos h32, if_neg (by rw [h32]; decide), if_pos h32]
        refine hsim 5 _ (by simpa [Ln.wait, Sc.to] using hop) (by omega) (fun hh => ?_)
        rw [hh, h32] at hb
        revert hb
        decide
      · rw [if_neg h32, if_neg h32]
        by_cases h13 : c = 13
        · rw [if_pos h13, if_pos h13]
          exact hsim 6 _ (by simpa [Sc.to] using hop) (by omega) (by omega)
        · rw [if_neg h13, if_neg h13]; exact hsim9
theorem stepF_next {st : Nat} {s : Sc} {nm ln : Nat} (h : Sim st s nm ln) (i : Nat) (c : UInt8) :
    Nxt st s i s.loose (stepF st (s.to i) c) nm ln (nextR st c s.loose nm ln) := by
  have h7 := h.st7
  have hl : (s.to i).loose = s.loose := rfl
  have h9 : ∀ t : Sc, t.place = i → t.loose = s.loose → Nxt st s i s.loose (9, t) nm ln 9 := fun t h1 h2 => ⟨rfl, h1, h2, fun _ h => absurd rfl h⟩
  rcases (by omega : st = 0 ∨ st = 1 ∨ st = 2 ∨ st = 3 ∨ st = 4 ∨ st = 5 ∨ st = 6 ∨ st = 7) with e | e | e | e | e | e | e | e <;> subst e
  · have hlin := h.lines
    have hdn : (s.to i).dn = s.dn := rfl
    have hop : (s.to i).ln.opn = s.ln.opn := rfl
    have hop2 : s.ln.opn = decide (0 < ln) := by
      rw [hlin, done_le]
      cases ho : s.ln.opn with
      | true => simp
      | false => simp [h.emp rfl ho]
    show Nxt 0 s i s.loose (sBegin (s.to i) c) nm ln _
    unfold sBegin
    rw [hl, hop, hdn, hop2]
    simp only [nextR]
    by_cases c1 : (s.loose && (decide (0 < ln) && blank c)) = true
    · rw [if_pos c1, if_pos c1]
      simp only [Bool.and_eq_true, decide_eq_true_eq] at c1
      have hos : s.ln.opn = true := by rw [hop2]; simp [c1.2.1]
      exact ⟨rfl, rfl, rfl, fun _ _ => ⟨by omega, by unfold lnR; rw [if_neg (by omega), hlin]; exact dn_opn rfl rfl, by omega, by omega, fun _ _ => hos, fun _ => by omega⟩⟩
    · rw [if_neg c1, if_neg c1]
      by_cases c2 : c = 13
      · rw [if_pos c2, if_pos c2]
        exact ⟨rfl, rfl, rfl, fun _ _ => ⟨by omega, by unfold lnR; rw [if_neg (by omega), hlin]; rfl, by omega, by omega, by omega, fun _ => by omega⟩⟩
      · rw [if_neg c2, if_neg c2, ← hlin]
        by_cases c3 : (named c && decide (ln < 100)) = true
        · rw [if_pos c3, if_pos c3]
          exact ⟨rfl, rfl, rfl, fun _ _ => ⟨by omega, by unfold lnR; rw [if_pos (by omega), hlin, done_le (Prod.snd _)]; rfl, by intro _; rfl, by omega, fun _ _ => rfl, fun _ => by omega⟩⟩
        · rw [if_neg c3, if_neg c3]; exact h9 _ rfl rfl
  · have hop := h.opn (by omega) (by omega)
    show Nxt 1 s i s.loose (sNaming (s.to i) c) nm ln _
    unfold sNaming
    simp only [nextR]
    rw [hl]
    by_cases c1 : c = 58
    · rw [if_pos c1, if_pos c1]
      cases hlo : s.loose with
      | true => exact ⟨rfl, rfl, hlo, fun _ _ => ⟨by simp, by unfold lnR; rw [if_neg (by simp), h.lines]; rfl, by simp, by simp, fun _ _ => hop, fun _ => by simp⟩⟩
      | false => exact ⟨rfl, rfl, hlo, fun _ _ => ⟨by simp, by unfold lnR; rw [if_neg (by simp), h.lines]; rfl, by simp, by simp, fun _ _ => hop, fun hh => by rw [show (s.to i).loose = s.loose from rfl, hlo] at hh; cases hh⟩⟩
    · rw [if_neg c1, if_neg c1, h.name rfl]
      have hnm : (s.to i).ln.name = s.ln.name := rfl
      rw [hnm]
      by_cases c2 : (named c && decide (s.ln.name.length < 32)) = true
      · rw [if_pos c2, if_pos c2]
        exact ⟨rfl, rfl, rfl, fun _ _ => ⟨by omega, by unfold lnR; rw [if_neg (by omega), h.lines]; exact dn_opn rfl rfl, fun _ => by unfold nmR; simp [hnm], by omega, fun _ _ => hop, fun _ => by omega⟩⟩
      · rw [if_neg c2, if_neg c2]; exact ⟨rfl, rfl, rfl, fun _ h => absurd rfl h⟩
  · have hop := h.opn (by omega) (by omega)
    show Nxt 2 s i s.loose (sColon (s.to i) c) nm ln _
    unfold sColon
    simp only [nextR]
    by_cases c1 : c = 32
    · rw [if_pos c1]
      exact ⟨rfl, rfl, rfl, fun _ _ => ⟨by omega, by unfold lnR; rw [if_neg (by omega), h.lines]; rfl, by omega, by omega, fun _ _ => hop, fun hh => absurd rfl (h.lo hh).1⟩⟩
    · rw [if_neg c1]; exact h9 _ rfl rfl
  · show Nxt 3 s i s.loose (sFirst (s.to i) c) nm ln _
    unfold sFirst
    by_cases c1 : c = 32
    · rw [if_pos c1]
      have hlo : s.loose = false := by
        cases hh : s.loose with
        | false => rfl
        | true => exact absurd rfl (h.lo hh).2.1
      have : nextR 3 c s.loose nm ln = 9 := by
        rw [c1, hlo]
        simp [nextR]
        decide
      rw [this]
      exact h9 _ rfl rfl
    · rw [if_neg c1]; exact sText_next h i c (by omega) (by omega) (fun _ => c1) (by omega)
  · show Nxt 4 s i s.loose (sText (s.to i) c) nm ln _
    exact sText_next h i c (by omega) (by omega) (by omega) (by omega)
  · show Nxt 5 s i s.loose (sSpace (s.to i) c) nm ln _
    unfold sSpace
    by_cases c1 : c = 13
    · rw [if_pos c1]
      have : nextR 5 c s.loose nm ln = 9 := by
        rw [c1]
        have : (vis 13 || (s.loose && blank 13)) = false := by
          have h1 : vis 13 = false := by decide
          have h2 : blank 13 = false := by decide
          rw [h1, h2]; simp
        simp [nextR, this]
      rw [this]
      exact h9 _ rfl rfl
    · rw [if_neg c1]; exact sText_next h i c (by omega) (by omega) (by omega) (fun _ => c1)
  · have hop := h.opn (by omega) (by omega)
    show Nxt 6 s i s.loose (sTurn (s.to i) c) nm ln _
    unfold sTurn
    simp only [nextR]
    by_cases c1 : c = 10
    · rw [if_pos c1]
      exact ⟨rfl, rfl, rfl, fun _ _ => ⟨by omega, by unfold lnR; rw [if_neg (by omega), h.lines]; rfl, by omega, fun _ hh => (by rw [show (s.to i).ln.opn = s.ln.opn from rfl, hop] at hh; cases hh), by omega, fun _ => by omega⟩⟩
    · rw [if_neg c1]; exact h9 _ rfl rfl
  · show Nxt 7 s i s.loose (sLast (s.to i) c) nm ln _
    unfold sLast
    simp only [nextR]
    by_cases c1 : c = 10
    · rw [if_pos c1]; exact ⟨rfl, rfl, rfl, fun h8 => absurd rfl h8⟩
    · rw [if_neg c1]; exact h9 _ rfl rfl
theorem runF_runR {st : Nat} {s : Sc} {nm ln : Nat} (h : Sim st s nm ln) (l : List UInt8) (i : Nat) : resF (runF st s i l) = runR s.loose st nm ln i l := by
  induction l generalizing st s nm ln i with
  | nil =>
    unfold runF runR resF
    have h1 := h.st7
    have h2 := h.lo
    rw [if_neg (by omega), if_neg (by omega)]
    have : needsF st s.loose = needsR st s.loose := by
      unfold needsF needsR
      cases hl : s.loose with
      | false =>
        simp only [Bool.false_eq_true, if_false]
        rcases (by omega : st = 0 ∨ st = 1 ∨ st = 2 ∨ st = 3 ∨ st = 4 ∨ st = 5 ∨ st = 6 ∨ st = 7) with e | e | e | e | e | e | e | e <;> subst e <;> rfl
      | true =>
        have := h2 hl
        simp only [if_true]
        rcases (by omega : st = 0 ∨ st = 1 ∨ st = 4 ∨ st = 6 ∨ st = 7) with e | e | e | e | e <;> subst e <;> rfl
    simp only [this]
  | cons c cs ih =>
    obtain ⟨h1, h2, h3, h4⟩ := stepF_next h i c
    rw [runF, runR]
    by_cases h9 : nextR st c s.loose nm ln = 9
    · rw [if_pos (Or.inr (h1.trans h9)), if_pos h9]
      unfold resF
      rw [if_neg (by omega), if_pos (h1.trans h9), h2]
    · rw [if_neg h9]
      by_cases h8 : nextR st c s.loose nm ln = 8
      · rw [if_pos (Or.inl (h1.trans h8)), if_pos h8]
        unfold resF
        rw [if_pos (h1.trans h8), h2]
      · rw [if_neg (by omega), if_neg h8, ← h3, h1]
        have := ih (h4 h8 h9) (i + 1)
        rw [h3] at this ⊢
        exact this
theorem scanR_ref (l : List UInt8) (loose : Bool) : scanR l loose = runR loose 0 0 0 0 l :=
  runF_runR (s := Sc.init loose) ⟨by omega, rfl, by omega, fun _ _ => rfl, by omega, fun _ => by omega⟩ l 0
end Go.Proofs.YtkalllenggmgoaaDoor
