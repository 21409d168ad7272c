/- What was scanned, line by line: the bytes are the lines' bytes; the lines are valid; strict lines are written as they were. -/
import Derived.Test.YtkalllenggmgoaaDoorFa
namespace Go.Proofs.YtkalllenggmgoaaDoor
set_option linter.unusedVariables false
set_option linter.unusedSimpArgs false

/-- The text of a line's raw bytes. -/
def txF (raw : List UInt8) : Ln := raw.foldl (fun l c => if vis c then l.put c else l.wait c) (Ln.new 0)
theorem txF_snoc (raw : List UInt8) (c : UInt8) : txF (raw ++ [c]) = if vis c then (txF raw).put c else (txF raw).wait c := by simp [txF, List.foldl_append]
/-- Two lines of the same text to come. -/
structure Rel (l m : Ln) : Prop where
  text : l.text = m.text
  spr : m.text ≠ [] → l.spr = m.spr
  gap : m.text ≠ [] → m.spr = false → l.gap = m.gap
theorem Rel.put {l m : Ln} (h : Rel l m) (c : UInt8) : Rel (l.put c) (m.put c) := by
  refine ⟨?_, fun _ => rfl, fun _ _ => rfl⟩
  unfold Ln.put
  simp only [h.text]
  cases hm : m.text with
  | nil => rfl
  | cons a t =>
    have hne : m.text ≠ [] := by rw [hm]; simp
    simp only [List.isEmpty_cons, Bool.false_eq_true, if_false]
    congr 2
    unfold Ln.eff
    rw [h.spr hne]
    cases hs : m.spr with
    | true => rfl
    | false => simp [h.gap hne hs]
theorem Rel.wait {l m : Ln} (h : Rel l m) (c : UInt8) : Rel (l.wait c) (m.wait c) := by
  refine ⟨h.text, fun hn => ?_, fun hn hs => ?_⟩
  · show (l.spr || _) = (m.spr || _); rw [h.spr hn]
  · show l.gap ++ [c] = m.gap ++ [c]
    have : (m.spr || decide (c ≠ 32)) = false := hs
    rw [Bool.or_eq_false_iff] at this
    rw [h.gap hn this.1]

structure Raw where
  name : List UInt8
  raw : List UInt8
def Raw.b (r : Raw) : List UInt8 := r.name ++ (58 :: (r.raw ++ [13, 10]))
def CrOk (loose : Bool) (raw : List UInt8) : Prop := ∀ j : Nat, raw[j]? = some (13 : UInt8) → loose = true ∧ ∃ c : UInt8, raw[j + 1]? = some (10 : UInt8) ∧ raw[j + 2]? = some c ∧ blank c = true
structure NmOk (n : List UInt8) : Prop where
  all : ∀ c ∈ n, named c = true
  one : 1 ≤ n.length
  few : n.length ≤ 32
structure TxtV (t : List UInt8) : Prop where
  all : ∀ c ∈ t, txtC c = true
  ends : t = [] ∨ (∃ a m, t = a :: m ∧ vis a = true) ∧ ∃ a m, t = m ++ [a] ∧ vis a = true
structure RawOk (loose : Bool) (r : Raw) : Prop where
  nm : NmOk r.name
  cr : CrOk loose r.raw
  tx : TxtV (txF r.raw).text
  strict : loose = false → r.raw = 32 :: (txF r.raw).text
def bytesOf (rs : List Raw) : List UInt8 := rs.flatMap Raw.b
def linesAt : Nat → List Raw → List (Nat × List UInt8 × List UInt8)
  | _, [] => []
  | k, r :: rs => (k, r.name, (txF r.raw).text) :: linesAt (k + r.b.length) rs
def Ln.key (l : Ln) : Nat × List UInt8 × List UInt8 := (l.at_, l.name, l.text)
theorem linesAt_snoc (rs : List Raw) (k : Nat) (r : Raw) : linesAt k (rs ++ [r]) = linesAt k rs ++ [(k + (bytesOf rs).length, r.name, (txF r.raw).text)] := by
  induction rs generalizing k with
  | nil => simp [linesAt, bytesOf]
  | cons q rs ih => simp [linesAt, ih, bytesOf, Nat.add_assoc]
theorem linesAt_length (rs : List Raw) (k : Nat) : (linesAt k rs).length = rs.length := by
  induction rs generalizing k with
  | nil => rfl
  | cons q rs ih => simp [linesAt, ih]

structure Fix (loose : Bool) (s : Sc) (rs : List Raw) : Prop where
  lo : s.loose = loose
  ok : ∀ r ∈ rs, RawOk loose r
  dn : s.done.map Ln.key = linesAt 0 rs
  cnt : s.dn.length ≤ 100
structure Cur (loose : Bool) (st : Nat) (s : Sc) (rs : List Raw) (raw : List UInt8) : Prop where
  opn : s.ln.opn = true
  at_ : s.ln.at_ = (bytesOf rs).length
  nm : NmOk s.ln.name
  cr : CrOk loose raw
  rel : Rel s.ln (txF raw)
  tx : TxtV s.ln.text
  gp : s.ln.spr = false → ∀ c ∈ s.ln.gap, c = 32
  s2 : st = 2 → s.ln.text = [] ∧ raw = []
  s3 : st = 3 → s.ln.text = []
  ne : (st = 4 ∨ st = 5) → loose = false → s.ln.text ≠ []
  strict : loose = false → s.ln.spr = false ∧ (st ≠ 2 → raw = 32 :: (s.ln.text ++ s.ln.gap)) ∧ (st ≠ 5 → s.ln.gap = [])
def tailOf (st : Nat) : List UInt8 := if st = 6 then [13] else if st = 0 then [13, 10] else []
inductive Inv (loose : Bool) : Nat → Sc → List UInt8 → Prop
  | start {s : Sc} (lo : s.loose = loose) (dn : s.done = []) (o : s.ln.opn = false) : Inv loose 0 s []
  | name {s : Sc} {rs : List Raw} (f : Fix loose s rs) (o : s.ln.opn = true) (a : s.ln.at_ = (bytesOf rs).length) (n : NmOk s.ln.name) (t : s.ln.text = [] ∧ s.ln.gap = [] ∧ s.ln.spr = false) : Inv loose 1 s (bytesOf rs ++ s.ln.name)
  | txt {st : Nat} {s : Sc} {rs : List Raw} {raw : List UInt8} (hst : st = 0 ∨ (2 ≤ st ∧ st ≤ 6)) (f : Fix loose s rs) (c : Cur loose st s rs raw) : Inv loose st s (bytesOf rs ++ (s.ln.name ++ (58 :: (raw ++ tailOf st))))
  | last {s : Sc} {rs : List Raw} (f : Fix loose s rs) (o : s.ln.opn = false) : Inv loose 7 s (bytesOf rs ++ [13])
  | fin {s : Sc} {rs : List Raw} (f : Fix loose s rs) (o : s.ln.opn = false) : Inv loose 8 s (bytesOf rs ++ [13, 10])

theorem CrOk.snoc {loose : Bool} {raw : List UInt8} (h : CrOk loose raw) {c : UInt8} (hc : c ≠ 13) : CrOk loose (raw ++ [c]) := by
  intro j hj
  by_cases hlt : j < raw.length
  · rw [List.getElem?_append_left hlt] at hj
    obtain ⟨h1, d, h2, h3, h4⟩ := h j hj
    have l3 : j + 2 < raw.length := (List.getElem?_eq_some_iff.1 h3).1
    exact ⟨h1, d, by rw [List.getElem?_append_left (by omega)]; exact h2, by rw [List.getElem?_append_left (by omega)]; exact h3, h4⟩
  · have hl : j < (raw ++ [c]).length := (List.getElem?_eq_some_iff.1 hj).1
    have : j = raw.length := by simp at hl; omega
    rw [this, List.getElem?_append_right (Nat.le_refl _)] at hj
    simp at hj
    exact absurd hj hc
theorem CrOk.fold {raw : List UInt8} (h : CrOk true raw) {c : UInt8} (hc : blank c = true) : CrOk true (raw ++ [13, 10, c]) := by
  intro j hj
  by_cases hlt : j < raw.length
  · rw [List.getElem?_append_left hlt] at hj
    obtain ⟨h1, d, h2, h3, h4⟩ := h j hj
    have l3 : j + 2 < raw.length := (List.getElem?_eq_some_iff.1 h3).1
    exact ⟨h1, d, by rw [List.getElem?_append_left (by omega)]; exact h2, by rw [List.getElem?_append_left (by omega)]; exact h3, h4⟩
  · have hl : j < (raw ++ [13, 10, c]).length := (List.getElem?_eq_some_iff.1 hj).1
    simp at hl
    have hb := blank_ne13 hc
    rcases (by omega : j = raw.length ∨ j = raw.length + 1 ∨ j = raw.length + 2) with e | e | e <;> subst e
    · refine ⟨rfl, c, ?_, ?_, hc⟩ <;> (rw [List.getElem?_append_right (by omega)]; simp [Nat.add_sub_cancel_left])
    · rw [List.getElem?_append_right (by omega)] at hj
      simp [Nat.add_sub_cancel_left] at hj
    · rw [List.getElem?_append_right (by omega)] at hj
      simp [Nat.add_sub_cancel_left] at hj
      exact absurd hj hb
theorem txtC_32 : txtC 32 = true := rfl
theorem txtC_vis {c : UInt8} (h : vis c = true) : txtC c = true := by unfold txtC; rw [h]; simp
theorem TxtV.put {l : Ln} (h : TxtV l.text) (hg : l.spr = false → ∀ c ∈ l.gap, c = 32) {c : UInt8} (hc : vis c = true) : TxtV (l.put c).text := by
  have hput : (l.put c).text = (if l.text.isEmpty then [] else l.text ++ l.eff) ++ [c] := rfl
  rw [hput]
  cases ht : l.text with
  | nil => exact ⟨fun d hd => by simp at hd; exact hd ▸ txtC_vis hc, .inr ⟨⟨c, [], rfl, hc⟩, c, [], rfl, hc⟩⟩
  | cons a t =>
    simp only [List.isEmpty_cons, Bool.false_eq_true, if_false]
    refine ⟨fun d hd => ?_, .inr ⟨?_, c, _, rfl, hc⟩⟩
    · rw [List.mem_append, List.mem_append] at hd
      rcases hd with (hd | hd) | hd
      · exact h.all d (by rw [ht]; exact hd)
      · unfold Ln.eff at hd
        cases hs : l.spr with
        | true => rw [hs] at hd; simp at hd; subst hd; rfl
        | false => rw [hs] at hd; simp at hd; rw [hg hs d hd]; rfl
      · simp at hd; exact hd ▸ txtC_vis hc
    · rcases h.ends with e | ⟨⟨x, m, e, hx⟩, _⟩
      · rw [ht] at e; cases e
      · rw [ht] at e
        cases e
        exact ⟨a, t ++ l.eff ++ [c], by simp, hx⟩
theorem wait_gp {l : Ln} (hg : l.spr = false → ∀ c ∈ l.gap, c = 32) (c : UInt8) : (l.wait c).spr = false → ∀ d ∈ (l.wait c).gap, d = 32 := fun h d hd => by
  have : (l.spr || decide (c ≠ 32)) = false := h
  rw [Bool.or_eq_false_iff] at this
  have hd2 : d ∈ l.gap ++ [c] := hd
  rw [List.mem_append] at hd2
  rcases hd2 with hd2 | hd2
  · exact hg this.1 d hd2
  · simp at hd2; subst hd2; simpa using this.2

theorem Fix.ln {loose : Bool} {s : Sc} {rs : List Raw} (h : Fix loose s rs) {l : Ln} (ho : l.opn = s.ln.opn) (p : Nat) : Fix loose { s with ln := l, place := p } rs :=
  ⟨h.lo, h.ok, h.dn, by have := h.cnt; rw [done_le] at this ⊢; simpa [ho] using this⟩
/-- A byte in a text. -/
theorem Inv.sText {loose : Bool} {st : Nat} {s : Sc} {rs : List Raw} {raw : List UInt8} (h3 : 3 ≤ st) (h5 : st ≤ 5) (f : Fix loose s rs) (h : Cur loose st s rs raw) (p : Nat) (c : UInt8) (hx : st = 3 → c ≠ 32) (hy : st = 5 → c ≠ 13) (h9 : (sText (s.to p) c).1 ≠ 9) :
    Inv loose (sText (s.to p) c).1 (sText (s.to p) c).2 (bytesOf rs ++ (s.ln.name ++ (58 :: raw)) ++ [c]) := by
  have hpre : ∀ t, bytesOf rs ++ (s.ln.name ++ (58 :: raw)) ++ t = bytesOf rs ++ (s.ln.name ++ (58 :: (raw ++ t))) := fun t => by simp [List.append_assoc]
  obtain rfl := f.lo
  unfold Go.Proofs.YtkalllenggmgoaaDoor.sText at h9 ⊢
  by_cases hv : vis c = true
  · rw [if_pos hv]
    have e : (bytesOf rs ++ (s.ln.name ++ (58 :: raw)) ++ [c]) = bytesOf rs ++ (s.ln.name ++ (58 :: ((raw ++ [c]) ++ tailOf 4))) := by rw [hpre]; simp [tailOf]
    rw [e]
    refine Inv.txt (loose := s.loose) (st := 4) (s := { s.to p with ln := (s.to p).ln.put c }) (.inr ⟨by omega, by omega⟩) (f.ln (l := s.ln.put c) rfl p) ⟨h.opn, h.at_, h.nm, h.cr.snoc (vis_ne hv).1, ?_, h.tx.put h.gp hv, ?_, by omega, by omega, ?_, fun hs => ?_⟩
    · have := h.rel.put c
      rw [txF_snoc, if_pos hv]
      exact this
    · intro _ d hd; cases hd
    · intro _ _; show (s.ln.put c).text ≠ []; unfold Ln.put; simp
    · obtain ⟨q1, q2, q3⟩ := h.strict hs
      refine ⟨rfl, fun _ => ?_, fun _ => rfl⟩
      show raw ++ [c] = 32 :: ((s.ln.put c).text ++ [])
      rw [q2 (by omega)]
      have : (s.ln.put c).text = (if s.ln.text.isEmpty then [] else s.ln.text ++ s.ln.eff) ++ [c] := rfl
      rw [this]
      have heff : s.ln.eff = s.ln.gap := by unfold Ln.eff; rw [q1]; simp
      rw [heff]
      cases ht : s.ln.text with
      | nil =>
        have : st = 3 := by
          rcases (by omega : st = 3 ∨ st = 4 ∨ st = 5) with e | e | e
          · exact e
          · exact absurd ht (h.ne (by omega) hs)
          · exact absurd ht (h.ne (by omega) hs)
        rw [q3 (by omega)]
        simp
      | cons a t => simp
  · rw [if_neg hv] at h9 ⊢
    by_cases hb : ((s.to p).loose && blank c) = true
    · rw [if_pos hb]
      rw [Bool.and_eq_true] at hb
      have e : (bytesOf rs ++ (s.ln.name ++ (58 :: raw)) ++ [c]) = bytesOf rs ++ (s.ln.name ++ (58 :: ((raw ++ [c]) ++ tailOf 4))) := by rw [hpre]; simp [tailOf]
      rw [e]
      refine Inv.txt (loose := s.loose) (st := 4) (s := { s.to p with ln := (s.to p).ln.wait c }) (.inr ⟨by omega, by omega⟩) (f.ln (l := s.ln.wait c) rfl p) ⟨h.opn, h.at_, h.nm, h.cr.snoc (blank_ne13 hb.2), ?_, h.tx, wait_gp h.gp c, by omega, by omega, fun _ hs => absurd (hb.1.symm.trans hs) (by decide), fun hs => absurd (hb.1.symm.trans hs) (by decide)⟩
      have := h.rel.wait c
      rw [txF_snoc, if_neg hv]
      exact this
    · rw [if_neg hb] at h9 ⊢
      by_cases h32 : c = 32
      · rw [if_pos h32]
        have e : (bytesOf rs ++ (s.ln.name ++ (58 :: raw)) ++ [c]) = bytesOf rs ++ (s.ln.name ++ (58 :: ((raw ++ [c]) ++ tailOf 5))) := by rw [hpre]; simp [tailOf]
        rw [e]
        refine Inv.txt (loose := s.loose) (st := 5) (s := { s.to p with ln := (s.to p).ln.wait c }) (.inr ⟨by omega, by omega⟩) (f.ln (l := s.ln.wait c) rfl p) ⟨h.opn, h.at_, h.nm, h.cr.snoc (c := c) (by rw [h32]; decide), ?_, h.tx, wait_gp h.gp c, by omega, by omega, fun _ hs => ?_, fun hs => ?_⟩
        · have := h.rel.wait c
          rw [txF_snoc, if_neg hv]
          exact this
        · have h3 : st ≠ 3 := fun e => hx e h32
          exact h.ne (by omega) hs
        · obtain ⟨q1, q2, q3⟩ := h.strict hs
          refine ⟨?_, fun _ => ?_, by omega⟩
          · show (s.ln.spr || decide (c ≠ 32)) = false
            rw [q1, h32]; rfl
          · show raw ++ [c] = 32 :: (s.ln.text ++ (s.ln.gap ++ [c]))
            rw [q2 (by omega)]; simp
      · rw [if_neg h32] at h9 ⊢
        by_cases h13 : c = 13
        · rw [if_pos h13]
          have e : (bytesOf rs ++ (s.ln.name ++ (58 :: raw)) ++ [c]) = bytesOf rs ++ (s.ln.name ++ (58 :: (raw ++ tailOf 6))) := by rw [hpre, h13]; simp [tailOf]
          rw [e]
          have h5' : st ≠ 5 := fun e => hy e h13
          exact Inv.txt (loose := s.loose) (st := 6) (s := s.to p) (.inr ⟨by omega, by omega⟩) (f.ln (l := s.ln) rfl p) ⟨h.opn, h.at_, h.nm, h.cr, h.rel, h.tx, h.gp, by omega, by omega, by omega, fun hs => ⟨(h.strict hs).1, fun _ => (h.strict hs).2.1 (by omega), fun _ => (h.strict hs).2.2 h5'⟩⟩
        · rw [if_neg h13] at h9; exact absurd rfl h9

theorem NmOk.one_ {c : UInt8} (h : named c = true) : NmOk [c] := ⟨fun d hd => by simp at hd; exact hd ▸ h, Nat.le_refl _, by simp⟩
/-- A line begins, or the last line end. -/
theorem Inv.push {loose : Bool} {s : Sc} {pre : List UInt8} (h : Inv loose 0 s pre) : ∃ rs : List Raw, pre = bytesOf rs ∧ (∀ r ∈ rs, RawOk loose r) ∧ s.dn.map Ln.key = linesAt 0 rs ∧ s.loose = loose ∧ s.dn.length ≤ 100 := by
  cases h with
  | start lo dn o => exact ⟨[], rfl, fun _ h => (by cases h), (by unfold Sc.dn; rw [o, dn]; rfl), lo, (by unfold Sc.dn; rw [o, dn]; simp)⟩
  | @txt st s rs raw hst f c =>
    refine ⟨rs ++ [⟨s.ln.name, raw⟩], ?_, ?_, ?_, f.lo, f.cnt⟩
    · simp [bytesOf, Raw.b, tailOf]
    · intro r hr
      rw [List.mem_append] at hr
      rcases hr with hr | hr
      · exact f.ok r hr
      · simp at hr
        subst hr
        refine ⟨c.nm, c.cr, by rw [← c.rel.text]; exact c.tx, fun hs => ?_⟩
        obtain ⟨q1, q2, q3⟩ := c.strict hs
        show raw = 32 :: (txF raw).text
        rw [← c.rel.text, q2 (by omega), q3 (by omega)]
        simp
    · unfold Sc.dn
      rw [if_pos c.opn, List.map_append, f.dn, linesAt_snoc]
      simp only [List.map_cons, List.map_nil, Ln.key, Nat.zero_add, c.at_, c.rel.text]
theorem Inv.step {loose : Bool} {st : Nat} {s : Sc} {pre : List UInt8} (h : Inv loose st s pre) (h8 : st ≠ 8) (c : UInt8) (h9 : (stepF st (s.to pre.length) c).1 ≠ 9) :
    Inv loose (stepF st (s.to pre.length) c).1 (stepF st (s.to pre.length) c).2 (pre ++ [c]) := by
  by_cases h0 : st = 0
  · subst h0
    have h9' : (sBegin (s.to pre.length) c).1 ≠ 9 := h9
    show Inv loose (sBegin (s.to pre.length) c).1 (sBegin (s.to pre.length) c).2 (pre ++ [c])
    obtain ⟨rs, h1, h2, h3, h4, h5⟩ := h.push
    unfold sBegin at h9' ⊢
    by_cases hb : ((s.to pre.length).loose && ((s.to pre.length).ln.opn && blank c)) = true
    · rw [if_pos hb]
      rw [Bool.and_eq_true, Bool.and_eq_true] at hb
      obtain ⟨b1, b2, b3⟩ := hb
      have hl : loose = true := h4.symm.trans b1
      subst hl
      cases h with
      | start lo dn o => exact absurd (b2.symm.trans o) (by decide)
      | @txt st s rs raw hst f c' =>
        have e : bytesOf rs ++ (s.ln.name ++ 58 :: (raw ++ tailOf 0)) ++ [c] = bytesOf rs ++ (s.ln.name ++ 58 :: ((raw ++ [13, 10, c]) ++ tailOf 4)) := by simp [tailOf]
        rw [e]
        refine Inv.txt (loose := true) (st := 4) (s := { (s.to _) with ln := { s.ln.wait c with spr := true } }) (.inr ⟨by omega, by omega⟩) (f.ln (l := { s.ln.wait c with spr := true }) rfl _) ⟨c'.opn, c'.at_, c'.nm, c'.cr.fold b3, ?_, c'.tx, fun hh => (by cases hh), by omega, by omega, fun _ hs => (by cases hs), fun hs => (by cases hs)⟩
        have hv10 : vis 10 = false := by decide
        have hv13 : vis 13 = false := by decide
        have hvc : vis c = false := by
          rcases Bool.eq_false_or_eq_true (vis c) with e | e
          · exact absurd ((vis_ne e).2.2.2.symm.trans b3) (by decide)
          · exact e
        have e2 : txF (raw ++ [13, 10, c]) = (((txF raw).wait 13).wait 10).wait c := by
          rw [show raw ++ [13, 10, c] = raw ++ [13] ++ [10] ++ [c] by simp, txF_snoc, txF_snoc, txF_snoc]
          simp [hv10, hv13, hvc]
        rw [e2]
        have hsp : ((((txF raw).wait 13).wait 10).wait c).spr = true := by
          show (((txF raw).spr || decide ((13 : UInt8) ≠ 32)) || _ || _) = true
          simp
        exact ⟨c'.rel.text, fun _ => hsp.symm, fun _ hh => by rw [hsp] at hh; cases hh⟩
    · rw [if_neg hb] at h9' ⊢
      have hdn : (s.to pre.length).dn = s.dn := rfl
      have hplace : (s.to pre.length).place = pre.length := rfl
      by_cases h13 : c = 13
      · rw [if_pos h13, h1, h13]
        exact Inv.last (s := ⟨_, _, _, _⟩) ⟨h4, h2, h3, h5⟩ rfl
      · rw [if_neg h13] at h9' ⊢
        by_cases hn : (named c && decide ((s.to pre.length).dn.length < 100)) = true
        · rw [if_pos hn]
          rw [Bool.and_eq_true, decide_eq_true_eq] at hn
          rw [h1]
          have hn2 : s.dn.length < 100 := hn.2
          exact Inv.name (loose := loose) (s := ⟨{ Ln.new (s.to (bytesOf rs).length).place with name := [c], opn := true }, s.loose, _, s.dn⟩) ⟨h4, h2, h3, by rw [done_le]; simp; omega⟩ rfl rfl (NmOk.one_ hn.1) ⟨rfl, rfl, rfl⟩
        · rw [if_neg hn] at h9'; exact absurd rfl h9'
  · cases h with
    | start lo dn o => exact absurd rfl h0
    | fin f o => exact absurd rfl h8
    | @last s rs f o =>
      have h9' : (sLast (s.to (bytesOf rs ++ [13]).length) c).1 ≠ 9 := h9
      show Inv loose (sLast (s.to _) c).1 (sLast (s.to _) c).2 _
      unfold sLast at h9' ⊢
      by_cases h10 : c = 10
      · rw [if_pos h10, h10]
        have e : bytesOf rs ++ [13] ++ [10] = bytesOf rs ++ [13, 10] := by simp
        rw [e]
        exact Inv.fin (s := s.to _) (f.ln (l := s.ln) rfl _) o
      · rw [if_neg h10] at h9'; exact absurd rfl h9'
    | @name s rs f o a n t =>
      have h9' : (sNaming (s.to (bytesOf rs ++ s.ln.name).length) c).1 ≠ 9 := h9
      show Inv loose (sNaming (s.to _) c).1 (sNaming (s.to _) c).2 _
      unfold sNaming at h9' ⊢
      by_cases h58 : c = 58
      · rw [if_pos h58, h58]
        obtain rfl := f.lo
        have hcur : ∀ st, (st = 4 ∧ s.loose = true) ∨ (st = 2 ∧ s.loose = false) → Cur s.loose st (s.to (bytesOf rs ++ s.ln.name).length) rs [] := fun st hst =>
          ⟨o, a, n, fun j hj => by simp at hj, ⟨t.1, fun hh => absurd rfl hh, fun hh => absurd rfl hh⟩, (by show TxtV s.ln.text; rw [t.1]; exact ⟨fun _ h => (by cases h), .inl rfl⟩), fun _ d hd => (by have hd : d ∈ s.ln.gap := hd; rw [t.2.1] at hd; cases hd), fun _ => ⟨t.1, rfl⟩, by omega, fun h1 h2 => (by have h2 : s.loose = false := h2; rcases hst with ⟨_, e⟩ | ⟨e, _⟩; { rw [h2] at e; cases e }; { omega }), fun h2 => ⟨t.2.2, fun h3 => (by have h2 : s.loose = false := h2; rcases hst with ⟨_, e⟩ | ⟨e, _⟩; { rw [h2] at e; cases e }; { exact absurd e h3 }), fun _ => t.2.1⟩⟩
        cases hl : s.loose with
        | true =>
          have e : bytesOf rs ++ s.ln.name ++ [58] = bytesOf rs ++ (s.ln.name ++ (58 :: ([] ++ tailOf 4))) := by simp [tailOf]
          have hl2 : (s.to (bytesOf rs ++ s.ln.name).length).loose = true := hl
          rw [e, if_pos hl2]
          have := hcur 4 (.inl ⟨rfl, hl⟩)
          rw [hl] at this f
          exact Inv.txt (loose := true) (st := 4) (s := s.to _) (.inr ⟨by omega, by omega⟩) (f.ln (l := s.ln) rfl _) this
        | false =>
          have e : bytesOf rs ++ s.ln.name ++ [58] = bytesOf rs ++ (s.ln.name ++ (58 :: ([] ++ tailOf 2))) := by simp [tailOf]
          have hl2 : ¬ (s.to (bytesOf rs ++ s.ln.name).length).loose = true := by show ¬ s.loose = true; rw [hl]; decide
          rw [e, if_neg hl2]
          have := hcur 2 (.inr ⟨rfl, hl⟩)
          rw [hl] at this f
          exact Inv.txt (loose := false) (st := 2) (s := s.to _) (.inr ⟨by omega, by omega⟩) (f.ln (l := s.ln) rfl _) this
      · rw [if_neg h58] at h9' ⊢
        by_cases hn : (named c && decide ((s.to (bytesOf rs ++ s.ln.name).length).ln.name.length < 32)) = true
        · rw [if_pos hn]
          rw [Bool.and_eq_true, decide_eq_true_eq] at hn
          have hn2 : s.ln.name.length < 32 := hn.2
          rw [List.append_assoc]
          exact Inv.name (loose := loose) (s := { s.to _ with ln := { s.ln with name := s.ln.name ++ [c] } }) (f.ln (l := { s.ln with name := s.ln.name ++ [c] }) rfl _) o a ⟨fun d hd => by rw [List.mem_append] at hd; rcases hd with hd | hd; { exact n.all d hd }; { simp at hd; exact hd ▸ hn.1 }, by simp, by simp; omega⟩ t
        · rw [if_neg hn] at h9'; exact absurd rfl h9'
    | @txt st s rs raw hst f c' =>
      rcases (by omega : st = 2 ∨ (3 ≤ st ∧ st ≤ 5) ∨ st = 6) with e | e | e
      · subst e
        have h9' : (sColon (s.to (bytesOf rs ++ (s.ln.name ++ 58 :: (raw ++ tailOf 2))).length) c).1 ≠ 9 := h9
        show Inv loose (sColon (s.to _) c).1 (sColon (s.to _) c).2 _
        unfold sColon at h9' ⊢
        by_cases h32 : c = 32
        · rw [if_pos h32, h32]
          have e : bytesOf rs ++ (s.ln.name ++ 58 :: (raw ++ tailOf 2)) ++ [32] = bytesOf rs ++ (s.ln.name ++ 58 :: ((raw ++ [32]) ++ tailOf 3)) := by simp [tailOf]
          rw [e]
          obtain ⟨t1, t2⟩ := c'.s2 rfl
          have hm : (txF (raw ++ [32])).text = [] := by
            rw [txF_snoc]
            have : vis 32 = false := by decide
            rw [this]
            show (txF raw).text = []
            rw [← c'.rel.text, t1]
          refine Inv.txt (loose := loose) (st := 3) (s := s.to _) (.inr ⟨by omega, by omega⟩) (f.ln (l := s.ln) rfl _) ⟨c'.opn, c'.at_, c'.nm, c'.cr.snoc (by decide), ⟨t1.trans hm.symm, fun hh => absurd hm hh, fun hh => absurd hm hh⟩, c'.tx, c'.gp, by omega, fun _ => t1, by omega, fun hs => ?_⟩
          obtain ⟨q1, q2, q3⟩ := c'.strict hs
          have q4 := q3 (by omega)
          refine ⟨q1, fun _ => ?_, fun _ => q4⟩
          show raw ++ [32] = 32 :: (s.ln.text ++ s.ln.gap)
          rw [t1, t2, q4]; rfl
        · rw [if_neg h32] at h9'; exact absurd rfl h9'
      · have e0 : bytesOf rs ++ (s.ln.name ++ 58 :: (raw ++ tailOf st)) = bytesOf rs ++ (s.ln.name ++ 58 :: raw) := by
          have : tailOf st = [] := by unfold tailOf; rw [if_neg (by omega), if_neg (by omega)]
          rw [this, List.append_nil]
        rw [e0] at h9 ⊢
        rcases (by omega : st = 3 ∨ st = 4 ∨ st = 5) with e | e | e <;> subst e
        · have h9' : (sFirst (s.to (bytesOf rs ++ (s.ln.name ++ 58 :: raw)).length) c).1 ≠ 9 := h9
          show Inv loose (sFirst (s.to _) c).1 (sFirst (s.to _) c).2 _
          unfold sFirst at h9' ⊢
          by_cases h32 : c = 32
          · rw [if_pos h32] at h9'; exact absurd rfl h9'
          · rw [if_neg h32] at h9' ⊢
            exact Inv.sText (by omega) (by omega) f c' _ c (fun _ => h32) (by omega) h9'
        · exact Inv.sText (by omega) (by omega) f c' _ c (by omega) (by omega) h9
        · have h9' : (sSpace (s.to (bytesOf rs ++ (s.ln.name ++ 58 :: raw)).length) c).1 ≠ 9 := h9
          show Inv loose (sSpace (s.to _) c).1 (sSpace (s.to _) c).2 _
          unfold sSpace at h9' ⊢
          by_cases h13 : c = 13
          · rw [if_pos h13] at h9'; exact absurd rfl h9'
          · rw [if_neg h13] at h9' ⊢
            exact Inv.sText (by omega) (by omega) f c' _ c (by omega) (fun _ => h13) h9'
      · subst e
        have h9' : (sTurn (s.to (bytesOf rs ++ (s.ln.name ++ 58 :: (raw ++ tailOf 6))).length) c).1 ≠ 9 := h9
        show Inv loose (sTurn (s.to _) c).1 (sTurn (s.to _) c).2 _
        unfold sTurn at h9' ⊢
        by_cases h10 : c = 10
        · rw [if_pos h10, h10]
          have e : bytesOf rs ++ (s.ln.name ++ 58 :: (raw ++ tailOf 6)) ++ [10] = bytesOf rs ++ (s.ln.name ++ 58 :: (raw ++ tailOf 0)) := by simp [tailOf]
          rw [e]
          exact Inv.txt (loose := loose) (st := 0) (s := s.to _) (.inl rfl) (f.ln (l := s.ln) rfl _) ⟨c'.opn, c'.at_, c'.nm, c'.cr, c'.rel, c'.tx, c'.gp, by omega, by omega, by omega, fun hs => ⟨(c'.strict hs).1, fun _ => (c'.strict hs).2.1 (by omega), fun _ => (c'.strict hs).2.2 (by omega)⟩⟩
        · rw [if_neg h10] at h9'; exact absurd rfl h9'
theorem stepF_place {st : Nat} {s : Sc} {c : UInt8} : (stepF st s c).2.place = s.place := by
  unfold stepF
  split
  · unfold sBegin; split <;> (try split) <;> (try split) <;> rfl
  · unfold sNaming; split <;> (try split) <;> rfl
  · rfl
  · unfold sFirst sText; split <;> (try split) <;> (try split) <;> (try split) <;> (try split) <;> rfl
  · unfold sText; split <;> (try split) <;> (try split) <;> (try split) <;> rfl
  · unfold sSpace sText; split <;> (try split) <;> (try split) <;> (try split) <;> (try split) <;> rfl
  · rfl
  · rfl
  · rfl
theorem Inv.run {loose : Bool} {st : Nat} {s : Sc} {pre : List UInt8} (h : Inv loose st s pre) (h8 : st ≠ 8) (l : List UInt8) (h9 : (runF st s pre.length l).1 ≠ 9) :
    ∃ k, k ≤ l.length ∧ Inv loose (runF st s pre.length l).1 (runF st s pre.length l).2 (pre ++ l.take k) ∧ ((runF st s pre.length l).1 = 8 → (runF st s pre.length l).2.place + 1 = pre.length + k) ∧ ((runF st s pre.length l).1 ≠ 8 → k = l.length) := by
  induction l generalizing st s pre with
  | nil => exact ⟨0, Nat.le_refl _, by simpa [runF] using h, fun hh => absurd hh h8, fun _ => rfl⟩
  | cons c cs ih =>
    rw [runF] at h9 ⊢
    by_cases hd : (stepF st (s.to pre.length) c).1 = 8 ∨ (stepF st (s.to pre.length) c).1 = 9
    · rw [if_pos hd] at h9 ⊢
      rcases hd with hd | hd
      · refine ⟨1, by simp, by simpa using h.step h8 c h9, fun _ => by rw [stepF_place]; rfl, fun hh => absurd hd hh⟩
      · exact absurd hd h9
    · rw [if_neg hd] at h9 ⊢
      have h1 := h.step h8 c (fun e => hd (.inr e))
      have hl : (pre ++ [c]).length = pre.length + 1 := by simp
      have := ih h1 (fun e => hd (.inl e)) (by rw [hl]; exact h9)
      rw [hl] at this
      obtain ⟨k, k1, k2, k3, k4⟩ := this
      exact ⟨k + 1, by simp; omega, by simpa using k2, fun hh => by have := k3 hh; omega, fun hh => by have := k4 hh; simp; omega⟩
/-- What a block is. -/
structure Blok (loose : Bool) (l : List UInt8) (e : Nat) (rs : List Raw) (d : List Ln) : Prop where
  le : e ≤ l.length
  bytes : l.take e = bytesOf rs ++ [13, 10]
  ok : ∀ r ∈ rs, RawOk loose r
  lines : d.map Ln.key = linesAt 0 rs
  few : rs.length ≤ 100
theorem scanF_blok (l : List UInt8) (loose : Bool) (h : (scanF l loose).1 = 8) : ∃ rs, Blok loose l ((scanF l loose).2.place + 1) rs (scanF l loose).2.done := by
  have h0 : Inv loose 0 (Sc.init loose) [] := Inv.start rfl rfl rfl
  obtain ⟨k, k1, k2, k3, k4⟩ := h0.run (by omega) l (by show (scanF l loose).1 ≠ 9; omega)
  have k5 := k3 h
  have k6 : (scanF l loose).2.place + 1 = k := by simpa [scanF] using k5
  have k7 : Inv loose (scanF l loose).1 (scanF l loose).2 (l.take k) := by simpa [scanF] using k2
  rw [h] at k7
  rw [k6]
  generalize hp : l.take k = p at k7
  generalize (scanF l loose).2 = s at k7
  cases k7 with
  | txt hst f c => omega
  | @fin s rs f o => exact ⟨rs, k1, hp, f.ok, f.dn, by have := f.cnt; rw [done_le, o] at this; have h2 := congrArg List.length f.dn; rw [linesAt_length] at h2; simp at h2 this; omega⟩
end Go.Proofs.YtkalllenggmgoaaDoor
