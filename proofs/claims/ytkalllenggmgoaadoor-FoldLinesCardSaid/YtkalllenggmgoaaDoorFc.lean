/- What was written is scanned; reading and writing; how many bytes a beginning needs. -/
import Derived.Test.YtkalllenggmgoaaDoorFb
namespace Go.Proofs.YtkalllenggmgoaaDoor
set_option linter.unusedVariables false
set_option linter.unusedSimpArgs false

theorem run_cons {st st' : Nat} {s s' : Sc} {i : Nat} {c : UInt8} {cs : List UInt8} (h : stepF st (s.to i) c = (st', s')) (h8 : st' ≠ 8) (h9 : st' ≠ 9) : runF st s i (c :: cs) = runF st' s' (i + 1) cs := by
  rw [runF, h, if_neg (by simp [h8, h9])]
theorem run_stop {st st' : Nat} {s s' : Sc} {i : Nat} {c : UInt8} {cs : List UInt8} (h : stepF st (s.to i) c = (st', s')) (h8 : st' = 8 ∨ st' = 9) : runF st s i (c :: cs) = (st', s') := by
  rw [runF, h, if_pos h8]
theorem named_ne {c : UInt8} (h : named c = true) : c ≠ 13 ∧ c ≠ 58 ∧ blank c = false := by
  rw [named_iff] at h
  refine ⟨?_, ?_, ?_⟩
  · rw [Ne, u8_iff]; intro e; rw [e] at h; revert h; decide
  · rw [Ne, u8_iff]; intro e; rw [e] at h; revert h; decide
  · rcases Bool.eq_false_or_eq_true (blank c) with e | e
    · rw [blank_iff] at e; omega
    · exact e
/-- What a stretch leaves. -/
structure Left (s s' : Sc) (n t : List UInt8) : Prop where
  loose : s'.loose = s.loose
  done : s'.done = s.done
  opn : s'.ln.opn = true
  name : s'.ln.name = n
  text : s'.ln.text = t
  spr : s'.ln.spr = false
theorem run_name (n : List UInt8) : ∀ (s : Sc) (i : Nat) (rest : List UInt8), s.ln.opn = true → s.ln.spr = false → (∀ c ∈ n, named c = true) → s.ln.name.length + n.length ≤ 32 →
    ∃ s', runF 1 s i (n ++ rest) = runF 1 s' (i + n.length) rest ∧ Left s s' (s.ln.name ++ n) s.ln.text ∧ s'.ln.gap = s.ln.gap := by
  induction n with
  | nil => intro s i rest ho hs _ _; exact ⟨s, by simp, ⟨rfl, rfl, ho, by simp, rfl, hs⟩, rfl⟩
  | cons c n ih =>
    intro s i rest ho hs hc hl
    have h1 := hc c (by simp)
    simp only [List.length_cons] at hl
    have hst : stepF 1 (s.to i) c = (1, { s.to i with ln := { s.ln with name := s.ln.name ++ [c] } }) := by
      show sNaming (s.to i) c = _
      unfold sNaming
      have hx : (named c && decide ((s.to i).ln.name.length < 32)) = true := by
        have : (s.to i).ln.name.length < 32 := by show s.ln.name.length < 32; omega
        rw [h1]; simp [this]
      rw [if_neg (named_ne h1).2.1, if_pos hx]
      rfl
    rw [List.cons_append, run_cons hst (by omega) (by omega)]
    obtain ⟨s', e1, e2, e3⟩ := ih { s.to i with ln := { s.ln with name := s.ln.name ++ [c] } } (i + 1) rest ho hs (fun d hd => hc d (by simp [hd])) (by show (s.ln.name ++ [c]).length + n.length ≤ 32; simp; omega)
    exact ⟨s', by rw [e1]; congr 1; simp; omega, ⟨e2.loose, e2.done, e2.opn, by rw [e2.name]; simp, e2.text, e2.spr⟩, e3⟩
theorem run_text (m : List UInt8) : ∀ (st : Nat) (s : Sc) (i : Nat) (rest : List UInt8), st = 4 ∨ (st = 5 ∧ s.loose = false) → s.ln.opn = true → s.ln.spr = false → s.ln.text ≠ [] → (∀ c ∈ m, txtC c = true) → (m = [] → s.ln.gap = [] ∧ st = 4) → (∀ c, m.getLast? = some c → vis c = true) →
    ∃ s', runF st s i (m ++ rest) = runF 4 s' (i + m.length) rest ∧ Left s s' s.ln.name (s.ln.text ++ s.ln.gap ++ m) := by
  induction m with
  | nil =>
    intro st s i rest hst ho hs ht hc he hv
    obtain ⟨e1, e2⟩ := he rfl
    subst e2
    exact ⟨s, by simp, ⟨rfl, rfl, ho, rfl, by simp [e1], hs⟩⟩
  | cons c m ih =>
    intro st s i rest hst ho hs ht hc he hv
    have h1 := hc c (by simp)
    rw [List.cons_append]
    by_cases hvc : vis c = true
    · have hstep : stepF st (s.to i) c = (4, { s.to i with ln := s.ln.put c }) := by
        rcases hst with e | ⟨e, hl⟩ <;> subst e
        · show sText (s.to i) c = _; unfold sText; rw [if_pos hvc]; rfl
        · show sSpace (s.to i) c = _; unfold sSpace sText; rw [if_neg (vis_ne hvc).1, if_pos hvc]; rfl
      rw [run_cons hstep (by omega) (by omega)]
      have hput : (s.ln.put c).text = s.ln.text ++ s.ln.gap ++ [c] := by
        have : (s.ln.put c).text = (if s.ln.text.isEmpty then [] else s.ln.text ++ s.ln.eff) ++ [c] := rfl
        rw [this]
        have hne : s.ln.text.isEmpty = false := by cases h : s.ln.text with
          | nil => exact absurd h ht
          | cons => rfl
        rw [hne]
        unfold Ln.eff
        rw [hs]
        simp
      obtain ⟨s', e1, e2⟩ := ih 4 { s.to i with ln := s.ln.put c } (i + 1) rest (.inl rfl) ho rfl (by show (s.ln.put c).text ≠ []; rw [hput]; simp) (fun d hd => hc d (by simp [hd])) (fun _ => ⟨rfl, rfl⟩) (fun d hd => hv d (by
        cases m with
        | nil => simp at hd
        | cons a m => simpa using hd))
      refine ⟨s', by rw [e1]; congr 1; simp; omega, ⟨e2.loose, e2.done, e2.opn, e2.name, ?_, e2.spr⟩⟩
      rw [e2.text]
      show (s.ln.put c).text ++ [] ++ m = _
      rw [hput]
      simp
    · have h32 : c = 32 := by
        unfold txtC at h1
        rw [Bool.or_eq_true] at h1
        rcases h1 with h1 | h1
        · simpa using h1
        · exact absurd h1 hvc
      subst h32
      have hm : m ≠ [] := fun e => by
        subst e
        exact absurd (hv 32 rfl) hvc
      have hstep : stepF st (s.to i) 32 = ((if s.loose then 4 else 5), { s.to i with ln := s.ln.wait 32 }) := by
        rcases hst with e | ⟨e, hl⟩ <;> subst e
        · show sText (s.to i) 32 = _
          unfold sText
          rw [if_neg hvc]
          by_cases hq : s.loose = true
          · rw [if_pos (by show (s.loose && blank 32) = true; rw [hq]; rfl), if_pos hq]; rfl
          · rw [if_neg (by show ¬ (s.loose && blank 32) = true; simp [hq]), if_pos rfl, if_neg hq]; rfl
        · show sSpace (s.to i) 32 = _
          unfold sSpace sText
          rw [if_neg (by decide), if_neg hvc]
          rw [if_neg (by show ¬ (s.loose && blank 32) = true; simp [hl]), if_pos rfl, if_neg (by simp [hl])]; rfl
      rw [run_cons hstep (by split <;> omega) (by split <;> omega)]
      obtain ⟨s', e1, e2⟩ := ih (if s.loose then 4 else 5) { s.to i with ln := s.ln.wait 32 } (i + 1) rest (by cases h : s.loose with
        | true => left; rfl
        | false => right; exact ⟨rfl, h⟩) ho (by show (s.ln.spr || decide ((32 : UInt8) ≠ 32)) = false; rw [hs]; rfl) ht (fun d hd => hc d (by simp [hd])) (fun e => absurd e hm) (fun d hd => hv d (by
        cases m with
        | nil => simp at hd
        | cons a m => simpa using hd))
      refine ⟨s', by rw [e1]; congr 1; simp; omega, ⟨e2.loose, e2.done, e2.opn, e2.name, ?_, e2.spr⟩⟩
      rw [e2.text]
      show s.ln.text ++ (s.ln.gap ++ [32]) ++ m = _
      simp
structure HdOk (h : Hd) : Prop where
  nm : NmOk h.n
  tx : TxtV h.t
theorem run_line (h : Hd) (hh : HdOk h) (s : Sc) (i : Nat) (rest : List UInt8) (hd : s.dn.length < 100) (ho : s.ln.opn = false → s.done = []) :
    ∃ s', runF 0 s i (lineOf h ++ rest) = runF 0 s' (i + (lineOf h).length) rest ∧ s'.loose = s.loose ∧ s'.ln.opn = true ∧ s'.done = s.dn ∧ s'.ln.hd = h := by
  obtain ⟨n, t⟩ := h
  obtain ⟨hn, ht⟩ := hh
  simp only at hn ht
  unfold lineOf
  simp only
  cases n with
  | nil => exact absurd hn.one (by simp)
  | cons a n =>
    have ha := hn.all a (by simp)
    obtain ⟨na1, na2, na3⟩ := named_ne ha
    have hs1 : stepF 0 (s.to i) a = (1, { s.to i with done := s.dn, ln := { Ln.new i with name := [a], opn := true } }) := by
      show sBegin (s.to i) a = _
      unfold sBegin
      rw [if_neg (by rw [na3]; simp), if_neg na1, if_pos (by rw [ha]; simp; exact hd)]
      rfl
    have hfew := hn.few
    simp only [List.length_cons] at hfew
    obtain ⟨s1, e1, l1, g1⟩ := run_name n { s.to i with done := s.dn, ln := { Ln.new i with name := [a], opn := true } } (i + 1) (58 :: 32 :: (t ++ [13, 10]) ++ rest) rfl rfl (fun c hc => hn.all c (by simp [hc])) (by simp; omega)
    have g1 : s1.ln.gap = [] := g1
    have t1 : s1.ln.text = [] := l1.text
    have lo1 : s1.loose = s.loose := l1.loose
    -- colon, space
    have hmid : ∃ s2 st2, runF 1 s1 (i + 1 + n.length) (58 :: 32 :: (t ++ [13, 10]) ++ rest) = runF st2 s2 (i + 1 + n.length + 1 + 1) ((t ++ [13, 10]) ++ rest) ∧ s2.loose = s.loose ∧ s2.done = s.dn ∧ s2.ln.opn = true ∧ s2.ln.name = a :: n ∧ s2.ln.text = [] ∧ s2.ln.spr = false ∧ (st2 = 4 ∨ st2 = 3) := by
      rw [List.cons_append, List.cons_append]
      cases hl : s.loose with
      | true =>
        have q1 : stepF 1 (s1.to (i + 1 + n.length)) 58 = (4, s1.to (i + 1 + n.length)) := by
          show sNaming _ 58 = _; unfold sNaming; rw [if_pos rfl, if_pos (by show s1.loose = true; rw [lo1, hl])]
        rw [run_cons q1 (by omega) (by omega)]
        have q2 : stepF 4 ((s1.to (i + 1 + n.length)).to (i + 1 + n.length + 1)) 32 = (4, { s1.to (i + 1 + n.length + 1) with ln := s1.ln.wait 32 }) := by
          show sText _ 32 = _
          unfold sText
          rw [if_neg (by decide), if_pos (by show (s1.loose && blank 32) = true; rw [lo1, hl]; rfl)]
          rfl
        rw [run_cons q2 (by omega) (by omega)]
        exact ⟨_, 4, rfl, lo1.trans hl, l1.done, l1.opn, l1.name, t1, by show (s1.ln.spr || decide ((32 : UInt8) ≠ 32)) = false; rw [l1.spr]; rfl, .inl rfl⟩
      | false =>
        have q1 : stepF 1 (s1.to (i + 1 + n.length)) 58 = (2, s1.to (i + 1 + n.length)) := by
          show sNaming _ 58 = _; unfold sNaming; rw [if_pos rfl, if_neg (by show ¬ s1.loose = true; rw [lo1, hl]; decide)]
        rw [run_cons q1 (by omega) (by omega)]
        have q2 : stepF 2 ((s1.to (i + 1 + n.length)).to (i + 1 + n.length + 1)) 32 = (3, s1.to (i + 1 + n.length + 1)) := rfl
        rw [run_cons q2 (by omega) (by omega)]
        exact ⟨_, 3, rfl, lo1.trans hl, l1.done, l1.opn, l1.name, t1, l1.spr, .inr rfl⟩
    obtain ⟨s2, st2, e2, a1, a2, a3, a4, a5, a6, a7⟩ := hmid
    -- text
    have htx : ∃ s3 st3, runF st2 s2 (i + 1 + n.length + 1 + 1) ((t ++ [13, 10]) ++ rest) = runF st3 s3 (i + 1 + n.length + 1 + 1 + t.length) ([13, 10] ++ rest) ∧ s3.loose = s.loose ∧ s3.done = s.dn ∧ s3.ln.opn = true ∧ s3.ln.name = a :: n ∧ s3.ln.text = t ∧ (st3 = 4 ∨ st3 = 3) := by
      rw [List.append_assoc]
      cases t with
      | nil => exact ⟨s2, st2, rfl, a1, a2, a3, a4, a5, a7⟩
      | cons b t =>
        have hb : vis b = true := by
          rcases ht.ends with e | ⟨⟨x, m, e, hx⟩, _⟩
          · cases e
          · cases e; exact hx
        have hstep : stepF st2 (s2.to (i + 1 + n.length + 1 + 1)) b = (4, { s2.to (i + 1 + n.length + 1 + 1) with ln := s2.ln.put b }) := by
          rcases a7 with e | e <;> subst e
          · show sText _ b = _; unfold sText; rw [if_pos hb]; rfl
          · show sFirst _ b = _; unfold sFirst sText; rw [if_neg (vis_ne hb).2.1, if_pos hb]; rfl
        rw [List.cons_append, run_cons hstep (by omega) (by omega)]
        have hput : (s2.ln.put b).text = [b] := by
          have : (s2.ln.put b).text = (if s2.ln.text.isEmpty then [] else s2.ln.text ++ s2.ln.eff) ++ [b] := rfl
          rw [this, a5]; rfl
        obtain ⟨s3, e3, l3⟩ := run_text t 4 { s2.to (i + 1 + n.length + 1 + 1) with ln := s2.ln.put b } (i + 1 + n.length + 1 + 1 + 1) ([13, 10] ++ rest) (.inl rfl) a3 rfl (by show (s2.ln.put b).text ≠ []; rw [hput]; simp) (fun c hc => ht.all c (by simp [hc])) (fun _ => ⟨rfl, rfl⟩) (fun c hc => by
          rcases ht.ends with e | ⟨_, ⟨x, m, e, hx⟩⟩
          · cases e
          · have h2 : (b :: t).getLast? = some c := by
              cases t with
              | nil => simp at hc
              | cons d t => simpa using hc
            rw [e] at h2
            simp at h2
            exact h2 ▸ hx)
        refine ⟨s3, 4, by rw [e3]; congr 1; simp; omega, l3.loose.trans a1, l3.done.trans a2, l3.opn, l3.name.trans a4, ?_, .inl rfl⟩
        rw [l3.text]
        show (s2.ln.put b).text ++ [] ++ t = _
        rw [hput]; simp
    obtain ⟨s3, st3, e3, b1, b2, b3, b4, b5, b6⟩ := htx
    have q3 : stepF st3 (s3.to (i + 1 + n.length + 1 + 1 + t.length)) 13 = (6, s3.to (i + 1 + n.length + 1 + 1 + t.length)) := by
      have hb13 : ∀ x : Bool, ((x && blank 13) = true) → False := fun x h => by
        have : blank 13 = false := by decide
        rw [this] at h; simp at h
      rcases b6 with e | e <;> subst e
      · show sText _ 13 = _; unfold sText; rw [if_neg (by decide), if_neg (hb13 _), if_neg (by decide), if_pos rfl]
      · show sFirst _ 13 = _; unfold sFirst sText; rw [if_neg (by decide), if_neg (by decide), if_neg (hb13 _), if_neg (by decide), if_pos rfl]
    have q4 : stepF 6 ((s3.to (i + 1 + n.length + 1 + 1 + t.length)).to (i + 1 + n.length + 1 + 1 + t.length + 1)) 10 = (0, s3.to (i + 1 + n.length + 1 + 1 + t.length + 1)) := rfl
    refine ⟨s3.to (i + 1 + n.length + 1 + 1 + t.length + 1), ?_, b1, b3, b2, ?_⟩
    · rw [List.append_assoc, List.cons_append, run_cons hs1 (by omega) (by omega), e1, e2, e3]
      show runF st3 s3 _ (13 :: 10 :: rest) = _
      rw [run_cons q3 (by omega) (by omega), run_cons q4 (by omega) (by omega)]
      congr 1
      simp
      omega
    · show (⟨s3.ln.name, s3.ln.text⟩ : Hd) = _
      rw [b4, b5]
theorem run_lines (l : List Hd) : ∀ (s : Sc) (i : Nat) (rest : List UInt8), (∀ h ∈ l, HdOk h) → s.dn.length + l.length ≤ 100 → (s.ln.opn = false → s.done = []) →
    ∃ s', runF 0 s i (l.flatMap lineOf ++ rest) = runF 0 s' (i + (l.flatMap lineOf).length) rest ∧ s'.loose = s.loose ∧ s'.dn.map Ln.hd = s.dn.map Ln.hd ++ l ∧ (s'.ln.opn = false → s'.done = []) := by
  induction l with
  | nil => intro s i rest _ _ ho; exact ⟨s, by simp, rfl, by simp, ho⟩
  | cons h l ih =>
    intro s i rest hl hd ho
    simp only [List.length_cons] at hd
    rw [List.flatMap_cons, List.append_assoc]
    obtain ⟨s1, e1, e2, e3, e4, e5⟩ := run_line h (hl h (by simp)) s i (l.flatMap lineOf ++ rest) (by omega) ho
    have hdn : s1.dn = s.dn ++ [s1.ln] := by unfold Sc.dn; rw [if_pos e3, e4]; rfl
    obtain ⟨s2, f1, f2, f3, f4⟩ := ih s1 (i + (lineOf h).length) rest (fun q hq => hl q (by simp [hq])) (by rw [hdn]; simp; omega) (fun hh => by rw [e3] at hh; cases hh)
    refine ⟨s2, by rw [e1, f1]; congr 1; simp; omega, f2.trans e2, ?_, f4⟩
    rw [f3, hdn]
    simp [e5]
theorem nameOk_iff (n : List UInt8) : nameOk n = true ↔ NmOk n := by
  unfold nameOk
  simp only [Bool.and_eq_true, decide_eq_true_eq, List.all_eq_true]
  exact ⟨fun ⟨a, b, c⟩ => ⟨c, a, b⟩, fun ⟨a, b, c⟩ => ⟨b, c, a⟩⟩
theorem txtC_ne {c : UInt8} (h : txtC c = true) (h32 : c ≠ 32) : vis c = true := by
  unfold txtC at h
  rw [Bool.or_eq_true] at h
  rcases h with h | h
  · exact absurd (by simpa using h) h32
  · exact h
theorem textOk_iff (t : List UInt8) : textOk t = true ↔ TxtV t := by
  unfold textOk
  constructor
  · intro h
    rw [Bool.and_eq_true, List.all_eq_true] at h
    refine ⟨h.1, ?_⟩
    rcases t.eq_nil_or_concat with e | ⟨m, b, e⟩
    · exact .inl e
    · right
      have hne : t ≠ [] := by rw [e]; simp
      obtain ⟨h1, h2⟩ := h
      have hie : t.isEmpty = false := by cases t with
        | nil => exact absurd rfl hne
        | cons => rfl
      rw [hie, Bool.false_or, Bool.and_eq_true, decide_eq_true_eq, decide_eq_true_eq] at h2
      constructor
      · cases t with
        | nil => exact absurd rfl hne
        | cons a t => exact ⟨a, t, rfl, txtC_ne (h1 a (by simp)) (fun e => h2.1 (by rw [e]; rfl))⟩
      · exact ⟨b, m, by simpa using e, txtC_ne (h1 b (by rw [e]; simp)) (fun e2 => h2.2 (by rw [e, e2]; simp))⟩
  · intro h
    rw [Bool.and_eq_true, List.all_eq_true]
    refine ⟨h.all, ?_⟩
    rcases h.ends with e | ⟨⟨a, m, e, ha⟩, ⟨b, m2, e2, hb⟩⟩
    · rw [e]; rfl
    · rw [Bool.or_eq_true]
      right
      rw [Bool.and_eq_true, decide_eq_true_eq, decide_eq_true_eq]
      refine ⟨?_, ?_⟩
      · rw [e]; intro h; simp at h; exact absurd h (vis_ne ha).2.1
      · rw [e2]; intro h; simp at h; exact absurd h (vis_ne hb).2.1
theorem validH_iff (h : Hd) : validH h = true ↔ HdOk h := by
  unfold validH
  rw [Bool.and_eq_true, nameOk_iff, textOk_iff]
  exact ⟨fun ⟨a, b⟩ => ⟨a, b⟩, fun ⟨a, b⟩ => ⟨a, b⟩⟩
theorem validL_iff (l : List Hd) : validL l = true ↔ l.length ≤ 100 ∧ ∀ h ∈ l, HdOk h := by
  unfold validL
  rw [Bool.and_eq_true, List.all_eq_true, decide_eq_true_eq]
  simp only [validH_iff]
/-- What was written is scanned. -/
theorem scan_write (l : List Hd) (hl : validL l = true) (loose : Bool) (rest : List UInt8) : ∃ s, scanF (writeL l ++ rest) loose = (8, s) ∧ s.place + 1 = (writeL l).length ∧ s.done.map Ln.hd = l ∧ s.loose = loose := by
  rw [validL_iff] at hl
  obtain ⟨s', e1, e2, e3, e4⟩ := run_lines l (Sc.init loose) 0 ([13, 10] ++ rest) hl.2 (by show 0 + _ ≤ _; omega) (fun _ => rfl)
  have q1 : stepF 0 (s'.to (0 + (l.flatMap lineOf).length)) 13 = (7, { s'.to (0 + (l.flatMap lineOf).length) with done := s'.dn, ln := Ln.new (0 + (l.flatMap lineOf).length) }) := by
    show sBegin _ 13 = _
    unfold sBegin
    have : blank 13 = false := by decide
    rw [if_neg (by rw [this]; simp), if_pos rfl]
    rfl
  unfold scanF writeL
  rw [List.append_assoc, e1]
  show ∃ s, runF 0 s' _ (13 :: 10 :: rest) = _ ∧ _
  rw [run_cons q1 (by omega) (by omega), run_stop (st' := 8) (s' := { s'.to (0 + (l.flatMap lineOf).length + 1) with done := s'.dn, ln := Ln.new (0 + (l.flatMap lineOf).length) }) rfl (.inl rfl)]
  refine ⟨_, rfl, by simp [Sc.to], ?_, e2⟩
  show s'.dn.map Ln.hd = l
  rw [e3]; rfl
/-- Reading. -/
def readF (l : List UInt8) (loose : Bool) : Nat × List Hd :=
  if 0 ≤ (scanR l loose).a then (6, []) else if 0 < (scanR l loose).n then (4, []) else if (scanR l loose).e < l.length then (5, []) else (0, (scanF l loose).2.done.map Ln.hd)
def hdsOf (rs : List Raw) : List Hd := rs.map fun r => ⟨r.name, (txF r.raw).text⟩
theorem linesAt_hds (rs : List Raw) (k : Nat) : (linesAt k rs).map (fun k => (⟨k.2.1, k.2.2⟩ : Hd)) = hdsOf rs := by
  induction rs generalizing k with
  | nil => rfl
  | cons r rs ih => simp [linesAt, hdsOf]; exact ih _
theorem Blok.hds {loose : Bool} {l : List UInt8} {e : Nat} {rs : List Raw} {d : List Ln} (h : Blok loose l e rs d) : d.map Ln.hd = hdsOf rs := by
  have h1 : d.map Ln.hd = (d.map Ln.key).map (fun k => (⟨k.2.1, k.2.2⟩ : Hd)) := by rw [List.map_map]; rfl
  rw [h1, h.lines, linesAt_hds]
theorem needs_pos (st : Nat) (loose : Bool) (h : st ≤ 7) (h2 : loose = true → st ≠ 2 ∧ st ≠ 3 ∧ st ≠ 5) : 0 < needsF st loose := by
  unfold needsF
  cases loose with
  | false => rcases (by omega : st = 0 ∨ st = 1 ∨ st = 2 ∨ st = 3 ∨ st = 4 ∨ st = 5 ∨ st = 6 ∨ st = 7) with e | e | e | e | e | e | e | e <;> subst e <;> decide
  | true =>
    have := h2 rfl
    rcases (by omega : st = 0 ∨ st = 1 ∨ st = 4 ∨ st = 6 ∨ st = 7) with e | e | e | e | e <;> subst e <;> decide
theorem Blok.valid {loose : Bool} {l : List UInt8} {e : Nat} {rs : List Raw} {d : List Ln} (h : Blok loose l e rs d) : validL (d.map Ln.hd) = true := by
  rw [h.hds, validL_iff]
  refine ⟨by simp [hdsOf]; exact h.few, fun q hq => ?_⟩
  unfold hdsOf at hq
  rw [List.mem_map] at hq
  obtain ⟨r, hr, rfl⟩ := hq
  exact ⟨(h.ok r hr).nm, (h.ok r hr).tx⟩
theorem Blok.strict {l : List UInt8} {e : Nat} {rs : List Raw} {d : List Ln} (h : Blok false l e rs d) : l.take e = writeL (d.map Ln.hd) := by
  rw [h.hds, h.bytes]
  unfold writeL bytesOf hdsOf
  congr 1
  have hok := h.ok
  clear h
  induction rs with
  | nil => rfl
  | cons r rs ih =>
    rw [List.flatMap_cons, List.map_cons, List.flatMap_cons, ih fun q hq => hok q (by simp [hq])]
    congr 1
    unfold Raw.b lineOf
    rw [(hok r (by simp)).strict rfl]
    have : (txF (32 :: (txF r.raw).text)).text = (txF r.raw).text := by rw [← (hok r (by simp)).strict rfl]
    simp [this]
/-- The scanners' state at the end. -/
theorem scan_sim (l : List UInt8) : ∀ (st : Nat) (s : Sc) (nm ln i : Nat), Sim st s nm ln → ((runF st s i l).1 = 8 ∧ (runF st s i l).2.loose = s.loose ∧ (runF st s i l).2.place < i + l.length) ∨ ((runF st s i l).1 = 9 ∧ (runF st s i l).2.loose = s.loose ∧ (runF st s i l).2.place < i + l.length) ∨ ∃ nm' ln', Sim (runF st s i l).1 (runF st s i l).2 nm' ln' ∧ (runF st s i l).2.loose = s.loose := by
  induction l with
  | nil => intro st s nm ln i h; exact .inr (.inr ⟨nm, ln, h, rfl⟩)
  | cons c cs ih =>
    intro st s nm ln i h
    obtain ⟨h1, h2, h3, h4⟩ := stepF_next h i c
    rw [runF]
    by_cases hd : (stepF st (s.to i) c).1 = 8 ∨ (stepF st (s.to i) c).1 = 9
    · rw [if_pos hd]
      rcases hd with hd | hd
      · exact .inl ⟨hd, h3, by rw [h2]; simp⟩
      · exact .inr (.inl ⟨hd, h3, by rw [h2]; simp⟩)
    · rw [if_neg hd]
      have hs := h4 (fun e => hd (.inl (h1.trans e))) (fun e => hd (.inr (h1.trans e)))
      rw [← h1] at hs
      have := ih _ _ _ _ (i + 1) hs
      rw [h3] at this
      rw [List.length_cons, show i + (cs.length + 1) = i + 1 + cs.length by omega]
      exact this
theorem sim0 (loose : Bool) : Sim 0 (Sc.init loose) 0 0 := ⟨by omega, rfl, by omega, fun _ _ => rfl, by omega, fun _ => by omega⟩
/-- The three ways in which scanning ends. -/
inductive Ends (l : List UInt8) (loose : Bool) : Prop
  | fin (h : (scanF l loose).1 = 8) (p : (scanF l loose).2.place < l.length) (r : scanR l loose = ⟨(scanF l loose).2.place + 1, 0, -1⟩)
  | bad (h : (scanF l loose).1 = 9) (p : (scanF l loose).2.place < l.length) (r : scanR l loose = ⟨-1, 0, (scanF l loose).2.place⟩)
  | more (nm ln : Nat) (h : Sim (scanF l loose).1 (scanF l loose).2 nm ln) (lo : (scanF l loose).2.loose = loose) (n : 0 < needsF (scanF l loose).1 loose) (r : scanR l loose = ⟨-1, needsF (scanF l loose).1 loose, -1⟩)
theorem ends (l : List UInt8) (loose : Bool) : Ends l loose := by
  rcases scan_sim l 0 (Sc.init loose) 0 0 0 (sim0 loose) with ⟨h, h2, h3⟩ | ⟨h, h2, h3⟩ | ⟨nm, ln, h, h2⟩
  · have h : (scanF l loose).1 = 8 := h
    exact .fin h (by have : (scanF l loose).2.place < 0 + l.length := h3; omega) (by unfold scanR resF; rw [if_pos h])
  · have h : (scanF l loose).1 = 9 := h
    exact .bad h (by have : (scanF l loose).2.place < 0 + l.length := h3; omega) (by unfold scanR resF; rw [if_neg (by omega), if_pos h])
  · have h : Sim (scanF l loose).1 (scanF l loose).2 nm ln := h
    have h2 : (scanF l loose).2.loose = loose := h2
    have h7 := h.st7
    exact .more nm ln h h2 (needs_pos _ _ h7 (fun e => h.lo (h2.trans e))) (by unfold scanR resF; rw [if_neg (by omega), if_neg (by omega), h2])
theorem readF_0 {l : List UInt8} {loose : Bool} (h : (readF l loose).1 = 0) : ∃ rs, Blok loose l l.length rs (scanF l loose).2.done ∧ (readF l loose).2 = (scanF l loose).2.done.map Ln.hd := by
  unfold readF at h ⊢
  rcases ends l loose with ⟨h1, p, r⟩ | ⟨h1, p, r⟩ | ⟨nm, ln, h1, lo, n, r⟩
  · rw [r] at h ⊢
    simp only at h ⊢
    rw [if_neg (by decide), if_neg (by decide)] at h ⊢
    by_cases hlt : ((scanF l loose).2.place : Int) + 1 < l.length
    · rw [if_pos hlt] at h; cases h
    · rw [if_neg hlt]
      obtain ⟨rs, hb⟩ := scanF_blok l loose h1
      have : (scanF l loose).2.place + 1 = l.length := by omega
      rw [this] at hb
      exact ⟨rs, hb, rfl⟩
  · rw [r] at h
    simp only at h
    rw [if_pos (by omega)] at h
    cases h
  · rw [r] at h
    simp only at h
    rw [if_neg (by decide), if_pos (by omega)] at h
    cases h
theorem readF_write (l : List Hd) (hl : validL l = true) (loose : Bool) : readF (writeL l) loose = (0, l) := by
  obtain ⟨s, h1, h2, h3, h4⟩ := scan_write l hl loose []
  rw [List.append_nil] at h1
  have hr : scanR (writeL l) loose = ⟨s.place + 1, 0, -1⟩ := by unfold scanR resF; rw [h1]; simp
  unfold readF
  rw [hr, h1]
  simp only
  rw [if_neg (by decide), if_neg (by decide), if_neg (by omega), h3]
/-- What was read is valid; if it was strict, it is what is written; and a strict block is a loose one. -/
theorem readF_valid {l : List UInt8} {loose : Bool} (h : (readF l loose).1 = 0) : validL (readF l loose).2 = true := by
  obtain ⟨rs, hb, e⟩ := readF_0 h
  rw [e]; exact hb.valid
theorem readF_strict {l : List UInt8} (h : (readF l false).1 = 0) : l = writeL (readF l false).2 ∧ readF l true = (0, (readF l false).2) := by
  obtain ⟨rs, hb, e⟩ := readF_0 h
  have h1 : l = writeL (readF l false).2 := by
    rw [e, ← hb.strict, List.take_length]
  refine ⟨h1, ?_⟩
  have hv := readF_valid h
  generalize (readF l false).2 = x at *
  rw [h1]
  exact readF_write x hv true
theorem readF_nil {l : List UInt8} {loose : Bool} (h : (readF l loose).1 ≠ 0) : (readF l loose).2 = [] := by
  unfold readF at h ⊢
  split
  · rfl
  · rename_i h1
    rw [if_neg h1] at h
    split
    · rfl
    · rename_i h2
      rw [if_neg h2] at h
      split
      · rfl
      · rename_i h3
        rw [if_neg h3] at h
        exact absurd rfl h
end Go.Proofs.YtkalllenggmgoaaDoor
