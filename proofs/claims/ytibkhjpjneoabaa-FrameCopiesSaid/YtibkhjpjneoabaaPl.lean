/- Plain laws of a stream of frames: what was encoded is read. No walk. -/
import Derived.Test.YtibkhjpjneoabaaFm
import Derived.Test.YtibkhjpjneoabaaVrEx
namespace Go.Proofs.Ytibkhjpjneoabaa
open Go.RowKit
set_option linter.unusedVariables false
set_option linter.unusedSimpArgs false

theorem feedS_app (k m c : Int) (l r : List UInt8) : ∀ s : St, feedS k m c s (l ++ r) = ((feedS k m c (feedS k m c s l).1 r).1, (feedS k m c s l).2 ++ (feedS k m c (feedS k m c s l).1 r).2) := by
  induction l with
  | nil => intro s; simp [feedS]
  | cons x l ih => intro s; simp [feedS, ih]

/-- A reader between frames. -/
def gapS (off a : Nat) (lo : Bool) : St := ⟨0, off, a, [], false, false, lo⟩
/-- A reader within a frame. -/
def midS (off a : Nat) (h : List UInt8) (e lo : Bool) : St := ⟨0, off, a, h, true, e, lo⟩

theorem openS_ok (c : Int) (h0 : 0 ≤ c) (h3 : c ≤ 3) (a : Nat) (b : List UInt8) : openS c a (b ++ sumB c b) = ⟨a, b, 0⟩ := by
  have hl := sumB_len h0 h3 b
  have e1 : (b ++ sumB c b).length - tailN c = b.length := by simp [hl]
  unfold openS
  rw [if_neg (by simp [hl]), e1]
  simp

theorem del_one (m c : Int) (off a : Nat) (h : List UInt8) (lo : Bool) (x : UInt8) (hl : ((h.length + 1 : Nat) : Int) ≤ m + tailN c) : feedS 2 m c (midS off a h false lo) (escB x) = (midS (off + (escB x).length) a (h ++ [x]) false lo, []) := by
  have hn : ¬ (m + tailN c < ((h.length : Int) + 1)) := by omega
  unfold escB
  split
  · rename_i hx
    rcases hx with rfl | rfl
    · simp [feedS, stepS, readB, delS, pushS, midS, hn, show ((126 : UInt8) ^^^ 32) = 94 by decide, show ((94 : UInt8) ^^^ 32) = 126 by decide]
    · simp [feedS, stepS, readB, delS, pushS, midS, hn, show ((125 : UInt8) ^^^ 32) = 93 by decide, show ((93 : UInt8) ^^^ 32) = 125 by decide]
  · rename_i hx
    have h1 : x ≠ 126 := fun h => hx (.inl h)
    have h2 : x ≠ 125 := fun h => hx (.inr h)
    simp [feedS, stepS, readB, delS, pushS, midS, hn, h1, h2]
theorem del_more (m c : Int) (a : Nat) (lo : Bool) : ∀ (p h : List UInt8) (off : Nat), ((h.length + p.length : Nat) : Int) ≤ m + tailN c → feedS 2 m c (midS off a h false lo) (escL p) = (midS (off + (escL p).length) a (h ++ p) false lo, [])
  | [], h, off, _ => by simp [escL, feedS]
  | x :: p, h, off, hl => by
    have e : escL (x :: p) = escB x ++ escL p := by simp [escL]
    rw [e, feedS_app, del_one m c off a h lo x (by simp at hl; omega), del_more m c a lo p (h ++ [x]) _ (by simp at hl ⊢; omega)]
    simp [Nat.add_assoc]
theorem esc_first (x : UInt8) (r : List UInt8) : ∃ y t, escL (x :: r) = y :: t ∧ y ≠ 126 := by
  have e : escL (x :: r) = escB x ++ escL r := by simp [escL]
  rw [e]
  unfold escB
  split
  · exact ⟨125, _, rfl, by decide⟩
  · rename_i hx
    exact ⟨x, _, rfl, fun h => hx (.inl h)⟩
theorem del_first (m c : Int) (off a : Nat) (lo : Bool) (x : UInt8) (r : List UInt8) (hx : x ≠ 126) : feedS 2 m c (gapS off a lo) (x :: r) = feedS 2 m c (midS off off [] false lo) (x :: r) := by
  simp [feedS, stepS, gapS, midS, readB, hx]
theorem del_pack (m c : Int) (h0 : 0 ≤ c) (h3 : c ≤ 3) (off a : Nat) (lo : Bool) (b : List UInt8) (hb : packErr 2 m c b = 0) : feedS 2 m c (gapS off a lo) (packB 2 m c b) = (gapS (off + (packB 2 m c b).length) off lo, [⟨off, b, 0⟩]) := by
  unfold packErr at hb
  have hl := sumB_len h0 h3 b
  have hm : ((b.length : Nat) : Int) ≤ m := by
    rcases Int.lt_or_le m b.length with h | h
    · rw [if_pos h] at hb; omega
    · exact h
  rw [if_neg (by omega)] at hb
  have hne : b ++ sumB c b ≠ [] := by
    intro he
    have hb0 : b = [] := (List.append_eq_nil_iff.1 he).1
    have hs0 : sumB c b = [] := (List.append_eq_nil_iff.1 he).2
    have ht : tailN c = 0 := by rw [← hl, hs0]; rfl
    have hc : c = 0 := by
      unfold tailN at ht
      split at ht
      · assumption
      · split at ht <;> omega
    rw [if_pos ⟨rfl, by simp [hb0], hc⟩] at hb
    omega
  have e1 : packB 2 m c b = escL (b ++ sumB c b) ++ [126] := by unfold packB; simp
  rw [e1]
  obtain ⟨x, r, hx⟩ : ∃ x r, b ++ sumB c b = x :: r := by
    cases h : b ++ sumB c b with
    | nil => exact absurd h hne
    | cons x r => exact ⟨x, r, rfl⟩
  obtain ⟨y, t, hy, hy1⟩ := esc_first x r
  have e2 : feedS 2 m c (gapS off a lo) (escL (b ++ sumB c b) ++ [126]) = feedS 2 m c (midS off off [] false lo) (escL (b ++ sumB c b) ++ [126]) := by
    rw [hx, hy]
    exact del_first m c off a lo y (t ++ [126]) hy1
  rw [e2, feedS_app, del_more m c off lo (b ++ sumB c b) [] off (by simp; omega)]
  simp [feedS, stepS, midS, gapS, readB, delS, St.ended]
  rw [openS_ok c h0 h3]
  exact ⟨by omega, rfl⟩

/-- A byte of a stream with lengths, by what is held behind it. -/
theorem preS_wait {m c : Int} {s : St} {x : UInt8} {h : List UInt8} (hh : s.held ++ [x] = h) (hw : ((Vr.readS h false).2.2 ≠ 0 ∨ m < (Vr.readS h false).1) ∧ (Vr.beginsS h false 0 m).1 = true ∨ ¬ ((Vr.readS h false).2.2 ≠ 0 ∨ m < (Vr.readS h false).1) ∧ (h.length : Int) < (Vr.readS h false).2.1 + (Vr.readS h false).1 + tailN c) :
    preS m c s x = ({ s with held := h }, none) := by
  subst hh
  unfold preS
  rcases hw with ⟨h1, h2⟩ | ⟨h1, h2⟩
  · rw [if_pos h1, if_pos h2]
  · rw [if_neg h1, if_pos h2]
theorem preS_done {m c : Int} {s : St} {x : UInt8} {h : List UInt8} (hh : s.held ++ [x] = h) (h1 : ¬ ((Vr.readS h false).2.2 ≠ 0 ∨ m < (Vr.readS h false).1)) (h2 : ¬ (h.length : Int) < (Vr.readS h false).2.1 + (Vr.readS h false).1 + tailN c) :
    preS m c s x = (s.ended, some (openS c s.at_ ((h.drop (Vr.readS h false).2.1.toNat).take ((Vr.readS h false).1.toNat + tailN c)))) := by
  subst hh
  unfold preS
  rw [if_neg h1, if_neg h2]
theorem pre_step (m c : Int) (off a : Nat) (h : List UInt8) (lo : Bool) (x : UInt8) : stepS 1 m c (midS off a h false lo) x = preS m c (midS (off + 1) a h false lo) x := by
  simp [stepS, midS, readB]
theorem form_short (n : Nat) (hn : n < 16384) (h1 : Vr.k0 n ≠ 0) : Vr.k0 n = 1 := by
  unfold Vr.k0 at h1 ⊢
  split
  · rename_i h; rw [if_pos h] at h1; exact absurd rfl h1
  · rfl
theorem form_begins (n : Nat) (m : Int) (hm : (n : Int) ≤ m) (h4 : m ≤ 4096) (h1 : Vr.k0 n = 1) : ∃ x y, Vr.formB n 1 = [x, y] ∧ (Vr.readS [x] false).2.2 ≠ 0 ∧ (Vr.beginsS [x] false 0 m).1 = true := by
  refine ⟨UInt8.ofNat (n % 128 + 128), UInt8.ofNat (n / 128 ^ 1 % 128), by simp [Vr.formB, Vr.moreB], ?_, ?_⟩
  · have := Vr.readS_short (l := [UInt8.ofNat (n % 128 + 128)]) (loose := false) (Vr.ix_take_none (by
      intro i hi hi2
      simp at hi2
      subst hi2
      simp
      omega)) (by simp)
    rw [this]; simp
  · have hf := Vr.form_first n [] (by omega)
    rw [h1] at hf
    simp only [List.append_nil] at hf
    have hg : (Vr.beginsS (Vr.formB n 1) false 0 m).1 = true := by
      rw [Vr.begins_ok (by omega) (by omega) (by omega), hf]
      simp [Vr.formB_length]
      omega
    have := (Vr.goes_plain (l := [UInt8.ofNat (n % 128 + 128)]) (loose := false) (lo := 0) (hi := m) (by omega) (by omega) (by omega)).1
    refine this.2 (.inr ⟨UInt8.ofNat (n / 128 ^ 1 % 128), ?_⟩)
    have e : [UInt8.ofNat (n % 128 + 128)] ++ [UInt8.ofNat (n / 128 ^ 1 % 128)] = Vr.formB n 1 := by simp [Vr.formB, Vr.moreB]
    rw [e]; exact hg
theorem pre_first (m c : Int) (off a : Nat) (lo : Bool) (x : UInt8) (r : List UInt8) : feedS 1 m c (gapS off a lo) (x :: r) = feedS 1 m c (midS off off [] false lo) (x :: r) := by
  simp [feedS, stepS, gapS, midS, readB]

theorem pre_more (m c : Int) (h4 : m ≤ 4096) (a : Nat) (lo : Bool) (b : List UInt8) (hb : (b.length : Int) ≤ m) (hs : (sumB c b).length = tailN c) :
    ∀ (i off : Nat), i < (Vr.formB b.length (Vr.k0 b.length) ++ b ++ sumB c b).length → feedS 1 m c (midS off a [] false lo) ((Vr.formB b.length (Vr.k0 b.length) ++ b ++ sumB c b).take i) = (midS (off + i) a ((Vr.formB b.length (Vr.k0 b.length) ++ b ++ sumB c b).take i) false lo, [])
  | 0, off, _ => by simp [feedS]
  | i + 1, off, hi => by
    have hlt : i < (Vr.formB b.length (Vr.k0 b.length) ++ b ++ sumB c b).length := by omega
    have e1 := List.take_succ_eq_append_getElem hlt
    rw [e1, feedS_snoc, pre_more m c h4 a lo b hb hs i off hlt]
    have key : stepS 1 m c (midS (off + i) a ((Vr.formB b.length (Vr.k0 b.length) ++ b ++ sumB c b).take i) false lo) (Vr.formB b.length (Vr.k0 b.length) ++ b ++ sumB c b)[i] = (midS (off + i + 1) a ((Vr.formB b.length (Vr.k0 b.length) ++ b ++ sumB c b).take i ++ [(Vr.formB b.length (Vr.k0 b.length) ++ b ++ sumB c b)[i]]) false lo, none) := by
      rw [pre_step, ← e1]
      refine preS_wait (h := (Vr.formB b.length (Vr.k0 b.length) ++ b ++ sumB c b).take (i + 1)) (by rw [e1]; rfl) ?_
      by_cases hk : i + 1 < Vr.k0 b.length + 1
      · left
        have hk1 : Vr.k0 b.length = 1 := form_short _ (by omega) (by omega)
        have hi0 : i = 0 := by omega
        subst hi0
        obtain ⟨x, y, hxy, h1, h2⟩ := form_begins b.length m hb h4 hk1
        have e2 : (Vr.formB b.length (Vr.k0 b.length) ++ b ++ sumB c b).take (0 + 1) = [x] := by rw [hk1, hxy]; rfl
        rw [e2]
        exact ⟨.inl h1, h2⟩
      · right
        have hfl := Vr.formB_length b.length (Vr.k0 b.length)
        have e2 : (Vr.formB b.length (Vr.k0 b.length) ++ b ++ sumB c b).take (i + 1) = Vr.formB b.length (Vr.k0 b.length) ++ (b ++ sumB c b).take (i + 1 - (Vr.k0 b.length + 1)) := by
          rw [List.append_assoc, List.take_append, hfl, List.take_of_length_le (by omega)]
        have hr := Vr.form_first b.length ((b ++ sumB c b).take (i + 1 - (Vr.k0 b.length + 1))) (by omega)
        rw [← e2] at hr
        rw [hr]
        refine ⟨by simp; omega, ?_⟩
        simp only [List.length_take, List.length_append, hs, hfl] at hi ⊢
        rw [Nat.min_eq_left (by omega)]
        omega
    rw [key]
    simp [Nat.add_assoc]

theorem pre_pack (m c : Int) (h0 : 0 ≤ c) (h3 : c ≤ 3) (h4 : m ≤ 4096) (off a : Nat) (lo : Bool) (b : List UInt8) (hb : packErr 1 m c b = 0) : feedS 1 m c (gapS off a lo) (packB 1 m c b) = (gapS (off + (packB 1 m c b).length) off lo, [⟨off, b, 0⟩]) := by
  unfold packErr at hb
  have hs := sumB_len h0 h3 b
  have hm : ((b.length : Nat) : Int) ≤ m := by
    rcases Int.lt_or_le m b.length with h | h
    · rw [if_pos h] at hb; omega
    · exact h
  have e1 : packB 1 m c b = Vr.formB b.length (Vr.k0 b.length) ++ b ++ sumB c b := by unfold packB; simp
  have hfl := Vr.formB_length b.length (Vr.k0 b.length)
  have hlen : (Vr.formB b.length (Vr.k0 b.length) ++ b ++ sumB c b).length = Vr.k0 b.length + 1 + b.length + tailN c := by simp [hfl, hs]; omega
  rw [e1]
  obtain ⟨x, r, hx⟩ : ∃ x r, Vr.formB b.length (Vr.k0 b.length) ++ b ++ sumB c b = x :: r := by
    cases h : Vr.formB b.length (Vr.k0 b.length) ++ b ++ sumB c b with
    | nil => rw [h] at hlen; simp at hlen; omega
    | cons x r => exact ⟨x, r, rfl⟩
  have e2 : feedS 1 m c (gapS off a lo) (Vr.formB b.length (Vr.k0 b.length) ++ b ++ sumB c b) = feedS 1 m c (midS off off [] false lo) (Vr.formB b.length (Vr.k0 b.length) ++ b ++ sumB c b) := by
    rw [hx]; exact pre_first m c off a lo x r
  rw [e2]
  have hr := Vr.form_first b.length (b ++ sumB c b) (by omega)
  rw [← List.append_assoc] at hr
  have hlt : Vr.k0 b.length + b.length + tailN c < (Vr.formB b.length (Vr.k0 b.length) ++ b ++ sumB c b).length := by omega
  have hmore := pre_more m c h4 off lo b hm hs _ off hlt
  have e3 := List.take_succ_eq_append_getElem hlt
  rw [List.take_of_length_le (by omega)] at e3
  have e4 : (Vr.formB b.length (Vr.k0 b.length) ++ (b ++ sumB c b)).drop (Vr.k0 b.length + 1) = b ++ sumB c b := by rw [← hfl]; exact List.drop_left
  have key : stepS 1 m c (midS (off + (Vr.k0 b.length + b.length + tailN c)) off ((Vr.formB b.length (Vr.k0 b.length) ++ b ++ sumB c b).take (Vr.k0 b.length + b.length + tailN c)) false lo) (Vr.formB b.length (Vr.k0 b.length) ++ b ++ sumB c b)[Vr.k0 b.length + b.length + tailN c] = (gapS (off + (Vr.formB b.length (Vr.k0 b.length) ++ b ++ sumB c b).length) off lo, some ⟨off, b, 0⟩) := by
    rw [pre_step, preS_done (h := Vr.formB b.length (Vr.k0 b.length) ++ b ++ sumB c b) e3.symm (by rw [hr]; simp <;> omega) (by rw [hr, hlen]; simp <;> omega), hr]
    have e5 : ((Vr.formB b.length (Vr.k0 b.length) ++ b ++ sumB c b).drop ((Vr.k0 b.length : Int) + 1).toNat).take ((b.length : Int).toNat + tailN c) = b ++ sumB c b := by
      rw [show ((Vr.k0 b.length : Int) + 1).toNat = Vr.k0 b.length + 1 by omega, List.append_assoc, e4]
      exact List.take_of_length_le (by simp [hs])
    rw [e5]
    show ((midS (off + (Vr.k0 b.length + b.length + tailN c) + 1) off _ false lo).ended, some (openS c off (b ++ sumB c b))) = _
    rw [openS_ok c h0 h3, hlen]
    simp [midS, gapS, St.ended]
    omega
  conv => lhs; rw [e3]
  rw [feedS_snoc, hmore, key]
  simp

/-- What results lie behind a place, in order. -/
def Asc : Nat → List Fr → Prop
  | _, [] => True
  | a, f :: r => a ≤ f.at_ ∧ Asc (f.at_ + 1) r
theorem Asc.mono {a b : Nat} (h : a ≤ b) : ∀ {l : List Fr}, Asc b l → Asc a l
  | [], _ => trivial
  | _ :: _, ⟨h1, h2⟩ => ⟨Nat.le_trans h h1, h2⟩
theorem packB_pos (k m c : Int) (b : List UInt8) : 0 < (packB k m c b).length := by
  unfold packB
  split
  · simp [Vr.formB_length]; omega
  · simp
theorem pack_any (k m c : Int) (hF : OkF k m c) (off a : Nat) (lo : Bool) (b : List UInt8) (hb : packErr k m c b = 0) : feedS k m c (gapS off a lo) (packB k m c b) = (gapS (off + (packB k m c b).length) off lo, [⟨off, b, 0⟩]) := by
  rcases hF.k with rfl | rfl
  · exact pre_pack m c hF.c1 hF.c2 hF.m2 off a lo b hb
  · exact del_pack m c hF.c1 hF.c2 off a lo b hb
theorem encs_read (k m c : Int) (hF : OkF k m c) (lo : Bool) : ∀ (ps : List (List UInt8)) (off a : Nat), encErr k m c ps = 0 → ∃ a' fs, feedS k m c (gapS off a lo) (encB k m c ps) = (gapS (off + (encB k m c ps).length) a' lo, fs) ∧ fs.map Fr.bytes = ps ∧ (∀ f ∈ fs, f.code = 0) ∧ Asc off fs
  | [], off, a, _ => ⟨a, [], by simp [encB, feedS], rfl, fun _ h => (by cases h), trivial⟩
  | b :: ps, off, a, h => by
    have e : encErr k m c (b :: ps) = if packErr k m c b = 0 then encErr k m c ps else packErr k m c b := by
      simp only [encErr]
    rw [e] at h
    have hb : packErr k m c b = 0 := by
      by_cases hb : packErr k m c b = 0
      · exact hb
      · rw [if_neg hb] at h; exact absurd h hb
    rw [if_pos hb] at h
    obtain ⟨a', fs, h1, h2, h3, h4⟩ := encs_read k m c hF lo ps (off + (packB k m c b).length) off h
    have e2 : encB k m c (b :: ps) = packB k m c b ++ encB k m c ps := by simp [encB]
    refine ⟨a', ⟨off, b, 0⟩ :: fs, ?_, by simp [h2], ?_, ⟨Nat.le_refl _, h4.mono (show off + 1 ≤ off + (packB k m c b).length by have := packB_pos k m c b; omega)⟩⟩
    · rw [e2, feedS_app, pack_any k m c hF off a lo b hb, h1]
      simp [Nat.add_assoc]
    · intro f hf
      rcases List.mem_cons.1 hf with rfl | hf
      · rfl
      · exact h3 f hf

/-- With delimiters a reader is between frames behind a byte 7E. -/
structure DelI (s : St) : Prop where
  st : s.st = 0 ∨ s.st = 1
  skip : s.st = 1 → s.begun = false
  gap : s.begun = false → s.held = [] ∧ s.esc = false
theorem damS_I (s : St) (x : UInt8) (d : Int) (h1 : s.st = 0) : DelI (damS s x d).1 ∧ (x = 126 → (damS s x d).1.st = 0 ∧ (damS s x d).1.begun = false) := by
  unfold damS St.ended
  by_cases hx : x = 126
  · rw [if_pos hx]
    exact ⟨⟨.inl h1, fun _ => rfl, fun _ => ⟨rfl, rfl⟩⟩, fun _ => ⟨h1, rfl⟩⟩
  · rw [if_neg hx]
    exact ⟨⟨.inr rfl, fun _ => rfl, fun _ => ⟨rfl, rfl⟩⟩, fun h => absurd h hx⟩
theorem pushS_I (m c : Int) (s : St) (x y : UInt8) (h1 : s.st = 0) (hb : s.begun = true) (hx : x ≠ 126) : DelI (pushS m c s x y).1 := by
  unfold pushS
  split
  · exact (damS_I s x 5 h1).1
  · exact ⟨.inl h1, fun h => by simp only at h; omega, fun h => by simp only at h; rw [hb] at h; cases h⟩
theorem delS_I (m c : Int) (s : St) (x : UInt8) (h1 : s.st = 0) (hb : s.begun = true) : DelI (delS m c s x).1 ∧ (x = 126 → (delS m c s x).1.st = 0 ∧ (delS m c s x).1.begun = false) := by
  unfold delS
  by_cases he : s.esc = true
  · rw [if_pos he]
    by_cases hx : x = 94 ∨ x = 93
    · rw [if_pos hx]
      have h6 : x ≠ 126 := by rintro rfl; simp at hx
      exact ⟨pushS_I m c s x _ h1 hb h6, fun h => absurd h h6⟩
    · rw [if_neg hx]
      exact damS_I s x 6 h1
  · rw [if_neg he]
    by_cases hx : x = 126
    · rw [if_pos hx]
      exact ⟨⟨.inl h1, fun _ => rfl, fun _ => ⟨rfl, rfl⟩⟩, fun _ => ⟨h1, rfl⟩⟩
    · rw [if_neg hx]
      refine ⟨?_, fun h => absurd h hx⟩
      by_cases h5 : x = 125
      · rw [if_pos h5]
        exact ⟨.inl h1, fun h => by simp only at h; omega, fun h => by simp only at h; rw [hb] at h; cases h⟩
      · rw [if_neg h5]
        exact pushS_I m c s x x h1 hb hx
theorem stepS_I (m c : Int) (s : St) (x : UInt8) (h : DelI s) : DelI (stepS 2 m c s x).1 ∧ (x = 126 → (stepS 2 m c s x).1.st = 0 ∧ (stepS 2 m c s x).1.begun = false) := by
  unfold stepS
  by_cases h1 : s.st = 1
  · rw [if_pos h1]
    have hb := h.skip h1
    have hg := h.gap hb
    by_cases hx : x = 126
    · rw [if_pos hx]
      exact ⟨⟨.inl rfl, fun _ => hb, fun _ => hg⟩, fun _ => ⟨rfl, hb⟩⟩
    · rw [if_neg hx]
      exact ⟨⟨.inr rfl, fun _ => hb, fun _ => hg⟩, fun h => absurd h hx⟩
  · have h0 : s.st = 0 := h.st.resolve_right h1
    rw [if_neg h1, if_neg (by omega)]
    by_cases hb : s.begun = true
    · rw [if_pos hb]
      exact delS_I m c _ x h0 hb
    · rw [if_neg hb]
      have hbf : s.begun = false := by simpa using hb
      by_cases hx : x = 126
      · rw [if_pos ⟨rfl, hx⟩]
        exact ⟨⟨.inl h0, fun _ => hbf, fun _ => h.gap hbf⟩, fun _ => ⟨h0, hbf⟩⟩
      · rw [if_neg (fun h => hx h.2)]
        exact delS_I m c _ x h0 rfl
theorem feedS_I (m c : Int) : ∀ (l : List UInt8) (s : St), DelI s → DelI (feedS 2 m c s l).1
  | [], _, h => h
  | x :: r, s, h => feedS_I m c r _ (stepS_I m c s x h).1
theorem new_I : DelI St.new := ⟨.inl rfl, fun _ => rfl, fun _ => ⟨rfl, rfl⟩⟩
/-- Behind any bytes and a byte 7E: between frames. -/
theorem del_gap (m c : Int) (b : List UInt8) : ∃ a lo, (feedS 2 m c St.new (b ++ [126])).1 = gapS (b.length + 1) a lo := by
  have hI := feedS_I m c b St.new new_I
  have h2 := stepS_I m c _ 126 hI
  have h3 := (feedS_len 2 m c (b ++ [126]) St.new).2
  rw [feedS_snoc] at h3 ⊢
  obtain ⟨q1, q2⟩ := h2.2 rfl
  obtain ⟨q3, q4⟩ := h2.1.gap q2
  generalize (stepS 2 m c (feedS 2 m c St.new b).1 126).1 = s at *
  obtain ⟨st, off, a, held, begun, esc, lost⟩ := s
  simp [St.new] at q1 q2 q3 q4 h3
  subst q1 q2 q3 q4 h3
  exact ⟨a, lost, rfl⟩
end Go.Proofs.Ytibkhjpjneoabaa
