/- Plain laws: a stream with lengths, read as a whole. No walk. Plain laws: a stream with delimiters, read as a whole. No walk. -/
import Derived.Test.YtibkhjpjneoabaaPl
namespace Go.Proofs.Ytibkhjpjneoabaa
open Go.RowKit
set_option linter.unusedVariables false
set_option linter.unusedSimpArgs false

theorem readS_ext : ∀ (t h : List UInt8), (Vr.readS h false).2.2 ≠ 4 → Vr.readS (h ++ t) false = Vr.readS h false
  | [], h, _ => by rw [List.append_nil]
  | x :: t, h, hn => by
    have e : h ++ x :: t = (h ++ [x]) ++ t := by simp
    have e1 := Vr.readS_snoc_done x hn
    rw [e, readS_ext t (h ++ [x]) (by rw [e1]; exact hn), e1]
theorem readS_full {h : List UInt8} {x : UInt8} (h4 : (Vr.readS h false).2.2 = 4) (h0 : (Vr.readS (h ++ [x]) false).2.2 = 0) : (Vr.readS (h ++ [x]) false).2.1 = (h.length : Int) + 1 := by
  obtain ⟨h5, hall⟩ := Vr.readS_4 h4
  have ht : (h ++ [x]).take 5 = h ++ [x] := List.take_of_length_le (by simp; omega)
  by_cases hx : x.toNat < 128
  · have hi := Vr.ix_snoc_low hall hx
    rw [← ht] at hi
    by_cases hz : h.length = 0 ∨ ((h ++ [x]).take 5)[h.length]? ≠ some 0
    · rw [Vr.readS_some hi (.inr hz)]
    · rw [Vr.readS_zero hi (fun e => hz (.inl e)) (Classical.not_not.1 fun e => hz (.inr e))] at h0
      cases h0
  · have hi := Vr.ix_snoc_high hall (by omega : 128 ≤ x.toNat)
    rw [← ht] at hi
    by_cases h6 : (h ++ [x]).length < 5
    · rw [Vr.readS_short hi h6] at h0; cases h0
    · rw [Vr.readS_long hi (by omega)] at h0; cases h0

theorem preS_bad {m c : Int} {s : St} {x : UInt8} {h : List UInt8} (hh : s.held ++ [x] = h) (h1 : (Vr.readS h false).2.2 ≠ 0 ∨ m < (Vr.readS h false).1) (h2 : (Vr.beginsS h false 0 m).1 = false) :
    preS m c s x = ({ s with st := 2 }.ended, some ⟨s.at_, [], if (Vr.beginsS h false 0 34359738367).1 then 5 else 6⟩) := by
  subst hh
  unfold preS
  rw [if_pos h1, if_neg (by rw [h2]; decide)]
  split <;> rfl
/-- How far a frame is read: n - 1 bytes, too few of them. -/
structure PreI (m c : Int) (at_ : Nat) (rest : List UInt8) (n : Nat) : Prop where
  n1 : 1 ≤ n
  nl : n ≤ rest.length
  r4 : (Vr.readS (rest.take (n - 1)) false).2.2 = 4
  st : feedS 1 m c (midS at_ at_ [] false false) (rest.take (n - 1)) = (midS (at_ + (n - 1)) at_ (rest.take (n - 1)) false false, [])
section
variable {m c : Int} {at_ n : Nat} {rest : List UInt8}
theorem take_pred (n1 : 1 ≤ n) (nl : n ≤ rest.length) : ∃ x, rest.take n = rest.take (n - 1) ++ [x] ∧ rest[n - 1]? = some x := by
  have hlt : n - 1 < rest.length := by omega
  refine ⟨rest[n - 1], ?_, by simp [hlt]⟩
  have := List.take_succ_eq_append_getElem hlt
  rwa [show n - 1 + 1 = n by omega] at this
theorem PreI.one (h : 1 ≤ rest.length) : PreI m c at_ rest 1 := ⟨Nat.le_refl _, h, by rfl, by simp [feedS]⟩
theorem PreI.wait (h : PreI m c at_ rest n) (hw : ((Vr.readS (rest.take n) false).2.2 ≠ 0 ∨ m < (Vr.readS (rest.take n) false).1) ∧ (Vr.beginsS (rest.take n) false 0 m).1 = true ∨ ¬ ((Vr.readS (rest.take n) false).2.2 ≠ 0 ∨ m < (Vr.readS (rest.take n) false).1) ∧ ((rest.take n).length : Int) < (Vr.readS (rest.take n) false).2.1 + (Vr.readS (rest.take n) false).1 + tailN c) : feedS 1 m c (midS at_ at_ [] false false) (rest.take n) = (midS (at_ + n) at_ (rest.take n) false false, []) := by
  obtain ⟨x, hx, -⟩ := take_pred h.n1 h.nl
  rw [hx] at hw ⊢
  rw [feedS_snoc, h.st, pre_step, preS_wait (h := rest.take (n - 1) ++ [x]) rfl hw]
  simp [midS]
  have := h.n1
  omega
theorem PreI.four (hm : 0 ≤ m) (hm2 : m ≤ 4096) (hno : (Vr.readS (rest.take n) false).2.2 ≠ 0) (his : (Vr.beginsS (rest.take n) false 0 m).1 = true) : (Vr.readS (rest.take n) false).2.2 = 4 := by
  rw [Vr.begins_ok (by omega) hm (by omega), if_neg hno] at his
  by_cases h4 : (Vr.readS (rest.take n) false).2.2 = 4
  · exact h4
  · rw [if_pos h4] at his; cases his
theorem PreI.next (h : PreI m c at_ rest n) (hm : 0 ≤ m) (hm2 : m ≤ 4096) (hno : (Vr.readS (rest.take n) false).2.2 ≠ 0) (his : (Vr.beginsS (rest.take n) false 0 m).1 = true) (hl : n + 1 ≤ rest.length) : PreI m c at_ rest (n + 1) :=
  ⟨by omega, hl, by rw [Nat.add_sub_cancel]; exact PreI.four hm hm2 hno his, by rw [Nat.add_sub_cancel]; exact h.wait (.inl ⟨.inl hno, his⟩)⟩
theorem feed_start (a j : Nat) (hj : 1 ≤ j) (hl : 1 ≤ rest.length) : feedS 1 m c (gapS at_ a false) (rest.take j) = feedS 1 m c (midS at_ at_ [] false false) (rest.take j) := by
  cases rest with
  | nil => simp at hl
  | cons x r =>
    obtain ⟨i, rfl⟩ : ∃ i, j = i + 1 := ⟨j - 1, by omega⟩
    rw [List.take_succ_cons]
    exact pre_first m c at_ a false x _
theorem PreI.mid (h : PreI m c at_ rest n) (a : Nat) (hno : (Vr.readS (rest.take n) false).2.2 ≠ 0) (his : (Vr.beginsS (rest.take n) false 0 m).1 = true) (hl : n = rest.length) : feedS 1 m c (gapS at_ a false) rest = (midS (at_ + rest.length) at_ rest false false, []) := by
  have h1 := h.wait (.inl ⟨.inl hno, his⟩)
  rw [← feed_start a n h.n1 (by have := h.n1; omega), hl, List.take_length] at h1
  exact h1
theorem feed_broken (k : Int) (a : Nat) : ∀ (l : List UInt8) (o : Nat), feedS k m c ⟨2, o, a, [], false, false, false⟩ l = (⟨2, o + l.length, a, [], false, false, false⟩, [])
  | [], o => by simp [feedS]
  | x :: r, o => by
    simp only [feedS, stepS]
    rw [if_neg (by decide), if_pos trivial, feed_broken k a r (o + 1)]
    simp
    omega
theorem PreI.len (h : PreI m c at_ rest n) (h0 : (Vr.readS (rest.take n) false).2.2 = 0) : (Vr.readS (rest.take n) false).2.1 = (n : Int) := by
  obtain ⟨x, hx, -⟩ := take_pred h.n1 h.nl
  have h4 := h.r4
  rw [hx] at h0 ⊢
  rw [readS_full h4 h0, List.length_take]
  have := h.n1
  have := h.nl
  omega
theorem PreI.bad (h : PreI m c at_ rest n) (a : Nat) (hm : 0 ≤ m) (hm2 : m ≤ 4096) (his : (Vr.beginsS (rest.take n) false 0 m).1 = false) : feedS 1 m c (gapS at_ a false) rest = (⟨2, at_ + rest.length, at_, [], false, false, false⟩, [⟨at_, [], if (Vr.beginsS (rest.take n) false 0 34359738367).1 then 5 else 6⟩]) := by
  obtain ⟨x, hx, -⟩ := take_pred h.n1 h.nl
  have hb : (Vr.readS (rest.take n) false).2.2 ≠ 0 ∨ m < (Vr.readS (rest.take n) false).1 := by
    by_cases h0 : (Vr.readS (rest.take n) false).2.2 = 0
    · right
      have hl := h.len h0
      have h9 := Vr.readS_v0 (l := rest.take n) (loose := false)
      rw [Vr.begins_ok (by omega) hm (by omega), if_pos h0] at his
      simp only [decide_eq_false_iff_not] at his
      have hln : ((rest.take n).length : Int) = n := by rw [List.length_take]; have := h.nl; omega
      rw [hl, hln] at his
      rcases Int.lt_or_le m (Vr.readS (rest.take n) false).1 with h8 | h8
      · exact h8
      · exact absurd ⟨rfl, h9, h8⟩ his
    · exact .inl h0
  have key : feedS 1 m c (midS at_ at_ [] false false) (rest.take n) = (⟨2, at_ + n, at_, [], false, false, false⟩, [⟨at_, [], if (Vr.beginsS (rest.take n) false 0 34359738367).1 then 5 else 6⟩]) := by
    rw [hx] at hb his ⊢
    have hn := h.n1
    rw [feedS_snoc, h.st, pre_step, preS_bad (h := rest.take (n - 1) ++ [x]) rfl hb his]
    simp [midS, St.ended]
    omega
  have e2 : rest = rest.take n ++ rest.drop n := (List.take_append_drop n rest).symm
  conv => lhs; rw [e2]
  rw [feedS_app, feed_start a n h.n1 (by have := h.n1; have := h.nl; omega), key, feed_broken]
  have := h.nl
  simp
  omega
theorem PreI.vals (h : PreI m c at_ rest n) (hm : 0 ≤ m) (hm2 : m ≤ 4096) (hno : (Vr.readS (rest.take n) false).2.2 = 0) (his : (Vr.beginsS (rest.take n) false 0 m).1 = true) : ∃ v : Nat, Vr.readS (rest.take n) false = ((v : Int), (n : Int), 0) ∧ (v : Int) ≤ m := by
  have hl := h.len hno
  have h9 := Vr.readS_v0 (l := rest.take n) (loose := false)
  rw [Vr.begins_ok (by omega) hm (by omega), if_pos hno] at his
  simp only [decide_eq_true_eq] at his
  obtain ⟨h1, h2, h3⟩ := his
  generalize Vr.readS (rest.take n) false = r at *
  obtain ⟨r1, r2, r3⟩ := r
  simp only at hno hl h9 h3
  subst hno hl
  exact ⟨r1.toNat, by rw [Int.toNat_of_nonneg h9], by omega⟩
theorem PreI.read (h : PreI m c at_ rest n) {v : Nat} (hr : Vr.readS (rest.take n) false = ((v : Int), (n : Int), 0)) (j : Nat) (hj : n ≤ j) : Vr.readS (rest.take j) false = ((v : Int), (n : Int), 0) := by
  have e : rest.take j = rest.take n ++ (rest.drop n).take (j - n) := by rw [← take_add, show n + (j - n) = j by omega]
  rw [e, readS_ext _ _ (by rw [hr]; exact (by decide : (0 : Int) ≠ 4)), hr]
where take_add : rest.take (n + (j - n)) = rest.take n ++ (rest.drop n).take (j - n) := List.take_add
theorem PreI.held (h : PreI m c at_ rest n) {v : Nat} (hr : Vr.readS (rest.take n) false = ((v : Int), (n : Int), 0)) (hv : (v : Int) ≤ m) : ∀ d : Nat, n - 1 + d < n + v + tailN c → n - 1 + d ≤ rest.length → feedS 1 m c (midS at_ at_ [] false false) (rest.take (n - 1 + d)) = (midS (at_ + (n - 1 + d)) at_ (rest.take (n - 1 + d)) false false, [])
  | 0, _, _ => h.st
  | d + 1, hd, hl => by
    have hlt : n - 1 + d < rest.length := by omega
    have e1 := List.take_succ_eq_append_getElem hlt
    have hn := h.n1
    have hrd := h.read hr (n - 1 + d + 1) (by omega)
    rw [← Nat.add_assoc, e1, feedS_snoc, h.held hr hv d (by omega) (by omega), pre_step]
    rw [e1] at hrd
    rw [preS_wait (h := rest.take (n - 1 + d) ++ [rest[n - 1 + d]]) rfl (.inr ⟨by rw [hrd]; simp; omega, by rw [hrd, List.length_append, List.length_take]; simp; omega⟩)]
    simp [midS]
    omega
theorem PreI.short (h : PreI m c at_ rest n) (a : Nat) {v : Nat} (hr : Vr.readS (rest.take n) false = ((v : Int), (n : Int), 0)) (hv : (v : Int) ≤ m) (hs : rest.length < n + v + tailN c) : feedS 1 m c (gapS at_ a false) rest = (midS (at_ + rest.length) at_ rest false false, []) := by
  have hn := h.n1
  have hl := h.nl
  have h1 := h.held hr hv (rest.length - (n - 1)) (by omega) (by omega)
  rw [show n - 1 + (rest.length - (n - 1)) = rest.length by omega] at h1
  rw [← feed_start a _ (by omega) (by omega), List.take_length] at h1
  exact h1
theorem PreI.done (h : PreI m c at_ rest n) (a : Nat) {v e : Nat} (hr : Vr.readS (rest.take n) false = ((v : Int), (n : Int), 0)) (hv : (v : Int) ≤ m) (he : e = n + v + tailN c) (hs : e ≤ rest.length) : feedS 1 m c (gapS at_ a false) (rest.take e) = (gapS (at_ + e) at_ false, [openS c at_ ((rest.take e).drop n)]) := by
  have hn := h.n1
  have h1 := h.held hr hv (e - n) (by omega) (by omega)
  rw [show n - 1 + (e - n) = e - 1 by omega] at h1
  have hlt : e - 1 < rest.length := by omega
  have e1 := List.take_succ_eq_append_getElem hlt
  rw [show e - 1 + 1 = e by omega] at e1
  have hrd := h.read hr e (by omega)
  have hlen : (rest.take e).length = e := by rw [List.length_take]; omega
  rw [feed_start a e (by omega) (by omega)]
  conv => lhs; rw [e1]
  rw [feedS_snoc, h1, pre_step, preS_done (h := rest.take e) e1.symm (by rw [hrd]; simp; omega) (by rw [hrd, hlen]; simp; omega), hrd]
  have e3 : ((rest.take e).drop ((n : Int)).toNat).take ((v : Int).toNat + tailN c) = (rest.take e).drop n := by
    rw [Int.toNat_natCast, Int.toNat_natCast]
    exact List.take_of_length_le (by rw [List.length_drop, hlen]; omega)
  rw [e3]
  simp [midS, gapS, St.ended]
  omega
end
end Go.Proofs.Ytibkhjpjneoabaa

namespace Go.Proofs.Ytibkhjpjneoabaa
open Go.RowKit
set_option linter.unusedVariables false
set_option linter.unusedSimpArgs false

theorem ofNat_u8 (d : UInt8) : BitVec.ofNat 8 d.toNat = d.toBitVec := by
  apply BitVec.eq_of_toNat_eq
  have := d.toNat_lt
  simp
theorem xor_u8 (d : UInt8) : bits BinOp.xor IntKind.u8 (d.toNat : Int) 32 = ((d ^^^ 32).toNat : Int) := by
  show IntKind.u8.wrap ((BitVec.ofInt 8 (d.toNat : Int) ^^^ BitVec.ofInt 8 32).toNat : Int) = _
  have h1 : BitVec.ofInt 8 (d.toNat : Int) = d.toBitVec := by
    rw [BitVec.ofInt_natCast]
    exact ofNat_u8 d
  have h2 : (BitVec.ofInt 8 (d.toNat : Int) ^^^ BitVec.ofInt 8 32).toNat = (d ^^^ 32).toNat := by
    rw [h1]; rfl
  rw [h2]
  have := (d ^^^ 32).toNat_lt
  rw [IntKind.wrap_u8]; omega
theorem xor_back (d : UInt8) : (d ^^^ 32) ^^^ 32 = d := by
  rw [UInt8.xor_assoc, UInt8.xor_self, UInt8.xor_zero]
theorem xor_126 (d : UInt8) : d ^^^ 32 = 126 ↔ d = 94 := ⟨fun h => by have := xor_back d; rw [h] at this; rw [← this]; decide, fun h => by subst h; decide⟩
theorem xor_125 (d : UInt8) : d ^^^ 32 = 125 ↔ d = 93 := ⟨fun h => by have := xor_back d; rw [h] at this; rw [← this]; decide, fun h => by subst h; decide⟩

/-- A reader that skips. -/
def skipS (off a : Nat) : St := ⟨1, off, a, [], false, false, false⟩
section
variable {m c : Int} {o a : Nat} {s : List UInt8} {x : UInt8}
theorem skip_on (hx : x ≠ 126) : stepS 2 m c (skipS o a) x = (skipS (o + 1) a, none) := by simp [stepS, skipS, hx]
theorem skip_off : stepS 2 m c (skipS o a) 126 = (gapS (o + 1) a false, none) := by simp [stepS, skipS, gapS]
theorem gap_flag : stepS 2 m c (gapS o a false) 126 = (gapS (o + 1) a false, none) := by simp [stepS, gapS]
theorem mid_esc : stepS 2 m c (midS o a s false false) 125 = (midS (o + 1) a s true false, none) := by simp [stepS, midS, readB, delS]
theorem mid_end : stepS 2 m c (midS o a s false false) 126 = (gapS (o + 1) a false, some (openS c a s)) := by simp [stepS, midS, gapS, readB, delS, St.ended]
theorem mid_push (h1 : x ≠ 126) (h2 : x ≠ 125) (hl : ((s.length + 1 : Nat) : Int) ≤ m + tailN c) : stepS 2 m c (midS o a s false false) x = (midS (o + 1) a (s ++ [x]) false false, none) := by
  have hn : ¬ (m + tailN c < ((s.length : Int) + 1)) := by omega
  simp [stepS, midS, readB, delS, pushS, h1, h2, hn]
theorem mid_long (h1 : x ≠ 126) (h2 : x ≠ 125) (hl : m + tailN c < ((s.length + 1 : Nat) : Int)) : stepS 2 m c (midS o a s false false) x = (skipS (o + 1) a, some ⟨a, [], 5⟩) := by
  have hn : m + tailN c < ((s.length : Int) + 1) := by omega
  simp [stepS, midS, readB, delS, pushS, damS, skipS, St.ended, h1, h2, hn]
theorem esc_push (h1 : x = 94 ∨ x = 93) (hl : ((s.length + 1 : Nat) : Int) ≤ m + tailN c) : stepS 2 m c (midS o a s true false) x = (midS (o + 1) a (s ++ [x ^^^ 32]) false false, none) := by
  have hn : ¬ (m + tailN c < ((s.length : Int) + 1)) := by omega
  simp [stepS, midS, readB, delS, pushS, h1, hn]
theorem esc_long (h1 : x = 94 ∨ x = 93) (hl : m + tailN c < ((s.length + 1 : Nat) : Int)) : stepS 2 m c (midS o a s true false) x = (skipS (o + 1) a, some ⟨a, [], 5⟩) := by
  have hn : m + tailN c < ((s.length : Int) + 1) := by omega
  have h2 : x ≠ 126 := by rcases h1 with rfl | rfl <;> decide
  simp [stepS, midS, readB, delS, pushS, damS, skipS, St.ended, h1, h2, hn]
theorem esc_bad (h1 : ¬ (x = 94 ∨ x = 93)) : stepS 2 m c (midS o a s true false) x = ((stepS 2 m c (skipS o a) x).1, some ⟨a, [], 6⟩) := by
  by_cases h2 : x = 126
  · subst h2
    simp [stepS, midS, readB, delS, damS, skipS, St.ended]
  · simp [stepS, midS, readB, delS, damS, skipS, St.ended, h1, h2]
theorem skip_none (x : UInt8) : (stepS 2 m c (skipS o a) x).2 = none := by
  by_cases h : x = 126
  · subst h; rw [skip_off]
  · rw [skip_on h]
end

/-- k bytes of the stream, of which at_ lie ahead of the frame, held sealed bytes. -/
structure DelJ (m c : Int) (at_ : Nat) (bs : List UInt8) (k : Nat) (s : List UInt8) : Prop where
  le : at_ ≤ k
  kl : k ≤ bs.length
  st : feedS 2 m c (midS at_ at_ [] false false) ((bs.drop at_).take (k - at_)) = (midS k at_ s false false, [])
  len : (s.length : Int) ≤ m + tailN c
/-- A damaged frame, of which k is the place behind what is read. -/
structure DelB (m c : Int) (at_ : Nat) (bs : List UInt8) (k : Nat) (code : Int) : Prop where
  le : at_ ≤ k
  kl : k ≤ bs.length
  st : ∀ a, feedS 2 m c (gapS at_ a false) (bs.drop at_) = ((feedS 2 m c (skipS k at_) (bs.drop k)).1, ⟨at_, [], code⟩ :: (feedS 2 m c (skipS k at_) (bs.drop k)).2)
section
variable {m c : Int} {at_ k : Nat} {bs s : List UInt8}
theorem seg_snoc (h : at_ ≤ k) (hk : k < bs.length) : (bs.drop at_).take (k + 1 - at_) = (bs.drop at_).take (k - at_) ++ [bs[k]] := by
  have h1 : k - at_ < (bs.drop at_).length := by simp; omega
  rw [show k + 1 - at_ = k - at_ + 1 by omega, List.take_succ_eq_append_getElem h1]
  congr 2
  simp
  congr 1
  omega
theorem seg_rest (h : at_ ≤ k) : bs.drop at_ = (bs.drop at_).take (k - at_) ++ bs.drop k := by
  conv => lhs; rw [← List.take_append_drop (k - at_) (bs.drop at_)]
  rw [List.drop_drop, show at_ + (k - at_) = k by omega]
theorem DelJ.zero (hm : 0 ≤ m) (h : at_ ≤ bs.length) : DelJ m c at_ bs at_ [] := ⟨Nat.le_refl _, h, by simp [feedS], by simp; omega⟩
theorem DelJ.start (h : at_ < bs.length) (h1 : bs[at_] ≠ 126) (a : Nat) : feedS 2 m c (gapS at_ a false) (bs.drop at_) = feedS 2 m c (midS at_ at_ [] false false) (bs.drop at_) := by
  have e : bs.drop at_ = bs[at_] :: bs.drop (at_ + 1) := List.drop_eq_getElem_cons h
  rw [e]
  exact del_first m c at_ a false _ _ h1
theorem DelJ.go (h : DelJ m c at_ bs k s) : feedS 2 m c (midS at_ at_ [] false false) (bs.drop at_) = feedS 2 m c (midS k at_ s false false) (bs.drop k) := by
  rw [seg_rest h.le, feedS_app, h.st]
  simp
theorem DelJ.push (h : DelJ m c at_ bs k s) (hk : k < bs.length) (h1 : bs[k] ≠ 126) (h2 : bs[k] ≠ 125) (hl : ((s.length + 1 : Nat) : Int) ≤ m + tailN c) : DelJ m c at_ bs (k + 1) (s ++ [bs[k]]) :=
  ⟨by have := h.le; omega, hk, by rw [seg_snoc h.le hk, feedS_snoc, h.st, mid_push h1 h2 hl]; rfl, by simpa using hl⟩
theorem DelJ.push2 (h : DelJ m c at_ bs k s) (hk : k + 1 < bs.length) (h1 : bs[k] = 125) (h2 : bs[k + 1] = 94 ∨ bs[k + 1] = 93) (hl : ((s.length + 1 : Nat) : Int) ≤ m + tailN c) : DelJ m c at_ bs (k + 2) (s ++ [bs[k + 1] ^^^ 32]) := by
  have hle := h.le
  refine ⟨by omega, hk, ?_, by simpa using hl⟩
  have e := seg_snoc (bs := bs) (k := k + 1) (by omega : at_ ≤ k + 1) hk
  rw [show k + 2 - at_ = k + 1 + 1 - at_ by omega, e, feedS_snoc, seg_snoc hle (by omega), feedS_snoc, h.st, h1, mid_esc, esc_push h2 hl]
  rfl
theorem DelJ.long (h : DelJ m c at_ bs k s) (h0 : at_ < bs.length) (h9 : bs[at_] ≠ 126) (hk : k < bs.length) (h1 : bs[k] ≠ 126) (h2 : bs[k] ≠ 125) (hl : m + tailN c < ((s.length + 1 : Nat) : Int)) : DelB m c at_ bs (k + 1) 5 :=
  ⟨by have := h.le; omega, hk, fun a => by
    rw [DelJ.start h0 h9 a, h.go, List.drop_eq_getElem_cons hk]
    simp only [feedS]
    rw [mid_long h1 h2 hl]
    simp⟩
theorem DelJ.long2 (h : DelJ m c at_ bs k s) (h0 : at_ < bs.length) (h9 : bs[at_] ≠ 126) (hk : k + 1 < bs.length) (h1 : bs[k] = 125) (h2 : bs[k + 1] = 94 ∨ bs[k + 1] = 93) (hl : m + tailN c < ((s.length + 1 : Nat) : Int)) : DelB m c at_ bs (k + 2) 5 :=
  ⟨by have := h.le; omega, hk, fun a => by
    have hk1 : k < bs.length := by omega
    rw [DelJ.start h0 h9 a, h.go, List.drop_eq_getElem_cons hk1, List.drop_eq_getElem_cons hk]
    simp only [feedS]
    rw [h1, mid_esc, esc_long h2 hl]
    simp⟩
theorem DelJ.bad (h : DelJ m c at_ bs k s) (h0 : at_ < bs.length) (h9 : bs[at_] ≠ 126) (hk : k + 1 < bs.length) (h1 : bs[k] = 125) (h2 : ¬ (bs[k + 1] = 94 ∨ bs[k + 1] = 93)) : DelB m c at_ bs (k + 1) 6 :=
  ⟨by have := h.le; omega, by omega, fun a => by
    have hk1 : k < bs.length := by omega
    rw [DelJ.start h0 h9 a, h.go, List.drop_eq_getElem_cons hk1, List.drop_eq_getElem_cons hk]
    simp only [feedS]
    rw [h1, mid_esc, esc_bad h2, skip_none]
    simp⟩
theorem DelJ.half (h : DelJ m c at_ bs k s) (h0 : at_ < bs.length) (h9 : bs[at_] ≠ 126) (hk : k + 1 = bs.length) (h1 : bs[k]'(by omega) = 125) (a : Nat) : feedS 2 m c (gapS at_ a false) (bs.drop at_) = (midS (k + 1) at_ s true false, []) := by
  have hk1 : k < bs.length := by omega
  rw [DelJ.start h0 h9 a, h.go, List.drop_eq_getElem_cons hk1, List.drop_of_length_le (by omega)]
  simp only [feedS]
  rw [h1, mid_esc]
  simp
theorem DelJ.mid (h : DelJ m c at_ bs k s) (h0 : at_ < bs.length) (h9 : bs[at_] ≠ 126) (hk : k = bs.length) (a : Nat) : feedS 2 m c (gapS at_ a false) (bs.drop at_) = (midS k at_ s false false, []) := by
  rw [DelJ.start h0 h9 a, h.go, List.drop_of_length_le (by omega)]
  simp [feedS]
theorem DelJ.done (h : DelJ m c at_ bs k s) (h0 : at_ < bs.length) (h9 : bs[at_] ≠ 126) (hk : k < bs.length) (h1 : bs[k] = 126) (a : Nat) : feedS 2 m c (gapS at_ a false) (bs.drop at_) = ((feedS 2 m c (gapS (k + 1) at_ false) (bs.drop (k + 1))).1, openS c at_ s :: (feedS 2 m c (gapS (k + 1) at_ false) (bs.drop (k + 1))).2) := by
  rw [DelJ.start h0 h9 a, h.go, List.drop_eq_getElem_cons hk]
  simp only [feedS]
  rw [h1, mid_end]
  simp
theorem skip_go (hk : k < bs.length) (h1 : bs[k] ≠ 126) : feedS 2 m c (skipS k at_) (bs.drop k) = feedS 2 m c (skipS (k + 1) at_) (bs.drop (k + 1)) := by
  rw [List.drop_eq_getElem_cons hk]
  simp only [feedS]
  rw [skip_on h1]
  simp
theorem skip_stop (hk : k < bs.length) (h1 : bs[k] = 126) : feedS 2 m c (skipS k at_) (bs.drop k) = feedS 2 m c (gapS (k + 1) at_ false) (bs.drop (k + 1)) := by
  rw [List.drop_eq_getElem_cons hk]
  simp only [feedS]
  rw [h1, skip_off]
  simp
theorem skip_end (hk : bs.length ≤ k) : feedS 2 m c (skipS k at_) (bs.drop k) = (skipS k at_, []) := by
  rw [List.drop_of_length_le hk]; simp [feedS]
theorem DelB.skip {code : Int} (h : DelB m c at_ bs k code) (hk : k < bs.length) (h1 : bs[k] ≠ 126) : DelB m c at_ bs (k + 1) code := ⟨by have := h.le; omega, hk, fun a => by rw [h.st a, skip_go hk h1]⟩
theorem gap_go (hk : k < bs.length) (h1 : bs[k] = 126) (a : Nat) : feedS 2 m c (gapS k a false) (bs.drop k) = feedS 2 m c (gapS (k + 1) a false) (bs.drop (k + 1)) := by
  rw [List.drop_eq_getElem_cons hk]
  simp only [feedS]
  rw [h1, gap_flag]
  simp
end

/-- Where the outer loop stands: the results so far, and what the rest yields. -/
def DelT (m c : Int) (bs : List UInt8) (at_ : Nat) (fs : List Fr) : Prop :=
  (at_ ≤ bs.length ∧ ∃ a, feedS 2 m c St.new bs = ((feedS 2 m c (gapS at_ a false) (bs.drop at_)).1, fs ++ (feedS 2 m c (gapS at_ a false) (bs.drop at_)).2)) ∨ (at_ = bs.length + 1 ∧ ∃ o a, feedS 2 m c St.new bs = (skipS o a, fs))
theorem feedS_cnt3 (k m c : Int) : ∀ (l : List UInt8) (s : St), (feedS k m c s l).2.length ≤ l.length
  | [], s => by simp [feedS]
  | x :: r, s => by
    have := feedS_cnt3 k m c r (stepS k m c s x).1
    simp only [feedS, List.length_append, List.length_cons]
    cases (stepS k m c s x).2 <;> simp <;> omega
section
variable {m c : Int} {at_ k : Nat} {bs : List UInt8} {fs : List Fr}
theorem DelT.zero : DelT m c bs 0 [] := .inl ⟨by omega, 0, by simp; rfl⟩
theorem DelT.cnt (h : DelT m c bs at_ fs) : fs.length ≤ bs.length := by
  have h1 := feedS_cnt3 2 m c bs St.new
  rcases h with ⟨_, a, ha⟩ | ⟨_, o, a, ha⟩ <;> rw [ha] at h1 <;> simp at h1 <;> omega
theorem DelT.le (h : DelT m c bs at_ fs) : at_ ≤ bs.length + 1 := by
  rcases h with ⟨h, _⟩ | ⟨h, _⟩ <;> omega
theorem DelT.flag (h : DelT m c bs at_ fs) (hk : at_ < bs.length) (h1 : bs[at_] = 126) : DelT m c bs (at_ + 1) fs := by
  rcases h with ⟨h, a, ha⟩ | ⟨h, _⟩
  · rw [gap_go hk h1 a] at ha
    exact .inl ⟨by omega, a, ha⟩
  · omega
theorem DelT.open_ {s : List UInt8} (h : DelT m c bs at_ fs) (hj : DelJ m c at_ bs k s) (h0 : at_ < bs.length) (h9 : bs[at_] ≠ 126) (hk : k < bs.length) (h1 : bs[k] = 126) : DelT m c bs (k + 1) (fs ++ [openS c at_ s]) := by
  rcases h with ⟨h, a, ha⟩ | ⟨h, _⟩
  · rw [hj.done h0 h9 hk h1 a] at ha
    exact .inl ⟨by omega, at_, by rw [ha]; simp⟩
  · omega
theorem DelT.dam {code : Int} (h : DelT m c bs at_ fs) (h0 : at_ < bs.length) (hb : DelB m c at_ bs k code) (hk : (∃ hk : k < bs.length, bs[k] = 126) ∨ k = bs.length) : DelT m c bs (k + 1) (fs ++ [⟨at_, [], code⟩]) := by
  rcases h with ⟨h, a, ha⟩ | ⟨h, _⟩
  · rw [hb.st a] at ha
    rcases hk with ⟨hk, h1⟩ | hk
    · rw [skip_stop hk h1] at ha
      exact .inl ⟨by omega, at_, by rw [ha]; simp⟩
    · rw [skip_end (by omega)] at ha
      exact .inr ⟨by omega, k, at_, by rw [ha]⟩
  · omega
theorem DelT.fin (h : DelT m c bs at_ fs) (hk : bs.length ≤ at_) : (feedS 2 m c St.new bs).1.st ≠ 2 ∧ (feedS 2 m c St.new bs).1.begun = false ∧ (feedS 2 m c St.new bs).2 = fs := by
  rcases h with ⟨h, a, ha⟩ | ⟨h, o, a, ha⟩
  · rw [List.drop_of_length_le hk] at ha
    rw [ha]
    simp [feedS, gapS]
  · rw [ha]
    simp [skipS]
theorem DelT.stop {s : List UInt8} {e : Bool} {o : Nat} (h : DelT m c bs at_ fs) (h0 : at_ < bs.length) (hm : ∀ a, feedS 2 m c (gapS at_ a false) (bs.drop at_) = (midS o at_ s e false, [])) : feedS 2 m c St.new bs = (midS o at_ s e false, fs) := by
  rcases h with ⟨h, a, ha⟩ | ⟨h, _⟩
  · rw [ha, hm a]
    simp
  · omega
end
end Go.Proofs.Ytibkhjpjneoabaa
