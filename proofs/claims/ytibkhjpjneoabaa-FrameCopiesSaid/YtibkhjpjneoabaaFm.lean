/- Lists of results: what a loop over a step keeps. Hardly any program. each: the results of bytes. Feed. Same, of equal lists. -/
import Derived.Test.YtibkhjpjneoabaaFl
import Derived.Test.YtibkhjpjneoabaaSz
import Derived.WideMake
namespace Go.Proofs.Ytibkhjpjneoabaa
open Go.RowKit
set_option linter.unusedVariables false
set_option linter.unusedSimpArgs false

/-- A result that lies in a list. -/
structure Fd where
  fr : Fr
  A : Option Addr
  n : Nat
  cp : Nat
def Fd.val (d : Fd) : Value := .slice d.A d.n d.cp
def Fd.cells (d : Fd) : List Value := [.int .i64 (d.fr.at_ : Int), d.val, .int .i64 d.fr.code]
/-- A list of results. -/
structure FrL (w : World) (B : Nat) (v : Value) (ds : List Fd) : Prop where
  own : w.ownsRow B 44 3 v ds.length (ds.flatMap Fd.cells)
  rows : ∀ d ∈ ds, w.ownsRow B 5 1 d.val d.n (d.fr.bytes.map u8)
theorem own_neB {w : World} {B n g sz : Nat} {e t : TypeId} {v : Value} {xs : List Value} {cs : Array Value} (h : w.ownsRow B e sz v n xs) (hg : Blk w g t cs) (ht : t ≠ e) : v.ownBlock ≠ some g := by
  rcases h.2 with ⟨rfl, _⟩ | ⟨g', cap, cur, rfl, _, hh, _⟩
  · simp [Value.ownBlock]
  · intro he
    have hgg : g' = g := by simpa [Value.ownBlock] using he
    subst hgg
    unfold Blk at hg
    rw [hh] at hg
    injection hg with hg
    injection hg with _ ht2
    exact ht ht2.symm
theorem FrL.only {w w' : World} {B : Nat} {v : Value} {ds : List Fd} {p : Nat → Prop} (h : FrL w B v ds) (ho : Only p w w') (h1 : ∀ j, v.ownBlock = some j → ¬ p j) (h2 : ∀ d ∈ ds, ∀ j, d.val.ownBlock = some j → ¬ p j) : FrL w' B v ds :=
  ⟨own_only h.own ho h1, fun d hd => own_only (h.rows d hd) ho (h2 d hd)⟩
theorem FrL.below {w w' : World} {B : Nat} {v : Value} {ds : List Fd} (h : FrL w B v ds) (hb : Below w.heap.size w w') : FrL w' B v ds := h.only (Only.of_below (p := fun _ => False) hb) (fun _ _ x => x) fun _ _ _ _ x => x
/-- What the loop over a step keeps. -/
structure EaI (w W : World) (B r : Nat) (k m c : Int) (v : Value) (s : St) (out v1 : Value) (ds : List Fd) : Prop where
  rd : RdS W B r k m c v1 s
  only : Only (SFo r v) w W
  hat : Hat v v1 w
  frs : FrL W w.heap.size out ds
  apart : ∀ d ∈ ds, ∀ j, d.val.ownBlock = some j → v1.ownBlock ≠ some j
section
variable {w W W2 : World} {B r : Nat} {k m c : Int} {v out v1 v2 : Value} {s s2 : St} {ds : List Fd}
theorem EaI.below (h : EaI w W B r k m c v s out v1 ds) (hb : Below W.heap.size W W2) : EaI w W2 B r k m c v s out v1 ds := ⟨h.rd.below hb, h.only.below hb, h.hat, h.frs.below hb, h.apart⟩
theorem EaI.step (h : EaI w W B r k m c v s out v1 ds) (d : StepD W W2 B r k m c v1 v2 s2) : EaI w W2 B r k m c v s2 out v2 ds := by
  refine ⟨d.rd, h.only.trans d.only h.hat.sfo, h.hat.trans d.hat h.only.size, h.frs.only d.only (fun j hj e => ?_) (fun x hx j hj e => ?_), fun x hx j hj e => ?_⟩
  · rcases e with e | e
    · subst e; exact own_neB h.frs.own h.rd.blk (by decide) hj
    · exact own_neS h.frs.own h.rd.own (by decide) j hj e
  · rcases e with e | e
    · subst e; exact own_neB (h.frs.rows x hx) h.rd.blk (by decide) hj
    · exact h.apart x hx j hj e
  · rcases d.hat with e2 | e2
    · exact h.apart x hx j hj (e2 ▸ e)
    · have := e2 j e
      have := own_lt (h.frs.rows x hx) j hj
      omega
theorem FrL.push {o : Obj} {out2 : Value} {d : Fd} (h : FrL W B out ds) (hd : W.ownsRow B 5 1 d.val d.n (d.fr.bytes.map u8)) (hown : W2.ownsRow B 44 3 out2 (ds.length + 1) (ds.flatMap Fd.cells ++ d.cells)) (hg : (W.alloc o).grownBy W2 out.ownBlock) : FrL W2 B out2 (ds ++ [d]) := by
  refine ⟨by simpa using hown, fun x hx => ?_⟩
  rcases List.mem_append.1 hx with hx | hx
  · exact own_apartS (h.rows x hx) h.own (by decide) hg
  · obtain rfl : x = d := by simpa using hx
    exact own_apartS hd h.own (by decide) hg
end
theorem feedS_snoc (k m c : Int) (l : List UInt8) (x : UInt8) : ∀ s : St, feedS k m c s (l ++ [x]) = ((stepS k m c (feedS k m c s l).1 x).1, (feedS k m c s l).2 ++ (stepS k m c (feedS k m c s l).1 x).2.toList) := by
  induction l with
  | nil => intro s; simp [feedS]
  | cons y l ih => intro s; simp only [List.cons_append, feedS, ih]; simp [List.append_assoc]
theorem openS_at (c : Int) (a : Nat) (l : List UInt8) : True := trivial
theorem stepS_nil (k m c : Int) (s : St) (x : UInt8) (f : Fr) (h : (stepS k m c s x).2 = some f) : (stepS k m c s x).1.held = [] := by
  have hd : ∀ (s : St) (y : UInt8), (damS s x 5).1.held = [] := fun s y => rfl
  have hpu : ∀ (s : St) (y : UInt8), (pushS m c s x y).2 = some f → (pushS m c s x y).1.held = [] := fun s y h => by
    unfold pushS at h ⊢
    split at h
    · rename_i hc; rw [if_pos hc]; rfl
    · cases h
  have hde : ∀ s : St, (delS m c s x).2 = some f → (delS m c s x).1.held = [] := fun s h => by
    unfold delS at h ⊢
    split at h
    · rename_i hc; rw [if_pos hc]
      split at h
      · rename_i hc; rw [if_pos hc]; exact hpu _ _ h
      · rename_i hc; rw [if_neg hc]; rfl
    · rename_i hc; rw [if_neg hc]
      split at h
      · rename_i hc; rw [if_pos hc]; rfl
      · rename_i hc; rw [if_neg hc]
        split at h
        · cases h
        · rename_i hc; rw [if_neg hc]; exact hpu _ _ h
  have hpr : ∀ s : St, (preS m c s x).2 = some f → (preS m c s x).1.held = [] := fun s h => by
    unfold preS at h ⊢
    simp only at h ⊢
    split at h
    · rename_i hc; rw [if_pos hc]
      split at h
      · cases h
      · rename_i hc; rw [if_neg hc]
        split at h
        · rename_i hc; rw [if_pos hc]; rfl
        · rename_i hc; rw [if_neg hc]; rfl
    · rename_i hc; rw [if_neg hc]
      split at h
      · cases h
      · rename_i hc; rw [if_neg hc]; rfl
  have hrd : ∀ s : St, (readB k m c s x).2 = some f → (readB k m c s x).1.held = [] := fun s h => by
    unfold readB at h ⊢
    split at h
    · rename_i hc; rw [if_pos hc]; exact hpr _ h
    · rename_i hc; rw [if_neg hc]; exact hde _ h
  unfold stepS at h ⊢
  split at h
  · cases h
  · rename_i hc; rw [if_neg hc]
    split at h
    · cases h
    · rename_i hc; rw [if_neg hc]
      split at h
      · rename_i hc; rw [if_pos hc]; exact hrd _ h
      · rename_i hc; rw [if_neg hc]
        split at h
        · cases h
        · rename_i hc; rw [if_neg hc]; exact hrd _ h
/-- A step holds one byte more at most, and goes one byte on. -/
theorem stepS_len (k m c : Int) (s : St) (x : UInt8) : (stepS k m c s x).1.held.length ≤ s.held.length + 1 ∧ (stepS k m c s x).1.off = s.off + 1 := by
  have hpu : ∀ (s : St) (y : UInt8), (pushS m c s x y).1.held.length ≤ s.held.length + 1 ∧ (pushS m c s x y).1.off = s.off := fun s y => by
    unfold pushS damS
    split
    · split <;> simp [St.ended]
    · simp
  have hde : ∀ s : St, (delS m c s x).1.held.length ≤ s.held.length + 1 ∧ (delS m c s x).1.off = s.off := fun s => by
    unfold delS
    split
    · split
      · exact hpu _ _
      · unfold damS; split <;> simp [St.ended]
    · split
      · simp [St.ended]
      · split
        · simp
        · exact hpu _ _
  have hpr : ∀ s : St, (preS m c s x).1.held.length ≤ s.held.length + 1 ∧ (preS m c s x).1.off = s.off := fun s => by
    unfold preS
    simp only
    split
    · split
      · simp
      · split <;> simp [St.ended]
    · split <;> simp [St.ended]
  have hrd : ∀ s : St, (readB k m c s x).1.held.length ≤ s.held.length + 1 ∧ (readB k m c s x).1.off = s.off := fun s => by
    unfold readB
    split
    · exact hpr _
    · exact hde _
  unfold stepS
  split
  · simp
  · split
    · simp
    · split
      · exact hrd _
      · split
        · simp
        · exact hrd _
theorem feedS_len (k m c : Int) (l : List UInt8) : ∀ s : St, (feedS k m c s l).1.held.length ≤ s.held.length + l.length ∧ (feedS k m c s l).1.off = s.off + l.length := by
  induction l with
  | nil => intro s; simp [feedS]
  | cons x l ih =>
    intro s
    have h1 := stepS_len k m c s x
    have h2 := ih (stepS k m c s x).1
    simp only [feedS, List.length_cons]
    omega
end Go.Proofs.Ytibkhjpjneoabaa

namespace Go.Proofs.Ytibkhjpjneoabaa
open Go.RowKit
set_option linter.unusedVariables false
set_option linter.unusedSimpArgs false

theorem els40 : ElS Try.prog 40 44 3 40 := ElS.mk' (z := .agg #[.int .i64 0, .slice none 0 0, .int .i64 0]) Try.underlying40 (by kernel_rfl) rfl (by omega)
theorem fd_one (d : Fd) : ∀ u ∈ d.cells, u.oneCell' = true := by
  intro u hu
  simp [Fd.cells, Fd.val] at hu
  rcases hu with rfl | rfl | rfl <;> rfl

theorem EaI.pushed {w W W2 : World} {B r : Nat} {k m c : Int} {v out v1 out2 : Value} {s : St} {ds es : List Fd} {o : Obj} (h : EaI w W B r k m c v s out v1 ds) (hn : v1.ownBlock = none) (hg : (W.alloc o).grownBy W2 out.ownBlock) (hf : FrL W2 w.heap.size out2 es) : EaI w W2 B r k m c v s out2 v1 es := by
  have hon : Only (fun g => out.ownBlock = some g) W W2 := Only.grown (Only.of_below ((Below.refl _ W).alloc (Nat.le_refl _) o)) hg fun g e _ => e
  have hlo : ∀ g, out.ownBlock = some g → w.heap.size ≤ g := fun g e => (h.frs.own.lt g e).1
  refine ⟨h.rd.only hon fun q hq e => ?_, (h.only.trans (hon.mono (q := fun g => w.heap.size ≤ g) fun b _ e => hlo b e) fun b hb e => absurd e (by omega)), h.hat, hf, fun d hd j hj e => by rw [hn] at e; cases e⟩
  rcases hq with rfl | hq
  · exact own_neB h.frs.own h.rd.blk (by decide) e
  · rw [hn] at hq; cases hq
/-- What each returns and leaves. -/
def Eached (w : World) (B r : Nat) (k m c : Int) (v : Value) (s : St) (l : List UInt8) (e : Ending) (w' : World) : Prop := ∃ out v' ds, e = .returned out ∧ EaI w w' B r k m c v (feedS k m c s l).1 out v' ds ∧ ds.map Fd.fr = (feedS k m c s l).2

set_option maxRecDepth 100000 in
set_option maxHeartbeats 4000000 in
theorem each_any (B r br bf : Nat) (k m c : Int) (v : Value) (s : St) (A : Option Addr) (n cp : Nat) (l : List UInt8) (w : World) (hF : OkF k m c) (hs : RdS w B r k m c v s) (hr : RB w A n cp l) (sep : ∀ a, A = some a → 0 < n → ¬ SFo r v a.block) (hl : s.held.length + n ≤ 40000) (ho : s.off + n ≤ 1000000) (hg : Blk w br 37 #[.pointer (some ⟨r, 0, none⟩)]) (hf : Blk w bf 67 #[.func (.func (fnOf k)) #[] #[]]) :
    Calls Try.prog 35 #[.slice A n cp, .func (.func 36) #[] #[.pointer (some ⟨br, 0, none⟩), .pointer (some ⟨bf, 0, none⟩)]] w (Eached w B r k m c v s l) := by
  have HF := Lib.hid hF
  have HS := Lib.hid hs
  have HR := Lib.hid hr
  have SEP := Lib.hid sep
  have HL := Lib.hid hl
  have HO := Lib.hid ho
  have HG := Lib.hid hg
  have HV := Lib.hid hf
  have hn : (n : Int) ≤ 40000 := by omega
  have GSEP := Lib.hid (show ¬ SFo r v br from fun e => by
    rcases e with e | e
    · exact (hs.blk.ne hg (by decide)) e.symm
    · exact own_ne hs.own hg (by decide) e)
  have FSEP := Lib.hid (show ¬ SFo r v bf from fun e => by
    rcases e with e | e
    · exact (hs.blk.ne hf (by decide)) e.symm
    · exact own_ne hs.own hf (by decide) e)
  clear hF hs hr sep hl ho hg hf
  go_enter Try.func35, Try.ntmps35
  go_wp2_with fail
  go_loopw [4, 11] (fun oo ii wr => ∃ (i : Nat) (out v1 : Value) (ds : List Fd), (i : Int) ≤ n ∧ ii = .int .i64 i ∧ out = oo ∧ Hid (EaI w wr B r k m c v (feedS k m c s (l.take i)).1 out v1 ds ∧ ds.map Fd.fr = (feedS k m c s (l.take i)).2 ∧ ds.length ≤ i)) (fun _ ii _ => n - (intOf ii).toNat)
  case atStart => exact ⟨0, .slice none 0 0, v, [], by omega, rfl, rfl, Lib.hid ⟨⟨HS.out, Only.refl _ _, Hat.refl _ _, ⟨World.ownsRow_nil _ _ 44 3, fun _ h => by cases h⟩, fun _ h => by cases h⟩, rfl, Nat.le_refl _⟩⟩
  case round =>
    obtain ⟨i, out, v1, ds, hi, rfl, rfl, HI⟩ := hrel
    have hi0 : (0 : Int) ≤ i := by omega
    obtain ⟨wo, rfl⟩ : ∃ wo : World, wo = wr := ⟨_, rfl⟩
    by_cases hlt : (i : Int) < n
    · have hil : i < l.length := by have := HR.out.len; omega
      have hro := HR.out.only HI.out.1.only SEP.out
      obtain ⟨b, o, rfl, hbl, hc⟩ := hro.bs (by omega)
      have kx := hc i hil
      obtain ⟨y, hy⟩ : ∃ y, l[i] = y := ⟨_, rfl⟩
      obtain ⟨x, hx⟩ : ∃ x : Int, (y.toNat : Int) = x := ⟨_, rfl⟩
      have hx0 : 0 ≤ x := by omega
      have hx1 : x < 256 := by have := y.toNat_lt; omega
      rw [hy, hx] at kx
      have HTK := Lib.hid (show l.take (i + 1) = l.take i ++ [y] by rw [List.take_succ_eq_append_getElem hil, hy])
      have hfl := feedS_len k m c (l.take i) s
      rw [List.length_take] at hfl
      have HFS := Lib.hid (show feedS k m c s (l.take (i + 1)) = ((stepS k m c (feedS k m c s (l.take i)).1 y).1, (feedS k m c s (l.take i)).2 ++ (stepS k m c (feedS k m c s (l.take i)).1 y).2.toList) by rw [HTK.out, feedS_snoc])
      have hst := stepS_nil k m c (feedS k m c s (l.take i)).1 y
      have hmin : min i l.length ≤ i := Nat.min_le_left _ _
      have c36 := step_any B r br bf k m c v1 (feedS k m c s (l.take i)).1 y wo HF.out HI.out.1.rd (by have := HL.out; omega) (HG.out.only HI.out.1.only GSEP.out) (HV.out.only HI.out.1.only FSEP.out) (by have := HO.out; omega)
      rw [show Go.Proofs.Ytibkhjpjneoabaa.u8 y = .int .u8 x from by rw [← hx]; rfl] at c36
      generalize feedS k m c s (l.take i) = fs at *
      obtain ⟨s1, fr1⟩ := fs
      generalize stepS k m c s1 y = pp at *
      have C36 := Lib.hid c36
      have HST := Lib.hid hst
      have HLT := Lib.hid hlt
      clear hro hc hx hy hfl hmin c36 hst
      obtain ⟨s8, o8⟩ := pp
      cases o8 with
      | none =>
        have C4 := Lib.hid (C36.out.mono fun e w' h => (show e = .returned (.tuple #[.agg #[.int .i64 0, .slice none 0 0, .int .i64 0], .bool false]) ∧ ∃ v', StepD wo w' B r k m c v1 v' s8 from h))
        clear C36
        go_wp2_with (go_at_call 36; (with_reducible refine C4.out.mono ?_); rintro e w8 ⟨rfl, v8, hd8⟩; have HD8 := Lib.hid hd8; clear hd8)
        go_roundw
        case rel =>
          refine ⟨i + 1, out, v8, ds, by have := HLT.out; omega, by go_num, rfl, Lib.hid ⟨?_, ?_, by have := HI.out.2.2; omega⟩⟩
          · rw [HFS.out]
            exact (HI.out.1.step HD8.out).below ((Below.refl _ _).alloc (Nat.le_refl _) _)
          · rw [HFS.out]
            simpa using HI.out.2.1
        case measure => have := HLT.out; simp [intOf]; omega
      | some f8 =>
        have C4 := Lib.hid (C36.out.mono fun e w' h => (show (∃ A n cp, e = .returned (.tuple #[.agg #[.int .i64 (f8.at_ : Int), .slice A n cp, .int .i64 f8.code], .bool true]) ∧ w'.ownsRow wo.heap.size 5 1 (.slice A n cp) n (f8.bytes.map Go.Proofs.Ytibkhjpjneoabaa.u8)) ∧ ∃ v', StepD wo w' B r k m c v1 v' s8 from h))
        clear C36
        go_wp2_with (go_at_call 36; (with_reducible refine C4.out.mono ?_); rintro e w8 ⟨⟨A8, n8, c8, rfl, ho8⟩, v8, hd8⟩; refine Hid.out ?_)
        refine Lib.hid ?_
        have HD8 := Lib.hid (HI.out.1.step hd8)
        have HN8 := Lib.hid (hd8.rd.nil (HST.out f8 rfl))
        have HO8 := Lib.hid (own_base ho8 HI.out.1.only.size)
        clear ho8 hd8
        go_upto_region 6 with fail
        obtain ⟨w9, hw9⟩ : ∃ w9, w8.alloc (.cells #[.int .i64 (f8.at_ : Int), .slice A8 n8 c8, .int .i64 f8.code] 44) = w9 := ⟨_, rfl⟩
        have hb9 : Below w8.heap.size w8 w9 := hw9 ▸ (Below.refl _ w8).alloc (Nat.le_refl _) _
        have kb : Blk w9 w8.heap.size 44 #[.int .i64 (f8.at_ : Int), .slice A8 n8 c8, .int .i64 f8.code] := hw9 ▸ Blk.new w8 44 _
        have p0 : w9.cell? ⟨w8.heap.size, 0, none⟩ = some (.int .i64 (f8.at_ : Int)) := kb.cell 0
        have p1 : w9.cell? ⟨w8.heap.size, 1, none⟩ = some (.slice A8 n8 c8) := kb.cell 1
        have p2 : w9.cell? ⟨w8.heap.size, 2, none⟩ = some (.int .i64 f8.code) := kb.cell 2
        have HD9 := Lib.hid (HD8.out.below hb9)
        have HO9 := Lib.hid (own_keeps HO8.out fun g hg => hb9.block g (own_lt HO8.out g hg))
        rw [hw9]
        have hd2 := HI.out.2.2
        have HDL := Lib.hid (show ds.length ≤ 40000 by omega)
        clear hw9 hb9 kb hd2 kx
        go_wp2_with (at_builtin; go_must (refine wpList_app_sz rfl (.tmp 22) (.tmp 24) 40 rfl els40 (base := w.heap.size) (n := ds.length) (m := 1) (xs := ds.flatMap Fd.cells) (news := Fd.cells ⟨f8, A8, n8, c8⟩) rfl (own_alloc HD9.out.frs.own) rfl (HoldsS.new _ 3 1 (Fd.cells ⟨f8, A8, n8, c8⟩) 44 rfl) (fd_one _) (by have := HDL.out; unfold maxLen; omega) (by have := HDL.out; omega) (by have := HD9.out.only.size; simp; omega) (by simp) ?_; intro v4 w4 hown hgr; refine Hid.out ?_))
        refine Lib.hid ?_
        have HF4 := Lib.hid (FrL.push (d := ⟨f8, A8, n8, c8⟩) HD9.out.frs HO9.out hown hgr)
        have HE4 := Lib.hid (show EaI w w4 B r k m c v s8 v4 v8 (ds ++ [⟨f8, A8, n8, c8⟩]) from HD9.out.pushed (o := .cells (Fd.cells ⟨f8, A8, n8, c8⟩).toArray 44) HN8.out hgr HF4.out)
        clear hown hgr p0 p1 p2
        go_wp2_with fail
        go_roundw
        case rel =>
          refine ⟨i + 1, v4, v8, ds ++ [⟨f8, A8, n8, c8⟩], by have := HLT.out; omega, by go_num, rfl, Lib.hid ⟨?_, ?_, by have := HI.out.2.2; simp; omega⟩⟩
          · rw [HFS.out]
            exact HE4.out
          · rw [HFS.out, List.map_append, HI.out.2.1]
            rfl
        case measure => have := HLT.out; simp [intOf]; omega
    · have HLE := Lib.hid (show i = n by omega)
      go_wp2_with fail
      have hE := HI.out
      rw [HLE.out, List.take_of_length_le (Nat.le_of_eq HR.out.len)] at hE
      go_ret
      exact ⟨out, v1, ds, rfl, hE.1, hE.2.1⟩
end Go.Proofs.Ytibkhjpjneoabaa

namespace Go.Proofs.Ytibkhjpjneoabaa
open Go.RowKit
set_option linter.unusedVariables false
set_option linter.unusedSimpArgs false

/-- A world with another object at a block. -/
def setO (w : World) (r : Nat) (o : Obj) : World := { w with heap := w.heap.setIfInBounds r o }
theorem setO_get {w : World} {r : Nat} {o : Obj} (h : r < w.heap.size) : (setO w r o).heap[r]? = some o := by simp [setO, h]
theorem only_setO (w : World) (r : Nat) (o : Obj) : Only (fun q => q = r) w (setO w r o) :=
  ⟨rfl, rfl, rfl, by simp [setO], fun b hb hn => by simp only [setO]; rw [Array.getElem?_setIfInBounds]; simp; intro e; exact absurd e.symm hn⟩
theorem map_ins (w : World) (r clock : Nat) (es : Array MapEntry) (x : Int) (val : Value) (hb : w.heap[r]? = some (.map es clock)) (hn : Instr.findNow (.int .i64) (.int .i64 x) es.toList 0 = some none) :
    (Instr.mapUpdate 69 (.map (some r)) (.int .i64 x) val).run Try.prog w = .ok () (setO w r (.map (es.push { key := .int .i64 x, val := val, born := clock }) (clock + 1))) := by
  have hc : (Instr.checkKey false 10000 22 (.int .i64 x)).run Try.prog w = .ok () w := MapKept.run_checkKey (k := .int .i64 x) Try.underlying22 (by simp [MapKept.IsKey]) false 9999
  simp [Instr.mapUpdate, run_underlying Try.underlying69, MapKept.run_getObj_map hb, hc, MapKept.run_findKey Try.underlying22 hn, MapKept.run_setObj_map _ hb, Result.andThen, setO]
theorem map_look (w : World) (r clock i : Nat) (es : Array MapEntry) (x : Int) (val : Value) (hb : w.heap[r]? = some (.map es clock)) (hn : Instr.findNow (.int .i64) (.int .i64 x) es.toList 0 = some (some (i, val))) :
    (Instr.lookup 69 (.map (some r)) (.int .i64 x) false).run Try.prog w = .ok val w := by
  have hc : ∀ b, (Instr.checkKey b 10000 22 (.int .i64 x)).run Try.prog w = .ok () w := fun b => MapKept.run_checkKey (k := .int .i64 x) Try.underlying22 (by simp [MapKept.IsKey]) b 9999
  simp [Instr.lookup, run_underlying Try.underlying69, MapKept.run_getObj_map hb, hc, MapKept.run_findKey Try.underlying22 hn, Result.andThen]
theorem FrL.base {w : World} {B B2 : Nat} {v : Value} {ds : List Fd} (h : FrL w B v ds) (hb : B2 ≤ B) : FrL w B2 v ds := ⟨own_base h.own hb, fun d hd => own_base (h.rows d hd) hb⟩
theorem EaI.lift {w w1 W : World} {B r : Nat} {k m c : Int} {v out v1 : Value} {s : St} {ds : List Fd} (h : EaI w1 W B r k m c v s out v1 ds) (hb : Below w.heap.size w w1) : EaI w W B r k m c v s out v1 ds :=
  ⟨h.rd, Only.after hb h.only, by
    rcases h.hat with e | e
    · exact .inl e
    · exact .inr fun j hj => Nat.le_trans hb.size (e j hj), h.frs.base hb.size, h.apart⟩
/-- What Feed returns and leaves. -/
def Fed (w : World) (B r : Nat) (k m c : Int) (v : Value) (s : St) (l : List UInt8) (e : Ending) (w' : World) : Prop := ∃ out v' ds, e = .returned (.tuple #[out, .int .i64 0]) ∧ EaI w w' B r k m c v (feedS k m c s l).1 out v' ds ∧ ds.map Fd.fr = (feedS k m c s l).2

set_option maxRecDepth 100000 in
set_option maxHeartbeats 4000000 in
theorem feed_any (B r : Nat) (k m c : Int) (v : Value) (s : St) (A : Option Addr) (n cp : Nat) (l : List UInt8) (w : World) (hF : OkF k m c) (hs : RdS w B r k m c v s) (h3 : s.st ≠ 3) (hr : RB w A n cp l) (sep : ∀ a, A = some a → 0 < n → ¬ SFo r v a.block) (hl : s.held.length + n ≤ 40000) (ho : s.off + n ≤ 1000000) :
    Calls Try.prog 17 #[.pointer (some ⟨r, 0, none⟩), .slice A n cp] w (Fed w B r k m c v s l) := by
  obtain ⟨W0, hW0⟩ : ∃ W0, w.alloc (.cells #[.pointer (some ⟨r, 0, none⟩)] 37) = W0 := ⟨_, rfl⟩
  have hb0 : Below w.heap.size w W0 := hW0 ▸ (Below.refl _ w).alloc (Nat.le_refl _) _
  obtain ⟨br, hbr⟩ : ∃ br, w.heap.size = br := ⟨_, rfl⟩
  have kx : Blk W0 br 37 #[.pointer (some ⟨r, 0, none⟩)] := hbr ▸ hW0 ▸ Blk.new w 37 _
  have HS := Lib.hid (hs.below hb0)
  have HR := Lib.hid (hr.below hb0)
  have HB0 := Lib.hid hb0
  have HX := Lib.hid kx
  have HW0 := Lib.hid hW0
  have HF := Lib.hid hF
  have HSEP := Lib.hid sep
  have HL := Lib.hid hl
  have HO := Lib.hid ho
  have HBR := Lib.hid hbr
  have C32 := Lib.hid (HS.out.some_ hF)
  have kg : W0.cell? ⟨br, 0, none⟩ = some (.pointer (some ⟨r, 0, none⟩)) := kx.cell 0
  have k3 : W0.cell? ⟨r, 3, none⟩ = some (.int .i64 s.st) := HS.out.blk.cell 3
  have k0 : W0.cell? ⟨r, 0, none⟩ = some (.int .i64 k) := HS.out.blk.cell 0
  have q3 : (s.st == 3) = false := by simpa using h3
  clear hs hr sep hF hl ho h3 hb0 kx hW0
  go_enter Try.func17, Try.ntmps17
  go_upto_region 1 with fail
  rw [HW0.out]
  clear HW0 hbr
  go_wp2_with (go_at_call 32; (with_reducible refine C32.out.mono ?_); rintro e w1 ⟨rfl, rfl⟩; refine Hid.out ?_)
  refine Lib.hid ?_
  go_upto_region 5 with fail
  obtain ⟨W1, hW1⟩ : ∃ W1, W0.alloc (.map #[] 0) = W1 := ⟨_, rfl⟩
  obtain ⟨mb, hmb⟩ : ∃ mb, W0.heap.size = mb := ⟨_, rfl⟩
  have hb1 : Below W0.heap.size W0 W1 := hW1 ▸ (Below.refl _ W0).alloc (Nat.le_refl _) _
  have g1 : W1.heap[mb]? = some (.map #[] 0) := by rw [← hmb, ← hW1]; exact heap_alloc_new W0 _
  have l1 : mb < W1.heap.size := (Array.getElem?_eq_some_iff.1 g1).1
  have m1 : (Instr.makeMap 69 none).run Try.prog W0 = .ok (.map (some mb)) W1 := by rw [← hmb, ← hW1]; exact run_makeMap_plain W0 69
  have m2 := map_ins W1 mb 0 #[] 1 (.func (.func 33) #[] #[]) g1 rfl
  obtain ⟨W2, hW2⟩ : ∃ W2, setO W1 mb (.map #[{ key := .int .i64 1, val := .func (.func 33) #[] #[], born := 0 }] 1) = W2 := ⟨_, rfl⟩
  have g2 : W2.heap[mb]? = some (.map #[{ key := .int .i64 1, val := .func (.func 33) #[] #[], born := 0 }] 1) := hW2 ▸ setO_get l1
  have l2 : mb < W2.heap.size := (Array.getElem?_eq_some_iff.1 g2).1
  have m2' : (Instr.mapUpdate 69 (.map (some mb)) (.int .i64 1) (.func (.func 33) #[] #[])).run Try.prog W1 = .ok () W2 := by rw [← hW2]; exact m2
  have m3 := map_ins W2 mb 1 #[{ key := .int .i64 1, val := .func (.func 33) #[] #[], born := 0 }] 2 (.func (.func 34) #[] #[]) g2 rfl
  obtain ⟨W3, hW3⟩ : ∃ W3, setO W2 mb (.map #[{ key := .int .i64 1, val := .func (.func 33) #[] #[], born := 0 }, { key := .int .i64 2, val := .func (.func 34) #[] #[], born := 1 }] 2) = W3 := ⟨_, rfl⟩
  have g3 : W3.heap[mb]? = some (.map #[{ key := .int .i64 1, val := .func (.func 33) #[] #[], born := 0 }, { key := .int .i64 2, val := .func (.func 34) #[] #[], born := 1 }] 2) := hW3 ▸ setO_get l2
  have m3' : (Instr.mapUpdate 69 (.map (some mb)) (.int .i64 2) (.func (.func 34) #[] #[])).run Try.prog W2 = .ok () W3 := by rw [← hW3]; exact m3
  have hon : Only (fun q => q = mb) W0 W3 := hW3 ▸ ((Only.of_below (p := fun q => q = mb) hb1).trans (hW2 ▸ only_setO W1 mb _) fun _ _ e => e).trans (only_setO W2 mb _) fun _ _ e => e
  have HS3 := Lib.hid (HS.out.only hon fun q hq e => by have := HS.out.lt q hq; omega)
  have HX3 := Lib.hid (HX.out.only hon fun e => by have := HX.out.lt; omega)
  have HR3 := Lib.hid (HR.out.only hon fun a hA h0 e => by have := HR.out.lt h0 hA; omega)
  have HB3 := Lib.hid (show Below w.heap.size w W3 from HB0.out.trans (hon.to_below HB0.out.size fun b hb e => by have := HB0.out.size; omega))
  have hkk := HF.out.k
  have m4 : (Instr.lookup 69 (.map (some mb)) (.int .i64 k) false).run Try.prog W3 = .ok (.func (.func (fnOf k)) #[] #[]) W3 := by
    rcases hkk with rfl | rfl
    · exact map_look W3 mb 2 0 _ 1 _ g3 rfl
    · exact map_look W3 mb 2 1 _ 2 _ g3 rfl
  clear g1 l1 m2 hW2 g2 l2 m3 hW3 g3 hon hkk hb1 hW1 hmb kg k3 k0 q3 C32
  have kg3 : W3.cell? ⟨br, 0, none⟩ = some (.pointer (some ⟨r, 0, none⟩)) := HX3.out.cell 0
  have k03 : W3.cell? ⟨r, 0, none⟩ = some (.int .i64 k) := HS3.out.blk.cell 0
  obtain ⟨fk, hfk⟩ : ∃ fk, fnOf k = fk := ⟨_, rfl⟩
  have HFK := Lib.hid hfk
  rw [hfk] at m4
  clear hfk
  go_upto_region 6 with fail
  obtain ⟨W4, hW4⟩ : ∃ W4, W3.alloc (.cells #[.func (.func fk) #[] #[]] 67) = W4 := ⟨_, rfl⟩
  obtain ⟨bf, hbf⟩ : ∃ bf, W3.heap.size = bf := ⟨_, rfl⟩
  have hb4 : Below W3.heap.size W3 W4 := hW4 ▸ (Below.refl _ W3).alloc (Nat.le_refl _) _
  have kf : Blk W4 bf 67 #[.func (.func (fnOf k)) #[] #[]] := by rw [HFK.out, ← hbf, ← hW4]; exact Blk.new W3 67 _
  have HB4 := Lib.hid (HB3.out.trans (hb4.mono HB3.out.size))
  have C35 := Lib.hid (each_any B r br bf k m c v s A n cp l W4 HF.out (HS3.out.below hb4) (HR3.out.below hb4) HSEP.out HL.out HO.out (HX3.out.below hb4 HX3.out.lt) kf)
  rw [hW4, hbf]
  clear hW4 hbf hb4 kf m1 m2' m3' m4 kg3 k03
  unfold Eached at C35
  go_wp2_with (go_at_call 35; (with_reducible refine C35.out.mono ?_); rintro e w6 ⟨out, v6, ds, rfl, he, hf⟩; have HE := Lib.hid he; have HFF := Lib.hid hf; clear he hf)
  go_ret2
  exact ⟨out, v6, ds, rfl, HE.out.lift HB4.out, HFF.out⟩
end Go.Proofs.Ytibkhjpjneoabaa

namespace Go.Proofs.Ytibkhjpjneoabaa
open Go.RowKit
set_option linter.unusedVariables false
set_option linter.unusedSimpArgs false

/-- A list of results that can be read. -/
structure FrR (w : World) (A : Option Addr) (ds : List Fd) : Prop where
  cells : 0 < ds.length → ∃ b o, A = some ⟨b, o, none⟩ ∧ ∀ j u, (ds.flatMap Fd.cells)[j]? = some u → w.cell? ⟨b, o + j, none⟩ = some u
  rows : ∀ d ∈ ds, RB w d.A d.n d.cp d.fr.bytes
theorem fd_get (ds : List Fd) : ∀ (i : Nat) (hi : i < ds.length), (ds.flatMap Fd.cells)[i * 3]? = some (.int .i64 (ds[i].fr.at_ : Int)) ∧ (ds.flatMap Fd.cells)[i * 3 + 1]? = some ds[i].val ∧ (ds.flatMap Fd.cells)[i * 3 + 2]? = some (.int .i64 ds[i].fr.code) := by
  induction ds with
  | nil => intro i hi; simp at hi
  | cons d ds ih =>
    intro i hi
    cases i with
    | zero => simp [Fd.cells]
    | succ i =>
      have := ih i (by simpa using hi)
      have e : (i + 1) * 3 = 3 + i * 3 := by omega
      have h3 : d.cells.length = 3 := rfl
      simp only [List.flatMap_cons, List.getElem_cons_succ]
      rw [e, List.getElem?_append_right (by omega), List.getElem?_append_right (by omega), List.getElem?_append_right (by omega), h3]
      simpa [Nat.add_assoc] using this
theorem FrL.read {w : World} {B : Nat} {A : Option Addr} {n cp : Nat} {ds : List Fd} (h : FrL w B (.slice A n cp) ds) : FrR w A ds ∧ n = ds.length := by
  obtain ⟨A', cap, e, h1, h2, h3, h4⟩ := own_formS h.own
  injection e with e1 e2 e3
  subst e1 e3
  refine ⟨⟨fun h0 => ?_, fun d hd => own_RB3 (h.rows d hd)⟩, e2⟩
  obtain ⟨g, hg, -, -⟩ := h4 (by omega)
  subst hg
  refine ⟨g, 0, rfl, fun j u hu => ?_⟩
  have := h.own.cells rfl j u hu
  rw [Nat.zero_add]
  rw [Addr.add_lit, Nat.zero_add] at this
  exact this
def SmR (b1 p1 b2 p2 : Nat) (x y : Int) (d1 d2 : Fd) (l : List UInt8) (W : World) : Prop := W.cell? ⟨b1, p1, none⟩ = some (.int .i64 x) ∧ W.cell? ⟨b1, p1 + 1, none⟩ = some (.slice d1.A d1.n d1.cp) ∧ W.cell? ⟨b1, p1 + 2, none⟩ = some (.int .i64 y) ∧ W.cell? ⟨b2, p2, none⟩ = some (.int .i64 x) ∧ W.cell? ⟨b2, p2 + 1, none⟩ = some (.slice d2.A d2.n d2.cp) ∧ W.cell? ⟨b2, p2 + 2, none⟩ = some (.int .i64 y) ∧ RB W d1.A d1.n d1.cp l ∧ RB W d2.A d2.n d2.cp l

theorem SmR.below {w W : World} {b1 p1 b2 p2 : Nat} {x y : Int} {d1 d2 : Fd} {l : List UInt8} (h : SmR b1 p1 b2 p2 x y d1 d2 l w) (hb : Below w.heap.size w W) : SmR b1 p1 b2 p2 x y d1 d2 l W := by
  obtain ⟨h1, h2, h3, h4, h5, h6, h7, h8⟩ := h
  have key : ∀ {a : Addr} {u : Value}, w.cell? a = some u → W.cell? a = some u := fun h => (hb.cell (World.block_lt_of_cell? _ _ h)).trans h
  exact ⟨key h1, key h2, key h3, key h4, key h5, key h6, h7.below hb, h8.below hb⟩

set_option maxRecDepth 100000 in
set_option maxHeartbeats 4000000 in
theorem same_any (P1 P2 : Option Addr) (cp1 cp2 : Nat) (ds es : List Fd) (w : World) (h1 : FrR w P1 ds) (h2 : FrR w P2 es) (he : ds.map Fd.fr = es.map Fd.fr) (hn : ds.length ≤ 100000) :
    Calls Try.prog 21 #[.slice P1 ds.length cp1, .slice P2 es.length cp2] w fun e w' => e = .returned (.bool true) ∧ Below w.heap.size w w' := by
  have hlen : es.length = ds.length := by have := congrArg List.length he; simpa using this.symm
  rw [hlen]
  have H1 := Lib.hid h1
  have H2 := Lib.hid h2
  have HE := Lib.hid he
  have HN := Lib.hid hn
  have HLN := Lib.hid hlen
  have hnn : (ds.length : Int) ≤ 100000 := by omega
  obtain ⟨nn, hnl⟩ : ∃ nn, ds.length = nn := ⟨_, rfl⟩
  have HNL := Lib.hid hnl
  clear h1 h2 he hn hlen hnl
  go_enter Try.func21, Try.ntmps21
  go_wp2_with fail
  go_loopw [5] (fun ii wr => ∃ i : Nat, (i : Int) ≤ ds.length ∧ ii = .int .i64 i ∧ Hid (Below w.heap.size w wr)) (fun ii _ => ds.length - (intOf ii).toNat)
  case atStart => exact ⟨0, by omega, rfl, Lib.hid (Below.refl _ _)⟩
  case round =>
    obtain ⟨i, hi, rfl, HB⟩ := hrel
    have hi0 : (0 : Int) ≤ i := by omega
    obtain ⟨wo, rfl⟩ : ∃ wo : World, wo = wr := ⟨_, rfl⟩
    by_cases hlt : (i : Int) < ds.length
    · have hi1 : i < ds.length := by omega
      have hi2 : i < es.length := by rw [HLN.out]; omega
      obtain ⟨b1, o1, rfl, hc1⟩ := H1.out.cells (by omega)
      obtain ⟨b2, o2, rfl, hc2⟩ := H2.out.cells (by omega)
      have hf : (ds[i]).fr = (es[i]).fr := by
        have := congrArg (fun l => l[i]?) HE.out
        simpa [List.getElem?_eq_getElem hi1, List.getElem?_eq_getElem hi2] using this
      obtain ⟨q1, q2, q3⟩ := fd_get ds i hi1
      obtain ⟨r1, r2, r3⟩ := fd_get es i hi2
      have hm1 := H1.out.rows _ (List.getElem_mem hi1)
      have hm2 := H2.out.rows _ (List.getElem_mem hi2)
      rw [hf] at q1 q3 hm1
      generalize ds[i] = d1 at *
      generalize es[i] = d2 at *
      obtain ⟨x9, hx9⟩ : ∃ x9, (d2.fr.at_ : Int) = x9 := ⟨_, rfl⟩
      obtain ⟨y9, hy9⟩ : ∃ y9, d2.fr.code = y9 := ⟨_, rfl⟩
      obtain ⟨l9, hl9⟩ : ∃ l9, d2.fr.bytes = l9 := ⟨_, rfl⟩
      rw [hx9] at q1 r1
      rw [hy9] at q3 r3
      rw [hl9] at hm1 hm2
      have hS : SmR b1 (o1 + i * 3) b2 (o2 + i * 3) x9 y9 d1 d2 l9 w := ⟨hc1 _ _ q1, by rw [Nat.add_assoc]; exact hc1 _ _ q2, by rw [Nat.add_assoc]; exact hc1 _ _ q3, hc2 _ _ r1, by rw [Nat.add_assoc]; exact hc2 _ _ r2, by rw [Nat.add_assoc]; exact hc2 _ _ r3, hm1, hm2⟩
      obtain ⟨s9, hs9⟩ : ∃ s9 : ByteArray, ⟨l9.toArray⟩ = s9 := ⟨_, rfl⟩
      have HST := Lib.hid hs9
      have HS6 := Lib.hid (hS.below (HB.out.trans (below_drew (Below.refl _ wo) |>.mono HB.out.size)))
      have HLT := Lib.hid hlt
      have HIX := Lib.hid (And.intro hi0 hlt)
      clear q1 q2 q3 r1 r2 r3 hm1 hm2 hx9 hy9 hl9 hS hc1 hc2 hf hs9 hi1 hi2
      go_upto_region 6 with fail
      refine wp_region_G (S0 := (SmR b1 (o1 + i * 3) b2 (o2 + i * 3) x9 y9 d1 d2 l9)) (S1 := (SmR b1 (o1 + i * 3) b2 (o2 + i * 3) x9 y9 d1 d2 l9)) (c := 99) (by kernel_rfl) ?_
      have hHeld := HS6.out
      have h01 := (fun (W : World) (h : (SmR b1 (o1 + i * 3) b2 (o2 + i * 3) x9 y9 d1 d2 l9) W) => h)
      refine wpG_takeB (i := 0) (oi := ⟨some 17, _, _, _, _, _⟩) (v := .slice (some ⟨b1, o1, none⟩) ds.length cp1) rfl (by kernel_rfl) (by kernel_rfl) (by kernel_rfl) (by decide) (fun _ _ _ h => h) h01 rfl hHeld (Or.inl ⟨by rfl, ?_⟩) ?_
      · (intro W9 hSw; obtain ⟨v1, v2, v3, v4, v5, v6, v7, v8⟩ := hSw; have u1 := conv_RB v7; have u2 := conv_RB v8; rw [HST.out] at u1 u2; clear v7 v8; go_simp; (try (first | with_reducible rfl | rfl | (simp; done))))
      try simp only [Act.put, List.setIfInBounds_toArray, List.set_cons_zero, List.set_cons_succ]
      refine wpG_takeB (i := 1) (oi := ⟨some 18, _, _, _, _, _⟩) (v := .int .i64 (i : Int)) rfl (by kernel_rfl) (by kernel_rfl) (by kernel_rfl) (by decide) (fun _ _ _ h => h) h01 rfl hHeld (Or.inl ⟨by rfl, ?_⟩) ?_
      · (intro W9 hSw; obtain ⟨v1, v2, v3, v4, v5, v6, v7, v8⟩ := hSw; have u1 := conv_RB v7; have u2 := conv_RB v8; rw [HST.out] at u1 u2; clear v7 v8; go_simp; (try (first | with_reducible rfl | rfl | (simp; done))))
      try simp only [Act.put, List.setIfInBounds_toArray, List.set_cons_zero, List.set_cons_succ]
      refine wpG_takeB (i := 2) (oi := ⟨some 19, _, _, _, _, _⟩) (v := .pointer (some ⟨b1, o1 + i * 3, none⟩)) rfl (by kernel_rfl) (by kernel_rfl) (by kernel_rfl) (by decide) (fun _ _ _ h => h) h01 rfl hHeld (Or.inl ⟨by rfl, ?_⟩) ?_
      · (intro W9 hSw; obtain ⟨v1, v2, v3, v4, v5, v6, v7, v8⟩ := hSw; have u1 := conv_RB v7; have u2 := conv_RB v8; rw [HST.out] at u1 u2; clear v7 v8; go_simp; (try (first | with_reducible rfl | rfl | (simp; done))))
      try simp only [Act.put, List.setIfInBounds_toArray, List.set_cons_zero, List.set_cons_succ]
      refine wpG_takeB (i := 3) (oi := ⟨some 20, _, _, _, _, _⟩) (v := .pointer (some ⟨b1, o1 + i * 3, none⟩)) rfl (by kernel_rfl) (by kernel_rfl) (by kernel_rfl) (by decide) (fun _ _ _ h => h) h01 rfl hHeld (Or.inl ⟨by rfl, ?_⟩) ?_
      · (intro W9 hSw; obtain ⟨v1, v2, v3, v4, v5, v6, v7, v8⟩ := hSw; have u1 := conv_RB v7; have u2 := conv_RB v8; rw [HST.out] at u1 u2; clear v7 v8; go_simp; (try (first | with_reducible rfl | rfl | (simp; done))))
      try simp only [Act.put, List.setIfInBounds_toArray, List.set_cons_zero, List.set_cons_succ]
      refine wpG_takeB (i := 4) (oi := ⟨some 21, _, _, _, _, _⟩) (v := .int .i64 x9) rfl (by kernel_rfl) (by kernel_rfl) (by kernel_rfl) (by decide) (fun _ _ _ h => h) h01 rfl hHeld (Or.inl ⟨by rfl, ?_⟩) ?_
      · (intro W9 hSw; obtain ⟨v1, v2, v3, v4, v5, v6, v7, v8⟩ := hSw; have u1 := conv_RB v7; have u2 := conv_RB v8; rw [HST.out] at u1 u2; clear v7 v8; go_simp; (try (first | with_reducible rfl | rfl | (simp; done))))
      try simp only [Act.put, List.setIfInBounds_toArray, List.set_cons_zero, List.set_cons_succ]
      refine wpG_takeB (i := 5) (oi := ⟨some 22, _, _, _, _, _⟩) (v := .slice (some ⟨b2, o2, none⟩) ds.length cp2) rfl (by kernel_rfl) (by kernel_rfl) (by kernel_rfl) (by decide) (fun _ _ _ h => h) h01 rfl hHeld (Or.inl ⟨by rfl, ?_⟩) ?_
      · (intro W9 hSw; obtain ⟨v1, v2, v3, v4, v5, v6, v7, v8⟩ := hSw; have u1 := conv_RB v7; have u2 := conv_RB v8; rw [HST.out] at u1 u2; clear v7 v8; go_simp; (try (first | with_reducible rfl | rfl | (simp; done))))
      try simp only [Act.put, List.setIfInBounds_toArray, List.set_cons_zero, List.set_cons_succ]
      refine wpG_takeB (i := 6) (oi := ⟨some 23, _, _, _, _, _⟩) (v := .int .i64 (i : Int)) rfl (by kernel_rfl) (by kernel_rfl) (by kernel_rfl) (by decide) (fun _ _ _ h => h) h01 rfl hHeld (Or.inl ⟨by rfl, ?_⟩) ?_
      · (intro W9 hSw; obtain ⟨v1, v2, v3, v4, v5, v6, v7, v8⟩ := hSw; have u1 := conv_RB v7; have u2 := conv_RB v8; rw [HST.out] at u1 u2; clear v7 v8; go_simp; (try (first | with_reducible rfl | rfl | (simp; done))))
      try simp only [Act.put, List.setIfInBounds_toArray, List.set_cons_zero, List.set_cons_succ]
      refine wpG_takeB (i := 7) (oi := ⟨some 24, _, _, _, _, _⟩) (v := .pointer (some ⟨b2, o2 + i * 3, none⟩)) rfl (by kernel_rfl) (by kernel_rfl) (by kernel_rfl) (by decide) (fun _ _ _ h => h) h01 rfl hHeld (Or.inl ⟨by rfl, ?_⟩) ?_
      · (intro W9 hSw; obtain ⟨v1, v2, v3, v4, v5, v6, v7, v8⟩ := hSw; have u1 := conv_RB v7; have u2 := conv_RB v8; rw [HST.out] at u1 u2; clear v7 v8; go_simp; (try (first | with_reducible rfl | rfl | (simp; done))))
      try simp only [Act.put, List.setIfInBounds_toArray, List.set_cons_zero, List.set_cons_succ]
      refine wpG_takeB (i := 8) (oi := ⟨some 25, _, _, _, _, _⟩) (v := .pointer (some ⟨b2, o2 + i * 3, none⟩)) rfl (by kernel_rfl) (by kernel_rfl) (by kernel_rfl) (by decide) (fun _ _ _ h => h) h01 rfl hHeld (Or.inl ⟨by rfl, ?_⟩) ?_
      · (intro W9 hSw; obtain ⟨v1, v2, v3, v4, v5, v6, v7, v8⟩ := hSw; have u1 := conv_RB v7; have u2 := conv_RB v8; rw [HST.out] at u1 u2; clear v7 v8; go_simp; (try (first | with_reducible rfl | rfl | (simp; done))))
      try simp only [Act.put, List.setIfInBounds_toArray, List.set_cons_zero, List.set_cons_succ]
      refine wpG_takeB (i := 9) (oi := ⟨some 26, _, _, _, _, _⟩) (v := .int .i64 x9) rfl (by kernel_rfl) (by kernel_rfl) (by kernel_rfl) (by decide) (fun _ _ _ h => h) h01 rfl hHeld (Or.inl ⟨by rfl, ?_⟩) ?_
      · (intro W9 hSw; obtain ⟨v1, v2, v3, v4, v5, v6, v7, v8⟩ := hSw; have u1 := conv_RB v7; have u2 := conv_RB v8; rw [HST.out] at u1 u2; clear v7 v8; go_simp; (try (first | with_reducible rfl | rfl | (simp; done))))
      try simp only [Act.put, List.setIfInBounds_toArray, List.set_cons_zero, List.set_cons_succ]
      refine wpG_takeB (i := 10) (oi := ⟨some 27, _, _, _, _, _⟩) (v := .bool false) rfl (by kernel_rfl) (by kernel_rfl) (by kernel_rfl) (by decide) (fun _ _ _ h => h) h01 rfl hHeld (Or.inl ⟨by rfl, ?_⟩) ?_
      · (intro W9 hSw; obtain ⟨v1, v2, v3, v4, v5, v6, v7, v8⟩ := hSw; have u1 := conv_RB v7; have u2 := conv_RB v8; rw [HST.out] at u1 u2; clear v7 v8; go_simp; (try (first | with_reducible rfl | rfl | (simp; done))))
      try simp only [Act.put, List.setIfInBounds_toArray, List.set_cons_zero, List.set_cons_succ]
      refine wpG_takeB (i := 11) (oi := ⟨some 28, _, _, _, _, _⟩) (v := .bool false) rfl (by kernel_rfl) (by kernel_rfl) (by kernel_rfl) (by decide) (fun _ _ _ h => h) h01 rfl hHeld (Or.inl ⟨by rfl, ?_⟩) ?_
      · (intro W9 hSw; obtain ⟨v1, v2, v3, v4, v5, v6, v7, v8⟩ := hSw; have u1 := conv_RB v7; have u2 := conv_RB v8; rw [HST.out] at u1 u2; clear v7 v8; go_simp; (try (first | with_reducible rfl | rfl | (simp; done))))
      try simp only [Act.put, List.setIfInBounds_toArray, List.set_cons_zero, List.set_cons_succ]
      refine wpG_takeB (i := 12) (oi := ⟨some 29, _, _, _, _, _⟩) (v := .slice (some ⟨b1, o1, none⟩) ds.length cp1) rfl (by kernel_rfl) (by kernel_rfl) (by kernel_rfl) (by decide) (fun _ _ _ h => h) h01 rfl hHeld (Or.inl ⟨by rfl, ?_⟩) ?_
      · (intro W9 hSw; obtain ⟨v1, v2, v3, v4, v5, v6, v7, v8⟩ := hSw; have u1 := conv_RB v7; have u2 := conv_RB v8; rw [HST.out] at u1 u2; clear v7 v8; go_simp; (try (first | with_reducible rfl | rfl | (simp; done))))
      try simp only [Act.put, List.setIfInBounds_toArray, List.set_cons_zero, List.set_cons_succ]
      refine wpG_takeB (i := 13) (oi := ⟨some 30, _, _, _, _, _⟩) (v := .int .i64 (i : Int)) rfl (by kernel_rfl) (by kernel_rfl) (by kernel_rfl) (by decide) (fun _ _ _ h => h) h01 rfl hHeld (Or.inl ⟨by rfl, ?_⟩) ?_
      · (intro W9 hSw; obtain ⟨v1, v2, v3, v4, v5, v6, v7, v8⟩ := hSw; have u1 := conv_RB v7; have u2 := conv_RB v8; rw [HST.out] at u1 u2; clear v7 v8; go_simp; (try (first | with_reducible rfl | rfl | (simp; done))))
      try simp only [Act.put, List.setIfInBounds_toArray, List.set_cons_zero, List.set_cons_succ]
      refine wpG_takeB (i := 14) (oi := ⟨some 31, _, _, _, _, _⟩) (v := .pointer (some ⟨b1, o1 + i * 3, none⟩)) rfl (by kernel_rfl) (by kernel_rfl) (by kernel_rfl) (by decide) (fun _ _ _ h => h) h01 rfl hHeld (Or.inl ⟨by rfl, ?_⟩) ?_
      · (intro W9 hSw; obtain ⟨v1, v2, v3, v4, v5, v6, v7, v8⟩ := hSw; have u1 := conv_RB v7; have u2 := conv_RB v8; rw [HST.out] at u1 u2; clear v7 v8; go_simp; (try (first | with_reducible rfl | rfl | (simp; done))))
      try simp only [Act.put, List.setIfInBounds_toArray, List.set_cons_zero, List.set_cons_succ]
      refine wpG_takeB (i := 15) (oi := ⟨some 32, _, _, _, _, _⟩) (v := .pointer (some ⟨b1, o1 + i * 3 + 2, none⟩)) rfl (by kernel_rfl) (by kernel_rfl) (by kernel_rfl) (by decide) (fun _ _ _ h => h) h01 rfl hHeld (Or.inl ⟨by rfl, ?_⟩) ?_
      · (intro W9 hSw; obtain ⟨v1, v2, v3, v4, v5, v6, v7, v8⟩ := hSw; have u1 := conv_RB v7; have u2 := conv_RB v8; rw [HST.out] at u1 u2; clear v7 v8; go_simp; (try (first | with_reducible rfl | rfl | (simp; done))))
      try simp only [Act.put, List.setIfInBounds_toArray, List.set_cons_zero, List.set_cons_succ]
      refine wpG_takeB (i := 16) (oi := ⟨some 33, _, _, _, _, _⟩) (v := .int .i64 y9) rfl (by kernel_rfl) (by kernel_rfl) (by kernel_rfl) (by decide) (fun _ _ _ h => h) h01 rfl hHeld (Or.inl ⟨by rfl, ?_⟩) ?_
      · (intro W9 hSw; obtain ⟨v1, v2, v3, v4, v5, v6, v7, v8⟩ := hSw; have u1 := conv_RB v7; have u2 := conv_RB v8; rw [HST.out] at u1 u2; clear v7 v8; go_simp; (try (first | with_reducible rfl | rfl | (simp; done))))
      try simp only [Act.put, List.setIfInBounds_toArray, List.set_cons_zero, List.set_cons_succ]
      refine wpG_takeB (i := 17) (oi := ⟨some 34, _, _, _, _, _⟩) (v := .slice (some ⟨b2, o2, none⟩) ds.length cp2) rfl (by kernel_rfl) (by kernel_rfl) (by kernel_rfl) (by decide) (fun _ _ _ h => h) h01 rfl hHeld (Or.inl ⟨by rfl, ?_⟩) ?_
      · (intro W9 hSw; obtain ⟨v1, v2, v3, v4, v5, v6, v7, v8⟩ := hSw; have u1 := conv_RB v7; have u2 := conv_RB v8; rw [HST.out] at u1 u2; clear v7 v8; go_simp; (try (first | with_reducible rfl | rfl | (simp; done))))
      try simp only [Act.put, List.setIfInBounds_toArray, List.set_cons_zero, List.set_cons_succ]
      refine wpG_takeB (i := 18) (oi := ⟨some 35, _, _, _, _, _⟩) (v := .int .i64 (i : Int)) rfl (by kernel_rfl) (by kernel_rfl) (by kernel_rfl) (by decide) (fun _ _ _ h => h) h01 rfl hHeld (Or.inl ⟨by rfl, ?_⟩) ?_
      · (intro W9 hSw; obtain ⟨v1, v2, v3, v4, v5, v6, v7, v8⟩ := hSw; have u1 := conv_RB v7; have u2 := conv_RB v8; rw [HST.out] at u1 u2; clear v7 v8; go_simp; (try (first | with_reducible rfl | rfl | (simp; done))))
      try simp only [Act.put, List.setIfInBounds_toArray, List.set_cons_zero, List.set_cons_succ]
      refine wpG_takeB (i := 19) (oi := ⟨some 36, _, _, _, _, _⟩) (v := .pointer (some ⟨b2, o2 + i * 3, none⟩)) rfl (by kernel_rfl) (by kernel_rfl) (by kernel_rfl) (by decide) (fun _ _ _ h => h) h01 rfl hHeld (Or.inl ⟨by rfl, ?_⟩) ?_
      · (intro W9 hSw; obtain ⟨v1, v2, v3, v4, v5, v6, v7, v8⟩ := hSw; have u1 := conv_RB v7; have u2 := conv_RB v8; rw [HST.out] at u1 u2; clear v7 v8; go_simp; (try (first | with_reducible rfl | rfl | (simp; done))))
      try simp only [Act.put, List.setIfInBounds_toArray, List.set_cons_zero, List.set_cons_succ]
      refine wpG_takeB (i := 20) (oi := ⟨some 37, _, _, _, _, _⟩) (v := .pointer (some ⟨b2, o2 + i * 3 + 2, none⟩)) rfl (by kernel_rfl) (by kernel_rfl) (by kernel_rfl) (by decide) (fun _ _ _ h => h) h01 rfl hHeld (Or.inl ⟨by rfl, ?_⟩) ?_
      · (intro W9 hSw; obtain ⟨v1, v2, v3, v4, v5, v6, v7, v8⟩ := hSw; have u1 := conv_RB v7; have u2 := conv_RB v8; rw [HST.out] at u1 u2; clear v7 v8; go_simp; (try (first | with_reducible rfl | rfl | (simp; done))))
      try simp only [Act.put, List.setIfInBounds_toArray, List.set_cons_zero, List.set_cons_succ]
      refine wpG_takeB (i := 21) (oi := ⟨some 38, _, _, _, _, _⟩) (v := .int .i64 y9) rfl (by kernel_rfl) (by kernel_rfl) (by kernel_rfl) (by decide) (fun _ _ _ h => h) h01 rfl hHeld (Or.inl ⟨by rfl, ?_⟩) ?_
      · (intro W9 hSw; obtain ⟨v1, v2, v3, v4, v5, v6, v7, v8⟩ := hSw; have u1 := conv_RB v7; have u2 := conv_RB v8; rw [HST.out] at u1 u2; clear v7 v8; go_simp; (try (first | with_reducible rfl | rfl | (simp; done))))
      try simp only [Act.put, List.setIfInBounds_toArray, List.set_cons_zero, List.set_cons_succ]
      refine wpG_takeB (i := 22) (oi := ⟨some 39, _, _, _, _, _⟩) (v := .bool false) rfl (by kernel_rfl) (by kernel_rfl) (by kernel_rfl) (by decide) (fun _ _ _ h => h) h01 rfl hHeld (Or.inl ⟨by rfl, ?_⟩) ?_
      · (intro W9 hSw; obtain ⟨v1, v2, v3, v4, v5, v6, v7, v8⟩ := hSw; have u1 := conv_RB v7; have u2 := conv_RB v8; rw [HST.out] at u1 u2; clear v7 v8; go_simp; (try (first | with_reducible rfl | rfl | (simp; done))))
      try simp only [Act.put, List.setIfInBounds_toArray, List.set_cons_zero, List.set_cons_succ]
      refine wpG_takeB (i := 23) (oi := ⟨some 40, _, _, _, _, _⟩) (v := .bool false) rfl (by kernel_rfl) (by kernel_rfl) (by kernel_rfl) (by decide) (fun _ _ _ h => h) h01 rfl hHeld (Or.inl ⟨by rfl, ?_⟩) ?_
      · (intro W9 hSw; obtain ⟨v1, v2, v3, v4, v5, v6, v7, v8⟩ := hSw; have u1 := conv_RB v7; have u2 := conv_RB v8; rw [HST.out] at u1 u2; clear v7 v8; go_simp; (try (first | with_reducible rfl | rfl | (simp; done))))
      try simp only [Act.put, List.setIfInBounds_toArray, List.set_cons_zero, List.set_cons_succ]
      refine wpG_takeB (i := 24) (oi := ⟨some 41, _, _, _, _, _⟩) (v := .bool false) rfl (by kernel_rfl) (by kernel_rfl) (by kernel_rfl) (by decide) (fun _ _ _ h => h) h01 rfl hHeld (Or.inl ⟨by rfl, ?_⟩) ?_
      · (intro W9 hSw; obtain ⟨v1, v2, v3, v4, v5, v6, v7, v8⟩ := hSw; have u1 := conv_RB v7; have u2 := conv_RB v8; rw [HST.out] at u1 u2; clear v7 v8; go_simp; (try (first | with_reducible rfl | rfl | (simp; done))))
      try simp only [Act.put, List.setIfInBounds_toArray, List.set_cons_zero, List.set_cons_succ]
      refine wpG_takeB (i := 25) (oi := ⟨some 42, _, _, _, _, _⟩) (v := .slice (some ⟨b1, o1, none⟩) ds.length cp1) rfl (by kernel_rfl) (by kernel_rfl) (by kernel_rfl) (by decide) (fun _ _ _ h => h) h01 rfl hHeld (Or.inl ⟨by rfl, ?_⟩) ?_
      · (intro W9 hSw; obtain ⟨v1, v2, v3, v4, v5, v6, v7, v8⟩ := hSw; have u1 := conv_RB v7; have u2 := conv_RB v8; rw [HST.out] at u1 u2; clear v7 v8; go_simp; (try (first | with_reducible rfl | rfl | (simp; done))))
      try simp only [Act.put, List.setIfInBounds_toArray, List.set_cons_zero, List.set_cons_succ]
      refine wpG_takeB (i := 26) (oi := ⟨some 43, _, _, _, _, _⟩) (v := .int .i64 (i : Int)) rfl (by kernel_rfl) (by kernel_rfl) (by kernel_rfl) (by decide) (fun _ _ _ h => h) h01 rfl hHeld (Or.inl ⟨by rfl, ?_⟩) ?_
      · (intro W9 hSw; obtain ⟨v1, v2, v3, v4, v5, v6, v7, v8⟩ := hSw; have u1 := conv_RB v7; have u2 := conv_RB v8; rw [HST.out] at u1 u2; clear v7 v8; go_simp; (try (first | with_reducible rfl | rfl | (simp; done))))
      try simp only [Act.put, List.setIfInBounds_toArray, List.set_cons_zero, List.set_cons_succ]
      refine wpG_takeB (i := 27) (oi := ⟨some 44, _, _, _, _, _⟩) (v := .pointer (some ⟨b1, o1 + i * 3, none⟩)) rfl (by kernel_rfl) (by kernel_rfl) (by kernel_rfl) (by decide) (fun _ _ _ h => h) h01 rfl hHeld (Or.inl ⟨by rfl, ?_⟩) ?_
      · (intro W9 hSw; obtain ⟨v1, v2, v3, v4, v5, v6, v7, v8⟩ := hSw; have u1 := conv_RB v7; have u2 := conv_RB v8; rw [HST.out] at u1 u2; clear v7 v8; go_simp; (try (first | with_reducible rfl | rfl | (simp; done))))
      try simp only [Act.put, List.setIfInBounds_toArray, List.set_cons_zero, List.set_cons_succ]
      refine wpG_takeB (i := 28) (oi := ⟨some 45, _, _, _, _, _⟩) (v := .pointer (some ⟨b1, o1 + i * 3 + 1, none⟩)) rfl (by kernel_rfl) (by kernel_rfl) (by kernel_rfl) (by decide) (fun _ _ _ h => h) h01 rfl hHeld (Or.inl ⟨by rfl, ?_⟩) ?_
      · (intro W9 hSw; obtain ⟨v1, v2, v3, v4, v5, v6, v7, v8⟩ := hSw; have u1 := conv_RB v7; have u2 := conv_RB v8; rw [HST.out] at u1 u2; clear v7 v8; go_simp; (try (first | with_reducible rfl | rfl | (simp; done))))
      try simp only [Act.put, List.setIfInBounds_toArray, List.set_cons_zero, List.set_cons_succ]
      refine wpG_takeB (i := 29) (oi := ⟨some 46, _, _, _, _, _⟩) (v := .slice d1.A d1.n d1.cp) rfl (by kernel_rfl) (by kernel_rfl) (by kernel_rfl) (by decide) (fun _ _ _ h => h) h01 rfl hHeld (Or.inl ⟨by rfl, ?_⟩) ?_
      · (intro W9 hSw; obtain ⟨v1, v2, v3, v4, v5, v6, v7, v8⟩ := hSw; have u1 := conv_RB v7; have u2 := conv_RB v8; rw [HST.out] at u1 u2; clear v7 v8; go_simp; (try (first | with_reducible rfl | rfl | (simp; done))))
      try simp only [Act.put, List.setIfInBounds_toArray, List.set_cons_zero, List.set_cons_succ]
      refine wpG_takeB (i := 30) (oi := ⟨some 47, _, _, _, _, _⟩) (v := .string s9) rfl (by kernel_rfl) (by kernel_rfl) (by kernel_rfl) (by decide) (fun _ _ _ h => h) h01 rfl hHeld (Or.inl ⟨by rfl, ?_⟩) ?_
      · (intro W9 hSw; obtain ⟨v1, v2, v3, v4, v5, v6, v7, v8⟩ := hSw; have u1 := conv_RB v7; have u2 := conv_RB v8; rw [HST.out] at u1 u2; clear v7 v8; go_simp; (try (first | with_reducible rfl | rfl | (simp; done))))
      try simp only [Act.put, List.setIfInBounds_toArray, List.set_cons_zero, List.set_cons_succ]
      refine wpG_takeB (i := 31) (oi := ⟨some 48, _, _, _, _, _⟩) (v := .slice (some ⟨b2, o2, none⟩) ds.length cp2) rfl (by kernel_rfl) (by kernel_rfl) (by kernel_rfl) (by decide) (fun _ _ _ h => h) h01 rfl hHeld (Or.inl ⟨by rfl, ?_⟩) ?_
      · (intro W9 hSw; obtain ⟨v1, v2, v3, v4, v5, v6, v7, v8⟩ := hSw; have u1 := conv_RB v7; have u2 := conv_RB v8; rw [HST.out] at u1 u2; clear v7 v8; go_simp; (try (first | with_reducible rfl | rfl | (simp; done))))
      try simp only [Act.put, List.setIfInBounds_toArray, List.set_cons_zero, List.set_cons_succ]
      refine wpG_takeB (i := 32) (oi := ⟨some 49, _, _, _, _, _⟩) (v := .int .i64 (i : Int)) rfl (by kernel_rfl) (by kernel_rfl) (by kernel_rfl) (by decide) (fun _ _ _ h => h) h01 rfl hHeld (Or.inl ⟨by rfl, ?_⟩) ?_
      · (intro W9 hSw; obtain ⟨v1, v2, v3, v4, v5, v6, v7, v8⟩ := hSw; have u1 := conv_RB v7; have u2 := conv_RB v8; rw [HST.out] at u1 u2; clear v7 v8; go_simp; (try (first | with_reducible rfl | rfl | (simp; done))))
      try simp only [Act.put, List.setIfInBounds_toArray, List.set_cons_zero, List.set_cons_succ]
      refine wpG_takeB (i := 33) (oi := ⟨some 50, _, _, _, _, _⟩) (v := .pointer (some ⟨b2, o2 + i * 3, none⟩)) rfl (by kernel_rfl) (by kernel_rfl) (by kernel_rfl) (by decide) (fun _ _ _ h => h) h01 rfl hHeld (Or.inl ⟨by rfl, ?_⟩) ?_
      · (intro W9 hSw; obtain ⟨v1, v2, v3, v4, v5, v6, v7, v8⟩ := hSw; have u1 := conv_RB v7; have u2 := conv_RB v8; rw [HST.out] at u1 u2; clear v7 v8; go_simp; (try (first | with_reducible rfl | rfl | (simp; done))))
      try simp only [Act.put, List.setIfInBounds_toArray, List.set_cons_zero, List.set_cons_succ]
      refine wpG_takeB (i := 34) (oi := ⟨some 51, _, _, _, _, _⟩) (v := .pointer (some ⟨b2, o2 + i * 3 + 1, none⟩)) rfl (by kernel_rfl) (by kernel_rfl) (by kernel_rfl) (by decide) (fun _ _ _ h => h) h01 rfl hHeld (Or.inl ⟨by rfl, ?_⟩) ?_
      · (intro W9 hSw; obtain ⟨v1, v2, v3, v4, v5, v6, v7, v8⟩ := hSw; have u1 := conv_RB v7; have u2 := conv_RB v8; rw [HST.out] at u1 u2; clear v7 v8; go_simp; (try (first | with_reducible rfl | rfl | (simp; done))))
      try simp only [Act.put, List.setIfInBounds_toArray, List.set_cons_zero, List.set_cons_succ]
      refine wpG_takeB (i := 35) (oi := ⟨some 52, _, _, _, _, _⟩) (v := .slice d2.A d2.n d2.cp) rfl (by kernel_rfl) (by kernel_rfl) (by kernel_rfl) (by decide) (fun _ _ _ h => h) h01 rfl hHeld (Or.inl ⟨by rfl, ?_⟩) ?_
      · (intro W9 hSw; obtain ⟨v1, v2, v3, v4, v5, v6, v7, v8⟩ := hSw; have u1 := conv_RB v7; have u2 := conv_RB v8; rw [HST.out] at u1 u2; clear v7 v8; go_simp; (try (first | with_reducible rfl | rfl | (simp; done))))
      try simp only [Act.put, List.setIfInBounds_toArray, List.set_cons_zero, List.set_cons_succ]
      refine wpG_takeB (i := 36) (oi := ⟨some 53, _, _, _, _, _⟩) (v := .string s9) rfl (by kernel_rfl) (by kernel_rfl) (by kernel_rfl) (by decide) (fun _ _ _ h => h) h01 rfl hHeld (Or.inl ⟨by rfl, ?_⟩) ?_
      · (intro W9 hSw; obtain ⟨v1, v2, v3, v4, v5, v6, v7, v8⟩ := hSw; have u1 := conv_RB v7; have u2 := conv_RB v8; rw [HST.out] at u1 u2; clear v7 v8; go_simp; (try (first | with_reducible rfl | rfl | (simp; done))))
      try simp only [Act.put, List.setIfInBounds_toArray, List.set_cons_zero, List.set_cons_succ]
      refine wpG_takeB (i := 37) (oi := ⟨some 54, _, _, _, _, _⟩) (v := .bool false) rfl (by kernel_rfl) (by kernel_rfl) (by kernel_rfl) (by decide) (fun _ _ _ h => h) h01 rfl hHeld (Or.inl ⟨by rfl, ?_⟩) ?_
      · (intro W9 hSw; obtain ⟨v1, v2, v3, v4, v5, v6, v7, v8⟩ := hSw; have u1 := conv_RB v7; have u2 := conv_RB v8; rw [HST.out] at u1 u2; clear v7 v8; go_simp; (try (first | with_reducible rfl | rfl | (simp; done))))
      try simp only [Act.put, List.setIfInBounds_toArray, List.set_cons_zero, List.set_cons_succ]
      refine wpG_takeB (i := 38) (oi := ⟨some 55, _, _, _, _, _⟩) (v := .bool false) rfl (by kernel_rfl) (by kernel_rfl) (by kernel_rfl) (by decide) (fun _ _ _ h => h) h01 rfl hHeld (Or.inl ⟨by rfl, ?_⟩) ?_
      · (intro W9 hSw; obtain ⟨v1, v2, v3, v4, v5, v6, v7, v8⟩ := hSw; have u1 := conv_RB v7; have u2 := conv_RB v8; rw [HST.out] at u1 u2; clear v7 v8; go_simp; (try (first | with_reducible rfl | rfl | (simp; done))))
      try simp only [Act.put, List.setIfInBounds_toArray, List.set_cons_zero, List.set_cons_succ]
      refine wpG_done (by kernel_rfl) ?_ _
      clear hHeld h01
      have hi100 : (i : Int) ≤ 100000 := by have := HLT.out; omega
      go_wp2_with fail
      go_roundw
      case rel => exact ⟨i + 1, by have := HLT.out; omega, by go_num, Lib.hid (HB.out.trans (below_drew (Below.refl _ wo) |>.mono HB.out.size))⟩
      case measure => have := HLT.out; simp [intOf]; omega
    · have HLE := Lib.hid (show i = ds.length by omega)
      go_wp2_with fail
      go_ret
      exact ⟨rfl, HB.out⟩
end Go.Proofs.Ytibkhjpjneoabaa
