/- each: the results of bytes. -/
import Derived.Test.YtibkhjpjneoabaaFm
namespace Go.Proofs.Ytibkhjpjneoabaa
open Go.RowKit
set_option linter.unusedVariables false
set_option linter.unusedSimpArgs false

theorem els40 : ElS Try.prog 40 44 3 40 := ElS.mk' (z := .agg #[.int .i64 0, .slice none 0 0, .int .i64 0]) Try.underlying40 (by kernel_rfl) rfl (by omega)
theorem fd_one (d : Fd) : ∀ u ∈ d.cells, u.oneCell' = true := by
  intro u hu
  simp [Fd.cells, Fd.val] at hu
  rcases hu with rfl | rfl | rfl <;> rfl

theorem EaI.pushed {w W W2 : World} {B r : Nat} {k m c : Int} {v out v1 out2 : Value} {s : St} {ds es : List Fd} {o : Obj} (h : EaI w W B r k m c v s out v1 ds) (hn : v1.ownBlock = none) (hg : (W.alloc o).grownBy W2 out.ownBlock) (hf : FrL W2 w.heap.size out2 es) : EaI w W2 B r k m c v s out2 v1 es := by
  have hon : Only (fun g => out.ownBlock = some g) W W2 := Only.grown (Only.of_below ((Below.refl _ W).alloc (Nat.le_refl _) o)) hg fun g e _ => e
  have hlo : ∀ g, out.ownBlock = some g → w.heap.size ≤ g := fun g e => (h.frs.own.lt g e).1
  refine ⟨h.rd.only hon fun q hq e => ?_, (h.only.trans (hon.mono (q := fun g => w.heap.size ≤ g) fun b _ e => hlo b e) fun b hb e => absurd e (by omega)), h.hat, hf, fun d hd j hj e => by rw [hn] at e; cases e⟩
  rcases hq with rfl | hq
  · exact own_neB h.frs.own h.rd.blk (by decide) e
  · rw [hn] at hq; cases hq
/-- What each returns and leaves. -/
def Eached (w : World) (B r : Nat) (k m c : Int) (v : Value) (s : St) (l : List UInt8) (e : Ending) (w' : World) : Prop := ∃ out v' ds, e = .returned out ∧ EaI w w' B r k m c v (feedS k m c s l).1 out v' ds ∧ ds.map Fd.fr = (feedS k m c s l).2

set_option maxRecDepth 100000 in
set_option maxHeartbeats 4000000 in
theorem each_any (B r br bf : Nat) (k m c : Int) (v : Value) (s : St) (A : Option Addr) (n cp : Nat) (l : List UInt8) (w : World) (hF : OkF k m c) (hs : RdS w B r k m c v s) (hr : RB w A n cp l) (sep : ∀ a, A = some a → 0 < n → ¬ SFo r v a.block) (hl : s.held.length + n ≤ 40000) (ho : s.off + n ≤ 1000000) (hg : Blk w br 37 #[.pointer (some ⟨r, 0, none⟩)]) (hf : Blk w bf 67 #[.func (.func (fnOf k)) #[] #[]]) :
    Calls Try.prog 35 #[.slice A n cp, .func (.func 36) #[] #[.pointer (some ⟨br, 0, none⟩), .pointer (some ⟨bf, 0, none⟩)]] w (Eached w B r k m c v s l) := by
  have HF := Lib.hid hF
  have HS := Lib.hid hs
  have HR := Lib.hid hr
  have SEP := Lib.hid sep
  have HL := Lib.hid hl
  have HO := Lib.hid ho
  have HG := Lib.hid hg
  have HV := Lib.hid hf
  have hn : (n : Int) ≤ 40000 := by omega
  have GSEP := Lib.hid (show ¬ SFo r v br from fun e => by
    rcases e with e | e
    · exact (hs.blk.ne hg (by decide)) e.symm
    · exact own_ne hs.own hg (by decide) e)
  have FSEP := Lib.hid (show ¬ SFo r v bf from fun e => by
    rcases e with e | e
    · exact (hs.blk.ne hf (by decide)) e.symm
    · exact own_ne hs.own hf (by decide) e)
  clear hF hs hr sep hl ho hg hf
  go_enter Try.func35, Try.ntmps35
  go_wp2_with fail
  go_loopw [4, 11] (fun oo ii wr => ∃ (i : Nat) (out v1 : Value) (ds : List Fd), (i : Int) ≤ n ∧ ii = .int .i64 i ∧ out = oo ∧ Hid (EaI w wr B r k m c v (feedS k m c s (l.take i)).1 out v1 ds ∧ ds.map Fd.fr = (feedS k m c s (l.take i)).2 ∧ ds.length ≤ i)) (fun _ ii _ => n - (intOf ii).toNat)
  case atStart => exact ⟨0, .slice none 0 0, v, [], by omega, rfl, rfl, Lib.hid ⟨⟨HS.out, Only.refl _ _, Hat.refl _ _, ⟨World.ownsRow_nil _ _ 44 3, fun _ h => by cases h⟩, fun _ h => by cases h⟩, rfl, Nat.le_refl _⟩⟩
  case round =>
    obtain ⟨i, out, v1, ds, hi, rfl, rfl, HI⟩ := hrel
    have hi0 : (0 : Int) ≤ i := by omega
    obtain ⟨wo, rfl⟩ : ∃ wo : World, wo = wr := ⟨_, rfl⟩
    by_cases hlt : (i : Int) < n
    · have hil : i < l.length := by have := HR.out.len; omega
      have hro := HR.out.only HI.out.1.only SEP.out
      obtain ⟨b, o, rfl, hbl, hc⟩ := hro.bs (by omega)
      have kx := hc i hil
      obtain ⟨y, hy⟩ : ∃ y, l[i] = y := ⟨_, rfl⟩
      obtain ⟨x, hx⟩ : ∃ x : Int, (y.toNat : Int) = x := ⟨_, rfl⟩
      have hx0 : 0 ≤ x := by omega
      have hx1 : x < 256 := by have := y.toNat_lt; omega
      rw [hy, hx] at kx
      have HTK := Lib.hid (show l.take (i + 1) = l.take i ++ [y] by rw [List.take_succ_eq_append_getElem hil, hy])
      have hfl := feedS_len k m c (l.take i) s
      rw [List.length_take] at hfl
      have HFS := Lib.hid (show feedS k m c s (l.take (i + 1)) = ((stepS k m c (feedS k m c s (l.take i)).1 y).1, (feedS k m c s (l.take i)).2 ++ (stepS k m c (feedS k m c s (l.take i)).1 y).2.toList) by rw [HTK.out, feedS_snoc])
      have hst := stepS_nil k m c (feedS k m c s (l.take i)).1 y
      have hmin : min i l.length ≤ i := Nat.min_le_left _ _
      have c36 := step_any B r br bf k m c v1 (feedS k m c s (l.take i)).1 y wo HF.out HI.out.1.rd (by have := HL.out; omega) (HG.out.only HI.out.1.only GSEP.out) (HV.out.only HI.out.1.only FSEP.out) (by have := HO.out; omega)
      rw [show Go.Proofs.Ytibkhjpjneoabaa.u8 y = .int .u8 x from by rw [← hx]; rfl] at c36
      generalize feedS k m c s (l.take i) = fs at *
      obtain ⟨s1, fr1⟩ := fs
      generalize stepS k m c s1 y = pp at *
      have C36 := Lib.hid c36
      have HST := Lib.hid hst
      have HLT := Lib.hid hlt
      clear hro hc hx hy hfl hmin c36 hst
      obtain ⟨s8, o8⟩ := pp
      cases o8 with
      | none =>
        have C4 := Lib.hid (C36.out.mono fun e w' h => (show e = .returned (.tuple #[.agg #[.int .i64 0, .slice none 0 0, .int .i64 0], .bool false]) ∧ ∃ v', StepD wo w' B r k m c v1 v' s8 from h))
        clear C36
        go_wp2_with (go_at_call 36; (with_reducible refine C4.out.mono ?_); rintro e w8 ⟨rfl, v8, hd8⟩; have HD8 := Lib.hid hd8; clear hd8)
        go_roundw
        case rel =>
          refine ⟨i + 1, out, v8, ds, by have := HLT.out; omega, by go_num, rfl, Lib.hid ⟨?_, ?_, by have := HI.out.2.2; omega⟩⟩
          · rw [HFS.out]
            exact (HI.out.1.step HD8.out).below ((Below.refl _ _).alloc (Nat.le_refl _) _)
          · rw [HFS.out]
            simpa using HI.out.2.1
        case measure => have := HLT.out; simp [intOf]; omega
      | some f8 =>
        have C4 := Lib.hid (C36.out.mono fun e w' h => (show (∃ A n cp, e = .returned (.tuple #[.agg #[.int .i64 (f8.at_ : Int), .slice A n cp, .int .i64 f8.code], .bool true]) ∧ w'.ownsRow wo.heap.size 5 1 (.slice A n cp) n (f8.bytes.map Go.Proofs.Ytibkhjpjneoabaa.u8)) ∧ ∃ v', StepD wo w' B r k m c v1 v' s8 from h))
        clear C36
        go_wp2_with (go_at_call 36; (with_reducible refine C4.out.mono ?_); rintro e w8 ⟨⟨A8, n8, c8, rfl, ho8⟩, v8, hd8⟩; refine Hid.out ?_)
        refine Lib.hid ?_
        have HD8 := Lib.hid (HI.out.1.step hd8)
        have HN8 := Lib.hid (hd8.rd.nil (HST.out f8 rfl))
        have HO8 := Lib.hid (own_base ho8 HI.out.1.only.size)
        clear ho8 hd8
        go_upto_region 6 with fail
        obtain ⟨w9, hw9⟩ : ∃ w9, w8.alloc (.cells #[.int .i64 (f8.at_ : Int), .slice A8 n8 c8, .int .i64 f8.code] 44) = w9 := ⟨_, rfl⟩
        have hb9 : Below w8.heap.size w8 w9 := hw9 ▸ (Below.refl _ w8).alloc (Nat.le_refl _) _
        have kb : Blk w9 w8.heap.size 44 #[.int .i64 (f8.at_ : Int), .slice A8 n8 c8, .int .i64 f8.code] := hw9 ▸ Blk.new w8 44 _
        have p0 : w9.cell? ⟨w8.heap.size, 0, none⟩ = some (.int .i64 (f8.at_ : Int)) := kb.cell 0
        have p1 : w9.cell? ⟨w8.heap.size, 1, none⟩ = some (.slice A8 n8 c8) := kb.cell 1
        have p2 : w9.cell? ⟨w8.heap.size, 2, none⟩ = some (.int .i64 f8.code) := kb.cell 2
        have HD9 := Lib.hid (HD8.out.below hb9)
        have HO9 := Lib.hid (own_keeps HO8.out fun g hg => hb9.block g (own_lt HO8.out g hg))
        rw [hw9]
        have hd2 := HI.out.2.2
        have HDL := Lib.hid (show ds.length ≤ 40000 by omega)
        clear hw9 hb9 kb hd2 kx
        go_wp2_with (at_builtin; go_must (refine wpList_app_sz rfl (.tmp 22) (.tmp 24) 40 rfl els40 (base := w.heap.size) (n := ds.length) (m := 1) (xs := ds.flatMap Fd.cells) (news := Fd.cells ⟨f8, A8, n8, c8⟩) rfl (own_alloc HD9.out.frs.own) rfl (HoldsS.new _ 3 1 (Fd.cells ⟨f8, A8, n8, c8⟩) 44 rfl) (fd_one _) (by have := HDL.out; unfold maxLen; omega) (by have := HDL.out; omega) (by have := HD9.out.only.size; simp; omega) (by simp) ?_; intro v4 w4 hown hgr; refine Hid.out ?_))
        refine Lib.hid ?_
        have HF4 := Lib.hid (FrL.push (d := ⟨f8, A8, n8, c8⟩) HD9.out.frs HO9.out hown hgr)
        have HE4 := Lib.hid (show EaI w w4 B r k m c v s8 v4 v8 (ds ++ [⟨f8, A8, n8, c8⟩]) from HD9.out.pushed (o := .cells (Fd.cells ⟨f8, A8, n8, c8⟩).toArray 44) HN8.out hgr HF4.out)
        clear hown hgr p0 p1 p2
        go_wp2_with fail
        go_roundw
        case rel =>
          refine ⟨i + 1, v4, v8, ds ++ [⟨f8, A8, n8, c8⟩], by have := HLT.out; omega, by go_num, rfl, Lib.hid ⟨?_, ?_, by have := HI.out.2.2; simp; omega⟩⟩
          · rw [HFS.out]
            exact HE4.out
          · rw [HFS.out, List.map_append, HI.out.2.1]
            rfl
        case measure => have := HLT.out; simp [intOf]; omega
    · have HLE := Lib.hid (show i = n by omega)
      go_wp2_with fail
      have hE := HI.out
      rw [HLE.out, List.take_of_length_le (Nat.le_of_eq HR.out.len)] at hE
      go_ret
      exact ⟨out, v1, ds, rfl, hE.1, hE.2.1⟩
end Go.Proofs.Ytibkhjpjneoabaa
