/- FrameCopies: the law's walk. -/
import Derived.Test.YtibkhjpjneoabaaGd
import Derived.Test.YtibkhjpjneoabaaGi
import Derived.Test.YtibkhjpjneoabaaRw
namespace Go.Proofs.Ytibkhjpjneoabaa
open Go.RowKit
set_option linter.unusedVariables false
set_option linter.unusedSimpArgs false

def Res.frl (B : Nat) (out : Value) (ds : List Fd) : Res B := ⟨fun b => out.ownBlock = some b ∨ ∃ d ∈ ds, d.val.ownBlock = some b, fun w => FrL w B out ds, fun w h b hb => by
  rcases hb with hb | ⟨d, hd, hb⟩
  · exact own_lt h.own b hb
  · exact own_lt (h.rows d hd) b hb, fun w h b hb => by
  rcases hb with hb | ⟨d, hd, hb⟩
  · exact (h.own.lt b hb).1
  · exact ((h.rows d hd).lt b hb).1, fun w w2 h ho => h.only ho (fun j hj hn => hn (.inl hj)) (fun d hd j hj hn => hn (.inr ⟨d, hd, hj⟩))⟩
def sixR (B : Nat) (A Bq U V G H : Res B) : Nat → Res B
  | 0 => A
  | 1 => Bq
  | 2 => U
  | 3 => V
  | 4 => G
  | 5 => H
  | _ => Res.nil B
theorem sixR_0 {B : Nat} {A Bq U V G H r : Res B} : Res.upd (sixR B A Bq U V G H) 0 r = sixR B r Bq U V G H := by
  funext j
  match j with
  | 0 => rfl
  | 1 => rfl
  | 2 => rfl
  | 3 => rfl
  | 4 => rfl
  | 5 => rfl
  | _ + 6 => rfl
theorem sixR_1 {B : Nat} {A Bq U V G H r : Res B} : Res.upd (sixR B A Bq U V G H) 1 r = sixR B A r U V G H := by
  funext j
  match j with
  | 0 => rfl
  | 1 => rfl
  | 2 => rfl
  | 3 => rfl
  | 4 => rfl
  | 5 => rfl
  | _ + 6 => rfl
theorem sixR_2 {B : Nat} {A Bq U V G H r : Res B} : Res.upd (sixR B A Bq U V G H) 2 r = sixR B A Bq r V G H := by
  funext j
  match j with
  | 0 => rfl
  | 1 => rfl
  | 2 => rfl
  | 3 => rfl
  | 4 => rfl
  | 5 => rfl
  | _ + 6 => rfl
theorem sixR_3 {B : Nat} {A Bq U V G H r : Res B} : Res.upd (sixR B A Bq U V G H) 3 r = sixR B A Bq U r G H := by
  funext j
  match j with
  | 0 => rfl
  | 1 => rfl
  | 2 => rfl
  | 3 => rfl
  | 4 => rfl
  | 5 => rfl
  | _ + 6 => rfl
theorem sixR_4 {B : Nat} {A Bq U V G H r : Res B} : Res.upd (sixR B A Bq U V G H) 4 r = sixR B A Bq U V r H := by
  funext j
  match j with
  | 0 => rfl
  | 1 => rfl
  | 2 => rfl
  | 3 => rfl
  | 4 => rfl
  | 5 => rfl
  | _ + 6 => rfl
theorem sixR_5 {B : Nat} {A Bq U V G H r : Res B} : Res.upd (sixR B A Bq U V G H) 5 r = sixR B A Bq U V G r := by
  funext j
  match j with
  | 0 => rfl
  | 1 => rfl
  | 2 => rfl
  | 3 => rfl
  | 4 => rfl
  | 5 => rfl
  | _ + 6 => rfl
def rRow (B : Nat) (b1 b3 b5 b6 : Bool) (v72 v74 v76 : Value) (l1 l2 : List UInt8) : Res B := cond b1 (cond b3 (cond b5 (cond b6 (Res.nil B) (Res.row B v76 l2)) (Res.row B v74 l1)) (Res.row B v72 [])) (Res.nil B)
def rLst (B : Nat) (b : Bool) (o : Value) (d : List Fd) : Res B := cond b (Res.frl B o d) (Res.nil B)
def rBox (B g : Nat) (h : B ≤ g) (b st : Bool) (o : Value) (br : Bool) (md : Int) : Res B := cond b (Res.blk B g h 49 (cond st #[o, .bool br, .int .i64 md] #[.slice none 0 0, .bool false, .int .i64 0])) (Res.nil B)
/-- The lists, and what is read of them. -/
structure CpC where
  l1 : List UInt8
  l2 : List UInt8
  l3 : List UInt8
  brU : Bool
  mdU : Int
  fsU : List Fr
  brV : Bool
  mdV : Int
  fsV : List Fr
/-- What has come up of the region's operations, and what they have made. -/
structure CpS (C : CpC) (w0 w : World) (b1 b3 b5 b6 b8 b10 b12 b13 b14 b15 b16 b17 : Bool) (v72 v74 v76 v77 v79 v81 v83 v84 v19 v20 oU oV : Value) (dU dV : List Fd) (gG gH : Nat) (hG : w0.heap.size ≤ gG) (hH : w0.heap.size ≤ gH) : Prop where
  below : Below w0.heap.size w0 w
  n3 : b3 = true → b1 = true
  n5 : b5 = true → b3 = true
  n6 : b6 = true → b5 = true
  n10 : b10 = true → b8 = true ∧ b6 = true
  n12 : b12 = true → b10 = true
  n13 : b13 = true → b12 = true
  n16 : b16 = true → b13 = true ∧ b14 = true
  n17 : b17 = true → b16 = true ∧ b15 = true
  e77 : b6 = true → v77 = .agg #[oU, .bool C.brU, .int .i64 C.mdU] ∧ dU.map Fd.fr = C.fsU
  e84 : b13 = true → v84 = .agg #[oV, .bool C.brV, .int .i64 C.mdV] ∧ dV.map Fd.fr = C.fsV
  e19 : b14 = true → v19 = .pointer (some ⟨gG, 0, none⟩)
  e20 : b15 = true → v20 = .pointer (some ⟨gH, 0, none⟩)
  sep : Sep2 w0.heap.size w (sixR w0.heap.size (rRow w0.heap.size b1 b3 b5 b6 v72 v74 v76 C.l1 C.l2) (rRow w0.heap.size b8 b10 b12 b13 v79 v81 v83 C.l1 C.l3) (rLst w0.heap.size b6 oU dU) (rLst w0.heap.size b13 oV dV) (rBox w0.heap.size gG hG b14 b16 oU C.brU C.mdU) (rBox w0.heap.size gH hH b15 b17 oV C.brV C.mdV))
section
variable {C : CpC} {w0 w : World}
theorem CpS.s1 {b3 b5 b6 b8 b10 b12 b13 b14 b15 b16 b17 : Bool} {v72 v74 v76 v77 v79 v81 v83 v84 v19 v20 oU oV : Value} {dU dV : List Fd} {gG gH : Nat} {hG : w0.heap.size ≤ gG} {hH : w0.heap.size ≤ gH} (I : CpS C w0 w false b3 b5 b6 b8 b10 b12 b13 b14 b15 b16 b17 v72 v74 v76 v77 v79 v81 v83 v84 v19 v20 oU oV dU dV gG gH hG hH)  : CpS C w0 (w.alloc (.cells #[] 5)) true b3 b5 b6 b8 b10 b12 b13 b14 b15 b16 b17 (.slice (some ⟨w.heap.size, 0, none⟩) 0 0) v74 v76 v77 v79 v81 v83 v84 v19 v20 oU oV dU dV gG gH hG hH := by
  obtain rfl : b3 = false := by
    cases b3 with
    | false => rfl
    | true => exact absurd (I.n3 rfl) (by decide)
  have hBw : w0.heap.size ≤ w.heap.size := I.below.size
  have hb : Below w.heap.size w (w.alloc (.cells #[] 5)) := (Below.refl _ w).alloc (Nat.le_refl _) _
  have hbel := I.below.trans (hb.mono hBw)
  have hs := I.sep.upd 0 (Res.row w0.heap.size (.slice (some ⟨w.heap.size, 0, none⟩) 0 0) []) (Only.of_below hb) (own_base (own_none00 w 5) hBw) (fun b hb => .inr (by cases hb; exact Nat.le_refl _))
  rw [sixR_0] at hs
  exact ⟨hbel, (by first | exact I.n3 | exact fun h => absurd h (by decide) | exact fun _ => rfl | exact fun h => ⟨(I.n3 h).1, rfl⟩ | exact fun h => ⟨rfl, (I.n3 h).2⟩ | exact fun h => ⟨rfl, rfl⟩), (by first | exact I.n5 | exact fun h => absurd h (by decide) | exact fun _ => rfl | exact fun h => ⟨(I.n5 h).1, rfl⟩ | exact fun h => ⟨rfl, (I.n5 h).2⟩ | exact fun h => ⟨rfl, rfl⟩), (by first | exact I.n6 | exact fun h => absurd h (by decide) | exact fun _ => rfl | exact fun h => ⟨(I.n6 h).1, rfl⟩ | exact fun h => ⟨rfl, (I.n6 h).2⟩ | exact fun h => ⟨rfl, rfl⟩), (by first | exact I.n10 | exact fun h => absurd h (by decide) | exact fun _ => rfl | exact fun h => ⟨(I.n10 h).1, rfl⟩ | exact fun h => ⟨rfl, (I.n10 h).2⟩ | exact fun h => ⟨rfl, rfl⟩), (by first | exact I.n12 | exact fun h => absurd h (by decide) | exact fun _ => rfl | exact fun h => ⟨(I.n12 h).1, rfl⟩ | exact fun h => ⟨rfl, (I.n12 h).2⟩ | exact fun h => ⟨rfl, rfl⟩), (by first | exact I.n13 | exact fun h => absurd h (by decide) | exact fun _ => rfl | exact fun h => ⟨(I.n13 h).1, rfl⟩ | exact fun h => ⟨rfl, (I.n13 h).2⟩ | exact fun h => ⟨rfl, rfl⟩), (by first | exact I.n16 | exact fun h => absurd h (by decide) | exact fun _ => rfl | exact fun h => ⟨(I.n16 h).1, rfl⟩ | exact fun h => ⟨rfl, (I.n16 h).2⟩ | exact fun h => ⟨rfl, rfl⟩), (by first | exact I.n17 | exact fun h => absurd h (by decide) | exact fun _ => rfl | exact fun h => ⟨(I.n17 h).1, rfl⟩ | exact fun h => ⟨rfl, (I.n17 h).2⟩ | exact fun h => ⟨rfl, rfl⟩), (by first | exact I.e77 | exact fun _ => rfl), (by first | exact I.e84 | exact fun _ => rfl), (by first | exact I.e19 | exact fun _ => rfl), (by first | exact I.e20 | exact fun _ => rfl), hs⟩
theorem CpS.s3 {b5 b6 b8 b10 b12 b13 b14 b15 b16 b17 : Bool} {v72 v74 v76 v77 v79 v81 v83 v84 v19 v20 oU oV : Value} {dU dV : List Fd} {gG gH : Nat} {hG : w0.heap.size ≤ gG} {hH : w0.heap.size ≤ gH} (I : CpS C w0 w true false b5 b6 b8 b10 b12 b13 b14 b15 b16 b17 v72 v74 v76 v77 v79 v81 v83 v84 v19 v20 oU oV dU dV gG gH hG hH) {w2 : World} {v2 : Value} (hown : w2.ownsRow w0.heap.size 5 1 v2 C.l1.length (C.l1.map u8)) (hg : w.grownBy w2 v72.ownBlock) (hat : v2.ownBlock = v72.ownBlock ∨ v2.ownBlock = some w.heap.size) : CpS C w0 w2 true true b5 b6 b8 b10 b12 b13 b14 b15 b16 b17 v72 v2 v76 v77 v79 v81 v83 v84 v19 v20 oU oV dU dV gG gH hG hH := by
  obtain rfl : b5 = false := by
    cases b5 with
    | false => rfl
    | true => exact absurd (I.n5 rfl) (by decide)
  have hBw : w0.heap.size ≤ w.heap.size := I.below.size
  have ho : Only (fun b => v72.ownBlock = some b) w w2 := Only.grown (Only.refl _ _) hg fun g e _ => e
  have hs := I.sep.upd 0 (Res.row w0.heap.size v2 C.l1) ho hown (fun b hb => hat.elim (fun e => .inl (e.symm.trans hb)) (fun e => .inr (by have h9 : some w.heap.size = some b := e.symm.trans hb; cases h9; exact Nat.le_refl _)))
  have hbel := I.sep.below 0 ho I.below hBw
  rw [sixR_0] at hs
  exact ⟨hbel, (by first | exact I.n3 | exact fun h => absurd h (by decide) | exact fun _ => rfl | exact fun h => ⟨(I.n3 h).1, rfl⟩ | exact fun h => ⟨rfl, (I.n3 h).2⟩ | exact fun h => ⟨rfl, rfl⟩), (by first | exact I.n5 | exact fun h => absurd h (by decide) | exact fun _ => rfl | exact fun h => ⟨(I.n5 h).1, rfl⟩ | exact fun h => ⟨rfl, (I.n5 h).2⟩ | exact fun h => ⟨rfl, rfl⟩), (by first | exact I.n6 | exact fun h => absurd h (by decide) | exact fun _ => rfl | exact fun h => ⟨(I.n6 h).1, rfl⟩ | exact fun h => ⟨rfl, (I.n6 h).2⟩ | exact fun h => ⟨rfl, rfl⟩), (by first | exact I.n10 | exact fun h => absurd h (by decide) | exact fun _ => rfl | exact fun h => ⟨(I.n10 h).1, rfl⟩ | exact fun h => ⟨rfl, (I.n10 h).2⟩ | exact fun h => ⟨rfl, rfl⟩), (by first | exact I.n12 | exact fun h => absurd h (by decide) | exact fun _ => rfl | exact fun h => ⟨(I.n12 h).1, rfl⟩ | exact fun h => ⟨rfl, (I.n12 h).2⟩ | exact fun h => ⟨rfl, rfl⟩), (by first | exact I.n13 | exact fun h => absurd h (by decide) | exact fun _ => rfl | exact fun h => ⟨(I.n13 h).1, rfl⟩ | exact fun h => ⟨rfl, (I.n13 h).2⟩ | exact fun h => ⟨rfl, rfl⟩), (by first | exact I.n16 | exact fun h => absurd h (by decide) | exact fun _ => rfl | exact fun h => ⟨(I.n16 h).1, rfl⟩ | exact fun h => ⟨rfl, (I.n16 h).2⟩ | exact fun h => ⟨rfl, rfl⟩), (by first | exact I.n17 | exact fun h => absurd h (by decide) | exact fun _ => rfl | exact fun h => ⟨(I.n17 h).1, rfl⟩ | exact fun h => ⟨rfl, (I.n17 h).2⟩ | exact fun h => ⟨rfl, rfl⟩), (by first | exact I.e77 | exact fun _ => rfl), (by first | exact I.e84 | exact fun _ => rfl), (by first | exact I.e19 | exact fun _ => rfl), (by first | exact I.e20 | exact fun _ => rfl), hs⟩
theorem CpS.s5 {b1 b6 b8 b10 b12 b13 b14 b15 b16 b17 : Bool} {v72 v74 v76 v77 v79 v81 v83 v84 v19 v20 oU oV : Value} {dU dV : List Fd} {gG gH : Nat} {hG : w0.heap.size ≤ gG} {hH : w0.heap.size ≤ gH} (I : CpS C w0 w b1 true false b6 b8 b10 b12 b13 b14 b15 b16 b17 v72 v74 v76 v77 v79 v81 v83 v84 v19 v20 oU oV dU dV gG gH hG hH) {w2 : World} {v2 : Value} (hown : w2.ownsRow w0.heap.size 5 1 v2 C.l2.length (C.l2.map u8)) (hg : w.grownBy w2 v74.ownBlock) (hat : v2.ownBlock = v74.ownBlock ∨ v2.ownBlock = some w.heap.size) : CpS C w0 w2 b1 true true b6 b8 b10 b12 b13 b14 b15 b16 b17 v72 v74 v2 v77 v79 v81 v83 v84 v19 v20 oU oV dU dV gG gH hG hH := by
  obtain rfl : b6 = false := by
    cases b6 with
    | false => rfl
    | true => exact absurd (I.n6 rfl) (by decide)
  obtain rfl : b1 = true := I.n3 rfl
  have hBw : w0.heap.size ≤ w.heap.size := I.below.size
  have ho : Only (fun b => v74.ownBlock = some b) w w2 := Only.grown (Only.refl _ _) hg fun g e _ => e
  have hs := I.sep.upd 0 (Res.row w0.heap.size v2 C.l2) ho hown (fun b hb => hat.elim (fun e => .inl (e.symm.trans hb)) (fun e => .inr (by have h9 : some w.heap.size = some b := e.symm.trans hb; cases h9; exact Nat.le_refl _)))
  have hbel := I.sep.below 0 ho I.below hBw
  rw [sixR_0] at hs
  exact ⟨hbel, (by first | exact I.n3 | exact fun h => absurd h (by decide) | exact fun _ => rfl | exact fun h => ⟨(I.n3 h).1, rfl⟩ | exact fun h => ⟨rfl, (I.n3 h).2⟩ | exact fun h => ⟨rfl, rfl⟩), (by first | exact I.n5 | exact fun h => absurd h (by decide) | exact fun _ => rfl | exact fun h => ⟨(I.n5 h).1, rfl⟩ | exact fun h => ⟨rfl, (I.n5 h).2⟩ | exact fun h => ⟨rfl, rfl⟩), (by first | exact I.n6 | exact fun h => absurd h (by decide) | exact fun _ => rfl | exact fun h => ⟨(I.n6 h).1, rfl⟩ | exact fun h => ⟨rfl, (I.n6 h).2⟩ | exact fun h => ⟨rfl, rfl⟩), (by first | exact I.n10 | exact fun h => absurd h (by decide) | exact fun _ => rfl | exact fun h => ⟨(I.n10 h).1, rfl⟩ | exact fun h => ⟨rfl, (I.n10 h).2⟩ | exact fun h => ⟨rfl, rfl⟩), (by first | exact I.n12 | exact fun h => absurd h (by decide) | exact fun _ => rfl | exact fun h => ⟨(I.n12 h).1, rfl⟩ | exact fun h => ⟨rfl, (I.n12 h).2⟩ | exact fun h => ⟨rfl, rfl⟩), (by first | exact I.n13 | exact fun h => absurd h (by decide) | exact fun _ => rfl | exact fun h => ⟨(I.n13 h).1, rfl⟩ | exact fun h => ⟨rfl, (I.n13 h).2⟩ | exact fun h => ⟨rfl, rfl⟩), (by first | exact I.n16 | exact fun h => absurd h (by decide) | exact fun _ => rfl | exact fun h => ⟨(I.n16 h).1, rfl⟩ | exact fun h => ⟨rfl, (I.n16 h).2⟩ | exact fun h => ⟨rfl, rfl⟩), (by first | exact I.n17 | exact fun h => absurd h (by decide) | exact fun _ => rfl | exact fun h => ⟨(I.n17 h).1, rfl⟩ | exact fun h => ⟨rfl, (I.n17 h).2⟩ | exact fun h => ⟨rfl, rfl⟩), (by first | exact I.e77 | exact fun _ => rfl), (by first | exact I.e84 | exact fun _ => rfl), (by first | exact I.e19 | exact fun _ => rfl), (by first | exact I.e20 | exact fun _ => rfl), hs⟩
theorem CpS.s6 {b1 b3 b8 b10 b12 b13 b14 b15 b16 b17 : Bool} {v72 v74 v76 v77 v79 v81 v83 v84 v19 v20 oU oV : Value} {dU dV : List Fd} {gG gH : Nat} {hG : w0.heap.size ≤ gG} {hH : w0.heap.size ≤ gH} (I : CpS C w0 w b1 b3 true false b8 b10 b12 b13 b14 b15 b16 b17 v72 v74 v76 v77 v79 v81 v83 v84 v19 v20 oU oV dU dV gG gH hG hH) {w2 : World} {o2 : Value} {d2 : List Fd} (hb : Below w.heap.size w w2) (hf : FrL w2 w.heap.size o2 d2) (hd : d2.map Fd.fr = C.fsU) : CpS C w0 w2 b1 b3 true true b8 b10 b12 b13 b14 b15 b16 b17 v72 v74 v76 (.agg #[o2, .bool C.brU, .int .i64 C.mdU]) v79 v81 v83 v84 v19 v20 o2 oV d2 dV gG gH hG hH := by
  obtain rfl : b10 = false := by
    cases b10 with
    | false => rfl
    | true => exact absurd (I.n10 rfl).2 (by decide)
  obtain rfl : b12 = false := by
    cases b12 with
    | false => rfl
    | true => exact absurd (I.n12 rfl) (by decide)
  obtain rfl : b13 = false := by
    cases b13 with
    | false => rfl
    | true => exact absurd (I.n13 rfl) (by decide)
  obtain rfl : b16 = false := by
    cases b16 with
    | false => rfl
    | true => exact absurd (I.n16 rfl).1 (by decide)
  obtain rfl : b3 = true := I.n5 rfl
  obtain rfl : b1 = true := I.n3 rfl
  have hBw : w0.heap.size ≤ w.heap.size := I.below.size
  have hbel := I.below.trans (hb.mono hBw)
  have hs := I.sep.upd 2 (Res.frl w0.heap.size o2 d2) (Only.of_below hb) (hf.base hBw) (fun b hb => .inr (by rcases hb with h | ⟨d, hd, h⟩; exact (hf.own.lt b h).1; exact ((hf.rows d hd).lt b h).1))
  rw [sixR_2] at hs
  have hs2 := hs.upd 0 (Res.nil _) (Only.refl _ _) trivial (fun b hb => hb.elim)
  rw [sixR_0] at hs2
  exact ⟨hbel, (by first | exact I.n3 | exact fun h => absurd h (by decide) | exact fun _ => rfl | exact fun h => ⟨(I.n3 h).1, rfl⟩ | exact fun h => ⟨rfl, (I.n3 h).2⟩ | exact fun h => ⟨rfl, rfl⟩), (by first | exact I.n5 | exact fun h => absurd h (by decide) | exact fun _ => rfl | exact fun h => ⟨(I.n5 h).1, rfl⟩ | exact fun h => ⟨rfl, (I.n5 h).2⟩ | exact fun h => ⟨rfl, rfl⟩), (by first | exact I.n6 | exact fun h => absurd h (by decide) | exact fun _ => rfl | exact fun h => ⟨(I.n6 h).1, rfl⟩ | exact fun h => ⟨rfl, (I.n6 h).2⟩ | exact fun h => ⟨rfl, rfl⟩), (by first | exact I.n10 | exact fun h => absurd h (by decide) | exact fun _ => rfl | exact fun h => ⟨(I.n10 h).1, rfl⟩ | exact fun h => ⟨rfl, (I.n10 h).2⟩ | exact fun h => ⟨rfl, rfl⟩), (by first | exact I.n12 | exact fun h => absurd h (by decide) | exact fun _ => rfl | exact fun h => ⟨(I.n12 h).1, rfl⟩ | exact fun h => ⟨rfl, (I.n12 h).2⟩ | exact fun h => ⟨rfl, rfl⟩), (by first | exact I.n13 | exact fun h => absurd h (by decide) | exact fun _ => rfl | exact fun h => ⟨(I.n13 h).1, rfl⟩ | exact fun h => ⟨rfl, (I.n13 h).2⟩ | exact fun h => ⟨rfl, rfl⟩), (by first | exact I.n16 | exact fun h => absurd h (by decide) | exact fun _ => rfl | exact fun h => ⟨(I.n16 h).1, rfl⟩ | exact fun h => ⟨rfl, (I.n16 h).2⟩ | exact fun h => ⟨rfl, rfl⟩), (by first | exact I.n17 | exact fun h => absurd h (by decide) | exact fun _ => rfl | exact fun h => ⟨(I.n17 h).1, rfl⟩ | exact fun h => ⟨rfl, (I.n17 h).2⟩ | exact fun h => ⟨rfl, rfl⟩), (fun _ => ⟨rfl, hd⟩), (by first | exact I.e84 | exact fun _ => rfl), (by first | exact I.e19 | exact fun _ => rfl), (by first | exact I.e20 | exact fun _ => rfl), hs2⟩
theorem CpS.s8 {b1 b3 b5 b6 b10 b12 b13 b14 b15 b16 b17 : Bool} {v72 v74 v76 v77 v79 v81 v83 v84 v19 v20 oU oV : Value} {dU dV : List Fd} {gG gH : Nat} {hG : w0.heap.size ≤ gG} {hH : w0.heap.size ≤ gH} (I : CpS C w0 w b1 b3 b5 b6 false b10 b12 b13 b14 b15 b16 b17 v72 v74 v76 v77 v79 v81 v83 v84 v19 v20 oU oV dU dV gG gH hG hH)  : CpS C w0 (w.alloc (.cells #[] 5)) b1 b3 b5 b6 true b10 b12 b13 b14 b15 b16 b17 v72 v74 v76 v77 (.slice (some ⟨w.heap.size, 0, none⟩) 0 0) v81 v83 v84 v19 v20 oU oV dU dV gG gH hG hH := by
  obtain rfl : b10 = false := by
    cases b10 with
    | false => rfl
    | true => exact absurd (I.n10 rfl).1 (by decide)
  have hBw : w0.heap.size ≤ w.heap.size := I.below.size
  have hb : Below w.heap.size w (w.alloc (.cells #[] 5)) := (Below.refl _ w).alloc (Nat.le_refl _) _
  have hbel := I.below.trans (hb.mono hBw)
  have hs := I.sep.upd 1 (Res.row w0.heap.size (.slice (some ⟨w.heap.size, 0, none⟩) 0 0) []) (Only.of_below hb) (own_base (own_none00 w 5) hBw) (fun b hb => .inr (by cases hb; exact Nat.le_refl _))
  rw [sixR_1] at hs
  exact ⟨hbel, (by first | exact I.n3 | exact fun h => absurd h (by decide) | exact fun _ => rfl | exact fun h => ⟨(I.n3 h).1, rfl⟩ | exact fun h => ⟨rfl, (I.n3 h).2⟩ | exact fun h => ⟨rfl, rfl⟩), (by first | exact I.n5 | exact fun h => absurd h (by decide) | exact fun _ => rfl | exact fun h => ⟨(I.n5 h).1, rfl⟩ | exact fun h => ⟨rfl, (I.n5 h).2⟩ | exact fun h => ⟨rfl, rfl⟩), (by first | exact I.n6 | exact fun h => absurd h (by decide) | exact fun _ => rfl | exact fun h => ⟨(I.n6 h).1, rfl⟩ | exact fun h => ⟨rfl, (I.n6 h).2⟩ | exact fun h => ⟨rfl, rfl⟩), (by first | exact I.n10 | exact fun h => absurd h (by decide) | exact fun _ => rfl | exact fun h => ⟨(I.n10 h).1, rfl⟩ | exact fun h => ⟨rfl, (I.n10 h).2⟩ | exact fun h => ⟨rfl, rfl⟩), (by first | exact I.n12 | exact fun h => absurd h (by decide) | exact fun _ => rfl | exact fun h => ⟨(I.n12 h).1, rfl⟩ | exact fun h => ⟨rfl, (I.n12 h).2⟩ | exact fun h => ⟨rfl, rfl⟩), (by first | exact I.n13 | exact fun h => absurd h (by decide) | exact fun _ => rfl | exact fun h => ⟨(I.n13 h).1, rfl⟩ | exact fun h => ⟨rfl, (I.n13 h).2⟩ | exact fun h => ⟨rfl, rfl⟩), (by first | exact I.n16 | exact fun h => absurd h (by decide) | exact fun _ => rfl | exact fun h => ⟨(I.n16 h).1, rfl⟩ | exact fun h => ⟨rfl, (I.n16 h).2⟩ | exact fun h => ⟨rfl, rfl⟩), (by first | exact I.n17 | exact fun h => absurd h (by decide) | exact fun _ => rfl | exact fun h => ⟨(I.n17 h).1, rfl⟩ | exact fun h => ⟨rfl, (I.n17 h).2⟩ | exact fun h => ⟨rfl, rfl⟩), (by first | exact I.e77 | exact fun _ => rfl), (by first | exact I.e84 | exact fun _ => rfl), (by first | exact I.e19 | exact fun _ => rfl), (by first | exact I.e20 | exact fun _ => rfl), hs⟩
theorem CpS.s10 {b1 b3 b5 b12 b13 b14 b15 b16 b17 : Bool} {v72 v74 v76 v77 v79 v81 v83 v84 v19 v20 oU oV : Value} {dU dV : List Fd} {gG gH : Nat} {hG : w0.heap.size ≤ gG} {hH : w0.heap.size ≤ gH} (I : CpS C w0 w b1 b3 b5 true true false b12 b13 b14 b15 b16 b17 v72 v74 v76 v77 v79 v81 v83 v84 v19 v20 oU oV dU dV gG gH hG hH) {w2 : World} {v2 : Value} (hown : w2.ownsRow w0.heap.size 5 1 v2 C.l1.length (C.l1.map u8)) (hg : w.grownBy w2 v79.ownBlock) (hat : v2.ownBlock = v79.ownBlock ∨ v2.ownBlock = some w.heap.size) : CpS C w0 w2 b1 b3 b5 true true true b12 b13 b14 b15 b16 b17 v72 v74 v76 v77 v79 v2 v83 v84 v19 v20 oU oV dU dV gG gH hG hH := by
  obtain rfl : b12 = false := by
    cases b12 with
    | false => rfl
    | true => exact absurd (I.n12 rfl) (by decide)
  have hBw : w0.heap.size ≤ w.heap.size := I.below.size
  have ho : Only (fun b => v79.ownBlock = some b) w w2 := Only.grown (Only.refl _ _) hg fun g e _ => e
  have hs := I.sep.upd 1 (Res.row w0.heap.size v2 C.l1) ho hown (fun b hb => hat.elim (fun e => .inl (e.symm.trans hb)) (fun e => .inr (by have h9 : some w.heap.size = some b := e.symm.trans hb; cases h9; exact Nat.le_refl _)))
  have hbel := I.sep.below 1 ho I.below hBw
  rw [sixR_1] at hs
  exact ⟨hbel, (by first | exact I.n3 | exact fun h => absurd h (by decide) | exact fun _ => rfl | exact fun h => ⟨(I.n3 h).1, rfl⟩ | exact fun h => ⟨rfl, (I.n3 h).2⟩ | exact fun h => ⟨rfl, rfl⟩), (by first | exact I.n5 | exact fun h => absurd h (by decide) | exact fun _ => rfl | exact fun h => ⟨(I.n5 h).1, rfl⟩ | exact fun h => ⟨rfl, (I.n5 h).2⟩ | exact fun h => ⟨rfl, rfl⟩), (by first | exact I.n6 | exact fun h => absurd h (by decide) | exact fun _ => rfl | exact fun h => ⟨(I.n6 h).1, rfl⟩ | exact fun h => ⟨rfl, (I.n6 h).2⟩ | exact fun h => ⟨rfl, rfl⟩), (by first | exact I.n10 | exact fun h => absurd h (by decide) | exact fun _ => rfl | exact fun h => ⟨(I.n10 h).1, rfl⟩ | exact fun h => ⟨rfl, (I.n10 h).2⟩ | exact fun h => ⟨rfl, rfl⟩), (by first | exact I.n12 | exact fun h => absurd h (by decide) | exact fun _ => rfl | exact fun h => ⟨(I.n12 h).1, rfl⟩ | exact fun h => ⟨rfl, (I.n12 h).2⟩ | exact fun h => ⟨rfl, rfl⟩), (by first | exact I.n13 | exact fun h => absurd h (by decide) | exact fun _ => rfl | exact fun h => ⟨(I.n13 h).1, rfl⟩ | exact fun h => ⟨rfl, (I.n13 h).2⟩ | exact fun h => ⟨rfl, rfl⟩), (by first | exact I.n16 | exact fun h => absurd h (by decide) | exact fun _ => rfl | exact fun h => ⟨(I.n16 h).1, rfl⟩ | exact fun h => ⟨rfl, (I.n16 h).2⟩ | exact fun h => ⟨rfl, rfl⟩), (by first | exact I.n17 | exact fun h => absurd h (by decide) | exact fun _ => rfl | exact fun h => ⟨(I.n17 h).1, rfl⟩ | exact fun h => ⟨rfl, (I.n17 h).2⟩ | exact fun h => ⟨rfl, rfl⟩), (by first | exact I.e77 | exact fun _ => rfl), (by first | exact I.e84 | exact fun _ => rfl), (by first | exact I.e19 | exact fun _ => rfl), (by first | exact I.e20 | exact fun _ => rfl), hs⟩
theorem CpS.s12 {b1 b3 b5 b6 b8 b13 b14 b15 b16 b17 : Bool} {v72 v74 v76 v77 v79 v81 v83 v84 v19 v20 oU oV : Value} {dU dV : List Fd} {gG gH : Nat} {hG : w0.heap.size ≤ gG} {hH : w0.heap.size ≤ gH} (I : CpS C w0 w b1 b3 b5 b6 b8 true false b13 b14 b15 b16 b17 v72 v74 v76 v77 v79 v81 v83 v84 v19 v20 oU oV dU dV gG gH hG hH) {w2 : World} {v2 : Value} (hown : w2.ownsRow w0.heap.size 5 1 v2 C.l3.length (C.l3.map u8)) (hg : w.grownBy w2 v81.ownBlock) (hat : v2.ownBlock = v81.ownBlock ∨ v2.ownBlock = some w.heap.size) : CpS C w0 w2 b1 b3 b5 b6 b8 true true b13 b14 b15 b16 b17 v72 v74 v76 v77 v79 v81 v2 v84 v19 v20 oU oV dU dV gG gH hG hH := by
  obtain rfl : b13 = false := by
    cases b13 with
    | false => rfl
    | true => exact absurd (I.n13 rfl) (by decide)
  obtain rfl : b8 = true := (I.n10 rfl).1
  have hBw : w0.heap.size ≤ w.heap.size := I.below.size
  have ho : Only (fun b => v81.ownBlock = some b) w w2 := Only.grown (Only.refl _ _) hg fun g e _ => e
  have hs := I.sep.upd 1 (Res.row w0.heap.size v2 C.l3) ho hown (fun b hb => hat.elim (fun e => .inl (e.symm.trans hb)) (fun e => .inr (by have h9 : some w.heap.size = some b := e.symm.trans hb; cases h9; exact Nat.le_refl _)))
  have hbel := I.sep.below 1 ho I.below hBw
  rw [sixR_1] at hs
  exact ⟨hbel, (by first | exact I.n3 | exact fun h => absurd h (by decide) | exact fun _ => rfl | exact fun h => ⟨(I.n3 h).1, rfl⟩ | exact fun h => ⟨rfl, (I.n3 h).2⟩ | exact fun h => ⟨rfl, rfl⟩), (by first | exact I.n5 | exact fun h => absurd h (by decide) | exact fun _ => rfl | exact fun h => ⟨(I.n5 h).1, rfl⟩ | exact fun h => ⟨rfl, (I.n5 h).2⟩ | exact fun h => ⟨rfl, rfl⟩), (by first | exact I.n6 | exact fun h => absurd h (by decide) | exact fun _ => rfl | exact fun h => ⟨(I.n6 h).1, rfl⟩ | exact fun h => ⟨rfl, (I.n6 h).2⟩ | exact fun h => ⟨rfl, rfl⟩), (by first | exact I.n10 | exact fun h => absurd h (by decide) | exact fun _ => rfl | exact fun h => ⟨(I.n10 h).1, rfl⟩ | exact fun h => ⟨rfl, (I.n10 h).2⟩ | exact fun h => ⟨rfl, rfl⟩), (by first | exact I.n12 | exact fun h => absurd h (by decide) | exact fun _ => rfl | exact fun h => ⟨(I.n12 h).1, rfl⟩ | exact fun h => ⟨rfl, (I.n12 h).2⟩ | exact fun h => ⟨rfl, rfl⟩), (by first | exact I.n13 | exact fun h => absurd h (by decide) | exact fun _ => rfl | exact fun h => ⟨(I.n13 h).1, rfl⟩ | exact fun h => ⟨rfl, (I.n13 h).2⟩ | exact fun h => ⟨rfl, rfl⟩), (by first | exact I.n16 | exact fun h => absurd h (by decide) | exact fun _ => rfl | exact fun h => ⟨(I.n16 h).1, rfl⟩ | exact fun h => ⟨rfl, (I.n16 h).2⟩ | exact fun h => ⟨rfl, rfl⟩), (by first | exact I.n17 | exact fun h => absurd h (by decide) | exact fun _ => rfl | exact fun h => ⟨(I.n17 h).1, rfl⟩ | exact fun h => ⟨rfl, (I.n17 h).2⟩ | exact fun h => ⟨rfl, rfl⟩), (by first | exact I.e77 | exact fun _ => rfl), (by first | exact I.e84 | exact fun _ => rfl), (by first | exact I.e19 | exact fun _ => rfl), (by first | exact I.e20 | exact fun _ => rfl), hs⟩
theorem CpS.s13 {b1 b3 b5 b6 b8 b10 b14 b15 b16 b17 : Bool} {v72 v74 v76 v77 v79 v81 v83 v84 v19 v20 oU oV : Value} {dU dV : List Fd} {gG gH : Nat} {hG : w0.heap.size ≤ gG} {hH : w0.heap.size ≤ gH} (I : CpS C w0 w b1 b3 b5 b6 b8 b10 true false b14 b15 b16 b17 v72 v74 v76 v77 v79 v81 v83 v84 v19 v20 oU oV dU dV gG gH hG hH) {w2 : World} {o2 : Value} {d2 : List Fd} (hb : Below w.heap.size w w2) (hf : FrL w2 w.heap.size o2 d2) (hd : d2.map Fd.fr = C.fsV) : CpS C w0 w2 b1 b3 b5 b6 b8 b10 true true b14 b15 b16 b17 v72 v74 v76 v77 v79 v81 v83 (.agg #[o2, .bool C.brV, .int .i64 C.mdV]) v19 v20 oU o2 dU d2 gG gH hG hH := by
  obtain rfl : b16 = false := by
    cases b16 with
    | false => rfl
    | true => exact absurd (I.n16 rfl).1 (by decide)
  obtain rfl : b17 = false := by
    cases b17 with
    | false => rfl
    | true => exact absurd (I.n17 rfl).1 (by decide)
  obtain rfl : b10 = true := I.n12 rfl
  obtain rfl : b8 = true := (I.n10 rfl).1
  have hBw : w0.heap.size ≤ w.heap.size := I.below.size
  have hbel := I.below.trans (hb.mono hBw)
  have hs := I.sep.upd 3 (Res.frl w0.heap.size o2 d2) (Only.of_below hb) (hf.base hBw) (fun b hb => .inr (by rcases hb with h | ⟨d, hd, h⟩; exact (hf.own.lt b h).1; exact ((hf.rows d hd).lt b h).1))
  rw [sixR_3] at hs
  have hs2 := hs.upd 1 (Res.nil _) (Only.refl _ _) trivial (fun b hb => hb.elim)
  rw [sixR_1] at hs2
  exact ⟨hbel, (by first | exact I.n3 | exact fun h => absurd h (by decide) | exact fun _ => rfl | exact fun h => ⟨(I.n3 h).1, rfl⟩ | exact fun h => ⟨rfl, (I.n3 h).2⟩ | exact fun h => ⟨rfl, rfl⟩), (by first | exact I.n5 | exact fun h => absurd h (by decide) | exact fun _ => rfl | exact fun h => ⟨(I.n5 h).1, rfl⟩ | exact fun h => ⟨rfl, (I.n5 h).2⟩ | exact fun h => ⟨rfl, rfl⟩), (by first | exact I.n6 | exact fun h => absurd h (by decide) | exact fun _ => rfl | exact fun h => ⟨(I.n6 h).1, rfl⟩ | exact fun h => ⟨rfl, (I.n6 h).2⟩ | exact fun h => ⟨rfl, rfl⟩), (by first | exact I.n10 | exact fun h => absurd h (by decide) | exact fun _ => rfl | exact fun h => ⟨(I.n10 h).1, rfl⟩ | exact fun h => ⟨rfl, (I.n10 h).2⟩ | exact fun h => ⟨rfl, rfl⟩), (by first | exact I.n12 | exact fun h => absurd h (by decide) | exact fun _ => rfl | exact fun h => ⟨(I.n12 h).1, rfl⟩ | exact fun h => ⟨rfl, (I.n12 h).2⟩ | exact fun h => ⟨rfl, rfl⟩), (by first | exact I.n13 | exact fun h => absurd h (by decide) | exact fun _ => rfl | exact fun h => ⟨(I.n13 h).1, rfl⟩ | exact fun h => ⟨rfl, (I.n13 h).2⟩ | exact fun h => ⟨rfl, rfl⟩), (by first | exact I.n16 | exact fun h => absurd h (by decide) | exact fun _ => rfl | exact fun h => ⟨(I.n16 h).1, rfl⟩ | exact fun h => ⟨rfl, (I.n16 h).2⟩ | exact fun h => ⟨rfl, rfl⟩), (by first | exact I.n17 | exact fun h => absurd h (by decide) | exact fun _ => rfl | exact fun h => ⟨(I.n17 h).1, rfl⟩ | exact fun h => ⟨rfl, (I.n17 h).2⟩ | exact fun h => ⟨rfl, rfl⟩), (by first | exact I.e77 | exact fun _ => rfl), (fun _ => ⟨rfl, hd⟩), (by first | exact I.e19 | exact fun _ => rfl), (by first | exact I.e20 | exact fun _ => rfl), hs2⟩
theorem CpS.s14 {b1 b3 b5 b6 b8 b10 b12 b13 b15 b16 b17 : Bool} {v72 v74 v76 v77 v79 v81 v83 v84 v19 v20 oU oV : Value} {dU dV : List Fd} {gG gH : Nat} {hG : w0.heap.size ≤ gG} {hH : w0.heap.size ≤ gH} (I : CpS C w0 w b1 b3 b5 b6 b8 b10 b12 b13 false b15 b16 b17 v72 v74 v76 v77 v79 v81 v83 v84 v19 v20 oU oV dU dV gG gH hG hH)  : CpS C w0 (w.alloc (.cells #[.slice none 0 0, .bool false, .int .i64 0] 49)) b1 b3 b5 b6 b8 b10 b12 b13 true b15 b16 b17 v72 v74 v76 v77 v79 v81 v83 v84 (.pointer (some ⟨w.heap.size, 0, none⟩)) v20 oU oV dU dV w.heap.size gH (I.below.size) hH := by
  obtain rfl : b16 = false := by
    cases b16 with
    | false => rfl
    | true => exact absurd (I.n16 rfl).2 (by decide)
  have hBw : w0.heap.size ≤ w.heap.size := I.below.size
  have hb : Below w.heap.size w (w.alloc (.cells #[.slice none 0 0, .bool false, .int .i64 0] 49)) := (Below.refl _ w).alloc (Nat.le_refl _) _
  have hbel := I.below.trans (hb.mono hBw)
  have hs := I.sep.upd 4 (Res.blk w0.heap.size w.heap.size hBw 49 #[.slice none 0 0, .bool false, .int .i64 0]) (Only.of_below hb) (Blk.new w 49 _) (fun b hb => .inr (by cases hb; exact Nat.le_refl _))
  rw [sixR_4] at hs
  exact ⟨hbel, (by first | exact I.n3 | exact fun h => absurd h (by decide) | exact fun _ => rfl | exact fun h => ⟨(I.n3 h).1, rfl⟩ | exact fun h => ⟨rfl, (I.n3 h).2⟩ | exact fun h => ⟨rfl, rfl⟩), (by first | exact I.n5 | exact fun h => absurd h (by decide) | exact fun _ => rfl | exact fun h => ⟨(I.n5 h).1, rfl⟩ | exact fun h => ⟨rfl, (I.n5 h).2⟩ | exact fun h => ⟨rfl, rfl⟩), (by first | exact I.n6 | exact fun h => absurd h (by decide) | exact fun _ => rfl | exact fun h => ⟨(I.n6 h).1, rfl⟩ | exact fun h => ⟨rfl, (I.n6 h).2⟩ | exact fun h => ⟨rfl, rfl⟩), (by first | exact I.n10 | exact fun h => absurd h (by decide) | exact fun _ => rfl | exact fun h => ⟨(I.n10 h).1, rfl⟩ | exact fun h => ⟨rfl, (I.n10 h).2⟩ | exact fun h => ⟨rfl, rfl⟩), (by first | exact I.n12 | exact fun h => absurd h (by decide) | exact fun _ => rfl | exact fun h => ⟨(I.n12 h).1, rfl⟩ | exact fun h => ⟨rfl, (I.n12 h).2⟩ | exact fun h => ⟨rfl, rfl⟩), (by first | exact I.n13 | exact fun h => absurd h (by decide) | exact fun _ => rfl | exact fun h => ⟨(I.n13 h).1, rfl⟩ | exact fun h => ⟨rfl, (I.n13 h).2⟩ | exact fun h => ⟨rfl, rfl⟩), (by first | exact I.n16 | exact fun h => absurd h (by decide) | exact fun _ => rfl | exact fun h => ⟨(I.n16 h).1, rfl⟩ | exact fun h => ⟨rfl, (I.n16 h).2⟩ | exact fun h => ⟨rfl, rfl⟩), (by first | exact I.n17 | exact fun h => absurd h (by decide) | exact fun _ => rfl | exact fun h => ⟨(I.n17 h).1, rfl⟩ | exact fun h => ⟨rfl, (I.n17 h).2⟩ | exact fun h => ⟨rfl, rfl⟩), (by first | exact I.e77 | exact fun _ => rfl), (by first | exact I.e84 | exact fun _ => rfl), (fun _ => rfl), (by first | exact I.e20 | exact fun _ => rfl), hs⟩
theorem CpS.s15 {b1 b3 b5 b6 b8 b10 b12 b13 b14 b16 b17 : Bool} {v72 v74 v76 v77 v79 v81 v83 v84 v19 v20 oU oV : Value} {dU dV : List Fd} {gG gH : Nat} {hG : w0.heap.size ≤ gG} {hH : w0.heap.size ≤ gH} (I : CpS C w0 w b1 b3 b5 b6 b8 b10 b12 b13 b14 false b16 b17 v72 v74 v76 v77 v79 v81 v83 v84 v19 v20 oU oV dU dV gG gH hG hH)  : CpS C w0 (w.alloc (.cells #[.slice none 0 0, .bool false, .int .i64 0] 49)) b1 b3 b5 b6 b8 b10 b12 b13 b14 true b16 b17 v72 v74 v76 v77 v79 v81 v83 v84 v19 (.pointer (some ⟨w.heap.size, 0, none⟩)) oU oV dU dV gG w.heap.size hG (I.below.size) := by
  obtain rfl : b17 = false := by
    cases b17 with
    | false => rfl
    | true => exact absurd (I.n17 rfl).2 (by decide)
  have hBw : w0.heap.size ≤ w.heap.size := I.below.size
  have hb : Below w.heap.size w (w.alloc (.cells #[.slice none 0 0, .bool false, .int .i64 0] 49)) := (Below.refl _ w).alloc (Nat.le_refl _) _
  have hbel := I.below.trans (hb.mono hBw)
  have hs := I.sep.upd 5 (Res.blk w0.heap.size w.heap.size hBw 49 #[.slice none 0 0, .bool false, .int .i64 0]) (Only.of_below hb) (Blk.new w 49 _) (fun b hb => .inr (by cases hb; exact Nat.le_refl _))
  rw [sixR_5] at hs
  exact ⟨hbel, (by first | exact I.n3 | exact fun h => absurd h (by decide) | exact fun _ => rfl | exact fun h => ⟨(I.n3 h).1, rfl⟩ | exact fun h => ⟨rfl, (I.n3 h).2⟩ | exact fun h => ⟨rfl, rfl⟩), (by first | exact I.n5 | exact fun h => absurd h (by decide) | exact fun _ => rfl | exact fun h => ⟨(I.n5 h).1, rfl⟩ | exact fun h => ⟨rfl, (I.n5 h).2⟩ | exact fun h => ⟨rfl, rfl⟩), (by first | exact I.n6 | exact fun h => absurd h (by decide) | exact fun _ => rfl | exact fun h => ⟨(I.n6 h).1, rfl⟩ | exact fun h => ⟨rfl, (I.n6 h).2⟩ | exact fun h => ⟨rfl, rfl⟩), (by first | exact I.n10 | exact fun h => absurd h (by decide) | exact fun _ => rfl | exact fun h => ⟨(I.n10 h).1, rfl⟩ | exact fun h => ⟨rfl, (I.n10 h).2⟩ | exact fun h => ⟨rfl, rfl⟩), (by first | exact I.n12 | exact fun h => absurd h (by decide) | exact fun _ => rfl | exact fun h => ⟨(I.n12 h).1, rfl⟩ | exact fun h => ⟨rfl, (I.n12 h).2⟩ | exact fun h => ⟨rfl, rfl⟩), (by first | exact I.n13 | exact fun h => absurd h (by decide) | exact fun _ => rfl | exact fun h => ⟨(I.n13 h).1, rfl⟩ | exact fun h => ⟨rfl, (I.n13 h).2⟩ | exact fun h => ⟨rfl, rfl⟩), (by first | exact I.n16 | exact fun h => absurd h (by decide) | exact fun _ => rfl | exact fun h => ⟨(I.n16 h).1, rfl⟩ | exact fun h => ⟨rfl, (I.n16 h).2⟩ | exact fun h => ⟨rfl, rfl⟩), (by first | exact I.n17 | exact fun h => absurd h (by decide) | exact fun _ => rfl | exact fun h => ⟨(I.n17 h).1, rfl⟩ | exact fun h => ⟨rfl, (I.n17 h).2⟩ | exact fun h => ⟨rfl, rfl⟩), (by first | exact I.e77 | exact fun _ => rfl), (by first | exact I.e84 | exact fun _ => rfl), (by first | exact I.e19 | exact fun _ => rfl), (fun _ => rfl), hs⟩
theorem CpS.s16 {b1 b3 b5 b6 b8 b10 b12 b15 b17 : Bool} {v72 v74 v76 v77 v79 v81 v83 v84 v19 v20 oU oV : Value} {dU dV : List Fd} {gG gH : Nat} {hG : w0.heap.size ≤ gG} {hH : w0.heap.size ≤ gH} (I : CpS C w0 w b1 b3 b5 b6 b8 b10 b12 true true b15 false b17 v72 v74 v76 v77 v79 v81 v83 v84 v19 v20 oU oV dU dV gG gH hG hH)  : CpS C w0 (((w.setCell ⟨gG, 0, none⟩ oU).setCell ⟨gG, 1, none⟩ (.bool C.brU)).setCell ⟨gG, 2, none⟩ (.int .i64 C.mdU)) b1 b3 b5 b6 b8 b10 b12 true true b15 true b17 v72 v74 v76 v77 v79 v81 v83 v84 v19 v20 oU oV dU dV gG gH hG hH := by
  have hBw : w0.heap.size ≤ w.heap.size := I.below.size
  have ho : Only (fun b => b = gG) w (((w.setCell ⟨gG, 0, none⟩ oU).setCell ⟨gG, 1, none⟩ (.bool C.brU)).setCell ⟨gG, 2, none⟩ (.int .i64 C.mdU)) := Only.set (p := fun b => b = gG) (Only.set (p := fun b => b = gG) (Only.set (p := fun b => b = gG) (Only.refl _ w) (fun _ => rfl) 0 _) (fun _ => rfl) 1 _) (fun _ => rfl) 2 _
  have hk : Blk w gG 49 #[.slice none 0 0, .bool false, .int .i64 0] := I.sep.ok 4
  have hk2 := ((hk.set_ 0 oU).set_ 1 (.bool C.brU)).set_ 2 (.int .i64 C.mdU)
  simp only [List.setIfInBounds_toArray, List.set_cons_zero, List.set_cons_succ] at hk2
  have hs := I.sep.upd 4 (Res.blk w0.heap.size gG hG 49 #[oU, .bool C.brU, .int .i64 C.mdU]) ho hk2 (fun b hb => .inl hb)
  have hbel := I.sep.below 4 ho I.below hBw
  rw [sixR_4] at hs
  exact ⟨hbel, (by first | exact I.n3 | exact fun h => absurd h (by decide) | exact fun _ => rfl | exact fun h => ⟨(I.n3 h).1, rfl⟩ | exact fun h => ⟨rfl, (I.n3 h).2⟩ | exact fun h => ⟨rfl, rfl⟩), (by first | exact I.n5 | exact fun h => absurd h (by decide) | exact fun _ => rfl | exact fun h => ⟨(I.n5 h).1, rfl⟩ | exact fun h => ⟨rfl, (I.n5 h).2⟩ | exact fun h => ⟨rfl, rfl⟩), (by first | exact I.n6 | exact fun h => absurd h (by decide) | exact fun _ => rfl | exact fun h => ⟨(I.n6 h).1, rfl⟩ | exact fun h => ⟨rfl, (I.n6 h).2⟩ | exact fun h => ⟨rfl, rfl⟩), (by first | exact I.n10 | exact fun h => absurd h (by decide) | exact fun _ => rfl | exact fun h => ⟨(I.n10 h).1, rfl⟩ | exact fun h => ⟨rfl, (I.n10 h).2⟩ | exact fun h => ⟨rfl, rfl⟩), (by first | exact I.n12 | exact fun h => absurd h (by decide) | exact fun _ => rfl | exact fun h => ⟨(I.n12 h).1, rfl⟩ | exact fun h => ⟨rfl, (I.n12 h).2⟩ | exact fun h => ⟨rfl, rfl⟩), (by first | exact I.n13 | exact fun h => absurd h (by decide) | exact fun _ => rfl | exact fun h => ⟨(I.n13 h).1, rfl⟩ | exact fun h => ⟨rfl, (I.n13 h).2⟩ | exact fun h => ⟨rfl, rfl⟩), (by first | exact I.n16 | exact fun h => absurd h (by decide) | exact fun _ => rfl | exact fun h => ⟨(I.n16 h).1, rfl⟩ | exact fun h => ⟨rfl, (I.n16 h).2⟩ | exact fun h => ⟨rfl, rfl⟩), (by first | exact I.n17 | exact fun h => absurd h (by decide) | exact fun _ => rfl | exact fun h => ⟨(I.n17 h).1, rfl⟩ | exact fun h => ⟨rfl, (I.n17 h).2⟩ | exact fun h => ⟨rfl, rfl⟩), (by first | exact I.e77 | exact fun _ => rfl), (by first | exact I.e84 | exact fun _ => rfl), (by first | exact I.e19 | exact fun _ => rfl), (by first | exact I.e20 | exact fun _ => rfl), hs⟩
theorem CpS.s17 {b1 b3 b5 b6 b8 b10 b12 b13 b14 : Bool} {v72 v74 v76 v77 v79 v81 v83 v84 v19 v20 oU oV : Value} {dU dV : List Fd} {gG gH : Nat} {hG : w0.heap.size ≤ gG} {hH : w0.heap.size ≤ gH} (I : CpS C w0 w b1 b3 b5 b6 b8 b10 b12 b13 b14 true true false v72 v74 v76 v77 v79 v81 v83 v84 v19 v20 oU oV dU dV gG gH hG hH)  : CpS C w0 (((w.setCell ⟨gH, 0, none⟩ oV).setCell ⟨gH, 1, none⟩ (.bool C.brV)).setCell ⟨gH, 2, none⟩ (.int .i64 C.mdV)) b1 b3 b5 b6 b8 b10 b12 b13 b14 true true true v72 v74 v76 v77 v79 v81 v83 v84 v19 v20 oU oV dU dV gG gH hG hH := by
  have hBw : w0.heap.size ≤ w.heap.size := I.below.size
  have ho : Only (fun b => b = gH) w (((w.setCell ⟨gH, 0, none⟩ oV).setCell ⟨gH, 1, none⟩ (.bool C.brV)).setCell ⟨gH, 2, none⟩ (.int .i64 C.mdV)) := Only.set (p := fun b => b = gH) (Only.set (p := fun b => b = gH) (Only.set (p := fun b => b = gH) (Only.refl _ w) (fun _ => rfl) 0 _) (fun _ => rfl) 1 _) (fun _ => rfl) 2 _
  have hk : Blk w gH 49 #[.slice none 0 0, .bool false, .int .i64 0] := I.sep.ok 5
  have hk2 := ((hk.set_ 0 oV).set_ 1 (.bool C.brV)).set_ 2 (.int .i64 C.mdV)
  simp only [List.setIfInBounds_toArray, List.set_cons_zero, List.set_cons_succ] at hk2
  have hs := I.sep.upd 5 (Res.blk w0.heap.size gH hH 49 #[oV, .bool C.brV, .int .i64 C.mdV]) ho hk2 (fun b hb => .inl hb)
  have hbel := I.sep.below 5 ho I.below hBw
  rw [sixR_5] at hs
  exact ⟨hbel, (by first | exact I.n3 | exact fun h => absurd h (by decide) | exact fun _ => rfl | exact fun h => ⟨(I.n3 h).1, rfl⟩ | exact fun h => ⟨rfl, (I.n3 h).2⟩ | exact fun h => ⟨rfl, rfl⟩), (by first | exact I.n5 | exact fun h => absurd h (by decide) | exact fun _ => rfl | exact fun h => ⟨(I.n5 h).1, rfl⟩ | exact fun h => ⟨rfl, (I.n5 h).2⟩ | exact fun h => ⟨rfl, rfl⟩), (by first | exact I.n6 | exact fun h => absurd h (by decide) | exact fun _ => rfl | exact fun h => ⟨(I.n6 h).1, rfl⟩ | exact fun h => ⟨rfl, (I.n6 h).2⟩ | exact fun h => ⟨rfl, rfl⟩), (by first | exact I.n10 | exact fun h => absurd h (by decide) | exact fun _ => rfl | exact fun h => ⟨(I.n10 h).1, rfl⟩ | exact fun h => ⟨rfl, (I.n10 h).2⟩ | exact fun h => ⟨rfl, rfl⟩), (by first | exact I.n12 | exact fun h => absurd h (by decide) | exact fun _ => rfl | exact fun h => ⟨(I.n12 h).1, rfl⟩ | exact fun h => ⟨rfl, (I.n12 h).2⟩ | exact fun h => ⟨rfl, rfl⟩), (by first | exact I.n13 | exact fun h => absurd h (by decide) | exact fun _ => rfl | exact fun h => ⟨(I.n13 h).1, rfl⟩ | exact fun h => ⟨rfl, (I.n13 h).2⟩ | exact fun h => ⟨rfl, rfl⟩), (by first | exact I.n16 | exact fun h => absurd h (by decide) | exact fun _ => rfl | exact fun h => ⟨(I.n16 h).1, rfl⟩ | exact fun h => ⟨rfl, (I.n16 h).2⟩ | exact fun h => ⟨rfl, rfl⟩), (by first | exact I.n17 | exact fun h => absurd h (by decide) | exact fun _ => rfl | exact fun h => ⟨(I.n17 h).1, rfl⟩ | exact fun h => ⟨rfl, (I.n17 h).2⟩ | exact fun h => ⟨rfl, rfl⟩), (by first | exact I.e77 | exact fun _ => rfl), (by first | exact I.e84 | exact fun _ => rfl), (by first | exact I.e19 | exact fun _ => rfl), (by first | exact I.e20 | exact fun _ => rfl), hs⟩
end

theorem ready_lt {md : Region.Mode} {ops : Array Oper} {l : Array Bool} {i : Nat} (h : i ∈ Region.ready md ops l) : i < l.size := by
  have := (List.getElem?_eq_some_iff.1 (ready_false h)).1
  simpa using this
theorem ready_dep {md : Region.Mode} {ops : Array Oper} {l : Array Bool} {i : Nat} {o : Oper} (h : i ∈ Region.ready md ops l) (ho : ops[i]? = some o) : ∀ e ∈ o.after, Region.binds md e = true → l.getD e.on false = true := by
  obtain ⟨-, o', ho', hall⟩ := mem_ready.1 h
  rw [ho] at ho'
  cases ho'
  exact hall
theorem ready_out {md : Region.Mode} {ops : Array Oper} {l : Array Bool} (hr : Region.ready md ops l = []) (i : Nat) (o : Oper) (ho : ops[i]? = some o) (hl : l.getD i true = false) (hall : ∀ e ∈ o.after, Region.binds md e = true → l.getD e.on false = true) : False := by
  have h : i ∈ Region.ready md ops l := mem_ready.2 ⟨hl, o, ho, hall⟩
  rw [hr] at h
  cases h
theorem wpG_invA {P : Program} {md : Region.Mode} {ops : Array Oper} {Q : Exit → Act → World → Prop} {S : World → Prop} {c : Nat} {a0 : Act} (Inv : Act → Array Bool → Act → World → Prop) (hS : ∀ l a w, Inv a0 l a w → S w)
    (hstep : ∀ l a w i, Inv a0 l a w → i ∈ Region.ready md ops l → wpOp P ops Q i (fun a' w' => Inv a0 (l.setIfInBounds i true) a' w') a w)
    (hend : ∀ l a w, Inv a0 l a w → Region.ready md ops l = [] → Q .normal a w) {fuel : Nat} {l : Array Bool} {w : World} (hI : Inv a0 l a0 w) (hc : cntF l.toList ≤ fuel) : wpG P md ops Q S S c fuel l a0 w :=
  wpG_inv (Inv a0) hS hstep hend fuel l a0 w hI hc
def put10 (a : Act) (v72 v74 v76 v77 v79 v81 v83 v84 v19 v20 : Value) : Act := { a with tmps := ((((((((((a.tmps.setIfInBounds 72 v72).setIfInBounds 74 v74).setIfInBounds 76 v76).setIfInBounds 77 v77).setIfInBounds 79 v79).setIfInBounds 81 v81).setIfInBounds 83 v83).setIfInBounds 84 v84).setIfInBounds 19 v19).setIfInBounds 20 v20) }
def CpInv (C : CpC) (w0 : World) (a0 : Act) (l : Array Bool) (a : Act) (w : World) : Prop :=
  ∃ (b1 b3 b5 b6 b8 b10 b12 b13 b14 b15 b16 b17 : Bool) (v72 v74 v76 v77 v79 v81 v83 v84 v19 v20 oU oV : Value) (dU dV : List Fd) (gG gH : Nat) (hG : w0.heap.size ≤ gG) (hH : w0.heap.size ≤ gH), l = #[true, b1, true, b3, true, b5, b6, true, b8, true, b10, true, b12, b13, b14, b15, b16, b17] ∧ a = put10 a0 v72 v74 v76 v77 v79 v81 v83 v84 v19 v20 ∧ CpS C w0 w b1 b3 b5 b6 b8 b10 b12 b13 b14 b15 b16 b17 v72 v74 v76 v77 v79 v81 v83 v84 v19 v20 oU oV dU dV gG gH hG hH
theorem CpS.start (C : CpC) (w0 : World) (v72 v74 v76 v77 v79 v81 v83 v84 v19 v20 : Value) : CpS C w0 w0 false false false false false false false false false false false false v72 v74 v76 v77 v79 v81 v83 v84 v19 v20 undef undef [] [] w0.heap.size w0.heap.size (Nat.le_refl _) (Nat.le_refl _) := by
  refine ⟨Below.refl _ _, fun h => absurd h (by decide), fun h => absurd h (by decide), fun h => absurd h (by decide), fun h => absurd h (by decide), fun h => absurd h (by decide), fun h => absurd h (by decide), fun h => absurd h (by decide), fun h => absurd h (by decide), fun h => absurd h (by decide), fun h => absurd h (by decide), fun h => absurd h (by decide), fun h => absurd h (by decide), fun i => ?_, fun i j _ b hb => ?_⟩
  · match i with
    | 0 => trivial
    | 1 => trivial
    | 2 => trivial
    | 3 => trivial
    | 4 => trivial
    | 5 => trivial
    | _ + 6 => trivial
  · exfalso
    match i with
    | 0 => exact hb
    | 1 => exact hb
    | 2 => exact hb
    | 3 => exact hb
    | 4 => exact hb
    | 5 => exact hb
    | _ + 6 => exact hb
theorem RxF.keep {g : Nat} {k m c : Int} {w W : World} (h : RxF g k m c w) (hb : Below w.heap.size w W) : RxF g k m c W :=
  ⟨(hb.cell (World.block_lt_of_cell? _ _ h.1)).trans h.1, (hb.cell (World.block_lt_of_cell? _ _ h.2.1)).trans h.2.1, (hb.cell (World.block_lt_of_cell? _ _ h.2.2)).trans h.2.2⟩
theorem field49 (x y z : Value) (W : World) : (Instr.field 49 (.agg #[x, y, z]) 0).run Try.prog W = .ok x W := by
  simp [Instr.field, asAgg, run_underlying Try.underlying49, go_sem]
/-- The two boxes of what the reference yields. -/
def CpX (gG gH : Nat) (o1 : Value) (q1 : Bool) (o2 : Value) (q2 : Bool) (W : World) : Prop := W.cell? ⟨gG, 0, none⟩ = some o1 ∧ W.cell? ⟨gG, 1, none⟩ = some (.bool q1) ∧ W.cell? ⟨gH, 0, none⟩ = some o2 ∧ W.cell? ⟨gH, 1, none⟩ = some (.bool q2)
theorem CpX.below {gG gH : Nat} {o1 o2 : Value} {q1 q2 : Bool} {w W : World} (h : CpX gG gH o1 q1 o2 q2 w) (hb : Below w.heap.size w W) : CpX gG gH o1 q1 o2 q2 W := by
  obtain ⟨h1, h2, h3, h4⟩ := h
  have key : ∀ {a : Addr} {u : Value}, w.cell? a = some u → W.cell? a = some u := fun h => (hb.cell (World.block_lt_of_cell? _ _ h)).trans h
  exact ⟨key h1, key h2, key h3, key h4⟩
set_option maxRecDepth 100000 in
set_option maxHeartbeats 16000000 in
theorem copies_law (k m c : Int) (AB : Option Addr) (nB cB : Nat) (lB : List UInt8) (AO : Option Addr) (nO cO : Nat) (lO : List UInt8) (AT : Option Addr) (nT cT : Nat) (lT : List UInt8) (w : World) (_ : (Lit.int .i64 k).wf = true) (_ : (Lit.int .i64 m).wf = true) (_ : (Lit.int .i64 c).wf = true) (hl1 : lB.length = nB) (hc1 : nB ≤ cB) (hm1 : cB ≤ maxLen) (hb1 : BS w w.heap.size AB lB) (hz1 : AB = none → cB = 0) (hl2 : lO.length = nO) (hc2 : nO ≤ cO) (hm2 : cO ≤ maxLen) (hb2 : BS w w.heap.size AO lO) (hz2 : AO = none → cO = 0) (hl3 : lT.length = nT) (hc3 : nT ≤ cT) (hm3 : cT ≤ maxLen) (hb3 : BS w w.heap.size AT lT) (hz3 : AT = none → cT = 0) :
    Calls Try.prog 7 #[.agg #[.int .i64 k, .int .i64 m, .int .i64 c], .slice AB nB cB, .slice AO nO cO, .slice AT nT cT] w fun e w' => e = .returned (.bool true) ∧ Below w.heap.size w w' := by
  have HRB := Lib.hid (RB.of_bs hl1 hc1 hm1 hz1 hb1)
  have HRO := Lib.hid (RB.of_bs hl2 hc2 hm2 hz2 hb2)
  have HRT := Lib.hid (RB.of_bs hl3 hc3 hm3 hz3 hb3)
  have HLN := Lib.hid (And.intro hl1 (And.intro hl2 hl3))
  clear hl1 hc1 hm1 hb1 hz1 hl2 hc2 hm2 hb2 hz2 hl3 hc3 hm3 hb3 hz3
  obtain ⟨W0, hW0⟩ : ∃ W0, w.alloc (.cells #[.int .i64 k, .int .i64 m, .int .i64 c] 24) = W0 := ⟨_, rfl⟩
  have hb0 : Below w.heap.size w W0 := hW0 ▸ (Below.refl _ w).alloc (Nat.le_refl _) _
  have kf : Blk W0 w.heap.size 24 #[.int .i64 k, .int .i64 m, .int .i64 c] := hW0 ▸ Blk.new w 24 _
  obtain ⟨W1, hW1⟩ : ∃ W1, W0.alloc (.cells #[.slice AB nB cB, .slice AO nO cO, .slice AT nT cT] 28) = W1 := ⟨_, rfl⟩
  have hb01 : Below W0.heap.size W0 W1 := hW1 ▸ (Below.refl _ W0).alloc (Nat.le_refl _) _
  have kb : Blk W1 W0.heap.size 28 #[.slice AB nB cB, .slice AO nO cO, .slice AT nT cT] := hW1 ▸ Blk.new W0 28 _
  have HB1 := Lib.hid (hb0.trans (hb01.mono hb0.size))
  have HSZ1 := Lib.hid (show w.heap.size + 1 ≤ W1.heap.size by rw [← hW1, ← hW0]; simp)
  have KF := Lib.hid (kf.below hb01 kf.lt)
  obtain ⟨f0, f1, f2⟩ : W0.cell? ⟨w.heap.size, 0, none⟩ = some (.int .i64 k) ∧ W0.cell? ⟨w.heap.size, 1, none⟩ = some (.int .i64 m) ∧ W0.cell? ⟨w.heap.size, 2, none⟩ = some (.int .i64 c) := ⟨kf.cell 0, kf.cell 1, kf.cell 2⟩
  have hpss := pss_blk [⟨AB, nB, cB, lB⟩, ⟨AO, nO, cO, lO⟩, ⟨AT, nT, cT, lT⟩] kb (fun p hp => by
    simp at hp
    rcases hp with rfl | rfl | rfl
    · exact HRB.out.below HB1.out
    · exact HRO.out.below HB1.out
    · exact HRT.out.below HB1.out) (by simp)
  have C9 := Lib.hid (few_any (some ⟨W0.heap.size, 0, none⟩) 3 3 _ W1 hpss)
  have C10 := Lib.hid (fun W => known_any W)
  have HW0 := Lib.hid hW0
  have HW1 := Lib.hid hW1
  unfold FewD at C9
  rw [← hW1] at C9
  clear hW0 hb0 kf hb01 kb hpss hW1
  go_enter Try.func7, Try.ntmps7
  go_upto_region 1 with fail
  rw [HW0.out]
  clear HW0
  go_wp2_with (go_at_call 9; (with_reducible refine C9.out.mono ?_); rintro e w1 ⟨b, rfl, rfl, hb⟩; refine Hid.out ?_)
  refine Lib.hid ?_
  rw [HW1.out]
  clear f0 f1 f2
  obtain ⟨f0, f1, f2⟩ : W1.cell? ⟨w.heap.size, 0, none⟩ = some (.int .i64 k) ∧ W1.cell? ⟨w.heap.size, 1, none⟩ = some (.int .i64 m) ∧ W1.cell? ⟨w.heap.size, 2, none⟩ = some (.int .i64 c) := ⟨KF.out.cell 0, KF.out.cell 1, KF.out.cell 2⟩
  cases b with
  | false =>
    clear hb
    go_wp2_with (go_at_call 10; (with_reducible refine (C10.out _).mono ?_); rintro e w9 ⟨rfl, b9⟩; have HB9 := Lib.hid (HB1.out.trans (b9.mono HB1.out.size)); clear b9)
    go_ret
    exact ⟨rfl, HB9.out⟩
  | true =>
  obtain ⟨-, h7⟩ := hb rfl
  have H700 := Lib.hid (show nB ≤ 700 ∧ nO ≤ 700 ∧ nT ≤ 700 from ⟨h7 0 (by omega), h7 1 (by omega), h7 2 (by omega)⟩)
  clear hb h7
  rcases (ok_or_bad k m c).symm with hBad | hF
  · have C14 := Lib.hid (fun W => rvalid_no k m c W hBad)
    unfold FV at C14
    go_wp2_with (first
      | (go_at_call 14; (with_reducible refine (C14.out _).mono ?_); rintro e w3 ⟨rfl, b3⟩; have HB3 := Lib.hid (HB1.out.trans (b3.mono HB1.out.size)); clear b3)
      | (go_at_call 10; (with_reducible refine (C10.out _).mono ?_); rintro e w9 ⟨rfl, b9⟩; have HB9 := Lib.hid (HB3.out.trans (b9.mono HB3.out.size)); clear b9))
    go_ret
    exact ⟨rfl, HB9.out⟩
  have C14 := Lib.hid (fun W => rvalid_yes k m c W hF)
  have HF := Lib.hid hF
  unfold FV at C14
  clear hF
  go_wp2_with (go_at_call 14; (with_reducible refine (C14.out _).mono ?_); rintro e w3 ⟨rfl, b3⟩; refine Hid.out ?_)
  refine Lib.hid ?_
  have K3 := Lib.hid (KF.out.below b3 KF.out.lt)
  have HX3 := Lib.hid (show Below (w.heap.size + 1) W1 w3 from b3.mono HSZ1.out)
  have HB3 := Lib.hid (HB1.out.trans (b3.mono HB1.out.size))
  have C16 := Lib.hid (new_yes k m c HF.out w3)
  unfold FV at C16
  clear b3 f0 f1 f2
  obtain ⟨f0, f1, f2⟩ : w3.cell? ⟨w.heap.size, 0, none⟩ = some (.int .i64 k) ∧ w3.cell? ⟨w.heap.size, 1, none⟩ = some (.int .i64 m) ∧ w3.cell? ⟨w.heap.size, 2, none⟩ = some (.int .i64 c) := ⟨K3.out.cell 0, K3.out.cell 1, K3.out.cell 2⟩
  go_wp2_with (go_at_call 16; (with_reducible refine C16.out.mono ?_); rintro e w4 ⟨r, rfl, hr, hrd, b4⟩; refine Hid.out ?_)
  refine Lib.hid ?_
  have HX4 := Lib.hid (HX3.out.trans (b4.mono (Nat.le_trans HSZ1.out HX3.out.size)))
  have HB4 := Lib.hid (HB3.out.trans (b4.mono HB3.out.size))
  have HRR := Lib.hid hr
  have HS3 := Lib.hid (Nat.le_trans HSZ1.out HX3.out.size)
  have hnB : lB.length = nB := HLN.out.1
  have C17 := Lib.hid (feed_any w3.heap.size r k m c (.slice none 0 0) St.new AB nB cB lB w4 HF.out hrd (by decide) (HRB.out.below HB4.out) (fun a hA h0 hsf => by
    have := HRB.out.lt h0 hA
    rcases hsf with e | e
    · have := HRR.out; have := HS3.out; omega
    · cases e) (by have := H700.out; show 0 + nB ≤ 40000; omega) (by have := H700.out; show 0 + nB ≤ 1000000; omega))
  unfold Fed at C17
  clear hr b4 f0 f1 f2 hnB
  have HRD4 := Lib.hid hrd
  clear hrd
  go_wp2_with (first
    | (go_at_call 15; (with_reducible refine (num_any 0 _).mono ?_); rintro e _ ⟨rfl, rfl⟩)
    | (go_at_call 17; (with_reducible refine C17.out.mono ?_); rintro e w5 ⟨out5, v5, d5, rfl, hea, hfr⟩; refine Hid.out ?_))
  refine Lib.hid ?_
  have HRD5 := Lib.hid hea.rd
  have HX5 := Lib.hid (HX4.out.trans (hea.only.to_below (Nat.le_trans HSZ1.out HX4.out.size) fun b hb hsf => by
    rcases hsf with e | e
    · have := HRR.out; have := HS3.out; omega
    · cases e))
  clear hea hfr C17
  have HFL := Lib.hid (show (feedS k m c St.new lB).1.held.length ≤ 700 ∧ (feedS k m c St.new lB).1.off ≤ 700 from by
    have h := feedS_len k m c lB St.new
    have h0 : St.new.held.length = 0 := rfl
    have h1 : St.new.off = 0 := rfl
    have := HLN.out
    have := H700.out
    omega)
  have HST := Lib.hid (feedS_st2 k m c lB St.new (by decide))
  obtain ⟨p1, hp1⟩ : ∃ p1, feedS k m c St.new lB = p1 := ⟨_, rfl⟩
  have HP1 := Lib.hid hp1
  rw [hp1] at HRD5 HFL HST
  clear hp1
  have C24 := Lib.hid (copy_any w3.heap.size r k m c v5 p1.1 w5 HF.out HRD5.out (by have := HFL.out; omega))
  go_wp2_with (first
    | (go_at_call 15; (with_reducible refine (num_any 0 _).mono ?_); rintro e _ ⟨rfl, rfl⟩)
    | (go_at_call 24; (with_reducible refine C24.out.mono ?_); rintro e w6 ⟨r2, v2, rfl, hr2, hrd2, b6⟩; refine Hid.out ?_))
  refine Lib.hid ?_
  have HR2 := Lib.hid hr2
  have HRD6 := Lib.hid hrd2
  have HRD65 := Lib.hid (HRD5.out.below b6)
  have HS56 := Lib.hid b6.size
  have HX6 := Lib.hid (HX5.out.trans (b6.mono (Nat.le_trans HSZ1.out HX5.out.size)))
  have K6 := Lib.hid (KF.out.below HX6.out (Nat.lt_succ_self _))
  have C20 := Lib.hid (read_ref k m c HF.out AB nB cB lB w6 (HRB.out.below (HB1.out.trans (HX6.out.mono (Nat.le_succ _)))) (by have := H700.out; omega))
  unfold RRes FV at C20
  rw [HP1.out] at C20
  obtain ⟨brB, hbrB⟩ : ∃ brB, decide (p1.1.st = 2) = brB := ⟨_, rfl⟩
  obtain ⟨mdB, hmdB⟩ : ∃ mdB : Int, (if p1.1.begun then (p1.1.at_ : Int) else -1) = mdB := ⟨_, rfl⟩
  rw [hbrB, hmdB] at C20
  clear hr2 hrd2 b6 hbrB hmdB C24
  obtain ⟨f0, f1, f2⟩ : w6.cell? ⟨w.heap.size, 0, none⟩ = some (.int .i64 k) ∧ w6.cell? ⟨w.heap.size, 1, none⟩ = some (.int .i64 m) ∧ w6.cell? ⟨w.heap.size, 2, none⟩ = some (.int .i64 c) := ⟨K6.out.cell 0, K6.out.cell 1, K6.out.cell 2⟩
  go_wp2_with (go_at_call 20; (with_reducible refine C20.out.mono ?_); rintro e w7 ⟨out7, d7, rfl, hf7, hd7, b7⟩; refine Hid.out ?_)
  refine Lib.hid ?_
  obtain ⟨A7, c7, h7, -⟩ := own_formS hf7.own
  subst h7
  have HD7 := Lib.hid hd7
  have HRD7 := Lib.hid (HRD65.out.below b7)
  have H27 := Lib.hid (HRD6.out.below b7)
  have HX7 := Lib.hid (HX6.out.trans (b7.mono (Nat.le_trans HSZ1.out HX6.out.size)))
  have HS67 := Lib.hid b7.size
  have HV5 := Lib.hid (show ∀ j, v5.ownBlock = some j → j < w5.heap.size from fun j hj => own_lt HRD5.out.own j hj)
  have HRL := Lib.hid (show r < w5.heap.size from HRD5.out.blk.lt)
  have C17b := Lib.hid (feed_any w3.heap.size r k m c v5 p1.1 AO nO cO lO w7 HF.out HRD7.out HST.out (HRO.out.below (HB1.out.trans (HX7.out.mono (Nat.le_succ _)))) (fun a hA h0 hsf => by
    have := HRO.out.lt h0 hA
    have := HS3.out
    rcases hsf with e | e
    · have := HRR.out; omega
    · have := (HRD7.out.own.lt _ e).1; omega) (by have := H700.out; have := HFL.out; omega) (by have := H700.out; have := HFL.out; omega))
  unfold Fed at C17b
  clear hf7 hd7 b7 f0 f1 f2 C20
  have hfld := field49 (.slice A7 d7.length c7) (.bool brB) (.int .i64 mdB) w7
  go_wp2_with (go_at_call 17; (with_reducible refine C17b.out.mono ?_); rintro e w8 ⟨out8, v8, dx, rfl, hea, hfx⟩; refine Hid.out ?_)
  refine Lib.hid ?_
  obtain ⟨Ax, cx, hox, -⟩ := own_formS hea.frs.own
  subst hox
  have HFX := Lib.hid hfx
  have HRD8 := Lib.hid hea.rd
  have HX8 := Lib.hid (HX7.out.trans (hea.only.to_below (Nat.le_trans HSZ1.out HX7.out.size) fun b hb hsf => by
    have := HS3.out
    rcases hsf with e | e
    · have := HRR.out; omega
    · have := (HRD7.out.own.lt _ e).1; omega))
  have H28 := Lib.hid (H27.out.apart2 HRD7.out (by have := HR2.out; have := HRL.out; omega) (fun j hj e => by have := (H27.out.own.lt j hj).1; have := HV5.out j e; omega) hea.only)
  have HFX8 := Lib.hid hea.frs
  have HVB := Lib.hid (show ∀ j, v8.ownBlock = some j → v2.ownBlock ≠ some j from fun j hj e => by
    have h1 := (H27.out.own.lt j e)
    rcases hea.hat with q | q
    · have := HV5.out j (q ▸ hj); omega
    · have := q j hj; omega)
  have HXB2 := Lib.hid (show ∀ d ∈ dx, ∀ j, d.val.ownBlock = some j → v2.ownBlock ≠ some j from fun d hd j hj e => by
    have := (H27.out.own.lt j e).2
    have := ((hea.frs.rows d hd).lt j hj).1
    omega)
  have C17c := Lib.hid (feed_any w5.heap.size r2 k m c v2 p1.1 AT nT cT lT w8 HF.out H28.out HST.out (HRT.out.below (HB1.out.trans (HX8.out.mono (Nat.le_succ _)))) (fun a hA h0 hsf => by
    have := HRT.out.lt h0 hA
    have := HS3.out
    have := HX5.out.size
    have := HSZ1.out
    rcases hsf with e | e
    · have := HR2.out; omega
    · have := (H28.out.own.lt _ e).1; omega) (by have := H700.out; have := HFL.out; omega) (by have := H700.out; have := HFL.out; omega))
  unfold Fed at C17c
  clear hea hfx C17b hfld
  go_wp2_with (go_at_call 17; (with_reducible refine C17c.out.mono ?_); rintro e w9 ⟨out9, v9, dy, rfl, hea, hfy⟩; refine Hid.out ?_)
  refine Lib.hid ?_
  obtain ⟨Ay, cy, hoy, -⟩ := own_formS hea.frs.own
  subst hoy
  have HFY := Lib.hid hfy
  have H29 := Lib.hid hea.rd
  have HFY9 := Lib.hid hea.frs
  have HX9 := Lib.hid (HX8.out.trans (hea.only.to_below (Nat.le_trans HSZ1.out HX8.out.size) fun b hb hsf => by
    have := HX5.out.size
    have := HSZ1.out
    rcases hsf with e | e
    · have := HR2.out; omega
    · have := (H28.out.own.lt _ e).1; omega))
  have HRD9 := Lib.hid (HRD8.out.apart2 H28.out (by have := HR2.out; have := HRL.out; omega) HVB.out hea.only)
  have HFX9 := Lib.hid (HFX8.out.apart2 H28.out HXB2.out hea.only)
  clear hea hfy C17c
  have HBW := Lib.hid (show Below w.heap.size w w9 from HB1.out.trans (HX9.out.mono (Nat.le_succ _)))
  obtain ⟨pU, hpU⟩ : ∃ pU, feedS k m c St.new (lB ++ lO) = pU := ⟨_, rfl⟩
  obtain ⟨pV, hpV⟩ : ∃ pV, feedS k m c St.new (lB ++ lT) = pV := ⟨_, rfl⟩
  have HPU := Lib.hid (show pU = ((feedS k m c p1.1 lO).1, p1.2 ++ (feedS k m c p1.1 lO).2) by rw [← hpU, feedS_app, HP1.out])
  have HPV := Lib.hid (show pV = ((feedS k m c p1.1 lT).1, p1.2 ++ (feedS k m c p1.1 lT).2) by rw [← hpV, feedS_app, HP1.out])
  have HLU := Lib.hid (show pU.1.lost = false by rw [← hpU, feedS_lost]; rfl)
  have HLV := Lib.hid (show pV.1.lost = false by rw [← hpV, feedS_lost]; rfl)
  obtain ⟨brU, hbrU⟩ : ∃ brU, decide (pU.1.st = 2) = brU := ⟨_, rfl⟩
  obtain ⟨mdU, hmdU⟩ : ∃ mdU : Int, (if pU.1.begun then (pU.1.at_ : Int) else -1) = mdU := ⟨_, rfl⟩
  obtain ⟨brV, hbrV⟩ : ∃ brV, decide (pV.1.st = 2) = brV := ⟨_, rfl⟩
  obtain ⟨mdV, hmdV⟩ : ∃ mdV : Int, (if pV.1.begun then (pV.1.at_ : Int) else -1) = mdV := ⟨_, rfl⟩
  have CU := Lib.hid (fun W A n cp (h : RB W A n cp (lB ++ lO)) => (show Calls Try.prog 20 #[.agg #[.int .i64 k, .int .i64 m, .int .i64 c], .slice A n cp] W fun e w' => ∃ out ds, e = .returned (.agg #[out, .bool brU, .int .i64 mdU]) ∧ FrL w' W.heap.size out ds ∧ ds.map Fd.fr = pU.2 ∧ Below W.heap.size W w' from by
    have h2 := read_ref k m c HF.out A n cp (lB ++ lO) W h (by have := h.len; rw [List.length_append] at this; have := HLN.out; have := H700.out; omega)
    unfold RRes FV at h2
    rw [hpU, hbrU, hmdU] at h2
    exact h2))
  have CV := Lib.hid (fun W A n cp (h : RB W A n cp (lB ++ lT)) => (show Calls Try.prog 20 #[.agg #[.int .i64 k, .int .i64 m, .int .i64 c], .slice A n cp] W fun e w' => ∃ out ds, e = .returned (.agg #[out, .bool brV, .int .i64 mdV]) ∧ FrL w' W.heap.size out ds ∧ ds.map Fd.fr = pV.2 ∧ Below W.heap.size W w' from by
    have h2 := read_ref k m c HF.out A n cp (lB ++ lT) W h (by have := h.len; rw [List.length_append] at this; have := HLN.out; have := H700.out; omega)
    unfold RRes FV at h2
    rw [hpV, hbrV, hmdV] at h2
    exact h2))
  have HBU := Lib.hid hbrU
  have HBV := Lib.hid hbrV
  have K9 := Lib.hid (KF.out.below HX9.out (Nat.lt_succ_self _))
  have HS15 := Lib.hid (show RxF w.heap.size k m c w9.drew from ⟨K9.out.cell 0, K9.out.cell 1, K9.out.cell 2⟩)
  clear hpU hpV hbrU hmdU hbrV hmdV
  go_upto_region 15 with fail
  refine wp_region_G (S0 := (RxF w.heap.size k m c)) (S1 := (RxF w.heap.size k m c)) (c := 99) (by kernel_rfl) ?_
  have hHeld := HS15.out
  have h01 := (fun (W : World) (h : (RxF w.heap.size k m c) W) => h)
  refine wpG_takeB (i := 0) (oi := ⟨some 71, _, _, _, _, _⟩) (v := .agg #[.int .i64 k, .int .i64 m, .int .i64 c]) rfl (by kernel_rfl) (by kernel_rfl) (by kernel_rfl) (by decide) (fun _ _ _ h => h) h01 rfl hHeld (Or.inl ⟨by rfl, ?_⟩) ?_
  · (intro W9 hSw; obtain ⟨v1, v2, v3⟩ := hSw; go_simp; (try (first | with_reducible rfl | rfl | (simp; done))))
  try simp only [Act.put, List.setIfInBounds_toArray, List.set_cons_zero, List.set_cons_succ]
  refine wpG_takeB (i := 2) (oi := ⟨some 73, _, _, _, _, _⟩) (v := .slice AB nB cB) rfl (by kernel_rfl) (by kernel_rfl) (by kernel_rfl) (by decide) (fun _ _ _ h => h) h01 rfl hHeld (Or.inl ⟨by rfl, ?_⟩) ?_
  · (intro W9 hSw; obtain ⟨v1, v2, v3⟩ := hSw; go_simp; (try (first | with_reducible rfl | rfl | (simp; done))))
  try simp only [Act.put, List.setIfInBounds_toArray, List.set_cons_zero, List.set_cons_succ]
  refine wpG_takeB (i := 4) (oi := ⟨some 75, _, _, _, _, _⟩) (v := .slice AO nO cO) rfl (by kernel_rfl) (by kernel_rfl) (by kernel_rfl) (by decide) (fun _ _ _ h => h) h01 rfl hHeld (Or.inl ⟨by rfl, ?_⟩) ?_
  · (intro W9 hSw; obtain ⟨v1, v2, v3⟩ := hSw; go_simp; (try (first | with_reducible rfl | rfl | (simp; done))))
  try simp only [Act.put, List.setIfInBounds_toArray, List.set_cons_zero, List.set_cons_succ]
  refine wpG_takeB (i := 7) (oi := ⟨some 78, _, _, _, _, _⟩) (v := .agg #[.int .i64 k, .int .i64 m, .int .i64 c]) rfl (by kernel_rfl) (by kernel_rfl) (by kernel_rfl) (by decide) (fun _ _ _ h => h) h01 rfl hHeld (Or.inl ⟨by rfl, ?_⟩) ?_
  · (intro W9 hSw; obtain ⟨v1, v2, v3⟩ := hSw; go_simp; (try (first | with_reducible rfl | rfl | (simp; done))))
  try simp only [Act.put, List.setIfInBounds_toArray, List.set_cons_zero, List.set_cons_succ]
  refine wpG_takeB (i := 9) (oi := ⟨some 80, _, _, _, _, _⟩) (v := .slice AB nB cB) rfl (by kernel_rfl) (by kernel_rfl) (by kernel_rfl) (by decide) (fun _ _ _ h => h) h01 rfl hHeld (Or.inl ⟨by rfl, ?_⟩) ?_
  · (intro W9 hSw; obtain ⟨v1, v2, v3⟩ := hSw; go_simp; (try (first | with_reducible rfl | rfl | (simp; done))))
  try simp only [Act.put, List.setIfInBounds_toArray, List.set_cons_zero, List.set_cons_succ]
  refine wpG_takeB (i := 11) (oi := ⟨some 82, _, _, _, _, _⟩) (v := .slice AT nT cT) rfl (by kernel_rfl) (by kernel_rfl) (by kernel_rfl) (by decide) (fun _ _ _ h => h) h01 rfl hHeld (Or.inl ⟨by rfl, ?_⟩) ?_
  · (intro W9 hSw; obtain ⟨v1, v2, v3⟩ := hSw; go_simp; (try (first | with_reducible rfl | rfl | (simp; done))))
  try simp only [Act.put, List.setIfInBounds_toArray, List.set_cons_zero, List.set_cons_succ]
  clear hHeld h01
  obtain ⟨w0, hw0⟩ : ∃ w0, w9.drew = w0 := ⟨_, rfl⟩
  have HB0 := Lib.hid (show Below w9.heap.size w9 w0 from hw0 ▸ below_drew (Below.refl _ w9))
  have HK9 := Lib.hid (hw0 ▸ HS15.out)
  have HRB9 := Lib.hid ((HRB.out.below HBW.out).below HB0.out)
  have HRO9 := Lib.hid ((HRO.out.below HBW.out).below HB0.out)
  have HRT9 := Lib.hid ((HRT.out.below HBW.out).below HB0.out)
  rw [hw0]
  clear hw0
  refine wpG_invA (fun a0 l a W => CpInv ⟨lB, lB ++ lO, lB ++ lT, brU, mdU, pU.2, brV, mdV, pV.2⟩ w0 a0 l a W) ?_ ?_ ?_ ?_ (by decide)
  · rintro l a W ⟨b1, b3, b5, b6, b8, b10, b12, b13, b14, b15, b16, b17, v72, v74, v76, v77, v79, v81, v83, v84, v19, v20, oU, oV, dU, dV, gG, gH, hG, hH, -, -, I⟩
    exact HK9.out.keep I.below
  · rintro l a W i ⟨b1, b3, b5, b6, b8, b10, b12, b13, b14, b15, b16, b17, v72, v74, v76, v77, v79, v81, v83, v84, v19, v20, oU, oV, dU, dV, gG, gH, hG, hH, rfl, rfl, I⟩ hi
    have hlt : i < 18 := ready_lt hi
    simp only [put10, List.setIfInBounds_toArray, List.set_cons_zero, List.set_cons_succ]
    rcases (show i = 0 ∨ i = 1 ∨ i = 2 ∨ i = 3 ∨ i = 4 ∨ i = 5 ∨ i = 6 ∨ i = 7 ∨ i = 8 ∨ i = 9 ∨ i = 10 ∨ i = 11 ∨ i = 12 ∨ i = 13 ∨ i = 14 ∨ i = 15 ∨ i = 16 ∨ i = 17 by omega) with rfl | rfl | rfl | rfl | rfl | rfl | rfl | rfl | rfl | rfl | rfl | rfl | rfl | rfl | rfl | rfl | rfl | rfl
    · exact absurd (show true = false from (mem_ready.1 hi).1) (by decide)
    · have e1 : b1 = false := (mem_ready.1 hi).1
      subst e1
      refine wpOp_step (o := ⟨some 72, _, _, _, _, _⟩) rfl (fun K hK0 => ?_)
      have hK := Lib.hid hK0
      clear hK0
      go_simp
      refine hK.out _ _ ⟨_, b3, b5, b6, b8, b10, b12, b13, b14, b15, b16, b17, _, v74, v76, v77, v79, v81, v83, v84, v19, v20, oU, oV, dU, dV, _, _, _, _, rfl, (by simp only [put10, Act.put, List.setIfInBounds_toArray, List.set_cons_zero, List.set_cons_succ]), I.s1⟩
    · exact absurd (show true = false from (mem_ready.1 hi).1) (by decide)
    · have e3 : b3 = false := (mem_ready.1 hi).1
      subst e3
      have d1 : b1 = true := ready_dep hi (o := ⟨some 74, _, _, _, _, _⟩) rfl ⟨1, .data⟩ (by simp) rfl
      subst d1
      refine wpOp_step (o := ⟨some 74, _, _, _, _, _⟩) rfl (fun K hK0 => ?_)
      have hK := Lib.hid hK0
      clear hK0
      have hrow : W.ownsRow w0.heap.size 5 1 v72 0 ([].map Go.Proofs.Ytibkhjpjneoabaa.u8) := by have h := I.sep.ok 0; rw [← (show ([] : List UInt8).length = 0 from rfl)]; exact h
      refine step_app_own (base := w0.heap.size) (n := 0) (m := nB) (xs := [].map Go.Proofs.Ytibkhjpjneoabaa.u8) (news := lB.map Go.Proofs.Ytibkhjpjneoabaa.u8) rfl (.tmp 72) (.tmp 73) 28 rfl el22 rfl hrow rfl (HRB9.out.below (I.below.mono (Nat.le_refl _))).h (u8_one _) (by have := H700.out; unfold maxLen; omega) (by have := H700.out; omega) I.below.size ?_
      intro v' W' hown hg hat
      have hown2 : W'.ownsRow w0.heap.size 5 1 v' lB.length (lB.map Go.Proofs.Ytibkhjpjneoabaa.u8) := by have := HLN.out; simpa [List.length_append, this] using hown
      refine hK.out _ _ ⟨_, _, b5, b6, b8, b10, b12, b13, b14, b15, b16, b17, v72, v', v76, v77, v79, v81, v83, v84, v19, v20, oU, oV, dU, dV, gG, gH, hG, hH, rfl, (by simp only [put10, Act.put, List.setIfInBounds_toArray, List.set_cons_zero, List.set_cons_succ]), I.s3 hown2 hg hat⟩
    · exact absurd (show true = false from (mem_ready.1 hi).1) (by decide)
    · have e5 : b5 = false := (mem_ready.1 hi).1
      subst e5
      have d3 : b3 = true := ready_dep hi (o := ⟨some 76, _, _, _, _, _⟩) rfl ⟨3, .data⟩ (by simp) rfl
      subst d3
      obtain rfl : b1 = true := I.n3 rfl
      refine wpOp_step (o := ⟨some 76, _, _, _, _, _⟩) rfl (fun K hK0 => ?_)
      have hK := Lib.hid hK0
      clear hK0
      have hrow : W.ownsRow w0.heap.size 5 1 v74 nB (lB.map Go.Proofs.Ytibkhjpjneoabaa.u8) := by have h := I.sep.ok 0; rw [← HLN.out.1]; exact h
      refine step_app_own (base := w0.heap.size) (n := nB) (m := nO) (xs := lB.map Go.Proofs.Ytibkhjpjneoabaa.u8) (news := lO.map Go.Proofs.Ytibkhjpjneoabaa.u8) rfl (.tmp 74) (.tmp 75) 28 rfl el22 rfl hrow rfl (HRO9.out.below (I.below.mono (Nat.le_refl _))).h (u8_one _) (by have := H700.out; unfold maxLen; omega) (by have := H700.out; omega) I.below.size ?_
      intro v' W' hown hg hat
      have hown2 : W'.ownsRow w0.heap.size 5 1 v' (lB ++ lO).length ((lB ++ lO).map Go.Proofs.Ytibkhjpjneoabaa.u8) := by have := HLN.out; simpa [List.length_append, this] using hown
      refine hK.out _ _ ⟨_, _, _, b6, b8, b10, b12, b13, b14, b15, b16, b17, v72, v74, v', v77, v79, v81, v83, v84, v19, v20, oU, oV, dU, dV, gG, gH, hG, hH, rfl, (by simp only [put10, Act.put, List.setIfInBounds_toArray, List.set_cons_zero, List.set_cons_succ]), I.s5 hown2 hg hat⟩
    · have e6 : b6 = false := (mem_ready.1 hi).1
      subst e6
      have d5 : b5 = true := ready_dep hi (o := ⟨some 77, _, _, _, _, _⟩) rfl ⟨5, .data⟩ (by simp) rfl
      subst d5
      obtain rfl : b3 = true := I.n5 rfl
      obtain rfl : b1 = true := I.n3 rfl
      refine wpOp_step (o := ⟨some 77, _, _, _, _, _⟩) rfl (fun K hK0 => ?_)
      have hK := Lib.hid hK0
      clear hK0
      have hrow : W.ownsRow w0.heap.size 5 1 v76 (lB ++ lO).length ((lB ++ lO).map Go.Proofs.Ytibkhjpjneoabaa.u8) := I.sep.ok 0
      obtain ⟨A6, c6, h76, -⟩ := own_form hrow
      obtain ⟨nn, hnn⟩ : ∃ nn, (lB ++ lO).length = nn := ⟨_, rfl⟩
      rw [hnn] at h76 hrow
      clear hnn
      subst h76
      go_simp
      (with_reducible refine (CU.out W A6 _ c6 (own_RB3 hrow)).mono ?_); rintro e W' ⟨o2, d2, rfl, hf, hd, hb⟩
      refine hK.out _ _ ⟨_, _, _, _, b8, b10, b12, b13, b14, b15, b16, b17, v72, v74, _, _, v79, v81, v83, v84, v19, v20, o2, oV, d2, dV, gG, gH, hG, hH, rfl, (by simp only [put10, Act.put, List.setIfInBounds_toArray, List.set_cons_zero, List.set_cons_succ]), I.s6 hb hf hd⟩
    · exact absurd (show true = false from (mem_ready.1 hi).1) (by decide)
    · have e8 : b8 = false := (mem_ready.1 hi).1
      subst e8
      refine wpOp_step (o := ⟨some 79, _, _, _, _, _⟩) rfl (fun K hK0 => ?_)
      have hK := Lib.hid hK0
      clear hK0
      go_simp
      refine hK.out _ _ ⟨b1, b3, b5, b6, _, b10, b12, b13, b14, b15, b16, b17, v72, v74, v76, v77, _, v81, v83, v84, v19, v20, oU, oV, dU, dV, _, _, _, _, rfl, (by simp only [put10, Act.put, List.setIfInBounds_toArray, List.set_cons_zero, List.set_cons_succ]), I.s8⟩
    · exact absurd (show true = false from (mem_ready.1 hi).1) (by decide)
    · have e10 : b10 = false := (mem_ready.1 hi).1
      subst e10
      have d8 : b8 = true := ready_dep hi (o := ⟨some 81, _, _, _, _, _⟩) rfl ⟨8, .data⟩ (by simp) rfl
      subst d8
      have d6 : b6 = true := ready_dep hi (o := ⟨some 81, _, _, _, _, _⟩) rfl ⟨6, .chain⟩ (by simp) rfl
      subst d6
      refine wpOp_step (o := ⟨some 81, _, _, _, _, _⟩) rfl (fun K hK0 => ?_)
      have hK := Lib.hid hK0
      clear hK0
      have hrow : W.ownsRow w0.heap.size 5 1 v79 0 ([].map Go.Proofs.Ytibkhjpjneoabaa.u8) := by have h := I.sep.ok 1; rw [← (show ([] : List UInt8).length = 0 from rfl)]; exact h
      refine step_app_own (base := w0.heap.size) (n := 0) (m := nB) (xs := [].map Go.Proofs.Ytibkhjpjneoabaa.u8) (news := lB.map Go.Proofs.Ytibkhjpjneoabaa.u8) rfl (.tmp 79) (.tmp 80) 28 rfl el22 rfl hrow rfl (HRB9.out.below (I.below.mono (Nat.le_refl _))).h (u8_one _) (by have := H700.out; unfold maxLen; omega) (by have := H700.out; omega) I.below.size ?_
      intro v' W' hown hg hat
      have hown2 : W'.ownsRow w0.heap.size 5 1 v' lB.length (lB.map Go.Proofs.Ytibkhjpjneoabaa.u8) := by have := HLN.out; simpa [List.length_append, this] using hown
      refine hK.out _ _ ⟨b1, b3, b5, _, _, _, b12, b13, b14, b15, b16, b17, v72, v74, v76, v77, v79, v', v83, v84, v19, v20, oU, oV, dU, dV, gG, gH, hG, hH, rfl, (by simp only [put10, Act.put, List.setIfInBounds_toArray, List.set_cons_zero, List.set_cons_succ]), I.s10 hown2 hg hat⟩
    · exact absurd (show true = false from (mem_ready.1 hi).1) (by decide)
    · have e12 : b12 = false := (mem_ready.1 hi).1
      subst e12
      have d10 : b10 = true := ready_dep hi (o := ⟨some 83, _, _, _, _, _⟩) rfl ⟨10, .data⟩ (by simp) rfl
      subst d10
      obtain rfl : b8 = true := (I.n10 rfl).1
      refine wpOp_step (o := ⟨some 83, _, _, _, _, _⟩) rfl (fun K hK0 => ?_)
      have hK := Lib.hid hK0
      clear hK0
      have hrow : W.ownsRow w0.heap.size 5 1 v81 nB (lB.map Go.Proofs.Ytibkhjpjneoabaa.u8) := by have h := I.sep.ok 1; rw [← HLN.out.1]; exact h
      refine step_app_own (base := w0.heap.size) (n := nB) (m := nT) (xs := lB.map Go.Proofs.Ytibkhjpjneoabaa.u8) (news := lT.map Go.Proofs.Ytibkhjpjneoabaa.u8) rfl (.tmp 81) (.tmp 82) 28 rfl el22 rfl hrow rfl (HRT9.out.below (I.below.mono (Nat.le_refl _))).h (u8_one _) (by have := H700.out; unfold maxLen; omega) (by have := H700.out; omega) I.below.size ?_
      intro v' W' hown hg hat
      have hown2 : W'.ownsRow w0.heap.size 5 1 v' (lB ++ lT).length ((lB ++ lT).map Go.Proofs.Ytibkhjpjneoabaa.u8) := by have := HLN.out; simpa [List.length_append, this] using hown
      refine hK.out _ _ ⟨b1, b3, b5, b6, _, _, _, b13, b14, b15, b16, b17, v72, v74, v76, v77, v79, v81, v', v84, v19, v20, oU, oV, dU, dV, gG, gH, hG, hH, rfl, (by simp only [put10, Act.put, List.setIfInBounds_toArray, List.set_cons_zero, List.set_cons_succ]), I.s12 hown2 hg hat⟩
    · have e13 : b13 = false := (mem_ready.1 hi).1
      subst e13
      have d12 : b12 = true := ready_dep hi (o := ⟨some 84, _, _, _, _, _⟩) rfl ⟨12, .data⟩ (by simp) rfl
      subst d12
      obtain rfl : b10 = true := I.n12 rfl
      obtain rfl : b8 = true := (I.n10 rfl).1
      refine wpOp_step (o := ⟨some 84, _, _, _, _, _⟩) rfl (fun K hK0 => ?_)
      have hK := Lib.hid hK0
      clear hK0
      have hrow : W.ownsRow w0.heap.size 5 1 v83 (lB ++ lT).length ((lB ++ lT).map Go.Proofs.Ytibkhjpjneoabaa.u8) := I.sep.ok 1
      obtain ⟨A6, c6, h76, -⟩ := own_form hrow
      obtain ⟨nn, hnn⟩ : ∃ nn, (lB ++ lT).length = nn := ⟨_, rfl⟩
      rw [hnn] at h76 hrow
      clear hnn
      subst h76
      go_simp
      (with_reducible refine (CV.out W A6 _ c6 (own_RB3 hrow)).mono ?_); rintro e W' ⟨o2, d2, rfl, hf, hd, hb⟩
      refine hK.out _ _ ⟨b1, b3, b5, b6, _, _, _, _, b14, b15, b16, b17, v72, v74, v76, v77, v79, v81, _, _, v19, v20, oU, o2, dU, d2, gG, gH, hG, hH, rfl, (by simp only [put10, Act.put, List.setIfInBounds_toArray, List.set_cons_zero, List.set_cons_succ]), I.s13 hb hf hd⟩
    · have e14 : b14 = false := (mem_ready.1 hi).1
      subst e14
      refine wpOp_step (o := ⟨some 19, _, _, _, _, _⟩) rfl (fun K hK0 => ?_)
      have hK := Lib.hid hK0
      clear hK0
      go_simp
      refine hK.out _ _ ⟨b1, b3, b5, b6, b8, b10, b12, b13, _, b15, b16, b17, v72, v74, v76, v77, v79, v81, v83, v84, _, v20, oU, oV, dU, dV, _, _, _, _, rfl, (by simp only [put10, Act.put, List.setIfInBounds_toArray, List.set_cons_zero, List.set_cons_succ]), I.s14⟩
    · have e15 : b15 = false := (mem_ready.1 hi).1
      subst e15
      refine wpOp_step (o := ⟨some 20, _, _, _, _, _⟩) rfl (fun K hK0 => ?_)
      have hK := Lib.hid hK0
      clear hK0
      go_simp
      refine hK.out _ _ ⟨b1, b3, b5, b6, b8, b10, b12, b13, b14, _, b16, b17, v72, v74, v76, v77, v79, v81, v83, v84, v19, _, oU, oV, dU, dV, _, _, _, _, rfl, (by simp only [put10, Act.put, List.setIfInBounds_toArray, List.set_cons_zero, List.set_cons_succ]), I.s15⟩
    · have e16 : b16 = false := (mem_ready.1 hi).1
      subst e16
      have d14 : b14 = true := ready_dep hi (o := ⟨none, _, _, _, _, _⟩) rfl ⟨14, .data⟩ (by simp) rfl
      subst d14
      have d6 : b6 = true := ready_dep hi (o := ⟨none, _, _, _, _, _⟩) rfl ⟨6, .data⟩ (by simp) rfl
      subst d6
      have d13 : b13 = true := ready_dep hi (o := ⟨none, _, _, _, _, _⟩) rfl ⟨13, .chain⟩ (by simp) rfl
      subst d13
      refine wpOp_step (o := ⟨none, _, _, _, _, _⟩) rfl (fun K hK0 => ?_)
      have hK := Lib.hid hK0
      clear hK0
      have h19 := I.e19 rfl
      have h77 := (I.e77 (by first | rfl | assumption)).1
      subst h19 h77
      have hfl : FrL W w0.heap.size oU dU := I.sep.ok 2
      obtain ⟨Ao, co, hoo, -⟩ := own_formS hfl.own
      subst hoo
      have hk : Blk W gG 49 #[.slice none 0 0, .bool false, .int .i64 0] := I.sep.ok 4
      have kq0 := hk.cell 0
      have kq1 := hk.cell 1
      have kq2 := hk.cell 2
      simp at kq0 kq1 kq2
      have z0 := hk.frozen 0
      have z1 := hk.frozen 1
      have z2 := hk.frozen 2
      go_simp
      refine hK.out _ _ ⟨b1, b3, b5, _, b8, b10, b12, _, _, b15, _, b17, v72, v74, v76, _, v79, v81, v83, v84, _, v20, _, oV, dU, dV, gG, gH, hG, hH, rfl, (by simp only [put10, Act.put, List.setIfInBounds_toArray, List.set_cons_zero, List.set_cons_succ]), I.s16⟩
    · have e17 : b17 = false := (mem_ready.1 hi).1
      subst e17
      have d15 : b15 = true := ready_dep hi (o := ⟨none, _, _, _, _, _⟩) rfl ⟨15, .data⟩ (by simp) rfl
      subst d15
      have d13 : b13 = true := ready_dep hi (o := ⟨none, _, _, _, _, _⟩) rfl ⟨13, .data⟩ (by simp) rfl
      subst d13
      have d16 : b16 = true := ready_dep hi (o := ⟨none, _, _, _, _, _⟩) rfl ⟨16, .chain⟩ (by simp) rfl
      subst d16
      refine wpOp_step (o := ⟨none, _, _, _, _, _⟩) rfl (fun K hK0 => ?_)
      have hK := Lib.hid hK0
      clear hK0
      have h19 := I.e20 rfl
      have h77 := (I.e84 (by first | rfl | assumption)).1
      subst h19 h77
      have hfl : FrL W w0.heap.size oV dV := I.sep.ok 3
      obtain ⟨Ao, co, hoo, -⟩ := own_formS hfl.own
      subst hoo
      have hk : Blk W gH 49 #[.slice none 0 0, .bool false, .int .i64 0] := I.sep.ok 5
      have kq0 := hk.cell 0
      have kq1 := hk.cell 1
      have kq2 := hk.cell 2
      simp at kq0 kq1 kq2
      have z0 := hk.frozen 0
      have z1 := hk.frozen 1
      have z2 := hk.frozen 2
      go_simp
      refine hK.out _ _ ⟨b1, b3, b5, b6, b8, b10, b12, _, b14, _, _, _, v72, v74, v76, v77, v79, v81, v83, _, v19, _, oU, _, dU, dV, gG, gH, hG, hH, rfl, (by simp only [put10, Act.put, List.setIfInBounds_toArray, List.set_cons_zero, List.set_cons_succ]), I.s17⟩
  · rintro l a W ⟨b1, b3, b5, b6, b8, b10, b12, b13, b14, b15, b16, b17, v72, v74, v76, v77, v79, v81, v83, v84, v19, v20, oU, oV, dU, dV, gG, gH, hG, hH, rfl, rfl, I⟩ hr
    have h1 : b1 = true := by
      cases b1 with
      | true => rfl
      | false => exact (ready_out hr 1 ⟨some 72, _, _, _, _, _⟩ rfl rfl (by simp)).elim
    subst h1
    have h8 : b8 = true := by
      cases b8 with
      | true => rfl
      | false => exact (ready_out hr 8 ⟨some 79, _, _, _, _, _⟩ rfl rfl (by simp)).elim
    subst h8
    have h14 : b14 = true := by
      cases b14 with
      | true => rfl
      | false => exact (ready_out hr 14 ⟨some 19, _, _, _, _, _⟩ rfl rfl (by simp)).elim
    subst h14
    have h15 : b15 = true := by
      cases b15 with
      | true => rfl
      | false => exact (ready_out hr 15 ⟨some 20, _, _, _, _, _⟩ rfl rfl (by simp)).elim
    subst h15
    have h3 : b3 = true := by
      cases b3 with
      | true => rfl
      | false => exact (ready_out hr 3 ⟨some 74, _, _, _, _, _⟩ rfl rfl (by simp)).elim
    subst h3
    have h5 : b5 = true := by
      cases b5 with
      | true => rfl
      | false => exact (ready_out hr 5 ⟨some 76, _, _, _, _, _⟩ rfl rfl (by simp)).elim
    subst h5
    have h6 : b6 = true := by
      cases b6 with
      | true => rfl
      | false => exact (ready_out hr 6 ⟨some 77, _, _, _, _, _⟩ rfl rfl (by simp)).elim
    subst h6
    have h10 : b10 = true := by
      cases b10 with
      | true => rfl
      | false => exact (ready_out hr 10 ⟨some 81, _, _, _, _, _⟩ rfl rfl (by simp)).elim
    subst h10
    have h12 : b12 = true := by
      cases b12 with
      | true => rfl
      | false => exact (ready_out hr 12 ⟨some 83, _, _, _, _, _⟩ rfl rfl (by simp)).elim
    subst h12
    have h13 : b13 = true := by
      cases b13 with
      | true => rfl
      | false => exact (ready_out hr 13 ⟨some 84, _, _, _, _, _⟩ rfl rfl (by simp)).elim
    subst h13
    have h16 : b16 = true := by
      cases b16 with
      | true => rfl
      | false => exact (ready_out hr 16 ⟨none, _, _, _, _, _⟩ rfl rfl (by simp)).elim
    subst h16
    have h17 : b17 = true := by
      cases b17 with
      | true => rfl
      | false => exact (ready_out hr 17 ⟨none, _, _, _, _, _⟩ rfl rfl (by simp)).elim
    subst h17
    simp only [put10, List.setIfInBounds_toArray, List.set_cons_zero, List.set_cons_succ]
    have hU : FrL W w0.heap.size oU dU := I.sep.ok 2
    have hV : FrL W w0.heap.size oV dV := I.sep.ok 3
    have hGk : Blk W gG 49 #[oU, .bool brU, .int .i64 mdU] := I.sep.ok 4
    have hHk : Blk W gH 49 #[oV, .bool brV, .int .i64 mdV] := I.sep.ok 5
    have h19 := I.e19 rfl
    have h20 := I.e20 rfl
    subst h19 h20
    have hdU : dU.map Fd.fr = pU.2 := (I.e77 rfl).2
    have hdV : dV.map Fd.fr = pV.2 := (I.e84 rfl).2
    obtain ⟨AU, cU, hoU, -⟩ := own_formS hU.own
    obtain ⟨AV, cV, hoV, -⟩ := own_formS hV.own
    subst hoU hoV
    obtain ⟨nU, hnU⟩ : ∃ nU, dU.length = nU := ⟨_, rfl⟩
    obtain ⟨nV, hnV⟩ : ∃ nV, dV.length = nV := ⟨_, rfl⟩
    rw [hnU] at hU hGk
    rw [hnV] at hV hHk
    have HBL := Lib.hid (show Below w9.heap.size w9 W from HB0.out.trans (I.below.mono HB0.out.size))
    have hl7 : d7.length = p1.2.length := by have := congrArg List.length HD7.out; simpa using this
    have hlU : dU.length = p1.2.length + (feedS k m c p1.1 lO).2.length := by have := congrArg List.length hdU; rw [HPU.out] at this; simpa using this
    have hlV : dV.length = p1.2.length + (feedS k m c p1.1 lT).2.length := by have := congrArg List.length hdV; rw [HPV.out] at this; simpa using this
    obtain ⟨AxU, cxU, hsx, hfxU, hlx, -⟩ := slice_frl hU d7.length (by omega)
    obtain ⟨AxV, cxV, hsy, hfxV, hly, -⟩ := slice_frl hV d7.length (by omega)
    have HSX := Lib.hid hsx
    have HSY := Lib.hid hsy
    have hcx : dx.length ≤ 700 := by have h1 := congrArg List.length HFX.out; have h2 := feedS_cnt2 k m c lO p1.1; rw [List.length_map] at h1; have := HLN.out; have := H700.out; omega
    have hcy : dy.length ≤ 700 := by have h1 := congrArg List.length HFY.out; have h2 := feedS_cnt2 k m c lT p1.1; rw [List.length_map] at h1; have := HLN.out; have := H700.out; omega
    have CS1 := Lib.hid (fun W2 (hb : Below W.heap.size W W2) => (show Calls Try.prog 21 #[.slice Ax dx.length cx, .slice AxU (nU - d7.length) cxU] W2 fun e w' => e = .returned (.bool true) ∧ Below W2.heap.size W2 w' from by
      rw [hlx]
      refine same_any Ax AxU cx cxU dx (dU.drop d7.length) W2 (((HFX9.out.below HBL.out).below hb).read).1 (hfxU.below hb) ?_ (by omega)
      rw [List.map_drop, hdU, HPU.out, hl7, List.drop_left, HFX.out]))
    have CS2 := Lib.hid (fun W2 (hb : Below W.heap.size W W2) => (show Calls Try.prog 21 #[.slice Ay dy.length cy, .slice AxV (nV - d7.length) cxV] W2 fun e w' => e = .returned (.bool true) ∧ Below W2.heap.size W2 w' from by
      rw [hly]
      refine same_any Ay AxV cy cxV dy (dV.drop d7.length) W2 (((HFY9.out.below HBL.out).below hb).read).1 (hfxV.below hb) ?_ (by omega)
      rw [List.map_drop, hdV, HPV.out, hl7, List.drop_left, HFY.out]))
    have CB1 := Lib.hid (fun W2 (hb : Below W.heap.size W W2) => (show Calls Try.prog 19 #[.pointer (some ⟨r, 0, none⟩)] W2 fun e w' => e = .returned (.bool brU) ∧ W2 = w' from by
      have h := broken_any w3.heap.size r k m c v8 _ W2 HF.out ((HRD9.out.below HBL.out).below hb)
      have h1 : (feedS k m c p1.1 lO).1 = pU.1 := by rw [HPU.out]
      rw [h1, HLU.out, HBU.out] at h
      simpa using h))
    have CB2 := Lib.hid (fun W2 (hb : Below W.heap.size W W2) => (show Calls Try.prog 19 #[.pointer (some ⟨r2, 0, none⟩)] W2 fun e w' => e = .returned (.bool brV) ∧ W2 = w' from by
      have h := broken_any w5.heap.size r2 k m c v9 _ W2 HF.out ((H29.out.below HBL.out).below hb)
      have h1 : (feedS k m c p1.1 lT).1 = pV.1 := by rw [HPV.out]
      rw [h1, HLV.out, HBV.out] at h
      simpa using h))
    have HS16 := Lib.hid (show CpX gG gH (.slice AU nU cU) brU (.slice AV nV cV) brV W.drew from ⟨hGk.cell 0, hGk.cell 1, hHk.cell 0, hHk.cell 1⟩)
    have HBX1 := Lib.hid (below_drew (Below.refl W.heap.size W))
    have HBWW := Lib.hid (show Below w.heap.size w W from HBW.out.trans (HBL.out.mono HBW.out.size))
    clear I hr hU hV hGk hHk hdU hdV hl7 hlU hlV hsx hfxU hlx hsy hfxV hly hcx hcy
    clear hnU hnV
    go_upto_region 16 with fail
    refine wp_region_G (S0 := (CpX gG gH (.slice AU nU cU) brU (.slice AV nV cV) brV)) (S1 := (CpX gG gH (.slice AU nU cU) brU (.slice AV nV cV) brV)) (c := 99) (by kernel_rfl) ?_
    have hHeld := HS16.out
    have h01 := (fun (W : World) (h : (CpX gG gH (.slice AU nU cU) brU (.slice AV nV cV) brV) W) => h)
    refine wpG_takeB (i := 0) (oi := ⟨some 85, _, _, _, _, _⟩) (v := .int .i64 0) rfl (by kernel_rfl) (by kernel_rfl) (by kernel_rfl) (by decide) (fun _ _ _ h => h) h01 rfl hHeld (Or.inl ⟨by rfl, ?_⟩) ?_
    · (intro W9 hSw; obtain ⟨v1, v2, v3, v4⟩ := hSw; have s1 := HSX.out; have s2 := HSY.out; go_simp; (try (first | with_reducible rfl | rfl | (simp; done))))
    try simp only [Act.put, List.setIfInBounds_toArray, List.set_cons_zero, List.set_cons_succ]
    refine wpG_takeB (i := 2) (oi := ⟨some 87, _, _, _, _, _⟩) (v := .int .i64 0) rfl (by kernel_rfl) (by kernel_rfl) (by kernel_rfl) (by decide) (fun _ _ _ h => h) h01 rfl hHeld (Or.inl ⟨by rfl, ?_⟩) ?_
    · (intro W9 hSw; obtain ⟨v1, v2, v3, v4⟩ := hSw; have s1 := HSX.out; have s2 := HSY.out; go_simp; (try (first | with_reducible rfl | rfl | (simp; done))))
    try simp only [Act.put, List.setIfInBounds_toArray, List.set_cons_zero, List.set_cons_succ]
    refine wpG_oneB (i := 1) (o := ⟨some 86, _, _, _, _, _⟩) (by kernel_rfl) rfl rfl (fun K hK => ?_)
    go_simp
    (with_reducible refine (num_any 0 _).mono ?_); rintro e _ ⟨rfl, rfl⟩
    refine hK.out _ _ HS16.out (fun hHeld => ?_)
    clear hK K
    try simp only [Act.put, List.setIfInBounds_toArray, List.set_cons_zero, List.set_cons_succ]
    refine wpG_oneB (i := 3) (o := ⟨some 88, _, _, _, _, _⟩) (by kernel_rfl) rfl rfl (fun K hK => ?_)
    go_simp
    (with_reducible refine (num_any 0 _).mono ?_); rintro e _ ⟨rfl, rfl⟩
    refine hK.out _ _ HS16.out (fun hHeld => ?_)
    clear hK K
    try simp only [Act.put, List.setIfInBounds_toArray, List.set_cons_zero, List.set_cons_succ]
    refine wpG_takeB (i := 4) (oi := ⟨some 89, _, _, _, _, _⟩) (v := .int .i64 0) rfl (by kernel_rfl) (by kernel_rfl) (by kernel_rfl) (by decide) (fun _ _ _ h => h) h01 rfl hHeld (Or.inl ⟨by rfl, ?_⟩) ?_
    · (intro W9 hSw; obtain ⟨v1, v2, v3, v4⟩ := hSw; have s1 := HSX.out; have s2 := HSY.out; go_simp; (try (first | with_reducible rfl | rfl | (simp; done))))
    try simp only [Act.put, List.setIfInBounds_toArray, List.set_cons_zero, List.set_cons_succ]
    refine wpG_takeB (i := 5) (oi := ⟨some 90, _, _, _, _, _⟩) (v := .bool true) rfl (by kernel_rfl) (by kernel_rfl) (by kernel_rfl) (by decide) (fun _ _ _ h => h) h01 rfl hHeld (Or.inl ⟨by rfl, ?_⟩) ?_
    · (intro W9 hSw; obtain ⟨v1, v2, v3, v4⟩ := hSw; have s1 := HSX.out; have s2 := HSY.out; go_simp; (try (first | with_reducible rfl | rfl | (simp; done))))
    try simp only [Act.put, List.setIfInBounds_toArray, List.set_cons_zero, List.set_cons_succ]
    refine wpG_takeB (i := 6) (oi := ⟨some 91, _, _, _, _, _⟩) (v := .bool true) rfl (by kernel_rfl) (by kernel_rfl) (by kernel_rfl) (by decide) (fun _ _ _ h => h) h01 rfl hHeld (Or.inl ⟨by rfl, ?_⟩) ?_
    · (intro W9 hSw; obtain ⟨v1, v2, v3, v4⟩ := hSw; have s1 := HSX.out; have s2 := HSY.out; go_simp; (try (first | with_reducible rfl | rfl | (simp; done))))
    try simp only [Act.put, List.setIfInBounds_toArray, List.set_cons_zero, List.set_cons_succ]
    refine wpG_takeB (i := 7) (oi := ⟨some 92, _, _, _, _, _⟩) (v := .slice Ax dx.length cx) rfl (by kernel_rfl) (by kernel_rfl) (by kernel_rfl) (by decide) (fun _ _ _ h => h) h01 rfl hHeld (Or.inl ⟨by rfl, ?_⟩) ?_
    · (intro W9 hSw; obtain ⟨v1, v2, v3, v4⟩ := hSw; have s1 := HSX.out; have s2 := HSY.out; go_simp; (try (first | with_reducible rfl | rfl | (simp; done))))
    try simp only [Act.put, List.setIfInBounds_toArray, List.set_cons_zero, List.set_cons_succ]
    refine wpG_takeB (i := 8) (oi := ⟨some 93, _, _, _, _, _⟩) (v := .pointer (some ⟨gG, 0, none⟩)) rfl (by kernel_rfl) (by kernel_rfl) (by kernel_rfl) (by decide) (fun _ _ _ h => h) h01 rfl hHeld (Or.inl ⟨by rfl, ?_⟩) ?_
    · (intro W9 hSw; obtain ⟨v1, v2, v3, v4⟩ := hSw; have s1 := HSX.out; have s2 := HSY.out; go_simp; (try (first | with_reducible rfl | rfl | (simp; done))))
    try simp only [Act.put, List.setIfInBounds_toArray, List.set_cons_zero, List.set_cons_succ]
    refine wpG_takeB (i := 9) (oi := ⟨some 94, _, _, _, _, _⟩) (v := .slice AU nU cU) rfl (by kernel_rfl) (by kernel_rfl) (by kernel_rfl) (by decide) (fun _ _ _ h => h) h01 rfl hHeld (Or.inl ⟨by rfl, ?_⟩) ?_
    · (intro W9 hSw; obtain ⟨v1, v2, v3, v4⟩ := hSw; have s1 := HSX.out; have s2 := HSY.out; go_simp; (try (first | with_reducible rfl | rfl | (simp; done))))
    try simp only [Act.put, List.setIfInBounds_toArray, List.set_cons_zero, List.set_cons_succ]
    refine wpG_takeB (i := 10) (oi := ⟨some 95, _, _, _, _, _⟩) (v := .int .i64 (d7.length : Int)) rfl (by kernel_rfl) (by kernel_rfl) (by kernel_rfl) (by decide) (fun _ _ _ h => h) h01 rfl hHeld (Or.inl ⟨by rfl, ?_⟩) ?_
    · (intro W9 hSw; obtain ⟨v1, v2, v3, v4⟩ := hSw; have s1 := HSX.out; have s2 := HSY.out; go_simp; (try (first | with_reducible rfl | rfl | (simp; done))))
    try simp only [Act.put, List.setIfInBounds_toArray, List.set_cons_zero, List.set_cons_succ]
    refine wpG_takeB (i := 11) (oi := ⟨some 96, _, _, _, _, _⟩) (v := .slice AxU (nU - d7.length) cxU) rfl (by kernel_rfl) (by kernel_rfl) (by kernel_rfl) (by decide) (fun _ _ _ h => h) h01 rfl hHeld (Or.inl ⟨by rfl, ?_⟩) ?_
    · (intro W9 hSw; obtain ⟨v1, v2, v3, v4⟩ := hSw; have s1 := HSX.out; have s2 := HSY.out; go_simp; (try (first | with_reducible rfl | rfl | (simp; done))))
    try simp only [Act.put, List.setIfInBounds_toArray, List.set_cons_zero, List.set_cons_succ]
    refine wpG_oneB (i := 12) (o := ⟨some 97, _, _, _, _, _⟩) (by kernel_rfl) rfl rfl (fun K hK => ?_)
    go_simp
    (with_reducible refine (CS1.out _ HBX1.out).mono ?_); rintro e wa ⟨rfl, ba⟩
    have HSa := Lib.hid (HS16.out.below ba)
    have HBXa := Lib.hid (HBX1.out.trans (ba.mono HBX1.out.size))
    clear ba
    refine hK.out _ _ HSa.out (fun hHeld => ?_)
    clear hK K
    try simp only [Act.put, List.setIfInBounds_toArray, List.set_cons_zero, List.set_cons_succ]
    refine wpG_takeB (i := 13) (oi := ⟨some 98, _, _, _, _, _⟩) (v := .bool true) rfl (by kernel_rfl) (by kernel_rfl) (by kernel_rfl) (by decide) (fun _ _ _ h => h) h01 rfl hHeld (Or.inl ⟨by rfl, ?_⟩) ?_
    · (intro W9 hSw; obtain ⟨v1, v2, v3, v4⟩ := hSw; have s1 := HSX.out; have s2 := HSY.out; go_simp; (try (first | with_reducible rfl | rfl | (simp; done))))
    try simp only [Act.put, List.setIfInBounds_toArray, List.set_cons_zero, List.set_cons_succ]
    refine wpG_takeB (i := 14) (oi := ⟨some 99, _, _, _, _, _⟩) (v := .bool true) rfl (by kernel_rfl) (by kernel_rfl) (by kernel_rfl) (by decide) (fun _ _ _ h => h) h01 rfl hHeld (Or.inl ⟨by rfl, ?_⟩) ?_
    · (intro W9 hSw; obtain ⟨v1, v2, v3, v4⟩ := hSw; have s1 := HSX.out; have s2 := HSY.out; go_simp; (try (first | with_reducible rfl | rfl | (simp; done))))
    try simp only [Act.put, List.setIfInBounds_toArray, List.set_cons_zero, List.set_cons_succ]
    refine wpG_takeB (i := 15) (oi := ⟨some 100, _, _, _, _, _⟩) (v := .slice Ay dy.length cy) rfl (by kernel_rfl) (by kernel_rfl) (by kernel_rfl) (by decide) (fun _ _ _ h => h) h01 rfl hHeld (Or.inl ⟨by rfl, ?_⟩) ?_
    · (intro W9 hSw; obtain ⟨v1, v2, v3, v4⟩ := hSw; have s1 := HSX.out; have s2 := HSY.out; go_simp; (try (first | with_reducible rfl | rfl | (simp; done))))
    try simp only [Act.put, List.setIfInBounds_toArray, List.set_cons_zero, List.set_cons_succ]
    refine wpG_takeB (i := 16) (oi := ⟨some 101, _, _, _, _, _⟩) (v := .pointer (some ⟨gH, 0, none⟩)) rfl (by kernel_rfl) (by kernel_rfl) (by kernel_rfl) (by decide) (fun _ _ _ h => h) h01 rfl hHeld (Or.inl ⟨by rfl, ?_⟩) ?_
    · (intro W9 hSw; obtain ⟨v1, v2, v3, v4⟩ := hSw; have s1 := HSX.out; have s2 := HSY.out; go_simp; (try (first | with_reducible rfl | rfl | (simp; done))))
    try simp only [Act.put, List.setIfInBounds_toArray, List.set_cons_zero, List.set_cons_succ]
    refine wpG_takeB (i := 17) (oi := ⟨some 102, _, _, _, _, _⟩) (v := .slice AV nV cV) rfl (by kernel_rfl) (by kernel_rfl) (by kernel_rfl) (by decide) (fun _ _ _ h => h) h01 rfl hHeld (Or.inl ⟨by rfl, ?_⟩) ?_
    · (intro W9 hSw; obtain ⟨v1, v2, v3, v4⟩ := hSw; have s1 := HSX.out; have s2 := HSY.out; go_simp; (try (first | with_reducible rfl | rfl | (simp; done))))
    try simp only [Act.put, List.setIfInBounds_toArray, List.set_cons_zero, List.set_cons_succ]
    refine wpG_takeB (i := 18) (oi := ⟨some 103, _, _, _, _, _⟩) (v := .int .i64 (d7.length : Int)) rfl (by kernel_rfl) (by kernel_rfl) (by kernel_rfl) (by decide) (fun _ _ _ h => h) h01 rfl hHeld (Or.inl ⟨by rfl, ?_⟩) ?_
    · (intro W9 hSw; obtain ⟨v1, v2, v3, v4⟩ := hSw; have s1 := HSX.out; have s2 := HSY.out; go_simp; (try (first | with_reducible rfl | rfl | (simp; done))))
    try simp only [Act.put, List.setIfInBounds_toArray, List.set_cons_zero, List.set_cons_succ]
    refine wpG_takeB (i := 19) (oi := ⟨some 104, _, _, _, _, _⟩) (v := .slice AxV (nV - d7.length) cxV) rfl (by kernel_rfl) (by kernel_rfl) (by kernel_rfl) (by decide) (fun _ _ _ h => h) h01 rfl hHeld (Or.inl ⟨by rfl, ?_⟩) ?_
    · (intro W9 hSw; obtain ⟨v1, v2, v3, v4⟩ := hSw; have s1 := HSX.out; have s2 := HSY.out; go_simp; (try (first | with_reducible rfl | rfl | (simp; done))))
    try simp only [Act.put, List.setIfInBounds_toArray, List.set_cons_zero, List.set_cons_succ]
    refine wpG_oneB (i := 20) (o := ⟨some 105, _, _, _, _, _⟩) (by kernel_rfl) rfl rfl (fun K hK => ?_)
    go_simp
    (with_reducible refine (CS2.out _ HBXa.out).mono ?_); rintro e wb ⟨rfl, bb⟩
    have HSb := Lib.hid (HSa.out.below bb)
    have HBXb := Lib.hid (HBXa.out.trans (bb.mono HBXa.out.size))
    clear bb
    refine hK.out _ _ HSb.out (fun hHeld => ?_)
    clear hK K
    try simp only [Act.put, List.setIfInBounds_toArray, List.set_cons_zero, List.set_cons_succ]
    refine wpG_takeB (i := 21) (oi := ⟨some 106, _, _, _, _, _⟩) (v := .bool true) rfl (by kernel_rfl) (by kernel_rfl) (by kernel_rfl) (by decide) (fun _ _ _ h => h) h01 rfl hHeld (Or.inl ⟨by rfl, ?_⟩) ?_
    · (intro W9 hSw; obtain ⟨v1, v2, v3, v4⟩ := hSw; have s1 := HSX.out; have s2 := HSY.out; go_simp; (try (first | with_reducible rfl | rfl | (simp; done))))
    try simp only [Act.put, List.setIfInBounds_toArray, List.set_cons_zero, List.set_cons_succ]
    refine wpG_takeB (i := 22) (oi := ⟨some 107, _, _, _, _, _⟩) (v := .bool true) rfl (by kernel_rfl) (by kernel_rfl) (by kernel_rfl) (by decide) (fun _ _ _ h => h) h01 rfl hHeld (Or.inl ⟨by rfl, ?_⟩) ?_
    · (intro W9 hSw; obtain ⟨v1, v2, v3, v4⟩ := hSw; have s1 := HSX.out; have s2 := HSY.out; go_simp; (try (first | with_reducible rfl | rfl | (simp; done))))
    try simp only [Act.put, List.setIfInBounds_toArray, List.set_cons_zero, List.set_cons_succ]
    refine wpG_takeB (i := 23) (oi := ⟨some 108, _, _, _, _, _⟩) (v := .pointer (some ⟨r, 0, none⟩)) rfl (by kernel_rfl) (by kernel_rfl) (by kernel_rfl) (by decide) (fun _ _ _ h => h) h01 rfl hHeld (Or.inl ⟨by rfl, ?_⟩) ?_
    · (intro W9 hSw; obtain ⟨v1, v2, v3, v4⟩ := hSw; have s1 := HSX.out; have s2 := HSY.out; go_simp; (try (first | with_reducible rfl | rfl | (simp; done))))
    try simp only [Act.put, List.setIfInBounds_toArray, List.set_cons_zero, List.set_cons_succ]
    refine wpG_takeB (i := 25) (oi := ⟨some 110, _, _, _, _, _⟩) (v := .pointer (some ⟨gG, 1, none⟩)) rfl (by kernel_rfl) (by kernel_rfl) (by kernel_rfl) (by decide) (fun _ _ _ h => h) h01 rfl hHeld (Or.inl ⟨by rfl, ?_⟩) ?_
    · (intro W9 hSw; obtain ⟨v1, v2, v3, v4⟩ := hSw; have s1 := HSX.out; have s2 := HSY.out; go_simp; (try (first | with_reducible rfl | rfl | (simp; done))))
    try simp only [Act.put, List.setIfInBounds_toArray, List.set_cons_zero, List.set_cons_succ]
    refine wpG_takeB (i := 26) (oi := ⟨some 111, _, _, _, _, _⟩) (v := .bool brU) rfl (by kernel_rfl) (by kernel_rfl) (by kernel_rfl) (by decide) (fun _ _ _ h => h) h01 rfl hHeld (Or.inl ⟨by rfl, ?_⟩) ?_
    · (intro W9 hSw; obtain ⟨v1, v2, v3, v4⟩ := hSw; have s1 := HSX.out; have s2 := HSY.out; go_simp; (try (first | with_reducible rfl | rfl | (simp; done))))
    try simp only [Act.put, List.setIfInBounds_toArray, List.set_cons_zero, List.set_cons_succ]
    refine wpG_oneB (i := 24) (o := ⟨some 109, _, _, _, _, _⟩) (by kernel_rfl) rfl rfl (fun K hK => ?_)
    go_simp
    (with_reducible refine (CB1.out _ HBXb.out).mono ?_); rintro e _ ⟨rfl, rfl⟩
    refine hK.out _ _ HSb.out (fun hHeld => ?_)
    clear hK K
    try simp only [Act.put, List.setIfInBounds_toArray, List.set_cons_zero, List.set_cons_succ]
    refine wpG_takeB (i := 27) (oi := ⟨some 112, _, _, _, _, _⟩) (v := .bool true) rfl (by kernel_rfl) (by kernel_rfl) (by kernel_rfl) (by decide) (fun _ _ _ h => h) h01 rfl hHeld (Or.inl ⟨by rfl, ?_⟩) ?_
    · (intro W9 hSw; obtain ⟨v1, v2, v3, v4⟩ := hSw; have s1 := HSX.out; have s2 := HSY.out; go_simp; (try (first | with_reducible rfl | rfl | (simp; done))))
    try simp only [Act.put, List.setIfInBounds_toArray, List.set_cons_zero, List.set_cons_succ]
    refine wpG_takeB (i := 28) (oi := ⟨some 113, _, _, _, _, _⟩) (v := .bool true) rfl (by kernel_rfl) (by kernel_rfl) (by kernel_rfl) (by decide) (fun _ _ _ h => h) h01 rfl hHeld (Or.inl ⟨by rfl, ?_⟩) ?_
    · (intro W9 hSw; obtain ⟨v1, v2, v3, v4⟩ := hSw; have s1 := HSX.out; have s2 := HSY.out; go_simp; (try (first | with_reducible rfl | rfl | (simp; done))))
    try simp only [Act.put, List.setIfInBounds_toArray, List.set_cons_zero, List.set_cons_succ]
    refine wpG_takeB (i := 29) (oi := ⟨some 114, _, _, _, _, _⟩) (v := .bool true) rfl (by kernel_rfl) (by kernel_rfl) (by kernel_rfl) (by decide) (fun _ _ _ h => h) h01 rfl hHeld (Or.inl ⟨by rfl, ?_⟩) ?_
    · (intro W9 hSw; obtain ⟨v1, v2, v3, v4⟩ := hSw; have s1 := HSX.out; have s2 := HSY.out; go_simp; (try (first | with_reducible rfl | rfl | (simp; done))))
    try simp only [Act.put, List.setIfInBounds_toArray, List.set_cons_zero, List.set_cons_succ]
    refine wpG_takeB (i := 30) (oi := ⟨some 115, _, _, _, _, _⟩) (v := .pointer (some ⟨r2, 0, none⟩)) rfl (by kernel_rfl) (by kernel_rfl) (by kernel_rfl) (by decide) (fun _ _ _ h => h) h01 rfl hHeld (Or.inl ⟨by rfl, ?_⟩) ?_
    · (intro W9 hSw; obtain ⟨v1, v2, v3, v4⟩ := hSw; have s1 := HSX.out; have s2 := HSY.out; go_simp; (try (first | with_reducible rfl | rfl | (simp; done))))
    try simp only [Act.put, List.setIfInBounds_toArray, List.set_cons_zero, List.set_cons_succ]
    refine wpG_takeB (i := 32) (oi := ⟨some 117, _, _, _, _, _⟩) (v := .pointer (some ⟨gH, 1, none⟩)) rfl (by kernel_rfl) (by kernel_rfl) (by kernel_rfl) (by decide) (fun _ _ _ h => h) h01 rfl hHeld (Or.inl ⟨by rfl, ?_⟩) ?_
    · (intro W9 hSw; obtain ⟨v1, v2, v3, v4⟩ := hSw; have s1 := HSX.out; have s2 := HSY.out; go_simp; (try (first | with_reducible rfl | rfl | (simp; done))))
    try simp only [Act.put, List.setIfInBounds_toArray, List.set_cons_zero, List.set_cons_succ]
    refine wpG_takeB (i := 33) (oi := ⟨some 118, _, _, _, _, _⟩) (v := .bool brV) rfl (by kernel_rfl) (by kernel_rfl) (by kernel_rfl) (by decide) (fun _ _ _ h => h) h01 rfl hHeld (Or.inl ⟨by rfl, ?_⟩) ?_
    · (intro W9 hSw; obtain ⟨v1, v2, v3, v4⟩ := hSw; have s1 := HSX.out; have s2 := HSY.out; go_simp; (try (first | with_reducible rfl | rfl | (simp; done))))
    try simp only [Act.put, List.setIfInBounds_toArray, List.set_cons_zero, List.set_cons_succ]
    refine wpG_oneB (i := 31) (o := ⟨some 116, _, _, _, _, _⟩) (by kernel_rfl) rfl rfl (fun K hK => ?_)
    go_simp
    (with_reducible refine (CB2.out _ HBXb.out).mono ?_); rintro e _ ⟨rfl, rfl⟩
    refine hK.out _ _ HSb.out (fun hHeld => ?_)
    clear hK K
    try simp only [Act.put, List.setIfInBounds_toArray, List.set_cons_zero, List.set_cons_succ]
    refine wpG_takeB (i := 34) (oi := ⟨some 119, _, _, _, _, _⟩) (v := .bool true) rfl (by kernel_rfl) (by kernel_rfl) (by kernel_rfl) (by decide) (fun _ _ _ h => h) h01 rfl hHeld (Or.inl ⟨by rfl, ?_⟩) ?_
    · (intro W9 hSw; obtain ⟨v1, v2, v3, v4⟩ := hSw; have s1 := HSX.out; have s2 := HSY.out; go_simp; (try (first | with_reducible rfl | rfl | (simp; done))))
    try simp only [Act.put, List.setIfInBounds_toArray, List.set_cons_zero, List.set_cons_succ]
    refine wpG_takeB (i := 35) (oi := ⟨some 120, _, _, _, _, _⟩) (v := .bool true) rfl (by kernel_rfl) (by kernel_rfl) (by kernel_rfl) (by decide) (fun _ _ _ h => h) h01 rfl hHeld (Or.inl ⟨by rfl, ?_⟩) ?_
    · (intro W9 hSw; obtain ⟨v1, v2, v3, v4⟩ := hSw; have s1 := HSX.out; have s2 := HSY.out; go_simp; (try (first | with_reducible rfl | rfl | (simp; done))))
    try simp only [Act.put, List.setIfInBounds_toArray, List.set_cons_zero, List.set_cons_succ]
    refine wpG_takeB (i := 36) (oi := ⟨some 121, _, _, _, _, _⟩) (v := .bool true) rfl (by kernel_rfl) (by kernel_rfl) (by kernel_rfl) (by decide) (fun _ _ _ h => h) h01 rfl hHeld (Or.inl ⟨by rfl, ?_⟩) ?_
    · (intro W9 hSw; obtain ⟨v1, v2, v3, v4⟩ := hSw; have s1 := HSX.out; have s2 := HSY.out; go_simp; (try (first | with_reducible rfl | rfl | (simp; done))))
    try simp only [Act.put, List.setIfInBounds_toArray, List.set_cons_zero, List.set_cons_succ]
    refine wpG_oneB (i := 37) (o := ⟨some 122, _, _, _, _, _⟩) (by kernel_rfl) rfl rfl (fun K hK => ?_)
    go_simp
    (with_reducible refine (C10.out _).mono ?_); rintro e wc ⟨rfl, bc⟩
    have HSc := Lib.hid (HSb.out.below bc)
    have HBXc := Lib.hid (HBXb.out.trans (bc.mono HBXb.out.size))
    clear bc
    refine hK.out _ _ HSc.out (fun hHeld => ?_)
    clear hK K
    try simp only [Act.put, List.setIfInBounds_toArray, List.set_cons_zero, List.set_cons_succ]
    refine wpG_takeB (i := 38) (oi := ⟨some 123, _, _, _, _, _⟩) (v := .bool true) rfl (by kernel_rfl) (by kernel_rfl) (by kernel_rfl) (by decide) (fun _ _ _ h => h) h01 rfl hHeld (Or.inl ⟨by rfl, ?_⟩) ?_
    · (intro W9 hSw; obtain ⟨v1, v2, v3, v4⟩ := hSw; have s1 := HSX.out; have s2 := HSY.out; go_simp; (try (first | with_reducible rfl | rfl | (simp; done))))
    try simp only [Act.put, List.setIfInBounds_toArray, List.set_cons_zero, List.set_cons_succ]
    refine wpG_takeB (i := 39) (oi := ⟨some 8, _, _, _, _, _⟩) (v := .bool true) rfl (by kernel_rfl) (by kernel_rfl) (by kernel_rfl) (by decide) (fun _ _ _ h => h) h01 rfl hHeld (Or.inl ⟨by rfl, ?_⟩) ?_
    · (intro W9 hSw; obtain ⟨v1, v2, v3, v4⟩ := hSw; have s1 := HSX.out; have s2 := HSY.out; go_simp; (try (first | with_reducible rfl | rfl | (simp; done))))
    try simp only [Act.put, List.setIfInBounds_toArray, List.set_cons_zero, List.set_cons_succ]
    refine wpG_done (by kernel_rfl) ?_ _
    clear hHeld h01
    go_wp2_with fail
    go_ret
    exact ⟨rfl, HBWW.out.trans (HBXc.out.mono HBWW.out.size)⟩
  · exact ⟨false, false, false, false, false, false, false, false, false, false, false, false, undef, undef, undef, undef, undef, undef, undef, undef, undef, undef, undef, undef, [], [], w0.heap.size, w0.heap.size, Nat.le_refl _, Nat.le_refl _, rfl, (by simp only [put10, List.setIfInBounds_toArray, List.set_cons_zero, List.set_cons_succ]), CpS.start _ _ undef undef undef undef undef undef undef undef undef undef⟩

end Go.Proofs.Ytibkhjpjneoabaa
