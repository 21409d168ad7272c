/- The law's run. -/
import Derived.Test.YthkpmbgclllnjaaNb
import Derived.Deep.CutRange
namespace Go.Proofs.Ythkpmbgclllnjaa
open Go.RowKit
set_option linter.unusedVariables false
set_option linter.unusedSimpArgs false

/-- Source and reference behind some calls. -/
structure RunO (w w' : World) (B bs bt bb : Nat) (v0 : Value) (lim n0 i : Nat) (A0 : Option Addr) (v : Value) (A : Option Addr) (n c : Nat) (all : List UInt8) (tk : Nat) (cl : Bool) : Prop where
  ss : SS w' B bs bt bb v lim (all.drop tk) tk cl
  rb : RB w' A n c all
  sp : ∀ a, A = some a → a.spot = none
  tn : tk ≤ n
  nn : n ≤ n0 + 100 * i
  sep : ∀ a, A = some a → 0 < n → ¬ SF bt bb v a.block
  only : Only (SF bt bb v0) w w'
  hat : Hat v0 v w
  fr : (A = A0 ∧ n = n0) ∨ ∀ a, A = some a → w.heap.size ≤ a.block
/-- What run returns. -/
def RunP (w : World) (B bs bt bb : Nat) (v : Value) (lim n len : Nat) (A0 : Option Addr) (e : Ending) (w' : World) : Prop := ∃ A' n' c' all' tk' cl' v', e = .returned (.tuple #[.agg #[.int .i64 lim, .slice A' n' c', .int .i64 (tk' : Nat), .bool cl'], .bool true]) ∧ RunO w w' B bs bt bb v lim n len A0 v' A' n' c' all' tk' cl'
/-- The same, with run's two boxes. -/
structure RunI (w w' : World) (B bs bt bb : Nat) (v0 : Value) (lim n0 i : Nat) (A0 : Option Addr) (v : Value) (A : Option Addr) (n c : Nat) (all : List UInt8) (tk : Nat) (cl : Bool) : Prop where
  o : RunO w w' B bs bt bb v0 lim n0 i A0 v A n c all tk cl
  k1 : Blk w' w.heap.size 37 #[.int .i64 lim, .slice A n c, .int .i64 tk, .bool cl]
  k2 : Blk w' (w.heap.size + 1) 37 #[.int .i64 0, .slice none 0 0, .int .i64 0, .bool false]
/-- What stands in the slots behind want. -/
structure Got (wb w' : World) (lim : Nat) (A : Option Addr) (all : List UInt8) (tk : Nat) (cl : Bool) (a : SAct) (v13 v14 v15 : Value) : Prop where
  got : ∃ (g : Nat) (A1 : Option Addr) (n1 c1 tk1 : Nat) (cl1 : Bool) (Ab : Option Addr) (nb cb : Nat), v13 = .pointer (some ⟨g, 0, none⟩) ∧ v14 = .slice Ab nb cb ∧ v15 = .int .i64 (stE lim all tk cl a) ∧ wb.heap.size ≤ g ∧ Blk w' g 37 #[.int .i64 lim, .slice A1 n1 c1, .int .i64 tk1, .bool cl1] ∧ Wanted wb w' lim A all tk cl a A1 n1 c1 tk1 cl1 Ab nb cb
theorem Wanted.wide {w0 w w' : World} {lim : Nat} {A : Option Addr} {all : List UInt8} {tk : Nat} {cl : Bool} {a : SAct} {A1 : Option Addr} {n1 c1 tk1 : Nat} {cl1 : Bool} {Ab : Option Addr} {nb cb : Nat} (hb : Below w0.heap.size w0 w) (h : Wanted w w' lim A all tk cl a A1 n1 c1 tk1 cl1 Ab nb cb) : Wanted w0 w' lim A all tk cl a A1 n1 c1 tk1 cl1 Ab nb cb :=
  ⟨h.ref, h.tkE, h.clE, h.b, by
    rcases h.fresh with h1 | h1
    · exact .inl h1
    · exact .inr fun ad hA => ⟨Nat.le_trans hb.size (h1 ad hA).1, (h1 ad hA).2⟩, hb.trans (h.below.mono hb.size)⟩
theorem Wanted.over {w w' w2 : World} {lim : Nat} {A : Option Addr} {all : List UInt8} {tk : Nat} {cl : Bool} {a : SAct} {A1 : Option Addr} {n1 c1 tk1 : Nat} {cl1 : Bool} {Ab : Option Addr} {nb cb : Nat} (h : Wanted w w' lim A all tk cl a A1 n1 c1 tk1 cl1 Ab nb cb) (hb : Below w'.heap.size w' w2) : Wanted w w2 lim A all tk cl a A1 n1 c1 tk1 cl1 Ab nb cb :=
  ⟨h.ref.below hb, h.tkE, h.clE, h.b.below hb, h.fresh, h.below.trans (hb.mono h.below.size)⟩
theorem Wanted.set {w w' : World} {lim : Nat} {A : Option Addr} {all : List UInt8} {tk : Nat} {cl : Bool} {a : SAct} {A1 : Option Addr} {n1 c1 tk1 : Nat} {cl1 : Bool} {Ab : Option Addr} {nb cb g : Nat} {p q : Int} {x : Value} {y : Bool} (h : Wanted w w' lim A all tk cl a A1 n1 c1 tk1 cl1 Ab nb cb) (hg : Blk w' g 37 #[.int .i64 p, x, .int .i64 q, .bool y]) (hx : ∀ z, x ≠ .int .u8 z) (hle : w.heap.size ≤ g) (d0 d1 d2 d3 : Value) :
    Wanted w ((((w'.setCell ⟨g, 0, none⟩ d0).setCell ⟨g, 1, none⟩ d1).setCell ⟨g, 2, none⟩ d2).setCell ⟨g, 3, none⟩ d3) lim A all tk cl a A1 n1 c1 tk1 cl1 Ab nb cb :=
  have ho : Only (fun k => k = g) w' ((((w'.setCell ⟨g, 0, none⟩ d0).setCell ⟨g, 1, none⟩ d1).setCell ⟨g, 2, none⟩ d2).setCell ⟨g, 3, none⟩ d3) := Only.set (p := fun k => k = g) (Only.set (p := fun k => k = g) (Only.set (p := fun k => k = g) (Only.set (p := fun k => k = g) (Only.refl _ _) (fun _ => rfl) 0 _) (fun _ => rfl) 1 _) (fun _ => rfl) 2 _) (fun _ => rfl) 3 _
  ⟨h.ref.only ho fun a hA h0 => RB.ne h.ref h0 hA hg (cs4 p q x y hx), h.tkE, h.clE, h.b.only ho fun a hA h0 => RB.ne h.b h0 hA hg (cs4 p q x y hx), h.fresh, below4 h.below hle _ _ _ _⟩
theorem stAll_le {lim : Nat} {all : List UInt8} {tk : Nat} {cl : Bool} {a : SAct} (h : a.b.length ≤ 100) : (stAll lim all tk cl a).length ≤ all.length + 100 := by
  unfold stAll; split
  · rw [List.length_append]; omega
  · omega
theorem stTk_le {lim : Nat} {all : List UInt8} {tk : Nat} {cl : Bool} {a : SAct} (h7 : a.kd < 7) (ht : tk ≤ all.length) : stTk lim all tk cl a ≤ (stAll lim all tk cl a).length := by
  have h0 : all.length ≤ (stAll lim all tk cl a).length := by unfold stAll; split <;> simp
  refine Nat.le_trans ?_ h0
  have hld : (all.drop tk).length = all.length - tk := List.length_drop
  unfold stTk
  split
  case isFalse => exact ht
  case isTrue hE =>
    split
    case isTrue h23 =>
      have : peekE lim cl (all.drop tk) a.N = 0 := by
        unfold stE at hE
        rw [if_neg (by omega), if_neg (by omega), if_neg (by omega), if_neg (by omega)] at hE
        exact hE
      obtain ⟨k, hk, hkl, -⟩ := peekE_ok this
      rw [hk, Int.toNat_natCast]
      omega
    case isFalse h23 =>
      split
      case isTrue h4 =>
        have : untilE lim cl (all.drop tk) a.x a.N = 0 := by
          unfold stE at hE
          rw [if_neg (by omega), if_pos h4] at hE
          exact hE
        obtain ⟨-, -, k, hk, hkl, -⟩ := untilE_ok this
        rw [hk, Int.toNat_natCast]
        omega
      case isFalse h4 => exact ht
theorem own_RB2 {w : World} {B n c : Nat} {A : Option Addr} {l : List UInt8} (h : w.ownsRow B 5 1 (.slice A n c) n (l.map u8)) : RB w A n c l := by
  obtain ⟨A', c', e, hr⟩ := own_RB h
  injection e with e1 e2 e3
  subst e1 e3
  exact hr
theorem app_bound {m : Nat} (h : m ≤ 100) : 0 + m ≤ maxLen := by unfold maxLen; omega

/-- The cells that region 8 reads. -/
def S8 (g lim : Nat) (A : Option Addr) (n c tk : Nat) (cl : Bool) (b p : Nat) (X : ActV) (W : World) : Prop := W.cell? ⟨g, 0, none⟩ = some (.int .i64 (lim : Int)) ∧ W.cell? ⟨g, 1, none⟩ = some (.slice A n c) ∧ W.cell? ⟨g, 2, none⟩ = some (.int .i64 (tk : Int)) ∧ W.cell? ⟨g, 3, none⟩ = some (.bool cl) ∧ ActC W b p X
set_option maxRecDepth 100000 in
set_option maxHeartbeats 4000000 in
theorem run_any (w0 w : World) (L : Option Addr) (len cL : Nat) (f : Nat → ActV) (HA : ActS w0 L len f) (hlen : len ≤ 60) (hm : ∀ i, i < len → (f i).m ≤ 100) (hw : Below w0.heap.size w0 w) {bs bt bb : Nat} {v : Value} {lim : Nat} {A : Option Addr} {n c : Nat} {all : List UInt8} {tk : Nat} {cl : Bool}
    (h : SS w w0.heap.size bs bt bb v lim (all.drop tk) tk cl) (hbt : w0.heap.size ≤ bt) (hbb : w0.heap.size ≤ bb) (hr : RB w A n c all) (hsp : ∀ a, A = some a → a.spot = none) (ht : tk ≤ n) (hn : n ≤ 900000) (sep : ∀ a, A = some a → 0 < n → ¬ SF bt bb v a.block) :
    Calls Try.prog 17 #[.pointer (some ⟨bs, 0, none⟩), .agg #[.int .i64 lim, .slice A n c, .int .i64 tk, .bool cl], .slice L len cL] w (RunP w w0.heap.size bs bt bb v lim n len A) := by
  obtain ⟨w1, hw1⟩ : ∃ w1, (w.alloc (.cells #[.int .i64 lim, .slice A n c, .int .i64 tk, .bool cl] 37)).alloc (.cells #[.int .i64 0, .slice none 0 0, .int .i64 0, .bool false] 37) = w1 := ⟨_, rfl⟩
  have hbw : Below w.heap.size w w1 := hw1 ▸ ((Below.refl _ w).alloc (Nat.le_refl _) _).alloc (by simp) _
  have k1 : Blk w1 w.heap.size 37 #[.int .i64 lim, .slice A n c, .int .i64 tk, .bool cl] := hw1 ▸ (Blk.new w 37 _).alloc _
  have k2 : Blk w1 (w.heap.size + 1) 37 #[.int .i64 0, .slice none 0 0, .int .i64 0, .bool false] := by have := Blk.new (w.alloc (.cells #[.int .i64 lim, .slice A n c, .int .i64 tk, .bool cl] 37)) 37 #[.int .i64 0, .slice none 0 0, .int .i64 0, .bool false]; rw [World.size_alloc, hw1] at this; exact this
  have HI1 : Hid (RunI w w1 w0.heap.size bs bt bb v lim n 0 A v A n c all tk cl) := Lib.hid ⟨⟨h.below hbw, hr.below hbw, hsp, ht, by omega, sep, Only.of_below hbw, Hat.refl _ _, .inl ⟨rfl, rfl⟩⟩, k1, k2⟩
  have HAS := Lib.hid HA
  have HM := Lib.hid hm
  have HW := Lib.hid hw
  have HBT := Lib.hid (And.intro hbt hbb)
  have HSF := Lib.hid (show ∀ b, b < w0.heap.size → ¬ SF bt bb v b from fun b hb hs => by
    rcases hs with e | e | e
    · omega
    · omega
    · have := (h.own.lt b e).1; omega)
  have HNN := Lib.hid hn
  have HHS := Lib.hid h
  have HW1 := Lib.hid hw1
  have hl60 : (len : Int) ≤ 60 := by omega
  clear HA hlen hm hw h hbt hbb hr hsp ht hn sep hw1 hbw k1 k2
  go_enter Try.func17, Try.ntmps17
  go_wp2_with fail
  rw [HW1.out]
  clear HW1
  go_loopw [8] (fun ii wr => ∃ (i : Nat) (v1 : Value) (A1 : Option Addr) (n1 c1 : Nat) (all1 : List UInt8) (tk1 : Nat) (cl1 : Bool), (i : Int) ≤ len ∧ ii = .int .i64 i ∧ Hid (RunI w wr w0.heap.size bs bt bb v lim n i A v1 A1 n1 c1 all1 tk1 cl1)) (fun ii _ => len - (intOf ii).toNat)
  case atStart => exact ⟨0, v, A, n, c, all, tk, cl, by omega, rfl, HI1⟩
  clear HI1
  case round =>
    obtain ⟨i, v1, A1, n1, c1, all1, tk1, cl1, hi, rfl, HI⟩ := hrel
    have hi0 : (0 : Int) ≤ i := by omega
    obtain ⟨wo, rfl⟩ : ∃ wo : World, wo = wr := ⟨_, rfl⟩
    by_cases hlt : (i : Int) < len
    · obtain ⟨b, o, rfl, hbl, hcl, hX⟩ := HAS.out.2 i (by omega)
      have hm100 := HM.out i (by omega)
      generalize f i = X at *
      have HBo := Lib.hid (HW.out.trans (HI.out.o.only.to_below HW.out.size HSF.out))
      have HCL := Lib.hid hcl
      have HX := Lib.hid hX
      have hxm : (X.m : Int) ≤ 100 := by omega
      have HXM := Lib.hid hm100
      have hblc : b < wo.heap.size := Nat.lt_of_lt_of_le hbl HBo.out.size
      have HBL := Lib.hid hbl
      have HHX := Lib.hid (hX.rb.below (HBo.out.mono (Nat.le_refl _)))
      obtain ⟨k1, k2, k3, k4⟩ := hcl.keepc HBo.out hbl
      have HLT := Lib.hid hlt
      clear hcl hX hm100 hbl
      go_wp2_with (first
        | (at_builtin; (refine wpList_app_own (base := wo.heap.size) (n := 0) (m := X.m) (xs := []) (news := X.l.map Go.Proofs.Ythkpmbgclllnjaa.u8) rfl (.tmp 24) (.tmp 29) 22 rfl el22 rfl (own_none00 wo 5) rfl (HHX.out.h.alloc _) (u8_one _) (app_bound HXM.out) (by omega) (by simp) ?_; intro v2 w2 hown hg hat; rw [Nat.zero_add, List.nil_append] at hown; obtain ⟨Ao, co, rfl, -, -, h01, -⟩ := own_form hown; have HO2 := Lib.hid hown; have HD2 := Lib.hid (below_own ((Below.refl wo.heap.size wo).alloc (Nat.le_refl _) _) (by simp) (own_none00 wo 5) hg); clear hown hg hat h01 k1 k2 k3 k4; obtain ⟨k1, k2, k3, k4⟩ := HCL.out.keepc (HBo.out.trans (HD2.out.mono HBo.out.size)) HBL.out; refine Hid.out ?_)))
      refine Lib.hid ?_
      go_wp2_with fail
      obtain ⟨w3, hw3⟩ : ∃ w3, w2.alloc (.cells #[.int .u8 X.k, .slice Ao X.m co, .int .i64 X.n, .int .u8 (X.x.toNat : Int)] 53) = w3 := ⟨_, rfl⟩
      have HD3 := Lib.hid (show Below wo.heap.size wo w3 from hw3 ▸ HD2.out.alloc HD2.out.size _)
      have HO3 := Lib.hid (show w3.ownsRow wo.heap.size 5 1 (.slice Ao X.m co) X.m (X.l.map Go.Proofs.Ythkpmbgclllnjaa.u8) from hw3 ▸ own_alloc HO2.out)
      rw [hw3]
      have HW23 := Lib.hid (show w2.heap.size < w3.heap.size from hw3 ▸ by simp)
      obtain ⟨E, hE⟩ : ∃ E, stE lim all1 tk1 cl1 X.spec = E := ⟨_, rfl⟩
      have HE := Lib.hid hE
      have HKD := Lib.hid (show X.k % 7 = (X.spec.kd : Int) from by unfold ActV.spec; have := HX.out.k0; simp only; omega)
      have HNL := Lib.hid (show all1.length = n1 ∧ n1 ≤ 906000 from ⟨HI.out.o.rb.len, by have := HI.out.o.nn; have := HNN.out; omega⟩)
      have C23 := Lib.hid (show Calls Try.prog 23 #[.pointer (some ⟨bs, 0, none⟩), .agg #[.int .u8 X.k, .slice Ao X.m co, .int .i64 X.n, .int .u8 (X.x.toNat : Int)]] w3 (fun e w' => ∃ A k c, e = .returned (.tuple #[.slice A k c, .int .i64 E]) ∧ Played w3 w' w0.heap.size bs bt bb v1 lim all1 tk1 cl1 X.spec A k c) from hE ▸ play_some (a := X.spec) (HI.out.o.ss.below HD3.out) (by have := HI.out.o.tn; have := HNL.out; omega) (by have := HNL.out; omega) HX.out.k0 HX.out.k1 HKD.out (own_RB2 HO3.out) (by have := HXM.out; omega))
      clear hE hw3 k1 k2 k3 k4
      (with_reducible refine C23.out.mono ?_); rintro e w4 ⟨Ap, kp, cp, rfl, hp⟩
      obtain ⟨hpo, v2, hs2, ho2, hh2, hj2⟩ := hp
      have HSF1 := Lib.hid (show ∀ b, b < w0.heap.size → ¬ SF bt bb v1 b from fun b hb hs => by
        rcases hs with e | e | e
        · have := HBT.out.1; omega
        · have := HBT.out.2; omega
        · have := (HI.out.o.ss.own.lt b e).1; omega)
      have HB3 := Lib.hid (HBo.out.trans (HD3.out.mono HBo.out.size))
      have HB4 := Lib.hid (HB3.out.trans (ho2.to_below HB3.out.size HSF1.out))
      have HK1 := Lib.hid (((HI.out.k1.below HD3.out HI.out.k1.lt)).only ho2 (HI.out.o.ss.notSF HI.out.k1 (by decide) (by decide) (by decide)))
      have HK2 := Lib.hid (((HI.out.k2.below HD3.out HI.out.k2.lt)).only ho2 (HI.out.o.ss.notSF HI.out.k2 (by decide) (by decide) (by decide)))
      have HR4 := Lib.hid ((HI.out.o.rb.below HD3.out).only ho2 HI.out.o.sep)
      have HPO := Lib.hid hpo
      have HS2 := Lib.hid hs2
      have HF2 := Lib.hid ho2
      have HH2 := Lib.hid hh2
      have HJ2 := Lib.hid hj2
      have HXG := Lib.hid (HX.out.below HB4.out)
      have C37 := Lib.hid (show ∀ W, Below w4.heap.size w4 W → Calls Try.prog 37 #[.agg #[.int .i64 lim, .slice A1 n1 c1, .int .i64 tk1, .bool cl1], .agg #[.int .u8 X.k, .slice X.A X.m X.c, .int .i64 X.n, .int .u8 (X.x.toNat : Int)]] W (fun e w' => ∃ A2 n2 c2 tk2 cl2 Ab nb cb, e = .returned (.tuple #[.agg #[.int .i64 lim, .slice A2 n2 c2, .int .i64 (tk2 : Nat), .bool cl2], .slice Ab nb cb, .int .i64 E]) ∧ Wanted W w' lim A1 all1 tk1 cl1 X.spec A2 n2 c2 tk2 cl2 Ab nb cb) from fun W hb => HE.out ▸ want_some (a := X.spec) (HR4.out.below hb) HI.out.o.sp HI.out.o.tn (by have := HNL.out; omega) HI.out.o.ss.limB HX.out.k0 HX.out.k1 HKD.out (HXG.out.rb.below hb) (by have := HXM.out; omega))
      have HSA := Lib.hid (show ∀ W, Below w4.heap.size w4 W → S8 w.heap.size lim A1 n1 c1 tk1 cl1 b (o + i * 4) X W from fun W hb => ⟨(HK1.out.below hb HK1.out.lt).cell 0, (HK1.out.below hb HK1.out.lt).cell 1, (HK1.out.below hb HK1.out.lt).cell 2, (HK1.out.below hb HK1.out.lt).cell 3, HCL.out.keepc (HB4.out.trans (hb.mono HB4.out.size)) HBL.out⟩)
      have HS8 := Lib.hid (HSA.out w4.drew (below_drew (Below.refl _ _)))
      clear hpo hs2 ho2 hh2 hj2 C23
      go_wp2_with fail
      go_cut [13, 14, 15] from 18 to 93 (fun a13 a14 a15 wx => Got w4 wx lim A1 all1 tk1 cl1 X.spec a13 a14 a15)
      case first =>
        refine wp_region_G (S0 := (S8 w.heap.size lim A1 n1 c1 tk1 cl1 b (o + i * 4) X)) (S1 := (S8 w.heap.size lim A1 n1 c1 tk1 cl1 b (o + i * 4) X)) (c := 99) (by kernel_rfl) ?_
        have hHeld := HS8.out
        have h01 := (fun (W : World) (h : (S8 w.heap.size lim A1 n1 c1 tk1 cl1 b (o + i * 4) X) W) => h)
        refine wpG_takeB (i := 0) (oi := ⟨some 44, _, _, _, _, _⟩) (v := .agg #[.int .i64 lim, .slice A1 n1 c1, .int .i64 tk1, .bool cl1]) rfl (by kernel_rfl) (by kernel_rfl) (by kernel_rfl) (by decide) (fun _ _ _ h => h) h01 rfl hHeld (Or.inl ⟨by rfl, ?_⟩) ?_
        · (intro W9 hSw; obtain ⟨v1, v2, v3, v4, u1, u2, u3, u4⟩ := hSw; go_simp; (try (first | with_reducible rfl | rfl)))
        try simp only [Act.put, List.setIfInBounds_toArray, List.set_cons_zero, List.set_cons_succ]
        refine wpG_takeB (i := 1) (oi := ⟨some 45, _, _, _, _, _⟩) (v := .slice (some ⟨b, o, none⟩) len cL) rfl (by kernel_rfl) (by kernel_rfl) (by kernel_rfl) (by decide) (fun _ _ _ h => h) h01 rfl hHeld (Or.inl ⟨by rfl, ?_⟩) ?_
        · (intro W9 hSw; obtain ⟨v1, v2, v3, v4, u1, u2, u3, u4⟩ := hSw; go_simp; (try (first | with_reducible rfl | rfl)))
        try simp only [Act.put, List.setIfInBounds_toArray, List.set_cons_zero, List.set_cons_succ]
        refine wpG_takeB (i := 2) (oi := ⟨some 46, _, _, _, _, _⟩) (v := .int .i64 (i : Int)) rfl (by kernel_rfl) (by kernel_rfl) (by kernel_rfl) (by decide) (fun _ _ _ h => h) h01 rfl hHeld (Or.inl ⟨by rfl, ?_⟩) ?_
        · (intro W9 hSw; obtain ⟨v1, v2, v3, v4, u1, u2, u3, u4⟩ := hSw; go_simp; (try (first | with_reducible rfl | rfl)))
        try simp only [Act.put, List.setIfInBounds_toArray, List.set_cons_zero, List.set_cons_succ]
        refine wpG_takeB (i := 3) (oi := ⟨some 47, _, _, _, _, _⟩) (v := .pointer (some ⟨b, o + i * 4, none⟩)) rfl (by kernel_rfl) (by kernel_rfl) (by kernel_rfl) (by decide) (fun _ _ _ h => h) h01 rfl hHeld (Or.inl ⟨by rfl, ?_⟩) ?_
        · (intro W9 hSw; obtain ⟨v1, v2, v3, v4, u1, u2, u3, u4⟩ := hSw; go_simp; (try (first | with_reducible rfl | rfl)))
        try simp only [Act.put, List.setIfInBounds_toArray, List.set_cons_zero, List.set_cons_succ]
        refine wpG_takeB (i := 4) (oi := ⟨some 48, _, _, _, _, _⟩) (v := .agg #[.int .u8 X.k, .slice X.A X.m X.c, .int .i64 X.n, .int .u8 (X.x.toNat : Int)]) rfl (by kernel_rfl) (by kernel_rfl) (by kernel_rfl) (by decide) (fun _ _ _ h => h) h01 rfl hHeld (Or.inl ⟨by rfl, ?_⟩) ?_
        · (intro W9 hSw; obtain ⟨v1, v2, v3, v4, u1, u2, u3, u4⟩ := hSw; go_simp; (try (first | with_reducible rfl | rfl)))
        try simp only [Act.put, List.setIfInBounds_toArray, List.set_cons_zero, List.set_cons_succ]
        refine wpG_twoB (i := 5) (j := 10) (o := ⟨some 49, _, _, _, _, _⟩) (p := ⟨some 13, _, _, _, _, _⟩) (by kernel_rfl) rfl rfl rfl rfl (fun K hK => ?_) (fun K hK => ?_)
        · have HBx := Lib.hid (below_drew (Below.refl w4.heap.size w4))
          go_simp
          (with_reducible refine (C37.out _ HBx.out).mono ?_); rintro e wq ⟨A2, n2, c2, tk2, cl2, Ab, nb, cb, rfl, hwq⟩
          have HBq := Lib.hid (HBx.out.trans (hwq.below.mono HBx.out.size))
          have HWQ := Lib.hid (hwq.wide HBx.out)
          have hwqb := Lib.hid hwq.below
          clear hwq
          refine hK.out _ _ (HSA.out wq HBq.out) (fun hHeld => ?_)
          clear hK K
          try simp only [Act.put, List.setIfInBounds_toArray, List.set_cons_zero, List.set_cons_succ]
          refine wpG_takeB (i := 6) (oi := ⟨some 43, _, _, _, _, _⟩) (v := .tuple #[.agg #[.int .i64 lim, .slice A2 n2 c2, .int .i64 tk2, .bool cl2], .slice Ab nb cb, .int .i64 E]) rfl (by kernel_rfl) (by kernel_rfl) (by kernel_rfl) (by decide) (fun _ _ _ h => h) h01 rfl hHeld (Or.inl ⟨by rfl, ?_⟩) ?_
          · (intro W9 hSw; obtain ⟨v1, v2, v3, v4, u1, u2, u3, u4⟩ := hSw; go_simp; (try (first | with_reducible rfl | rfl)))
          try simp only [Act.put, List.setIfInBounds_toArray, List.set_cons_zero, List.set_cons_succ]
          refine wpG_takeB (i := 7) (oi := ⟨some 50, _, _, _, _, _⟩) (v := .agg #[.int .i64 lim, .slice A2 n2 c2, .int .i64 tk2, .bool cl2]) rfl (by kernel_rfl) (by kernel_rfl) (by kernel_rfl) (by decide) (fun _ _ _ h => h) h01 rfl hHeld (Or.inl ⟨by rfl, ?_⟩) ?_
          · (intro W9 hSw; obtain ⟨v1, v2, v3, v4, u1, u2, u3, u4⟩ := hSw; go_simp; (try (first | with_reducible rfl | rfl)))
          try simp only [Act.put, List.setIfInBounds_toArray, List.set_cons_zero, List.set_cons_succ]
          refine wpG_takeB (i := 8) (oi := ⟨some 51, _, _, _, _, _⟩) (v := .slice Ab nb cb) rfl (by kernel_rfl) (by kernel_rfl) (by kernel_rfl) (by decide) (fun _ _ _ h => h) h01 rfl hHeld (Or.inl ⟨by rfl, ?_⟩) ?_
          · (intro W9 hSw; obtain ⟨v1, v2, v3, v4, u1, u2, u3, u4⟩ := hSw; go_simp; (try (first | with_reducible rfl | rfl)))
          try simp only [Act.put, List.setIfInBounds_toArray, List.set_cons_zero, List.set_cons_succ]
          refine wpG_takeB (i := 9) (oi := ⟨some 52, _, _, _, _, _⟩) (v := .int .i64 E) rfl (by kernel_rfl) (by kernel_rfl) (by kernel_rfl) (by decide) (fun _ _ _ h => h) h01 rfl hHeld (Or.inl ⟨by rfl, ?_⟩) ?_
          · (intro W9 hSw; obtain ⟨v1, v2, v3, v4, u1, u2, u3, u4⟩ := hSw; go_simp; (try (first | with_reducible rfl | rfl)))
          try simp only [Act.put, List.setIfInBounds_toArray, List.set_cons_zero, List.set_cons_succ]
          refine wpG_oneB (i := 10) (o := ⟨some 13, _, _, _, _, _⟩) (by kernel_rfl) rfl rfl (fun K hK => ?_)
          go_simp
          have HBa := Lib.hid (show Below w4.heap.size w4 (wq.alloc (.cells #[.int .i64 0, .slice none 0 0, .int .i64 0, .bool false] 37)) from HBq.out.alloc HBq.out.size _)
          have HGa := Lib.hid (Blk.new wq 37 #[.int .i64 0, .slice none 0 0, .int .i64 0, .bool false])
          have H13 := Lib.hid (show w4.heap.size ≤ wq.heap.size from HBq.out.size)
          have HWa := Lib.hid (HWQ.out.over ((Below.refl _ wq).alloc (Nat.le_refl _) (.cells #[.int .i64 0, .slice none 0 0, .int .i64 0, .bool false] 37)))
          obtain ⟨wa, hwa⟩ : ∃ wa, wq.alloc (.cells #[.int .i64 0, .slice none 0 0, .int .i64 0, .bool false] 37) = wa := ⟨_, rfl⟩
          rw [hwa] at HBa HGa HWa ⊢
          clear hwa
          refine hK.out _ _ (HSA.out _ HBa.out) (fun hHeld => ?_)
          clear hK K
          try simp only [Act.put, List.setIfInBounds_toArray, List.set_cons_zero, List.set_cons_succ]
          refine wpG_oneB (i := 11) (o := ⟨none, _, _, _, _, _⟩) (by kernel_rfl) rfl rfl (fun K hK => ?_)
          obtain ⟨t0, t1, t2, t3⟩ := four _ _ _ _ _ _ HGa.out
          obtain ⟨s0, s1, s2, s3⟩ := fourz _ _ _ _ _ _ HGa.out
          go_simp
          have HWf := Lib.hid (HWa.out.set HGa.out (fun z e => by cases e) H13.out (.int .i64 lim) (.slice A2 n2 c2) (.int .i64 (tk2 : Nat)) (.bool cl2))
          have HGf := Lib.hid (set4 HGa.out (.int .i64 lim) (.slice A2 n2 c2) (.int .i64 (tk2 : Nat)) (.bool cl2))
          refine hK.out _ _ (HSA.out _ HWf.out.below) (fun hHeld => ?_)
          clear hK K
          try simp only [Act.put, List.setIfInBounds_toArray, List.set_cons_zero, List.set_cons_succ]
          refine wpG_takeB (i := 12) (oi := ⟨some 14, _, _, _, _, _⟩) (v := .slice Ab nb cb) rfl (by kernel_rfl) (by kernel_rfl) (by kernel_rfl) (by decide) (fun _ _ _ h => h) h01 rfl hHeld (Or.inl ⟨by rfl, ?_⟩) ?_
          · (intro W9 hSw; obtain ⟨v1, v2, v3, v4, u1, u2, u3, u4⟩ := hSw; go_simp; (try (first | with_reducible rfl | rfl)))
          try simp only [Act.put, List.setIfInBounds_toArray, List.set_cons_zero, List.set_cons_succ]
          refine wpG_takeB (i := 13) (oi := ⟨some 15, _, _, _, _, _⟩) (v := .int .i64 E) rfl (by kernel_rfl) (by kernel_rfl) (by kernel_rfl) (by decide) (fun _ _ _ h => h) h01 rfl hHeld (Or.inl ⟨by rfl, ?_⟩) ?_
          · (intro W9 hSw; obtain ⟨v1, v2, v3, v4, u1, u2, u3, u4⟩ := hSw; go_simp; (try (first | with_reducible rfl | rfl)))
          try simp only [Act.put, List.setIfInBounds_toArray, List.set_cons_zero, List.set_cons_succ]
          refine wpG_done (by kernel_rfl) ?_ _
          go_wp2_with fail
          go_meet
          exact ⟨wq.heap.size, A2, n2, c2, tk2, cl2, Ab, nb, cb, rfl, rfl, HE.out ▸ rfl, H13.out, HGf.out, HWf.out⟩
        · go_simp
          have HBx := Lib.hid (show Below w4.heap.size w4 (w4.alloc (.cells #[.int .i64 0, .slice none 0 0, .int .i64 0, .bool false] 37)).drew from below_drew ((Below.refl w4.heap.size w4).alloc (Nat.le_refl _) _))
          have HZ := Lib.hid (show Blk (w4.alloc (.cells #[.int .i64 0, .slice none 0 0, .int .i64 0, .bool false] 37)).drew w4.heap.size 37 #[.int .i64 0, .slice none 0 0, .int .i64 0, .bool false] from (Blk.new w4 37 _).drew)
          have H13 := Lib.hid (show w4.heap.size ≤ w4.heap.size from Nat.le_refl _)
          obtain ⟨wz, hwz⟩ : ∃ wz, (w4.alloc (.cells #[.int .i64 0, .slice none 0 0, .int .i64 0, .bool false] 37)).drew = wz := ⟨_, rfl⟩
          rw [hwz] at HBx HZ ⊢
          clear hwz
          refine hK.out _ _ (HSA.out _ HBx.out) (fun hHeld => ?_)
          clear hK K
          try simp only [Act.put, List.setIfInBounds_toArray, List.set_cons_zero, List.set_cons_succ]
          refine wpG_oneB (i := 5) (o := ⟨some 49, _, _, _, _, _⟩) (by kernel_rfl) rfl rfl (fun K hK => ?_)
          go_simp
          (with_reducible refine (C37.out _ HBx.out).mono ?_); rintro e wq ⟨A2, n2, c2, tk2, cl2, Ab, nb, cb, rfl, hwq⟩
          have HBq := Lib.hid (HBx.out.trans (hwq.below.mono HBx.out.size))
          have HWQ := Lib.hid (hwq.wide HBx.out)
          have hwqb := Lib.hid hwq.below
          clear hwq
          refine hK.out _ _ (HSA.out wq HBq.out) (fun hHeld => ?_)
          have HBa := HBq
          have HGa := Lib.hid (HZ.out.below hwqb.out HZ.out.lt)
          have HWa := HWQ
          obtain ⟨wa, rfl⟩ : ∃ wa : World, wa = wq := ⟨_, rfl⟩
          clear hK K
          try simp only [Act.put, List.setIfInBounds_toArray, List.set_cons_zero, List.set_cons_succ]
          refine wpG_takeB (i := 6) (oi := ⟨some 43, _, _, _, _, _⟩) (v := .tuple #[.agg #[.int .i64 lim, .slice A2 n2 c2, .int .i64 tk2, .bool cl2], .slice Ab nb cb, .int .i64 E]) rfl (by kernel_rfl) (by kernel_rfl) (by kernel_rfl) (by decide) (fun _ _ _ h => h) h01 rfl hHeld (Or.inl ⟨by rfl, ?_⟩) ?_
          · (intro W9 hSw; obtain ⟨v1, v2, v3, v4, u1, u2, u3, u4⟩ := hSw; go_simp; (try (first | with_reducible rfl | rfl)))
          try simp only [Act.put, List.setIfInBounds_toArray, List.set_cons_zero, List.set_cons_succ]
          refine wpG_takeB (i := 7) (oi := ⟨some 50, _, _, _, _, _⟩) (v := .agg #[.int .i64 lim, .slice A2 n2 c2, .int .i64 tk2, .bool cl2]) rfl (by kernel_rfl) (by kernel_rfl) (by kernel_rfl) (by decide) (fun _ _ _ h => h) h01 rfl hHeld (Or.inl ⟨by rfl, ?_⟩) ?_
          · (intro W9 hSw; obtain ⟨v1, v2, v3, v4, u1, u2, u3, u4⟩ := hSw; go_simp; (try (first | with_reducible rfl | rfl)))
          try simp only [Act.put, List.setIfInBounds_toArray, List.set_cons_zero, List.set_cons_succ]
          refine wpG_takeB (i := 8) (oi := ⟨some 51, _, _, _, _, _⟩) (v := .slice Ab nb cb) rfl (by kernel_rfl) (by kernel_rfl) (by kernel_rfl) (by decide) (fun _ _ _ h => h) h01 rfl hHeld (Or.inl ⟨by rfl, ?_⟩) ?_
          · (intro W9 hSw; obtain ⟨v1, v2, v3, v4, u1, u2, u3, u4⟩ := hSw; go_simp; (try (first | with_reducible rfl | rfl)))
          try simp only [Act.put, List.setIfInBounds_toArray, List.set_cons_zero, List.set_cons_succ]
          refine wpG_takeB (i := 9) (oi := ⟨some 52, _, _, _, _, _⟩) (v := .int .i64 E) rfl (by kernel_rfl) (by kernel_rfl) (by kernel_rfl) (by decide) (fun _ _ _ h => h) h01 rfl hHeld (Or.inl ⟨by rfl, ?_⟩) ?_
          · (intro W9 hSw; obtain ⟨v1, v2, v3, v4, u1, u2, u3, u4⟩ := hSw; go_simp; (try (first | with_reducible rfl | rfl)))
          try simp only [Act.put, List.setIfInBounds_toArray, List.set_cons_zero, List.set_cons_succ]
          refine wpG_oneB (i := 11) (o := ⟨none, _, _, _, _, _⟩) (by kernel_rfl) rfl rfl (fun K hK => ?_)
          obtain ⟨t0, t1, t2, t3⟩ := four _ _ _ _ _ _ HGa.out
          obtain ⟨s0, s1, s2, s3⟩ := fourz _ _ _ _ _ _ HGa.out
          go_simp
          have HWf := Lib.hid (HWa.out.set HGa.out (fun z e => by cases e) H13.out (.int .i64 lim) (.slice A2 n2 c2) (.int .i64 (tk2 : Nat)) (.bool cl2))
          have HGf := Lib.hid (set4 HGa.out (.int .i64 lim) (.slice A2 n2 c2) (.int .i64 (tk2 : Nat)) (.bool cl2))
          refine hK.out _ _ (HSA.out _ HWf.out.below) (fun hHeld => ?_)
          clear hK K
          try simp only [Act.put, List.setIfInBounds_toArray, List.set_cons_zero, List.set_cons_succ]
          refine wpG_takeB (i := 12) (oi := ⟨some 14, _, _, _, _, _⟩) (v := .slice Ab nb cb) rfl (by kernel_rfl) (by kernel_rfl) (by kernel_rfl) (by decide) (fun _ _ _ h => h) h01 rfl hHeld (Or.inl ⟨by rfl, ?_⟩) ?_
          · (intro W9 hSw; obtain ⟨v1, v2, v3, v4, u1, u2, u3, u4⟩ := hSw; go_simp; (try (first | with_reducible rfl | rfl)))
          try simp only [Act.put, List.setIfInBounds_toArray, List.set_cons_zero, List.set_cons_succ]
          refine wpG_takeB (i := 13) (oi := ⟨some 15, _, _, _, _, _⟩) (v := .int .i64 E) rfl (by kernel_rfl) (by kernel_rfl) (by kernel_rfl) (by decide) (fun _ _ _ h => h) h01 rfl hHeld (Or.inl ⟨by rfl, ?_⟩) ?_
          · (intro W9 hSw; obtain ⟨v1, v2, v3, v4, u1, u2, u3, u4⟩ := hSw; go_simp; (try (first | with_reducible rfl | rfl)))
          try simp only [Act.put, List.setIfInBounds_toArray, List.set_cons_zero, List.set_cons_succ]
          refine wpG_done (by kernel_rfl) ?_ _
          go_wp2_with fail
          go_meet
          exact ⟨w4.heap.size, A2, n2, c2, tk2, cl2, Ab, nb, cb, rfl, rfl, HE.out ▸ rfl, H13.out, HGf.out, HWf.out⟩
      case rest =>
        obtain ⟨g, A2, n2, c2, tk2, cl2, Ab, nb, cb, rfl, rfl, hE15, hg13, hB13, hW13⟩ := hcut.got
        rw [HE.out] at hE15
        subst hE15
        obtain ⟨wp, rfl⟩ : ∃ wp : World, wp = wc := ⟨_, rfl⟩
        obtain ⟨hw1, hw2, hw3, hw4, hw5, hw6⟩ := hW13
        obtain ⟨all2, hall2⟩ : ∃ x, stAll lim all1 tk1 cl1 X.spec = x := ⟨_, rfl⟩
        obtain ⟨bs2, hbs2⟩ : ∃ x, stB lim all1 tk1 cl1 X.spec = x := ⟨_, rfl⟩
        have HLE := Lib.hid (show all2.length ≤ all1.length + 100 from hall2 ▸ stAll_le (by show X.l.length ≤ 100; have := HX.out.rb.len; have := HXM.out; omega))
        have HTK := Lib.hid (show tk2 ≤ all2.length from by rw [hw2, ← hall2]; exact stTk_le (by have := HKD.out; have := HX.out.k0; omega) (by have := HI.out.o.tn; have := HNL.out; omega))
        rw [hall2] at hw1
        rw [hbs2] at hw4
        have HS2b := Lib.hid (show SS w4 w0.heap.size bs bt bb v2 lim (all2.drop tk2) tk2 cl2 from by have := HS2.out; rw [hall2, ← hw2, ← hw3] at this; exact this)
        have HPO2 := Lib.hid (show w4.ownsRow w3.heap.size 5 1 (.slice Ap kp cp) kp (bs2.map Go.Proofs.Ythkpmbgclllnjaa.u8) from hbs2 ▸ HPO.out)
        have HBL2 := Lib.hid (show bs2.length ≤ all1.length from hbs2 ▸ stB_len)
        have HFR := Lib.hid hw5
        have hkp : (kp : Int) ≤ 906000 := by
          have h1 := HPO2.out.1
          rw [List.length_map] at h1
          have := HBL2.out
          have := HNL.out
          omega
        have HB5 := Lib.hid hw6
        have HR2 := Lib.hid hw1
        have HRb := Lib.hid hw4
        obtain ⟨t0, t1, t2, t3⟩ := four _ _ _ _ _ _ hB13
        obtain ⟨a0, a1, a2, a3⟩ := four _ _ _ _ _ _ (HK1.out.below hw6 HK1.out.lt)
        obtain ⟨z0, z1, z2, z3⟩ := fourz _ _ _ _ _ _ (HK1.out.below hw6 HK1.out.lt)
        clear hw1 hw2 hw3 hw4 hw5 hw6 hB13 hg13 hall2 hbs2 HS2 HPO C37 HSA HS8 hcut
        go_wp2_with fail
        obtain ⟨w5, hw5⟩ : ∃ w5, ((((wp.setCell ⟨w.heap.size, 0, none⟩ (.int .i64 lim)).setCell ⟨w.heap.size, 1, none⟩ (.slice A2 n2 c2)).setCell ⟨w.heap.size, 2, none⟩ (.int .i64 (tk2 : Nat))).setCell ⟨w.heap.size, 3, none⟩ (.bool cl2)) = w5 := ⟨_, rfl⟩
        have HKp := Lib.hid (HK1.out.below HB5.out HK1.out.lt)
        have HOn := Lib.hid (show Only (fun k => k = w.heap.size) wp w5 from hw5 ▸ Only.set (p := fun k => k = w.heap.size) (Only.set (p := fun k => k = w.heap.size) (Only.set (p := fun k => k = w.heap.size) (Only.set (p := fun k => k = w.heap.size) (Only.refl _ _) (fun _ => rfl) 0 _) (fun _ => rfl) 1 _) (fun _ => rfl) 2 _) (fun _ => rfl) 3 _)
        have HK5 := Lib.hid (show Blk w5 w.heap.size 37 #[.int .i64 lim, .slice A2 n2 c2, .int .i64 (tk2 : Nat), .bool cl2] from hw5 ▸ set4 HKp.out _ _ _ _)
        rw [hw5]
        clear hw5 t0 t1 t2 t3 a0 a1 a2 a3 z0 z1 z2 z3
        have HZ5 := Lib.hid ((HK2.out.below HB5.out HK2.out.lt).only HOn.out (show ¬ w.heap.size + 1 = w.heap.size by omega))
        have HR5 := Lib.hid (HR2.out.only HOn.out fun a hA h0 => RB.ne HR2.out h0 hA HKp.out (cs4 _ _ _ _ (fun z e => by cases e)))
        have HRb5 := Lib.hid (HRb.out.only HOn.out fun a hA h0 => RB.ne HRb.out h0 hA HKp.out (cs4 _ _ _ _ (fun z e => by cases e)))
        have HPp := Lib.hid (own_keeps HPO2.out fun k hk => HB5.out.block k (own_lt HPO2.out k hk))
        have HPO5 := Lib.hid (own_only HPp.out HOn.out fun k hk e => own_ne HPp.out HKp.out (by decide) (e ▸ hk))
        have hop : wp.ownsRow wo.heap.size 5 1 (.slice Ao X.m co) X.m (X.l.map Go.Proofs.Ythkpmbgclllnjaa.u8) := own_keeps (own_only HO3.out HF2.out fun k hk hs => by
          rcases hs with e | e | e
          · exact own_ne HO3.out (HI.out.o.ss.below HD3.out).st (by decide) (e ▸ hk)
          · exact own_ne HO3.out (HI.out.o.ss.below HD3.out).buf (by decide) (e ▸ hk)
          · have := (HO3.out.lt k hk).1; have := own_lt HI.out.o.ss.own k e; omega) fun k hk => HB5.out.block k (by have := own_lt HO3.out k hk; have := HF2.out.size; omega)
        have HOp := Lib.hid hop
        have HO5 := Lib.hid (own_only HOp.out HOn.out fun k hk e => own_ne HOp.out HKp.out (by decide) (e ▸ hk))
        have HSp := Lib.hid (HS2b.out.below HB5.out)
        have HS5 := Lib.hid (HSp.out.only HOn.out fun k hk (e : k = w.heap.size) => by
          rcases hk with hk | hk
          · exact HSp.out.src.ne HKp.out (by decide) (hk.symm.trans e)
          · exact HSp.out.notSF HKp.out (by decide) (by decide) (by decide) (e ▸ hk))
        have hrp := own_RB2 HPO5.out
        obtain ⟨S, hS⟩ : ∃ S, (⟨bs2.toArray⟩ : ByteArray) = S := ⟨_, rfl⟩
        have hca := conv_bs (P := Try.prog) w5 22 9 5 Try.underlying22 Try.underlying5 Try.underlying9 (c := cp) hrp.len hrp.h
        have hcb := conv_bs (P := Try.prog) w5 22 9 5 Try.underlying22 Try.underlying5 Try.underlying9 (c := cb) HRb5.out.len HRb5.out.h
        rw [hS] at hca hcb
        clear hS hrp hop
        rw [hca]
        simp only [Result.andThen]
        rw [Oper.upon_value]
        go_wp2_with fail
        clear hca hcb
        have HY5 := Lib.hid (ByteRow.of HPO5.out)
        go_loopw [16] (fun kk wr => ∃ q : Nat, (q : Int) ≤ kp ∧ kk = .int .i64 q ∧ Hid (ByteRow wr w3.heap.size (.slice Ap kp cp) kp) ∧ Hid (w5.grownBy wr (Value.slice Ap kp cp).ownBlock)) (fun kk _ => kp - (intOf kk).toNat)
        case atStart => exact ⟨0, by omega, rfl, HY5, Lib.hid (World.grownBy.refl _ _)⟩
        case round =>
          obtain ⟨q, hq, rfl, HY, HGR⟩ := hrel
          have hq0 : (0 : Int) ≤ q := by omega
          by_cases hlt : (q : Int) < kp
          · obtain ⟨gu, cap, x, hv, hc, hx0, hx1, hf⟩ := HY.out.cell (k := q) (by omega)
            cases hv
            go_wp2_with fail
            go_roundw
            case rel => exact ⟨q + 1, by omega, by go_num, Lib.hid (HY.out.store (by omega) (by omega)), Lib.hid (grown_set HGR.out _ _)⟩
            case measure => simp [intOf]; omega
          · obtain ⟨w6, rfl⟩ : ∃ w6 : World, w6 = wr := ⟨_, rfl⟩
            have hno : ∀ k, (Value.slice Ao X.m co).ownBlock = some k → (Value.slice Ap kp cp).ownBlock ≠ some k := fun k hk e => by
              have := own_lt HO3.out k hk
              have := (HPO2.out.lt k e).1
              omega
            have HO6 := Lib.hid (own_keeps HO5.out fun k hk => HGR.out.block k (own_lt HO5.out k hk) (fun e => hno k hk e.symm))
            have HY6 := Lib.hid (ByteRow.of HO6.out)
            have HNO := Lib.hid hno
            clear hno HY
            go_wp2_with fail
            clear hq0 hq hlt
            go_loopw [17] (fun kk wr => ∃ q : Nat, (q : Int) ≤ X.m ∧ kk = .int .i64 q ∧ Hid (ByteRow wr wo.heap.size (.slice Ao X.m co) X.m) ∧ Hid (w6.grownBy wr (Value.slice Ao X.m co).ownBlock)) (fun kk _ => X.m - (intOf kk).toNat)
            case atStart => exact ⟨0, by omega, rfl, HY6, Lib.hid (World.grownBy.refl _ _)⟩
            case round =>
              obtain ⟨q, hq, rfl, HY, HGQ⟩ := hrel
              have hq0 : (0 : Int) ≤ q := by omega
              by_cases hlt : (q : Int) < X.m
              · obtain ⟨gu, cap, x, hv, hc, hx0, hx1, hf⟩ := HY.out.cell (k := q) (by omega)
                cases hv
                go_wp2_with fail
                go_roundw
                case rel => exact ⟨q + 1, by omega, by go_num, Lib.hid (HY.out.store (by omega) (by omega)), Lib.hid (grown_set HGQ.out _ _)⟩
                case measure => simp [intOf]; omega
              · obtain ⟨w7, rfl⟩ : ∃ w7 : World, w7 = wr := ⟨_, rfl⟩
                have HP7 := Lib.hid (show Only (fun k => (Value.slice Ap kp cp).ownBlock = some k ∨ (Value.slice Ao X.m co).ownBlock = some k) w5 w7 from ((Only.refl _ _).grown HGR.out (fun g hg _ => .inl hg)).grown HGQ.out (fun g hg _ => .inr hg))
                have HA7 := Lib.hid (HR5.out.only HP7.out fun a hA h0 hs => by
                  have hs0 : w4.heap.size ≤ wp.heap.size := HB5.out.size
                  rcases hs with e | e
                  · rcases HFR.out with hf | hf
                    · have h1 := HI.out.o.rb.lt (by have := HNL.out; omega) (hf.1 ▸ hA)
                      have := (HPO2.out.lt _ e).1
                      have := HD3.out.size
                      omega
                    · have := (hf a hA).1
                      have := own_lt HPO2.out _ e
                      omega
                  · rcases HFR.out with hf | hf
                    · have h1 := HI.out.o.rb.lt (by have := HNL.out; omega) (hf.1 ▸ hA)
                      have := (HO3.out.lt _ e).1
                      omega
                    · have := (hf a hA).1
                      have := own_lt HO3.out _ e
                      have := HF2.out.size
                      omega)
                have HS7 := Lib.hid (HS5.out.only HP7.out fun k hk hs => by
                  rcases hs with e | e
                  · rcases hk with rfl | rfl | rfl | hk
                    · exact own_ne HPO5.out HS5.out.src (by decide) e
                    · exact own_ne HPO5.out HS5.out.st (by decide) e
                    · exact own_ne HPO5.out HS5.out.buf (by decide) e
                    · exact HJ2.out k e hk
                  · rcases hk with rfl | rfl | rfl | hk
                    · exact own_ne HO5.out HS5.out.src (by decide) e
                    · exact own_ne HO5.out HS5.out.st (by decide) e
                    · exact own_ne HO5.out HS5.out.buf (by decide) e
                    · have h1 := HO3.out.lt k e
                      rcases HH2.out with h2 | h2
                      · have := own_lt HI.out.o.ss.own k (h2 ▸ hk); omega
                      · have := h2 k hk; omega)
                have HKK := Lib.hid (HK5.out.only HP7.out fun hs => by
                  rcases hs with e | e
                  · exact own_ne HPO5.out HK5.out (by decide) e
                  · exact own_ne HO5.out HK5.out (by decide) e)
                have HKZ := Lib.hid (HZ5.out.only HP7.out fun hs => by
                  rcases hs with e | e
                  · exact own_ne HPO5.out HZ5.out (by decide) e
                  · exact own_ne HO5.out HZ5.out (by decide) e)
                obtain ⟨a0, a1, a2, a3⟩ := four _ _ _ _ _ _ HKK.out
                have C19 := Lib.hid (is_any cl2 HS7.out HA7.out (by have := HTK.out; have := HR2.out.len; omega) (by have := HLE.out; have := HNL.out; have := HR2.out.len; omega))
                clear HY
                go_wp2_with (go_at_call 19; (with_reducible refine C19.out.mono ?_); rintro e w8 ⟨rfl, b8⟩; have HB8 := Lib.hid b8; clear b8)
                go_roundw
                case rel =>
                  have hsz : w.heap.size ≤ wo.heap.size := HI.out.o.only.size
                  have hsf : ∀ k, k < wo.heap.size → SF bt bb v2 k → SF bt bb v1 k := fun k hk hs => HH2.out.sf k (Nat.lt_of_lt_of_le hk HD3.out.size) hs
                  refine ⟨i + 1, v2, A2, n2, c2, all2, tk2, cl2, by have := HLT.out; omega, by go_num, Lib.hid ⟨⟨HS7.out.below HB8.out, HA7.out.below HB8.out, fun a hA => ?_, ?_, ?_, fun a hA h0 hs => ?_, ?_, HI.out.o.hat.trans HH2.out (Nat.le_trans hsz HD3.out.size), ?_⟩, HKK.out.below HB8.out HKK.out.lt, HKZ.out.below HB8.out HKZ.out.lt⟩⟩
                  · rcases HFR.out with hf | hf
                    · exact HI.out.o.sp a (hf.1 ▸ hA)
                    · exact (hf a hA).2
                  · have := HTK.out; have := HR2.out.len; omega
                  · have := HLE.out; have := HNL.out; have := HR2.out.len; have := HI.out.o.nn; omega
                  · rcases HFR.out with hf | hf
                    · have hA1 := hf.1 ▸ hA
                      have h01 : 0 < n1 := by have := HNL.out; omega
                      exact HI.out.o.sep a hA1 h01 (hsf _ (HI.out.o.rb.lt h01 hA1) hs)
                    · have := HS2b.out.lt _ (.inr hs)
                      have := (hf a hA).1
                      omega
                  · have o1 := (HI.out.o.only.below HD3.out).trans HF2.out fun k hk hs => HI.out.o.hat.sf k hk hs
                    have o2 := o1.below HB5.out
                    have o3 := o2.trans HOn.out fun k hk (e : k = w.heap.size) => by omega
                    refine (o3.trans HP7.out fun k hk hs => ?_).below HB8.out
                    rcases hs with e | e
                    · have := (HPO2.out.lt k e).1; have := HD3.out.size; omega
                    · have := (HO3.out.lt k e).1; omega
                  · rcases HFR.out with hf | hf
                    · rcases HI.out.o.fr with hg | hg
                      · exact .inl ⟨hf.1.trans hg.1, hf.2.trans (HNL.out.1.trans hg.2)⟩
                      · exact .inr fun a hA => hg a (hf.1 ▸ hA)
                    · exact .inr fun a hA => by have := (hf a hA).1; have := HD3.out.size; have := HF2.out.size; omega
                case measure => simp [intOf]; omega
    · have HLE := Lib.hid (show i = len by omega)
      have HK1 := Lib.hid HI.out.k1
      have HK2 := Lib.hid HI.out.k2
      obtain ⟨a0, a1, a2, a3⟩ := four _ _ _ _ _ _ HK1.out
      obtain ⟨t0, t1, t2, t3⟩ := four _ _ _ _ _ _ HK2.out
      obtain ⟨z0, z1, z2, z3⟩ := fourz _ _ _ _ _ _ HK2.out
      go_wp2_with fail
      obtain ⟨w5, hw5⟩ : ∃ w5, ((((wo.setCell ⟨w.heap.size + 1, 0, none⟩ (.int .i64 lim)).setCell ⟨w.heap.size + 1, 1, none⟩ (.slice A1 n1 c1)).setCell ⟨w.heap.size + 1, 2, none⟩ (.int .i64 (tk1 : Nat))).setCell ⟨w.heap.size + 1, 3, none⟩ (.bool cl1)) = w5 := ⟨_, rfl⟩
      have HOn := Lib.hid (show Only (fun k => k = w.heap.size + 1) wo w5 from hw5 ▸ Only.set (p := fun k => k = w.heap.size + 1) (Only.set (p := fun k => k = w.heap.size + 1) (Only.set (p := fun k => k = w.heap.size + 1) (Only.set (p := fun k => k = w.heap.size + 1) (Only.refl _ _) (fun _ => rfl) 0 _) (fun _ => rfl) 1 _) (fun _ => rfl) 2 _) (fun _ => rfl) 3 _)
      have HK5 := Lib.hid (show Blk w5 (w.heap.size + 1) 37 #[.int .i64 lim, .slice A1 n1 c1, .int .i64 tk1, .bool cl1] from hw5 ▸ set4 HK2.out _ _ _ _)
      rw [hw5]
      refine bodyPost_ret (v := .tuple #[.agg #[.int .i64 lim, .slice A1 n1 c1, .int .i64 tk1, .bool cl1], .bool true]) (by exact res2 (fn := Try.f17) (p := 6) (u := 7) rfl _ _ (w.heap.size + 1) _ rfl HK5.out rfl) rfl ⟨A1, n1, c1, all1, tk1, cl1, v1, rfl, ?_⟩
      have hnn := HI.out.o.nn
      rw [HLE.out] at hnn
      refine ⟨HI.out.o.ss.only HOn.out fun k hk (e : k = w.heap.size + 1) => ?_, HI.out.o.rb.only HOn.out fun a hA h0 => RB.ne HI.out.o.rb h0 hA HK2.out (cs4 _ _ _ _ (fun z e => by cases e)), HI.out.o.sp, HI.out.o.tn, hnn, HI.out.o.sep, HI.out.o.only.trans HOn.out fun k hk (e : k = w.heap.size + 1) => by omega, HI.out.o.hat, HI.out.o.fr⟩
      rcases hk with hk | hk
      · exact HI.out.o.ss.src.ne HK2.out (by decide) (hk.symm.trans e)
      · exact HI.out.o.ss.notSF HK2.out (by decide) (by decide) (by decide) (e ▸ hk)
end Go.Proofs.Ythkpmbgclllnjaa
