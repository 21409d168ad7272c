/- prefix: a byte of a stream with lengths. delimited$1: a damaged frame. -/
import Derived.Test.YtibkhjpjneoabaaFg
import Derived.Deep.CutRange
namespace Go.Proofs.Ytibkhjpjneoabaa
open Go.RowKit
set_option linter.unusedVariables false
set_option linter.unusedSimpArgs false

/-- What a step returns. -/
def ResV (w w' : World) (o : Option Fr) (e : Ending) : Prop := match o with
  | none => e = .returned (.tuple #[.agg #[.int .i64 0, .slice none 0 0, .int .i64 0], .bool false])
  | some f => ∃ A n cp, e = .returned (.tuple #[.agg #[.int .i64 (f.at_ : Int), .slice A n cp, .int .i64 f.code], .bool true]) ∧ w'.ownsRow w.heap.size 5 1 (.slice A n cp) n (f.bytes.map u8)
/-- What a step does to the reader. -/
structure StepD (w w' : World) (B r : Nat) (k m c : Int) (v v' : Value) (s' : St) : Prop where
  rd : RdS w' B r k m c v' s'
  only : Only (SFo r v) w w'
  hat : Hat v v' w
def Stepped (w : World) (B r : Nat) (k m c : Int) (v : Value) (p : St × Option Fr) (e : Ending) (w' : World) : Prop := ResV w w' p.2 e ∧ ∃ v', StepD w w' B r k m c v v' p.1
section
variable {W W2 w : World} {B r bx : Nat} {k m c : Int} {v v2 : Value} {s : St}
theorem RdS.set_st (h : RdS W B r k m c v s) (z : Int) : RdS (W.setCell ⟨r, 3, none⟩ (.int .i64 z)) B r k m c v { s with st := z } := by
  have hb := h.blk.set_ 3 (.int .i64 z)
  simp only [List.setIfInBounds_toArray, List.set_cons_zero, List.set_cons_succ] at hb
  exact ⟨hb, own_setCell h.own h.ne _, by simpa using h.base, h.nil⟩
theorem RdS.box {cs : Array Value} {x y z : Value} (h : RdS W B r k m c v s) (hb : Blk W bx 44 cs) : RdS (((W.setCell ⟨bx, 0, none⟩ x).setCell ⟨bx, 1, none⟩ y).setCell ⟨bx, 2, none⟩ z) B r k m c v s :=
  h.only (((Only.refl (fun q => q = bx) W).set (fun _ => rfl) 0 x).set (fun _ => rfl) 1 y |>.set (fun _ => rfl) 2 z) fun q hq e => by
    subst e
    rcases hq with e | e
    · exact (h.blk.ne hb (by decide)) e.symm
    · exact own_ne h.own hb (by decide) e
theorem only_set3 {p : Nat → Prop} {x y z : Value} (h : Only p w W) (hb : w.heap.size ≤ bx) : Only p w (((W.setCell ⟨bx, 0, none⟩ x).setCell ⟨bx, 1, none⟩ y).setCell ⟨bx, 2, none⟩ z) := ((h.set (fun h => by omega) 0 x).set (fun h => by omega) 1 y).set (fun h => by omega) 2 z
/-- Behind an append to what the reader holds, and the store. -/
theorem RdS.push {o : Obj} {ys : List UInt8} (h : RdS W B r k m c v s) (hown : W2.ownsRow B 5 1 v2 (s.held.length + ys.length) (s.held.map u8 ++ ys.map u8)) (hg : (W.alloc o).grownBy W2 v.ownBlock) (hat : v2.ownBlock = v.ownBlock ∨ v2.ownBlock = some (W.alloc o).heap.size) (hy : ys ≠ [] := by simp) :
    RdS (W2.setCell ⟨r, 6, none⟩ v2) B r k m c v2 { s with held := s.held ++ ys } ∧ Only (SFo r v) W (W2.setCell ⟨r, 6, none⟩ v2) ∧ Hat v v2 W := by
  have hk := (h.blk.alloc o).grown hg (by have := h.ne; intro e; exact this e.symm)
  have hne : v2.ownBlock ≠ some r := own_ne hown hk (by decide)
  have hon : Only (SFo r v) W W2 := Only.grown (Only.of_below ((Below.refl _ W).alloc (Nat.le_refl _) o)) hg fun g e _ => .inr e
  refine ⟨⟨?_, ?_, ?_, fun e => absurd (List.append_eq_nil_iff.1 e).2 hy⟩, Only.set hon (fun _ => .inl rfl) 6 v2, ?_⟩
  · have := hk.set_ 6 v2
    simp only [List.setIfInBounds_toArray, List.set_cons_zero, List.set_cons_succ] at this
    exact this
  · show (W2.setCell ⟨r, 6, none⟩ v2).ownsRow B 5 1 v2 (s.held ++ ys).length ((s.held ++ ys).map u8)
    rw [List.length_append, List.map_append]
    exact own_setCell hown hne _
  · rw [World.size_setCell]; exact Nat.le_trans h.base hon.size
  · rcases hat with e | e
    · exact .inl e
    · refine .inr fun k hk => ?_
      rw [e] at hk
      cases hk
      simp
end
theorem slice_in3 (W : World) (A : Option Addr) (m c p q : Nat) (l : List UInt8) (h : RB W A m c l) (hp : p ≤ q) (hq : q ≤ m) : ∃ A' c', (∀ W' : World, (Instr.slice 28 (.slice A m c) (some (.int .i64 (p : Int))) (some (.int .i64 (q : Int))) (some (.int .i64 (q : Int)))).run Try.prog W' = .ok (.slice A' (q - p) c') W') ∧ RB W A' (q - p) c' ((l.take q).drop p) ∧ Within A A' := by
  obtain ⟨A', c', e, h1, h2⟩ := sliced_RB W A m c p q q l h hp hq (Nat.le_refl _) (Nat.le_trans hq h.mc) (fun hA => by have := (h.h.2.1 hA).1; omega)
  exact ⟨A', c', fun W' => by rw [run_slice_lhm W' 28 A m c elem22 .i64 .i64 .i64 (p : Int) (q : Int) (q : Int) (by omega) (by omega) (by omega) (by have := h.mc; omega), size22, ← e]; rfl, h1, h2⟩
theorem idxM_0 (m b : Int) (W : World) : (Instr.index 86 (.agg #[.int .i64 m, .int .i64 b]) (.int .i64 0)).run Try.prog W = .ok (.int .i64 m) W := by
  simp [Instr.index, asIntOf, run_underlying Try.underlying86, go_sem]
theorem idxM_1 (m b : Int) (W : World) : (Instr.index 86 (.agg #[.int .i64 m, .int .i64 b]) (.int .i64 1)).run Try.prog W = .ok (.int .i64 b) W := by
  simp [Instr.index, asIntOf, run_underlying Try.underlying86, go_sem]
/-- What Read yields of bytes that it takes. -/
theorem readS_ok {l : List UInt8} (h : (Vr.readS l false).2.2 = 0) : ∃ v j : Nat, Vr.readS l false = ((v : Int), (j : Int), 0) ∧ 1 ≤ j ∧ j ≤ l.length := by
  rcases Vr.ix_cases (l.take 5) with ⟨h1, -⟩ | ⟨j, hj, h1, -⟩
  · by_cases h5 : l.length < 5
    · rw [Vr.readS_short h1 h5] at h; cases h
    · rw [Vr.readS_long h1 (by omega)] at h; cases h
  · by_cases hz : j = 0 ∨ (l.take 5)[j]? ≠ some 0
    · rw [Vr.readS_some h1 (.inr hz)]
      exact ⟨_, j + 1, rfl, by omega, by have := hj; rw [List.length_take] at this; omega⟩
    · rw [Vr.readS_zero h1 (fun e => hz (.inl e)) (Classical.not_not.1 fun e => hz (.inr e))] at h; cases h

set_option maxRecDepth 100000 in
set_option maxHeartbeats 4000000 in
theorem prefix_any (B r : Nat) (k m c : Int) (v : Value) (s : St) (x : UInt8) (w : World) (hF : OkF k m c) (hs : RdS w B r k m c v s) (hl : s.held.length ≤ 40000) :
    Calls Try.prog 33 #[.pointer (some ⟨r, 0, none⟩), Go.Proofs.Ytibkhjpjneoabaa.u8 x] w (Stepped w B r k m c v (preS m c s x)) := by
  obtain ⟨W0, hW0⟩ : ∃ W0, w.alloc (.cells #[.int .i64 0, .slice none 0 0, .int .i64 0] 44) = W0 := ⟨_, rfl⟩
  have hb0 : Below w.heap.size w W0 := hW0 ▸ (Below.refl _ w).alloc (Nat.le_refl _) _
  obtain ⟨bx, hbx⟩ : ∃ bx, w.heap.size = bx := ⟨_, rfl⟩
  have kx : Blk W0 bx 44 #[.int .i64 0, .slice none 0 0, .int .i64 0] := hbx ▸ hW0 ▸ Blk.new w 44 _
  obtain ⟨xi, hxi⟩ : ∃ xi : Int, (x.toNat : Int) = xi := ⟨_, rfl⟩
  have hxi0 : 0 ≤ xi := by omega
  have hxi1 : xi < 256 := by have := x.toNat_lt; omega
  have hxu : [Value.int .u8 xi] = [x].map Go.Proofs.Ytibkhjpjneoabaa.u8 := by rw [← hxi]; rfl
  show Calls Try.prog 33 #[.pointer (some ⟨r, 0, none⟩), .int .u8 (x.toNat : Int)] w _
  rw [hxi]
  have H0 := Lib.hid (hs.below hb0)
  have HF := Lib.hid hF
  have HL := Lib.hid hl
  have HXU := Lib.hid hxu
  have HB0 := Lib.hid hb0
  have HW0 := Lib.hid hW0
  have HBXE := Lib.hid hbx
  have HKX := Lib.hid kx
  obtain ⟨A1, c1, hv⟩ := hs.form
  have k6 : W0.cell? ⟨r, 6, none⟩ = some v := H0.out.blk.cell 6
  have HV := Lib.hid hv
  rw [hv] at k6
  clear hs hF hl hb0 hW0 kx hxi hxu
  go_enter Try.func33, Try.ntmps33
  go_upto_region 1 with fail
  rw [HW0.out]
  clear HW0 hbx hv
  go_wp2_with (at_builtin; go_must (refine wpList_app_own (base := B) (n := s.held.length) (m := 1) (xs := s.held.map Go.Proofs.Ytibkhjpjneoabaa.u8) (news := [.int .u8 xi]) rfl (.tmp 18) (.tmp 20) 28 rfl el22 rfl (own_alloc (HV.out ▸ H0.out.own)) rfl (Holds.one _ _ _) (by simp [Value.oneCell']) (by have := HL.out; unfold maxLen; omega) (by have := HL.out; omega) (by have := H0.out.base; simp; omega) ?_; intro v2 w2 hown hg hat; refine Hid.out ?_))
  refine Lib.hid ?_
  rw [HXU.out] at hown
  rw [← HV.out] at hg hat
  obtain ⟨A2, c2, rfl, -⟩ := own_form hown
  have HP3 := Lib.hid (H0.out.push (ys := [x]) hown hg hat)
  have hk2 := (H0.out.blk.alloc (.cells #[.int .u8 xi] 5)).grown hg (by have := H0.out.ne; intro e; exact this e.symm)
  have HX2 := Lib.hid (show Blk w2 bx 44 #[.int .i64 0, .slice none 0 0, .int .i64 0] from (HKX.out.alloc (.cells #[.int .u8 xi] 5)).grown hg (fun e => own_ne H0.out.own HKX.out (by decide) e.symm))
  have kq : w2.cell? ⟨r, 6, none⟩ = some v := hk2.cell 6
  have zq := hk2.frozen 6
  have HNE := Lib.hid (H0.out.blk.ne HKX.out (by decide))
  clear hown hg hat hk2 k6
  go_upto_region 2 with fail
  obtain ⟨w3, hw3⟩ : ∃ w3, w2.setCell ⟨r, 6, none⟩ (.slice A2 (s.held.length + 1) c2) = w3 := ⟨_, rfl⟩
  have hx3 : Blk w3 bx 44 #[.int .i64 0, .slice none 0 0, .int .i64 0] := hw3 ▸ HX2.out.far (by simpa using fun e => HNE.out e.symm) _
  rw [hw3] at HP3 ⊢
  obtain ⟨h, hh⟩ : ∃ h, s.held ++ [x] = h := ⟨_, rfl⟩
  have hhl : s.held.length + 1 = h.length := by rw [← hh]; simp
  rw [hh, hhl] at HP3
  rw [hhl]
  have HH := Lib.hid hh
  have HHL := Lib.hid (show h.length ≤ 40001 by have := HL.out; omega)
  have H3 := Lib.hid HP3.out.1
  have HON := Lib.hid (Only.trans (p := SFo r v) (Only.of_below HB0.out) HP3.out.2.1 fun b hb x => x)
  have HHAT := Lib.hid (show Hat v (.slice A2 h.length c2) w from by
    rcases HP3.out.2.2 with e | e
    · exact .inl e
    · exact .inr fun q hq => Nat.le_trans HB0.out.size (e q hq))
  have HX3 := Lib.hid hx3
  have k6 : w3.cell? ⟨r, 6, none⟩ = some (.slice A2 h.length c2) := H3.out.blk.cell 6
  have k1 : w3.cell? ⟨r, 1, none⟩ = some (.int .i64 m) := H3.out.blk.cell 1
  have k2 : w3.cell? ⟨r, 2, none⟩ = some (.int .i64 c) := H3.out.blk.cell 2
  have HRB := Lib.hid (own_RB3 H3.out.own)
  have C47 := Lib.hid (Vr.read_any A2 h.length c2 w3.heap.size h false w3 rfl (by have := HHL.out; omega) HRB.out.mc HRB.out.bs)
  clear hw3 hx3 hh hhl kq zq HP3 HX2
  unfold Vr.tup3 at C47
  have HPS := Lib.hid (show preS m c s x = preS m c s x from rfl)
  obtain ⟨PP, hPP⟩ : ∃ PP, preS m c s x = PP := ⟨_, rfl⟩
  have hPD := hPP
  unfold preS at hPD
  simp only [HH.out] at hPD
  have HPP := Lib.hid hPP
  have HE4 := Lib.hid (Vr.readS_e h false)
  have HV0 := Lib.hid (Vr.readS_v0 h false)
  have HOK := Lib.hid (readS_ok (l := h))
  generalize Vr.readS h false = R at *
  obtain ⟨nn, ln, ee⟩ := R
  have HPD := Lib.hid hPD
  clear hPP hPD HPS
  simp only at C47
  clear hxi0 hxi1
  go_wp2_with (go_at_call 47; (with_reducible refine C47.out.mono ?_); rintro e w4 ⟨rfl, rfl⟩; refine Hid.out ?_)
  refine Lib.hid ?_
  go_upto_region 3 with fail
  go_cut [43] from 33 to 42 (fun z wx => ∃ b : Bool, z = .bool b ∧ wx = w3 ∧ Hid (b = decide (ee ≠ 0 ∨ m < nn)))
  case first =>
    by_cases h1 : ee = 0
    · have q0 : (ee != 0) = false := by simpa using h1
      by_cases h2 : m < nn
      · have q2 : decide (m < nn) = true := by simpa using h2
        have HB := Lib.hid (show true = decide (ee ≠ 0 ∨ m < nn) by simp [h2])
        clear h1 h2
        go_wp2_with fail
        go_meet
        exact ⟨true, rfl, rfl, HB⟩
      · have q2 : decide (m < nn) = false := by simpa using h2
        have HB := Lib.hid (show false = decide (ee ≠ 0 ∨ m < nn) by simp [h1, h2])
        clear h1 h2
        go_wp2_with fail
        go_meet
        exact ⟨false, rfl, rfl, HB⟩
    · have q0 : (ee != 0) = true := by simpa using h1
      have HB := Lib.hid (show true = decide (ee ≠ 0 ∨ m < nn) by simp [h1])
      clear h1
      go_wp2_with fail
      go_meet
      exact ⟨true, rfl, rfl, HB⟩
  case rest =>
    obtain ⟨bb, rfl, rfl, hbb⟩ := hcut
    by_cases hT : ee ≠ 0 ∨ m < nn
    · obtain rfl : bb = true := by rw [hbb.out]; simpa using hT
      have HPE := Lib.hid (show (if (Vr.beginsS h false 0 m).1 = true then ({ s with held := h }, none) else if (Vr.beginsS h false 0 34359738367).1 = true then (St.ended { s with st := 2 }, some ⟨s.at_, [], 5⟩) else (St.ended { s with st := 2 }, some ⟨s.at_, [], 6⟩)) = PP from by have := HPD.out; rw [if_pos hT] at this; exact this)
      clear hT hbb C47 k2
      have HWW := Lib.hid (Eq.refl wc)
      go_wp2_with fail
      go_loopw [50] (fun ii wr => ∃ i : Nat, ii = .int .i64 (i : Int) ∧ Hid (i ≤ 2 ∧ Below wc.heap.size wc wr ∧ (1 ≤ i → (Vr.beginsS h false 0 m).1 = false) ∧ (2 ≤ i → (Vr.beginsS h false 0 34359738367).1 = false))) (fun ii _ => 2 - (intOf ii).toNat)
      case atStart => exact ⟨0, rfl, Lib.hid ⟨by omega, Below.refl _ _, fun h => absurd h (by omega), fun h => absurd h (by omega)⟩⟩
      case round =>
        obtain ⟨i, rfl, HI⟩ := hrel
        obtain ⟨wo, rfl⟩ : ∃ wo : World, wo = wr := ⟨_, rfl⟩
        have HBE := Lib.hid HI.out.2.1
        have HR := Lib.hid (H3.out.below HI.out.2.1)
        have HBR := Lib.hid (HX3.out.below HI.out.2.1 HX3.out.lt)
        have HONR := Lib.hid (HON.out.below HI.out.2.1)
        clear k6 k1
        have k6 : wo.cell? ⟨r, 6, none⟩ = some (.slice A2 h.length c2) := HR.out.blk.cell 6
        have k1 : wo.cell? ⟨r, 1, none⟩ = some (.int .i64 m) := HR.out.blk.cell 1
        rcases (show i = 0 ∨ i = 1 ∨ i = 2 by have := HI.out.1; omega) with rfl | rfl | rfl
        · have ix := idxM_0 m 34359738367
          have CB := Lib.hid (Vr.begins_any A2 h.length c2 h false 0 m wo rfl (by have := HHL.out; omega) (own_RB3 HR.out.own).mc (own_RB3 HR.out.own).bs)
          unfold Vr.tupB at CB
          obtain ⟨b1, hb1⟩ : ∃ b1, (Vr.beginsS h false 0 m).1 = b1 := ⟨_, rfl⟩
          have HB1 := Lib.hid hb1
          rw [hb1] at CB
          generalize (Vr.beginsS h false 0 m).2 = e2 at CB
          clear hb1
          go_wp2_with (go_at_call 48; (with_reducible refine CB.out.mono ?_); rintro e wq ⟨rfl, bq⟩; refine Hid.out ?_)
          refine Lib.hid ?_
          have HQ := Lib.hid (HR.out.below bq)
          have HBX := Lib.hid (HBR.out.below bq HBR.out.lt)
          have HONQ := Lib.hid (HONR.out.below bq)
          have HBQ := Lib.hid (HBE.out.trans (bq.mono HBE.out.size))
          have k1q : wq.cell? ⟨r, 1, none⟩ = some (.int .i64 m) := HQ.out.blk.cell 1
          clear bq k1 k6 ix
          cases b1 with
          | true =>
            have HP := Lib.hid (show PP = ({ s with held := h }, none) from by rw [← HPE.out, if_pos HB1.out])
            obtain ⟨g0, g1, g2⟩ : wq.cell? ⟨bx, 0, none⟩ = some (.int .i64 0) ∧ wq.cell? ⟨bx, 1, none⟩ = some (.slice none 0 0) ∧ wq.cell? ⟨bx, 2, none⟩ = some (.int .i64 0) := ⟨HBX.out.cell 0, HBX.out.cell 1, HBX.out.cell 2⟩
            have y0 := HBX.out.frozen 0
            have y1 := HBX.out.frozen 1
            have y2 := HBX.out.frozen 2
            go_wp2_with fail
            refine bodyPost_ret (v := .tuple #[.agg #[.int .i64 0, .slice none 0 0, .int .i64 0], .bool false]) (fr_res rfl rfl rfl (blk_set3 HBX.out)) rfl ?_
            rw [HPP.out, HP.out]
            exact ⟨rfl, _, (HQ.out.box HBX.out), only_set3 HONQ.out (Nat.le_of_eq HBXE.out), HHAT.out⟩
          | false =>
            go_wp2_with fail
            go_roundw
            case rel => exact ⟨1, by go_num, Lib.hid ⟨by omega, HBQ.out, fun _ => HB1.out, fun h => absurd h (by omega)⟩⟩
            case measure => simp [intOf]
        · have ix := idxM_1 m 34359738367
          have CB := Lib.hid (Vr.begins_any A2 h.length c2 h false 0 34359738367 wo rfl (by have := HHL.out; omega) (own_RB3 HR.out.own).mc (own_RB3 HR.out.own).bs)
          unfold Vr.tupB at CB
          obtain ⟨b1, hb1⟩ : ∃ b1, (Vr.beginsS h false 0 34359738367).1 = b1 := ⟨_, rfl⟩
          have HB1 := Lib.hid hb1
          rw [hb1] at CB
          generalize (Vr.beginsS h false 0 34359738367).2 = e2 at CB
          have qm : ((34359738367 : Int) == m) = false := by have := HF.out.m2; simp; omega
          clear hb1
          go_wp2_with (go_at_call 48; (with_reducible refine CB.out.mono ?_); rintro e wq ⟨rfl, bq⟩; refine Hid.out ?_)
          refine Lib.hid ?_
          have HQ := Lib.hid (HR.out.below bq)
          have HBX := Lib.hid (HBR.out.below bq HBR.out.lt)
          have HONQ := Lib.hid (HONR.out.below bq)
          have HBQ := Lib.hid (HBE.out.trans (bq.mono HBE.out.size))
          have k1q : wq.cell? ⟨r, 1, none⟩ = some (.int .i64 m) := HQ.out.blk.cell 1
          clear bq k1 k6 ix
          cases b1 with
          | true =>
            have HP := Lib.hid (show PP = (St.ended { s with st := 2 }, some ⟨s.at_, [], 5⟩) from by rw [← HPE.out, if_neg (by rw [HI.out.2.2.1 (by omega)]; decide), if_pos HB1.out])
            have k3 : wq.cell? ⟨r, 3, none⟩ = some (.int .i64 s.st) := HQ.out.blk.cell 3
            have z3 := HQ.out.blk.frozen 3
            go_upto_region 12 with fail
            obtain ⟨w7, hw7⟩ : ∃ w7, wq.setCell ⟨r, 3, none⟩ (.int .i64 2) = w7 := ⟨_, rfl⟩
            have h7 : RdS w7 B r k m c (.slice A2 h.length c2) { s with held := h, st := 2 } := hw7 ▸ HQ.out.set_st 2
            have b7 : Blk w7 bx 44 #[.int .i64 0, .slice none 0 0, .int .i64 0] := hw7 ▸ HBX.out.far (by simpa using fun e => (HQ.out.blk.ne HBX.out (by decide)) e.symm) _
            have o7 : Only (SFo r v) w w7 := hw7 ▸ HONQ.out.set (fun _ => .inl rfl) 3 _
            rw [hw7]
            have H7 := Lib.hid h7
            have B7 := Lib.hid b7
            have O7 := Lib.hid o7
            have k5 : w7.cell? ⟨r, 5, none⟩ = some (.int .i64 s.at_) := h7.blk.cell 5
            have C49 := Lib.hid (ended_any B r k m c _ _ s.at_ 5 none 0 0 w7 h7)
            clear k3 z3 hw7 h7 b7 o7
            go_wp2_with (go_at_call 49; (with_reducible refine C49.out.mono ?_); rintro e w8 ⟨rfl, h8, o8⟩; refine Hid.out ?_)
            refine Lib.hid ?_
            have b8 := B7.out.only o8 (fun e => (H7.out.blk.ne B7.out (by decide)) e.symm)
            have H8 := Lib.hid h8
            have B8 := Lib.hid b8
            have O8 := Lib.hid (O7.out.trans (o8.mono (q := SFo r v) fun b _ e => .inl e) fun b _ x => x)
            obtain ⟨g0, g1, g2⟩ : w8.cell? ⟨bx, 0, none⟩ = some (.int .i64 0) ∧ w8.cell? ⟨bx, 1, none⟩ = some (.slice none 0 0) ∧ w8.cell? ⟨bx, 2, none⟩ = some (.int .i64 0) := ⟨b8.cell 0, b8.cell 1, b8.cell 2⟩
            have y0 := b8.frozen 0
            have y1 := b8.frozen 1
            have y2 := b8.frozen 2
            clear h8 o8 b8 k5
            go_wp2_with fail
            refine bodyPost_ret (v := .tuple #[.agg #[.int .i64 (s.at_ : Int), .slice none 0 0, .int .i64 5], .bool true]) (fr_res rfl rfl rfl (blk_set3 B8.out)) rfl ?_
            rw [HPP.out, HP.out]
            exact ⟨⟨none, 0, 0, rfl, World.ownsRow_nil _ _ 5 1⟩, .slice none 0 0, (H8.out.box B8.out), only_set3 O8.out (Nat.le_of_eq HBXE.out), .inr fun _ e => by cases e⟩
          | false =>
            go_wp2_with fail
            go_roundw
            case rel => exact ⟨2, by go_num, Lib.hid ⟨by omega, HBQ.out, fun _ => HI.out.2.2.1 (by omega), fun _ => HB1.out⟩⟩
            case measure => simp [intOf]
        · have HP := Lib.hid (show PP = (St.ended { s with st := 2 }, some ⟨s.at_, [], 6⟩) from by rw [← HPE.out, if_neg (by rw [HI.out.2.2.1 (by omega)]; decide), if_neg (by rw [HI.out.2.2.2 (by omega)]; decide)])
          have HQ := HR
          have HBX := HBR
          have HONQ := HONR
          have k3 : wo.cell? ⟨r, 3, none⟩ = some (.int .i64 s.st) := HQ.out.blk.cell 3
          have z3 := HQ.out.blk.frozen 3
          go_upto_region 15 with fail
          obtain ⟨w7, hw7⟩ : ∃ w7, wo.setCell ⟨r, 3, none⟩ (.int .i64 2) = w7 := ⟨_, rfl⟩
          have h7 : RdS w7 B r k m c (.slice A2 h.length c2) { s with held := h, st := 2 } := hw7 ▸ HQ.out.set_st 2
          have b7 : Blk w7 bx 44 #[.int .i64 0, .slice none 0 0, .int .i64 0] := hw7 ▸ HBX.out.far (by simpa using fun e => (HQ.out.blk.ne HBX.out (by decide)) e.symm) _
          have o7 : Only (SFo r v) w w7 := hw7 ▸ HONQ.out.set (fun _ => .inl rfl) 3 _
          rw [hw7]
          have H7 := Lib.hid h7
          have B7 := Lib.hid b7
          have O7 := Lib.hid o7
          have k5 : w7.cell? ⟨r, 5, none⟩ = some (.int .i64 s.at_) := h7.blk.cell 5
          have C49 := Lib.hid (ended_any B r k m c _ _ s.at_ 6 none 0 0 w7 h7)
          clear k3 z3 hw7 h7 b7 o7
          go_wp2_with (go_at_call 49; (with_reducible refine C49.out.mono ?_); rintro e w8 ⟨rfl, h8, o8⟩; refine Hid.out ?_)
          refine Lib.hid ?_
          have b8 := B7.out.only o8 (fun e => (H7.out.blk.ne B7.out (by decide)) e.symm)
          have H8 := Lib.hid h8
          have B8 := Lib.hid b8
          have O8 := Lib.hid (O7.out.trans (o8.mono (q := SFo r v) fun b _ e => .inl e) fun b _ x => x)
          obtain ⟨g0, g1, g2⟩ : w8.cell? ⟨bx, 0, none⟩ = some (.int .i64 0) ∧ w8.cell? ⟨bx, 1, none⟩ = some (.slice none 0 0) ∧ w8.cell? ⟨bx, 2, none⟩ = some (.int .i64 0) := ⟨b8.cell 0, b8.cell 1, b8.cell 2⟩
          have y0 := b8.frozen 0
          have y1 := b8.frozen 1
          have y2 := b8.frozen 2
          clear h8 o8 b8 k5
          go_wp2_with fail
          refine bodyPost_ret (v := .tuple #[.agg #[.int .i64 (s.at_ : Int), .slice none 0 0, .int .i64 6], .bool true]) (fr_res rfl rfl rfl (blk_set3 B8.out)) rfl ?_
          rw [HPP.out, HP.out]
          exact ⟨⟨none, 0, 0, rfl, World.ownsRow_nil _ _ 5 1⟩, .slice none 0 0, (H8.out.box B8.out), only_set3 O8.out (Nat.le_of_eq HBXE.out), .inr fun _ e => by cases e⟩
    · obtain rfl : bb = false := by rw [hbb.out]; simpa using hT
      have hn : ee = 0 ∧ ¬ m < nn := ⟨Classical.not_not.1 fun e => hT (.inl e), fun e => hT (.inr e)⟩
      obtain ⟨vN, jN, he, hj1, hj2⟩ := HOK.out hn.1
      injection he with e1 e2
      injection e2 with e2 e3
      subst e1 e2
      have HPE := Lib.hid (show (if (h.length : Int) < (jN : Int) + (vN : Int) + (tailN c : Int) then ({ s with held := h }, none) else (s.ended, some (openS c s.at_ ((h.drop jN).take (vN + tailN c))))) = PP from by have := HPD.out; rw [if_neg hT] at this; exact this)
      have hv4 : (vN : Int) ≤ 4096 := by have := HF.out.m2; have := hn.2; omega
      have hj4 : (jN : Int) ≤ 40001 := by have := HHL.out; omega
      have ht4 : (tailN c : Int) ≤ 4 := by have := tailN_le c; omega
      have hh4 : (h.length : Int) ≤ 40001 := by have := HHL.out; omega
      have HJ2 := Lib.hid hj2
      have C29 := Lib.hid (sum_any c HF.out.c1 HF.out.c2 none 0 0 [] wc (RB.nil wc) (by omega))
      clear hn hT hbb hj1 hj2 C47 e3 k1 HOK HE4 HV0 HPD
      go_wp2_with (go_at_call 29; (with_reducible refine C29.out.mono ?_); rintro e w5 ⟨A9, c9, rfl, -, b5⟩; refine Hid.out ?_)
      refine Lib.hid ?_
      have HQ := Lib.hid (H3.out.below b5)
      have HBX := Lib.hid (HX3.out.below b5 HX3.out.lt)
      have HONQ := Lib.hid (HON.out.below b5)
      clear b5 k6 k2
      have k6 : w5.cell? ⟨r, 6, none⟩ = some (.slice A2 h.length c2) := HQ.out.blk.cell 6
      by_cases hw : (h.length : Int) < (jN : Int) + (vN : Int) + (tailN c : Int)
      · have HP := Lib.hid (show PP = ({ s with held := h }, none) from by rw [← HPE.out, if_pos hw])
        obtain ⟨g0, g1, g2⟩ : w5.cell? ⟨bx, 0, none⟩ = some (.int .i64 0) ∧ w5.cell? ⟨bx, 1, none⟩ = some (.slice none 0 0) ∧ w5.cell? ⟨bx, 2, none⟩ = some (.int .i64 0) := ⟨HBX.out.cell 0, HBX.out.cell 1, HBX.out.cell 2⟩
        have y0 := HBX.out.frozen 0
        have y1 := HBX.out.frozen 1
        have y2 := HBX.out.frozen 2
        go_wp2_with fail
        refine bodyPost_ret (v := .tuple #[.agg #[.int .i64 0, .slice none 0 0, .int .i64 0], .bool false]) (fr_res rfl rfl rfl (blk_set3 HBX.out)) rfl ?_
        rw [HPP.out, HP.out]
        exact ⟨rfl, _, (HQ.out.box HBX.out), only_set3 HONQ.out (Nat.le_of_eq HBXE.out), HHAT.out⟩
      · have HP := Lib.hid (show PP = (s.ended, some (openS c s.at_ ((h.drop jN).take (vN + tailN c)))) from by rw [← HPE.out, if_neg hw])
        obtain ⟨qq, hqq⟩ : ∃ qq, jN + vN + tailN c = qq := ⟨_, rfl⟩
        have hqi : (jN : Int) + (vN : Int) + (tailN c : Int) = (qq : Int) := by omega
        obtain ⟨A6, c6, hsl, hr6, -⟩ := slice_in3 w5 A2 h.length c2 jN qq h (own_RB3 HQ.out.own) (by omega) (by omega)
        have hdt : (h.take qq).drop jN = (h.drop jN).take (vN + tailN c) := by rw [List.drop_take]; congr 1; omega
        rw [hdt] at hr6
        have hqn : (qq : Int) ≤ 50000 := by omega
        have C50 := Lib.hid (opened_any r c s.at_ HF.out.c1 HF.out.c2 A6 (qq - jN) c6 ((h.drop jN).take (vN + tailN c)) w5 HQ.out.rdc hr6 (by omega))
        have HBW := Lib.hid (HON.out.size)
        clear hqq hr6 hdt
        rw [hqi] at hw
        go_wp2_with (go_at_call 50; (with_reducible refine C50.out.mono ?_); rintro e w6 ⟨A7, n7, c7, rfl, ho7, b6⟩; refine Hid.out ?_)
        refine Lib.hid ?_
        have HQ6 := Lib.hid (HQ.out.below b6)
        have HBX6 := Lib.hid (HBX.out.below b6 HBX.out.lt)
        have HON6 := Lib.hid (HONQ.out.below b6)
        have HO7 := Lib.hid ho7
        have HS6 := Lib.hid (show w.heap.size ≤ w5.heap.size from HONQ.out.size)
        generalize openS c s.at_ ((h.drop jN).take (vN + tailN c)) = fr at *
        have C49 := Lib.hid (ended_any B r k m c _ _ fr.at_ fr.code A7 n7 c7 w6 HQ6.out)
        clear ho7 b6 k6 hsl hqi hqn hw hv4 hj4 ht4 hh4
        go_wp2_with (go_at_call 49; (with_reducible refine C49.out.mono ?_); rintro e w8 ⟨rfl, h8, o8⟩; refine Hid.out ?_)
        refine Lib.hid ?_
        have b8 := HBX6.out.only o8 (fun e => HNE.out e.symm)
        have H8 := Lib.hid h8
        have B8 := Lib.hid b8
        have O8 := Lib.hid (HON6.out.trans (o8.mono (q := SFo r v) fun b _ e => .inl e) fun b _ x => x)
        have HO8 := Lib.hid (own_only HO7.out o8 fun q hq e => own_ne HO7.out HQ6.out.blk (by decide) (e ▸ hq))
        obtain ⟨g0, g1, g2⟩ : w8.cell? ⟨bx, 0, none⟩ = some (.int .i64 0) ∧ w8.cell? ⟨bx, 1, none⟩ = some (.slice none 0 0) ∧ w8.cell? ⟨bx, 2, none⟩ = some (.int .i64 0) := ⟨b8.cell 0, b8.cell 1, b8.cell 2⟩
        have y0 := b8.frozen 0
        have y1 := b8.frozen 1
        have y2 := b8.frozen 2
        clear h8 o8 b8
        go_wp2_with fail
        refine bodyPost_ret (v := .tuple #[.agg #[.int .i64 (fr.at_ : Int), .slice A7 n7 c7, .int .i64 fr.code], .bool true]) (fr_res rfl rfl rfl (blk_set3 B8.out)) rfl ?_
        rw [HPP.out, HP.out]
        have hne := own_ne HO8.out B8.out (by decide)
        exact ⟨⟨A7, n7, c7, rfl, own_base (own_setCell (own_setCell (own_setCell HO8.out hne _) hne _) hne _) HS6.out⟩, .slice none 0 0, (H8.out.box B8.out), only_set3 O8.out (Nat.le_of_eq HBXE.out), .inr fun _ e => by cases e⟩
end Go.Proofs.Ytibkhjpjneoabaa

namespace Go.Proofs.Ytibkhjpjneoabaa
open Go.RowKit
set_option linter.unusedVariables false
set_option linter.unusedSimpArgs false

/-- The cells that a damage reads. -/
def DmR (br r : Nat) (a : Nat) (W : World) : Prop := W.cell? ⟨br, 0, none⟩ = some (.pointer (some ⟨r, 0, none⟩)) ∧ W.cell? ⟨r, 5, none⟩ = some (.int .i64 (a : Int))

set_option maxRecDepth 100000 in
set_option maxHeartbeats 2000000 in
theorem damaged_any (B r bc br : Nat) (k m c : Int) (v : Value) (s : St) (x : UInt8) (code : Int) (w : World) (hs : RdS w B r k m c v s) (hc : Blk w bc 5 #[Go.Proofs.Ytibkhjpjneoabaa.u8 x]) (hg : Blk w br 37 #[.pointer (some ⟨r, 0, none⟩)]) :
    Calls Try.prog 51 #[.int .i64 code, .pointer (some ⟨bc, 0, none⟩), .pointer (some ⟨br, 0, none⟩)] w (Stepped w B r k m c v (damS s x code)) := by
  obtain ⟨W0, hW0⟩ : ∃ W0, w.alloc (.cells #[.int .i64 0, .slice none 0 0, .int .i64 0] 44) = W0 := ⟨_, rfl⟩
  have hb0 : Below w.heap.size w W0 := hW0 ▸ (Below.refl _ w).alloc (Nat.le_refl _) _
  obtain ⟨bx, hbx⟩ : ∃ bx, w.heap.size = bx := ⟨_, rfl⟩
  have kx : Blk W0 bx 44 #[.int .i64 0, .slice none 0 0, .int .i64 0] := hbx ▸ hW0 ▸ Blk.new w 44 _
  obtain ⟨xi, hxi⟩ : ∃ xi : Int, (x.toNat : Int) = xi := ⟨_, rfl⟩
  have H0 := Lib.hid (hs.below hb0)
  have HC0 := Lib.hid (hc.below hb0 hc.lt)
  have HG0 := Lib.hid (hg.below hb0 hg.lt)
  have HB0 := Lib.hid hb0
  have HW0 := Lib.hid hW0
  have HBXE := Lib.hid hbx
  have HX0 := Lib.hid kx
  have HXI := Lib.hid hxi
  have HNE := Lib.hid (H0.out.blk.ne kx (by decide))
  have HNG := Lib.hid (H0.out.blk.ne HG0.out (by decide))
  have kc : W0.cell? ⟨bc, 0, none⟩ = some (.int .u8 xi) := by rw [← hxi]; exact HC0.out.cell 0
  have kg : W0.cell? ⟨br, 0, none⟩ = some (.pointer (some ⟨r, 0, none⟩)) := HG0.out.cell 0
  have k3 : W0.cell? ⟨r, 3, none⟩ = some (.int .i64 s.st) := H0.out.blk.cell 3
  have z3 := H0.out.blk.frozen 3
  clear hs hc hg hb0 hW0 kx hxi
  go_enter Try.func51, Try.ntmps51
  go_upto_region 1 with fail
  rw [HW0.out]
  clear HW0 hbx
  by_cases h6 : x = 126
  · have q : (xi != 126) = false := by subst h6; rw [← HXI.out]; rfl
    have HP := Lib.hid (show damS s x code = (s.ended, some ⟨s.at_, [], code⟩) by unfold damS; rw [if_pos h6])
    clear h6
    go_upto_region 3 with fail
    have HR2 := H0
    have HX2 := HX0
    have HG2 := HG0
    have HON2 := Lib.hid (Only.of_below (p := SFo r v) HB0.out)
    have HS3 := Lib.hid (show DmR br r s.at_ W0.drew from ⟨HG2.out.cell 0, HR2.out.blk.cell 5⟩)
    clear q kc kg k3 z3
    refine wp_region_G (S0 := (DmR br r s.at_)) (S1 := (fun _ => True)) (c := 10) (by kernel_rfl) ?_
    have hHeld := HS3.out
    have h01 := (fun (W : World) (h : (DmR br r s.at_) W) => trivial)
    refine wpG_take0 (i := 0) (oi := ⟨some 11, _, _, _, _, _⟩) (v := .pointer (some ⟨r, 0, none⟩)) rfl (by kernel_rfl) (by kernel_rfl) (by kernel_rfl) (by decide) (by kernel_rfl) (fun _ _ _ h => h) rfl hHeld (Or.inl ⟨by rfl, ?_⟩) ?_
    · (intro W9 hSw; obtain ⟨v1, v2⟩ := hSw; go_simp; (try (first | with_reducible rfl | rfl)))
    try simp only [Act.put, List.setIfInBounds_toArray, List.set_cons_zero, List.set_cons_succ]
    refine wpG_take0 (i := 1) (oi := ⟨some 12, _, _, _, _, _⟩) (v := .pointer (some ⟨r, 0, none⟩)) rfl (by kernel_rfl) (by kernel_rfl) (by kernel_rfl) (by decide) (by kernel_rfl) (fun _ _ _ h => h) rfl hHeld (Or.inl ⟨by rfl, ?_⟩) ?_
    · (intro W9 hSw; obtain ⟨v1, v2⟩ := hSw; go_simp; (try (first | with_reducible rfl | rfl)))
    try simp only [Act.put, List.setIfInBounds_toArray, List.set_cons_zero, List.set_cons_succ]
    refine wpG_take0 (i := 2) (oi := ⟨some 13, _, _, _, _, _⟩) (v := .pointer (some ⟨r, 0, none⟩)) rfl (by kernel_rfl) (by kernel_rfl) (by kernel_rfl) (by decide) (by kernel_rfl) (fun _ _ _ h => h) rfl hHeld (Or.inl ⟨by rfl, ?_⟩) ?_
    · (intro W9 hSw; obtain ⟨v1, v2⟩ := hSw; go_simp; (try (first | with_reducible rfl | rfl)))
    try simp only [Act.put, List.setIfInBounds_toArray, List.set_cons_zero, List.set_cons_succ]
    refine wpG_take0 (i := 3) (oi := ⟨some 14, _, _, _, _, _⟩) (v := .pointer (some ⟨r, 5, none⟩)) rfl (by kernel_rfl) (by kernel_rfl) (by kernel_rfl) (by decide) (by kernel_rfl) (fun _ _ _ h => h) rfl hHeld (Or.inl ⟨by rfl, ?_⟩) ?_
    · (intro W9 hSw; obtain ⟨v1, v2⟩ := hSw; go_simp; (try (first | with_reducible rfl | rfl)))
    try simp only [Act.put, List.setIfInBounds_toArray, List.set_cons_zero, List.set_cons_succ]
    refine wpG_take0 (i := 4) (oi := ⟨some 15, _, _, _, _, _⟩) (v := .int .i64 (s.at_ : Int)) rfl (by kernel_rfl) (by kernel_rfl) (by kernel_rfl) (by decide) (by kernel_rfl) (fun _ _ _ h => h) rfl hHeld (Or.inl ⟨by rfl, ?_⟩) ?_
    · (intro W9 hSw; obtain ⟨v1, v2⟩ := hSw; go_simp; (try (first | with_reducible rfl | rfl)))
    try simp only [Act.put, List.setIfInBounds_toArray, List.set_cons_zero, List.set_cons_succ]
    refine wpG_take0 (i := 5) (oi := ⟨some 16, _, _, _, _, _⟩) (v := .int .i64 code) rfl (by kernel_rfl) (by kernel_rfl) (by kernel_rfl) (by decide) (by kernel_rfl) (fun _ _ _ h => h) rfl hHeld (Or.inl ⟨by rfl, ?_⟩) ?_
    · (intro W9 hSw; obtain ⟨v1, v2⟩ := hSw; go_simp; (try (first | with_reducible rfl | rfl)))
    try simp only [Act.put, List.setIfInBounds_toArray, List.set_cons_zero, List.set_cons_succ]
    refine wpG_take0 (i := 6) (oi := ⟨some 17, _, _, _, _, _⟩) (v := .agg #[.int .i64 (s.at_ : Int), .slice none 0 0, .int .i64 code]) rfl (by kernel_rfl) (by kernel_rfl) (by kernel_rfl) (by decide) (by kernel_rfl) (fun _ _ _ h => h) rfl hHeld (Or.inl ⟨by rfl, ?_⟩) ?_
    · (intro W9 hSw; obtain ⟨v1, v2⟩ := hSw; go_simp; (try (first | with_reducible rfl | rfl)))
    try simp only [Act.put, List.setIfInBounds_toArray, List.set_cons_zero, List.set_cons_succ]
    refine wpG_oneA (i := 7) (o := ⟨some 18, _, _, _, _, _⟩) (by kernel_rfl) rfl rfl (fun K hK => ?_)
    go_simp
    (with_reducible refine (ended_any B r k m c v s s.at_ code none 0 0 W0.drew (HR2.out.below (below_drew (Below.refl _ _)))).mono ?_); rintro e w8 ⟨rfl, h8, o8⟩
    have H8 := Lib.hid h8
    have O8 := Lib.hid (Only.trans (Only.of_below (p := fun q => q = r) (below_drew (Below.refl _ W0))) o8 fun b hb e => e)
    have B8 := Lib.hid (HX2.out.only O8.out (fun e => HNE.out e.symm))
    have G8 := Lib.hid (HG2.out.only O8.out (fun e => HNG.out e.symm))
    clear h8 o8
    refine hK.out _ _ ⟨G8.out.cell 0, H8.out.blk.cell 5⟩ (fun hHeld => ?_)
    clear hK K
    try simp only [Act.put, List.setIfInBounds_toArray, List.set_cons_zero, List.set_cons_succ]
    refine wpG_takeA (i := 8) (oi := ⟨some 19, _, _, _, _, _⟩) (v := .agg #[.int .i64 (s.at_ : Int), .slice none 0 0, .int .i64 code]) rfl (by kernel_rfl) (by kernel_rfl) (by kernel_rfl) (by decide) (fun _ _ _ h => h) h01 rfl hHeld (Or.inl ⟨by rfl, ?_⟩) ?_
    · (intro W9 hSw; go_simp; (try (first | with_reducible rfl | rfl)))
    try simp only [Act.put, List.setIfInBounds_toArray, List.set_cons_zero, List.set_cons_succ]
    refine wpG_takeA (i := 9) (oi := ⟨some 20, _, _, _, _, _⟩) (v := .bool true) rfl (by kernel_rfl) (by kernel_rfl) (by kernel_rfl) (by decide) (fun _ _ _ h => h) h01 rfl hHeld (Or.inl ⟨by rfl, ?_⟩) ?_
    · (intro W9 hSw; go_simp; (try (first | with_reducible rfl | rfl)))
    try simp only [Act.put, List.setIfInBounds_toArray, List.set_cons_zero, List.set_cons_succ]
    refine wpG_oneB (i := 10) (o := ⟨none, _, _, _, _, _⟩) (by kernel_rfl) rfl rfl (fun K hK => ?_)
    obtain ⟨g0, g1, g2⟩ : w8.cell? ⟨bx, 0, none⟩ = some (.int .i64 0) ∧ w8.cell? ⟨bx, 1, none⟩ = some (.slice none 0 0) ∧ w8.cell? ⟨bx, 2, none⟩ = some (.int .i64 0) := ⟨B8.out.cell 0, B8.out.cell 1, B8.out.cell 2⟩
    have y0 := B8.out.frozen 0
    have y1 := B8.out.frozen 1
    have y2 := B8.out.frozen 2
    go_simp
    refine hK.out _ _ trivial (fun hHeld => ?_)
    clear hK K
    try simp only [Act.put, List.setIfInBounds_toArray, List.set_cons_zero, List.set_cons_succ]
    refine wpG_takeB (i := 11) (oi := ⟨some 5, _, _, _, _, _⟩) (v := .bool true) rfl (by kernel_rfl) (by kernel_rfl) (by kernel_rfl) (by decide) (fun _ _ _ h => h) h01 rfl hHeld (Or.inl ⟨by rfl, ?_⟩) ?_
    · (intro W9 hSw; go_simp; (try (first | with_reducible rfl | rfl)))
    try simp only [Act.put, List.setIfInBounds_toArray, List.set_cons_zero, List.set_cons_succ]
    refine wpG_done (by kernel_rfl) ?_ _
    clear hHeld h01
    go_wp2_with fail
    refine bodyPost_ret (v := .tuple #[.agg #[.int .i64 (s.at_ : Int), .slice none 0 0, .int .i64 code], .bool true]) (fr_res rfl rfl rfl (blk_set3 B8.out)) rfl ?_
    rw [HP.out]
    exact ⟨⟨none, 0, 0, rfl, World.ownsRow_nil _ _ 5 1⟩, .slice none 0 0, (H8.out.box B8.out), only_set3 (HON2.out.trans (O8.out.mono (q := SFo r v) fun b _ e => .inl e) fun b _ x => x) (Nat.le_of_eq HBXE.out), .inr fun _ e => by cases e⟩
  · have q : (xi != 126) = true := by
      rw [← HXI.out]
      simp
      intro e
      exact h6 (UInt8.toNat_inj.1 (by show x.toNat = 126; omega))
    have HP := Lib.hid (show damS s x code = (St.ended { s with st := 1 }, some ⟨s.at_, [], code⟩) by unfold damS; rw [if_neg h6])
    clear h6
    go_upto_region 3 with fail
    obtain ⟨w2, hw2⟩ : ∃ w2, W0.setCell ⟨r, 3, none⟩ (.int .i64 1) = w2 := ⟨_, rfl⟩
    have HR2 := Lib.hid (show RdS w2 B r k m c v { s with st := 1 } from hw2 ▸ H0.out.set_st 1)
    have HX2 := Lib.hid (show Blk w2 bx 44 #[.int .i64 0, .slice none 0 0, .int .i64 0] from hw2 ▸ HX0.out.far (by simpa using fun e => HNE.out e.symm) _)
    have HG2 := Lib.hid (show Blk w2 br 37 #[.pointer (some ⟨r, 0, none⟩)] from hw2 ▸ HG0.out.far (by simpa using fun e => HNG.out e.symm) _)
    have HON2 := Lib.hid (show Only (SFo r v) w w2 from hw2 ▸ (Only.of_below (p := SFo r v) HB0.out).set (fun _ => .inl rfl) 3 _)
    have HS3 := Lib.hid (show DmR br r s.at_ w2.drew from ⟨HG2.out.cell 0, HR2.out.blk.cell 5⟩)
    rw [hw2]
    clear hw2 q kc kg k3 z3
    refine wp_region_G (S0 := (DmR br r s.at_)) (S1 := (fun _ => True)) (c := 10) (by kernel_rfl) ?_
    have hHeld := HS3.out
    have h01 := (fun (W : World) (h : (DmR br r s.at_) W) => trivial)
    refine wpG_take0 (i := 0) (oi := ⟨some 11, _, _, _, _, _⟩) (v := .pointer (some ⟨r, 0, none⟩)) rfl (by kernel_rfl) (by kernel_rfl) (by kernel_rfl) (by decide) (by kernel_rfl) (fun _ _ _ h => h) rfl hHeld (Or.inl ⟨by rfl, ?_⟩) ?_
    · (intro W9 hSw; obtain ⟨v1, v2⟩ := hSw; go_simp; (try (first | with_reducible rfl | rfl)))
    try simp only [Act.put, List.setIfInBounds_toArray, List.set_cons_zero, List.set_cons_succ]
    refine wpG_take0 (i := 1) (oi := ⟨some 12, _, _, _, _, _⟩) (v := .pointer (some ⟨r, 0, none⟩)) rfl (by kernel_rfl) (by kernel_rfl) (by kernel_rfl) (by decide) (by kernel_rfl) (fun _ _ _ h => h) rfl hHeld (Or.inl ⟨by rfl, ?_⟩) ?_
    · (intro W9 hSw; obtain ⟨v1, v2⟩ := hSw; go_simp; (try (first | with_reducible rfl | rfl)))
    try simp only [Act.put, List.setIfInBounds_toArray, List.set_cons_zero, List.set_cons_succ]
    refine wpG_take0 (i := 2) (oi := ⟨some 13, _, _, _, _, _⟩) (v := .pointer (some ⟨r, 0, none⟩)) rfl (by kernel_rfl) (by kernel_rfl) (by kernel_rfl) (by decide) (by kernel_rfl) (fun _ _ _ h => h) rfl hHeld (Or.inl ⟨by rfl, ?_⟩) ?_
    · (intro W9 hSw; obtain ⟨v1, v2⟩ := hSw; go_simp; (try (first | with_reducible rfl | rfl)))
    try simp only [Act.put, List.setIfInBounds_toArray, List.set_cons_zero, List.set_cons_succ]
    refine wpG_take0 (i := 3) (oi := ⟨some 14, _, _, _, _, _⟩) (v := .pointer (some ⟨r, 5, none⟩)) rfl (by kernel_rfl) (by kernel_rfl) (by kernel_rfl) (by decide) (by kernel_rfl) (fun _ _ _ h => h) rfl hHeld (Or.inl ⟨by rfl, ?_⟩) ?_
    · (intro W9 hSw; obtain ⟨v1, v2⟩ := hSw; go_simp; (try (first | with_reducible rfl | rfl)))
    try simp only [Act.put, List.setIfInBounds_toArray, List.set_cons_zero, List.set_cons_succ]
    refine wpG_take0 (i := 4) (oi := ⟨some 15, _, _, _, _, _⟩) (v := .int .i64 (s.at_ : Int)) rfl (by kernel_rfl) (by kernel_rfl) (by kernel_rfl) (by decide) (by kernel_rfl) (fun _ _ _ h => h) rfl hHeld (Or.inl ⟨by rfl, ?_⟩) ?_
    · (intro W9 hSw; obtain ⟨v1, v2⟩ := hSw; go_simp; (try (first | with_reducible rfl | rfl)))
    try simp only [Act.put, List.setIfInBounds_toArray, List.set_cons_zero, List.set_cons_succ]
    refine wpG_take0 (i := 5) (oi := ⟨some 16, _, _, _, _, _⟩) (v := .int .i64 code) rfl (by kernel_rfl) (by kernel_rfl) (by kernel_rfl) (by decide) (by kernel_rfl) (fun _ _ _ h => h) rfl hHeld (Or.inl ⟨by rfl, ?_⟩) ?_
    · (intro W9 hSw; obtain ⟨v1, v2⟩ := hSw; go_simp; (try (first | with_reducible rfl | rfl)))
    try simp only [Act.put, List.setIfInBounds_toArray, List.set_cons_zero, List.set_cons_succ]
    refine wpG_take0 (i := 6) (oi := ⟨some 17, _, _, _, _, _⟩) (v := .agg #[.int .i64 (s.at_ : Int), .slice none 0 0, .int .i64 code]) rfl (by kernel_rfl) (by kernel_rfl) (by kernel_rfl) (by decide) (by kernel_rfl) (fun _ _ _ h => h) rfl hHeld (Or.inl ⟨by rfl, ?_⟩) ?_
    · (intro W9 hSw; obtain ⟨v1, v2⟩ := hSw; go_simp; (try (first | with_reducible rfl | rfl)))
    try simp only [Act.put, List.setIfInBounds_toArray, List.set_cons_zero, List.set_cons_succ]
    refine wpG_oneA (i := 7) (o := ⟨some 18, _, _, _, _, _⟩) (by kernel_rfl) rfl rfl (fun K hK => ?_)
    go_simp
    (with_reducible refine (ended_any B r k m c v { s with st := 1 } s.at_ code none 0 0 w2.drew (HR2.out.below (below_drew (Below.refl _ _)))).mono ?_); rintro e w8 ⟨rfl, h8, o8⟩
    have H8 := Lib.hid h8
    have O8 := Lib.hid (Only.trans (Only.of_below (p := fun q => q = r) (below_drew (Below.refl _ w2))) o8 fun b hb e => e)
    have B8 := Lib.hid (HX2.out.only O8.out (fun e => HNE.out e.symm))
    have G8 := Lib.hid (HG2.out.only O8.out (fun e => HNG.out e.symm))
    clear h8 o8
    refine hK.out _ _ ⟨G8.out.cell 0, H8.out.blk.cell 5⟩ (fun hHeld => ?_)
    clear hK K
    try simp only [Act.put, List.setIfInBounds_toArray, List.set_cons_zero, List.set_cons_succ]
    refine wpG_takeA (i := 8) (oi := ⟨some 19, _, _, _, _, _⟩) (v := .agg #[.int .i64 (s.at_ : Int), .slice none 0 0, .int .i64 code]) rfl (by kernel_rfl) (by kernel_rfl) (by kernel_rfl) (by decide) (fun _ _ _ h => h) h01 rfl hHeld (Or.inl ⟨by rfl, ?_⟩) ?_
    · (intro W9 hSw; go_simp; (try (first | with_reducible rfl | rfl)))
    try simp only [Act.put, List.setIfInBounds_toArray, List.set_cons_zero, List.set_cons_succ]
    refine wpG_takeA (i := 9) (oi := ⟨some 20, _, _, _, _, _⟩) (v := .bool true) rfl (by kernel_rfl) (by kernel_rfl) (by kernel_rfl) (by decide) (fun _ _ _ h => h) h01 rfl hHeld (Or.inl ⟨by rfl, ?_⟩) ?_
    · (intro W9 hSw; go_simp; (try (first | with_reducible rfl | rfl)))
    try simp only [Act.put, List.setIfInBounds_toArray, List.set_cons_zero, List.set_cons_succ]
    refine wpG_oneB (i := 10) (o := ⟨none, _, _, _, _, _⟩) (by kernel_rfl) rfl rfl (fun K hK => ?_)
    obtain ⟨g0, g1, g2⟩ : w8.cell? ⟨bx, 0, none⟩ = some (.int .i64 0) ∧ w8.cell? ⟨bx, 1, none⟩ = some (.slice none 0 0) ∧ w8.cell? ⟨bx, 2, none⟩ = some (.int .i64 0) := ⟨B8.out.cell 0, B8.out.cell 1, B8.out.cell 2⟩
    have y0 := B8.out.frozen 0
    have y1 := B8.out.frozen 1
    have y2 := B8.out.frozen 2
    go_simp
    refine hK.out _ _ trivial (fun hHeld => ?_)
    clear hK K
    try simp only [Act.put, List.setIfInBounds_toArray, List.set_cons_zero, List.set_cons_succ]
    refine wpG_takeB (i := 11) (oi := ⟨some 5, _, _, _, _, _⟩) (v := .bool true) rfl (by kernel_rfl) (by kernel_rfl) (by kernel_rfl) (by decide) (fun _ _ _ h => h) h01 rfl hHeld (Or.inl ⟨by rfl, ?_⟩) ?_
    · (intro W9 hSw; go_simp; (try (first | with_reducible rfl | rfl)))
    try simp only [Act.put, List.setIfInBounds_toArray, List.set_cons_zero, List.set_cons_succ]
    refine wpG_done (by kernel_rfl) ?_ _
    clear hHeld h01
    go_wp2_with fail
    refine bodyPost_ret (v := .tuple #[.agg #[.int .i64 (s.at_ : Int), .slice none 0 0, .int .i64 code], .bool true]) (fr_res rfl rfl rfl (blk_set3 B8.out)) rfl ?_
    rw [HP.out]
    exact ⟨⟨none, 0, 0, rfl, World.ownsRow_nil _ _ 5 1⟩, .slice none 0 0, (H8.out.box B8.out), only_set3 (HON2.out.trans (O8.out.mono (q := SFo r v) fun b _ e => .inl e) fun b _ x => x) (Nat.le_of_eq HBXE.out), .inr fun _ e => by cases e⟩
end Go.Proofs.Ytibkhjpjneoabaa
