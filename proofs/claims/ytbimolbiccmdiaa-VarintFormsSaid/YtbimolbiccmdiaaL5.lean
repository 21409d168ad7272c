/- The walk of VarintForms. -/
import Derived.Test.YtbimolbiccmdiaaYl
import Derived.Test.YtbimolbiccmdiaaRg
namespace Go.Proofs.Ytbimolbiccmdiaa
open Go.RowKit
attribute [local go_sem] wide_fn wide_depth wide_fn_in wide_depth_in Oper.semAt_some
set_option linter.unusedVariables false
set_option linter.unusedSimpArgs false

/-- What the region that compares reads. -/
def VReg (Bk b2 b7 o7 g g2 j N ca mm cap c2 : Nat) (St : ByteArray) (W : World) : Prop := W.cell? ⟨Bk, 0, none⟩ = some (.int .i64 (j : Int)) ∧ W.cell? ⟨b2, 0, none⟩ = some (.slice (some ⟨b7, o7, none⟩) N ca) ∧ W.cell? ⟨b7, o7 + j, none⟩ = some (.slice (some ⟨g2, 0, none⟩) mm c2) ∧ (convert 22 9 (.slice (some ⟨g, 0, none⟩) mm cap)).run Try.prog W = .ok (.string St) W ∧ (convert 22 9 (.slice (some ⟨g2, 0, none⟩) mm c2)).run Try.prog W = .ok (.string St) W

set_option maxRecDepth 100000 in
set_option maxHeartbeats 16000000 in
theorem vforms_main (v many : Int) (u N : Nat) (w : World) (hN5 : N ≤ 5)
    (hseq : ∀ (n : Nat) (W : World) (Bv : Nat), Blk W Bv 3 #[.int .i64 v] → Iter Fence.wide n Try.prog 32 #[.pointer (some ⟨Bv, 0, none⟩)] (FAt W.heap.size u) (FKp Bv W.heap.size) (Below W.heap.size) N W)
    (hwant : ∀ W : World, Calls Try.prog 17 #[.int .i64 v] W fun e w' => ∃ val vals, e = .returned val ∧ w'.ownsRow W.heap.size 22 1 val N vals ∧ Rows2 w' W.heap.size u N vals ∧ Below W.heap.size W w') :
    Calls Try.prog 5 #[.int .i64 v, .int .i64 many] w fun e w' => e = .returned (.bool true) ∧ Below w.heap.size w w' := by
  have HSEQ := Lib.hid hseq
  have HW := Lib.hid hwant
  refine (callsIn_wide (n := 100)).1 ?_
  refine callsIn_of_wp_marks Try.func5 rfl trivial ?_ rfl
  refine wpIn_wide.2 ?_
  simp only [Try.ntmps5, List.size_toArray, List.length_cons, List.length_nil, Nat.reduceAdd, Nat.reduceSub, Array.replicate_succ, Array.replicate_zero, List.push_toArray, List.append_toArray, List.nil_append, List.cons_append]
  have hba : Below w.heap.size w (((w.alloc (.cells #[.int .i64 many] 3)).alloc (.cells #[.bool false] 4)).alloc (.cells #[.int .i64 v] 3)) := (((Below.refl _ w).alloc (Nat.le_refl _) _).alloc (by simp) _).alloc (by simp; omega) _
  have kA : Blk (((w.alloc (.cells #[.int .i64 many] 3)).alloc (.cells #[.bool false] 4)).alloc (.cells #[.int .i64 v] 3)) w.heap.size 3 #[.int .i64 many] := ((Blk.new w 3 _).alloc _).alloc _
  have kB : Blk (((w.alloc (.cells #[.int .i64 many] 3)).alloc (.cells #[.bool false] 4)).alloc (.cells #[.int .i64 v] 3)) (w.heap.size + 1) 4 #[.bool false] := by have := (Blk.new (w.alloc (.cells #[.int .i64 many] 3)) 4 #[.bool false]).alloc (.cells #[.int .i64 v] 3); rw [World.size_alloc] at this; exact this
  have kV : Blk (((w.alloc (.cells #[.int .i64 many] 3)).alloc (.cells #[.bool false] 4)).alloc (.cells #[.int .i64 v] 3)) (w.heap.size + 1 + 1) 3 #[.int .i64 v] := by have := Blk.new ((w.alloc (.cells #[.int .i64 many] 3)).alloc (.cells #[.bool false] 4)) 3 #[.int .i64 v]; rw [World.size_alloc, World.size_alloc] at this; exact this
  have HBA := Lib.hid hba
  have HKA := Lib.hid kA
  have HKB := Lib.hid kB
  have HKV := Lib.hid kV
  have ending : ∀ (nn : Nat) (tm : Array Value) (W : World) (Ds : List Nat), tm.getD 4 undef = .pointer (some ⟨w.heap.size + 1, 0, none⟩) → Marks (w.heap.size + 2) Ds W → Below w.heap.size w W → Blk W (w.heap.size + 1) 4 #[.bool true] → LeavesInM Fence.wide nn Try.prog Try.f5 tm (fun e w' => e = .returned (.bool true) ∧ Below w.heap.size w w') (Ds.map mark) .returning W := by
    intro nn tm W Ds ht hM hb hk
    refine leaves_marks2 (v := .bool true) Ds W hM fun w' hs => ⟨?_, rfl, hb.trans (hs.to_below.mono (by omega))⟩
    have hk' := (hk.below hs.to_below (by omega)).cell 0
    simp at hk'
    have ht' : tm[4]?.getD undef = .pointer (some ⟨w.heap.size + 1, 0, none⟩) := by simpa using ht
    simp [results, Try.results5, go_sem, ht', hk']
  have HEND := Lib.hid ending
  clear hba kA kB kV ending hseq hwant
  have hnf : ∀ (b : Nat) (W : World), (binOp .eql 38 (.func (.func 32) #[] #[.pointer (some ⟨b, 0, none⟩)]) .nilFunc).run Try.prog W = .ok (.bool false) W := fun b W => by kernel_rfl
  go_wp2_with (first
    | (go_at_call 16; (with_reducible refine (forms_any _ _).mono ?_); rintro e w1 ⟨rfl, rfl⟩)
    | (go_at_call 17; (with_reducible refine (HW.out _).mono ?_); rintro e w2 ⟨va, vals, rfl, ho, hr, b2⟩; obtain ⟨Aa, ca, rfl, -⟩ := own_form ho; refine Hid.out ?_))
  refine Lib.hid ?_
  have B2 := Lib.hid (HBA.out.trans (b2.mono HBA.out.size))
  have KA2 := Lib.hid (HKA.out.below b2 HKA.out.lt)
  have KB2 := Lib.hid (HKB.out.below b2 HKB.out.lt)
  have KV2 := Lib.hid (HKV.out.below b2 HKV.out.lt)
  have O2 := Lib.hid ho
  have R2 := Lib.hid hr
  clear b2 ho hr
  go_wp2_with fail
  obtain ⟨W7, hW7⟩ : ∃ W7, w2.alloc (.cells #[.slice Aa N ca] 40) = W7 := ⟨_, rfl⟩
  have hs7 : w2.heap.size + 1 = W7.heap.size := by rw [← hW7, World.size_alloc]
  have b67 : Below w2.heap.size w2 W7 := hW7 ▸ (Below.refl _ _).alloc (Nat.le_refl _) _
  have K7M := Lib.hid (KA2.out.below b67 KA2.out.lt)
  have K7R := Lib.hid (KB2.out.below b67 KB2.out.lt)
  have K7V := Lib.hid (KV2.out.below b67 KV2.out.lt)
  have K7A := Lib.hid (show Blk W7 w2.heap.size 40 #[.slice Aa N ca] from hW7 ▸ Blk.new w2 40 _)
  have O7 := Lib.hid (own_keeps O2.out fun g hg => b67.block g (O2.out.lt g hg).2)
  have R7 := Lib.hid (R2.out.below b67)
  have B7 := Lib.hid (B2.out.trans (b67.mono B2.out.size))
  have HS7 := Lib.hid (show w.heap.size + 2 ≤ W7.heap.size by have := K7V.out.lt; omega)
  rw [hW7, hs7]
  clear hW7 b67
  have KT := Lib.hid (Blk.new W7 3 #[.int .i64 ((0 : Nat) : Int)])
  have BT := Lib.hid ((Below.refl W7.heap.size W7).alloc (Nat.le_refl _) (.cells #[.int .i64 0] 3))
  refine (wpIn_wide (n := 99)).1 ?_
  refine wpIn_loop (VLoop w.heap.size w2.heap.size (w.heap.size + 1 + 1) W7)
    (fun a W => 2 - turnOf (a.tmps.getD 7 undef) W) ⟨0, W7.heap.size, [], rfl, rfl, rfl, rfl, rfl, rfl, rfl, by omega, KT.out, Nat.le_refl _, BT.out, List.nodup_nil, fun D hD => by cases hD⟩ ?_
  rintro ⟨tm, df⟩ W ⟨t, Bt, Ds, hsz, h3, h4, h5, h6, h7, hdf, ht, hkt, hbt, hb, hM⟩
  dsimp only at hsz h3 h4 h5 h6 h7 hdf ⊢
  obtain ⟨x, hx⟩ : ∃ x : Nat → Value, (fun k => tm.getD k undef) = x := ⟨_, rfl⟩
  have e : tm = #[x 0, x 1, x 2, x 3, x 4, x 5, x 6, x 7, x 8, x 9, x 10, x 11, x 12, x 13, x 14, x 15, x 16, x 17, x 18, x 19, x 20, x 21, x 22, x 23, x 24, x 25, x 26, x 27, x 28, x 29, x 30, x 31, x 32, x 33, x 34, x 35, x 36, x 37, x 38, x 39, x 40, x 41, x 42, x 43, x 44, x 45, x 46, x 47, x 48, x 49, x 50, x 51, x 52, x 53, x 54, x 55, x 56, x 57, x 58, x 59, x 60, x 61, x 62, x 63, x 64, x 65, x 66, x 67, x 68, x 69, x 70, x 71, x 72, x 73, x 74, x 75, x 76, x 77] := (arr_lit tm 78 hsz).trans (by rw [hx]; rfl)
  have y3 := (congrFun hx 3).symm.trans h3
  have y4 := (congrFun hx 4).symm.trans h4
  have y5 := (congrFun hx 5).symm.trans h5
  have y6 := (congrFun hx 6).symm.trans h6
  have y7 := (congrFun hx 7).symm.trans h7
  rw [y3, y4, y5, y6, y7] at e
  clear y3 y4 y5 y6 y7 h3 h4 h5 h6 h7 hsz hx
  subst e hdf
  have HT := Lib.hid hkt
  have HBb := Lib.hid hb
  have HMk := Lib.hid hM
  have ct := hkt.cell 0
  simp at ct
  clear hkt hb hM
  refine wpIn_wide.2 ?_
  by_cases hlt : (t : Int) < 2
  · have ht2 : t < 2 := by omega
    go_wp2_with fail
    obtain ⟨Wk, hWk⟩ : ∃ Wk, W.alloc (.cells #[.int .i64 0] 3) = Wk := ⟨_, rfl⟩
    have hbk : Below W.heap.size W Wk := hWk ▸ (Below.refl _ _).alloc (Nat.le_refl _) _
    have hzk : Wk.heap.size = W.heap.size + 1 := by rw [← hWk]; simp
    have kk : Blk Wk W.heap.size 3 #[.int .i64 ((0 : Nat) : Int)] := hWk ▸ Blk.new W 3 _
    have hb7k := HBb.out.trans (hbk.mono HBb.out.size)
    have htk := HT.out.below hbk HT.out.lt
    have hMk : Marks W7.heap.size Ds Wk := ⟨HMk.out.nodup, fun D hD => ⟨(HMk.out.there D hD).1, (hbk.block D (HMk.out.lt D hD)).trans (HMk.out.there D hD).2⟩⟩
    have hDlt := HMk.out.lt
    have hBt := HT.out.lt
    rw [hWk]
    obtain ⟨Bk, hBk⟩ : ∃ b, W.heap.size = b := ⟨_, rfl⟩
    have h7k : W7.heap.size ≤ Bk := hBk ▸ HBb.out.size
    rw [hBk] at hzk kk hDlt hBt ⊢
    have hVb := K7V.out.lt
    have hw2 := K7A.out.lt
    have hwm := K7M.out.lt
    clear hWk hbk hBk ct
    refine (wpIn_wide (n := 99)).1 ?_
    refine wpIn_iter (N := N) (At := FAt (Wk.heap.size + 2) u) (Kp := FKp (w.heap.size + 1 + 1) (Wk.heap.size + 2)) (Step := Below (Wk.heap.size + 2)) rfl (by omega) (gf := 32) (lb := #[.pointer (some ⟨w.heap.size + 1 + 1, 0, none⟩)]) rfl trivial (enters_of Try.func32 (by kernel_rfl) rfl)
      (fun W1 hb1 hz1 => hz1 ▸ HSEQ.out 98 W1 (w.heap.size + 1 + 1) (K7V.out.below (hb7k.trans (hb1.mono hb7k.size)) hVb))
      (fun X Y hXY k hk hkX => hXY.block k (by omega))
      (fun vs X => fkp_calm Wk.heap.size (w.heap.size + 1 + 1) (by omega) vs X)
      (fun i vs X ⟨val, h, _⟩ => by rw [h]; rfl)
      (fun j X => VI W7 Bk Bt Ds Wk.heap.size many t j X)
      (fun cd j X => VX W7 Bk Bt Ds Wk.heap.size many t cd j X)
      ?hI ?hIx ?hIS ?h0
      (fun j vs X a' Wx => (a'.tmps.size = 78 ∧ a'.tmps.getD 3 undef = .pointer (some ⟨w.heap.size, 0, none⟩) ∧ a'.tmps.getD 4 undef = .pointer (some ⟨w.heap.size + 1, 0, none⟩) ∧ a'.tmps.getD 6 undef = .pointer (some ⟨w2.heap.size, 0, none⟩) ∧ a'.tmps.getD 7 undef = .pointer (some ⟨Bt, 0, none⟩) ∧ a'.tmps.getD 8 undef = .pointer (some ⟨Bk, 0, none⟩) ∧ a'.defers = []) ∧ FKp (w.heap.size + 1 + 1) (Wk.heap.size + 2) vs X Wx ∧ VI W7 Bk Bt Ds Wk.heap.size many t j Wx ∧ VAx (Wk.heap.size + 2) u j vs (a'.tmps.getD 9 undef) Wx)
      ?hAx ?assign ?body ?done ?stop
    case hI => exact fun j X k o o' hk hX ho ⟨h1, h2, h3, h4, h5, h6⟩ => ⟨h1.calm hX ho, h2.calm hX ho, below_calm h3 (by omega) hX, h4.put (fun hD => by have := hDlt k hD; omega) _, by rw [size_putObj]; exact h5, h6⟩
    case hIx => exact fun cd j X k o o' hk hX ho ⟨h0, h1, h2, h3, h4, h5, h6, h7, h8, h9⟩ => ⟨h0, h1.calm hX ho, h2.calm hX ho, below_calm h3 (by omega) hX, h4.put (fun hD => by have := hDlt k hD; omega) _, by rw [size_putObj]; exact h5, h6, h7, h8, h9⟩
    case hIS => exact fun j X Y ⟨h1, h2, h3, h4, h5, h6⟩ hs => ⟨h1.below hs (by omega), h2.below hs (by omega), h3.trans (hs.mono (by omega)), ⟨h4.nodup, fun D hD => ⟨(h4.there D hD).1, (hs.block D (by have := hDlt D hD; omega)).trans (h4.there D hD).2⟩⟩, Nat.le_trans h5 hs.size, h6⟩
    case h0 => exact fun W1 hb1 hz1 => ⟨kk.below hb1 kk.lt, htk.below hb1 htk.lt, hb7k.trans (hb1.mono hb7k.size), ⟨hMk.nodup, fun D hD => ⟨(hMk.there D hD).1, (hb1.block D (hMk.lt D hD)).trans (hMk.there D hD).2⟩⟩, hb1.size, fun _ => .inl rfl⟩
    case hAx => exact fun j vs X0 a' X k o o' hk hX ho ⟨ha, hf, ⟨h1, h2, h3, h4, h5, h6⟩, hv⟩ => ⟨ha, fkp_calm Wk.heap.size (w.heap.size + 1 + 1) (by omega) vs X0 X k o o' hk hX ho hf, ⟨h1.calm hX ho, h2.calm hX ho, below_calm h3 (by omega) hX, h4.put (fun hD => by have := hDlt k hD; omega) _, by rw [size_putObj]; exact h5, h6⟩, hv.vs, own_calm hv.own hX ho⟩
    case assign =>
      rintro l' j vs X K hl hj hI ⟨val, rfl, hown⟩ hlt2 hK
      gi_wp2
      exact hK _ _ (KeepsFrom.refl _ _) ⟨⟨rfl, rfl, rfl, rfl, rfl, rfl, rfl⟩, ⟨Nat.le_refl _, rfl, fun _ _ _ _ => rfl⟩, hI, rfl, hown⟩
    case body =>
      rintro l' j vs X ⟨tm, df⟩ Wx hl hj hr ⟨⟨hsz, h3, h4, h6, h7, h8, hdf⟩, hf, ⟨i1, i2, i3, i4, i5, i6⟩, hvs, hown⟩
      have HZK := Lib.hid hzk
      clear hzk
      dsimp only at hsz h3 h4 h6 h7 h8 hdf hvs hown ⊢
      obtain ⟨mm, hmm⟩ : ∃ mm, k0 u + j + 1 = mm := ⟨_, rfl⟩
      rw [hmm] at hown
      obtain ⟨g, cap, h9, hg, hgs, -, -, -⟩ := own_holds hown (by omega)
      rw [h9] at hvs hown
      subst hvs
      obtain ⟨z, hz⟩ : ∃ z : Nat → Value, (fun k => tm.getD k undef) = z := ⟨_, rfl⟩
      have e : tm = #[z 0, z 1, z 2, z 3, z 4, z 5, z 6, z 7, z 8, z 9, z 10, z 11, z 12, z 13, z 14, z 15, z 16, z 17, z 18, z 19, z 20, z 21, z 22, z 23, z 24, z 25, z 26, z 27, z 28, z 29, z 30, z 31, z 32, z 33, z 34, z 35, z 36, z 37, z 38, z 39, z 40, z 41, z 42, z 43, z 44, z 45, z 46, z 47, z 48, z 49, z 50, z 51, z 52, z 53, z 54, z 55, z 56, z 57, z 58, z 59, z 60, z 61, z 62, z 63, z 64, z 65, z 66, z 67, z 68, z 69, z 70, z 71, z 72, z 73, z 74, z 75, z 76, z 77] := (arr_lit tm 78 hsz).trans (by rw [hz]; rfl)
      have y3 := (congrFun hz 3).symm.trans h3
      have y4 := (congrFun hz 4).symm.trans h4
      have y6 := (congrFun hz 6).symm.trans h6
      have y7 := (congrFun hz 7).symm.trans h7
      have y8 := (congrFun hz 8).symm.trans h8
      have y9 := (congrFun hz 9).symm.trans h9
      rw [y3, y4, y6, y7, y8, y9] at e
      clear y3 y4 y6 y7 y8 y9 h3 h4 h6 h7 h8 h9 hsz hz
      subst e hdf
      have hjl : j < vals.length := by have := R7.out.1; omega
      obtain ⟨b7, o7, e7, hc7⟩ := bs_cell ((holds_own O7.out).keep i3) hj (List.getElem?_eq_getElem hjl)
      have hxr := R7.out.2 j vals[j] (List.getElem?_eq_getElem hjl)
      rw [hmm] at hxr
      obtain ⟨g2, c2, e2, -⟩ := own_holds hxr (by omega)
      rw [e2] at hc7 hxr
      have s1 := conv_bs (P := Try.prog) Wx 22 9 5 Try.underlying22 Try.underlying5 Try.underlying9 (c := cap) (l := formB u (k0 u + j)) ((formB_length _ _).trans hmm) (holds_own hown)
      have s2 := conv_bs (P := Try.prog) Wx 22 9 5 Try.underlying22 Try.underlying5 Try.underlying9 (c := c2) (l := formB u (k0 u + j)) ((formB_length _ _).trans hmm) ((holds_own hxr).keep i3)
      have s3 := conv_bs (P := Try.prog) Wx.drew 22 9 5 Try.underlying22 Try.underlying5 Try.underlying9 (c := cap) (l := formB u (k0 u + j)) ((formB_length _ _).trans hmm) (Holds.drew (holds_own hown))
      have s4 := conv_bs (P := Try.prog) Wx.drew 22 9 5 Try.underlying22 Try.underlying5 Try.underlying9 (c := c2) (l := formB u (k0 u + j)) ((formB_length _ _).trans hmm) (Holds.drew ((holds_own hxr).keep i3))
      have BR0 := Lib.hid (ByteRow.of hown)
      generalize (⟨(formB u (k0 u + j)).toArray⟩ : ByteArray) = St at s1 s2 s3 s4
      have ek := i1.cell 0
      have et := i2.cell 0
      have ea := (K7A.out.below i3 hw2).cell 0
      simp only [List.getElem?_toArray, List.getElem?_cons_zero] at ek et ea
      rw [e7] at ea
      have q1 : decide (N ≤ j) = false := by simp; omega
      have hj0 : (0 : Int) ≤ j := by omega
      have hj1 : (j : Int) ≤ 5 := by omega
      have hjI : (j : Int) < N := by omega
      have hm6 : mm ≤ 20 := by have := k0_le u; omega
      have I1 := Lib.hid i1
      have I2 := Lib.hid i2
      have I3 := Lib.hid i3
      have I4 := Lib.hid i4
      have I5 := Lib.hid i5
      have I6 := Lib.hid i6
      have HF := Lib.hid hf
      have HMM := Lib.hid hmm
      clear i1 i2 i3 i4 i5 i6 hf hxr hown hmm e2
      clear s1 s2 et
      gi_wp2_with fail
      refine region_round (S := VReg Bk w2.heap.size b7 o7 g g2 j N ca mm cap c2 St) (c := 99) (by kernel_rfl) (by kernel_rfl) ?_
      have hHeld : VReg Bk w2.heap.size b7 o7 g g2 j N ca mm cap c2 St Wx.drew := ⟨ek, ea, hc7, s3, s4⟩
      have h01 := (fun (W : World) (h : VReg Bk w2.heap.size b7 o7 g g2 j N ca mm cap c2 St W) => h)
      refine wpG_takeB (i := 0) (oi := ⟨some 23, _, _, _, _, _⟩) (v := .int .i64 (j : Int)) rfl (by kernel_rfl) (by kernel_rfl) (by kernel_rfl) (by decide) (fun _ _ _ h => by obtain ⟨h, -⟩ := h; cases h) h01 rfl hHeld (Or.inl ⟨by rfl, ?_⟩) ?_
      · (intro W9 hSw; obtain ⟨v1, v2, v3, v4, v5⟩ := hSw; go_simp; (try (first | with_reducible rfl | rfl)))
      try simp only [Act.put, List.setIfInBounds_toArray, List.set_cons_zero, List.set_cons_succ]
      refine wpG_takeB (i := 1) (oi := ⟨some 24, _, _, _, _, _⟩) (v := .slice (some ⟨b7, o7, none⟩) N ca) rfl (by kernel_rfl) (by kernel_rfl) (by kernel_rfl) (by decide) (fun _ _ _ h => by obtain ⟨h, -⟩ := h; cases h) h01 rfl hHeld (Or.inl ⟨by rfl, ?_⟩) ?_
      · (intro W9 hSw; obtain ⟨v1, v2, v3, v4, v5⟩ := hSw; go_simp; (try (first | with_reducible rfl | rfl)))
      try simp only [Act.put, List.setIfInBounds_toArray, List.set_cons_zero, List.set_cons_succ]
      refine wpG_takeB (i := 2) (oi := ⟨some 25, _, _, _, _, _⟩) (v := .int .i64 (N : Int)) rfl (by kernel_rfl) (by kernel_rfl) (by kernel_rfl) (by decide) (fun _ _ _ h => by obtain ⟨h, -⟩ := h; cases h) h01 rfl hHeld (Or.inl ⟨by rfl, ?_⟩) ?_
      · (intro W9 hSw; obtain ⟨v1, v2, v3, v4, v5⟩ := hSw; go_simp; (try (first | with_reducible rfl | rfl)))
      try simp only [Act.put, List.setIfInBounds_toArray, List.set_cons_zero, List.set_cons_succ]
      refine wpG_takeB (i := 3) (oi := ⟨some 26, _, _, _, _, _⟩) (v := .bool false) rfl (by kernel_rfl) (by kernel_rfl) (by kernel_rfl) (by decide) (fun _ _ _ h => by obtain ⟨h, -⟩ := h; cases h) h01 rfl hHeld (Or.inl ⟨by rfl, ?_⟩) ?_
      · (intro W9 hSw; obtain ⟨v1, v2, v3, v4, v5⟩ := hSw; go_simp; (try (first | with_reducible rfl | rfl)))
      try simp only [Act.put, List.setIfInBounds_toArray, List.set_cons_zero, List.set_cons_succ]
      refine wpG_takeB (i := 4) (oi := ⟨some 27, _, _, _, _, _⟩) (v := .bool false) rfl (by kernel_rfl) (by kernel_rfl) (by kernel_rfl) (by decide) (fun _ _ _ h => by obtain ⟨h, -⟩ := h; cases h) h01 rfl hHeld (Or.inl ⟨by rfl, ?_⟩) ?_
      · (intro W9 hSw; obtain ⟨v1, v2, v3, v4, v5⟩ := hSw; go_simp; (try (first | with_reducible rfl | rfl)))
      try simp only [Act.put, List.setIfInBounds_toArray, List.set_cons_zero, List.set_cons_succ]
      refine wpG_takeB (i := 5) (oi := ⟨some 28, _, _, _, _, _⟩) (v := .slice (some ⟨g, 0, none⟩) mm cap) rfl (by kernel_rfl) (by kernel_rfl) (by kernel_rfl) (by decide) (fun _ _ _ h => by obtain ⟨h, -⟩ := h; cases h) h01 rfl hHeld (Or.inl ⟨by rfl, ?_⟩) ?_
      · (intro W9 hSw; obtain ⟨v1, v2, v3, v4, v5⟩ := hSw; go_simp; (try (first | with_reducible rfl | rfl)))
      try simp only [Act.put, List.setIfInBounds_toArray, List.set_cons_zero, List.set_cons_succ]
      refine wpG_takeB (i := 6) (oi := ⟨some 29, _, _, _, _, _⟩) (v := .string St) rfl (by kernel_rfl) (by kernel_rfl) (by kernel_rfl) (by decide) (fun _ _ _ h => by obtain ⟨h, -⟩ := h; cases h) h01 rfl hHeld (Or.inl ⟨by rfl, ?_⟩) ?_
      · (intro W9 hSw; obtain ⟨v1, v2, v3, v4, v5⟩ := hSw; go_simp; (try (first | with_reducible rfl | rfl)))
      try simp only [Act.put, List.setIfInBounds_toArray, List.set_cons_zero, List.set_cons_succ]
      refine wpG_takeB (i := 7) (oi := ⟨some 30, _, _, _, _, _⟩) (v := .slice (some ⟨b7, o7, none⟩) N ca) rfl (by kernel_rfl) (by kernel_rfl) (by kernel_rfl) (by decide) (fun _ _ _ h => by obtain ⟨h, -⟩ := h; cases h) h01 rfl hHeld (Or.inl ⟨by rfl, ?_⟩) ?_
      · (intro W9 hSw; obtain ⟨v1, v2, v3, v4, v5⟩ := hSw; go_simp; (try (first | with_reducible rfl | rfl)))
      try simp only [Act.put, List.setIfInBounds_toArray, List.set_cons_zero, List.set_cons_succ]
      refine wpG_takeB (i := 8) (oi := ⟨some 31, _, _, _, _, _⟩) (v := .int .i64 (j : Int)) rfl (by kernel_rfl) (by kernel_rfl) (by kernel_rfl) (by decide) (fun _ _ _ h => by obtain ⟨h, -⟩ := h; cases h) h01 rfl hHeld (Or.inl ⟨by rfl, ?_⟩) ?_
      · (intro W9 hSw; obtain ⟨v1, v2, v3, v4, v5⟩ := hSw; go_simp; (try (first | with_reducible rfl | rfl)))
      try simp only [Act.put, List.setIfInBounds_toArray, List.set_cons_zero, List.set_cons_succ]
      refine wpG_takeB (i := 9) (oi := ⟨some 32, _, _, _, _, _⟩) (v := .pointer (some ⟨b7, o7 + j, none⟩)) rfl (by kernel_rfl) (by kernel_rfl) (by kernel_rfl) (by decide) (fun _ _ _ h => by obtain ⟨h, -⟩ := h; cases h) h01 rfl hHeld (Or.inl ⟨by rfl, ?_⟩) ?_
      · (intro W9 hSw; obtain ⟨v1, v2, v3, v4, v5⟩ := hSw; go_simp; (try (first | with_reducible rfl | rfl)))
      try simp only [Act.put, List.setIfInBounds_toArray, List.set_cons_zero, List.set_cons_succ]
      refine wpG_takeB (i := 10) (oi := ⟨some 33, _, _, _, _, _⟩) (v := .slice (some ⟨g2, 0, none⟩) mm c2) rfl (by kernel_rfl) (by kernel_rfl) (by kernel_rfl) (by decide) (fun _ _ _ h => by obtain ⟨h, -⟩ := h; cases h) h01 rfl hHeld (Or.inl ⟨by rfl, ?_⟩) ?_
      · (intro W9 hSw; obtain ⟨v1, v2, v3, v4, v5⟩ := hSw; go_simp; (try (first | with_reducible rfl | rfl)))
      try simp only [Act.put, List.setIfInBounds_toArray, List.set_cons_zero, List.set_cons_succ]
      refine wpG_takeB (i := 11) (oi := ⟨some 34, _, _, _, _, _⟩) (v := .string St) rfl (by kernel_rfl) (by kernel_rfl) (by kernel_rfl) (by decide) (fun _ _ _ h => by obtain ⟨h, -⟩ := h; cases h) h01 rfl hHeld (Or.inl ⟨by rfl, ?_⟩) ?_
      · (intro W9 hSw; obtain ⟨v1, v2, v3, v4, v5⟩ := hSw; go_simp; (try (first | with_reducible rfl | rfl)))
      try simp only [Act.put, List.setIfInBounds_toArray, List.set_cons_zero, List.set_cons_succ]
      refine wpG_takeB (i := 12) (oi := ⟨some 35, _, _, _, _, _⟩) (v := .bool false) rfl (by kernel_rfl) (by kernel_rfl) (by kernel_rfl) (by decide) (fun _ _ _ h => by obtain ⟨h, -⟩ := h; cases h) h01 rfl hHeld (Or.inl ⟨by rfl, ?_⟩) ?_
      · (intro W9 hSw; obtain ⟨v1, v2, v3, v4, v5⟩ := hSw; go_simp; (try (first | with_reducible rfl | rfl)))
      try simp only [Act.put, List.setIfInBounds_toArray, List.set_cons_zero, List.set_cons_succ]
      refine wpG_takeB (i := 13) (oi := ⟨some 36, _, _, _, _, _⟩) (v := .bool false) rfl (by kernel_rfl) (by kernel_rfl) (by kernel_rfl) (by decide) (fun _ _ _ h => by obtain ⟨h, -⟩ := h; cases h) h01 rfl hHeld (Or.inl ⟨by rfl, ?_⟩) ?_
      · (intro W9 hSw; obtain ⟨v1, v2, v3, v4, v5⟩ := hSw; go_simp; (try (first | with_reducible rfl | rfl)))
      try simp only [Act.put, List.setIfInBounds_toArray, List.set_cons_zero, List.set_cons_succ]
      refine wpG_done (by kernel_rfl) ⟨rfl, ?_⟩ _
      clear s3 s4 ek ea q1 hc7 hjl hHeld h01
      obtain ⟨Wd, hWd⟩ : ∃ Wd, Wx.drew = Wd := ⟨_, rfl⟩
      have HD9 := Lib.hid (show VSt Wk.heap.size g Wx Wd from hWd ▸ ⟨⟨Nat.le_refl _, fun _ _ _ h _ => h⟩, fun B _ => below_drew (Below.refl _ _), fun _ _ => rfl⟩)
      have BR9 := Lib.hid (show ByteRow Wd (Wk.heap.size + 2) (.slice (some ⟨g, 0, none⟩) mm cap) mm from hWd ▸ BR0.out)
      rw [hWd]
      gi_wp2_with fail
      gi_loopw [10] (fun x wr => ∃ i : Nat, i ≤ mm ∧ x = .int .i64 i ∧ ByteRow wr (Wk.heap.size + 2) (.slice (some ⟨g, 0, none⟩) mm cap) mm ∧ VSt Wk.heap.size g Wx wr) (fun x _ => mm - (intOf x).toNat)
      case atStart => exact ⟨0, by omega, rfl, BR9.out, HD9.out⟩
      case round =>
        obtain ⟨i, hi, rfl, hbr, hst⟩ := hrel
        by_cases hlt3 : (i : Int) < mm
        · obtain ⟨g', cap', x', e', hcx, hx0, hx1, hfz⟩ := hbr.cell (k := i) (by omega)
          cases e'
          have HBR := Lib.hid hbr
          have HST := Lib.hid hst
          clear hbr hst
          gi_wp2_with fail
          exact ⟨⟨i + 1, by omega, by simp, HBR.out.store (by omega) (by omega), HST.out.set _⟩, by simp [intOf]; omega⟩
        · obtain rfl : i = mm := by omega
          have hkg : Bk ≠ g := by have := HZK.out; omega
          have htg : Bt ≠ g := by have := HZK.out; omega
          have r1 := hst.blk I1.out hkg
          have r2 := hst.blk I2.out htg
          have r3 := hst.blk (K7M.out.below I3.out hwm) (by have := HZK.out; omega)
          have ek := r1.cell 0
          have fk := r1.frozen 0
          have et := r2.cell 0
          have em := r3.cell 0
          simp only [List.getElem?_toArray, List.getElem?_cons_zero] at ek et em
          have hbw := I3.out.trans (hst.below W7.heap.size (by have := HZK.out; omega))
          have HI := Lib.hid (show Blk (wr.setCell ⟨Bk, 0, none⟩ (.int .i64 ((j : Int) + 1))) Bk 3 #[.int .i64 ((j + 1 : Nat) : Int)] ∧ Blk (wr.setCell ⟨Bk, 0, none⟩ (.int .i64 ((j : Int) + 1))) Bt 3 #[.int .i64 t] ∧ Below W7.heap.size W7 (wr.setCell ⟨Bk, 0, none⟩ (.int .i64 ((j : Int) + 1))) ∧ Marks W7.heap.size Ds (wr.setCell ⟨Bk, 0, none⟩ (.int .i64 ((j : Int) + 1))) ∧ Wk.heap.size ≤ (wr.setCell ⟨Bk, 0, none⟩ (.int .i64 ((j : Int) + 1))).heap.size from
            ⟨by have := r1.set_ 0 (.int .i64 ((j : Int) + 1)); simpa using this, r2.far (by simp; omega) _, Below.setCell hbw (by simp; omega) _, ⟨I4.out.nodup, fun D hD => ⟨(I4.out.there D hD).1, (Below.heap_setCell _ _ _ _ (by have := hDlt D hD; simp; omega)).trans ((hst.same D (by have := hDlt D hD; have := HZK.out; omega)).trans (I4.out.there D hD).2)⟩⟩, by rw [World.size_setCell]; exact Nat.le_trans I5.out hst.keeps.size⟩)
          have HF2 := Lib.hid (show FKp (w.heap.size + 1 + 1) (Wk.heap.size + 2) #[.slice (some ⟨g, 0, none⟩) i cap] X (wr.setCell ⟨Bk, 0, none⟩ (.int .i64 ((j : Int) + 1))) from
            ⟨by rw [World.size_setCell]; exact Nat.le_trans HF.out.1 hst.keeps.size, (Below.heap_setCell _ _ _ _ (by simp; omega)).trans ((hst.same _ (by have := HZK.out; omega)).trans HF.out.2.1), fun k hk hkX hne => (Below.heap_setCell _ _ _ _ (by have := HZK.out; simp; omega)).trans ((hst.same k (fun e => hne _ rfl (by rw [e]; rfl))).trans (HF.out.2.2 k hk hkX hne))⟩)
          have HKF := Lib.hid (show KeepsFrom Wk.heap.size Wx (wr.setCell ⟨Bk, 0, none⟩ (.int .i64 ((j : Int) + 1))) from hst.keeps.trans ((KeepsOthers.setCell _ _ _).from _))
          clear r1 r2 r3 hbw hst hbr
          obtain ⟨i1, i2, i3, i4, i5⟩ := HI.out
          replace i1 := Lib.hid i1
          replace i2 := Lib.hid i2
          replace i3 := Lib.hid i3
          replace i4 := Lib.hid i4
          replace i5 := Lib.hid i5
          by_cases h0 : t = 0
          · have q2 : ((t : Int) == 0) = true := by simp; omega
            have H0 := Lib.hid h0
            clear h0
            by_cases hmn : many ≤ (j : Int) + 1
            · have q3 : decide (many ≤ (j : Int) + 1) = true := by simpa using hmn
              gi_wp2_with fail
              exact ⟨HKF.out, rfl, i1.out, i2.out, i3.out, i4.out, i5.out, H0.out, by omega, by have := I6.out H0.out; omega, by omega⟩
            · have q3 : decide (many ≤ (j : Int) + 1) = false := by simpa using hmn
              gi_wp2_with fail
              exact ⟨HKF.out, HF2.out, i1.out, i2.out, i3.out, i4.out, i5.out, fun _ => .inr (by omega)⟩
          · have q2 : ((t : Int) == 0) = false := by simp; omega
            gi_wp2_with fail
            exact ⟨HKF.out, HF2.out, i1.out, i2.out, i3.out, i4.out, i5.out, fun h => absurd h h0⟩
    case done =>
      rintro D X hD h hK
      simp only [Exit.inBlock, Exit.then]
      go_at_K
      have hDs : D ∉ Ds := fun hD2 => by have := hDlt D hD2; omega
      have ek := h.k.cell 0
      have et := h.bt.cell 0
      have ea := (K7A.out.below h.below hw2).cell 0
      have em := (K7M.out.below h.below hwm).cell 0
      simp only [List.getElem?_toArray, List.getElem?_cons_zero] at ek et ea em
      have HH := Lib.hid h
      have HK := Lib.hid hK
      have HD := Lib.hid hD
      have HZK := Lib.hid hzk
      clear h hK hzk hD
      by_cases h0 : t = 0
      · have q2 : ((t : Int) == 0) = true := by simp; omega
        have hc := HH.out.c h0
        have q1 : ((t : Int) == 1) = false := by simp; omega
        have H0 := Lib.hid h0
        clear h0
        by_cases hmn : many ≤ 1
        · have q4 : decide (1 < many) = false := by simpa using hmn
          have p4 : ¬ 1 < many := by omega
          have p5 : ¬ (1 : Int) < (N : Int) := by omega
          clear hc hmn q4
          go_wp2_with fail
          have kn : Blk (X.alloc (.cells #[.int .i64 ((t : Int) + 1)] 3)) X.heap.size 3 #[.int .i64 ((t + 1 : Nat) : Int)] := by have := Blk.new X 3 #[.int .i64 ((t : Int) + 1)]; simpa using this
          exact ⟨⟨t + 1, X.heap.size, D :: Ds, rfl, rfl, rfl, rfl, rfl, rfl, rfl, by omega, kn, HH.out.below.size, HH.out.below.alloc HH.out.below.size _, List.nodup_cons.2 ⟨hDs, HH.out.marks.nodup⟩, fun E hE => by
            rcases List.mem_cons.1 hE with rfl | hE
            · exact ⟨by have := HZK.out; have := HD.out; omega, (Below.heap_alloc _ _ _ (Array.getElem?_eq_some_iff.1 HK.out).1).trans HK.out⟩
            · exact ⟨(HH.out.marks.there E hE).1, (Below.heap_alloc _ _ _ (HH.out.marks.lt E hE)).trans (HH.out.marks.there E hE).2⟩⟩, by
            show 2 - turnOf (.pointer (some ⟨X.heap.size, 0, none⟩)) _ < 2 - turnOf (.pointer (some ⟨Bt, 0, none⟩)) W
            rw [turnOf_blk kn, turnOf_blk HT.out]
            omega⟩
        · have q4 : decide (1 < many) = true := by simp; omega
          have p4 : 1 < many := by omega
          have p5 : ¬ many < (N : Int) := by omega
          clear hc hmn q4
          go_wp2_with fail
          have kn : Blk (X.alloc (.cells #[.int .i64 ((t : Int) + 1)] 3)) X.heap.size 3 #[.int .i64 ((t + 1 : Nat) : Int)] := by have := Blk.new X 3 #[.int .i64 ((t : Int) + 1)]; simpa using this
          exact ⟨⟨t + 1, X.heap.size, D :: Ds, rfl, rfl, rfl, rfl, rfl, rfl, rfl, by omega, kn, HH.out.below.size, HH.out.below.alloc HH.out.below.size _, List.nodup_cons.2 ⟨hDs, HH.out.marks.nodup⟩, fun E hE => by
            rcases List.mem_cons.1 hE with rfl | hE
            · exact ⟨by have := HZK.out; have := HD.out; omega, (Below.heap_alloc _ _ _ (Array.getElem?_eq_some_iff.1 HK.out).1).trans HK.out⟩
            · exact ⟨(HH.out.marks.there E hE).1, (Below.heap_alloc _ _ _ (HH.out.marks.lt E hE)).trans (HH.out.marks.there E hE).2⟩⟩, by
            show 2 - turnOf (.pointer (some ⟨X.heap.size, 0, none⟩)) _ < 2 - turnOf (.pointer (some ⟨Bt, 0, none⟩)) W
            rw [turnOf_blk kn, turnOf_blk HT.out]
            omega⟩
      · have q2 : ((t : Int) == 0) = false := by simp; omega
        have q1 : ((t : Int) == 1) = true := by simp; omega
        go_wp2_with fail
        have kn : Blk (X.alloc (.cells #[.int .i64 ((t : Int) + 1)] 3)) X.heap.size 3 #[.int .i64 ((t + 1 : Nat) : Int)] := by have := Blk.new X 3 #[.int .i64 ((t : Int) + 1)]; simpa using this
        exact ⟨⟨t + 1, X.heap.size, D :: Ds, rfl, rfl, rfl, rfl, rfl, rfl, rfl, by omega, kn, HH.out.below.size, HH.out.below.alloc HH.out.below.size _, List.nodup_cons.2 ⟨hDs, HH.out.marks.nodup⟩, fun E hE => by
          rcases List.mem_cons.1 hE with rfl | hE
          · exact ⟨by have := HZK.out; have := HD.out; omega, (Below.heap_alloc _ _ _ (Array.getElem?_eq_some_iff.1 HK.out).1).trans HK.out⟩
          · exact ⟨(HH.out.marks.there E hE).1, (Below.heap_alloc _ _ _ (HH.out.marks.lt E hE)).trans (HH.out.marks.there E hE).2⟩⟩, by
          show 2 - turnOf (.pointer (some ⟨X.heap.size, 0, none⟩)) _ < 2 - turnOf (.pointer (some ⟨Bt, 0, none⟩)) W
          rw [turnOf_blk kn, turnOf_blk HT.out]
          omega⟩
    case stop =>
      rintro D cd j X hD hj ⟨rfl, h1, h2, h3, h4, h5', h6, h7, h8, h9⟩ hK
      obtain ⟨jj, hjj⟩ : ∃ jj, j + 1 = jj := ⟨_, rfl⟩
      rw [hjj] at h1 h7 h8 h9
      have hjN : jj ≤ N := by omega
      have hDs : D ∉ Ds := fun hD2 => by have := hDlt D hD2; omega
      have ek := h1.cell 0
      have et := h2.cell 0
      have ea := (K7A.out.below h3 hw2).cell 0
      have em := (K7M.out.below h3 hwm).cell 0
      simp only [List.getElem?_toArray, List.getElem?_cons_zero] at ek et ea em
      have H3 := Lib.hid h3
      have H4 := Lib.hid h4
      have HK := Lib.hid hK
      have HD := Lib.hid hD
      have HZK := Lib.hid hzk
      have q2 : ((t : Int) == 0) = true := by simp; omega
      have q1 : ((t : Int) == 1) = false := by simp; omega
      have H0 := Lib.hid h6
      clear h1 h2 h3 h4 h5' h6 hK hD hzk hjj
      by_cases hmn : many ≤ 1
      · obtain rfl : jj = 1 := by omega
        have p4 : ¬ 1 < many := by omega
        clear hmn h7 h8 h9
        by_cases hN : 1 < (N : Int)
        · skip
          refine wpIn_wide.2 ?_
          go_wp2_with fail
          have kn : Blk (X.alloc (.cells #[.int .i64 ((t : Int) + 1)] 3)) X.heap.size 3 #[.int .i64 ((t + 1 : Nat) : Int)] := by have := Blk.new X 3 #[.int .i64 ((t : Int) + 1)]; simpa using this
          exact ⟨⟨t + 1, X.heap.size, D :: Ds, rfl, rfl, rfl, rfl, rfl, rfl, rfl, by omega, kn, H3.out.size, H3.out.alloc H3.out.size _, List.nodup_cons.2 ⟨hDs, H4.out.nodup⟩, fun E hE => by
            rcases List.mem_cons.1 hE with rfl | hE
            · exact ⟨by have := HZK.out; have := HD.out; omega, (Below.heap_alloc _ _ _ (Array.getElem?_eq_some_iff.1 HK.out).1).trans HK.out⟩
            · exact ⟨(H4.out.there E hE).1, (Below.heap_alloc _ _ _ (H4.out.lt E hE)).trans (H4.out.there E hE).2⟩⟩, by
            show 2 - turnOf (.pointer (some ⟨X.heap.size, 0, none⟩)) _ < 2 - turnOf (.pointer (some ⟨Bt, 0, none⟩)) W
            rw [turnOf_blk kn, turnOf_blk HT.out]
            omega⟩
        · obtain rfl : N = 1 := by omega
          clear hN
          refine wpIn_wide.2 ?_
          go_wp2_with fail
          have kn : Blk (X.alloc (.cells #[.int .i64 ((t : Int) + 1)] 3)) X.heap.size 3 #[.int .i64 ((t + 1 : Nat) : Int)] := by have := Blk.new X 3 #[.int .i64 ((t : Int) + 1)]; simpa using this
          exact ⟨⟨t + 1, X.heap.size, D :: Ds, rfl, rfl, rfl, rfl, rfl, rfl, rfl, by omega, kn, H3.out.size, H3.out.alloc H3.out.size _, List.nodup_cons.2 ⟨hDs, H4.out.nodup⟩, fun E hE => by
            rcases List.mem_cons.1 hE with rfl | hE
            · exact ⟨by have := HZK.out; have := HD.out; omega, (Below.heap_alloc _ _ _ (Array.getElem?_eq_some_iff.1 HK.out).1).trans HK.out⟩
            · exact ⟨(H4.out.there E hE).1, (Below.heap_alloc _ _ _ (H4.out.lt E hE)).trans (H4.out.there E hE).2⟩⟩, by
            show 2 - turnOf (.pointer (some ⟨X.heap.size, 0, none⟩)) _ < 2 - turnOf (.pointer (some ⟨Bt, 0, none⟩)) W
            rw [turnOf_blk kn, turnOf_blk HT.out]
            omega⟩
      · obtain rfl : many = (jj : Int) := by omega
        have p4 : (1 : Int) < (jj : Int) := by omega
        clear hmn h7 h8
        by_cases hN : jj < N
        · have q5 : decide (jj < N) = true := by simpa using hN
          refine wpIn_wide.2 ?_
          go_wp2_with fail
          have kn : Blk (X.alloc (.cells #[.int .i64 ((t : Int) + 1)] 3)) X.heap.size 3 #[.int .i64 ((t + 1 : Nat) : Int)] := by have := Blk.new X 3 #[.int .i64 ((t : Int) + 1)]; simpa using this
          exact ⟨⟨t + 1, X.heap.size, D :: Ds, rfl, rfl, rfl, rfl, rfl, rfl, rfl, by omega, kn, H3.out.size, H3.out.alloc H3.out.size _, List.nodup_cons.2 ⟨hDs, H4.out.nodup⟩, fun E hE => by
            rcases List.mem_cons.1 hE with rfl | hE
            · exact ⟨by have := HZK.out; have := HD.out; omega, (Below.heap_alloc _ _ _ (Array.getElem?_eq_some_iff.1 HK.out).1).trans HK.out⟩
            · exact ⟨(H4.out.there E hE).1, (Below.heap_alloc _ _ _ (H4.out.lt E hE)).trans (H4.out.there E hE).2⟩⟩, by
            show 2 - turnOf (.pointer (some ⟨X.heap.size, 0, none⟩)) _ < 2 - turnOf (.pointer (some ⟨Bt, 0, none⟩)) W
            rw [turnOf_blk kn, turnOf_blk HT.out]
            omega⟩
        · obtain rfl : N = jj := by omega
          refine wpIn_wide.2 ?_
          go_wp2_with fail
          have kn : Blk (X.alloc (.cells #[.int .i64 ((t : Int) + 1)] 3)) X.heap.size 3 #[.int .i64 ((t + 1 : Nat) : Int)] := by have := Blk.new X 3 #[.int .i64 ((t : Int) + 1)]; simpa using this
          exact ⟨⟨t + 1, X.heap.size, D :: Ds, rfl, rfl, rfl, rfl, rfl, rfl, rfl, by omega, kn, H3.out.size, H3.out.alloc H3.out.size _, List.nodup_cons.2 ⟨hDs, H4.out.nodup⟩, fun E hE => by
            rcases List.mem_cons.1 hE with rfl | hE
            · exact ⟨by have := HZK.out; have := HD.out; omega, (Below.heap_alloc _ _ _ (Array.getElem?_eq_some_iff.1 HK.out).1).trans HK.out⟩
            · exact ⟨(H4.out.there E hE).1, (Below.heap_alloc _ _ _ (H4.out.lt E hE)).trans (H4.out.there E hE).2⟩⟩, by
            show 2 - turnOf (.pointer (some ⟨X.heap.size, 0, none⟩)) _ < 2 - turnOf (.pointer (some ⟨Bt, 0, none⟩)) W
            rw [turnOf_blk kn, turnOf_blk HT.out]
            omega⟩
  · have C10 := Lib.hid (known_any W)
    have kb := K7R.out.below HBb.out K7R.out.lt
    have f1 := kb.frozen 0
    have KB4 := Lib.hid kb
    have q1 : decide (t < 2) = false := by simp; omega
    clear kb
    go_wp2_with (go_at_call 10; (with_reducible refine C10.out.mono ?_); rintro e w9 ⟨rfl, b9⟩; have k9 := KB4.out.below b9 KB4.out.lt; have e9 := k9.cell 0; have f9 := k9.frozen 0; simp at e9; have K9 := Lib.hid k9; have B9 := Lib.hid b9; clear b9 k9)
    refine HEND.out _ _ _ Ds ?_ ⟨HMk.out.nodup, fun D hD => ?_⟩ ?_ ?_
    · rfl
    · have := HMk.out.there D hD
      have hlt := HMk.out.lt D hD
      refine ⟨by have := HS7.out; omega, ?_⟩
      rw [Below.heap_setCell _ _ _ _ (by simp; have := HS7.out; omega)]
      exact (B9.out.block D hlt).trans this.2
    · exact Below.setCell (B7.out.trans ((HBb.out.trans (B9.out.mono HBb.out.size)).mono B7.out.size)) (by simp) _
    · have := K9.out.set_ 0 (.bool true)
      simpa using this

theorem vforms_law (v many : Int) (w : World) (_ : (Lit.int .i64 v).wf = true) (_ : (Lit.int .i64 many).wf = true) :
    Calls Try.prog 5 #[.int .i64 v, .int .i64 many] w fun e w' => e = .returned (.bool true) ∧ Below w.heap.size w w' := by
  by_cases hv : 0 ≤ v ∧ v < 34359738368
  · obtain ⟨u, rfl⟩ := Int.eq_ofNat_of_zero_le hv.1
    have hu : u < 34359738368 := by omega
    exact vforms_main u many u (5 - k0 u) w (by omega) (fun n W Bv h => forms_iter n W Bv u hu h) (fun W => (rforms_yes u W hu).mono fun e w' ⟨val, vals, h1, h2, h3, h4⟩ => ⟨val, vals, h1, h2, h3, h4⟩)
  · have hv' : v < 0 ∨ 34359738368 ≤ v := by omega
    exact vforms_main v many 0 0 w (by omega) (fun n W Bv h => forms_iter_no n W Bv v hv' h _ _ _) (fun W => (rforms_no v W hv').mono fun e w' ⟨h1, h2⟩ => ⟨_, [], h1, World.ownsRow_nil _ _ _ _, ⟨rfl, fun i x hx => by simp at hx⟩, h2 ▸ Below.refl _ _⟩)
end Go.Proofs.Ytbimolbiccmdiaa
