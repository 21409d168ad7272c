/- The walk of VarintExact. -/
import Derived.Test.YtbimolbiccmdiaaYl
import Derived.Test.YtbimolbiccmdiaaRg
import Derived.Test.YtbimolbiccmdiaaExP
namespace Go.Proofs.Ytbimolbiccmdiaa
open Go.RowKit
attribute [local go_sem] wide_fn wide_depth wide_fn_in wide_depth_in Oper.semAt_some
set_option linter.unusedVariables false
set_option linter.unusedSimpArgs false

/-- The string that was yielded last. -/
def lastS (u j : Nat) : ByteArray := if j = 0 then ⟨#[]⟩ else ⟨(formB u (k0 u + j - 1)).toArray⟩
/-- The range's invariant. -/
structure XI (W7 : World) (Bf Bl : Nat) (s u : Nat) (j : Nat) (X : World) : Prop where
  f : Blk X Bf 4 #[.bool (decide (j = 0))]
  l : Blk X Bl 9 #[.string (lastS u j)]
  below : Below W7.heap.size W7 X
  size : s ≤ X.heap.size

theorem el22x : El Try.prog 22 5 1 := El.mk' (z := .int .u8 0) Try.underlying22 (by kernel_rfl) rfl
/-- What the region that joins reads. -/
def XReg (b : Nat) (A : Option Addr) (nf cf : Nat) (W : World) : Prop := W.cell? ⟨b + 1, 0, none⟩ = some (.slice A nf cf)
theorem holds_far {w : World} {A : Addr} {n : Nat} {xs : List Value} (h : Holds w (some A) n xs) {p : Addr} (hp : p.block ≠ A.block) (v : Value) : Holds (w.setCell p v) (some A) n xs := ⟨h.1, h.2.1, fun b hb j u hu => by
  cases hb
  have h9 := h.2.2 A rfl j u hu
  obtain ⟨b, o, sp⟩ := A
  exact (World.cell?_setCell_far w p _ v (by unfold Addr.add; split <;> exact hp)).trans h9⟩
/-- What the region that compares with the form before reads. -/
def XR15 (b6 b7 : Nat) (fst : Bool) (La Ta : ByteArray) (g p cap : Nat) (W : World) : Prop := W.cell? ⟨b6, 0, none⟩ = some (.bool fst) ∧ W.cell? ⟨b7, 0, none⟩ = some (.string La) ∧ (fst = false → La.size = p ∧ Ta.toList ≠ La.toList ∧ p ≤ cap ∧ (convert 22 9 (.slice (some ⟨g, 0, none⟩) p cap)).run Try.prog W = .ok (.string Ta) W)

set_option maxRecDepth 100000 in
set_option maxHeartbeats 16000000 in
theorem vexact_main (v : Int) (A : Option Addr) (nf cf : Nat) (fl : List UInt8) (u N : Nat) (w : World) (hl : fl.length = nf) (hn : nf ≤ 10) (hc : nf ≤ cf) (hb0 : Holds w A nf (fl.map u8)) (hN5 : N ≤ 5)
    (huv : N ≠ 0 → v = (u : Int) ∧ u < 34359738368 ∧ N = 5 - k0 u) (hno : N = 0 → v < 0 ∨ 34359738368 ≤ v)
    (hseq : ∀ (n : Nat) (W : World) (Bv : Nat), Blk W Bv 3 #[.int .i64 v] → Iter Fence.wide n Try.prog 32 #[.pointer (some ⟨Bv, 0, none⟩)] (FAt W.heap.size u) (FKp Bv W.heap.size) (Below W.heap.size) N W) :
    Calls Try.prog 8 #[.int .i64 v, .slice A nf cf] w fun e w' => e = .returned (.bool true) ∧ Below w.heap.size w w' := by
  have HSEQ := Lib.hid hseq
  have HUV := Lib.hid huv
  have HNO := Lib.hid hno
  have HF := Lib.hid hb0
  have HL := Lib.hid hl
  refine (callsIn_wide (n := 100)).1 ?_
  refine callsIn_of_wp_marks Try.func8 rfl trivial ?_ rfl
  refine wpIn_wide.2 ?_
  simp only [Try.ntmps8, List.size_toArray, List.length_cons, List.length_nil, Nat.reduceAdd, Nat.reduceSub, Array.replicate_succ, Array.replicate_zero, List.push_toArray, List.append_toArray, List.nil_append, List.cons_append]
  have hn10 : (nf : Int) ≤ 10 := by omega
  have q0 : decide (10 < nf) = false := by simp; omega
  have hnf : ∀ (b : Nat) (W : World), (binOp .eql 38 (.func (.func 32) #[] #[.pointer (some ⟨b, 0, none⟩)]) .nilFunc).run Try.prog W = .ok (.bool false) W := fun b W => by kernel_rfl
  have HEND := Lib.hid (show ∀ (nn : Nat) (tm : Array Value) (W : World) (Ds : List Nat), tm.getD 4 undef = .pointer (some ⟨w.heap.size + 1 + 1, 0, none⟩) → Marks (w.heap.size + 1 + 1 + 1) Ds W → Below w.heap.size w W → Blk W (w.heap.size + 1 + 1) 4 #[.bool true] → LeavesInM Fence.wide nn Try.prog Try.f8 tm (fun e w' => e = .returned (.bool true) ∧ Below w.heap.size w w') (Ds.map mark) .returning W by
    intro nn tm W Ds ht hM hb hk
    refine leaves_marks2 (v := .bool true) Ds W hM fun w' hs => ⟨?_, rfl, hb.trans (hs.to_below.mono (by omega))⟩
    have hk' := (hk.below hs.to_below (by omega)).cell 0
    simp at hk'
    have ht' : tm[4]?.getD undef = .pointer (some ⟨w.heap.size + 1 + 1, 0, none⟩) := by simpa using ht
    simp [results, Try.results8, go_sem, ht', hk'])
  clear hseq huv hno hb0 hl
  go_wp2_with (first
    | (go_at_call 16; (with_reducible refine (forms_any _ _).mono ?_); rintro e w1 ⟨rfl, rfl⟩))
  have b7 : Below w.heap.size w ((((w.alloc (.cells #[.int .i64 v] 3)).alloc (.cells #[.slice A nf cf] 22)).alloc (.cells #[.bool false] 4)).alloc (.cells #[.int .i64 v] 3)) := ((((Below.refl _ w).alloc (Nat.le_refl _) _).alloc (by simp) _).alloc (by simp; omega) _).alloc (by simp; omega) _
  have kv : Blk ((((w.alloc (.cells #[.int .i64 v] 3)).alloc (.cells #[.slice A nf cf] 22)).alloc (.cells #[.bool false] 4)).alloc (.cells #[.int .i64 v] 3)) w.heap.size 3 #[.int .i64 v] := (((Blk.new w 3 _).alloc _).alloc _).alloc _
  have kf : Blk ((((w.alloc (.cells #[.int .i64 v] 3)).alloc (.cells #[.slice A nf cf] 22)).alloc (.cells #[.bool false] 4)).alloc (.cells #[.int .i64 v] 3)) (w.heap.size + 1) 22 #[.slice A nf cf] := by have := ((Blk.new (w.alloc (.cells #[.int .i64 v] 3)) 22 #[.slice A nf cf]).alloc (.cells #[.bool false] 4)).alloc (.cells #[.int .i64 v] 3); rw [World.size_alloc] at this; exact this
  have kr : Blk ((((w.alloc (.cells #[.int .i64 v] 3)).alloc (.cells #[.slice A nf cf] 22)).alloc (.cells #[.bool false] 4)).alloc (.cells #[.int .i64 v] 3)) (w.heap.size + 1 + 1) 4 #[.bool false] := by have := (Blk.new ((w.alloc (.cells #[.int .i64 v] 3)).alloc (.cells #[.slice A nf cf] 22)) 4 #[.bool false]).alloc (.cells #[.int .i64 v] 3); rw [World.size_alloc, World.size_alloc] at this; exact this
  have kx : Blk ((((w.alloc (.cells #[.int .i64 v] 3)).alloc (.cells #[.slice A nf cf] 22)).alloc (.cells #[.bool false] 4)).alloc (.cells #[.int .i64 v] 3)) (w.heap.size + 1 + 1 + 1) 3 #[.int .i64 v] := by have := Blk.new (((w.alloc (.cells #[.int .i64 v] 3)).alloc (.cells #[.slice A nf cf] 22)).alloc (.cells #[.bool false] 4)) 3 #[.int .i64 v]; rw [World.size_alloc, World.size_alloc, World.size_alloc] at this; exact this
  have hz7 : ((((w.alloc (.cells #[.int .i64 v] 3)).alloc (.cells #[.slice A nf cf] 22)).alloc (.cells #[.bool false] 4)).alloc (.cells #[.int .i64 v] 3)).heap.size = w.heap.size + 4 := by simp
  generalize ((((w.alloc (.cells #[.int .i64 v] 3)).alloc (.cells #[.slice A nf cf] 22)).alloc (.cells #[.bool false] 4)).alloc (.cells #[.int .i64 v] 3)) = W7 at *
  have ka : Blk ((W7.alloc (.cells #[.bool true] 4)).alloc (.cells #[.string ⟨#[]⟩] 9)) (w.heap.size + 1 + 1 + 1 + 1) 4 #[.bool true] := by have := (Blk.new W7 4 #[.bool true]).alloc (.cells #[.string ⟨#[]⟩] 9); rw [hz7] at this; exact this
  have kl : Blk ((W7.alloc (.cells #[.bool true] 4)).alloc (.cells #[.string ⟨#[]⟩] 9)) (w.heap.size + 1 + 1 + 1 + 1 + 1) 9 #[.string ⟨#[]⟩] := by have := Blk.new (W7.alloc (.cells #[.bool true] 4)) 9 #[.string ⟨#[]⟩]; rw [World.size_alloc, hz7] at this; exact this
  have bk : Below W7.heap.size W7 ((W7.alloc (.cells #[.bool true] 4)).alloc (.cells #[.string ⟨#[]⟩] 9)) := ((Below.refl _ _).alloc (Nat.le_refl _) _).alloc (by simp) _
  have hzk : ((W7.alloc (.cells #[.bool true] 4)).alloc (.cells #[.string ⟨#[]⟩] 9)).heap.size = w.heap.size + 6 := by simp [hz7]
  generalize ((W7.alloc (.cells #[.bool true] 4)).alloc (.cells #[.string ⟨#[]⟩] 9)) = Wk at *
  refine (wpIn_wide (n := 99)).1 ?_
  refine wpIn_iter (N := N) (At := FAt (Wk.heap.size + 2) u) (Kp := FKp (w.heap.size + 1 + 1 + 1) (Wk.heap.size + 2)) (Step := Below (Wk.heap.size + 2)) rfl (by omega) (gf := 32) (lb := #[.pointer (some ⟨w.heap.size + 1 + 1 + 1, 0, none⟩)]) rfl trivial (enters_of Try.func32 (by kernel_rfl) rfl)
    (fun W1 hb1 hz1 => hz1 ▸ HSEQ.out 98 W1 (w.heap.size + 1 + 1 + 1) (kx.below (bk.trans (hb1.mono bk.size)) kx.lt))
    (fun X Y hXY k hk hkX => hXY.block k (by omega))
    (fun vs X => fkp_calm Wk.heap.size (w.heap.size + 1 + 1 + 1) (by omega) vs X)
    (fun i vs X ⟨val, h, _⟩ => by rw [h]; rfl)
    (fun j X => XI W7 (w.heap.size + 1 + 1 + 1 + 1) (w.heap.size + 1 + 1 + 1 + 1 + 1) Wk.heap.size u j X)
    (fun cd j X => False)
    ?hI ?hIx ?hIS ?h0
    (fun j vs X a' Wx => (a'.tmps.size = 115 ∧ a'.tmps.getD 2 undef = .pointer (some ⟨w.heap.size, 0, none⟩) ∧ a'.tmps.getD 3 undef = .pointer (some ⟨w.heap.size + 1, 0, none⟩) ∧ a'.tmps.getD 6 undef = .pointer (some ⟨w.heap.size + 1 + 1 + 1 + 1, 0, none⟩) ∧ a'.tmps.getD 7 undef = .pointer (some ⟨w.heap.size + 1 + 1 + 1 + 1 + 1, 0, none⟩) ∧ a'.defers = []) ∧ FKp (w.heap.size + 1 + 1 + 1) (Wk.heap.size + 2) vs X Wx ∧ XI W7 (w.heap.size + 1 + 1 + 1 + 1) (w.heap.size + 1 + 1 + 1 + 1 + 1) Wk.heap.size u j Wx ∧ VAx (Wk.heap.size + 2) u j vs (a'.tmps.getD 8 undef) Wx)
    ?hAx ?assign ?body ?done ?stop
  case hI => exact fun j X k o o' hk hX ho ⟨h1, h2, h3, h4⟩ => ⟨h1.calm hX ho, h2.calm hX ho, below_calm h3 (by omega) hX, by rw [size_putObj]; exact h4⟩
  case hIx => exact fun cd j X k o o' hk hX ho h => h
  case hIS => exact fun j X Y ⟨h1, h2, h3, h4⟩ hs => ⟨h1.below hs (by omega), h2.below hs (by omega), h3.trans (hs.mono (by omega)), Nat.le_trans h4 hs.size⟩
  case h0 => exact fun W1 hb1 hz1 => ⟨ka.below hb1 ka.lt, kl.below hb1 kl.lt, bk.trans (hb1.mono bk.size), hb1.size⟩
  case hAx => exact fun j vs X0 a' X k o o' hk hX ho ⟨ha, hf, ⟨h1, h2, h3, h4⟩, hv⟩ => ⟨ha, fkp_calm Wk.heap.size (w.heap.size + 1 + 1 + 1) (by omega) vs X0 X k o o' hk hX ho hf, ⟨h1.calm hX ho, h2.calm hX ho, below_calm h3 (by omega) hX, by rw [size_putObj]; exact h4⟩, hv.vs, own_calm hv.own hX ho⟩
  case assign =>
    rintro l' j vs X K hl hj hI ⟨val, rfl, hown⟩ hlt2 hK
    gi_wp2
    exact hK _ _ (KeepsFrom.refl _ _) ⟨⟨rfl, rfl, rfl, rfl, rfl, rfl⟩, ⟨Nat.le_refl _, rfl, fun _ _ _ _ => rfl⟩, hI, rfl, hown⟩
  case body =>
    rintro l' j vs X ⟨tm, df⟩ Wx hl hj hr ⟨⟨hsz, h2, h3, h6, h7, hdf⟩, hf, ⟨i1, i2, i3, i4⟩, hvs, hown⟩
    have HZK := Lib.hid hzk
    clear hzk
    dsimp only at hsz h2 h3 h6 h7 hdf hvs hown ⊢
    obtain ⟨mm, hmm⟩ : ∃ mm, k0 u + j + 1 = mm := ⟨_, rfl⟩
    rw [hmm] at hown
    obtain ⟨g, cap, h8, hg, hgs, -, -, -⟩ := own_holds hown (by omega)
    rw [h8] at hvs hown
    subst hvs
    obtain ⟨z, hz⟩ : ∃ z : Nat → Value, (fun k => tm.getD k undef) = z := ⟨_, rfl⟩
    have e : tm = #[z 0, z 1, z 2, z 3, z 4, z 5, z 6, z 7, z 8, z 9, z 10, z 11, z 12, z 13, z 14, z 15, z 16, z 17, z 18, z 19, z 20, z 21, z 22, z 23, z 24, z 25, z 26, z 27, z 28, z 29, z 30, z 31, z 32, z 33, z 34, z 35, z 36, z 37, z 38, z 39, z 40, z 41, z 42, z 43, z 44, z 45, z 46, z 47, z 48, z 49, z 50, z 51, z 52, z 53, z 54, z 55, z 56, z 57, z 58, z 59, z 60, z 61, z 62, z 63, z 64, z 65, z 66, z 67, z 68, z 69, z 70, z 71, z 72, z 73, z 74, z 75, z 76, z 77, z 78, z 79, z 80, z 81, z 82, z 83, z 84, z 85, z 86, z 87, z 88, z 89, z 90, z 91, z 92, z 93, z 94, z 95, z 96, z 97, z 98, z 99, z 100, z 101, z 102, z 103, z 104, z 105, z 106, z 107, z 108, z 109, z 110, z 111, z 112, z 113, z 114] := (arr_lit tm 115 hsz).trans (by rw [hz]; rfl)
    have y2 := (congrFun hz 2).symm.trans h2
    have y3 := (congrFun hz 3).symm.trans h3
    have y6 := (congrFun hz 6).symm.trans h6
    have y7 := (congrFun hz 7).symm.trans h7
    have y8 := (congrFun hz 8).symm.trans h8
    rw [y2, y3, y6, y7, y8] at e
    clear y2 y3 y6 y7 y8 h2 h3 h6 h7 h8 hsz hz
    subst e hdf
    have I1 := Lib.hid i1
    have I2 := Lib.hid i2
    have I3 := Lib.hid i3
    have I4 := Lib.hid i4
    have HFK := Lib.hid hf
    have HMM := Lib.hid hmm
    have HO := Lib.hid hown
    have KV := Lib.hid (kv.below i3 kv.lt)
    have KF := Lib.hid (kf.below i3 kf.lt)
    have HFX := Lib.hid (HF.out.keep (b7.trans (i3.mono b7.size)))
    clear i1 i2 i3 i4 hf hmm hown
    gi_wp2_with fail
    refine region_round (S := XReg w.heap.size A nf cf) (c := 99) (by kernel_rfl) (by kernel_rfl) ?_
    have hHeld : XReg w.heap.size A nf cf Wx.drew := KF.out.cell 0
    have h01 := (fun (W : World) (h : XReg w.heap.size A nf cf W) => h)
    refine wpG_takeB (i := 1) (oi := ⟨some 27, _, _, _, _, _⟩) (v := .slice (some ⟨g, 0, none⟩) mm cap) rfl (by kernel_rfl) (by kernel_rfl) (by kernel_rfl) (by decide) (fun _ _ _ h => by obtain ⟨h, -⟩ := h; cases h) h01 rfl hHeld (Or.inl ⟨by rfl, ?_⟩) ?_
    · (intro W9 hSw; have v1 : W9.cell? ⟨w.heap.size + 1, 0, none⟩ = some (.slice A nf cf) := hSw; go_simp; (try (first | with_reducible rfl | rfl)))
    try simp only [Act.put, List.setIfInBounds_toArray, List.set_cons_zero, List.set_cons_succ]
    refine wpG_takeB (i := 3) (oi := ⟨some 29, _, _, _, _, _⟩) (v := .slice A nf cf) rfl (by kernel_rfl) (by kernel_rfl) (by kernel_rfl) (by decide) (fun _ _ _ h => by obtain ⟨h, -⟩ := h; cases h) h01 rfl hHeld (Or.inl ⟨by rfl, ?_⟩) ?_
    · (intro W9 hSw; have v1 : W9.cell? ⟨w.heap.size + 1, 0, none⟩ = some (.slice A nf cf) := hSw; go_simp; (try (first | with_reducible rfl | rfl)))
    try simp only [Act.put, List.setIfInBounds_toArray, List.set_cons_zero, List.set_cons_succ]
    refine wpG_oneB (i := 0) (o := ⟨some 26, _, _, _, _, _⟩) (by kernel_rfl) rfl rfl (fun K hK => ?_)
    go_simp
    refine hK.out _ _ ((KF.out.alloc (.cells #[] 5)).cell 0) (fun hHeld => ?_)
    clear hK K
    try simp only [Act.put, List.setIfInBounds_toArray, List.set_cons_zero, List.set_cons_succ]
    refine wpG_oneB (i := 2) (o := ⟨some 28, _, _, _, _, _⟩) (by kernel_rfl) rfl rfl (fun K hK => ?_)
    refine step_app_own (base := Wx.heap.size) (n := 0) (m := mm) (xs := []) (news := (formB u (k0 u + j)).map u8) rfl (.tmp 26) (.tmp 27) 22 rfl el22x rfl (own_drew (own_none00 Wx 5)) rfl (Holds.drew ((holds_own HO.out).alloc _)) (u8_one _) (by unfold maxLen; have := k0_le u; have := HMM.out; omega) (by have := k0_le u; have := HMM.out; omega) (by simp) ?_
    intro v1 w1 ho1 hg1 _
    have BW1 := Lib.hid (show Below Wx.heap.size Wx w1 from below_own (below_drew ((Below.refl Wx.heap.size Wx).alloc (Nat.le_refl _) _)) (by simp) (own_drew (own_none00 Wx 5)) hg1)
    obtain ⟨A1, c1, rfl, -⟩ := own_form ho1
    have HO1 := Lib.hid ho1
    have KF1 := Lib.hid (KF.out.below BW1.out KF.out.lt)
    clear ho1 hg1
    refine hK.out _ _ (KF1.out.cell 0) (fun hHeld => ?_)
    clear hK K
    try simp only [Act.put, List.setIfInBounds_toArray, List.set_cons_zero, List.set_cons_succ]
    refine wpG_oneB (i := 4) (o := ⟨some 30, _, _, _, _, _⟩) (by kernel_rfl) rfl rfl (fun K hK => ?_)
    refine step_app_own (base := Wx.heap.size) (xs := [] ++ (formB u (k0 u + j)).map u8) (news := fl.map u8) (m := nf) rfl (.tmp 28) (.tmp 29) 22 rfl el22x rfl HO1.out rfl (HFX.out.keep BW1.out) (u8_one _) (by unfold maxLen; have := k0_le u; have := HMM.out; omega) (by have := k0_le u; have := HMM.out; omega) BW1.out.size ?_
    intro v2 w2 ho2 hg2 _
    have BW2 := Lib.hid (show Below Wx.heap.size Wx w2 from below_own BW1.out BW1.out.size HO1.out hg2)
    obtain ⟨A2, c2, rfl, -⟩ := own_form ho2
    have HO2 := Lib.hid ho2
    have KF2 := Lib.hid (KF.out.below BW2.out KF.out.lt)
    clear ho2 hg2
    refine hK.out _ _ (KF2.out.cell 0) (fun hHeld => ?_)
    clear hK K
    try simp only [Act.put, List.setIfInBounds_toArray, List.set_cons_zero, List.set_cons_succ]
    refine wpG_takeB (i := 5) (oi := ⟨some 9, _, _, _, _, _⟩) (v := .slice A2 (0 + mm + nf) c2) rfl (by kernel_rfl) (by kernel_rfl) (by kernel_rfl) (by decide) (fun _ _ _ h => by obtain ⟨h, -⟩ := h; cases h) h01 rfl hHeld (Or.inl ⟨by rfl, ?_⟩) ?_
    · (intro W9 hSw; go_simp; (try (first | with_reducible rfl | rfl)))
    try simp only [Act.put, List.setIfInBounds_toArray, List.set_cons_zero, List.set_cons_succ]
    refine wpG_done (by kernel_rfl) ⟨rfl, ?_⟩ _
    have hlen : (formB u (k0 u + j) ++ fl).length = 0 + mm + nf := by rw [List.length_append, formB_length, HL.out, HMM.out, Nat.zero_add]
    obtain ⟨M, hM⟩ : ∃ M, 0 + mm + nf = M := ⟨_, rfl⟩
    have ho2 := HO2.out
    rw [List.nil_append, ← List.map_append] at ho2
    rw [hM] at ho2 hlen ⊢
    have hM20 : M ≤ 60000 := by have := k0_le u; have := HMM.out; omega
    have hMc : M ≤ c2 := by obtain ⟨A3, c3, e3, h3, -⟩ := own_form ho2; cases e3; exact h3
    have CR := Lib.hid (fun (b : Bool) => read_any A2 M c2 w2.heap.size (formB u (k0 u + j) ++ fl) b w2 hlen hM20 hMc (own_BS ho2))
    obtain ⟨huv, hu, hN5'⟩ := HUV.out (by omega)
    have hkj : k0 u + j ≤ 4 := by have := k0_le u; omega
    have e1 : ((k0 u + j : Nat) : Int) + 1 = (mm : Int) := by have := HMM.out; omega
    have ct := CR.out true
    rw [form_loose u (k0 u + j) fl hu hkj (by omega)] at ct
    simp only [tup3] at ct
    rw [e1, ← huv] at ct
    have CT := Lib.hid ct
    clear ho2 hlen ct hn10 hMc hM20
    have cf := CR.out false
    clear CR
    by_cases hj0 : j = 0
    · rw [show k0 u + j = k0 u by omega, form_first u fl hu] at cf
      simp only [tup3] at cf
      rw [show (k0 u : Int) + 1 = (mm : Int) by omega, ← huv] at cf
      have CF := Lib.hid cf
      have HVU := Lib.hid (And.intro huv (And.intro hu e1))
      clear cf huv hu e1 hkj hN5'
      have k6 := I1.out.below BW2.out I1.out.lt
      have k7 := I2.out.below BW2.out I2.out.lt
      have ev := (KV.out.below BW2.out KV.out.lt).cell 0
      have e6 := k6.cell 0
      have e7 := k7.cell 0
      simp only [List.getElem?_toArray, List.getElem?_cons_zero] at ev e6 e7
      have K6 := Lib.hid k6
      have K7 := Lib.hid k7
      clear k6 k7
      rw [decide_eq_true hj0] at e6
      have hLa : lastS u j = ⟨#[]⟩ := by unfold lastS; rw [if_pos hj0]
      rw [hLa] at e7
      clear hLa
      have HJ0 := Lib.hid hj0
      clear hj0
      have hMM : (mm : Int) ≤ 20 := by have := k0_le u; have := HMM.out; omega
      gi_wp2_with (first | (gi_at_call 14; (with_reducible refine CallsIn.inRound _ ((callsIn_wide.2 CT.out).mono ?_)); rintro e w3 ⟨rfl, rfl⟩; clear CT; refine Hid.out ?_))
      refine Lib.hid ?_
      gi_wp2_with (first | (gi_at_call 14; (with_reducible refine CallsIn.inRound _ ((callsIn_wide.2 CF.out).mono ?_)); rintro e w3 ⟨rfl, rfl⟩))
      refine region_round (S := (XR15 (w.heap.size + 1 + 1 + 1 + 1) (w.heap.size + 1 + 1 + 1 + 1 + 1) true ⟨#[]⟩ ⟨#[]⟩ g 0 0)) (c := 99) (by kernel_rfl) (by kernel_rfl) ?_
      have hHeld := (show XR15 (w.heap.size + 1 + 1 + 1 + 1) (w.heap.size + 1 + 1 + 1 + 1 + 1) true ⟨#[]⟩ ⟨#[]⟩ g 0 0 w2.drew from ⟨e6, e7, fun h => by cases h⟩)
      have h01 := (fun (W : World) (h : (XR15 (w.heap.size + 1 + 1 + 1 + 1) (w.heap.size + 1 + 1 + 1 + 1 + 1) true ⟨#[]⟩ ⟨#[]⟩ g 0 0) W) => h)
      refine wpG_takeB (i := 0) (oi := ⟨some 84, _, _, _, _, _⟩) (v := .bool true) rfl (by kernel_rfl) (by kernel_rfl) (by kernel_rfl) (by decide) (fun _ _ _ h => by obtain ⟨h, -⟩ := h; cases h) h01 rfl hHeld (Or.inl ⟨by rfl, ?_⟩) ?_
      · (intro W9 hSw; obtain ⟨v1, v2, v3⟩ := hSw; clear v3; go_simp; (try (first | with_reducible rfl | rfl)))
      try simp only [Act.put, List.setIfInBounds_toArray, List.set_cons_zero, List.set_cons_succ]
      refine wpG_takeB (i := 1) (oi := ⟨some 85, _, _, _, _, _⟩) (v := .bool false) rfl (by kernel_rfl) (by kernel_rfl) (by kernel_rfl) (by decide) (fun _ _ _ h => by obtain ⟨h, -⟩ := h; cases h) h01 rfl hHeld (Or.inl ⟨by rfl, ?_⟩) ?_
      · (intro W9 hSw; obtain ⟨v1, v2, v3⟩ := hSw; clear v3; go_simp; (try (first | with_reducible rfl | rfl)))
      try simp only [Act.put, List.setIfInBounds_toArray, List.set_cons_zero, List.set_cons_succ]
      refine wpG_takeB (i := 2) (oi := ⟨some 86, _, _, _, _, _⟩) (v := .bool false) rfl (by kernel_rfl) (by kernel_rfl) (by kernel_rfl) (by decide) (fun _ _ _ h => by obtain ⟨h, -⟩ := h; cases h) h01 rfl hHeld (Or.inl ⟨by rfl, ?_⟩) ?_
      · (intro W9 hSw; obtain ⟨v1, v2, v3⟩ := hSw; clear v3; go_simp; (try (first | with_reducible rfl | rfl)))
      try simp only [Act.put, List.setIfInBounds_toArray, List.set_cons_zero, List.set_cons_succ]
      refine wpG_takeB (i := 3) (oi := ⟨some 87, _, _, _, _, _⟩) (v := undef) rfl (by kernel_rfl) (by kernel_rfl) (by kernel_rfl) (by decide) (fun _ _ _ h => by obtain ⟨h, -⟩ := h; cases h) h01 rfl hHeld (Or.inr ⟨by rfl, rfl⟩) ?_
      try simp only [Act.put, List.setIfInBounds_toArray, List.set_cons_zero, List.set_cons_succ]
      refine wpG_takeB (i := 4) (oi := ⟨some 88, _, _, _, _, _⟩) (v := undef) rfl (by kernel_rfl) (by kernel_rfl) (by kernel_rfl) (by decide) (fun _ _ _ h => by obtain ⟨h, -⟩ := h; cases h) h01 rfl hHeld (Or.inr ⟨by rfl, rfl⟩) ?_
      try simp only [Act.put, List.setIfInBounds_toArray, List.set_cons_zero, List.set_cons_succ]
      refine wpG_takeB (i := 5) (oi := ⟨some 89, _, _, _, _, _⟩) (v := undef) rfl (by kernel_rfl) (by kernel_rfl) (by kernel_rfl) (by decide) (fun _ _ _ h => by obtain ⟨h, -⟩ := h; cases h) h01 rfl hHeld (Or.inr ⟨by rfl, rfl⟩) ?_
      try simp only [Act.put, List.setIfInBounds_toArray, List.set_cons_zero, List.set_cons_succ]
      refine wpG_takeB (i := 6) (oi := ⟨some 90, _, _, _, _, _⟩) (v := undef) rfl (by kernel_rfl) (by kernel_rfl) (by kernel_rfl) (by decide) (fun _ _ _ h => by obtain ⟨h, -⟩ := h; cases h) h01 rfl hHeld (Or.inr ⟨by rfl, rfl⟩) ?_
      try simp only [Act.put, List.setIfInBounds_toArray, List.set_cons_zero, List.set_cons_succ]
      refine wpG_takeB (i := 7) (oi := ⟨some 91, _, _, _, _, _⟩) (v := undef) rfl (by kernel_rfl) (by kernel_rfl) (by kernel_rfl) (by decide) (fun _ _ _ h => by obtain ⟨h, -⟩ := h; cases h) h01 rfl hHeld (Or.inr ⟨by rfl, rfl⟩) ?_
      try simp only [Act.put, List.setIfInBounds_toArray, List.set_cons_zero, List.set_cons_succ]
      refine wpG_takeB (i := 8) (oi := ⟨some 92, _, _, _, _, _⟩) (v := .bool false) rfl (by kernel_rfl) (by kernel_rfl) (by kernel_rfl) (by decide) (fun _ _ _ h => by obtain ⟨h, -⟩ := h; cases h) h01 rfl hHeld (Or.inl ⟨by rfl, ?_⟩) ?_
      · (intro W9 hSw; obtain ⟨v1, v2, v3⟩ := hSw; clear v3; go_simp; (try (first | with_reducible rfl | rfl)))
      try simp only [Act.put, List.setIfInBounds_toArray, List.set_cons_zero, List.set_cons_succ]
      refine wpG_takeB (i := 9) (oi := ⟨some 93, _, _, _, _, _⟩) (v := .bool false) rfl (by kernel_rfl) (by kernel_rfl) (by kernel_rfl) (by decide) (fun _ _ _ h => by obtain ⟨h, -⟩ := h; cases h) h01 rfl hHeld (Or.inl ⟨by rfl, ?_⟩) ?_
      · (intro W9 hSw; obtain ⟨v1, v2, v3⟩ := hSw; clear v3; go_simp; (try (first | with_reducible rfl | rfl)))
      try simp only [Act.put, List.setIfInBounds_toArray, List.set_cons_zero, List.set_cons_succ]
      refine wpG_takeB (i := 10) (oi := ⟨some 94, _, _, _, _, _⟩) (v := undef) rfl (by kernel_rfl) (by kernel_rfl) (by kernel_rfl) (by decide) (fun _ _ _ h => by obtain ⟨h, -⟩ := h; cases h) h01 rfl hHeld (Or.inr ⟨by rfl, rfl⟩) ?_
      try simp only [Act.put, List.setIfInBounds_toArray, List.set_cons_zero, List.set_cons_succ]
      refine wpG_takeB (i := 11) (oi := ⟨some 95, _, _, _, _, _⟩) (v := undef) rfl (by kernel_rfl) (by kernel_rfl) (by kernel_rfl) (by decide) (fun _ _ _ h => by obtain ⟨h, -⟩ := h; cases h) h01 rfl hHeld (Or.inr ⟨by rfl, rfl⟩) ?_
      try simp only [Act.put, List.setIfInBounds_toArray, List.set_cons_zero, List.set_cons_succ]
      refine wpG_takeB (i := 12) (oi := ⟨some 96, _, _, _, _, _⟩) (v := undef) rfl (by kernel_rfl) (by kernel_rfl) (by kernel_rfl) (by decide) (fun _ _ _ h => by obtain ⟨h, -⟩ := h; cases h) h01 rfl hHeld (Or.inr ⟨by rfl, rfl⟩) ?_
      try simp only [Act.put, List.setIfInBounds_toArray, List.set_cons_zero, List.set_cons_succ]
      refine wpG_takeB (i := 13) (oi := ⟨some 97, _, _, _, _, _⟩) (v := undef) rfl (by kernel_rfl) (by kernel_rfl) (by kernel_rfl) (by decide) (fun _ _ _ h => by obtain ⟨h, -⟩ := h; cases h) h01 rfl hHeld (Or.inr ⟨by rfl, rfl⟩) ?_
      try simp only [Act.put, List.setIfInBounds_toArray, List.set_cons_zero, List.set_cons_succ]
      refine wpG_takeB (i := 14) (oi := ⟨some 98, _, _, _, _, _⟩) (v := undef) rfl (by kernel_rfl) (by kernel_rfl) (by kernel_rfl) (by decide) (fun _ _ _ h => by obtain ⟨h, -⟩ := h; cases h) h01 rfl hHeld (Or.inr ⟨by rfl, rfl⟩) ?_
      try simp only [Act.put, List.setIfInBounds_toArray, List.set_cons_zero, List.set_cons_succ]
      refine wpG_takeB (i := 15) (oi := ⟨some 99, _, _, _, _, _⟩) (v := undef) rfl (by kernel_rfl) (by kernel_rfl) (by kernel_rfl) (by decide) (fun _ _ _ h => by obtain ⟨h, -⟩ := h; cases h) h01 rfl hHeld (Or.inr ⟨by rfl, rfl⟩) ?_
      try simp only [Act.put, List.setIfInBounds_toArray, List.set_cons_zero, List.set_cons_succ]
      refine wpG_takeB (i := 16) (oi := ⟨some 100, _, _, _, _, _⟩) (v := undef) rfl (by kernel_rfl) (by kernel_rfl) (by kernel_rfl) (by decide) (fun _ _ _ h => by obtain ⟨h, -⟩ := h; cases h) h01 rfl hHeld (Or.inr ⟨by rfl, rfl⟩) ?_
      try simp only [Act.put, List.setIfInBounds_toArray, List.set_cons_zero, List.set_cons_succ]
      refine wpG_takeB (i := 17) (oi := ⟨some 101, _, _, _, _, _⟩) (v := .bool false) rfl (by kernel_rfl) (by kernel_rfl) (by kernel_rfl) (by decide) (fun _ _ _ h => by obtain ⟨h, -⟩ := h; cases h) h01 rfl hHeld (Or.inl ⟨by rfl, ?_⟩) ?_
      · (intro W9 hSw; obtain ⟨v1, v2, v3⟩ := hSw; clear v3; go_simp; (try (first | with_reducible rfl | rfl)))
      try simp only [Act.put, List.setIfInBounds_toArray, List.set_cons_zero, List.set_cons_succ]
      refine wpG_done (by kernel_rfl) ⟨rfl, ?_⟩ _
      clear hHeld h01
      obtain ⟨Wd, hWd⟩ : ∃ Wd, w2.drew = Wd := ⟨_, rfl⟩
      have BWd := Lib.hid (show Below Wx.heap.size Wx Wd from hWd ▸ below_drew BW2.out)
      rw [hWd]
      gi_wp2_with fail
      obtain ⟨Sx, hSx⟩ : ∃ Sx : ByteArray, ⟨(formB u (k0 u + j)).toArray⟩ = Sx := ⟨_, rfl⟩
      have K6d := Lib.hid (I1.out.below (below_drew BWd.out) I1.out.lt)
      have K7d := Lib.hid (I2.out.below (below_drew BWd.out) I2.out.lt)
      have K6e := Lib.hid (I1.out.below BWd.out I1.out.lt)
      have K7e := Lib.hid (I2.out.below BWd.out I2.out.lt)
      have f6 := K6e.out.frozen 0
      have f7 := K7e.out.frozen 0
      have e6d := K6e.out.cell 0
      have e7d := K7e.out.cell 0
      simp only [List.getElem?_toArray, List.getElem?_cons_zero] at e6d e7d
      have hh0 := Holds.drew ((holds_own HO.out).keep BWd.out)
      have hxl : (formB u (k0 u + j)).length = mm := by rw [formB_length]; exact HMM.out
      have hne6 : w.heap.size + 1 + 1 + 1 + 1 ≠ g := by have := HZK.out; omega
      have hne7 : w.heap.size + 1 + 1 + 1 + 1 + 1 ≠ g := by have := HZK.out; omega
      have hh1 := holds_far hh0 (p := ⟨w.heap.size + 1 + 1 + 1 + 1, 0, none⟩) hne6 (.bool false)
      have hh2 := holds_far hh1 (p := ⟨w.heap.size + 1 + 1 + 1 + 1 + 1, 0, none⟩) hne7 (.string Sx)
      have HX := Lib.hid (And.intro hxl (And.intro hh0 (And.intro hh1 hh2)))
      have HNE := Lib.hid (And.intro hne6 hne7)
      have HSX := Lib.hid hSx
      clear hxl hh0 hh1 hh2 hne6 hne7 hSx
      refine region_round (S := (fun W : World => Holds W (some ⟨g, 0, none⟩) mm ((formB u (k0 u + j)).map u8))) (c := 99) (by kernel_rfl) (by kernel_rfl) ?_
      have hHeld := HX.out.2.1
      have h01 := (fun (W : World) (h : Holds W (some ⟨g, 0, none⟩) mm ((formB u (k0 u + j)).map u8)) => h)
      refine wpG_takeB (i := 0) (oi := ⟨some 102, _, _, _, _, _⟩) (v := .slice (some ⟨g, 0, none⟩) mm cap) rfl (by kernel_rfl) (by kernel_rfl) (by kernel_rfl) (by decide) (fun _ _ _ h => by obtain ⟨h, -⟩ := h; cases h) h01 rfl hHeld (Or.inl ⟨by rfl, ?_⟩) ?_
      · (intro W9 hSw; clear hSw; go_simp; (try (first | with_reducible rfl | rfl)))
      try simp only [Act.put, List.setIfInBounds_toArray, List.set_cons_zero, List.set_cons_succ]
      refine wpG_takeB (i := 1) (oi := ⟨some 103, _, _, _, _, _⟩) (v := .string Sx) rfl (by kernel_rfl) (by kernel_rfl) (by kernel_rfl) (by decide) (fun _ _ _ h => by obtain ⟨h, -⟩ := h; cases h) h01 rfl hHeld (Or.inl ⟨by rfl, ?_⟩) ?_
      · (intro W9 hSw; have hcx := conv_bs (P := Try.prog) W9 22 9 5 Try.underlying22 Try.underlying5 Try.underlying9 (A := some ⟨g, 0, none⟩) (c := cap) HX.out.1 hSw; rw [HSX.out] at hcx; clear hSw; go_simp; (try (first | with_reducible rfl | rfl)))
      try simp only [Act.put, List.setIfInBounds_toArray, List.set_cons_zero, List.set_cons_succ]
      clear hHeld
      refine wpG_oneB (i := 2) (o := ⟨none, _, _, _, _, _⟩) (by kernel_rfl) rfl rfl (fun K hK => ?_)
      go_simp
      refine hK.out _ _ HX.out.2.2.1 (fun hHeld => ?_)
      clear hK K hHeld
      try simp only [Act.put, List.setIfInBounds_toArray, List.set_cons_zero, List.set_cons_succ]
      refine wpG_oneB (i := 3) (o := ⟨none, _, _, _, _, _⟩) (by kernel_rfl) rfl rfl (fun K hK => ?_)
      go_simp
      refine hK.out _ _ HX.out.2.2.2 (fun hHeld => ?_)
      clear hK K hHeld
      try simp only [Act.put, List.setIfInBounds_toArray, List.set_cons_zero, List.set_cons_succ]
      refine wpG_done (by kernel_rfl) ⟨rfl, ?_⟩ _
      have HX8 := Lib.hid h01
      clear h01 HX8
      have hz9 := HZK.out
      have BF := below_drew BWd.out
      have hzf := BF.size
      have fin : KeepsFrom Wk.heap.size Wx ((Wd.drew.setCell ⟨w.heap.size + 1 + 1 + 1 + 1, 0, none⟩ (.bool false)).setCell ⟨w.heap.size + 1 + 1 + 1 + 1 + 1, 0, none⟩ (.string Sx)) ∧ FKp (w.heap.size + 1 + 1 + 1) (Wk.heap.size + 2) #[.slice (some ⟨g, 0, none⟩) mm cap] X ((Wd.drew.setCell ⟨w.heap.size + 1 + 1 + 1 + 1, 0, none⟩ (.bool false)).setCell ⟨w.heap.size + 1 + 1 + 1 + 1 + 1, 0, none⟩ (.string Sx)) ∧ XI W7 (w.heap.size + 1 + 1 + 1 + 1) (w.heap.size + 1 + 1 + 1 + 1 + 1) Wk.heap.size u (j + 1) ((Wd.drew.setCell ⟨w.heap.size + 1 + 1 + 1 + 1, 0, none⟩ (.bool false)).setCell ⟨w.heap.size + 1 + 1 + 1 + 1 + 1, 0, none⟩ (.string Sx)) := by
        have g6 : ∀ (W : World) (v : Value) (k : Nat), k ≠ w.heap.size + 1 + 1 + 1 + 1 → (W.setCell ⟨w.heap.size + 1 + 1 + 1 + 1, 0, none⟩ v).heap[k]? = W.heap[k]? := fun W v k h => Below.heap_setCell _ _ _ _ (by simpa using h)
        have g7 : ∀ (W : World) (v : Value) (k : Nat), k ≠ w.heap.size + 1 + 1 + 1 + 1 + 1 → (W.setCell ⟨w.heap.size + 1 + 1 + 1 + 1 + 1, 0, none⟩ v).heap[k]? = W.heap[k]? := fun W v k h => Below.heap_setCell _ _ _ _ (by simpa using h)
        refine ⟨⟨by rw [World.size_setCell, World.size_setCell]; exact hzf, fun k o hk ho hc => ?_⟩, ⟨by rw [World.size_setCell, World.size_setCell]; exact Nat.le_trans HFK.out.1 hzf, ?_, fun k hk hkX hne => ?_⟩, ⟨?_, ?_, ?_, ?_⟩⟩
        · rw [g7 _ _ _ (by omega), g6 _ _ _ (by omega), BF.block k (Array.getElem?_eq_some_iff.1 ho).1]; exact ho
        · rw [g7 _ _ _ (by omega), g6 _ _ _ (by omega), BF.block _ (by have := KV.out.lt; have := I1.out.lt; omega)]; exact HFK.out.2.1
        · rw [g7 _ _ _ (by omega), g6 _ _ _ (by omega), BF.block k (by have := HFK.out.1; omega)]; exact HFK.out.2.2 k hk hkX hne
        · have h9 := (K6d.out.set_ 0 (.bool false)).far (p := ⟨w.heap.size + 1 + 1 + 1 + 1 + 1, 0, none⟩) (by simp) (.string Sx)
          rw [show decide (j + 1 = 0) = false from by simp]
          simpa using h9
        · have h9 := (K7d.out.far (p := ⟨w.heap.size + 1 + 1 + 1 + 1, 0, none⟩) (by simp) (.bool false)).set_ 0 (.string Sx)
          rw [show lastS u (j + 1) = Sx from by unfold lastS; rw [if_neg (by omega)]; exact HSX.out]
          simpa using h9
        · exact Below.setCell (Below.setCell (I3.out.trans (BF.mono I3.out.size)) (by simp; omega) _) (by simp; omega) _
        · rw [World.size_setCell, World.size_setCell]; exact Nat.le_trans I4.out hzf
      exact fin
    · rw [form_later u (k0 u + j) fl hu hkj (by omega)] at cf
      simp only [tup3] at cf
      have CF := Lib.hid cf
      have HVU := Lib.hid (And.intro huv (And.intro hu e1))
      clear cf huv hu e1 hkj hN5'
      have k6 := I1.out.below BW2.out I1.out.lt
      have k7 := I2.out.below BW2.out I2.out.lt
      have ev := (KV.out.below BW2.out KV.out.lt).cell 0
      have e6 := k6.cell 0
      have e7 := k7.cell 0
      simp only [List.getElem?_toArray, List.getElem?_cons_zero] at ev e6 e7
      have K6 := Lib.hid k6
      have K7 := Lib.hid k7
      clear k6 k7
      rw [decide_eq_false hj0] at e6
      obtain ⟨p, hp⟩ : ∃ p, mm = p + 1 := ⟨k0 u + j, HMM.out.symm⟩
      have hkp : k0 u + j = p := by have := HMM.out; omega
      obtain ⟨r, hr9⟩ : ∃ r, p = r + 1 := ⟨p - 1, by omega⟩
      have hLa : lastS u j = ⟨(formB u r).toArray⟩ := by unfold lastS; rw [if_neg hj0, hkp, hr9]; rfl
      rw [hLa] at e7
      have hTT : (⟨((formB u p).take p).toArray⟩ : ByteArray).toList ≠ (⟨(formB u r).toArray⟩ : ByteArray).toList := by
        refine fun h => form_apart u r ?_
        rw [← hr9]
        rw [ByteArray.toList_eq, ByteArray.toList_eq] at h
        simpa using h
      have hsz : (⟨(formB u r).toArray⟩ : ByteArray).size = p := by rw [hr9]; show (formB u r).toArray.size = _; simp [formB_length]
      have hcv := conv_bs (P := Try.prog) w2.drew 22 9 5 Try.underlying22 Try.underlying5 Try.underlying9 (A := some ⟨g, 0, none⟩) (c := cap) (l := (formB u p).take p) (n := p) (by rw [List.length_take, formB_length]; omega) (by
        have h9 := (holds_own HO.out).keep BW2.out
        rw [hkp] at h9
        refine ⟨by rw [List.length_map, List.length_take, formB_length]; omega, (fun h => by cases h), fun b hb jj uu huu => ?_⟩
        rw [List.map_take] at huu
        rw [List.getElem?_take] at huu
        split at huu
        · exact h9.2.2 b hb jj uu huu
        · cases huu)
      have hgc : mm ≤ cap := by obtain ⟨A3, c3, e3, h3, -⟩ := own_form HO.out; cases e3; exact h3
      generalize (⟨(formB u r).toArray⟩ : ByteArray) = La at *
      generalize (⟨((formB u p).take p).toArray⟩ : ByteArray) = Ta at *
      have HJ0 := Lib.hid hj0
      have HKP := Lib.hid hkp
      have HR9 := Lib.hid hr9
      clear hj0 hkp hr9 hLa
      have hpm : p < mm := by omega
      have hpI : (p : Int) ≤ 20 := by have := k0_le u; have := HMM.out; omega
      have hp0 : (0 : Int) ≤ p := by omega
      have HP := Lib.hid hp
      clear hp
      have hMM : (mm : Int) ≤ 20 := by have := k0_le u; have := HMM.out; omega
      gi_wp2_with (first | (gi_at_call 14; (with_reducible refine CallsIn.inRound _ ((callsIn_wide.2 CT.out).mono ?_)); rintro e w3 ⟨rfl, rfl⟩; clear CT; refine Hid.out ?_))
      refine Lib.hid ?_
      gi_wp2_with (first | (gi_at_call 14; (with_reducible refine CallsIn.inRound _ ((callsIn_wide.2 CF.out).mono ?_)); rintro e w3 ⟨rfl, rfl⟩))
      all_goals try (have hx : some undef = some (Value.bool ?_) := by assumption; cases hx; done)
      all_goals try (rename_i hx hy; cases hx; done)
      all_goals
        refine region_round (S := (XR15 (w.heap.size + 1 + 1 + 1 + 1) (w.heap.size + 1 + 1 + 1 + 1 + 1) false La Ta g p cap)) (c := 99) (by kernel_rfl) (by kernel_rfl) ?_
        have hHeld := (show XR15 (w.heap.size + 1 + 1 + 1 + 1) (w.heap.size + 1 + 1 + 1 + 1 + 1) false La Ta g p cap w2.drew from ⟨e6, e7, fun _ => ⟨hsz, hTT, by omega, hcv⟩⟩)
        have h01 := (fun (W : World) (h : (XR15 (w.heap.size + 1 + 1 + 1 + 1) (w.heap.size + 1 + 1 + 1 + 1 + 1) false La Ta g p cap) W) => h)
        refine wpG_takeB (i := 0) (oi := ⟨some 84, _, _, _, _, _⟩) (v := .bool false) rfl (by kernel_rfl) (by kernel_rfl) (by kernel_rfl) (by decide) (fun _ _ _ h => by obtain ⟨h, -⟩ := h; cases h) h01 rfl hHeld (Or.inl ⟨by rfl, ?_⟩) ?_
        · (intro W9 hSw; obtain ⟨v1, v2, v3⟩ := hSw; obtain ⟨v3, v4, v5, v6⟩ := v3 rfl; go_simp; (try (first | with_reducible rfl | rfl)))
        try simp only [Act.put, List.setIfInBounds_toArray, List.set_cons_zero, List.set_cons_succ]
        refine wpG_takeB (i := 1) (oi := ⟨some 85, _, _, _, _, _⟩) (v := .bool true) rfl (by kernel_rfl) (by kernel_rfl) (by kernel_rfl) (by decide) (fun _ _ _ h => by obtain ⟨h, -⟩ := h; cases h) h01 rfl hHeld (Or.inl ⟨by rfl, ?_⟩) ?_
        · (intro W9 hSw; obtain ⟨v1, v2, v3⟩ := hSw; obtain ⟨v3, v4, v5, v6⟩ := v3 rfl; go_simp; (try (first | with_reducible rfl | rfl)))
        try simp only [Act.put, List.setIfInBounds_toArray, List.set_cons_zero, List.set_cons_succ]
        refine wpG_takeB (i := 2) (oi := ⟨some 86, _, _, _, _, _⟩) (v := .bool true) rfl (by kernel_rfl) (by kernel_rfl) (by kernel_rfl) (by decide) (fun _ _ _ h => by obtain ⟨h, -⟩ := h; cases h) h01 rfl hHeld (Or.inl ⟨by rfl, ?_⟩) ?_
        · (intro W9 hSw; obtain ⟨v1, v2, v3⟩ := hSw; obtain ⟨v3, v4, v5, v6⟩ := v3 rfl; go_simp; (try (first | with_reducible rfl | rfl)))
        try simp only [Act.put, List.setIfInBounds_toArray, List.set_cons_zero, List.set_cons_succ]
        refine wpG_takeB (i := 3) (oi := ⟨some 87, _, _, _, _, _⟩) (v := .string La) rfl (by kernel_rfl) (by kernel_rfl) (by kernel_rfl) (by decide) (fun _ _ _ h => by obtain ⟨h, -⟩ := h; cases h) h01 rfl hHeld (Or.inl ⟨by rfl, ?_⟩) ?_
        · (intro W9 hSw; obtain ⟨v1, v2, v3⟩ := hSw; obtain ⟨v3, v4, v5, v6⟩ := v3 rfl; go_simp; (try (first | with_reducible rfl | rfl)))
        try simp only [Act.put, List.setIfInBounds_toArray, List.set_cons_zero, List.set_cons_succ]
        refine wpG_takeB (i := 4) (oi := ⟨some 88, _, _, _, _, _⟩) (v := .int .i64 (p : Int)) rfl (by kernel_rfl) (by kernel_rfl) (by kernel_rfl) (by decide) (fun _ _ _ h => by obtain ⟨h, -⟩ := h; cases h) h01 rfl hHeld (Or.inl ⟨by rfl, ?_⟩) ?_
        · (intro W9 hSw; obtain ⟨v1, v2, v3⟩ := hSw; obtain ⟨v3, v4, v5, v6⟩ := v3 rfl; go_simp; (try (first | with_reducible rfl | rfl)))
        try simp only [Act.put, List.setIfInBounds_toArray, List.set_cons_zero, List.set_cons_succ]
        refine wpG_takeB (i := 5) (oi := ⟨some 89, _, _, _, _, _⟩) (v := .slice (some ⟨g, 0, none⟩) mm cap) rfl (by kernel_rfl) (by kernel_rfl) (by kernel_rfl) (by decide) (fun _ _ _ h => by obtain ⟨h, -⟩ := h; cases h) h01 rfl hHeld (Or.inl ⟨by rfl, ?_⟩) ?_
        · (intro W9 hSw; obtain ⟨v1, v2, v3⟩ := hSw; obtain ⟨v3, v4, v5, v6⟩ := v3 rfl; go_simp; (try (first | with_reducible rfl | rfl)))
        try simp only [Act.put, List.setIfInBounds_toArray, List.set_cons_zero, List.set_cons_succ]
        refine wpG_takeB (i := 6) (oi := ⟨some 90, _, _, _, _, _⟩) (v := .int .i64 (mm : Int)) rfl (by kernel_rfl) (by kernel_rfl) (by kernel_rfl) (by decide) (fun _ _ _ h => by obtain ⟨h, -⟩ := h; cases h) h01 rfl hHeld (Or.inl ⟨by rfl, ?_⟩) ?_
        · (intro W9 hSw; obtain ⟨v1, v2, v3⟩ := hSw; obtain ⟨v3, v4, v5, v6⟩ := v3 rfl; go_simp; (try (first | with_reducible rfl | rfl)))
        try simp only [Act.put, List.setIfInBounds_toArray, List.set_cons_zero, List.set_cons_succ]
        refine wpG_takeB (i := 7) (oi := ⟨some 91, _, _, _, _, _⟩) (v := .bool true) rfl (by kernel_rfl) (by kernel_rfl) (by kernel_rfl) (by decide) (fun _ _ _ h => by obtain ⟨h, -⟩ := h; cases h) h01 rfl hHeld (Or.inl ⟨by rfl, ?_⟩) ?_
        · (intro W9 hSw; obtain ⟨v1, v2, v3⟩ := hSw; obtain ⟨v3, v4, v5, v6⟩ := v3 rfl; go_simp; (try (first | with_reducible rfl | rfl)))
        try simp only [Act.put, List.setIfInBounds_toArray, List.set_cons_zero, List.set_cons_succ]
        refine wpG_takeB (i := 8) (oi := ⟨some 92, _, _, _, _, _⟩) (v := .bool true) rfl (by kernel_rfl) (by kernel_rfl) (by kernel_rfl) (by decide) (fun _ _ _ h => by obtain ⟨h, -⟩ := h; cases h) h01 rfl hHeld (Or.inl ⟨by rfl, ?_⟩) ?_
        · (intro W9 hSw; obtain ⟨v1, v2, v3⟩ := hSw; obtain ⟨v3, v4, v5, v6⟩ := v3 rfl; go_simp; (try (first | with_reducible rfl | rfl)))
        try simp only [Act.put, List.setIfInBounds_toArray, List.set_cons_zero, List.set_cons_succ]
        refine wpG_takeB (i := 9) (oi := ⟨some 93, _, _, _, _, _⟩) (v := .bool true) rfl (by kernel_rfl) (by kernel_rfl) (by kernel_rfl) (by decide) (fun _ _ _ h => by obtain ⟨h, -⟩ := h; cases h) h01 rfl hHeld (Or.inl ⟨by rfl, ?_⟩) ?_
        · (intro W9 hSw; obtain ⟨v1, v2, v3⟩ := hSw; obtain ⟨v3, v4, v5, v6⟩ := v3 rfl; go_simp; (try (first | with_reducible rfl | rfl)))
        try simp only [Act.put, List.setIfInBounds_toArray, List.set_cons_zero, List.set_cons_succ]
        refine wpG_takeB (i := 10) (oi := ⟨some 94, _, _, _, _, _⟩) (v := .slice (some ⟨g, 0, none⟩) mm cap) rfl (by kernel_rfl) (by kernel_rfl) (by kernel_rfl) (by decide) (fun _ _ _ h => by obtain ⟨h, -⟩ := h; cases h) h01 rfl hHeld (Or.inl ⟨by rfl, ?_⟩) ?_
        · (intro W9 hSw; obtain ⟨v1, v2, v3⟩ := hSw; obtain ⟨v3, v4, v5, v6⟩ := v3 rfl; go_simp; (try (first | with_reducible rfl | rfl)))
        try simp only [Act.put, List.setIfInBounds_toArray, List.set_cons_zero, List.set_cons_succ]
        refine wpG_takeB (i := 11) (oi := ⟨some 95, _, _, _, _, _⟩) (v := .string La) rfl (by kernel_rfl) (by kernel_rfl) (by kernel_rfl) (by decide) (fun _ _ _ h => by obtain ⟨h, -⟩ := h; cases h) h01 rfl hHeld (Or.inl ⟨by rfl, ?_⟩) ?_
        · (intro W9 hSw; obtain ⟨v1, v2, v3⟩ := hSw; obtain ⟨v3, v4, v5, v6⟩ := v3 rfl; go_simp; (try (first | with_reducible rfl | rfl)))
        try simp only [Act.put, List.setIfInBounds_toArray, List.set_cons_zero, List.set_cons_succ]
        refine wpG_takeB (i := 12) (oi := ⟨some 96, _, _, _, _, _⟩) (v := .int .i64 (p : Int)) rfl (by kernel_rfl) (by kernel_rfl) (by kernel_rfl) (by decide) (fun _ _ _ h => by obtain ⟨h, -⟩ := h; cases h) h01 rfl hHeld (Or.inl ⟨by rfl, ?_⟩) ?_
        · (intro W9 hSw; obtain ⟨v1, v2, v3⟩ := hSw; obtain ⟨v3, v4, v5, v6⟩ := v3 rfl; go_simp; (try (first | with_reducible rfl | rfl)))
        try simp only [Act.put, List.setIfInBounds_toArray, List.set_cons_zero, List.set_cons_succ]
        refine wpG_takeB (i := 13) (oi := ⟨some 97, _, _, _, _, _⟩) (v := .slice (some ⟨g, 0, none⟩) p cap) rfl (by kernel_rfl) (by kernel_rfl) (by kernel_rfl) (by decide) (fun _ _ _ h => by obtain ⟨h, -⟩ := h; cases h) h01 rfl hHeld (Or.inl ⟨by rfl, ?_⟩) ?_
        · (intro W9 hSw; obtain ⟨v1, v2, v3⟩ := hSw; obtain ⟨v3, v4, v5, v6⟩ := v3 rfl; go_simp; (try (first | with_reducible rfl | rfl)))
        try simp only [Act.put, List.setIfInBounds_toArray, List.set_cons_zero, List.set_cons_succ]
        refine wpG_takeB (i := 14) (oi := ⟨some 98, _, _, _, _, _⟩) (v := .string Ta) rfl (by kernel_rfl) (by kernel_rfl) (by kernel_rfl) (by decide) (fun _ _ _ h => by obtain ⟨h, -⟩ := h; cases h) h01 rfl hHeld (Or.inl ⟨by rfl, ?_⟩) ?_
        · (intro W9 hSw; obtain ⟨v1, v2, v3⟩ := hSw; obtain ⟨v3, v4, v5, v6⟩ := v3 rfl; go_simp; (try (first | with_reducible rfl | rfl)))
        try simp only [Act.put, List.setIfInBounds_toArray, List.set_cons_zero, List.set_cons_succ]
        refine wpG_takeB (i := 15) (oi := ⟨some 99, _, _, _, _, _⟩) (v := .string La) rfl (by kernel_rfl) (by kernel_rfl) (by kernel_rfl) (by decide) (fun _ _ _ h => by obtain ⟨h, -⟩ := h; cases h) h01 rfl hHeld (Or.inl ⟨by rfl, ?_⟩) ?_
        · (intro W9 hSw; obtain ⟨v1, v2, v3⟩ := hSw; obtain ⟨v3, v4, v5, v6⟩ := v3 rfl; go_simp; (try (first | with_reducible rfl | rfl)))
        try simp only [Act.put, List.setIfInBounds_toArray, List.set_cons_zero, List.set_cons_succ]
        refine wpG_takeB (i := 16) (oi := ⟨some 100, _, _, _, _, _⟩) (v := .bool false) rfl (by kernel_rfl) (by kernel_rfl) (by kernel_rfl) (by decide) (fun _ _ _ h => by obtain ⟨h, -⟩ := h; cases h) h01 rfl hHeld (Or.inl ⟨by rfl, ?_⟩) ?_
        · (intro W9 hSw; obtain ⟨v1, v2, v3⟩ := hSw; obtain ⟨v3, v4, v5, v6⟩ := v3 rfl; go_simp; (try (first | with_reducible rfl | rfl)))
        try simp only [Act.put, List.setIfInBounds_toArray, List.set_cons_zero, List.set_cons_succ]
        refine wpG_takeB (i := 17) (oi := ⟨some 101, _, _, _, _, _⟩) (v := .bool false) rfl (by kernel_rfl) (by kernel_rfl) (by kernel_rfl) (by decide) (fun _ _ _ h => by obtain ⟨h, -⟩ := h; cases h) h01 rfl hHeld (Or.inl ⟨by rfl, ?_⟩) ?_
        · (intro W9 hSw; obtain ⟨v1, v2, v3⟩ := hSw; obtain ⟨v3, v4, v5, v6⟩ := v3 rfl; go_simp; (try (first | with_reducible rfl | rfl)))
        try simp only [Act.put, List.setIfInBounds_toArray, List.set_cons_zero, List.set_cons_succ]
        refine wpG_done (by kernel_rfl) ⟨rfl, ?_⟩ _
        clear hHeld h01
        obtain ⟨Wd, hWd⟩ : ∃ Wd, w2.drew = Wd := ⟨_, rfl⟩
        have BWd := Lib.hid (show Below Wx.heap.size Wx Wd from hWd ▸ below_drew BW2.out)
        rw [hWd]
        gi_wp2_with fail
        obtain ⟨Sx, hSx⟩ : ∃ Sx : ByteArray, ⟨(formB u (k0 u + j)).toArray⟩ = Sx := ⟨_, rfl⟩
        have K6d := Lib.hid (I1.out.below (below_drew BWd.out) I1.out.lt)
        have K7d := Lib.hid (I2.out.below (below_drew BWd.out) I2.out.lt)
        have K6e := Lib.hid (I1.out.below BWd.out I1.out.lt)
        have K7e := Lib.hid (I2.out.below BWd.out I2.out.lt)
        have f6 := K6e.out.frozen 0
        have f7 := K7e.out.frozen 0
        have e6d := K6e.out.cell 0
        have e7d := K7e.out.cell 0
        simp only [List.getElem?_toArray, List.getElem?_cons_zero] at e6d e7d
        have hh0 := Holds.drew ((holds_own HO.out).keep BWd.out)
        have hxl : (formB u (k0 u + j)).length = mm := by rw [formB_length]; exact HMM.out
        have hne6 : w.heap.size + 1 + 1 + 1 + 1 ≠ g := by have := HZK.out; omega
        have hne7 : w.heap.size + 1 + 1 + 1 + 1 + 1 ≠ g := by have := HZK.out; omega
        have hh1 := holds_far hh0 (p := ⟨w.heap.size + 1 + 1 + 1 + 1, 0, none⟩) hne6 (.bool false)
        have hh2 := holds_far hh1 (p := ⟨w.heap.size + 1 + 1 + 1 + 1 + 1, 0, none⟩) hne7 (.string Sx)
        have HX := Lib.hid (And.intro hxl (And.intro hh0 (And.intro hh1 hh2)))
        have HNE := Lib.hid (And.intro hne6 hne7)
        have HSX := Lib.hid hSx
        clear hxl hh0 hh1 hh2 hne6 hne7 hSx
        refine region_round (S := (fun W : World => Holds W (some ⟨g, 0, none⟩) mm ((formB u (k0 u + j)).map u8))) (c := 99) (by kernel_rfl) (by kernel_rfl) ?_
        have hHeld := HX.out.2.1
        have h01 := (fun (W : World) (h : Holds W (some ⟨g, 0, none⟩) mm ((formB u (k0 u + j)).map u8)) => h)
        refine wpG_takeB (i := 0) (oi := ⟨some 102, _, _, _, _, _⟩) (v := .slice (some ⟨g, 0, none⟩) mm cap) rfl (by kernel_rfl) (by kernel_rfl) (by kernel_rfl) (by decide) (fun _ _ _ h => by obtain ⟨h, -⟩ := h; cases h) h01 rfl hHeld (Or.inl ⟨by rfl, ?_⟩) ?_
        · (intro W9 hSw; clear hSw; go_simp; (try (first | with_reducible rfl | rfl)))
        try simp only [Act.put, List.setIfInBounds_toArray, List.set_cons_zero, List.set_cons_succ]
        refine wpG_takeB (i := 1) (oi := ⟨some 103, _, _, _, _, _⟩) (v := .string Sx) rfl (by kernel_rfl) (by kernel_rfl) (by kernel_rfl) (by decide) (fun _ _ _ h => by obtain ⟨h, -⟩ := h; cases h) h01 rfl hHeld (Or.inl ⟨by rfl, ?_⟩) ?_
        · (intro W9 hSw; have hcx := conv_bs (P := Try.prog) W9 22 9 5 Try.underlying22 Try.underlying5 Try.underlying9 (A := some ⟨g, 0, none⟩) (c := cap) HX.out.1 hSw; rw [HSX.out] at hcx; clear hSw; go_simp; (try (first | with_reducible rfl | rfl)))
        try simp only [Act.put, List.setIfInBounds_toArray, List.set_cons_zero, List.set_cons_succ]
        clear hHeld
        refine wpG_oneB (i := 2) (o := ⟨none, _, _, _, _, _⟩) (by kernel_rfl) rfl rfl (fun K hK => ?_)
        go_simp
        refine hK.out _ _ HX.out.2.2.1 (fun hHeld => ?_)
        clear hK K hHeld
        try simp only [Act.put, List.setIfInBounds_toArray, List.set_cons_zero, List.set_cons_succ]
        refine wpG_oneB (i := 3) (o := ⟨none, _, _, _, _, _⟩) (by kernel_rfl) rfl rfl (fun K hK => ?_)
        go_simp
        refine hK.out _ _ HX.out.2.2.2 (fun hHeld => ?_)
        clear hK K hHeld
        try simp only [Act.put, List.setIfInBounds_toArray, List.set_cons_zero, List.set_cons_succ]
        refine wpG_done (by kernel_rfl) ⟨rfl, ?_⟩ _
        have HX8 := Lib.hid h01
        clear h01 HX8
        have hz9 := HZK.out
        have BF := below_drew BWd.out
        have hzf := BF.size
        have fin : KeepsFrom Wk.heap.size Wx ((Wd.drew.setCell ⟨w.heap.size + 1 + 1 + 1 + 1, 0, none⟩ (.bool false)).setCell ⟨w.heap.size + 1 + 1 + 1 + 1 + 1, 0, none⟩ (.string Sx)) ∧ FKp (w.heap.size + 1 + 1 + 1) (Wk.heap.size + 2) #[.slice (some ⟨g, 0, none⟩) mm cap] X ((Wd.drew.setCell ⟨w.heap.size + 1 + 1 + 1 + 1, 0, none⟩ (.bool false)).setCell ⟨w.heap.size + 1 + 1 + 1 + 1 + 1, 0, none⟩ (.string Sx)) ∧ XI W7 (w.heap.size + 1 + 1 + 1 + 1) (w.heap.size + 1 + 1 + 1 + 1 + 1) Wk.heap.size u (j + 1) ((Wd.drew.setCell ⟨w.heap.size + 1 + 1 + 1 + 1, 0, none⟩ (.bool false)).setCell ⟨w.heap.size + 1 + 1 + 1 + 1 + 1, 0, none⟩ (.string Sx)) := by
          have g6 : ∀ (W : World) (v : Value) (k : Nat), k ≠ w.heap.size + 1 + 1 + 1 + 1 → (W.setCell ⟨w.heap.size + 1 + 1 + 1 + 1, 0, none⟩ v).heap[k]? = W.heap[k]? := fun W v k h => Below.heap_setCell _ _ _ _ (by simpa using h)
          have g7 : ∀ (W : World) (v : Value) (k : Nat), k ≠ w.heap.size + 1 + 1 + 1 + 1 + 1 → (W.setCell ⟨w.heap.size + 1 + 1 + 1 + 1 + 1, 0, none⟩ v).heap[k]? = W.heap[k]? := fun W v k h => Below.heap_setCell _ _ _ _ (by simpa using h)
          refine ⟨⟨by rw [World.size_setCell, World.size_setCell]; exact hzf, fun k o hk ho hc => ?_⟩, ⟨by rw [World.size_setCell, World.size_setCell]; exact Nat.le_trans HFK.out.1 hzf, ?_, fun k hk hkX hne => ?_⟩, ⟨?_, ?_, ?_, ?_⟩⟩
          · rw [g7 _ _ _ (by omega), g6 _ _ _ (by omega), BF.block k (Array.getElem?_eq_some_iff.1 ho).1]; exact ho
          · rw [g7 _ _ _ (by omega), g6 _ _ _ (by omega), BF.block _ (by have := KV.out.lt; have := I1.out.lt; omega)]; exact HFK.out.2.1
          · rw [g7 _ _ _ (by omega), g6 _ _ _ (by omega), BF.block k (by have := HFK.out.1; omega)]; exact HFK.out.2.2 k hk hkX hne
          · have h9 := (K6d.out.set_ 0 (.bool false)).far (p := ⟨w.heap.size + 1 + 1 + 1 + 1 + 1, 0, none⟩) (by simp) (.string Sx)
            rw [show decide (j + 1 = 0) = false from by simp]
            simpa using h9
          · have h9 := (K7d.out.far (p := ⟨w.heap.size + 1 + 1 + 1 + 1, 0, none⟩) (by simp) (.bool false)).set_ 0 (.string Sx)
            rw [show lastS u (j + 1) = Sx from by unfold lastS; rw [if_neg (by omega)]; exact HSX.out]
            simpa using h9
          · exact Below.setCell (Below.setCell (I3.out.trans (BF.mono I3.out.size)) (by simp; omega) _) (by simp; omega) _
          · rw [World.size_setCell, World.size_setCell]; exact Nat.le_trans I4.out hzf
        exact fin
  case stop =>
    rintro D cd j X hD hj h
    exact h.elim
  case done =>
    rintro D X hD ⟨h1, h2, h3, h4⟩ hK
    have hb := b7.trans (h3.mono b7.size)
    have ev := (kv.below h3 kv.lt).cell 0
    have er := (kr.below h3 kr.lt).cell 0
    have fr := (kr.below h3 kr.lt).frozen 0
    have ea := h1.cell 0
    simp only [List.getElem?_toArray, List.getElem?_cons_zero] at ev er ea
    simp only [Exit.inBlock, Exit.then]
    have hkr := (kr.below h3 kr.lt)
    have HKR := Lib.hid hkr
    have HB := Lib.hid hb
    have HK := Lib.hid hK
    have HD := Lib.hid hD
    have C10 := Lib.hid (known_any X)
    have HZ := Lib.hid (And.intro hz7 hzk)
    clear h1 h2 h3 h4 hkr hb hK hD kv kf kr kx ka kl b7 bk
    by_cases hN0 : N = 0
    · have hq := HNO.out hN0
      have q1 : decide (N = 0) = true := by simpa using hN0
      rw [q1] at ea
      clear hN0 q1
      by_cases hv0 : v < 0
      · have q2 : decide (v < 0) = true := by simpa using hv0
        clear hq
        go_wp2_with (go_at_call 10; (with_reducible refine C10.out.mono ?_); rintro e w9 ⟨rfl, b9⟩; have k9 := HKR.out.below b9 HKR.out.lt; have e9 := k9.cell 0; have f9 := k9.frozen 0; simp at e9; have K9 := Lib.hid k9; have B9 := Lib.hid (HB.out.trans (b9.mono HB.out.size)); have HK9 := Lib.hid ((b9.block D (Array.getElem?_eq_some_iff.1 HK.out).1).trans HK.out); clear b9 k9)
        refine HEND.out _ _ _ [D] rfl ⟨by simp, fun E hE => ?_⟩ (Below.setCell B9.out (by simp; omega) _) (by have := K9.out.set_ 0 (.bool true); simpa using this)
        obtain rfl : E = D := by simpa using hE
        have hz := HZ.out
        have hd := HD.out
        exact ⟨by omega, (Below.heap_setCell _ _ _ _ (by simp; omega)).trans HK9.out⟩
      · have q2 : decide (v < 0) = false := by simpa using hv0
        have hv3 : 34359738368 ≤ v := by omega
        have q3 : decide (34359738368 ≤ v) = true := by simpa using hv3
        clear hq
        go_wp2_with (go_at_call 10; (with_reducible refine C10.out.mono ?_); rintro e w9 ⟨rfl, b9⟩; have k9 := HKR.out.below b9 HKR.out.lt; have e9 := k9.cell 0; have f9 := k9.frozen 0; simp at e9; have K9 := Lib.hid k9; have B9 := Lib.hid (HB.out.trans (b9.mono HB.out.size)); have HK9 := Lib.hid ((b9.block D (Array.getElem?_eq_some_iff.1 HK.out).1).trans HK.out); clear b9 k9)
        refine HEND.out _ _ _ [D] rfl ⟨by simp, fun E hE => ?_⟩ (Below.setCell B9.out (by simp; omega) _) (by have := K9.out.set_ 0 (.bool true); simpa using this)
        obtain rfl : E = D := by simpa using hE
        have hz := HZ.out
        have hd := HD.out
        exact ⟨by omega, (Below.heap_setCell _ _ _ _ (by simp; omega)).trans HK9.out⟩
    · obtain ⟨rfl, hu, -⟩ := HUV.out hN0
      have q1 : decide (N = 0) = false := by simpa using hN0
      rw [q1] at ea
      clear hN0 q1
      have hu0 : (0 : Int) ≤ (u : Int) := by omega
      have hu1 : (u : Int) < 34359738368 := by omega
      obtain ⟨vv, hvv⟩ : ∃ vv : Int, (u : Int) = vv := ⟨_, rfl⟩
      rw [hvv] at ev hu0 hu1
      have q2 : decide (vv < 0) = false := by simp; omega
      have q3 : decide (34359738368 ≤ vv) = false := by simp; omega
      go_wp2_with (go_at_call 10; (with_reducible refine C10.out.mono ?_); rintro e w9 ⟨rfl, b9⟩; have k9 := HKR.out.below b9 HKR.out.lt; have e9 := k9.cell 0; have f9 := k9.frozen 0; simp at e9; have K9 := Lib.hid k9; have B9 := Lib.hid (HB.out.trans (b9.mono HB.out.size)); have HK9 := Lib.hid ((b9.block D (Array.getElem?_eq_some_iff.1 HK.out).1).trans HK.out); clear b9 k9)
      refine HEND.out _ _ _ [D] rfl ⟨by simp, fun E hE => ?_⟩ (Below.setCell B9.out (by simp; omega) _) (by have := K9.out.set_ 0 (.bool true); simpa using this)
      obtain rfl : E = D := by simpa using hE
      have hz := HZ.out
      have hd := HD.out
      exact ⟨by omega, (Below.heap_setCell _ _ _ _ (by simp; omega)).trans HK9.out⟩
set_option maxHeartbeats 4000000 in
theorem vexact_long (v : Int) (A : Option Addr) (nf cf : Nat) (w : World) (hn : 10 < nf) (hm : nf ≤ maxLen) :
    Calls Try.prog 8 #[.int .i64 v, .slice A nf cf] w fun e w' => e = .returned (.bool true) ∧ Below w.heap.size w w' := by
  unfold maxLen at hm
  refine (callsIn_wide (n := 100)).1 ?_
  refine callsIn_of_wp_marks Try.func8 rfl trivial ?_ rfl
  refine wpIn_wide.2 ?_
  simp only [Try.ntmps8, List.size_toArray, List.length_cons, List.length_nil, Nat.reduceAdd, Nat.reduceSub, Array.replicate_succ, Array.replicate_zero, List.push_toArray, List.append_toArray, List.nil_append, List.cons_append]
  have hn10 : ¬ (nf : Int) ≤ 10 := by omega
  have q0 : decide (10 < nf) = true := by simpa using hn
  have b3 : Below w.heap.size w (((w.alloc (.cells #[.int .i64 v] 3)).alloc (.cells #[.slice A nf cf] 22)).alloc (.cells #[.bool false] 4)) := (((Below.refl _ w).alloc (Nat.le_refl _) _).alloc (by simp) _).alloc (by simp; omega) _
  have kr : Blk (((w.alloc (.cells #[.int .i64 v] 3)).alloc (.cells #[.slice A nf cf] 22)).alloc (.cells #[.bool false] 4)) (w.heap.size + 1 + 1) 4 #[.bool false] := by have := Blk.new ((w.alloc (.cells #[.int .i64 v] 3)).alloc (.cells #[.slice A nf cf] 22)) 4 #[.bool false]; rw [World.size_alloc, World.size_alloc] at this; exact this
  have B3 := Lib.hid b3
  have KR := Lib.hid kr
  clear b3 kr
  go_wp2_with (go_at_call 10; (with_reducible refine (known_any _).mono ?_); rintro e w9 ⟨rfl, b9⟩; have k9 := KR.out.below b9 KR.out.lt; have e9 := k9.cell 0; have f9 := k9.frozen 0; simp at e9; have K9 := Lib.hid k9; have B9 := Lib.hid (B3.out.trans (b9.mono B3.out.size)); clear b9 k9)
  refine leaves_marks2 (v := .bool true) (b := w.heap.size + 1 + 1 + 1) [] _ ⟨List.nodup_nil, fun D hD => by cases hD⟩ fun w' hs => ⟨?_, rfl, (Below.setCell B9.out (by simp; omega) _).trans (hs.to_below.mono (by omega))⟩
  have hk := K9.out.set_ 0 (.bool true)
  have hk' := (hk.below hs.to_below (by omega)).cell 0
  simp at hk'
  simp [results, Try.results8, go_sem, hk']

theorem vexact_law (v : Int) (A : Option Addr) (nf cf : Nat) (fl : List UInt8) (w : World) (_ : (Lit.int .i64 v).wf = true) (hl : fl.length = nf) (hc : nf ≤ cf) (hm : cf ≤ maxLen) (hb : BS w w.heap.size A fl) :
    Calls Try.prog 8 #[.int .i64 v, .slice A nf cf] w fun e w' => e = .returned (.bool true) ∧ Below w.heap.size w w' := by
  by_cases hn : nf ≤ 10
  · by_cases hv : 0 ≤ v ∧ v < 34359738368
    · obtain ⟨u, rfl⟩ := Int.eq_ofNat_of_zero_le hv.1
      have hu : u < 34359738368 := by omega
      exact vexact_main u A nf cf fl u (5 - k0 u) w hl hn hc (hb.holds hl) (by omega) (fun _ => ⟨rfl, hu, rfl⟩) (fun h => by have := k0_le u; omega) (fun n W Bv h => forms_iter n W Bv u hu h)
    · have hv' : v < 0 ∨ 34359738368 ≤ v := by omega
      exact vexact_main v A nf cf fl 0 0 w hl hn hc (hb.holds hl) (by omega) (fun h => absurd rfl h) (fun _ => hv') (fun n W Bv h => forms_iter_no n W Bv v hv' h _ _ _)
  · exact vexact_long v A nf cf w (by omega) (by omega)
end Go.Proofs.Ytbimolbiccmdiaa
