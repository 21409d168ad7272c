/- The walk of FoldLines. -/
import Derived.Test.YtkalllenggmgoaaDoorL4
import Derived.Test.YtkalllenggmgoaaDoorL8
import Derived.Test.YtkalllenggmgoaaDoorOi
import Derived.Test.YtkalllenggmgoaaDoorFt
import Derived.Test.YtkalllenggmgoaaDoorRg
namespace Go.Proofs.YtkalllenggmgoaaDoor
open Go.RowKit
attribute [local go_sem] wide_fn wide_depth wide_fn_in wide_depth_in Oper.semAt_some
set_option linter.unusedVariables false
set_option linter.unusedSimpArgs false

/-- The range's invariant, and how it is left. -/
structure SI (W7 : World) (Bk Bt : Nat) (Ds : List Nat) (sz : Nat) (many : Int) (t j : Nat) (X : World) : Prop where
  k : Blk X Bk 3 #[.int .i64 j]
  bt : Blk X Bt 3 #[.int .i64 t]
  below : Below W7.heap.size W7 X
  marks : Marks W7.heap.size Ds X
  size : sz ≤ X.heap.size
  c : t = 0 → j = 0 ∨ (j : Int) < many
structure SX (W7 : World) (Bk Bt : Nat) (Ds : List Nat) (sz : Nat) (many : Int) (t : Nat) (cd : Code) (j : Nat) (X : World) : Prop where
  cd : cd = .exit 4
  k : Blk X Bk 3 #[.int .i64 j]
  bt : Blk X Bt 3 #[.int .i64 t]
  below : Below W7.heap.size W7 X
  marks : Marks W7.heap.size Ds X
  size : sz ≤ X.heap.size
  t0 : t = 0
  c1 : many ≤ j
  c2 : j = 1 ∨ (j : Int) - 1 < many
  c3 : 1 ≤ j
def SLoop (n0 g BL : Nat) (W7 : World) (a : Act) (W : World) : Prop := ∃ (t Bt : Nat) (Ds : List Nat), a.tmps.size = 100 ∧ a.tmps.getD 5 undef = .pointer (some ⟨n0, 0, none⟩) ∧ a.tmps.getD 6 undef = .pointer (some ⟨n0 + 1, 0, none⟩) ∧ a.tmps.getD 8 undef = .func (.func 41) #[] #[.pointer (some ⟨g, 0, none⟩)] ∧ a.tmps.getD 10 undef = .pointer (some ⟨BL, 0, none⟩) ∧ a.tmps.getD 11 undef = .pointer (some ⟨Bt, 0, none⟩) ∧ a.defers = Ds.map mark ∧ t ≤ 2 ∧ Blk W Bt 3 #[.int .i64 (t : Int)] ∧ W7.heap.size ≤ Bt ∧ Below W7.heap.size W7 W ∧ Marks W7.heap.size Ds W
def SReg (Bk BL gL bx j Nn a cL : Nat) (sn st : ByteArray) (W : World) : Prop := W.cell? ⟨Bk, 0, none⟩ = some (.int .i64 (j : Int)) ∧ W.cell? ⟨BL, 0, none⟩ = some (.slice (some ⟨gL, 0, none⟩) Nn cL) ∧ W.cell? ⟨bx, 0, none⟩ = some (.string sn) ∧ W.cell? ⟨bx, 1, none⟩ = some (.string st) ∧ W.cell? ⟨gL, j * 3, none⟩ = some (.int .i64 (a : Int)) ∧ W.cell? ⟨gL, j * 3 + 1, none⟩ = some (.string sn) ∧ W.cell? ⟨gL, j * 3 + 2, none⟩ = some (.string st)
set_option maxRecDepth 100000 in
set_option maxHeartbeats 1000000 in
theorem lines_law (A : Option Addr) (n c : Nat) (l : List UInt8) (lo : Bool) (many : Int) (w : World) (h : RB w A n c l) (_ : (Lit.int .i64 many).wf = true) :
    Calls Tryd.prog 6 #[.slice A n c, .bool lo, .int .i64 many] w fun e w' => e = .returned (.bool true) ∧ Below w.heap.size w w' := by
  refine (callsIn_wide (n := 100)).1 ?_
  refine callsIn_of_wp_marks Tryd.func6 rfl trivial ?_ rfl
  refine wpIn_wide.2 ?_
  simp only [Tryd.ntmps6, List.size_toArray, List.length_cons, List.length_nil, Nat.reduceAdd, Nat.reduceSub, Array.replicate_succ, Array.replicate_zero, List.push_toArray, List.append_toArray, List.nil_append, List.cons_append]
  obtain ⟨W0, hW0⟩ : ∃ W0, ((w.alloc (.cells #[.int .i64 many] 3)).alloc (.cells #[.bool false] 4)) = W0 := ⟨_, rfl⟩
  have hba : Below w.heap.size w W0 := hW0 ▸ ((Below.refl _ w).alloc (Nat.le_refl _) _).alloc (by simp) _
  have kM : Blk W0 w.heap.size 3 #[.int .i64 many] := hW0 ▸ (Blk.new w 3 _).alloc _
  have kR : Blk W0 (w.heap.size + 1) 4 #[.bool false] := by have := Blk.new (w.alloc (.cells #[.int .i64 many] 3)) 4 #[.bool false]; rw [World.size_alloc, hW0] at this; exact this
  have HBA := Lib.hid hba
  have KM := Lib.hid kM
  have KR := Lib.hid kR
  have ending : ∀ (nn : Nat) (tm : Array Value) (W : World) (Ds : List Nat), tm.getD 6 undef = .pointer (some ⟨w.heap.size + 1, 0, none⟩) → Marks (w.heap.size + 2) Ds W → Below w.heap.size w W → Blk W (w.heap.size + 1) 4 #[.bool true] → LeavesInM Fence.wide nn Tryd.prog Tryd.f6 tm (fun e w' => e = .returned (.bool true) ∧ Below w.heap.size w w') (Ds.map mark) .returning W := by
    intro nn tm W Ds ht hM hb hk
    refine leaves_marks2 (v := .bool true) Ds W hM fun w' hs => ⟨?_, rfl, hb.trans (hs.to_below.mono (by omega))⟩
    have hk' := (hk.below hs.to_below (by omega)).cell 0
    simp at hk'
    have ht' : tm[6]?.getD undef = .pointer (some ⟨w.heap.size + 1, 0, none⟩) := by simpa using ht
    simp [results, Tryd.results6, go_sem, ht', hk']
  have HEND := Lib.hid ending
  have HP := Lib.hid h
  have HLEN := Lib.hid h.len
  have HW0 := Lib.hid hW0
  have hnf : ∀ (a : Nat) (W : World), (binOp .eql 48 (fn41 a) .nilFunc).run Tryd.prog W = .ok (.bool false) W := fun a W => by unfold fn41; kernel_rfl
  unfold fn41 at hnf
  clear hba kM kR ending h hW0
  by_cases hbig : (2000 : Int) < n
  · have C9 := Lib.hid (known_any W0)
    have f1 := KR.out.frozen 0
    go_upto_region 1 with fail
    rw [HW0.out]
    go_wp2_with (go_at_call 11; (with_reducible refine C9.out.mono ?_); rintro e w9 ⟨rfl, b9⟩; have k9 := KR.out.below b9 KR.out.lt; have e9 := k9.cell 0; have f9 := k9.frozen 0; simp at e9; have K9 := Lib.hid k9; have B9 := Lib.hid (HBA.out.trans (b9.mono HBA.out.size)); clear b9 k9)
    refine HEND.out _ _ _ [] (by simp) ⟨List.nodup_nil, fun D hD => by cases hD⟩ ?_ ?_
    · exact Below.setCell B9.out (by simp) _
    · have := K9.out.set_ 0 (.bool true)
      simpa using this
  have hn0 : (n : Int) ≤ 2000 := by omega
  clear hbig
  go_upto_region 1 with fail
  rw [HW0.out]
  have HP1 := Lib.hid (HP.out.below HBA.out)
  have HB0 := Lib.hid ((Below.refl W0.heap.size W0).alloc (Nat.le_refl _) (.cells #[] 5))
  go_upto_region 4 with (at_builtin; go_must (refine wpList_app_own (base := W0.heap.size) (n := 0) (m := n) (xs := []) (news := l.map Go.Proofs.YtkalllenggmgoaaDoor.u8) rfl (.tmp 19) (.tmp 20) 26 rfl el22 rfl (own_none00 _ _) rfl (HP1.out.below HB0.out).h (fun u hu => by obtain ⟨x9, _, rfl⟩ := List.mem_map.1 hu; rfl) (by have := HP1.out.mc; have h9 := HP1.out.cm; omega) (by omega) (by simp) ?_; intro v2 w1 hown hg hat; rw [Nat.zero_add, List.nil_append] at hown; obtain ⟨A7, c7, e7, rb7⟩ := own_rb hown; subst e7; have HO7 := Lib.hid hown; have HR7 := Lib.hid rb7; have HB1 := Lib.hid (below_own HB0.out (by simp) (own_none00 W0 5) hg); clear hown hg hat rb7))
  have C24 := Lib.hid (lines_any A7 n c7 l lo w1 HR7.out (by omega))
  go_upto_region 7 with (go_at_call 24; (with_reducible refine C24.out.mono ?_); rintro e w2 ⟨g, dv, ds, rfl, hl⟩; have HL := Lib.hid hl; have HO8 := Lib.hid (own_keeps HO7.out fun k hk => hl.below.block k (own_lt HO7.out k hk)); have HB2 := Lib.hid (HB1.out.trans (hl.below.mono HB1.out.size)); clear hl; unfold fn41)
  have HO9 := Lib.hid (show w2.ownsRow W0.heap.size 5 1 (.slice A7 n c7) n (l.map Go.Proofs.YtkalllenggmgoaaDoor.u8) from HO8.out)
  have HG7 : Hid (∀ k, (Value.slice A7 n c7).ownBlock = some k → W0.heap.size ≤ k ∧ k < w1.heap.size) := Lib.hid (fun k hk => HO7.out.lt k hk)
  go_upto_region 8 with fail
  go_loopw [9] (fun ii wr => ∃ (i : Nat) (xs : List Value), (i : Int) ≤ n ∧ ii = .int .i64 i ∧ Hid (wr.ownsRow W0.heap.size 5 1 (.slice A7 n c7) n xs) ∧ Hid (Only (fun k => W0.heap.size ≤ k ∧ k < w1.heap.size) w2 wr)) (fun ii _ => n - (intOf ii).toNat)
  case atStart => exact ⟨0, _, by omega, rfl, HO9, Lib.hid (Only.refl _ _)⟩
  case round =>
  obtain ⟨i, xs, hi, rfl, HO, HON⟩ := hrel
  by_cases hlt : (i : Int) < n
  · obtain ⟨g7, cap7, e7, hg0, hg1, -, -, hcells⟩ := own_holds HO.out (by omega)
    injection e7 with e8 e9 e10
    subst e8 e10
    have hxl : xs.length = n := by have := HO.out.1; simpa using this
    obtain ⟨u9, hu9⟩ : ∃ u, xs[i]? = some u := ⟨_, List.getElem?_eq_getElem (by omega : i < xs.length)⟩
    have hcell := hcells i u9 hu9
    try rw [Addr.add_lit] at hcell
    try rw [Nat.zero_add] at hcell
    have hfz := own_frozen (k := i) HO.out
    have HST := Lib.hid (own_store (k := i) HO.out (.int .u8 120))
    have HO2 := Lib.hid (Only.set HON.out (fun _ => HG7.out g7 rfl) i (.int .u8 120))
    clear hcells hxl e9 hu9
    go_wp2_with fail
    go_roundw
    case rel => exact ⟨i + 1, _, by omega, by go_num, HST, HO2⟩
    case measure => simp [intOf]; omega
  obtain rfl : n = i := by omega
  obtain ⟨w3, hw3⟩ : ∃ w3, wr = w3 := ⟨_, rfl⟩
  rw [hw3] at HO HON ⊢
  clear hw3 HO9 HO8 hlt hi
  have HBL : Hid (Below W0.heap.size W0 w3) := Lib.hid (HB2.out.trans (HON.out.to_below HB2.out.size fun b hb e => by omega))
  have HBw := Lib.hid (HBA.out.trans (HBL.out.mono HBA.out.size))
  have C25 := Lib.hid (rlines_any A n c l lo w3 (HP.out.below HBw.out) (by omega))
  unfold RLn at C25
  go_upto_region 12 with (go_at_call 25; (with_reducible refine C25.out.mono ?_); rintro e w4 ⟨v4, rfl, ho4, hb4⟩; obtain ⟨AL, cL, e4, -, -, -, hp4⟩ := own_formS ho4; subst e4; have HL4 := Lib.hid (HoldsS.own ho4); have HP4 := Lib.hid hp4; have HB4 := Lib.hid hb4; clear ho4 hb4 hp4)
  have hlin := HL.out
  have hkeys := hlin.keys
  have hfew := linesF_few l lo
  obtain ⟨ks, hks⟩ : ∃ ks, linesF l lo = ks := ⟨_, rfl⟩
  rw [hks] at hkeys hfew HL4 HP4 ⊢
  obtain ⟨W7, hW7⟩ : ∃ W7, w4.alloc (.cells #[.slice AL ks.length cL] 50) = W7 := ⟨_, rfl⟩
  have b47 : Below w4.heap.size w4 W7 := hW7 ▸ (Below.refl _ w4).alloc (Nat.le_refl _) _
  have b37 : Below w3.heap.size w3 W7 := HB4.out.trans (b47.mono HB4.out.size)
  have B07 : Below W0.heap.size W0 W7 := HBL.out.trans (b37.mono HBL.out.size)
  have hnot : ∀ k, w1.heap.size ≤ k → ¬ (W0.heap.size ≤ k ∧ k < w1.heap.size) := fun k h1 h2 => by omega
  have K7L := Lib.hid (show Blk W7 w4.heap.size 50 #[.slice AL ks.length cL] from hW7 ▸ Blk.new w4 50 _)
  have L7 := Lib.hid (HL4.out.keep b47)
  have K7M := Lib.hid (KM.out.below B07 KM.out.lt)
  have K7R := Lib.hid (KR.out.below B07 KR.out.lt)
  have B7w := Lib.hid (HBA.out.trans (B07.mono HBA.out.size))
  have HS7 := Lib.hid (show w.heap.size + 2 ≤ W7.heap.size by have := K7R.out.lt; omega)
  obtain ⟨ka, kn, kt, kg, ko, kp, klo, kpl, hblk⟩ := hlin.blk
  have Q7 := Lib.hid ((hblk.only HON.out (hnot g hlin.ge)).below b37 (Nat.lt_of_lt_of_le hblk.lt HON.out.size))
  have dn3 : DnOk w1.heap.size w3 dv ds := hlin.dn.keep fun k hk => HON.out.block k (hlin.dn.lt k hk).2 (hnot k (hlin.dn.lt k hk).1)
  have D7 := Lib.hid (dn3.below b37)
  have hlen : ds.length ≤ 1000 := by have := congrArg List.length hkeys; simp at this; omega
  rw [hW7]
  obtain ⟨BL, hBL⟩ : ∃ b, w4.heap.size = b := ⟨_, rfl⟩
  rw [hBL] at K7L ⊢
  have HKEYS := Lib.hid hkeys
  have HDLEN := Lib.hid hlen
  have HFEW := Lib.hid hfew
  clear hlin hkeys hfew hks hW7 b47 b37 B07 hnot hblk dn3 hlen hBL HL4 HB4 HL KM KR HBw HBL HON HO HG7 HR7 HO7 HB1 HB2 HB0 HP1 C24 C25
  obtain ⟨Nn, hNn⟩ : ∃ Nn, ks.length = Nn := ⟨_, rfl⟩
  rw [hNn] at K7L L7 HP4 HFEW ⊢
  have HNN := Lib.hid hNn
  clear hNn
  go_wp2_with fail
  have KT := Lib.hid (Blk.new W7 3 #[.int .i64 ((0 : Nat) : Int)])
  have BT := Lib.hid ((Below.refl W7.heap.size W7).alloc (Nat.le_refl _) (.cells #[.int .i64 0] 3))
  refine (wpIn_wide (n := 99)).1 ?_
  refine wpIn_loop (SLoop w.heap.size g BL W7)
    (fun a W => 2 - turnOf (a.tmps.getD 11 undef) W) ⟨0, W7.heap.size, [], rfl, rfl, rfl, rfl, rfl, rfl, rfl, by omega, KT.out, Nat.le_refl _, BT.out, List.nodup_nil, fun D hD => by cases hD⟩ ?_
  rintro ⟨tm, df⟩ W ⟨t, Bt, Ds, hsz, h5, h6, h8, h10, h11, hdf, ht, hkt, hbt, hb, hM⟩
  dsimp only at hsz h5 h6 h8 h10 h11 hdf ⊢
  obtain ⟨x, hx⟩ : ∃ x : Nat → Value, (fun k => tm.getD k undef) = x := ⟨_, rfl⟩
  have e : tm = #[x 0, x 1, x 2, x 3, x 4, x 5, x 6, x 7, x 8, x 9, x 10, x 11, x 12, x 13, x 14, x 15, x 16, x 17, x 18, x 19, x 20, x 21, x 22, x 23, x 24, x 25, x 26, x 27, x 28, x 29, x 30, x 31, x 32, x 33, x 34, x 35, x 36, x 37, x 38, x 39, x 40, x 41, x 42, x 43, x 44, x 45, x 46, x 47, x 48, x 49, x 50, x 51, x 52, x 53, x 54, x 55, x 56, x 57, x 58, x 59, x 60, x 61, x 62, x 63, x 64, x 65, x 66, x 67, x 68, x 69, x 70, x 71, x 72, x 73, x 74, x 75, x 76, x 77, x 78, x 79, x 80, x 81, x 82, x 83, x 84, x 85, x 86, x 87, x 88, x 89, x 90, x 91, x 92, x 93, x 94, x 95, x 96, x 97, x 98, x 99] := (arr_lit tm 100 hsz).trans (by rw [hx]; rfl)
  have y5 := (congrFun hx 5).symm.trans h5
  have y6 := (congrFun hx 6).symm.trans h6
  have y8 := (congrFun hx 8).symm.trans h8
  have y10 := (congrFun hx 10).symm.trans h10
  have y11 := (congrFun hx 11).symm.trans h11
  rw [y5, y6, y8, y10, y11] at e
  clear y5 y6 y8 y10 y11 h5 h6 h8 h10 h11 hsz hx
  subst e hdf
  have HT := Lib.hid hkt
  have HBb := Lib.hid hb
  have HMk := Lib.hid hM
  have ct := hkt.cell 0
  simp at ct
  clear hkt hb hM
  refine wpIn_wide.2 ?_
  by_cases hlt : (t : Int) < 2
  · have ht2 : t < 2 := by omega
    go_wp2_with fail
    obtain ⟨Wk, hWk⟩ : ∃ Wk, W.alloc (.cells #[.int .i64 0] 3) = Wk := ⟨_, rfl⟩
    have hbk : Below W.heap.size W Wk := hWk ▸ (Below.refl _ _).alloc (Nat.le_refl _) _
    have hzk : Wk.heap.size = W.heap.size + 1 := by rw [← hWk]; simp
    have kk : Blk Wk W.heap.size 3 #[.int .i64 ((0 : Nat) : Int)] := hWk ▸ Blk.new W 3 _
    have hb7k := HBb.out.trans (hbk.mono HBb.out.size)
    have htk := HT.out.below hbk HT.out.lt
    have hMk : Marks W7.heap.size Ds Wk := ⟨HMk.out.nodup, fun D hD => ⟨(HMk.out.there D hD).1, (hbk.block D (HMk.out.lt D hD)).trans (HMk.out.there D hD).2⟩⟩
    have hDlt := HMk.out.lt
    have hBt := HT.out.lt
    rw [hWk]
    obtain ⟨Bk, hBk⟩ : ∃ b, W.heap.size = b := ⟨_, rfl⟩
    have h7k : W7.heap.size ≤ Bk := hBk ▸ HBb.out.size
    rw [hBk] at hzk kk hDlt hBt ⊢
    have hlq := Q7.out.lt
    have hFD : ∀ k, DnF dv ds k → k < W7.heap.size := fun k hk => (D7.out.lt k hk).2
    have hlM := K7M.out.lt
    have hlL := K7L.out.lt
    clear hWk hbk hBk ct
    refine (wpIn_wide (n := 99)).1 ?_
    refine wpIn_iter (N := Nn) (At := LAt ks) (Kp := LKp (DnF dv ds)) (Step := fun X Y => Below X.heap.size X Y) rfl (by omega) (gf := 41) (lb := #[.pointer (some ⟨g, 0, none⟩)]) rfl trivial (enters_of Tryd.func41 (by kernel_rfl) rfl)
      (fun W1 hb1 hz1 => by
        have hb71 := hb7k.trans (hb1.mono hb7k.size)
        have := lines_iter 98 W1 _ g ka kn kt kg ko kp klo kpl dv ds (Q7.out.below hb71 hlq) (D7.out.below hb71) HDLEN.out
        rw [HKEYS.out, HNN.out] at this
        exact this)
      (fun X Y hXY k hk hkX => hXY.block k hkX)
      (fun vs X => lkp_calm Wk.heap.size (DnF dv ds) (fun k hk => by have := hFD k hk; omega) vs X)
      (fun i vs X ⟨k, _, h⟩ => by rw [h]; rfl)
      (fun j X => SI W7 Bk Bt Ds Wk.heap.size many t j X)
      (fun cd j X => SX W7 Bk Bt Ds Wk.heap.size many t cd j X)
      ?hI ?hIx ?hIS ?hIxS ?h0
      (fun j vs X a' Wx => (a'.tmps.size = 100 ∧ a'.tmps.getD 5 undef = .pointer (some ⟨w.heap.size, 0, none⟩) ∧ a'.tmps.getD 6 undef = .pointer (some ⟨w.heap.size + 1, 0, none⟩) ∧ a'.tmps.getD 8 undef = .func (.func 41) #[] #[.pointer (some ⟨g, 0, none⟩)] ∧ a'.tmps.getD 10 undef = .pointer (some ⟨BL, 0, none⟩) ∧ a'.tmps.getD 11 undef = .pointer (some ⟨Bt, 0, none⟩) ∧ a'.tmps.getD 12 undef = .pointer (some ⟨Bk, 0, none⟩) ∧ a'.defers = []) ∧ LKp (DnF dv ds) vs X Wx ∧ SI W7 Bk Bt Ds Wk.heap.size many t j Wx ∧ ∃ kk bx, ks[j]? = some kk ∧ Wk.heap.size ≤ bx ∧ a'.tmps.getD 13 undef = .int .i64 (kk.1 : Int) ∧ a'.tmps.getD 14 undef = .pointer (some ⟨bx, 0, none⟩) ∧ Blk Wx bx 25 #[.string ⟨kk.2.1.toArray⟩, .string ⟨kk.2.2.toArray⟩])
      ?hAx ?assign ?body ?done ?stop
    case hI => exact fun j X k o o' hk hX ho ⟨h1, h2, h3, h4, h5, h6⟩ => ⟨h1.calm hX ho, h2.calm hX ho, below_calm h3 (by omega) hX, h4.put (fun hD => by have := hDlt k hD; omega) _, by rw [size_putObj]; exact h5, h6⟩
    case hIx => exact fun cd j X k o o' hk hX ho ⟨h0, h1, h2, h3, h4, h5, h6, h7, h8, h9⟩ => ⟨h0, h1.calm hX ho, h2.calm hX ho, below_calm h3 (by omega) hX, h4.put (fun hD => by have := hDlt k hD; omega) _, by rw [size_putObj]; exact h5, h6, h7, h8, h9⟩
    case hIS => exact fun j X Y ⟨h1, h2, h3, h4, h5, h6⟩ hs => ⟨h1.below hs h1.lt, h2.below hs h2.lt, h3.trans (hs.mono h3.size), ⟨h4.nodup, fun D hD => ⟨(h4.there D hD).1, (hs.block D (h4.lt D hD)).trans (h4.there D hD).2⟩⟩, Nat.le_trans h5 hs.size, h6⟩
    case hIxS => exact fun cd j X Y ⟨h0, h1, h2, h3, h4, h5, h6, h7, h8, h9⟩ hs => ⟨h0, h1.below hs h1.lt, h2.below hs h2.lt, h3.trans (hs.mono h3.size), ⟨h4.nodup, fun D hD => ⟨(h4.there D hD).1, (hs.block D (h4.lt D hD)).trans (h4.there D hD).2⟩⟩, Nat.le_trans h5 hs.size, h6, h7, h8, h9⟩
    case h0 => exact fun W1 hb1 hz1 => ⟨kk.below hb1 kk.lt, htk.below hb1 htk.lt, hb7k.trans (hb1.mono hb7k.size), ⟨hMk.nodup, fun D hD => ⟨(hMk.there D hD).1, (hb1.block D (hMk.lt D hD)).trans (hMk.there D hD).2⟩⟩, hb1.size, fun _ => .inl rfl⟩
    case hAx => exact fun j vs X0 a' X k o o' hk hX ho ⟨ha, hf, ⟨h1, h2, h3, h4, h5, h6⟩, k9, bx, p1, p2, p3, p4, p5⟩ => ⟨ha, lkp_calm Wk.heap.size (DnF dv ds) (fun k hk => by have := hFD k hk; omega) vs X0 X k o o' hk hX ho hf, ⟨h1.calm hX ho, h2.calm hX ho, below_calm h3 (by omega) hX, h4.put (fun hD => by have := hDlt k hD; omega) _, by rw [size_putObj]; exact h5, h6⟩, k9, bx, p1, p2, p3, p4, p5.calm hX ho⟩
    case assign =>
      rintro l' j vs X K hl hj hI ⟨k, hx, rfl⟩ hlt2 hK
      have hs := (Below.refl X.heap.size X).alloc (Nat.le_refl _) (.cells #[.string ⟨k.2.1.toArray⟩, .string ⟨k.2.2.toArray⟩] 25)
      have hsz := Lib.hid hI.size
      have HS := Lib.hid hs
      have HI9 := Lib.hid hI
      have HX9 := Lib.hid hx
      have HL9 := Lib.hid hl
      have HZ9 := Lib.hid hzk
      clear hs hI hx hl hzk hlt2
      gi_wp2_with fail
      have hl := HL9.out
      have hzk := HZ9.out
      have hs := HS.out
      have hx := HX9.out
      obtain ⟨h1, h2, h3, h4, h5, h6⟩ := HI9.out
      refine hK _ _ (keeps_below hs _) ⟨⟨rfl, rfl, rfl, rfl, rfl, rfl, rfl, rfl⟩, ⟨hs.size, fun i hi => hs.block i (by have := hFD i hi; omega)⟩, ⟨h1.below hs h1.lt, h2.below hs h2.lt, h3.trans (hs.mono h3.size), ⟨h4.nodup, fun D hD => ⟨(h4.there D hD).1, (hs.block D (h4.lt D hD)).trans (h4.there D hD).2⟩⟩, Nat.le_trans h5 hs.size, h6⟩, k, X.heap.size, hx, hsz.out, rfl, rfl, Blk.new X 25 _⟩
    case body =>
      rintro l' j vs X ⟨tm, df⟩ Wx hl hj hr ⟨⟨hsz, h5, h6, h8, h10, h11, h12, hdf⟩, hf, ⟨i1, i2, i3, i4, i5, i6⟩, kq, bx, hkq, hbx, h13, h14, hb14⟩
      have HZK := Lib.hid hzk
      clear hzk
      dsimp only at hsz h5 h6 h8 h10 h11 h12 hdf h13 h14 ⊢
      obtain ⟨gL, hgL, hg3, hg4⟩ := HP4.out (by omega)
      obtain ⟨z, hz⟩ : ∃ z : Nat → Value, (fun k => tm.getD k undef) = z := ⟨_, rfl⟩
      have e : tm = #[z 0, z 1, z 2, z 3, z 4, z 5, z 6, z 7, z 8, z 9, z 10, z 11, z 12, z 13, z 14, z 15, z 16, z 17, z 18, z 19, z 20, z 21, z 22, z 23, z 24, z 25, z 26, z 27, z 28, z 29, z 30, z 31, z 32, z 33, z 34, z 35, z 36, z 37, z 38, z 39, z 40, z 41, z 42, z 43, z 44, z 45, z 46, z 47, z 48, z 49, z 50, z 51, z 52, z 53, z 54, z 55, z 56, z 57, z 58, z 59, z 60, z 61, z 62, z 63, z 64, z 65, z 66, z 67, z 68, z 69, z 70, z 71, z 72, z 73, z 74, z 75, z 76, z 77, z 78, z 79, z 80, z 81, z 82, z 83, z 84, z 85, z 86, z 87, z 88, z 89, z 90, z 91, z 92, z 93, z 94, z 95, z 96, z 97, z 98, z 99] := (arr_lit tm 100 hsz).trans (by rw [hz]; rfl)
      have y5 := (congrFun hz 5).symm.trans h5
      have y6 := (congrFun hz 6).symm.trans h6
      have y8 := (congrFun hz 8).symm.trans h8
      have y10 := (congrFun hz 10).symm.trans h10
      have y11 := (congrFun hz 11).symm.trans h11
      have y12 := (congrFun hz 12).symm.trans h12
      have y13 := (congrFun hz 13).symm.trans h13
      have y14 := (congrFun hz 14).symm.trans h14
      rw [y5, y6, y8, y10, y11, y12, y13, y14] at e
      clear y5 h5 y6 h6 y8 h8 y10 h10 y11 h11 y12 h12 y13 h13 y14 h14 hsz hz
      subst e hdf
      have hjl : j < ks.length := by rw [HNN.out]; exact hj
      obtain ⟨lq0, lq1, lq2⟩ := ln_get ks j hjl
      have hh := L7.out
      have key : ∀ {k : Nat} {u : Value}, (ks.flatMap LnC)[k]? = some u → Wx.cell? ⟨gL, k, none⟩ = some u := fun {k u} hk => by
        have h9 := hh.2.2 _ hgL k u hk
        rw [Addr.add_lit, Nat.zero_add] at h9
        exact (i3.cell (World.block_lt_of_cell? _ _ h9)).trans h9
      have f0 := key lq0
      have f1 := key lq1
      have f2 := key lq2
      have hkj : ks[j] = kq := Option.some.inj ((List.getElem?_eq_getElem hjl).symm.trans hkq)
      rw [hkj] at f0 f1 f2
      have s0 := hb14.cell 0
      have s1 := hb14.cell 1
      simp only [List.getElem?_toArray, List.getElem?_cons_zero, List.getElem?_cons_succ] at s0 s1
      obtain ⟨a0, ha0⟩ : ∃ a0, kq.1 = a0 := ⟨_, rfl⟩
      obtain ⟨sn, hsn⟩ : ∃ sn, (⟨kq.2.1.toArray⟩ : ByteArray) = sn := ⟨_, rfl⟩
      obtain ⟨st, hst⟩ : ∃ st, (⟨kq.2.2.toArray⟩ : ByteArray) = st := ⟨_, rfl⟩
      rw [ha0] at f0 ⊢
      rw [hsn] at f1 s0
      rw [hst] at f2 s1
      have ek := i1.cell 0
      have en := (K7L.out.below i3 hlL).cell 0
      simp only [List.getElem?_toArray, List.getElem?_cons_zero] at ek en
      rw [hgL] at en
      have HSR := Lib.hid (show SReg Bk BL gL bx j Nn a0 cL sn st Wx.drew from ⟨ek, en, s0, s1, f0, f1, f2⟩)
      have HH1 := Lib.hid (show W7.heap.size ≤ Bk ∧ Bt < Bk ∧ (∀ D ∈ Ds, D < Bk) ∧ t < 2 ∧ w.heap.size < W7.heap.size ∧ j < Nn ∧ j ≤ 100 from ⟨h7k, hBt, hDlt, ht2, hlM, hj, by have := HFEW.out; omega⟩)
      have q1 : decide (Nn ≤ j) = false := by simp; omega
      have hj0 : (0 : Int) ≤ j := by omega
      have hjn : (j : Int) < Nn := by omega
      have I1 := Lib.hid i1
      have I2 := Lib.hid i2
      have I3 := Lib.hid i3
      have I4 := Lib.hid i4
      have I5 := Lib.hid i5
      have I6 := Lib.hid i6
      have HF := Lib.hid hf
      have HFD := Lib.hid hFD
      clear i1 i2 i3 i4 i5 i6 hf hr hkq hb14 lq0 lq1 lq2 hh key f0 f1 f2 s0 s1 ek en hkj hsn hst ha0 hlM hlL hlq hDlt hBt h7k hlt ht2 ht hbt hg3 hg4 hgL hjl hbx hFD hMk hj
      gi_wp2_with fail
      refine region_round (S := (SReg Bk BL gL bx j Nn a0 cL sn st)) (c := 99) (by kernel_rfl) (by kernel_rfl) ?_
      have hHeld := HSR.out
      have h01 := (fun (W : World) (h : (SReg Bk BL gL bx j Nn a0 cL sn st) W) => h)
      refine wpG_takeB (i := 0) (oi := ⟨some 46, _, _, _, _, _⟩) (v := .int .i64 (j : Int)) rfl (by kernel_rfl) (by kernel_rfl) (by kernel_rfl) (by decide) (fun _ _ _ h => by obtain ⟨h, -⟩ := h; cases h) h01 rfl hHeld (Or.inl ⟨by rfl, ?_⟩) ?_
      · (intro W9 hSw; obtain ⟨v1, v2, v3, v4, v5, v6, v7⟩ := hSw; go_simp; (try (first | with_reducible rfl | rfl | (simp; done))))
      try simp only [Act.put, List.setIfInBounds_toArray, List.set_cons_zero, List.set_cons_succ]
      refine wpG_takeB (i := 1) (oi := ⟨some 47, _, _, _, _, _⟩) (v := .slice (some ⟨gL, 0, none⟩) Nn cL) rfl (by kernel_rfl) (by kernel_rfl) (by kernel_rfl) (by decide) (fun _ _ _ h => by obtain ⟨h, -⟩ := h; cases h) h01 rfl hHeld (Or.inl ⟨by rfl, ?_⟩) ?_
      · (intro W9 hSw; obtain ⟨v1, v2, v3, v4, v5, v6, v7⟩ := hSw; go_simp; (try (first | with_reducible rfl | rfl | (simp; done))))
      try simp only [Act.put, List.setIfInBounds_toArray, List.set_cons_zero, List.set_cons_succ]
      refine wpG_takeB (i := 2) (oi := ⟨some 48, _, _, _, _, _⟩) (v := .int .i64 (Nn : Int)) rfl (by kernel_rfl) (by kernel_rfl) (by kernel_rfl) (by decide) (fun _ _ _ h => by obtain ⟨h, -⟩ := h; cases h) h01 rfl hHeld (Or.inl ⟨by rfl, ?_⟩) ?_
      · (intro W9 hSw; obtain ⟨v1, v2, v3, v4, v5, v6, v7⟩ := hSw; go_simp; (try (first | with_reducible rfl | rfl | (simp; done))))
      try simp only [Act.put, List.setIfInBounds_toArray, List.set_cons_zero, List.set_cons_succ]
      refine wpG_takeB (i := 3) (oi := ⟨some 49, _, _, _, _, _⟩) (v := .bool false) rfl (by kernel_rfl) (by kernel_rfl) (by kernel_rfl) (by decide) (fun _ _ _ h => by obtain ⟨h, -⟩ := h; cases h) h01 rfl hHeld (Or.inl ⟨by rfl, ?_⟩) ?_
      · (intro W9 hSw; obtain ⟨v1, v2, v3, v4, v5, v6, v7⟩ := hSw; go_simp; (try (first | with_reducible rfl | rfl | (simp; done))))
      try simp only [Act.put, List.setIfInBounds_toArray, List.set_cons_zero, List.set_cons_succ]
      refine wpG_takeB (i := 4) (oi := ⟨some 50, _, _, _, _, _⟩) (v := .bool false) rfl (by kernel_rfl) (by kernel_rfl) (by kernel_rfl) (by decide) (fun _ _ _ h => by obtain ⟨h, -⟩ := h; cases h) h01 rfl hHeld (Or.inl ⟨by rfl, ?_⟩) ?_
      · (intro W9 hSw; obtain ⟨v1, v2, v3, v4, v5, v6, v7⟩ := hSw; go_simp; (try (first | with_reducible rfl | rfl | (simp; done))))
      try simp only [Act.put, List.setIfInBounds_toArray, List.set_cons_zero, List.set_cons_succ]
      refine wpG_takeB (i := 5) (oi := ⟨some 51, _, _, _, _, _⟩) (v := .slice (some ⟨gL, 0, none⟩) Nn cL) rfl (by kernel_rfl) (by kernel_rfl) (by kernel_rfl) (by decide) (fun _ _ _ h => by obtain ⟨h, -⟩ := h; cases h) h01 rfl hHeld (Or.inl ⟨by rfl, ?_⟩) ?_
      · (intro W9 hSw; obtain ⟨v1, v2, v3, v4, v5, v6, v7⟩ := hSw; go_simp; (try (first | with_reducible rfl | rfl | (simp; done))))
      try simp only [Act.put, List.setIfInBounds_toArray, List.set_cons_zero, List.set_cons_succ]
      refine wpG_takeB (i := 6) (oi := ⟨some 52, _, _, _, _, _⟩) (v := .int .i64 (j : Int)) rfl (by kernel_rfl) (by kernel_rfl) (by kernel_rfl) (by decide) (fun _ _ _ h => by obtain ⟨h, -⟩ := h; cases h) h01 rfl hHeld (Or.inl ⟨by rfl, ?_⟩) ?_
      · (intro W9 hSw; obtain ⟨v1, v2, v3, v4, v5, v6, v7⟩ := hSw; go_simp; (try (first | with_reducible rfl | rfl | (simp; done))))
      try simp only [Act.put, List.setIfInBounds_toArray, List.set_cons_zero, List.set_cons_succ]
      refine wpG_takeB (i := 7) (oi := ⟨some 53, _, _, _, _, _⟩) (v := .pointer (some ⟨gL, j * 3, none⟩)) rfl (by kernel_rfl) (by kernel_rfl) (by kernel_rfl) (by decide) (fun _ _ _ h => by obtain ⟨h, -⟩ := h; cases h) h01 rfl hHeld (Or.inl ⟨by rfl, ?_⟩) ?_
      · (intro W9 hSw; obtain ⟨v1, v2, v3, v4, v5, v6, v7⟩ := hSw; go_simp; (try (first | with_reducible rfl | rfl | (simp; done))))
      try simp only [Act.put, List.setIfInBounds_toArray, List.set_cons_zero, List.set_cons_succ]
      refine wpG_takeB (i := 8) (oi := ⟨some 54, _, _, _, _, _⟩) (v := .pointer (some ⟨gL, j * 3, none⟩)) rfl (by kernel_rfl) (by kernel_rfl) (by kernel_rfl) (by decide) (fun _ _ _ h => by obtain ⟨h, -⟩ := h; cases h) h01 rfl hHeld (Or.inl ⟨by rfl, ?_⟩) ?_
      · (intro W9 hSw; obtain ⟨v1, v2, v3, v4, v5, v6, v7⟩ := hSw; go_simp; (try (first | with_reducible rfl | rfl | (simp; done))))
      try simp only [Act.put, List.setIfInBounds_toArray, List.set_cons_zero, List.set_cons_succ]
      refine wpG_takeB (i := 9) (oi := ⟨some 55, _, _, _, _, _⟩) (v := .int .i64 (a0 : Int)) rfl (by kernel_rfl) (by kernel_rfl) (by kernel_rfl) (by decide) (fun _ _ _ h => by obtain ⟨h, -⟩ := h; cases h) h01 rfl hHeld (Or.inl ⟨by rfl, ?_⟩) ?_
      · (intro W9 hSw; obtain ⟨v1, v2, v3, v4, v5, v6, v7⟩ := hSw; go_simp; (try (first | with_reducible rfl | rfl | (simp; done))))
      try simp only [Act.put, List.setIfInBounds_toArray, List.set_cons_zero, List.set_cons_succ]
      refine wpG_takeB (i := 10) (oi := ⟨some 56, _, _, _, _, _⟩) (v := .int .i64 (a0 : Int)) rfl (by kernel_rfl) (by kernel_rfl) (by kernel_rfl) (by decide) (fun _ _ _ h => by obtain ⟨h, -⟩ := h; cases h) h01 rfl hHeld (Or.inl ⟨by rfl, ?_⟩) ?_
      · (intro W9 hSw; obtain ⟨v1, v2, v3, v4, v5, v6, v7⟩ := hSw; go_simp; (try (first | with_reducible rfl | rfl | (simp; done))))
      try simp only [Act.put, List.setIfInBounds_toArray, List.set_cons_zero, List.set_cons_succ]
      refine wpG_takeB (i := 11) (oi := ⟨some 57, _, _, _, _, _⟩) (v := .bool false) rfl (by kernel_rfl) (by kernel_rfl) (by kernel_rfl) (by decide) (fun _ _ _ h => by obtain ⟨h, -⟩ := h; cases h) h01 rfl hHeld (Or.inl ⟨by rfl, ?_⟩) ?_
      · (intro W9 hSw; obtain ⟨v1, v2, v3, v4, v5, v6, v7⟩ := hSw; go_simp; (try (first | with_reducible rfl | rfl | (simp; done))))
      try simp only [Act.put, List.setIfInBounds_toArray, List.set_cons_zero, List.set_cons_succ]
      refine wpG_takeB (i := 12) (oi := ⟨some 58, _, _, _, _, _⟩) (v := .bool false) rfl (by kernel_rfl) (by kernel_rfl) (by kernel_rfl) (by decide) (fun _ _ _ h => by obtain ⟨h, -⟩ := h; cases h) h01 rfl hHeld (Or.inl ⟨by rfl, ?_⟩) ?_
      · (intro W9 hSw; obtain ⟨v1, v2, v3, v4, v5, v6, v7⟩ := hSw; go_simp; (try (first | with_reducible rfl | rfl | (simp; done))))
      try simp only [Act.put, List.setIfInBounds_toArray, List.set_cons_zero, List.set_cons_succ]
      refine wpG_takeB (i := 13) (oi := ⟨some 59, _, _, _, _, _⟩) (v := .bool false) rfl (by kernel_rfl) (by kernel_rfl) (by kernel_rfl) (by decide) (fun _ _ _ h => by obtain ⟨h, -⟩ := h; cases h) h01 rfl hHeld (Or.inl ⟨by rfl, ?_⟩) ?_
      · (intro W9 hSw; obtain ⟨v1, v2, v3, v4, v5, v6, v7⟩ := hSw; go_simp; (try (first | with_reducible rfl | rfl | (simp; done))))
      try simp only [Act.put, List.setIfInBounds_toArray, List.set_cons_zero, List.set_cons_succ]
      refine wpG_takeB (i := 14) (oi := ⟨some 60, _, _, _, _, _⟩) (v := .slice (some ⟨gL, 0, none⟩) Nn cL) rfl (by kernel_rfl) (by kernel_rfl) (by kernel_rfl) (by decide) (fun _ _ _ h => by obtain ⟨h, -⟩ := h; cases h) h01 rfl hHeld (Or.inl ⟨by rfl, ?_⟩) ?_
      · (intro W9 hSw; obtain ⟨v1, v2, v3, v4, v5, v6, v7⟩ := hSw; go_simp; (try (first | with_reducible rfl | rfl | (simp; done))))
      try simp only [Act.put, List.setIfInBounds_toArray, List.set_cons_zero, List.set_cons_succ]
      refine wpG_takeB (i := 15) (oi := ⟨some 61, _, _, _, _, _⟩) (v := .int .i64 (j : Int)) rfl (by kernel_rfl) (by kernel_rfl) (by kernel_rfl) (by decide) (fun _ _ _ h => by obtain ⟨h, -⟩ := h; cases h) h01 rfl hHeld (Or.inl ⟨by rfl, ?_⟩) ?_
      · (intro W9 hSw; obtain ⟨v1, v2, v3, v4, v5, v6, v7⟩ := hSw; go_simp; (try (first | with_reducible rfl | rfl | (simp; done))))
      try simp only [Act.put, List.setIfInBounds_toArray, List.set_cons_zero, List.set_cons_succ]
      refine wpG_takeB (i := 16) (oi := ⟨some 62, _, _, _, _, _⟩) (v := .pointer (some ⟨gL, j * 3, none⟩)) rfl (by kernel_rfl) (by kernel_rfl) (by kernel_rfl) (by decide) (fun _ _ _ h => by obtain ⟨h, -⟩ := h; cases h) h01 rfl hHeld (Or.inl ⟨by rfl, ?_⟩) ?_
      · (intro W9 hSw; obtain ⟨v1, v2, v3, v4, v5, v6, v7⟩ := hSw; go_simp; (try (first | with_reducible rfl | rfl | (simp; done))))
      try simp only [Act.put, List.setIfInBounds_toArray, List.set_cons_zero, List.set_cons_succ]
      refine wpG_takeB (i := 17) (oi := ⟨some 63, _, _, _, _, _⟩) (v := .pointer (some ⟨gL, j * 3 + 1, none⟩)) rfl (by kernel_rfl) (by kernel_rfl) (by kernel_rfl) (by decide) (fun _ _ _ h => by obtain ⟨h, -⟩ := h; cases h) h01 rfl hHeld (Or.inl ⟨by rfl, ?_⟩) ?_
      · (intro W9 hSw; obtain ⟨v1, v2, v3, v4, v5, v6, v7⟩ := hSw; go_simp; (try (first | with_reducible rfl | rfl | (simp; done))))
      try simp only [Act.put, List.setIfInBounds_toArray, List.set_cons_zero, List.set_cons_succ]
      refine wpG_takeB (i := 18) (oi := ⟨some 64, _, _, _, _, _⟩) (v := .agg #[.string sn, .string st]) rfl (by kernel_rfl) (by kernel_rfl) (by kernel_rfl) (by decide) (fun _ _ _ h => by obtain ⟨h, -⟩ := h; cases h) h01 rfl hHeld (Or.inl ⟨by rfl, ?_⟩) ?_
      · (intro W9 hSw; obtain ⟨v1, v2, v3, v4, v5, v6, v7⟩ := hSw; go_simp; (try (first | with_reducible rfl | rfl | (simp; done))))
      try simp only [Act.put, List.setIfInBounds_toArray, List.set_cons_zero, List.set_cons_succ]
      refine wpG_takeB (i := 19) (oi := ⟨some 65, _, _, _, _, _⟩) (v := .agg #[.string sn, .string st]) rfl (by kernel_rfl) (by kernel_rfl) (by kernel_rfl) (by decide) (fun _ _ _ h => by obtain ⟨h, -⟩ := h; cases h) h01 rfl hHeld (Or.inl ⟨by rfl, ?_⟩) ?_
      · (intro W9 hSw; obtain ⟨v1, v2, v3, v4, v5, v6, v7⟩ := hSw; go_simp; (try (first | with_reducible rfl | rfl | (simp; done))))
      try simp only [Act.put, List.setIfInBounds_toArray, List.set_cons_zero, List.set_cons_succ]
      refine wpG_takeB (i := 20) (oi := ⟨some 66, _, _, _, _, _⟩) (v := .bool false) rfl (by kernel_rfl) (by kernel_rfl) (by kernel_rfl) (by decide) (fun _ _ _ h => by obtain ⟨h, -⟩ := h; cases h) h01 rfl hHeld (Or.inl ⟨by rfl, ?_⟩) ?_
      · (intro W9 hSw; obtain ⟨v1, v2, v3, v4, v5, v6, v7⟩ := hSw; go_simp; (try (first | with_reducible rfl | rfl | (simp; done))))
      try simp only [Act.put, List.setIfInBounds_toArray, List.set_cons_zero, List.set_cons_succ]
      refine wpG_takeB (i := 21) (oi := ⟨some 67, _, _, _, _, _⟩) (v := .bool false) rfl (by kernel_rfl) (by kernel_rfl) (by kernel_rfl) (by decide) (fun _ _ _ h => by obtain ⟨h, -⟩ := h; cases h) h01 rfl hHeld (Or.inl ⟨by rfl, ?_⟩) ?_
      · (intro W9 hSw; obtain ⟨v1, v2, v3, v4, v5, v6, v7⟩ := hSw; go_simp; (try (first | with_reducible rfl | rfl | (simp; done))))
      try simp only [Act.put, List.setIfInBounds_toArray, List.set_cons_zero, List.set_cons_succ]
      refine wpG_done (by kernel_rfl) ?_ _
      refine ⟨rfl, ?_⟩
      clear q1 hHeld h01
      obtain ⟨Wd, hWd⟩ : ∃ Wd, Wx.drew = Wd := ⟨_, rfl⟩
      have HDW := Lib.hid (show ∀ k : Nat, Wd.heap[k]? = Wx.heap[k]? from fun k => by rw [← hWd]; rfl)
      have HDB := Lib.hid (show ∀ B, Below B Wx Wd from fun B => hWd ▸ below_drew (Below.refl _ _))
      rw [hWd]
      clear hWd
      obtain ⟨k1, k2, k3, k4, k6, k7, k8⟩ := HH1.out
      have r1 : Blk Wd Bk 3 #[.int .i64 (j : Int)] := (HDW.out Bk).trans I1.out
      have r2 : Blk Wd Bt 3 #[.int .i64 t] := (HDW.out Bt).trans I2.out
      have r3 : Blk Wd w.heap.size 3 #[.int .i64 many] := (HDW.out _).trans (K7M.out.below I3.out k6)
      have ek := r1.cell 0
      have fk := r1.frozen 0
      have et := r2.cell 0
      have em := r3.cell 0
      simp only [List.getElem?_toArray, List.getElem?_cons_zero] at ek et em
      have hbw := I3.out.trans (HDB.out W7.heap.size)
      have HI := Lib.hid (show Blk (Wd.setCell ⟨Bk, 0, none⟩ (.int .i64 ((j : Int) + 1))) Bk 3 #[.int .i64 ((j + 1 : Nat) : Int)] ∧ Blk (Wd.setCell ⟨Bk, 0, none⟩ (.int .i64 ((j : Int) + 1))) Bt 3 #[.int .i64 t] ∧ Below W7.heap.size W7 (Wd.setCell ⟨Bk, 0, none⟩ (.int .i64 ((j : Int) + 1))) ∧ Marks W7.heap.size Ds (Wd.setCell ⟨Bk, 0, none⟩ (.int .i64 ((j : Int) + 1))) ∧ Wk.heap.size ≤ (Wd.setCell ⟨Bk, 0, none⟩ (.int .i64 ((j : Int) + 1))).heap.size from
        ⟨by have := r1.set_ 0 (.int .i64 ((j : Int) + 1)); simpa using this, r2.far (by simp; omega) _, Below.setCell hbw (by simp; omega) _, ⟨I4.out.nodup, fun D hD => ⟨(I4.out.there D hD).1, (Below.heap_setCell _ _ _ _ (by have := k3 D hD; simp; omega)).trans ((HDW.out D).trans (I4.out.there D hD).2)⟩⟩, by rw [World.size_setCell]; exact Nat.le_trans I5.out (HDB.out 0).size⟩)
      have HF2 := Lib.hid (show LKp (DnF dv ds) vs X (Wd.setCell ⟨Bk, 0, none⟩ (.int .i64 ((j : Int) + 1))) from
        ⟨by rw [World.size_setCell]; exact Nat.le_trans HF.out.1 (HDB.out 0).size, fun k hk => by
          have hlt9 := HFD.out k hk
          exact (Below.heap_setCell _ _ _ _ (by simp; omega)).trans ((HDW.out k).trans (HF.out.2 k hk))⟩)
      have HKF := Lib.hid (show KeepsFrom Wk.heap.size Wx (Wd.setCell ⟨Bk, 0, none⟩ (.int .i64 ((j : Int) + 1))) from (show KeepsFrom Wk.heap.size Wx Wd from ⟨(HDB.out 0).size, fun k o _ h _ => (HDW.out k).trans h⟩).trans ((KeepsOthers.setCell _ _ _).from _))
      clear r1 r2 r3 hbw
      obtain ⟨i1, i2, i3, i4, i5⟩ := HI.out
      replace i1 := Lib.hid i1
      replace i2 := Lib.hid i2
      replace i3 := Lib.hid i3
      replace i4 := Lib.hid i4
      replace i5 := Lib.hid i5
      by_cases h0 : t = 0
      · have q2 : ((t : Int) == 0) = true := by simp; omega
        have H0 := Lib.hid h0
        clear h0
        by_cases hmn : many ≤ (j : Int) + 1
        · have q3 : decide (many ≤ (j : Int) + 1) = true := by simpa using hmn
          gi_wp2_with fail
          exact ⟨HKF.out, rfl, i1.out, i2.out, i3.out, i4.out, i5.out, H0.out, by omega, by have := I6.out H0.out; omega, by omega⟩
        · have q3 : decide (many ≤ (j : Int) + 1) = false := by simpa using hmn
          gi_wp2_with fail
          exact ⟨HKF.out, HF2.out, i1.out, i2.out, i3.out, i4.out, i5.out, fun _ => .inr (by omega)⟩
      · have q2 : ((t : Int) == 0) = false := by simp; omega
        gi_wp2_with fail
        exact ⟨HKF.out, HF2.out, i1.out, i2.out, i3.out, i4.out, i5.out, fun h => absurd h h0⟩
    case done =>
      rintro D X hD h hK
      simp only [Exit.inBlock, Exit.then]
      go_at_K
      have hDs : D ∉ Ds := fun hD2 => by have := hDlt D hD2; omega
      have ek := h.k.cell 0
      have et := h.bt.cell 0
      have en := (K7L.out.below h.below hlL).cell 0
      have em := (K7M.out.below h.below hlM).cell 0
      simp only [List.getElem?_toArray, List.getElem?_cons_zero] at ek et en em
      have HH := Lib.hid h
      have HK := Lib.hid hK
      have HD := Lib.hid hD
      have HZK := Lib.hid (And.intro h7k hzk)
      clear h hK hzk hD
      by_cases h0 : t = 0
      · have q2 : ((t : Int) == 0) = true := by simp; omega
        have hc := HH.out.c h0
        have q1 : ((t : Int) == 1) = false := by simp; omega
        have H0 := Lib.hid h0
        clear h0
        by_cases hmn : many ≤ 1
        · have q4 : decide (1 < many) = false := by simpa using hmn
          have p4 : ¬ 1 < many := by omega
          have p5 : ¬ (1 : Int) < (Nn : Int) := by omega
          clear hc hmn q4
          go_wp2_with fail
          have kn : Blk (X.alloc (.cells #[.int .i64 ((t : Int) + 1)] 3)) X.heap.size 3 #[.int .i64 ((t + 1 : Nat) : Int)] := by have := Blk.new X 3 #[.int .i64 ((t : Int) + 1)]; simpa using this
          exact ⟨⟨t + 1, X.heap.size, D :: Ds, rfl, rfl, rfl, rfl, rfl, rfl, rfl, by omega, kn, HH.out.below.size, HH.out.below.alloc HH.out.below.size _, List.nodup_cons.2 ⟨hDs, HH.out.marks.nodup⟩, fun E hE => by
            rcases List.mem_cons.1 hE with rfl | hE
            · exact ⟨by have := HZK.out; have := HD.out; omega, (Below.heap_alloc _ _ _ (Array.getElem?_eq_some_iff.1 HK.out).1).trans HK.out⟩
            · exact ⟨(HH.out.marks.there E hE).1, (Below.heap_alloc _ _ _ (HH.out.marks.lt E hE)).trans (HH.out.marks.there E hE).2⟩⟩, by
            show 2 - turnOf (.pointer (some ⟨X.heap.size, 0, none⟩)) _ < 2 - turnOf (.pointer (some ⟨Bt, 0, none⟩)) W
            rw [turnOf_blk kn, turnOf_blk HT.out]
            omega⟩
        · have q4 : decide (1 < many) = true := by simp; omega
          have p4 : 1 < many := by omega
          have p5 : ¬ many < (Nn : Int) := by omega
          clear hc hmn q4
          go_wp2_with fail
          have kn : Blk (X.alloc (.cells #[.int .i64 ((t : Int) + 1)] 3)) X.heap.size 3 #[.int .i64 ((t + 1 : Nat) : Int)] := by have := Blk.new X 3 #[.int .i64 ((t : Int) + 1)]; simpa using this
          exact ⟨⟨t + 1, X.heap.size, D :: Ds, rfl, rfl, rfl, rfl, rfl, rfl, rfl, by omega, kn, HH.out.below.size, HH.out.below.alloc HH.out.below.size _, List.nodup_cons.2 ⟨hDs, HH.out.marks.nodup⟩, fun E hE => by
            rcases List.mem_cons.1 hE with rfl | hE
            · exact ⟨by have := HZK.out; have := HD.out; omega, (Below.heap_alloc _ _ _ (Array.getElem?_eq_some_iff.1 HK.out).1).trans HK.out⟩
            · exact ⟨(HH.out.marks.there E hE).1, (Below.heap_alloc _ _ _ (HH.out.marks.lt E hE)).trans (HH.out.marks.there E hE).2⟩⟩, by
            show 2 - turnOf (.pointer (some ⟨X.heap.size, 0, none⟩)) _ < 2 - turnOf (.pointer (some ⟨Bt, 0, none⟩)) W
            rw [turnOf_blk kn, turnOf_blk HT.out]
            omega⟩
      · have q2 : ((t : Int) == 0) = false := by simp; omega
        have q1 : ((t : Int) == 1) = true := by simp; omega
        go_wp2_with fail
        have kn : Blk (X.alloc (.cells #[.int .i64 ((t : Int) + 1)] 3)) X.heap.size 3 #[.int .i64 ((t + 1 : Nat) : Int)] := by have := Blk.new X 3 #[.int .i64 ((t : Int) + 1)]; simpa using this
        exact ⟨⟨t + 1, X.heap.size, D :: Ds, rfl, rfl, rfl, rfl, rfl, rfl, rfl, by omega, kn, HH.out.below.size, HH.out.below.alloc HH.out.below.size _, List.nodup_cons.2 ⟨hDs, HH.out.marks.nodup⟩, fun E hE => by
          rcases List.mem_cons.1 hE with rfl | hE
          · exact ⟨by have := HZK.out; have := HD.out; omega, (Below.heap_alloc _ _ _ (Array.getElem?_eq_some_iff.1 HK.out).1).trans HK.out⟩
          · exact ⟨(HH.out.marks.there E hE).1, (Below.heap_alloc _ _ _ (HH.out.marks.lt E hE)).trans (HH.out.marks.there E hE).2⟩⟩, by
          show 2 - turnOf (.pointer (some ⟨X.heap.size, 0, none⟩)) _ < 2 - turnOf (.pointer (some ⟨Bt, 0, none⟩)) W
          rw [turnOf_blk kn, turnOf_blk HT.out]
          omega⟩
    case stop =>
      rintro D cd j X hD hj ⟨rfl, h1, h2, h3, h4, h5', h6, h7, h8, h9⟩ hK
      obtain ⟨jj, hjj⟩ : ∃ jj, j + 1 = jj := ⟨_, rfl⟩
      rw [hjj] at h1 h7 h8 h9
      have hjN : jj ≤ Nn := by omega
      have hDs : D ∉ Ds := fun hD2 => by have := hDlt D hD2; omega
      have ek := h1.cell 0
      have et := h2.cell 0
      have en := (K7L.out.below h3 hlL).cell 0
      have em := (K7M.out.below h3 hlM).cell 0
      simp only [List.getElem?_toArray, List.getElem?_cons_zero] at ek et en em
      have H3 := Lib.hid h3
      have H4 := Lib.hid h4
      have HK := Lib.hid hK
      have HD := Lib.hid hD
      have HZK := Lib.hid (And.intro h7k hzk)
      have q2 : ((t : Int) == 0) = true := by simp; omega
      have q1 : ((t : Int) == 1) = false := by simp; omega
      have H0 := Lib.hid h6
      clear h1 h2 h3 h4 h5' h6 hK hD hzk hjj
      by_cases hmn : many ≤ 1
      · obtain rfl : jj = 1 := by omega
        have p4 : ¬ 1 < many := by omega
        clear hmn h7 h8 h9
        by_cases hN : 1 < (Nn : Int)
        · skip
          refine wpIn_wide.2 ?_
          go_wp2_with fail
          have kn : Blk (X.alloc (.cells #[.int .i64 ((t : Int) + 1)] 3)) X.heap.size 3 #[.int .i64 ((t + 1 : Nat) : Int)] := by have := Blk.new X 3 #[.int .i64 ((t : Int) + 1)]; simpa using this
          exact ⟨⟨t + 1, X.heap.size, D :: Ds, rfl, rfl, rfl, rfl, rfl, rfl, rfl, by omega, kn, H3.out.size, H3.out.alloc H3.out.size _, List.nodup_cons.2 ⟨hDs, H4.out.nodup⟩, fun E hE => by
            rcases List.mem_cons.1 hE with rfl | hE
            · exact ⟨by have := HZK.out; have := HD.out; omega, (Below.heap_alloc _ _ _ (Array.getElem?_eq_some_iff.1 HK.out).1).trans HK.out⟩
            · exact ⟨(H4.out.there E hE).1, (Below.heap_alloc _ _ _ (H4.out.lt E hE)).trans (H4.out.there E hE).2⟩⟩, by
            show 2 - turnOf (.pointer (some ⟨X.heap.size, 0, none⟩)) _ < 2 - turnOf (.pointer (some ⟨Bt, 0, none⟩)) W
            rw [turnOf_blk kn, turnOf_blk HT.out]
            omega⟩
        · have hN1 : (Nn : Int) = 1 := by omega
          refine wpIn_wide.2 ?_
          go_wp2_with fail
          have kn : Blk (X.alloc (.cells #[.int .i64 ((t : Int) + 1)] 3)) X.heap.size 3 #[.int .i64 ((t + 1 : Nat) : Int)] := by have := Blk.new X 3 #[.int .i64 ((t : Int) + 1)]; simpa using this
          exact ⟨⟨t + 1, X.heap.size, D :: Ds, rfl, rfl, rfl, rfl, rfl, rfl, rfl, by omega, kn, H3.out.size, H3.out.alloc H3.out.size _, List.nodup_cons.2 ⟨hDs, H4.out.nodup⟩, fun E hE => by
            rcases List.mem_cons.1 hE with rfl | hE
            · exact ⟨by have := HZK.out; have := HD.out; omega, (Below.heap_alloc _ _ _ (Array.getElem?_eq_some_iff.1 HK.out).1).trans HK.out⟩
            · exact ⟨(H4.out.there E hE).1, (Below.heap_alloc _ _ _ (H4.out.lt E hE)).trans (H4.out.there E hE).2⟩⟩, by
            show 2 - turnOf (.pointer (some ⟨X.heap.size, 0, none⟩)) _ < 2 - turnOf (.pointer (some ⟨Bt, 0, none⟩)) W
            rw [turnOf_blk kn, turnOf_blk HT.out]
            omega⟩
      · obtain rfl : many = (jj : Int) := by omega
        have p4 : (1 : Int) < (jj : Int) := by omega
        clear hmn h7 h8
        by_cases hN : jj < Nn
        · have q5 : decide (jj < Nn) = true := by simpa using hN
          refine wpIn_wide.2 ?_
          go_wp2_with fail
          have kn : Blk (X.alloc (.cells #[.int .i64 ((t : Int) + 1)] 3)) X.heap.size 3 #[.int .i64 ((t + 1 : Nat) : Int)] := by have := Blk.new X 3 #[.int .i64 ((t : Int) + 1)]; simpa using this
          exact ⟨⟨t + 1, X.heap.size, D :: Ds, rfl, rfl, rfl, rfl, rfl, rfl, rfl, by omega, kn, H3.out.size, H3.out.alloc H3.out.size _, List.nodup_cons.2 ⟨hDs, H4.out.nodup⟩, fun E hE => by
            rcases List.mem_cons.1 hE with rfl | hE
            · exact ⟨by have := HZK.out; have := HD.out; omega, (Below.heap_alloc _ _ _ (Array.getElem?_eq_some_iff.1 HK.out).1).trans HK.out⟩
            · exact ⟨(H4.out.there E hE).1, (Below.heap_alloc _ _ _ (H4.out.lt E hE)).trans (H4.out.there E hE).2⟩⟩, by
            show 2 - turnOf (.pointer (some ⟨X.heap.size, 0, none⟩)) _ < 2 - turnOf (.pointer (some ⟨Bt, 0, none⟩)) W
            rw [turnOf_blk kn, turnOf_blk HT.out]
            omega⟩
        · have hN1 : (Nn : Int) = jj := by omega
          refine wpIn_wide.2 ?_
          go_wp2_with fail
          have kn : Blk (X.alloc (.cells #[.int .i64 ((t : Int) + 1)] 3)) X.heap.size 3 #[.int .i64 ((t + 1 : Nat) : Int)] := by have := Blk.new X 3 #[.int .i64 ((t : Int) + 1)]; simpa using this
          exact ⟨⟨t + 1, X.heap.size, D :: Ds, rfl, rfl, rfl, rfl, rfl, rfl, rfl, by omega, kn, H3.out.size, H3.out.alloc H3.out.size _, List.nodup_cons.2 ⟨hDs, H4.out.nodup⟩, fun E hE => by
            rcases List.mem_cons.1 hE with rfl | hE
            · exact ⟨by have := HZK.out; have := HD.out; omega, (Below.heap_alloc _ _ _ (Array.getElem?_eq_some_iff.1 HK.out).1).trans HK.out⟩
            · exact ⟨(H4.out.there E hE).1, (Below.heap_alloc _ _ _ (H4.out.lt E hE)).trans (H4.out.there E hE).2⟩⟩, by
            show 2 - turnOf (.pointer (some ⟨X.heap.size, 0, none⟩)) _ < 2 - turnOf (.pointer (some ⟨Bt, 0, none⟩)) W
            rw [turnOf_blk kn, turnOf_blk HT.out]
            omega⟩
  · have C10 := Lib.hid (known_any W)
    have kb := K7R.out.below HBb.out K7R.out.lt
    have f1 := kb.frozen 0
    have KB4 := Lib.hid kb
    have q1 : decide (t < 2) = false := by simp; omega
    clear kb
    go_wp2_with (go_at_call 11; (with_reducible refine C10.out.mono ?_); rintro e w9 ⟨rfl, b9⟩; have k9 := KB4.out.below b9 KB4.out.lt; have e9 := k9.cell 0; have f9 := k9.frozen 0; simp at e9; have K9 := Lib.hid k9; have B9 := Lib.hid b9; clear b9 k9)
    refine HEND.out _ _ _ Ds ?_ ⟨HMk.out.nodup, fun D hD => ?_⟩ ?_ ?_
    · rfl
    · have := HMk.out.there D hD
      have hlt := HMk.out.lt D hD
      refine ⟨by have := HS7.out; omega, ?_⟩
      rw [Below.heap_setCell _ _ _ _ (by simp; have := HS7.out; omega)]
      exact (B9.out.block D hlt).trans this.2
    · exact Below.setCell (B7w.out.trans ((HBb.out.trans (B9.out.mono HBb.out.size)).mono B7w.out.size)) (by simp) _
    · have := K9.out.set_ 0 (.bool true)
      simpa using this

end Go.Proofs.YtkalllenggmgoaaDoor
