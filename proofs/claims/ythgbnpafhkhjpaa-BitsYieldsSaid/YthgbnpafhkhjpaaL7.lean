/- The walk of BitsYields. -/
import Derived.Test.YthgbnpafhkhjpaaYl
import Derived.Test.YthgbnpafhkhjpaaFr
namespace Go.Proofs.Ythgbnpafhkhjpaa
open Go.RowKit
attribute [local go_sem] wide_fn wide_depth wide_fn_in wide_depth_in Oper.semAt_some
set_option linter.unusedVariables false
set_option linter.unusedSimpArgs false

set_option maxRecDepth 100000 in
set_option maxHeartbeats 16000000 in
theorem yields_any (A0 : Option Addr) (n0 c0 : Nat) (l : List UInt8) (pl many : Int) (w : World) (hl : l.length = n0) (hb0 : Holds w A0 n0 (l.map u8)) (hc0 : A0 = none → c0 = 0) (hp0 : 0 ≤ pl) (hp1 : pl < 256) (hn0' : n0 ≤ maxLen) :
    Calls Try.prog 7 #[.slice A0 n0 c0, .int .u8 pl, .int .i64 many] w fun e w' => e = .returned (.bool true) ∧ Below w.heap.size w w' := by
  have HB0 := Lib.hid hb0
  have HL := Lib.hid hl
  have HC0 := Lib.hid hc0
  refine (callsIn_wide (n := 100)).1 ?_
  refine callsIn_of_wp_marks Try.func7 rfl trivial ?_ rfl
  refine wpIn_wide.2 ?_
  simp only [Try.ntmps7, List.size_toArray, List.length_cons, List.length_nil, Nat.reduceAdd, Nat.reduceSub, Array.replicate_succ, Array.replicate_zero, List.push_toArray, List.append_toArray, List.nil_append, List.cons_append]
  have hba : Below w.heap.size w ((w.alloc (.cells #[.int .i64 many] 3)).alloc (.cells #[.bool false] 4)) := ((Below.refl _ w).alloc (Nat.le_refl _) _).alloc (by simp) _
  have kA : Blk ((w.alloc (.cells #[.int .i64 many] 3)).alloc (.cells #[.bool false] 4)) w.heap.size 3 #[.int .i64 many] := (Blk.new w 3 _).alloc _
  have kB : Blk ((w.alloc (.cells #[.int .i64 many] 3)).alloc (.cells #[.bool false] 4)) (w.heap.size + 1) 4 #[.bool false] := by have := Blk.new (w.alloc (.cells #[.int .i64 many] 3)) 4 #[.bool false]; rw [World.size_alloc] at this; exact this
  have HBA := Lib.hid hba
  have HKA := Lib.hid kA
  have HKB := Lib.hid kB
  have HZ := Lib.hid (show ((w.alloc (.cells #[.int .i64 many] 3)).alloc (.cells #[.bool false] 4)).heap.size = w.heap.size + 2 by simp)
  have ending : ∀ (nn : Nat) (tm : Array Value) (W : World) (Ds : List Nat), tm.getD 6 undef = .pointer (some ⟨w.heap.size + 1, 0, none⟩) → Marks (w.heap.size + 2) Ds W → Below w.heap.size w W → Blk W (w.heap.size + 1) 4 #[.bool true] → LeavesInM Fence.wide nn Try.prog Try.f7 tm (fun e w' => e = .returned (.bool true) ∧ Below w.heap.size w w') (Ds.map mark) .returning W := by
    intro nn tm W Ds ht hM hb hk
    refine leaves_marks2 (v := .bool true) Ds W hM fun w' hs => ⟨?_, rfl, hb.trans (hs.to_below.mono (by omega))⟩
    have hk' := (hk.below hs.to_below (by omega)).cell 0
    simp at hk'
    have ht' : tm[6]?.getD undef = .pointer (some ⟨w.heap.size + 1, 0, none⟩) := by simpa using ht
    simp [results, Try.results7, go_sem, ht', hk']
  have HEND := Lib.hid ending
  have hn0 : (n0 : Int) ≤ 9223372036854775807 := by unfold maxLen at hn0'; omega
  clear hba kA kB ending hb0 hl hc0 hn0'
  by_cases h20 : 20 < (n0 : Int)
  · have q0 : decide (20 < (n0 : Int)) = true := by simpa using h20
    clear h20
    have f1 := HKB.out.frozen 0
    have C9 := Lib.hid (known_any ((w.alloc (.cells #[.int .i64 many] 3)).alloc (.cells #[.bool false] 4)))
    go_wp2_with (go_at_call 9; (with_reducible refine C9.out.mono ?_); rintro e w9 ⟨rfl, b9⟩; have k9 := HKB.out.below b9 HKB.out.lt; have e9 := k9.cell 0; have f9 := k9.frozen 0; simp at e9; have K9 := Lib.hid k9; have B9 := Lib.hid (HBA.out.trans (b9.mono HBA.out.size)); clear b9 k9)
    refine HEND.out _ _ _ [] ?_ ⟨List.nodup_nil, fun D hD => by cases hD⟩ ?_ ?_
    · rfl
    · exact Below.setCell B9.out (by simp) _
    · have := K9.out.set_ 0 (.bool true)
      simpa using this
  have q0 : decide (20 < (n0 : Int)) = false := by simpa using h20
  have hn20 : (n0 : Int) ≤ 20 := by omega
  clear h20 hn0
  have h14 := newReader_ok A0 n0 c0 l ((w.alloc (.cells #[.int .i64 many] 3)).alloc (.cells #[.bool false] 4)) (by omega) (HB0.out.keep HBA.out) HC0.out
  have C14 := Lib.hid h14
  obtain ⟨m, hm⟩ : ∃ m, 8 * n0 = m := ⟨_, rfl⟩
  have HM := Lib.hid (show 8 * l.length = m by rw [HL.out, hm])
  have hm8 : (m : Int) ≤ 160 := by omega
  have HMM := Lib.hid hm
  clear h14 hm
  obtain ⟨pn, rfl⟩ := Int.eq_ofNat_of_zero_le hp0
  by_cases hsk : pn ≤ m
  · have hse := skip_fine l 0 pn (by rw [HM.out]; omega)
    have HSE := Lib.hid hse.1
    have HSN := Lib.hid (show 0 + rN (rE l 0 (skipC pn) pn) pn = pn by rw [hse.2]; omega)
    clear hse
    go_wp2_with (first
      | (go_at_call 14; (with_reducible refine C14.out.mono ?_); rintro e w1 ⟨g, rv, rfl, hg1, r1, b1, -⟩; have R1 := Lib.hid r1; have B1 := Lib.hid (HBA.out.trans (b1.mono HBA.out.size)); have KA1 := Lib.hid (HKA.out.below b1 HKA.out.lt); have KB1 := Lib.hid (HKB.out.below b1 HKB.out.lt); have h25 := rof_any A0 n0 c0 l w1 (HB0.out.keep B1.out) (by omega); rw [HMM.out] at h25; have C25 := Lib.hid h25; have HG1 := Lib.hid (show w.heap.size + 2 ≤ g by have := HZ.out; omega); clear r1 b1 h25 hg1)
      | (go_at_call 25; (with_reducible refine C25.out.mono ?_); rintro e w2 ⟨va, rfl, ho, b2⟩; obtain ⟨Aa, ca, rfl, -⟩ := own_form ho; refine Hid.out ?_))
    refine Lib.hid ?_
    have R2 := Lib.hid (R1.out.over b2)
    have B2 := Lib.hid (B1.out.trans (b2.mono B1.out.size))
    have KA2 := Lib.hid (KA1.out.below b2 KA1.out.lt)
    have KB2 := Lib.hid (KB1.out.below b2 KB1.out.lt)
    have HO2 := Lib.hid ho
    clear b2 ho
    have bb : Below w2.heap.size w2 (w2.alloc (.cells #[.slice Aa m ca] 44)) := (Below.refl _ _).alloc (Nat.le_refl _) _
    have h15 := skip_some _ g rv l 0 pn _ (R2.out.over bb)
    rw [HSN.out, HSE.out] at h15
    have C15 := Lib.hid h15
    have hgw2 := R2.out.blk.lt
    have HX2 := Lib.hid bb
    clear h15 bb
    go_wp2_with (go_at_call 15; (with_reducible refine C15.out.mono ?_); rintro e w3 ⟨rfl, r3, t3⟩; refine Hid.out ?_)
    refine Lib.hid ?_
    have hg1 := HG1.out
    have kall3 := (Blk.new w2 44 #[.slice Aa m ca]).two t3 (by omega)
    have R3 := Lib.hid r3
    have B3 := Lib.hid (t3.below_of (B2.out.trans (HX2.out.mono B2.out.size)) (by omega))
    have KA3 := Lib.hid ((KA2.out.alloc (.cells #[.slice Aa m ca] 44)).two t3 (by omega))
    have KB3 := Lib.hid ((KB2.out.alloc (.cells #[.slice Aa m ca] 44)).two t3 (by omega))
    have KC3 := Lib.hid kall3
    have HO3 := Lib.hid (own_two (own_alloc HO2.out (o := .cells #[.slice Aa m ca] 44)) t3 (own_not_blk (own_alloc HO2.out) (R2.out.over HX2.out).blk (by decide)))
    have C32 := Lib.hid (rbits_some _ g rv l pn w3 r3)
    have hw3 : w2.heap.size < w3.heap.size := kall3.lt
    clear r3 t3 kall3 C15
    go_wp2_with (go_at_call 32; (with_reducible refine C32.out.mono ?_); rintro e w4 ⟨Pb, Sb, gi, vi, rfl, hP, hS, hG, kP, kS, r4, b4⟩; refine Hid.out ?_)
    refine Lib.hid ?_
    have hnf : ∀ W : World, (binOp .eql 57 (.func (.func 65) #[] #[.pointer (some ⟨Pb, 0, none⟩), .pointer (some ⟨Sb, 0, none⟩)]) .nilFunc).run Try.prog W = .ok (.bool false) W := fun W => by kernel_rfl
    have hp := r4.place
    rw [HM.out] at hp
    have R4 := Lib.hid (R3.out.over b4)
    have I4 := Lib.hid r4
    have KP4 := Lib.hid kP
    have KS4 := Lib.hid kS
    have B4 := Lib.hid (B3.out.trans (b4.mono B3.out.size))
    have KA4 := Lib.hid (KA3.out.below b4 KA3.out.lt)
    have KB4 := Lib.hid (KB3.out.below b4 KB3.out.lt)
    have KC4 := Lib.hid (KC3.out.below b4 KC3.out.lt)
    have HO4 := Lib.hid (own_keeps HO3.out fun k hk => b4.block k (own_lt HO3.out k hk))
    have hsk2 := skip_fine l pn (m - pn) (by rw [HM.out]; omega)
    rw [show ((m - pn : Nat) : Int) = ((m : Int) - pn) by omega] at hsk2
    have C15 := Lib.hid (fun (B : Nat) (W : World) (h : RS W B g rv l pn) => skip_some B g rv l pn ((m : Int) - pn) W h)
    have HSK := Lib.hid hsk2.1
    have h24 := rleft_some g rv m pn w4 (by omega) hp (by have := R4.out.blk; rw [HM.out] at this; exact this)
    rw [show (m : Int) - ((pn : Nat) : Int) = ((m : Int) - pn) by simp] at h24
    have C24 := Lib.hid h24
    have hPS := Lib.hid (show w2.heap.size < Pb ∧ w2.heap.size < Sb ∧ w2.heap.size < gi by omega)
    clear r4 b4 kP kS hP hS hG hsk2 C32 h24
    go_wp2_with (first
      | (go_at_call 24; (with_reducible refine C24.out.mono ?_); rintro e w5 ⟨rfl, b5⟩; have R5 := Lib.hid (R4.out.over b5); have B5 := Lib.hid b5; clear b5)
      | (go_at_call 15; (with_reducible refine (C15.out _ _ R5.out).mono ?_); rintro e w6 ⟨rfl, r6, t6⟩; rw [HSK.out]; refine Hid.out ?_))
    refine Lib.hid ?_
    have hgi := hPS.out
    have hgw4 := R4.out.blk.lt
    have t46 := Two.of_below B5.out t6
    have RB4 := RB.own HO4.out
    obtain ⟨Az, cz, ez, rb⟩ := RB4
    cases ez
    have KA6 := Lib.hid (KA4.out.two t46 (by omega))
    have KB6 := Lib.hid (KB4.out.two t46 (by omega))
    have kc6 := KC4.out.two t46 (by omega)
    have KP6 := Lib.hid (KP4.out.two t46 (by omega))
    have KS6 := Lib.hid (KS4.out.two t46 (by omega))
    have I6 := Lib.hid (I4.out.two t46 (by omega) (own_not_blk I4.out.own R4.out.blk (by decide)))
    have B6 := Lib.hid (t46.below_of B4.out (by omega))
    have ho6 := own_two HO4.out t46 (own_not_blk HO4.out R4.out.blk (by decide))
    obtain ⟨Az, cz, ez, rb6⟩ := RB.own ho6
    cases ez
    obtain ⟨A7, c7, hsl, rb7, ha7⟩ := slice_from w6 Aa m ca pn _ rb6 (by omega)
    obtain ⟨Nn, hNn⟩ : ∃ N, m - pn = N := ⟨_, rfl⟩
    rw [hNn] at hsl rb7
    rw [show (((pn : Nat)) : Int) = (pn : Int) from rfl] at hsl
    have HNN := Lib.hid hNn
    clear hNn
    have cc6 := kc6.cell 0
    have cf6 := kc6.frozen 0
    simp only [List.getElem?_toArray, List.getElem?_cons_zero, List.getElem?_cons_succ] at cc6
    have KC6 := Lib.hid kc6
    have RB7 := Lib.hid rb7
    have HA7 := Lib.hid (show ∀ a, A7 = some a → a.block < w2.heap.size from fun a ha => by
      obtain ⟨a0, h0, h1⟩ := ha7 a ha
      rw [h1]
      exact own_lt HO2.out a0.block (by rw [h0]; rfl))
    clear t6 t46 rb rb6 ho6 kc6 rb7 ha7
    go_wp2_with fail
    obtain ⟨W7, hW7⟩ : ∃ W7, w6.setCell ⟨w2.heap.size, 0, none⟩ (.slice A7 Nn c7) = W7 := ⟨_, rfl⟩
    have hs7 : W7.heap.size = w6.heap.size := by rw [← hW7, World.size_setCell]
    have b67 : Below w2.heap.size w6 W7 := hW7 ▸ Below.setCell (Below.refl _ _) (by simp) _
    have g67 : w6.grownBy W7 (some w2.heap.size) := hW7 ▸ Below_set _ _ _ _
    have hww2 := B2.out.size
    have hka2 := KB2.out.lt
    have K7M := Lib.hid (KA6.out.below b67 (by omega))
    have K7R := Lib.hid (KB6.out.below b67 (by omega))
    have K7A := Lib.hid (show Blk W7 w2.heap.size 44 #[.slice A7 Nn c7] from by have := KC6.out.set_ 0 (.slice A7 Nn c7); rw [hW7] at this; simpa using this)
    have R7 := Lib.hid (RB7.out.low b67 HA7.out)
    have I7 := Lib.hid (I6.out.grown g67 (fun e => by injection e with e; omega) (fun k hk e => by injection e with e; exact own_not_blk I6.out.own KC6.out (by decide) (e ▸ hk)))
    have K7P := Lib.hid (KP6.out.grown g67 (fun e => by injection e with e; omega))
    have K7S := Lib.hid (KS6.out.grown g67 (fun e => by injection e with e; omega))
    have B7 := Lib.hid (B6.out.trans (b67.mono hww2))
    have HS7 := Lib.hid (show w.heap.size + 2 ≤ W7.heap.size by have := KC6.out.lt; omega)
    rw [hW7, ← hs7]
    clear hW7 hs7 b67 g67 hww2 hka2 cc6 cf6 hsl
    obtain ⟨Av, cv, ev, -, -, -, -⟩ := own_form I7.out.own
    subst ev
    have HL7 := Lib.hid (show Blk W7 gi 66 #[.slice Av l.length cv, .int .i64 m, .int .i64 (pn : Int), .bool true] from by have := I7.out.blk; rw [HM.out] at this; exact this)
    have H7 := Lib.hid (holds_own I7.out.own)
    have HAV := Lib.hid (show ∀ q, Av = some q → q.block < W7.heap.size from fun q hq => own_lt I7.out.own q.block (by rw [hq]; rfl))
    have KT := Lib.hid (Blk.new W7 3 #[.int .i64 ((0 : Nat) : Int)])
    have BT := Lib.hid ((Below.refl W7.heap.size W7).alloc (Nat.le_refl _) (.cells #[.int .i64 0] 3))
    refine (wpIn_wide (n := 99)).1 ?_
    refine wpIn_loop (YLoop w.heap.size w2.heap.size Pb Sb W7)
      (fun a W => 2 - turnOf (a.tmps.getD 12 undef) W) ⟨0, W7.heap.size, [], rfl, rfl, rfl, rfl, rfl, rfl, rfl, by omega, KT.out, Nat.le_refl _, BT.out, List.nodup_nil, fun D hD => by cases hD⟩ ?_
    rintro ⟨tm, df⟩ W ⟨t, Bt, Ds, hsz, h5, h6, h9, h11, h12, hdf, ht, hkt, hbt, hb, hM⟩
    dsimp only at hsz h5 h6 h9 h11 h12 hdf ⊢
    obtain ⟨x, hx⟩ : ∃ x : Nat → Value, (fun k => tm.getD k undef) = x := ⟨_, rfl⟩
    have e : tm = #[x 0, x 1, x 2, x 3, x 4, x 5, x 6, x 7, x 8, x 9, x 10, x 11, x 12, x 13, x 14, x 15, x 16, x 17, x 18, x 19, x 20, x 21, x 22, x 23, x 24, x 25, x 26, x 27, x 28, x 29, x 30, x 31, x 32, x 33, x 34, x 35, x 36, x 37, x 38, x 39, x 40, x 41, x 42, x 43, x 44, x 45, x 46, x 47, x 48, x 49, x 50, x 51, x 52, x 53, x 54, x 55, x 56, x 57, x 58, x 59, x 60, x 61, x 62, x 63, x 64, x 65, x 66, x 67, x 68, x 69, x 70, x 71, x 72, x 73, x 74, x 75, x 76, x 77, x 78, x 79, x 80, x 81, x 82, x 83, x 84, x 85, x 86, x 87, x 88, x 89, x 90, x 91, x 92, x 93, x 94, x 95, x 96, x 97, x 98, x 99, x 100, x 101, x 102] := (arr_lit tm 103 hsz).trans (by rw [hx]; rfl)
    have y5 := (congrFun hx 5).symm.trans h5
    have y6 := (congrFun hx 6).symm.trans h6
    have y9 := (congrFun hx 9).symm.trans h9
    have y11 := (congrFun hx 11).symm.trans h11
    have y12 := (congrFun hx 12).symm.trans h12
    rw [y5, y6, y9, y11, y12] at e
    clear y5 y6 y9 y11 y12 h5 h6 h9 h11 h12 hsz hx
    subst e hdf
    have HT := Lib.hid hkt
    have HBb := Lib.hid hb
    have HMk := Lib.hid hM
    have ct := hkt.cell 0
    simp at ct
    clear hkt hb hM
    refine wpIn_wide.2 ?_
    by_cases hlt : (t : Int) < 2
    · have ht2 : t < 2 := by omega
      go_wp2_with fail
      obtain ⟨Wk, hWk⟩ : ∃ Wk, W.alloc (.cells #[.int .i64 0] 3) = Wk := ⟨_, rfl⟩
      have hbk : Below W.heap.size W Wk := hWk ▸ (Below.refl _ _).alloc (Nat.le_refl _) _
      have hzk : Wk.heap.size = W.heap.size + 1 := by rw [← hWk]; simp
      have kk : Blk Wk W.heap.size 3 #[.int .i64 ((0 : Nat) : Int)] := hWk ▸ Blk.new W 3 _
      have hb7k := HBb.out.trans (hbk.mono HBb.out.size)
      have htk := HT.out.below hbk HT.out.lt
      have hMk : Marks W7.heap.size Ds Wk := ⟨HMk.out.nodup, fun D hD => ⟨(HMk.out.there D hD).1, (hbk.block D (HMk.out.lt D hD)).trans (HMk.out.there D hD).2⟩⟩
      have hDlt := HMk.out.lt
      have hBt := HT.out.lt
      rw [hWk]
      obtain ⟨Bk, hBk⟩ : ∃ b, W.heap.size = b := ⟨_, rfl⟩
      have h7k : W7.heap.size ≤ Bk := hBk ▸ HBb.out.size
      rw [hBk] at hzk kk hDlt hBt ⊢
      have hSb := K7S.out.lt
      have hGi := HL7.out.lt
      have hPb := K7P.out.lt
      have hw2 := K7A.out.lt
      have hwm := K7M.out.lt
      clear hWk hbk hBk ct
      refine (wpIn_wide (n := 99)).1 ?_
      refine wpIn_iter (N := m - pn) (At := fun i vs _ => vs = #[.bool (bbit l (pn + i))]) (Kp := fun _ X Y => FromS Sb gi Av X Y) (Step := fun X Y => X = Y) rfl (by omega) (gf := 65) (lb := #[.pointer (some ⟨Pb, 0, none⟩), .pointer (some ⟨Sb, 0, none⟩)]) rfl trivial (enters_of Try.func65 (by kernel_rfl) rfl)
        (fun W1 hb1 hz1 => from_iter 98 W1 Pb Sb gi 66 _ pn m l.length cv Av l (K7P.out.below (hb7k.trans (hb1.mono hb7k.size)) hPb) (K7S.out.below (hb7k.trans (hb1.mono hb7k.size)) hSb) (HL7.out.below (hb7k.trans (hb1.mono hb7k.size)) hGi) rfl rfl (H7.out.keep (hb7k.trans (hb1.mono hb7k.size))) (by have := HM.out; omega) (by omega))
        (fun X Y h k _ _ => by rw [h])
        (fun vs X Z k o o' hk hZ ho h => ⟨(World.putObj_heap_other (by omega)).trans h.box, (World.putObj_heap_other (by omega)).trans h.own, fun q hq => (World.putObj_heap_other (by have := HAV.out q hq; omega)).trans (h.row q hq)⟩)
        (fun i vs X h => by rw [h]; rfl)
        (fun j X => YI W7 Bk Bt Ds Wk.heap.size many t j X)
        (fun cd j X => YX W7 Bk Bt Ds Wk.heap.size many t cd j X)
        ?hI ?hIx (fun j X Z h hs => hs ▸ h) (fun cd j X Z h hs => hs ▸ h) ?h0
        (fun j vs X a' Wx => (a'.tmps.size = 103 ∧ a'.tmps.getD 5 undef = .pointer (some ⟨w.heap.size, 0, none⟩) ∧ a'.tmps.getD 6 undef = .pointer (some ⟨w.heap.size + 1, 0, none⟩) ∧ a'.tmps.getD 9 undef = .pointer (some ⟨w2.heap.size, 0, none⟩) ∧ a'.tmps.getD 12 undef = .pointer (some ⟨Bt, 0, none⟩) ∧ a'.tmps.getD 13 undef = .pointer (some ⟨Bk, 0, none⟩) ∧ a'.tmps.getD 14 undef = .bool (bbit l (pn + j)) ∧ a'.defers = []) ∧ FromS Sb gi Av X Wx ∧ YI W7 Bk Bt Ds Wk.heap.size many t j Wx)
        ?hAx ?assign ?body ?done ?stop
      case hI => exact fun j X k o o' hk hX ho ⟨h1, h2, h3, h4, h5, h6⟩ => ⟨h1.calm hX ho, h2.calm hX ho, below_calm h3 (by omega) hX, h4.put (fun hD => by have := hDlt k hD; omega) _, by rw [size_putObj]; exact h5, h6⟩
      case hIx => exact fun cd j X k o o' hk hX ho ⟨h0, h1, h2, h3, h4, h5, h6, h7, h8, h9⟩ => ⟨h0, h1.calm hX ho, h2.calm hX ho, below_calm h3 (by omega) hX, h4.put (fun hD => by have := hDlt k hD; omega) _, by rw [size_putObj]; exact h5, h6, h7, h8, h9⟩
      case h0 => exact fun W1 hb1 hz1 => ⟨kk.below hb1 kk.lt, htk.below hb1 htk.lt, hb7k.trans (hb1.mono hb7k.size), ⟨hMk.nodup, fun D hD => ⟨(hMk.there D hD).1, (hb1.block D (hMk.lt D hD)).trans (hMk.there D hD).2⟩⟩, hb1.size, fun _ => .inl rfl⟩
      case hAx => exact fun j vs X0 a' X k o o' hk hX ho ⟨ha, hf, h1, h2, h3, h4, h5, h6⟩ => ⟨ha, ⟨(World.putObj_heap_other (by omega)).trans hf.box, (World.putObj_heap_other (by omega)).trans hf.own, fun q hq => (World.putObj_heap_other (by have := HAV.out q hq; omega)).trans (hf.row q hq)⟩, h1.calm hX ho, h2.calm hX ho, below_calm h3 (by omega) hX, h4.put (fun hD => by have := hDlt k hD; omega) _, by rw [size_putObj]; exact h5, h6⟩
      case assign =>
        rintro l' j vs X K hl hj hI rfl hlt2 hK
        gi_wp2
        exact hK _ _ (KeepsFrom.refl _ _) ⟨⟨rfl, rfl, rfl, rfl, rfl, rfl, by first | rfl | simp, rfl⟩, FromS.refl _ _ _ _, hI⟩
      case body =>
        rintro l' j vs X ⟨tm, df⟩ Wx hl hj hr ⟨⟨hsz, h5, h6, h9, h12, h13, h14, hdf⟩, hf, h1, h2, h3, h4, h5', h6'⟩
        have HZK := Lib.hid hzk
        clear hzk
        dsimp only at hsz h5 h6 h9 h12 h13 h14 hdf ⊢
        obtain ⟨z, hz⟩ : ∃ z : Nat → Value, (fun k => tm.getD k undef) = z := ⟨_, rfl⟩
        have e : tm = #[z 0, z 1, z 2, z 3, z 4, z 5, z 6, z 7, z 8, z 9, z 10, z 11, z 12, z 13, z 14, z 15, z 16, z 17, z 18, z 19, z 20, z 21, z 22, z 23, z 24, z 25, z 26, z 27, z 28, z 29, z 30, z 31, z 32, z 33, z 34, z 35, z 36, z 37, z 38, z 39, z 40, z 41, z 42, z 43, z 44, z 45, z 46, z 47, z 48, z 49, z 50, z 51, z 52, z 53, z 54, z 55, z 56, z 57, z 58, z 59, z 60, z 61, z 62, z 63, z 64, z 65, z 66, z 67, z 68, z 69, z 70, z 71, z 72, z 73, z 74, z 75, z 76, z 77, z 78, z 79, z 80, z 81, z 82, z 83, z 84, z 85, z 86, z 87, z 88, z 89, z 90, z 91, z 92, z 93, z 94, z 95, z 96, z 97, z 98, z 99, z 100, z 101, z 102] := (arr_lit tm 103 hsz).trans (by rw [hz]; rfl)
        have y5 := (congrFun hz 5).symm.trans h5
        have y6 := (congrFun hz 6).symm.trans h6
        have y9 := (congrFun hz 9).symm.trans h9
        have y12 := (congrFun hz 12).symm.trans h12
        have y13 := (congrFun hz 13).symm.trans h13
        have y14 := (congrFun hz 14).symm.trans h14
        rw [y5, y6, y9, y12, y13, y14] at e
        clear y5 y6 y9 y12 y13 y14 h5 h6 h9 h12 h13 h14 hsz hz
        subst e hdf
        have hjN : j < Nn := by have := HNN.out; omega
        have hrb := R7.out.keep h3
        have hlen := hrb.len
        have hjl : j < ((ubits l).drop pn).length := by omega
        obtain ⟨b7, o7, e7, hc7⟩ := bs_cell hrb.h hjN (show (((ubits l).drop pn).map Value.bool)[j]? = some (Value.bool (bbit l (pn + j))) by rw [List.getElem?_map, List.getElem?_eq_getElem hjl]; simp [ubits])
        have ek := h1.cell 0
        have fk := h1.frozen 0
        have et := h2.cell 0
        have ea := (K7A.out.below h3 hw2).cell 0
        have em := (K7M.out.below h3 hwm).cell 0
        simp only [List.getElem?_toArray, List.getElem?_cons_zero] at ek et ea em
        rw [e7] at ea
        have q1 : decide (Nn ≤ j) = false := by simp; omega
        have hj0 : (0 : Int) ≤ j := by omega
        have hj1 : (j : Int) ≤ 160 := by omega
        have hjI : (j : Int) < Nn := by omega
        generalize bbit l (pn + j) = bt at *
        have H1 := Lib.hid h1
        have H2 := Lib.hid h2
        have H3 := Lib.hid h3
        have H4 := Lib.hid h4
        have H6 := Lib.hid h6'
        have HF := Lib.hid hf
        have HI := Lib.hid (show Blk (Wx.setCell ⟨Bk, 0, none⟩ (.int .i64 ((j : Int) + 1))) Bk 3 #[.int .i64 ((j + 1 : Nat) : Int)] ∧ Blk (Wx.setCell ⟨Bk, 0, none⟩ (.int .i64 ((j : Int) + 1))) Bt 3 #[.int .i64 t] ∧ Below W7.heap.size W7 (Wx.setCell ⟨Bk, 0, none⟩ (.int .i64 ((j : Int) + 1))) ∧ Marks W7.heap.size Ds (Wx.setCell ⟨Bk, 0, none⟩ (.int .i64 ((j : Int) + 1))) ∧ Wk.heap.size ≤ (Wx.setCell ⟨Bk, 0, none⟩ (.int .i64 ((j : Int) + 1))).heap.size from
          ⟨by have := h1.set_ 0 (.int .i64 ((j : Int) + 1)); simpa using this, h2.far (by simp; omega) _, Below.setCell h3 (by simp; omega) _, ⟨h4.nodup, fun D hD => ⟨(h4.there D hD).1, (Below.heap_setCell _ _ _ _ (by have := hDlt D hD; simp; omega)).trans (h4.there D hD).2⟩⟩, by rw [World.size_setCell]; exact h5'⟩)
        have HF2 := Lib.hid (show FromS Sb gi Av X (Wx.setCell ⟨Bk, 0, none⟩ (.int .i64 ((j : Int) + 1))) from hf.trans ⟨Below.heap_setCell _ _ _ _ (by simp; omega), Below.heap_setCell _ _ _ _ (by simp; omega), fun q hq => Below.heap_setCell _ _ _ _ (by have := HAV.out q hq; simp; omega)⟩)
        clear h1 h2 h3 h4 h6' hf hrb hlen
        obtain ⟨i1, i2, i3, i4, i5⟩ := HI.out
        replace i1 := Lib.hid i1
        replace i2 := Lib.hid i2
        replace i3 := Lib.hid i3
        replace i4 := Lib.hid i4
        replace i5 := Lib.hid i5
        by_cases h0 : t = 0
        · have q2 : ((t : Int) == 0) = true := by simp; omega
          have H0 := Lib.hid h0
          clear h0
          by_cases hmn : many ≤ (j : Int) + 1
          · have q3 : decide (many ≤ (j : Int) + 1) = true := by simpa using hmn
            gi_wp2_with fail
            exact ⟨(KeepsOthers.setCell _ _ _).from _, rfl, i1.out, i2.out, i3.out, i4.out, i5.out, H0.out, by omega, by have := H6.out H0.out; omega, by omega⟩
          · have q3 : decide (many ≤ (j : Int) + 1) = false := by simpa using hmn
            gi_wp2_with fail
            exact ⟨(KeepsOthers.setCell _ _ _).from _, HF2.out, i1.out, i2.out, i3.out, i4.out, i5.out, fun _ => .inr (by omega)⟩
        · have q2 : ((t : Int) == 0) = false := by simp; omega
          gi_wp2_with fail
          exact ⟨(KeepsOthers.setCell _ _ _).from _, HF2.out, i1.out, i2.out, i3.out, i4.out, i5.out, fun h => absurd h h0⟩
      case done =>
        rintro D X hD h hK
        simp only [Exit.inBlock, Exit.then]
        go_at_K
        have hDs : D ∉ Ds := fun hD2 => by have := hDlt D hD2; omega
        have ek := h.k.cell 0
        have et := h.bt.cell 0
        have ea := (K7A.out.below h.below hw2).cell 0
        have em := (K7M.out.below h.below hwm).cell 0
        simp only [List.getElem?_toArray, List.getElem?_cons_zero] at ek et ea em
        have HH := Lib.hid h
        have HK := Lib.hid hK
        have HD := Lib.hid hD
        rw [HNN.out] at ek
        have HZK := Lib.hid hzk
        clear h hK hzk hD
        by_cases h0 : t = 0
        · have q2 : ((t : Int) == 0) = true := by simp; omega
          have hc := HH.out.c h0
          rw [HNN.out] at hc
          have q1 : ((t : Int) == 1) = false := by simp; omega
          have H0 := Lib.hid h0
          clear h0
          by_cases hmn : many ≤ 1
          · have q4 : decide (1 < many) = false := by simpa using hmn
            have p4 : ¬ 1 < many := by omega
            have p5 : ¬ (1 : Int) < (Nn : Int) := by omega
            clear hc hmn q4
            go_wp2_with fail
            have kn : Blk (X.alloc (.cells #[.int .i64 ((t : Int) + 1)] 3)) X.heap.size 3 #[.int .i64 ((t + 1 : Nat) : Int)] := by have := Blk.new X 3 #[.int .i64 ((t : Int) + 1)]; simpa using this
            exact ⟨⟨t + 1, X.heap.size, D :: Ds, rfl, rfl, rfl, rfl, rfl, rfl, rfl, by omega, kn, HH.out.below.size, HH.out.below.alloc HH.out.below.size _, List.nodup_cons.2 ⟨hDs, HH.out.marks.nodup⟩, fun E hE => by
              rcases List.mem_cons.1 hE with rfl | hE
              · exact ⟨by have := HZK.out; have := HD.out; omega, (Below.heap_alloc _ _ _ (Array.getElem?_eq_some_iff.1 HK.out).1).trans HK.out⟩
              · exact ⟨(HH.out.marks.there E hE).1, (Below.heap_alloc _ _ _ (HH.out.marks.lt E hE)).trans (HH.out.marks.there E hE).2⟩⟩, by
              show 2 - turnOf (.pointer (some ⟨X.heap.size, 0, none⟩)) _ < 2 - turnOf (.pointer (some ⟨Bt, 0, none⟩)) W
              rw [turnOf_blk kn, turnOf_blk HT.out]
              omega⟩
          · have q4 : decide (1 < many) = true := by simp; omega
            have p4 : 1 < many := by omega
            have p5 : ¬ many < (Nn : Int) := by omega
            clear hc hmn q4
            go_wp2_with fail
            have kn : Blk (X.alloc (.cells #[.int .i64 ((t : Int) + 1)] 3)) X.heap.size 3 #[.int .i64 ((t + 1 : Nat) : Int)] := by have := Blk.new X 3 #[.int .i64 ((t : Int) + 1)]; simpa using this
            exact ⟨⟨t + 1, X.heap.size, D :: Ds, rfl, rfl, rfl, rfl, rfl, rfl, rfl, by omega, kn, HH.out.below.size, HH.out.below.alloc HH.out.below.size _, List.nodup_cons.2 ⟨hDs, HH.out.marks.nodup⟩, fun E hE => by
              rcases List.mem_cons.1 hE with rfl | hE
              · exact ⟨by have := HZK.out; have := HD.out; omega, (Below.heap_alloc _ _ _ (Array.getElem?_eq_some_iff.1 HK.out).1).trans HK.out⟩
              · exact ⟨(HH.out.marks.there E hE).1, (Below.heap_alloc _ _ _ (HH.out.marks.lt E hE)).trans (HH.out.marks.there E hE).2⟩⟩, by
              show 2 - turnOf (.pointer (some ⟨X.heap.size, 0, none⟩)) _ < 2 - turnOf (.pointer (some ⟨Bt, 0, none⟩)) W
              rw [turnOf_blk kn, turnOf_blk HT.out]
              omega⟩
        · have q2 : ((t : Int) == 0) = false := by simp; omega
          have q1 : ((t : Int) == 1) = true := by simp; omega
          go_wp2_with fail
          have kn : Blk (X.alloc (.cells #[.int .i64 ((t : Int) + 1)] 3)) X.heap.size 3 #[.int .i64 ((t + 1 : Nat) : Int)] := by have := Blk.new X 3 #[.int .i64 ((t : Int) + 1)]; simpa using this
          exact ⟨⟨t + 1, X.heap.size, D :: Ds, rfl, rfl, rfl, rfl, rfl, rfl, rfl, by omega, kn, HH.out.below.size, HH.out.below.alloc HH.out.below.size _, List.nodup_cons.2 ⟨hDs, HH.out.marks.nodup⟩, fun E hE => by
            rcases List.mem_cons.1 hE with rfl | hE
            · exact ⟨by have := HZK.out; have := HD.out; omega, (Below.heap_alloc _ _ _ (Array.getElem?_eq_some_iff.1 HK.out).1).trans HK.out⟩
            · exact ⟨(HH.out.marks.there E hE).1, (Below.heap_alloc _ _ _ (HH.out.marks.lt E hE)).trans (HH.out.marks.there E hE).2⟩⟩, by
            show 2 - turnOf (.pointer (some ⟨X.heap.size, 0, none⟩)) _ < 2 - turnOf (.pointer (some ⟨Bt, 0, none⟩)) W
            rw [turnOf_blk kn, turnOf_blk HT.out]
            omega⟩
      case stop =>
        rintro D cd j X hD hj ⟨rfl, h1, h2, h3, h4, h5', h6, h7, h8, h9⟩ hK
        obtain ⟨jj, hjj⟩ : ∃ jj, j + 1 = jj := ⟨_, rfl⟩
        rw [hjj] at h1 h7 h8 h9
        have hjN : jj ≤ Nn := by have := HNN.out; omega
        have hDs : D ∉ Ds := fun hD2 => by have := hDlt D hD2; omega
        have ek := h1.cell 0
        have et := h2.cell 0
        have ea := (K7A.out.below h3 hw2).cell 0
        have em := (K7M.out.below h3 hwm).cell 0
        simp only [List.getElem?_toArray, List.getElem?_cons_zero] at ek et ea em
        have H3 := Lib.hid h3
        have H4 := Lib.hid h4
        have HK := Lib.hid hK
        have HD := Lib.hid hD
        have HZK := Lib.hid hzk
        have q2 : ((t : Int) == 0) = true := by simp; omega
        have q1 : ((t : Int) == 1) = false := by simp; omega
        have H0 := Lib.hid h6
        clear h1 h2 h3 h4 h5' h6 hK hD hzk hjj
        by_cases hmn : many ≤ 1
        · obtain rfl : jj = 1 := by omega
          have p4 : ¬ 1 < many := by omega
          clear hmn h7 h8 h9
          by_cases hN : 1 < (Nn : Int)
          · skip
            refine wpIn_wide.2 ?_
            go_wp2_with fail
            have kn : Blk (X.alloc (.cells #[.int .i64 ((t : Int) + 1)] 3)) X.heap.size 3 #[.int .i64 ((t + 1 : Nat) : Int)] := by have := Blk.new X 3 #[.int .i64 ((t : Int) + 1)]; simpa using this
            exact ⟨⟨t + 1, X.heap.size, D :: Ds, rfl, rfl, rfl, rfl, rfl, rfl, rfl, by omega, kn, H3.out.size, H3.out.alloc H3.out.size _, List.nodup_cons.2 ⟨hDs, H4.out.nodup⟩, fun E hE => by
              rcases List.mem_cons.1 hE with rfl | hE
              · exact ⟨by have := HZK.out; have := HD.out; omega, (Below.heap_alloc _ _ _ (Array.getElem?_eq_some_iff.1 HK.out).1).trans HK.out⟩
              · exact ⟨(H4.out.there E hE).1, (Below.heap_alloc _ _ _ (H4.out.lt E hE)).trans (H4.out.there E hE).2⟩⟩, by
              show 2 - turnOf (.pointer (some ⟨X.heap.size, 0, none⟩)) _ < 2 - turnOf (.pointer (some ⟨Bt, 0, none⟩)) W
              rw [turnOf_blk kn, turnOf_blk HT.out]
              omega⟩
          · obtain rfl : Nn = 1 := by omega
            clear hN
            refine wpIn_wide.2 ?_
            go_wp2_with fail
            have kn : Blk (X.alloc (.cells #[.int .i64 ((t : Int) + 1)] 3)) X.heap.size 3 #[.int .i64 ((t + 1 : Nat) : Int)] := by have := Blk.new X 3 #[.int .i64 ((t : Int) + 1)]; simpa using this
            exact ⟨⟨t + 1, X.heap.size, D :: Ds, rfl, rfl, rfl, rfl, rfl, rfl, rfl, by omega, kn, H3.out.size, H3.out.alloc H3.out.size _, List.nodup_cons.2 ⟨hDs, H4.out.nodup⟩, fun E hE => by
              rcases List.mem_cons.1 hE with rfl | hE
              · exact ⟨by have := HZK.out; have := HD.out; omega, (Below.heap_alloc _ _ _ (Array.getElem?_eq_some_iff.1 HK.out).1).trans HK.out⟩
              · exact ⟨(H4.out.there E hE).1, (Below.heap_alloc _ _ _ (H4.out.lt E hE)).trans (H4.out.there E hE).2⟩⟩, by
              show 2 - turnOf (.pointer (some ⟨X.heap.size, 0, none⟩)) _ < 2 - turnOf (.pointer (some ⟨Bt, 0, none⟩)) W
              rw [turnOf_blk kn, turnOf_blk HT.out]
              omega⟩
        · obtain rfl : many = (jj : Int) := by omega
          have p4 : (1 : Int) < (jj : Int) := by omega
          clear hmn h7 h8
          by_cases hN : jj < Nn
          · have q5 : decide (jj < Nn) = true := by simpa using hN
            refine wpIn_wide.2 ?_
            go_wp2_with fail
            have kn : Blk (X.alloc (.cells #[.int .i64 ((t : Int) + 1)] 3)) X.heap.size 3 #[.int .i64 ((t + 1 : Nat) : Int)] := by have := Blk.new X 3 #[.int .i64 ((t : Int) + 1)]; simpa using this
            exact ⟨⟨t + 1, X.heap.size, D :: Ds, rfl, rfl, rfl, rfl, rfl, rfl, rfl, by omega, kn, H3.out.size, H3.out.alloc H3.out.size _, List.nodup_cons.2 ⟨hDs, H4.out.nodup⟩, fun E hE => by
              rcases List.mem_cons.1 hE with rfl | hE
              · exact ⟨by have := HZK.out; have := HD.out; omega, (Below.heap_alloc _ _ _ (Array.getElem?_eq_some_iff.1 HK.out).1).trans HK.out⟩
              · exact ⟨(H4.out.there E hE).1, (Below.heap_alloc _ _ _ (H4.out.lt E hE)).trans (H4.out.there E hE).2⟩⟩, by
              show 2 - turnOf (.pointer (some ⟨X.heap.size, 0, none⟩)) _ < 2 - turnOf (.pointer (some ⟨Bt, 0, none⟩)) W
              rw [turnOf_blk kn, turnOf_blk HT.out]
              omega⟩
          · obtain rfl : Nn = jj := by omega
            refine wpIn_wide.2 ?_
            go_wp2_with fail
            have kn : Blk (X.alloc (.cells #[.int .i64 ((t : Int) + 1)] 3)) X.heap.size 3 #[.int .i64 ((t + 1 : Nat) : Int)] := by have := Blk.new X 3 #[.int .i64 ((t : Int) + 1)]; simpa using this
            exact ⟨⟨t + 1, X.heap.size, D :: Ds, rfl, rfl, rfl, rfl, rfl, rfl, rfl, by omega, kn, H3.out.size, H3.out.alloc H3.out.size _, List.nodup_cons.2 ⟨hDs, H4.out.nodup⟩, fun E hE => by
              rcases List.mem_cons.1 hE with rfl | hE
              · exact ⟨by have := HZK.out; have := HD.out; omega, (Below.heap_alloc _ _ _ (Array.getElem?_eq_some_iff.1 HK.out).1).trans HK.out⟩
              · exact ⟨(H4.out.there E hE).1, (Below.heap_alloc _ _ _ (H4.out.lt E hE)).trans (H4.out.there E hE).2⟩⟩, by
              show 2 - turnOf (.pointer (some ⟨X.heap.size, 0, none⟩)) _ < 2 - turnOf (.pointer (some ⟨Bt, 0, none⟩)) W
              rw [turnOf_blk kn, turnOf_blk HT.out]
              omega⟩
    · have C9 := Lib.hid (known_any W)
      have kb := K7R.out.below HBb.out K7R.out.lt
      have f1 := kb.frozen 0
      have KB4 := Lib.hid kb
      have q1 : decide (t < 2) = false := by simp; omega
      clear kb
      go_wp2_with (go_at_call 9; (with_reducible refine C9.out.mono ?_); rintro e w9 ⟨rfl, b9⟩; have k9 := KB4.out.below b9 KB4.out.lt; have e9 := k9.cell 0; have f9 := k9.frozen 0; simp at e9; have K9 := Lib.hid k9; have B9 := Lib.hid b9; clear b9 k9)
      refine HEND.out _ _ _ Ds ?_ ⟨HMk.out.nodup, fun D hD => ?_⟩ ?_ ?_
      · rfl
      · have := HMk.out.there D hD
        have hlt := HMk.out.lt D hD
        refine ⟨by have := HS7.out; omega, ?_⟩
        rw [Below.heap_setCell _ _ _ _ (by simp; have := HS7.out; omega)]
        exact (B9.out.block D hlt).trans this.2
      · exact Below.setCell (B7.out.trans ((HBb.out.trans (B9.out.mono HBb.out.size)).mono B7.out.size)) (by simp) _
      · have := K9.out.set_ 0 (.bool true)
        simpa using this
  · have hse : rE l 0 (skipC pn) pn = 4 := by
      have hd : decide ((pn : Int) ≤ ((8 * l.length : Nat) : Int) - (0 : Nat)) = false := by simp; have := HM.out; omega
      have h0 : decide (0 ≤ (pn : Int)) = true := by simp
      simp only [rE, skipC, hd, h0]
      rfl
    have HSE := Lib.hid hse
    have HSN := Lib.hid (show 0 + rN (rE l 0 (skipC pn) pn) pn = 0 by rw [hse]; rfl)
    clear hse
    go_wp2_with (first
      | (go_at_call 14; (with_reducible refine C14.out.mono ?_); rintro e w1 ⟨g, rv, rfl, hg1, r1, b1, -⟩; have R1 := Lib.hid r1; have B1 := Lib.hid (HBA.out.trans (b1.mono HBA.out.size)); have KA1 := Lib.hid (HKA.out.below b1 HKA.out.lt); have KB1 := Lib.hid (HKB.out.below b1 HKB.out.lt); have h25 := rof_any A0 n0 c0 l w1 (HB0.out.keep B1.out) (by omega); rw [HMM.out] at h25; have C25 := Lib.hid h25; have HG1 := Lib.hid (show w.heap.size + 2 ≤ g by have := HZ.out; omega); clear r1 b1 h25 hg1)
      | (go_at_call 25; (with_reducible refine C25.out.mono ?_); rintro e w2 ⟨va, rfl, ho, b2⟩; obtain ⟨Aa, ca, rfl, -⟩ := own_form ho; refine Hid.out ?_))
    refine Lib.hid ?_
    have R2 := Lib.hid (R1.out.over b2)
    have B2 := Lib.hid (B1.out.trans (b2.mono B1.out.size))
    have KA2 := Lib.hid (KA1.out.below b2 KA1.out.lt)
    have KB2 := Lib.hid (KB1.out.below b2 KB1.out.lt)
    have HO2 := Lib.hid ho
    clear b2 ho
    have bb : Below w2.heap.size w2 (w2.alloc (.cells #[.slice Aa m ca] 44)) := (Below.refl _ _).alloc (Nat.le_refl _) _
    have h15 := skip_some _ g rv l 0 pn _ (R2.out.over bb)
    rw [HSN.out, HSE.out] at h15
    have C15 := Lib.hid h15
    have hgw2 := R2.out.blk.lt
    have HX2 := Lib.hid bb
    clear h15 bb
    go_wp2_with (go_at_call 15; (with_reducible refine C15.out.mono ?_); rintro e w3 ⟨rfl, r3, t3⟩; refine Hid.out ?_)
    refine Lib.hid ?_
    have hg1 := HG1.out
    have kall3 := (Blk.new w2 44 #[.slice Aa m ca]).two t3 (by omega)
    have R3 := Lib.hid r3
    have B3 := Lib.hid (t3.below_of (B2.out.trans (HX2.out.mono B2.out.size)) (by omega))
    have KA3 := Lib.hid ((KA2.out.alloc (.cells #[.slice Aa m ca] 44)).two t3 (by omega))
    have KB3 := Lib.hid ((KB2.out.alloc (.cells #[.slice Aa m ca] 44)).two t3 (by omega))
    have KC3 := Lib.hid kall3
    have HO3 := Lib.hid (own_two (own_alloc HO2.out (o := .cells #[.slice Aa m ca] 44)) t3 (own_not_blk (own_alloc HO2.out) (R2.out.over HX2.out).blk (by decide)))
    have C32 := Lib.hid (rbits_some _ g rv l 0 w3 r3)
    have hw3 : w2.heap.size < w3.heap.size := kall3.lt
    clear r3 t3 kall3 C15
    go_wp2_with (go_at_call 32; (with_reducible refine C32.out.mono ?_); rintro e w4 ⟨Pb, Sb, gi, vi, rfl, hP, hS, hG, kP, kS, r4, b4⟩; refine Hid.out ?_)
    refine Lib.hid ?_
    have hnf : ∀ W : World, (binOp .eql 57 (.func (.func 65) #[] #[.pointer (some ⟨Pb, 0, none⟩), .pointer (some ⟨Sb, 0, none⟩)]) .nilFunc).run Try.prog W = .ok (.bool false) W := fun W => by kernel_rfl
    have hp := r4.place
    rw [HM.out] at hp
    have R4 := Lib.hid (R3.out.over b4)
    have I4 := Lib.hid r4
    have KP4 := Lib.hid kP
    have KS4 := Lib.hid kS
    have B4 := Lib.hid (B3.out.trans (b4.mono B3.out.size))
    have KA4 := Lib.hid (KA3.out.below b4 KA3.out.lt)
    have KB4 := Lib.hid (KB3.out.below b4 KB3.out.lt)
    have KC4 := Lib.hid (KC3.out.below b4 KC3.out.lt)
    have HO4 := Lib.hid (own_keeps HO3.out fun k hk => b4.block k (own_lt HO3.out k hk))
    have hsk2 := skip_fine l 0 (m - 0) (by rw [HM.out]; omega)
    rw [show ((m - 0 : Nat) : Int) = (m : Int) by omega] at hsk2
    have C15 := Lib.hid (fun (B : Nat) (W : World) (h : RS W B g rv l 0) => skip_some B g rv l 0 (m : Int) W h)
    have HSK := Lib.hid hsk2.1
    have h24 := rleft_some g rv m 0 w4 (by omega) hp (by have := R4.out.blk; rw [HM.out] at this; exact this)
    rw [show (m : Int) - ((0 : Nat) : Int) = (m : Int) by simp] at h24
    have C24 := Lib.hid h24
    have hPS := Lib.hid (show w2.heap.size < Pb ∧ w2.heap.size < Sb ∧ w2.heap.size < gi by omega)
    clear r4 b4 kP kS hP hS hG hsk2 C32 h24
    go_wp2_with (first
      | (go_at_call 24; (with_reducible refine C24.out.mono ?_); rintro e w5 ⟨rfl, b5⟩; have R5 := Lib.hid (R4.out.over b5); have B5 := Lib.hid b5; clear b5)
      | (go_at_call 15; (with_reducible refine (C15.out _ _ R5.out).mono ?_); rintro e w6 ⟨rfl, r6, t6⟩; rw [HSK.out]; refine Hid.out ?_))
    refine Lib.hid ?_
    have hgi := hPS.out
    have hgw4 := R4.out.blk.lt
    have t46 := Two.of_below B5.out t6
    have RB4 := RB.own HO4.out
    obtain ⟨Az, cz, ez, rb⟩ := RB4
    cases ez
    have KA6 := Lib.hid (KA4.out.two t46 (by omega))
    have KB6 := Lib.hid (KB4.out.two t46 (by omega))
    have kc6 := KC4.out.two t46 (by omega)
    have KP6 := Lib.hid (KP4.out.two t46 (by omega))
    have KS6 := Lib.hid (KS4.out.two t46 (by omega))
    have I6 := Lib.hid (I4.out.two t46 (by omega) (own_not_blk I4.out.own R4.out.blk (by decide)))
    have B6 := Lib.hid (t46.below_of B4.out (by omega))
    have ho6 := own_two HO4.out t46 (own_not_blk HO4.out R4.out.blk (by decide))
    obtain ⟨Az, cz, ez, rb6⟩ := RB.own ho6
    cases ez
    obtain ⟨A7, c7, hsl, rb7, ha7⟩ := slice_from w6 Aa m ca 0 _ rb6 (by omega)
    obtain ⟨Nn, hNn⟩ : ∃ N, m - 0 = N := ⟨_, rfl⟩
    rw [hNn] at hsl rb7
    rw [show (((0 : Nat)) : Int) = 0 from rfl] at hsl
    have HNN := Lib.hid hNn
    clear hNn
    have cc6 := kc6.cell 0
    have cf6 := kc6.frozen 0
    simp only [List.getElem?_toArray, List.getElem?_cons_zero, List.getElem?_cons_succ] at cc6
    have KC6 := Lib.hid kc6
    have RB7 := Lib.hid rb7
    have HA7 := Lib.hid (show ∀ a, A7 = some a → a.block < w2.heap.size from fun a ha => by
      obtain ⟨a0, h0, h1⟩ := ha7 a ha
      rw [h1]
      exact own_lt HO2.out a0.block (by rw [h0]; rfl))
    clear t6 t46 rb rb6 ho6 kc6 rb7 ha7
    go_wp2_with fail
    obtain ⟨W7, hW7⟩ : ∃ W7, w6.setCell ⟨w2.heap.size, 0, none⟩ (.slice A7 Nn c7) = W7 := ⟨_, rfl⟩
    have hs7 : W7.heap.size = w6.heap.size := by rw [← hW7, World.size_setCell]
    have b67 : Below w2.heap.size w6 W7 := hW7 ▸ Below.setCell (Below.refl _ _) (by simp) _
    have g67 : w6.grownBy W7 (some w2.heap.size) := hW7 ▸ Below_set _ _ _ _
    have hww2 := B2.out.size
    have hka2 := KB2.out.lt
    have K7M := Lib.hid (KA6.out.below b67 (by omega))
    have K7R := Lib.hid (KB6.out.below b67 (by omega))
    have K7A := Lib.hid (show Blk W7 w2.heap.size 44 #[.slice A7 Nn c7] from by have := KC6.out.set_ 0 (.slice A7 Nn c7); rw [hW7] at this; simpa using this)
    have R7 := Lib.hid (RB7.out.low b67 HA7.out)
    have I7 := Lib.hid (I6.out.grown g67 (fun e => by injection e with e; omega) (fun k hk e => by injection e with e; exact own_not_blk I6.out.own KC6.out (by decide) (e ▸ hk)))
    have K7P := Lib.hid (KP6.out.grown g67 (fun e => by injection e with e; omega))
    have K7S := Lib.hid (KS6.out.grown g67 (fun e => by injection e with e; omega))
    have B7 := Lib.hid (B6.out.trans (b67.mono hww2))
    have HS7 := Lib.hid (show w.heap.size + 2 ≤ W7.heap.size by have := KC6.out.lt; omega)
    rw [hW7, ← hs7]
    clear hW7 hs7 b67 g67 hww2 hka2 cc6 cf6 hsl
    obtain ⟨Av, cv, ev, -, -, -, -⟩ := own_form I7.out.own
    subst ev
    have HL7 := Lib.hid (show Blk W7 gi 66 #[.slice Av l.length cv, .int .i64 m, .int .i64 0, .bool true] from by have := I7.out.blk; rw [HM.out] at this; exact this)
    have H7 := Lib.hid (holds_own I7.out.own)
    have HAV := Lib.hid (show ∀ q, Av = some q → q.block < W7.heap.size from fun q hq => own_lt I7.out.own q.block (by rw [hq]; rfl))
    have KT := Lib.hid (Blk.new W7 3 #[.int .i64 ((0 : Nat) : Int)])
    have BT := Lib.hid ((Below.refl W7.heap.size W7).alloc (Nat.le_refl _) (.cells #[.int .i64 0] 3))
    refine (wpIn_wide (n := 99)).1 ?_
    refine wpIn_loop (YLoop w.heap.size w2.heap.size Pb Sb W7)
      (fun a W => 2 - turnOf (a.tmps.getD 12 undef) W) ⟨0, W7.heap.size, [], rfl, rfl, rfl, rfl, rfl, rfl, rfl, by omega, KT.out, Nat.le_refl _, BT.out, List.nodup_nil, fun D hD => by cases hD⟩ ?_
    rintro ⟨tm, df⟩ W ⟨t, Bt, Ds, hsz, h5, h6, h9, h11, h12, hdf, ht, hkt, hbt, hb, hM⟩
    dsimp only at hsz h5 h6 h9 h11 h12 hdf ⊢
    obtain ⟨x, hx⟩ : ∃ x : Nat → Value, (fun k => tm.getD k undef) = x := ⟨_, rfl⟩
    have e : tm = #[x 0, x 1, x 2, x 3, x 4, x 5, x 6, x 7, x 8, x 9, x 10, x 11, x 12, x 13, x 14, x 15, x 16, x 17, x 18, x 19, x 20, x 21, x 22, x 23, x 24, x 25, x 26, x 27, x 28, x 29, x 30, x 31, x 32, x 33, x 34, x 35, x 36, x 37, x 38, x 39, x 40, x 41, x 42, x 43, x 44, x 45, x 46, x 47, x 48, x 49, x 50, x 51, x 52, x 53, x 54, x 55, x 56, x 57, x 58, x 59, x 60, x 61, x 62, x 63, x 64, x 65, x 66, x 67, x 68, x 69, x 70, x 71, x 72, x 73, x 74, x 75, x 76, x 77, x 78, x 79, x 80, x 81, x 82, x 83, x 84, x 85, x 86, x 87, x 88, x 89, x 90, x 91, x 92, x 93, x 94, x 95, x 96, x 97, x 98, x 99, x 100, x 101, x 102] := (arr_lit tm 103 hsz).trans (by rw [hx]; rfl)
    have y5 := (congrFun hx 5).symm.trans h5
    have y6 := (congrFun hx 6).symm.trans h6
    have y9 := (congrFun hx 9).symm.trans h9
    have y11 := (congrFun hx 11).symm.trans h11
    have y12 := (congrFun hx 12).symm.trans h12
    rw [y5, y6, y9, y11, y12] at e
    clear y5 y6 y9 y11 y12 h5 h6 h9 h11 h12 hsz hx
    subst e hdf
    have HT := Lib.hid hkt
    have HBb := Lib.hid hb
    have HMk := Lib.hid hM
    have ct := hkt.cell 0
    simp at ct
    clear hkt hb hM
    refine wpIn_wide.2 ?_
    by_cases hlt : (t : Int) < 2
    · have ht2 : t < 2 := by omega
      go_wp2_with fail
      obtain ⟨Wk, hWk⟩ : ∃ Wk, W.alloc (.cells #[.int .i64 0] 3) = Wk := ⟨_, rfl⟩
      have hbk : Below W.heap.size W Wk := hWk ▸ (Below.refl _ _).alloc (Nat.le_refl _) _
      have hzk : Wk.heap.size = W.heap.size + 1 := by rw [← hWk]; simp
      have kk : Blk Wk W.heap.size 3 #[.int .i64 ((0 : Nat) : Int)] := hWk ▸ Blk.new W 3 _
      have hb7k := HBb.out.trans (hbk.mono HBb.out.size)
      have htk := HT.out.below hbk HT.out.lt
      have hMk : Marks W7.heap.size Ds Wk := ⟨HMk.out.nodup, fun D hD => ⟨(HMk.out.there D hD).1, (hbk.block D (HMk.out.lt D hD)).trans (HMk.out.there D hD).2⟩⟩
      have hDlt := HMk.out.lt
      have hBt := HT.out.lt
      rw [hWk]
      obtain ⟨Bk, hBk⟩ : ∃ b, W.heap.size = b := ⟨_, rfl⟩
      have h7k : W7.heap.size ≤ Bk := hBk ▸ HBb.out.size
      rw [hBk] at hzk kk hDlt hBt ⊢
      have hSb := K7S.out.lt
      have hGi := HL7.out.lt
      have hPb := K7P.out.lt
      have hw2 := K7A.out.lt
      have hwm := K7M.out.lt
      clear hWk hbk hBk ct
      refine (wpIn_wide (n := 99)).1 ?_
      refine wpIn_iter (N := m - 0) (At := fun i vs _ => vs = #[.bool (bbit l (0 + i))]) (Kp := fun _ X Y => FromS Sb gi Av X Y) (Step := fun X Y => X = Y) rfl (by omega) (gf := 65) (lb := #[.pointer (some ⟨Pb, 0, none⟩), .pointer (some ⟨Sb, 0, none⟩)]) rfl trivial (enters_of Try.func65 (by kernel_rfl) rfl)
        (fun W1 hb1 hz1 => from_iter 98 W1 Pb Sb gi 66 _ 0 m l.length cv Av l (K7P.out.below (hb7k.trans (hb1.mono hb7k.size)) hPb) (K7S.out.below (hb7k.trans (hb1.mono hb7k.size)) hSb) (HL7.out.below (hb7k.trans (hb1.mono hb7k.size)) hGi) rfl rfl (H7.out.keep (hb7k.trans (hb1.mono hb7k.size))) (by have := HM.out; omega) (by omega))
        (fun X Y h k _ _ => by rw [h])
        (fun vs X Z k o o' hk hZ ho h => ⟨(World.putObj_heap_other (by omega)).trans h.box, (World.putObj_heap_other (by omega)).trans h.own, fun q hq => (World.putObj_heap_other (by have := HAV.out q hq; omega)).trans (h.row q hq)⟩)
        (fun i vs X h => by rw [h]; rfl)
        (fun j X => YI W7 Bk Bt Ds Wk.heap.size many t j X)
        (fun cd j X => YX W7 Bk Bt Ds Wk.heap.size many t cd j X)
        ?hI ?hIx (fun j X Z h hs => hs ▸ h) (fun cd j X Z h hs => hs ▸ h) ?h0
        (fun j vs X a' Wx => (a'.tmps.size = 103 ∧ a'.tmps.getD 5 undef = .pointer (some ⟨w.heap.size, 0, none⟩) ∧ a'.tmps.getD 6 undef = .pointer (some ⟨w.heap.size + 1, 0, none⟩) ∧ a'.tmps.getD 9 undef = .pointer (some ⟨w2.heap.size, 0, none⟩) ∧ a'.tmps.getD 12 undef = .pointer (some ⟨Bt, 0, none⟩) ∧ a'.tmps.getD 13 undef = .pointer (some ⟨Bk, 0, none⟩) ∧ a'.tmps.getD 14 undef = .bool (bbit l (0 + j)) ∧ a'.defers = []) ∧ FromS Sb gi Av X Wx ∧ YI W7 Bk Bt Ds Wk.heap.size many t j Wx)
        ?hAx ?assign ?body ?done ?stop
      case hI => exact fun j X k o o' hk hX ho ⟨h1, h2, h3, h4, h5, h6⟩ => ⟨h1.calm hX ho, h2.calm hX ho, below_calm h3 (by omega) hX, h4.put (fun hD => by have := hDlt k hD; omega) _, by rw [size_putObj]; exact h5, h6⟩
      case hIx => exact fun cd j X k o o' hk hX ho ⟨h0, h1, h2, h3, h4, h5, h6, h7, h8, h9⟩ => ⟨h0, h1.calm hX ho, h2.calm hX ho, below_calm h3 (by omega) hX, h4.put (fun hD => by have := hDlt k hD; omega) _, by rw [size_putObj]; exact h5, h6, h7, h8, h9⟩
      case h0 => exact fun W1 hb1 hz1 => ⟨kk.below hb1 kk.lt, htk.below hb1 htk.lt, hb7k.trans (hb1.mono hb7k.size), ⟨hMk.nodup, fun D hD => ⟨(hMk.there D hD).1, (hb1.block D (hMk.lt D hD)).trans (hMk.there D hD).2⟩⟩, hb1.size, fun _ => .inl rfl⟩
      case hAx => exact fun j vs X0 a' X k o o' hk hX ho ⟨ha, hf, h1, h2, h3, h4, h5, h6⟩ => ⟨ha, ⟨(World.putObj_heap_other (by omega)).trans hf.box, (World.putObj_heap_other (by omega)).trans hf.own, fun q hq => (World.putObj_heap_other (by have := HAV.out q hq; omega)).trans (hf.row q hq)⟩, h1.calm hX ho, h2.calm hX ho, below_calm h3 (by omega) hX, h4.put (fun hD => by have := hDlt k hD; omega) _, by rw [size_putObj]; exact h5, h6⟩
      case assign =>
        rintro l' j vs X K hl hj hI rfl hlt2 hK
        gi_wp2
        exact hK _ _ (KeepsFrom.refl _ _) ⟨⟨rfl, rfl, rfl, rfl, rfl, rfl, by first | rfl | simp, rfl⟩, FromS.refl _ _ _ _, hI⟩
      case body =>
        rintro l' j vs X ⟨tm, df⟩ Wx hl hj hr ⟨⟨hsz, h5, h6, h9, h12, h13, h14, hdf⟩, hf, h1, h2, h3, h4, h5', h6'⟩
        have HZK := Lib.hid hzk
        clear hzk
        dsimp only at hsz h5 h6 h9 h12 h13 h14 hdf ⊢
        obtain ⟨z, hz⟩ : ∃ z : Nat → Value, (fun k => tm.getD k undef) = z := ⟨_, rfl⟩
        have e : tm = #[z 0, z 1, z 2, z 3, z 4, z 5, z 6, z 7, z 8, z 9, z 10, z 11, z 12, z 13, z 14, z 15, z 16, z 17, z 18, z 19, z 20, z 21, z 22, z 23, z 24, z 25, z 26, z 27, z 28, z 29, z 30, z 31, z 32, z 33, z 34, z 35, z 36, z 37, z 38, z 39, z 40, z 41, z 42, z 43, z 44, z 45, z 46, z 47, z 48, z 49, z 50, z 51, z 52, z 53, z 54, z 55, z 56, z 57, z 58, z 59, z 60, z 61, z 62, z 63, z 64, z 65, z 66, z 67, z 68, z 69, z 70, z 71, z 72, z 73, z 74, z 75, z 76, z 77, z 78, z 79, z 80, z 81, z 82, z 83, z 84, z 85, z 86, z 87, z 88, z 89, z 90, z 91, z 92, z 93, z 94, z 95, z 96, z 97, z 98, z 99, z 100, z 101, z 102] := (arr_lit tm 103 hsz).trans (by rw [hz]; rfl)
        have y5 := (congrFun hz 5).symm.trans h5
        have y6 := (congrFun hz 6).symm.trans h6
        have y9 := (congrFun hz 9).symm.trans h9
        have y12 := (congrFun hz 12).symm.trans h12
        have y13 := (congrFun hz 13).symm.trans h13
        have y14 := (congrFun hz 14).symm.trans h14
        rw [y5, y6, y9, y12, y13, y14] at e
        clear y5 y6 y9 y12 y13 y14 h5 h6 h9 h12 h13 h14 hsz hz
        subst e hdf
        have hjN : j < Nn := by have := HNN.out; omega
        have hrb := R7.out.keep h3
        have hlen := hrb.len
        have hjl : j < ((ubits l).drop 0).length := by omega
        obtain ⟨b7, o7, e7, hc7⟩ := bs_cell hrb.h hjN (show (((ubits l).drop 0).map Value.bool)[j]? = some (Value.bool (bbit l (0 + j))) by rw [List.getElem?_map, List.getElem?_eq_getElem hjl]; simp [ubits])
        have ek := h1.cell 0
        have fk := h1.frozen 0
        have et := h2.cell 0
        have ea := (K7A.out.below h3 hw2).cell 0
        have em := (K7M.out.below h3 hwm).cell 0
        simp only [List.getElem?_toArray, List.getElem?_cons_zero] at ek et ea em
        rw [e7] at ea
        have q1 : decide (Nn ≤ j) = false := by simp; omega
        have hj0 : (0 : Int) ≤ j := by omega
        have hj1 : (j : Int) ≤ 160 := by omega
        have hjI : (j : Int) < Nn := by omega
        generalize bbit l (0 + j) = bt at *
        have H1 := Lib.hid h1
        have H2 := Lib.hid h2
        have H3 := Lib.hid h3
        have H4 := Lib.hid h4
        have H6 := Lib.hid h6'
        have HF := Lib.hid hf
        have HI := Lib.hid (show Blk (Wx.setCell ⟨Bk, 0, none⟩ (.int .i64 ((j : Int) + 1))) Bk 3 #[.int .i64 ((j + 1 : Nat) : Int)] ∧ Blk (Wx.setCell ⟨Bk, 0, none⟩ (.int .i64 ((j : Int) + 1))) Bt 3 #[.int .i64 t] ∧ Below W7.heap.size W7 (Wx.setCell ⟨Bk, 0, none⟩ (.int .i64 ((j : Int) + 1))) ∧ Marks W7.heap.size Ds (Wx.setCell ⟨Bk, 0, none⟩ (.int .i64 ((j : Int) + 1))) ∧ Wk.heap.size ≤ (Wx.setCell ⟨Bk, 0, none⟩ (.int .i64 ((j : Int) + 1))).heap.size from
          ⟨by have := h1.set_ 0 (.int .i64 ((j : Int) + 1)); simpa using this, h2.far (by simp; omega) _, Below.setCell h3 (by simp; omega) _, ⟨h4.nodup, fun D hD => ⟨(h4.there D hD).1, (Below.heap_setCell _ _ _ _ (by have := hDlt D hD; simp; omega)).trans (h4.there D hD).2⟩⟩, by rw [World.size_setCell]; exact h5'⟩)
        have HF2 := Lib.hid (show FromS Sb gi Av X (Wx.setCell ⟨Bk, 0, none⟩ (.int .i64 ((j : Int) + 1))) from hf.trans ⟨Below.heap_setCell _ _ _ _ (by simp; omega), Below.heap_setCell _ _ _ _ (by simp; omega), fun q hq => Below.heap_setCell _ _ _ _ (by have := HAV.out q hq; simp; omega)⟩)
        clear h1 h2 h3 h4 h6' hf hrb hlen
        obtain ⟨i1, i2, i3, i4, i5⟩ := HI.out
        replace i1 := Lib.hid i1
        replace i2 := Lib.hid i2
        replace i3 := Lib.hid i3
        replace i4 := Lib.hid i4
        replace i5 := Lib.hid i5
        by_cases h0 : t = 0
        · have q2 : ((t : Int) == 0) = true := by simp; omega
          have H0 := Lib.hid h0
          clear h0
          by_cases hmn : many ≤ (j : Int) + 1
          · have q3 : decide (many ≤ (j : Int) + 1) = true := by simpa using hmn
            gi_wp2_with fail
            exact ⟨(KeepsOthers.setCell _ _ _).from _, rfl, i1.out, i2.out, i3.out, i4.out, i5.out, H0.out, by omega, by have := H6.out H0.out; omega, by omega⟩
          · have q3 : decide (many ≤ (j : Int) + 1) = false := by simpa using hmn
            gi_wp2_with fail
            exact ⟨(KeepsOthers.setCell _ _ _).from _, HF2.out, i1.out, i2.out, i3.out, i4.out, i5.out, fun _ => .inr (by omega)⟩
        · have q2 : ((t : Int) == 0) = false := by simp; omega
          gi_wp2_with fail
          exact ⟨(KeepsOthers.setCell _ _ _).from _, HF2.out, i1.out, i2.out, i3.out, i4.out, i5.out, fun h => absurd h h0⟩
      case done =>
        rintro D X hD h hK
        simp only [Exit.inBlock, Exit.then]
        go_at_K
        have hDs : D ∉ Ds := fun hD2 => by have := hDlt D hD2; omega
        have ek := h.k.cell 0
        have et := h.bt.cell 0
        have ea := (K7A.out.below h.below hw2).cell 0
        have em := (K7M.out.below h.below hwm).cell 0
        simp only [List.getElem?_toArray, List.getElem?_cons_zero] at ek et ea em
        have HH := Lib.hid h
        have HK := Lib.hid hK
        have HD := Lib.hid hD
        rw [HNN.out] at ek
        have HZK := Lib.hid hzk
        clear h hK hzk hD
        by_cases h0 : t = 0
        · have q2 : ((t : Int) == 0) = true := by simp; omega
          have hc := HH.out.c h0
          rw [HNN.out] at hc
          have q1 : ((t : Int) == 1) = false := by simp; omega
          have H0 := Lib.hid h0
          clear h0
          by_cases hmn : many ≤ 1
          · have q4 : decide (1 < many) = false := by simpa using hmn
            have p4 : ¬ 1 < many := by omega
            have p5 : ¬ (1 : Int) < (Nn : Int) := by omega
            clear hc hmn q4
            go_wp2_with fail
            have kn : Blk (X.alloc (.cells #[.int .i64 ((t : Int) + 1)] 3)) X.heap.size 3 #[.int .i64 ((t + 1 : Nat) : Int)] := by have := Blk.new X 3 #[.int .i64 ((t : Int) + 1)]; simpa using this
            exact ⟨⟨t + 1, X.heap.size, D :: Ds, rfl, rfl, rfl, rfl, rfl, rfl, rfl, by omega, kn, HH.out.below.size, HH.out.below.alloc HH.out.below.size _, List.nodup_cons.2 ⟨hDs, HH.out.marks.nodup⟩, fun E hE => by
              rcases List.mem_cons.1 hE with rfl | hE
              · exact ⟨by have := HZK.out; have := HD.out; omega, (Below.heap_alloc _ _ _ (Array.getElem?_eq_some_iff.1 HK.out).1).trans HK.out⟩
              · exact ⟨(HH.out.marks.there E hE).1, (Below.heap_alloc _ _ _ (HH.out.marks.lt E hE)).trans (HH.out.marks.there E hE).2⟩⟩, by
              show 2 - turnOf (.pointer (some ⟨X.heap.size, 0, none⟩)) _ < 2 - turnOf (.pointer (some ⟨Bt, 0, none⟩)) W
              rw [turnOf_blk kn, turnOf_blk HT.out]
              omega⟩
          · have q4 : decide (1 < many) = true := by simp; omega
            have p4 : 1 < many := by omega
            have p5 : ¬ many < (Nn : Int) := by omega
            clear hc hmn q4
            go_wp2_with fail
            have kn : Blk (X.alloc (.cells #[.int .i64 ((t : Int) + 1)] 3)) X.heap.size 3 #[.int .i64 ((t + 1 : Nat) : Int)] := by have := Blk.new X 3 #[.int .i64 ((t : Int) + 1)]; simpa using this
            exact ⟨⟨t + 1, X.heap.size, D :: Ds, rfl, rfl, rfl, rfl, rfl, rfl, rfl, by omega, kn, HH.out.below.size, HH.out.below.alloc HH.out.below.size _, List.nodup_cons.2 ⟨hDs, HH.out.marks.nodup⟩, fun E hE => by
              rcases List.mem_cons.1 hE with rfl | hE
              · exact ⟨by have := HZK.out; have := HD.out; omega, (Below.heap_alloc _ _ _ (Array.getElem?_eq_some_iff.1 HK.out).1).trans HK.out⟩
              · exact ⟨(HH.out.marks.there E hE).1, (Below.heap_alloc _ _ _ (HH.out.marks.lt E hE)).trans (HH.out.marks.there E hE).2⟩⟩, by
              show 2 - turnOf (.pointer (some ⟨X.heap.size, 0, none⟩)) _ < 2 - turnOf (.pointer (some ⟨Bt, 0, none⟩)) W
              rw [turnOf_blk kn, turnOf_blk HT.out]
              omega⟩
        · have q2 : ((t : Int) == 0) = false := by simp; omega
          have q1 : ((t : Int) == 1) = true := by simp; omega
          go_wp2_with fail
          have kn : Blk (X.alloc (.cells #[.int .i64 ((t : Int) + 1)] 3)) X.heap.size 3 #[.int .i64 ((t + 1 : Nat) : Int)] := by have := Blk.new X 3 #[.int .i64 ((t : Int) + 1)]; simpa using this
          exact ⟨⟨t + 1, X.heap.size, D :: Ds, rfl, rfl, rfl, rfl, rfl, rfl, rfl, by omega, kn, HH.out.below.size, HH.out.below.alloc HH.out.below.size _, List.nodup_cons.2 ⟨hDs, HH.out.marks.nodup⟩, fun E hE => by
            rcases List.mem_cons.1 hE with rfl | hE
            · exact ⟨by have := HZK.out; have := HD.out; omega, (Below.heap_alloc _ _ _ (Array.getElem?_eq_some_iff.1 HK.out).1).trans HK.out⟩
            · exact ⟨(HH.out.marks.there E hE).1, (Below.heap_alloc _ _ _ (HH.out.marks.lt E hE)).trans (HH.out.marks.there E hE).2⟩⟩, by
            show 2 - turnOf (.pointer (some ⟨X.heap.size, 0, none⟩)) _ < 2 - turnOf (.pointer (some ⟨Bt, 0, none⟩)) W
            rw [turnOf_blk kn, turnOf_blk HT.out]
            omega⟩
      case stop =>
        rintro D cd j X hD hj ⟨rfl, h1, h2, h3, h4, h5', h6, h7, h8, h9⟩ hK
        obtain ⟨jj, hjj⟩ : ∃ jj, j + 1 = jj := ⟨_, rfl⟩
        rw [hjj] at h1 h7 h8 h9
        have hjN : jj ≤ Nn := by have := HNN.out; omega
        have hDs : D ∉ Ds := fun hD2 => by have := hDlt D hD2; omega
        have ek := h1.cell 0
        have et := h2.cell 0
        have ea := (K7A.out.below h3 hw2).cell 0
        have em := (K7M.out.below h3 hwm).cell 0
        simp only [List.getElem?_toArray, List.getElem?_cons_zero] at ek et ea em
        have H3 := Lib.hid h3
        have H4 := Lib.hid h4
        have HK := Lib.hid hK
        have HD := Lib.hid hD
        have HZK := Lib.hid hzk
        have q2 : ((t : Int) == 0) = true := by simp; omega
        have q1 : ((t : Int) == 1) = false := by simp; omega
        have H0 := Lib.hid h6
        clear h1 h2 h3 h4 h5' h6 hK hD hzk hjj
        by_cases hmn : many ≤ 1
        · obtain rfl : jj = 1 := by omega
          have p4 : ¬ 1 < many := by omega
          clear hmn h7 h8 h9
          by_cases hN : 1 < (Nn : Int)
          · skip
            refine wpIn_wide.2 ?_
            go_wp2_with fail
            have kn : Blk (X.alloc (.cells #[.int .i64 ((t : Int) + 1)] 3)) X.heap.size 3 #[.int .i64 ((t + 1 : Nat) : Int)] := by have := Blk.new X 3 #[.int .i64 ((t : Int) + 1)]; simpa using this
            exact ⟨⟨t + 1, X.heap.size, D :: Ds, rfl, rfl, rfl, rfl, rfl, rfl, rfl, by omega, kn, H3.out.size, H3.out.alloc H3.out.size _, List.nodup_cons.2 ⟨hDs, H4.out.nodup⟩, fun E hE => by
              rcases List.mem_cons.1 hE with rfl | hE
              · exact ⟨by have := HZK.out; have := HD.out; omega, (Below.heap_alloc _ _ _ (Array.getElem?_eq_some_iff.1 HK.out).1).trans HK.out⟩
              · exact ⟨(H4.out.there E hE).1, (Below.heap_alloc _ _ _ (H4.out.lt E hE)).trans (H4.out.there E hE).2⟩⟩, by
              show 2 - turnOf (.pointer (some ⟨X.heap.size, 0, none⟩)) _ < 2 - turnOf (.pointer (some ⟨Bt, 0, none⟩)) W
              rw [turnOf_blk kn, turnOf_blk HT.out]
              omega⟩
          · obtain rfl : Nn = 1 := by omega
            clear hN
            refine wpIn_wide.2 ?_
            go_wp2_with fail
            have kn : Blk (X.alloc (.cells #[.int .i64 ((t : Int) + 1)] 3)) X.heap.size 3 #[.int .i64 ((t + 1 : Nat) : Int)] := by have := Blk.new X 3 #[.int .i64 ((t : Int) + 1)]; simpa using this
            exact ⟨⟨t + 1, X.heap.size, D :: Ds, rfl, rfl, rfl, rfl, rfl, rfl, rfl, by omega, kn, H3.out.size, H3.out.alloc H3.out.size _, List.nodup_cons.2 ⟨hDs, H4.out.nodup⟩, fun E hE => by
              rcases List.mem_cons.1 hE with rfl | hE
              · exact ⟨by have := HZK.out; have := HD.out; omega, (Below.heap_alloc _ _ _ (Array.getElem?_eq_some_iff.1 HK.out).1).trans HK.out⟩
              · exact ⟨(H4.out.there E hE).1, (Below.heap_alloc _ _ _ (H4.out.lt E hE)).trans (H4.out.there E hE).2⟩⟩, by
              show 2 - turnOf (.pointer (some ⟨X.heap.size, 0, none⟩)) _ < 2 - turnOf (.pointer (some ⟨Bt, 0, none⟩)) W
              rw [turnOf_blk kn, turnOf_blk HT.out]
              omega⟩
        · obtain rfl : many = (jj : Int) := by omega
          have p4 : (1 : Int) < (jj : Int) := by omega
          clear hmn h7 h8
          by_cases hN : jj < Nn
          · have q5 : decide (jj < Nn) = true := by simpa using hN
            refine wpIn_wide.2 ?_
            go_wp2_with fail
            have kn : Blk (X.alloc (.cells #[.int .i64 ((t : Int) + 1)] 3)) X.heap.size 3 #[.int .i64 ((t + 1 : Nat) : Int)] := by have := Blk.new X 3 #[.int .i64 ((t : Int) + 1)]; simpa using this
            exact ⟨⟨t + 1, X.heap.size, D :: Ds, rfl, rfl, rfl, rfl, rfl, rfl, rfl, by omega, kn, H3.out.size, H3.out.alloc H3.out.size _, List.nodup_cons.2 ⟨hDs, H4.out.nodup⟩, fun E hE => by
              rcases List.mem_cons.1 hE with rfl | hE
              · exact ⟨by have := HZK.out; have := HD.out; omega, (Below.heap_alloc _ _ _ (Array.getElem?_eq_some_iff.1 HK.out).1).trans HK.out⟩
              · exact ⟨(H4.out.there E hE).1, (Below.heap_alloc _ _ _ (H4.out.lt E hE)).trans (H4.out.there E hE).2⟩⟩, by
              show 2 - turnOf (.pointer (some ⟨X.heap.size, 0, none⟩)) _ < 2 - turnOf (.pointer (some ⟨Bt, 0, none⟩)) W
              rw [turnOf_blk kn, turnOf_blk HT.out]
              omega⟩
          · obtain rfl : Nn = jj := by omega
            refine wpIn_wide.2 ?_
            go_wp2_with fail
            have kn : Blk (X.alloc (.cells #[.int .i64 ((t : Int) + 1)] 3)) X.heap.size 3 #[.int .i64 ((t + 1 : Nat) : Int)] := by have := Blk.new X 3 #[.int .i64 ((t : Int) + 1)]; simpa using this
            exact ⟨⟨t + 1, X.heap.size, D :: Ds, rfl, rfl, rfl, rfl, rfl, rfl, rfl, by omega, kn, H3.out.size, H3.out.alloc H3.out.size _, List.nodup_cons.2 ⟨hDs, H4.out.nodup⟩, fun E hE => by
              rcases List.mem_cons.1 hE with rfl | hE
              · exact ⟨by have := HZK.out; have := HD.out; omega, (Below.heap_alloc _ _ _ (Array.getElem?_eq_some_iff.1 HK.out).1).trans HK.out⟩
              · exact ⟨(H4.out.there E hE).1, (Below.heap_alloc _ _ _ (H4.out.lt E hE)).trans (H4.out.there E hE).2⟩⟩, by
              show 2 - turnOf (.pointer (some ⟨X.heap.size, 0, none⟩)) _ < 2 - turnOf (.pointer (some ⟨Bt, 0, none⟩)) W
              rw [turnOf_blk kn, turnOf_blk HT.out]
              omega⟩
    · have C9 := Lib.hid (known_any W)
      have kb := K7R.out.below HBb.out K7R.out.lt
      have f1 := kb.frozen 0
      have KB4 := Lib.hid kb
      have q1 : decide (t < 2) = false := by simp; omega
      clear kb
      go_wp2_with (go_at_call 9; (with_reducible refine C9.out.mono ?_); rintro e w9 ⟨rfl, b9⟩; have k9 := KB4.out.below b9 KB4.out.lt; have e9 := k9.cell 0; have f9 := k9.frozen 0; simp at e9; have K9 := Lib.hid k9; have B9 := Lib.hid b9; clear b9 k9)
      refine HEND.out _ _ _ Ds ?_ ⟨HMk.out.nodup, fun D hD => ?_⟩ ?_ ?_
      · rfl
      · have := HMk.out.there D hD
        have hlt := HMk.out.lt D hD
        refine ⟨by have := HS7.out; omega, ?_⟩
        rw [Below.heap_setCell _ _ _ _ (by simp; have := HS7.out; omega)]
        exact (B9.out.block D hlt).trans this.2
      · exact Below.setCell (B7.out.trans ((HBb.out.trans (B9.out.mono HBb.out.size)).mono B7.out.size)) (by simp) _
      · have := K9.out.set_ 0 (.bool true)
        simpa using this
theorem yields_law (A0 : Option Addr) (n0 c0 : Nat) (l : List UInt8) (pl many : Int) (w : World) (hl : l.length = n0) (hc : n0 ≤ c0) (hm : c0 ≤ maxLen) (hb : BS w w.heap.size A0 l) (hz : A0 = none → c0 = 0) (hw : (Lit.int .u8 pl).wf = true) (_ : (Lit.int .i64 many).wf = true) :
    Calls Try.prog 7 #[.slice A0 n0 c0, .int .u8 pl, .int .i64 many] w fun e w' => e = .returned (.bool true) ∧ Below w.heap.size w w' :=
  yields_any A0 n0 c0 l pl many w hl (hb.holds hl) hz (byte_wf hw).1 (byte_wf hw).2 (Nat.le_trans hc hm)
end Go.Proofs.Ythgbnpafhkhjpaa
