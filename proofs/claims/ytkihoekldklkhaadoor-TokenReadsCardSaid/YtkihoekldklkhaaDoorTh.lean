/- The scanner: number. -/
import Derived.Test.YtkihoekldklkhaaDoorTg
namespace Go.Proofs.YtkihoekldklkhaaDoor
open Go.RowKit
set_option linter.unusedVariables false
set_option linter.unusedSimpArgs false

theorem digs_false {B : Int} {al : Bool} {r : List UInt8} {v : Int} {n : Nat} (h : headP (digB B) r = false) : digsL B al r v n = if headP worI r = true then .bad n else .ok 2 v n := by
  cases r with
  | nil => rfl
  | cons c r =>
    have h1 : digB B c.toNat = false := h
    have h2 : ¬ (0 ≤ hexI c.toNat ∧ hexI c.toNat < B) := fun e => by unfold digB isHex at h1; simp [e.1, e.2] at h1
    rw [digsL, if_neg h2]
    rfl
theorem digs_true {B : Int} {al : Bool} {L : List UInt8} {j : Nat} {v : Int} {n : Nat} (hj : j < L.length) (h : headP (digB B) (L.drop j) = true) : 0 ≤ hexI (L[j]).toNat ∧ hexI (L[j]).toNat < B ∧ digsL B al (L.drop j) v n = if al = true ∧ n ≠ 0 then .bad n else if v ≤ (4611686018427387904 - hexI (L[j]).toNat) / B then digsL B al (L.drop (j + 1)) (B * v + hexI (L[j]).toNat) (n + 1) else .bad n := by
  rw [headP_in hj] at h
  have h2 : 0 ≤ hexI (L[j]).toNat ∧ hexI (L[j]).toNat < B := by unfold digB isHex at h; simpa using h
  refine ⟨h2.1, h2.2, ?_⟩
  rw [List.drop_eq_getElem_cons hj, digsL, if_pos h2]
def NumS (sb tb bb : Nat) (j v B : Int) (W : World) : Prop := W.cell? ⟨sb, 1, none⟩ = some (.int .i64 j) ∧ W.cell? ⟨tb, 2, none⟩ = some (.int .i64 v) ∧ W.cell? ⟨bb, 0, none⟩ = some (.int .i64 B)
theorem nums_of {L : List UInt8} {sb tb bb i k : Nat} {tx : ByteArray} {v ln cl B : Int} {w : World} (h : Sc L sb i w) (ht : TB tb k tx v ln cl w) (hb : Blk w bb 3 #[.int .i64 B]) : NumS sb tb bb (i : Int) v B w := ⟨Blk.cell h 1, Blk.cell ht 2, hb.cell 0⟩
set_option maxRecDepth 100000 in
set_option maxHeartbeats 4000000 in
theorem number_any (L : List UInt8) (sb tb i : Nat) (tx : ByteArray) (ln cl : Int) (w : World) (h : Sc L sb i w) (ht : TB tb 0 tx 0 ln cl w) (hn : L.length ≤ 1000000) (hi0 : i ≤ L.length) :
    Calls Tryd.prog 56 #[.pointer (some ⟨sb, 0, none⟩), .pointer (some ⟨tb, 0, none⟩)] w (KindR L sb tb i tx ln cl (if headP digI (L.drop i) = true then some (numL (L.drop i)) else none) w) := by
  have hne := h.ne ht
  have C67 := Lib.hid (next_sc 70 digI pf70 L sb i w h hn)
  have HSw := Lib.hid h
  have HTw := Lib.hid ht
  have HN := Lib.hid hn
  have HI0 := Lib.hid hi0
  cases hb : headP digI (L.drop i) with
  | false =>
    rw [hb] at C67
    rw [if_neg (by simp)]
    clear h ht hn hb hi0
    go_enter Tryd.func56, Tryd.ntmps56
    go_wp2_with (go_at_call 66; (with_reducible refine C67.out.mono ?_); rintro e w1 ⟨rfl, hs1, hb1⟩; have HB1 := Lib.hid hb1; clear hb1 hs1)
    go_ret
    exact ⟨Only.of_below HB1.out, rfl, HSw.out.below HB1.out, HTw.out.below HB1.out⟩
  | true =>
    rw [hb] at C67
    rw [if_pos rfl]
    have hlt : i < L.length := headP_drop hb
    have HLT0 := Lib.hid hlt
    have C71 := Lib.hid (fun (W : World) (hs : Sc L sb i W) => is_any 48 L sb i W hs hn)
    have hln : (L.drop i).length ≤ 1000000 := by rw [List.length_drop]; omega
    have CA : Hid (∀ W, Calls Tryd.prog 72 #[.string ⟨(L.drop i).toArray⟩, .string ⟨#[48, 120]⟩] W fun e w' => e = .returned (.bool (headP (isI 48) (L.drop i) && headP (isI 120) ((L.drop i).drop 1))) ∧ w' = W) := Lib.hid (fun W => pre72 (L.drop i) ⟨#[48, 120]⟩ 48 120 rfl W hln)
    have hsl := run_from L i hi0 hn
    obtain ⟨T, hT⟩ : ∃ T, numL (L.drop i) = T := ⟨_, rfl⟩
    rw [hT]
    unfold numL at hT
    cases hz : headP (isI 48) (L.drop i) with
    | false =>
      rw [hz] at C71 hT
      rw [if_neg (by simp)] at hT
      have HTT : Hid (digsL 10 false (L.drop (i + 0)) 0 0 = T) := Lib.hid hT
      have HL0 : Hid (i + 0 ≤ L.length) := Lib.hid hi0
      clear h ht hn hb hi0 hlt hln CA hT hz hsl
      go_enter Tryd.func56, Tryd.ntmps56
      go_upto_region 3 with (go_at_call 66; (with_reducible refine C67.out.mono ?_); rintro e w1 ⟨rfl, hs1, hb1⟩; have HS1 := Lib.hid hs1; have HT1 := Lib.hid (HTw.out.below hb1); have HO1 : Hid (Only (fun b => b = sb ∨ b = tb) w w1) := Lib.hid (Only.of_below hb1); clear hb1 hs1)
      have e0 := Blk.cell HT1.out 0
      have f0 := Blk.frozen HT1.out 0
      simp only [List.getElem?_toArray, List.getElem?_cons_zero] at e0
      go_upto_region 4 with fail
      have HS2 := Lib.hid (HS1.out.far hne 0 (.int .i64 ((2 : Nat) : Int)))
      have HT2 := Lib.hid (TB.kind (j := 2) HT1.out)
      have HO2 : Hid (Only (fun b => b = sb ∨ b = tb) w (w1.setCell ⟨tb, 0, none⟩ (.int .i64 ((2 : Nat) : Int)))) := Lib.hid (Only.set HO1.out (fun _ => .inr rfl) 0 _)
      obtain ⟨W2, hW2⟩ : ∃ W2, w1.setCell ⟨tb, 0, none⟩ (.int .i64 2) = W2 := ⟨_, rfl⟩
      have hW2' : w1.setCell ⟨tb, 0, none⟩ (.int .i64 ((2 : Nat) : Int)) = W2 := hW2
      rw [hW2'] at HS2 HT2 HO2
      rw [hW2]
      clear hW2 hW2' e0 f0
      go_upto_region 5 with (go_at_call 71; (with_reducible refine (C71.out _ HS2.out).mono ?_); rintro e w3 ⟨rfl, hb3⟩; have HB3 := Lib.hid hb3; clear hb3)
      obtain ⟨W3, hW3⟩ : ∃ W3, w3.alloc (.cells #[.int .i64 10] 3) = W3 := ⟨_, rfl⟩
      have hb9 : Below W2.heap.size W2 W3 := hW3 ▸ HB3.out.alloc HB3.out.size _
      have HS3 := Lib.hid (HS2.out.below hb9)
      have HT3 := Lib.hid (HT2.out.below hb9)
      have HO3 := Lib.hid (HO2.out.below hb9)
      obtain ⟨bb, hbb⟩ : ∃ bb, w3.heap.size = bb := ⟨_, rfl⟩
      have HB30 : Hid (Blk W3 bb 3 #[.int .i64 10]) := Lib.hid (hbb ▸ hW3 ▸ Blk.new w3 3 _)
      have HBG : Hid (w.heap.size ≤ bb) := Lib.hid (by have := HO2.out.size; have := HB3.out.size; omega)
      rw [hW3, hbb]
      clear hW3 hbb hb9 HB3
      have s0 := Blk.cell HS3.out 0
      have s1 := Blk.cell HS3.out 1
      simp only [List.getElem?_toArray, List.getElem?_cons_zero, List.getElem?_cons_succ] at s0 s1
      go_upto_region 6 with fail
      go_quiet (fail)
      clear s0 s1
      have HSs := Lib.hid (HS3.out.drewN nq)
      have HTs : Hid (TB tb 2 tx 0 ln cl (W3.drewN nq)) := Lib.hid (Blk.drewN HT3.out nq)
      have HBs := Lib.hid (HB30.out.drewN nq)
      have HOs := Lib.hid (only_drewN HO3.out nq)
      obtain ⟨W4, hW4⟩ : ∃ W4, W3.drewN nq = W4 := ⟨_, rfl⟩
      rw [hW4] at HSs HTs HBs HOs
      rw [hW4]
      clear hW4
      go_wp2_with fail
      have HNE := Lib.hid (And.intro hne (And.intro (Blk.ne HBs.out HSs.out (by decide)) (Blk.ne HBs.out HTs.out (by decide))))
      have HBOX := Lib.hid (show w.heap.size ≤ bb from HBG.out)
      go_loopw [] (fun wr => ∃ (n : Nat) (v : Int), Hid (i + n ≤ L.length) ∧ 0 ≤ v ∧ v ≤ 4611686018427387904 ∧ Hid (digsL 10 false (L.drop (i + n)) v n = T) ∧ Hid (Sc L sb (i + n) wr) ∧ Hid (TB tb 2 tx v ln cl wr) ∧ Hid (Blk wr bb 3 #[.int .i64 10]) ∧ Hid (Only (fun b => b = sb ∨ b = tb) w wr)) (fun wr => L.length - atOf sb wr)
      case atStart => exact ⟨0, 0, HL0.out, by omega, by omega, HTT.out, HSs.out, HTs.out, HBs.out, HOs.out⟩
      case round =>
        obtain ⟨n, v, HLE, hv0, hv1, HT0, HS, HT, HB, HO⟩ := hrel
        have C76 := Lib.hid (next_cap 76 (digB 10) (.pointer (some ⟨bb, 0, none⟩)) L sb (i + n) wr (pc76 10 bb wr HB.out) HS.out HN.out)
        cases hb : headP (digB 10) (L.drop (i + n)) with
        | true =>
          rw [hb] at C76
          have hlt : i + n < L.length := headP_drop hb
          obtain ⟨d0, d1, hT⟩ := digs_true (al := false) (v := v) (n := n) hlt hb
          have hT0 := HT0.out
          rw [hT] at hT0
          have hidx := run_idx L (i + n) hlt
          have C75 := Lib.hid (fun (W : World) => hex_any ((L[i + n]).toNat : Int) W (u8r _).1 (u8r _).2)
          generalize hexI ((L[i + n]).toNat : Int) = d at *
          generalize ((L[i + n]).toNat : Int) = x at *
          have s0 := Blk.cell HS.out 0
          have s1 := Blk.cell HS.out 1
          simp only [List.getElem?_toArray, List.getElem?_cons_zero, List.getElem?_cons_succ] at s0 s1
          have HS1 := Lib.hid (fun m => HS.out.drewN m)
          have HT1 : Hid (∀ m, TB tb 2 tx v ln cl (wr.drewN m)) := Lib.hid (fun m => Blk.drewN HT.out m)
          have HB1 := Lib.hid (fun m => HB.out.drewN m)
          have HO1 := Lib.hid (fun m => only_drewN HO.out m)
          have HTX := Lib.hid hT0
          have HLT := Lib.hid hlt
          obtain ⟨J, hJ⟩ : ∃ J : Int, (((i + n : Nat)) : Int) = J := ⟨_, rfl⟩
          rw [hJ] at hidx s1
          have HJ := Lib.hid hJ
          have HD0 := Lib.hid (And.intro d0 d1)
          have HV := Lib.hid (And.intro hv0 hv1)
          generalize hSt : (⟨L.toArray⟩ : ByteArray) = St at hidx s0
          clear hb hT hT0 hlt hJ d0 d1 hv0 hv1 hSt
          go_upto_region 12 with (go_at_call 66; (with_reducible refine C76.out.mono ?_); rintro e w1 ⟨rfl, m, rfl⟩)
          obtain ⟨W0, hW0⟩ : ∃ W0, wr.drewN m = W0 := ⟨_, rfl⟩
          have s0' : W0.cell? ⟨sb, 0, none⟩ = some (.string St) := by rw [← hW0]; exact s0
          have s1' : W0.cell? ⟨sb, 1, none⟩ = some (.int .i64 J) := by rw [← hW0]; exact s1
          replace HS1 := Lib.hid (fun (k : Nat) => (hW0 ▸ HS1.out m : Sc L sb (i + n) W0).drewN k)
          replace HT1 : Hid (∀ k, TB tb 2 tx v ln cl (W0.drewN k)) := Lib.hid (fun k => Blk.drewN (hW0 ▸ HT1.out m : TB tb 2 tx v ln cl W0) k)
          replace HB1 := Lib.hid (fun (k : Nat) => (hW0 ▸ HB1.out m : Blk W0 bb 3 #[.int .i64 10]).drewN k)
          replace HO1 := Lib.hid (fun (k : Nat) => only_drewN (hW0 ▸ HO1.out m : Only (fun b => b = sb ∨ b = tb) w W0) k)
          rw [hW0]
          clear hW0 s0 s1
          go_quiet (first | (go_at_call 75; refine Calls.quiet_of_same (C75.out _)))
          go_upto_region 13 with fail
          clear hidx s0' s1'
          obtain ⟨W1, hW1⟩ : ∃ W1, W0.drewN nq = W1 := ⟨_, rfl⟩
          have HSa := Lib.hid (show Sc L sb (i + n) W1 from hW1 ▸ HS1.out nq)
          have HTa := Lib.hid (show TB tb 2 tx v ln cl W1 from hW1 ▸ HT1.out nq)
          have HBa := Lib.hid (show Blk W1 bb 3 #[.int .i64 10] from hW1 ▸ HB1.out nq)
          have HOa := Lib.hid (show Only (fun b => b = sb ∨ b = tb) w W1 from hW1 ▸ HO1.out nq)
          have HSd := Lib.hid HSa.out.drew
          have HTd := Lib.hid (show TB tb 2 tx v ln cl W1.drew from Blk.drew1 HTa.out)
          have HBd := Lib.hid HBa.out.drew1
          have HOd := Lib.hid (only_drew HOa.out)
          have HNd := Lib.hid (show NumS sb tb bb J v 10 W1.drew from by have := nums_of HSd.out HTd.out HBd.out; rw [HJ.out] at this; exact this)
          rw [hW1]
          clear hW1
          have C60y := Lib.hid (fun (W : World) => need_yes sb W)
          have C60n := Lib.hid (fun (W : World) (hs : Sc L sb (i + n) W) => need_sn L sb (i + n) W hs HLE.out HN.out)
          obtain ⟨qq, hqq⟩ : ∃ qq : Int, (4611686018427387904 - d) / 10 = qq := ⟨_, rfl⟩
          have HQ : Hid (Int.tdiv (4611686018427387904 - d) 10 = qq) := Lib.hid (by have := HD0.out; rw [Int.tdiv_eq_ediv_of_nonneg (by omega)]; exact hqq)
          have HQQ := Lib.hid hqq
          have HWD : Hid (IntKind.i64.wrap (4611686018427387904 - d) = 4611686018427387904 - d) := Lib.hid (by rw [IntKind.wrap_i64]; have := HD0.out; omega)
          have HWQ : Hid (IntKind.i64.wrap qq = qq) := Lib.hid (by rw [IntKind.wrap_i64]; have := HD0.out; omega)
          by_cases hvq : v ≤ qq
          ·
            have q9 : decide (v ≤ qq) = true := decide_eq_true hvq
            have hvb : 10 * v + d ≤ 4611686018427387904 := by have := HQQ.out; have := HD0.out; omega
            have HW1 : Hid (IntKind.i64.wrap (10 * v) = 10 * v) := Lib.hid (by rw [IntKind.wrap_i64]; have := HV.out; have := HD0.out; omega)
            have HW2 : Hid (IntKind.i64.wrap (10 * v + d) = 10 * v + d) := Lib.hid (by rw [IntKind.wrap_i64]; have := HV.out; have := HD0.out; omega)
            have HVB := Lib.hid (show 0 ≤ 10 * v + d ∧ 10 * v + d ≤ 4611686018427387904 by have := HV.out; have := HD0.out; omega)
            have HVQ := Lib.hid hvq
            clear hvq hvb hqq
            refine wp_region_G (S0 := (NumS sb tb bb J v 10)) (S1 := (NumS sb tb bb J v 10)) (c := 99) (by kernel_rfl) ?_
            have hHeld := HNd.out
            have h01 := (fun (W : World) (h : (NumS sb tb bb J v 10) W) => h)
            refine wpG_takeB (i := 0) (oi := ⟨some 74, _, _, _, _, _⟩) (v := .pointer (some ⟨sb, 0, none⟩)) rfl (by kernel_rfl) (by kernel_rfl) (by kernel_rfl) (by decide) (fun _ _ _ h => h) h01 rfl hHeld (Or.inl ⟨by rfl, ?_⟩) ?_
            · (intro W9 hSw; obtain ⟨v1, v2, v3⟩ := hSw; have hq := HQ.out; have hd0 := HD0.out; go_simp; (try (first | with_reducible rfl | rfl | (rw [HWD.out]; done) | (rw [HQ.out]; done) | (rw [HWQ.out]; done) | (rw [HQ.out, HWQ.out]; done) | (simp; done))))
            try simp only [Act.put, List.setIfInBounds_toArray, List.set_cons_zero, List.set_cons_succ]
            refine wpG_takeB (i := 1) (oi := ⟨some 75, _, _, _, _, _⟩) (v := .pointer (some ⟨sb, 0, none⟩)) rfl (by kernel_rfl) (by kernel_rfl) (by kernel_rfl) (by decide) (fun _ _ _ h => h) h01 rfl hHeld (Or.inl ⟨by rfl, ?_⟩) ?_
            · (intro W9 hSw; obtain ⟨v1, v2, v3⟩ := hSw; have hq := HQ.out; have hd0 := HD0.out; go_simp; (try (first | with_reducible rfl | rfl | (rw [HWD.out]; done) | (rw [HQ.out]; done) | (rw [HWQ.out]; done) | (rw [HQ.out, HWQ.out]; done) | (simp; done))))
            try simp only [Act.put, List.setIfInBounds_toArray, List.set_cons_zero, List.set_cons_succ]
            refine wpG_takeB (i := 2) (oi := ⟨some 76, _, _, _, _, _⟩) (v := .pointer (some ⟨sb, 0, none⟩)) rfl (by kernel_rfl) (by kernel_rfl) (by kernel_rfl) (by decide) (fun _ _ _ h => h) h01 rfl hHeld (Or.inl ⟨by rfl, ?_⟩) ?_
            · (intro W9 hSw; obtain ⟨v1, v2, v3⟩ := hSw; have hq := HQ.out; have hd0 := HD0.out; go_simp; (try (first | with_reducible rfl | rfl | (rw [HWD.out]; done) | (rw [HQ.out]; done) | (rw [HWQ.out]; done) | (rw [HQ.out, HWQ.out]; done) | (simp; done))))
            try simp only [Act.put, List.setIfInBounds_toArray, List.set_cons_zero, List.set_cons_succ]
            refine wpG_takeB (i := 3) (oi := ⟨some 77, _, _, _, _, _⟩) (v := .bool false) rfl (by kernel_rfl) (by kernel_rfl) (by kernel_rfl) (by decide) (fun _ _ _ h => h) h01 rfl hHeld (Or.inl ⟨by rfl, ?_⟩) ?_
            · (intro W9 hSw; obtain ⟨v1, v2, v3⟩ := hSw; have hq := HQ.out; have hd0 := HD0.out; go_simp; (try (first | with_reducible rfl | rfl | (rw [HWD.out]; done) | (rw [HQ.out]; done) | (rw [HWQ.out]; done) | (rw [HQ.out, HWQ.out]; done) | (simp; done))))
            try simp only [Act.put, List.setIfInBounds_toArray, List.set_cons_zero, List.set_cons_succ]
            refine wpG_takeB (i := 4) (oi := ⟨some 78, _, _, _, _, _⟩) (v := .bool true) rfl (by kernel_rfl) (by kernel_rfl) (by kernel_rfl) (by decide) (fun _ _ _ h => h) h01 rfl hHeld (Or.inl ⟨by rfl, ?_⟩) ?_
            · (intro W9 hSw; obtain ⟨v1, v2, v3⟩ := hSw; have hq := HQ.out; have hd0 := HD0.out; go_simp; (try (first | with_reducible rfl | rfl | (rw [HWD.out]; done) | (rw [HQ.out]; done) | (rw [HWQ.out]; done) | (rw [HQ.out, HWQ.out]; done) | (simp; done))))
            try simp only [Act.put, List.setIfInBounds_toArray, List.set_cons_zero, List.set_cons_succ]
            refine wpG_takeB (i := 5) (oi := ⟨some 79, _, _, _, _, _⟩) (v := .bool true) rfl (by kernel_rfl) (by kernel_rfl) (by kernel_rfl) (by decide) (fun _ _ _ h => h) h01 rfl hHeld (Or.inl ⟨by rfl, ?_⟩) ?_
            · (intro W9 hSw; obtain ⟨v1, v2, v3⟩ := hSw; have hq := HQ.out; have hd0 := HD0.out; go_simp; (try (first | with_reducible rfl | rfl | (rw [HWD.out]; done) | (rw [HQ.out]; done) | (rw [HWQ.out]; done) | (rw [HQ.out, HWQ.out]; done) | (simp; done))))
            try simp only [Act.put, List.setIfInBounds_toArray, List.set_cons_zero, List.set_cons_succ]
            refine wpG_takeB (i := 6) (oi := ⟨some 80, _, _, _, _, _⟩) (v := undef) rfl (by kernel_rfl) (by kernel_rfl) (by kernel_rfl) (by decide) (fun _ _ _ h => h) h01 rfl hHeld (Or.inr ⟨by rfl, rfl⟩) ?_
            try simp only [Act.put, List.setIfInBounds_toArray, List.set_cons_zero, List.set_cons_succ]
            refine wpG_takeB (i := 7) (oi := ⟨some 81, _, _, _, _, _⟩) (v := undef) rfl (by kernel_rfl) (by kernel_rfl) (by kernel_rfl) (by decide) (fun _ _ _ h => h) h01 rfl hHeld (Or.inr ⟨by rfl, rfl⟩) ?_
            try simp only [Act.put, List.setIfInBounds_toArray, List.set_cons_zero, List.set_cons_succ]
            refine wpG_takeB (i := 8) (oi := ⟨some 82, _, _, _, _, _⟩) (v := undef) rfl (by kernel_rfl) (by kernel_rfl) (by kernel_rfl) (by decide) (fun _ _ _ h => h) h01 rfl hHeld (Or.inr ⟨by rfl, rfl⟩) ?_
            try simp only [Act.put, List.setIfInBounds_toArray, List.set_cons_zero, List.set_cons_succ]
            refine wpG_takeB (i := 9) (oi := ⟨some 83, _, _, _, _, _⟩) (v := undef) rfl (by kernel_rfl) (by kernel_rfl) (by kernel_rfl) (by decide) (fun _ _ _ h => h) h01 rfl hHeld (Or.inr ⟨by rfl, rfl⟩) ?_
            try simp only [Act.put, List.setIfInBounds_toArray, List.set_cons_zero, List.set_cons_succ]
            refine wpG_takeB (i := 10) (oi := ⟨some 84, _, _, _, _, _⟩) (v := undef) rfl (by kernel_rfl) (by kernel_rfl) (by kernel_rfl) (by decide) (fun _ _ _ h => h) h01 rfl hHeld (Or.inr ⟨by rfl, rfl⟩) ?_
            try simp only [Act.put, List.setIfInBounds_toArray, List.set_cons_zero, List.set_cons_succ]
            refine wpG_takeB (i := 11) (oi := ⟨some 85, _, _, _, _, _⟩) (v := undef) rfl (by kernel_rfl) (by kernel_rfl) (by kernel_rfl) (by decide) (fun _ _ _ h => h) h01 rfl hHeld (Or.inr ⟨by rfl, rfl⟩) ?_
            try simp only [Act.put, List.setIfInBounds_toArray, List.set_cons_zero, List.set_cons_succ]
            refine wpG_takeB (i := 12) (oi := ⟨some 86, _, _, _, _, _⟩) (v := undef) rfl (by kernel_rfl) (by kernel_rfl) (by kernel_rfl) (by decide) (fun _ _ _ h => h) h01 rfl hHeld (Or.inr ⟨by rfl, rfl⟩) ?_
            try simp only [Act.put, List.setIfInBounds_toArray, List.set_cons_zero, List.set_cons_succ]
            refine wpG_takeB (i := 13) (oi := ⟨some 87, _, _, _, _, _⟩) (v := .bool true) rfl (by kernel_rfl) (by kernel_rfl) (by kernel_rfl) (by decide) (fun _ _ _ h => h) h01 rfl hHeld (Or.inl ⟨by rfl, ?_⟩) ?_
            · (intro W9 hSw; obtain ⟨v1, v2, v3⟩ := hSw; have hq := HQ.out; have hd0 := HD0.out; go_simp; (try (first | with_reducible rfl | rfl | (rw [HWD.out]; done) | (rw [HQ.out]; done) | (rw [HWQ.out]; done) | (rw [HQ.out, HWQ.out]; done) | (simp; done))))
            try simp only [Act.put, List.setIfInBounds_toArray, List.set_cons_zero, List.set_cons_succ]
            refine wpG_takeB (i := 14) (oi := ⟨some 88, _, _, _, _, _⟩) (v := .bool true) rfl (by kernel_rfl) (by kernel_rfl) (by kernel_rfl) (by decide) (fun _ _ _ h => h) h01 rfl hHeld (Or.inl ⟨by rfl, ?_⟩) ?_
            · (intro W9 hSw; obtain ⟨v1, v2, v3⟩ := hSw; have hq := HQ.out; have hd0 := HD0.out; go_simp; (try (first | with_reducible rfl | rfl | (rw [HWD.out]; done) | (rw [HQ.out]; done) | (rw [HWQ.out]; done) | (rw [HQ.out, HWQ.out]; done) | (simp; done))))
            try simp only [Act.put, List.setIfInBounds_toArray, List.set_cons_zero, List.set_cons_succ]
            refine wpG_takeB (i := 15) (oi := ⟨some 89, _, _, _, _, _⟩) (v := .pointer (some ⟨tb, 0, none⟩)) rfl (by kernel_rfl) (by kernel_rfl) (by kernel_rfl) (by decide) (fun _ _ _ h => h) h01 rfl hHeld (Or.inl ⟨by rfl, ?_⟩) ?_
            · (intro W9 hSw; obtain ⟨v1, v2, v3⟩ := hSw; have hq := HQ.out; have hd0 := HD0.out; go_simp; (try (first | with_reducible rfl | rfl | (rw [HWD.out]; done) | (rw [HQ.out]; done) | (rw [HWQ.out]; done) | (rw [HQ.out, HWQ.out]; done) | (simp; done))))
            try simp only [Act.put, List.setIfInBounds_toArray, List.set_cons_zero, List.set_cons_succ]
            refine wpG_takeB (i := 16) (oi := ⟨some 90, _, _, _, _, _⟩) (v := .pointer (some ⟨tb, 0, none⟩)) rfl (by kernel_rfl) (by kernel_rfl) (by kernel_rfl) (by decide) (fun _ _ _ h => h) h01 rfl hHeld (Or.inl ⟨by rfl, ?_⟩) ?_
            · (intro W9 hSw; obtain ⟨v1, v2, v3⟩ := hSw; have hq := HQ.out; have hd0 := HD0.out; go_simp; (try (first | with_reducible rfl | rfl | (rw [HWD.out]; done) | (rw [HQ.out]; done) | (rw [HWQ.out]; done) | (rw [HQ.out, HWQ.out]; done) | (simp; done))))
            try simp only [Act.put, List.setIfInBounds_toArray, List.set_cons_zero, List.set_cons_succ]
            refine wpG_takeB (i := 17) (oi := ⟨some 91, _, _, _, _, _⟩) (v := .pointer (some ⟨tb, 2, none⟩)) rfl (by kernel_rfl) (by kernel_rfl) (by kernel_rfl) (by decide) (fun _ _ _ h => h) h01 rfl hHeld (Or.inl ⟨by rfl, ?_⟩) ?_
            · (intro W9 hSw; obtain ⟨v1, v2, v3⟩ := hSw; have hq := HQ.out; have hd0 := HD0.out; go_simp; (try (first | with_reducible rfl | rfl | (rw [HWD.out]; done) | (rw [HQ.out]; done) | (rw [HWQ.out]; done) | (rw [HQ.out, HWQ.out]; done) | (simp; done))))
            try simp only [Act.put, List.setIfInBounds_toArray, List.set_cons_zero, List.set_cons_succ]
            refine wpG_takeB (i := 18) (oi := ⟨some 92, _, _, _, _, _⟩) (v := .int .i64 v) rfl (by kernel_rfl) (by kernel_rfl) (by kernel_rfl) (by decide) (fun _ _ _ h => h) h01 rfl hHeld (Or.inl ⟨by rfl, ?_⟩) ?_
            · (intro W9 hSw; obtain ⟨v1, v2, v3⟩ := hSw; have hq := HQ.out; have hd0 := HD0.out; go_simp; (try (first | with_reducible rfl | rfl | (rw [HWD.out]; done) | (rw [HQ.out]; done) | (rw [HWQ.out]; done) | (rw [HQ.out, HWQ.out]; done) | (simp; done))))
            try simp only [Act.put, List.setIfInBounds_toArray, List.set_cons_zero, List.set_cons_succ]
            refine wpG_takeB (i := 19) (oi := ⟨some 93, _, _, _, _, _⟩) (v := .int .i64 d) rfl (by kernel_rfl) (by kernel_rfl) (by kernel_rfl) (by decide) (fun _ _ _ h => h) h01 rfl hHeld (Or.inl ⟨by rfl, ?_⟩) ?_
            · (intro W9 hSw; obtain ⟨v1, v2, v3⟩ := hSw; have hq := HQ.out; have hd0 := HD0.out; go_simp; (try (first | with_reducible rfl | rfl | (rw [HWD.out]; done) | (rw [HQ.out]; done) | (rw [HWQ.out]; done) | (rw [HQ.out, HWQ.out]; done) | (simp; done))))
            try simp only [Act.put, List.setIfInBounds_toArray, List.set_cons_zero, List.set_cons_succ]
            refine wpG_takeB (i := 20) (oi := ⟨some 94, _, _, _, _, _⟩) (v := .int .i64 (4611686018427387904 - d)) rfl (by kernel_rfl) (by kernel_rfl) (by kernel_rfl) (by decide) (fun _ _ _ h => h) h01 rfl hHeld (Or.inl ⟨by rfl, ?_⟩) ?_
            · (intro W9 hSw; obtain ⟨v1, v2, v3⟩ := hSw; have hq := HQ.out; have hd0 := HD0.out; go_simp; (try (first | with_reducible rfl | rfl | (rw [HWD.out]; done) | (rw [HQ.out]; done) | (rw [HWQ.out]; done) | (rw [HQ.out, HWQ.out]; done) | (simp; done))))
            try simp only [Act.put, List.setIfInBounds_toArray, List.set_cons_zero, List.set_cons_succ]
            refine wpG_takeB (i := 21) (oi := ⟨some 95, _, _, _, _, _⟩) (v := .int .i64 10) rfl (by kernel_rfl) (by kernel_rfl) (by kernel_rfl) (by decide) (fun _ _ _ h => h) h01 rfl hHeld (Or.inl ⟨by rfl, ?_⟩) ?_
            · (intro W9 hSw; obtain ⟨v1, v2, v3⟩ := hSw; have hq := HQ.out; have hd0 := HD0.out; go_simp; (try (first | with_reducible rfl | rfl | (rw [HWD.out]; done) | (rw [HQ.out]; done) | (rw [HWQ.out]; done) | (rw [HQ.out, HWQ.out]; done) | (simp; done))))
            try simp only [Act.put, List.setIfInBounds_toArray, List.set_cons_zero, List.set_cons_succ]
            refine wpG_takeB (i := 22) (oi := ⟨some 96, _, _, _, _, _⟩) (v := .int .i64 qq) rfl (by kernel_rfl) (by kernel_rfl) (by kernel_rfl) (by decide) (fun _ _ _ h => h) h01 rfl hHeld (Or.inl ⟨by rfl, ?_⟩) ?_
            · (intro W9 hSw; obtain ⟨v1, v2, v3⟩ := hSw; have hq := HQ.out; have hd0 := HD0.out; go_simp; (try (first | with_reducible rfl | rfl | (rw [HWD.out]; done) | (rw [HQ.out]; done) | (rw [HWQ.out]; done) | (rw [HQ.out, HWQ.out]; done) | (simp; done))))
            try simp only [Act.put, List.setIfInBounds_toArray, List.set_cons_zero, List.set_cons_succ]
            refine wpG_takeB (i := 23) (oi := ⟨some 97, _, _, _, _, _⟩) (v := .bool true) rfl (by kernel_rfl) (by kernel_rfl) (by kernel_rfl) (by decide) (fun _ _ _ h => h) h01 rfl hHeld (Or.inl ⟨by rfl, ?_⟩) ?_
            · (intro W9 hSw; obtain ⟨v1, v2, v3⟩ := hSw; have hq := HQ.out; have hd0 := HD0.out; go_simp; (try (first | with_reducible rfl | rfl | (rw [HWD.out]; done) | (rw [HQ.out]; done) | (rw [HWQ.out]; done) | (rw [HQ.out, HWQ.out]; done) | (simp; done))))
            try simp only [Act.put, List.setIfInBounds_toArray, List.set_cons_zero, List.set_cons_succ]
            refine wpG_takeB (i := 24) (oi := ⟨some 98, _, _, _, _, _⟩) (v := .bool true) rfl (by kernel_rfl) (by kernel_rfl) (by kernel_rfl) (by decide) (fun _ _ _ h => h) h01 rfl hHeld (Or.inl ⟨by rfl, ?_⟩) ?_
            · (intro W9 hSw; obtain ⟨v1, v2, v3⟩ := hSw; have hq := HQ.out; have hd0 := HD0.out; go_simp; (try (first | with_reducible rfl | rfl | (rw [HWD.out]; done) | (rw [HQ.out]; done) | (rw [HWQ.out]; done) | (rw [HQ.out, HWQ.out]; done) | (simp; done))))
            try simp only [Act.put, List.setIfInBounds_toArray, List.set_cons_zero, List.set_cons_succ]
            refine wpG_oneB (i := 25) (o := ⟨some 99, _, _, _, _, _⟩) (by kernel_rfl) rfl rfl (fun K hK => ?_)
            go_simp
            (with_reducible refine (C60y.out _).mono ?_); rintro e w6 ⟨rfl, rfl⟩
            refine hK.out _ _ hHeld (fun hHeld => ?_)
            clear hK K
            try simp only [Act.put, List.setIfInBounds_toArray, List.set_cons_zero, List.set_cons_succ]
            refine wpG_done (by kernel_rfl) ?_ _
            clear hHeld h01
            go_upto_region 14 with fail
            refine wp_region_G (S0 := (NumS sb tb bb J v 10)) (S1 := (fun _ : World => True)) (c := 11) (by kernel_rfl) ?_
            have hHeld := HNd.out
            have h01 := (fun (W : World) (h : (NumS sb tb bb J v 10) W) => trivial)
            refine wpG_take0 (i := 0) (oi := ⟨some 100, _, _, _, _, _⟩) (v := .pointer (some ⟨tb, 0, none⟩)) rfl (by kernel_rfl) (by kernel_rfl) (by kernel_rfl) (by decide) (by kernel_rfl) (fun _ _ _ h => h) rfl hHeld (Or.inl ⟨by rfl, ?_⟩) ?_
            · (intro W9 hSw; obtain ⟨v1, v2, v3⟩ := hSw; go_simp; (try (first | with_reducible rfl | rfl | (rw [HW1.out]; done) | (rw [HW2.out]; done) | (simp; done))))
            try simp only [Act.put, List.setIfInBounds_toArray, List.set_cons_zero, List.set_cons_succ]
            refine wpG_take0 (i := 1) (oi := ⟨some 101, _, _, _, _, _⟩) (v := .int .i64 10) rfl (by kernel_rfl) (by kernel_rfl) (by kernel_rfl) (by decide) (by kernel_rfl) (fun _ _ _ h => h) rfl hHeld (Or.inl ⟨by rfl, ?_⟩) ?_
            · (intro W9 hSw; obtain ⟨v1, v2, v3⟩ := hSw; go_simp; (try (first | with_reducible rfl | rfl | (rw [HW1.out]; done) | (rw [HW2.out]; done) | (simp; done))))
            try simp only [Act.put, List.setIfInBounds_toArray, List.set_cons_zero, List.set_cons_succ]
            refine wpG_take0 (i := 2) (oi := ⟨some 102, _, _, _, _, _⟩) (v := .pointer (some ⟨tb, 0, none⟩)) rfl (by kernel_rfl) (by kernel_rfl) (by kernel_rfl) (by decide) (by kernel_rfl) (fun _ _ _ h => h) rfl hHeld (Or.inl ⟨by rfl, ?_⟩) ?_
            · (intro W9 hSw; obtain ⟨v1, v2, v3⟩ := hSw; go_simp; (try (first | with_reducible rfl | rfl | (rw [HW1.out]; done) | (rw [HW2.out]; done) | (simp; done))))
            try simp only [Act.put, List.setIfInBounds_toArray, List.set_cons_zero, List.set_cons_succ]
            refine wpG_take0 (i := 3) (oi := ⟨some 103, _, _, _, _, _⟩) (v := .pointer (some ⟨tb, 0, none⟩)) rfl (by kernel_rfl) (by kernel_rfl) (by kernel_rfl) (by decide) (by kernel_rfl) (fun _ _ _ h => h) rfl hHeld (Or.inl ⟨by rfl, ?_⟩) ?_
            · (intro W9 hSw; obtain ⟨v1, v2, v3⟩ := hSw; go_simp; (try (first | with_reducible rfl | rfl | (rw [HW1.out]; done) | (rw [HW2.out]; done) | (simp; done))))
            try simp only [Act.put, List.setIfInBounds_toArray, List.set_cons_zero, List.set_cons_succ]
            refine wpG_take0 (i := 4) (oi := ⟨some 104, _, _, _, _, _⟩) (v := .pointer (some ⟨tb, 2, none⟩)) rfl (by kernel_rfl) (by kernel_rfl) (by kernel_rfl) (by decide) (by kernel_rfl) (fun _ _ _ h => h) rfl hHeld (Or.inl ⟨by rfl, ?_⟩) ?_
            · (intro W9 hSw; obtain ⟨v1, v2, v3⟩ := hSw; go_simp; (try (first | with_reducible rfl | rfl | (rw [HW1.out]; done) | (rw [HW2.out]; done) | (simp; done))))
            try simp only [Act.put, List.setIfInBounds_toArray, List.set_cons_zero, List.set_cons_succ]
            refine wpG_take0 (i := 5) (oi := ⟨some 105, _, _, _, _, _⟩) (v := .int .i64 v) rfl (by kernel_rfl) (by kernel_rfl) (by kernel_rfl) (by decide) (by kernel_rfl) (fun _ _ _ h => h) rfl hHeld (Or.inl ⟨by rfl, ?_⟩) ?_
            · (intro W9 hSw; obtain ⟨v1, v2, v3⟩ := hSw; go_simp; (try (first | with_reducible rfl | rfl | (rw [HW1.out]; done) | (rw [HW2.out]; done) | (simp; done))))
            try simp only [Act.put, List.setIfInBounds_toArray, List.set_cons_zero, List.set_cons_succ]
            refine wpG_take0 (i := 6) (oi := ⟨some 106, _, _, _, _, _⟩) (v := .int .i64 (10 * v)) rfl (by kernel_rfl) (by kernel_rfl) (by kernel_rfl) (by decide) (by kernel_rfl) (fun _ _ _ h => h) rfl hHeld (Or.inl ⟨by rfl, ?_⟩) ?_
            · (intro W9 hSw; obtain ⟨v1, v2, v3⟩ := hSw; go_simp; (try (first | with_reducible rfl | rfl | (rw [HW1.out]; done) | (rw [HW2.out]; done) | (simp; done))))
            try simp only [Act.put, List.setIfInBounds_toArray, List.set_cons_zero, List.set_cons_succ]
            refine wpG_take0 (i := 7) (oi := ⟨some 107, _, _, _, _, _⟩) (v := .int .i64 d) rfl (by kernel_rfl) (by kernel_rfl) (by kernel_rfl) (by decide) (by kernel_rfl) (fun _ _ _ h => h) rfl hHeld (Or.inl ⟨by rfl, ?_⟩) ?_
            · (intro W9 hSw; obtain ⟨v1, v2, v3⟩ := hSw; go_simp; (try (first | with_reducible rfl | rfl | (rw [HW1.out]; done) | (rw [HW2.out]; done) | (simp; done))))
            try simp only [Act.put, List.setIfInBounds_toArray, List.set_cons_zero, List.set_cons_succ]
            refine wpG_take0 (i := 8) (oi := ⟨some 108, _, _, _, _, _⟩) (v := .int .i64 (10 * v + d)) rfl (by kernel_rfl) (by kernel_rfl) (by kernel_rfl) (by decide) (by kernel_rfl) (fun _ _ _ h => h) rfl hHeld (Or.inl ⟨by rfl, ?_⟩) ?_
            · (intro W9 hSw; obtain ⟨v1, v2, v3⟩ := hSw; go_simp; (try (first | with_reducible rfl | rfl | (rw [HW1.out]; done) | (rw [HW2.out]; done) | (simp; done))))
            try simp only [Act.put, List.setIfInBounds_toArray, List.set_cons_zero, List.set_cons_succ]
            refine wpG_takeA (i := 9) (oi := ⟨some 109, _, _, _, _, _⟩) (v := .pointer (some ⟨tb, 0, none⟩)) rfl (by kernel_rfl) (by kernel_rfl) (by kernel_rfl) (by decide) (fun _ _ _ h => h) h01 rfl hHeld (Or.inl ⟨by rfl, ?_⟩) ?_
            · (intro W9 hSw; go_simp; (try (first | with_reducible rfl | rfl | (rw [HW1.out]; done) | (rw [HW2.out]; done) | (simp; done))))
            try simp only [Act.put, List.setIfInBounds_toArray, List.set_cons_zero, List.set_cons_succ]
            refine wpG_takeA (i := 10) (oi := ⟨some 110, _, _, _, _, _⟩) (v := .pointer (some ⟨tb, 2, none⟩)) rfl (by kernel_rfl) (by kernel_rfl) (by kernel_rfl) (by decide) (fun _ _ _ h => h) h01 rfl hHeld (Or.inl ⟨by rfl, ?_⟩) ?_
            · (intro W9 hSw; go_simp; (try (first | with_reducible rfl | rfl | (rw [HW1.out]; done) | (rw [HW2.out]; done) | (simp; done))))
            try simp only [Act.put, List.setIfInBounds_toArray, List.set_cons_zero, List.set_cons_succ]
            refine wpG_oneB (i := 11) (o := ⟨none, _, _, _, _, _⟩) (by kernel_rfl) rfl rfl (fun K hK => ?_)
            have kq := Blk.cell HTd.out 2
            simp only [List.getElem?_toArray, List.getElem?_cons_zero, List.getElem?_cons_succ] at kq
            have kz := Blk.frozen HTd.out 2
            go_simp
            clear kq kz
            refine hK.out _ _ trivial (fun hHeld => ?_)
            clear hK K
            try simp only [Act.put, List.setIfInBounds_toArray, List.set_cons_zero, List.set_cons_succ]
            refine wpG_done (by kernel_rfl) ?_ _
            clear hHeld h01
            have HSe := Lib.hid (show Sc L sb (i + n) (W1.setCell ⟨tb, 2, none⟩ (.int .i64 (10 * v + d))).drew.drew from (HSa.out.far HNE.out.1 2 _).drew.drew)
            have HTe := Lib.hid (show TB tb 2 tx (10 * v + d) ln cl (W1.setCell ⟨tb, 2, none⟩ (.int .i64 (10 * v + d))).drew.drew from Blk.drew1 (Blk.drew1 (TB.val HTa.out (10 * v + d))))
            have HBe := Lib.hid (show Blk (W1.setCell ⟨tb, 2, none⟩ (.int .i64 (10 * v + d))).drew.drew bb 3 #[.int .i64 10] from (HBa.out.far HNE.out.2.2 _).drew1.drew1)
            have HOe := Lib.hid (show Only (fun b => b = sb ∨ b = tb) w (W1.setCell ⟨tb, 2, none⟩ (.int .i64 (10 * v + d))).drew.drew from only_drew (only_drew (Only.set HOa.out (fun _ => .inr rfl) 2 _)))
            have C73 := Lib.hid (fun (W : World) (hs : Sc L sb (i + n) W) => pass_any L sb (i + n) W hs HLT.out HN.out)
            go_wp2_with (go_at_call 73; (with_reducible refine (C73.out _ HSe.out).mono ?_); rintro e w7 ⟨rfl, hs7, ho7⟩; have HS7 := Lib.hid hs7; have HO7 := Lib.hid ho7; clear hs7 ho7)
            go_roundw
            case rel => exact ⟨n + 1, 10 * v + d, Lib.hid (by have := HLT.out; omega), HVB.out.1, HVB.out.2, Lib.hid (by have := HTX.out; rw [if_neg (by simp), if_pos (by rw [HQQ.out]; exact HVQ.out)] at this; exact this), Lib.hid HS7.out, Lib.hid (HTe.out.only HO7.out (fun e => HNE.out.1 e.symm)), Lib.hid (HBe.out.only HO7.out (fun e => HNE.out.2.1 e)), Lib.hid (HOe.out.tr HO7.out.sb)⟩
            case measure => rw [HS7.out.at, HS.out.at]; have := HLT.out; omega
          ·
            have q9 : decide (v ≤ qq) = false := decide_eq_false hvq
            have HVQ := Lib.hid hvq
            clear hvq hqq
            refine wp_region_G (S0 := (NumS sb tb bb J v 10)) (S1 := (NumS sb tb bb J v 10)) (c := 99) (by kernel_rfl) ?_
            have hHeld := HNd.out
            have h01 := (fun (W : World) (h : (NumS sb tb bb J v 10) W) => h)
            refine wpG_takeB (i := 0) (oi := ⟨some 74, _, _, _, _, _⟩) (v := .pointer (some ⟨sb, 0, none⟩)) rfl (by kernel_rfl) (by kernel_rfl) (by kernel_rfl) (by decide) (fun _ _ _ h => h) h01 rfl hHeld (Or.inl ⟨by rfl, ?_⟩) ?_
            · (intro W9 hSw; obtain ⟨v1, v2, v3⟩ := hSw; have hq := HQ.out; have hd0 := HD0.out; go_simp; (try (first | with_reducible rfl | rfl | (rw [HWD.out]; done) | (rw [HQ.out]; done) | (rw [HWQ.out]; done) | (rw [HQ.out, HWQ.out]; done) | (simp; done))))
            try simp only [Act.put, List.setIfInBounds_toArray, List.set_cons_zero, List.set_cons_succ]
            refine wpG_takeB (i := 1) (oi := ⟨some 75, _, _, _, _, _⟩) (v := .pointer (some ⟨sb, 0, none⟩)) rfl (by kernel_rfl) (by kernel_rfl) (by kernel_rfl) (by decide) (fun _ _ _ h => h) h01 rfl hHeld (Or.inl ⟨by rfl, ?_⟩) ?_
            · (intro W9 hSw; obtain ⟨v1, v2, v3⟩ := hSw; have hq := HQ.out; have hd0 := HD0.out; go_simp; (try (first | with_reducible rfl | rfl | (rw [HWD.out]; done) | (rw [HQ.out]; done) | (rw [HWQ.out]; done) | (rw [HQ.out, HWQ.out]; done) | (simp; done))))
            try simp only [Act.put, List.setIfInBounds_toArray, List.set_cons_zero, List.set_cons_succ]
            refine wpG_takeB (i := 2) (oi := ⟨some 76, _, _, _, _, _⟩) (v := .pointer (some ⟨sb, 0, none⟩)) rfl (by kernel_rfl) (by kernel_rfl) (by kernel_rfl) (by decide) (fun _ _ _ h => h) h01 rfl hHeld (Or.inl ⟨by rfl, ?_⟩) ?_
            · (intro W9 hSw; obtain ⟨v1, v2, v3⟩ := hSw; have hq := HQ.out; have hd0 := HD0.out; go_simp; (try (first | with_reducible rfl | rfl | (rw [HWD.out]; done) | (rw [HQ.out]; done) | (rw [HWQ.out]; done) | (rw [HQ.out, HWQ.out]; done) | (simp; done))))
            try simp only [Act.put, List.setIfInBounds_toArray, List.set_cons_zero, List.set_cons_succ]
            refine wpG_takeB (i := 3) (oi := ⟨some 77, _, _, _, _, _⟩) (v := .bool false) rfl (by kernel_rfl) (by kernel_rfl) (by kernel_rfl) (by decide) (fun _ _ _ h => h) h01 rfl hHeld (Or.inl ⟨by rfl, ?_⟩) ?_
            · (intro W9 hSw; obtain ⟨v1, v2, v3⟩ := hSw; have hq := HQ.out; have hd0 := HD0.out; go_simp; (try (first | with_reducible rfl | rfl | (rw [HWD.out]; done) | (rw [HQ.out]; done) | (rw [HWQ.out]; done) | (rw [HQ.out, HWQ.out]; done) | (simp; done))))
            try simp only [Act.put, List.setIfInBounds_toArray, List.set_cons_zero, List.set_cons_succ]
            refine wpG_takeB (i := 4) (oi := ⟨some 78, _, _, _, _, _⟩) (v := .bool true) rfl (by kernel_rfl) (by kernel_rfl) (by kernel_rfl) (by decide) (fun _ _ _ h => h) h01 rfl hHeld (Or.inl ⟨by rfl, ?_⟩) ?_
            · (intro W9 hSw; obtain ⟨v1, v2, v3⟩ := hSw; have hq := HQ.out; have hd0 := HD0.out; go_simp; (try (first | with_reducible rfl | rfl | (rw [HWD.out]; done) | (rw [HQ.out]; done) | (rw [HWQ.out]; done) | (rw [HQ.out, HWQ.out]; done) | (simp; done))))
            try simp only [Act.put, List.setIfInBounds_toArray, List.set_cons_zero, List.set_cons_succ]
            refine wpG_takeB (i := 5) (oi := ⟨some 79, _, _, _, _, _⟩) (v := .bool true) rfl (by kernel_rfl) (by kernel_rfl) (by kernel_rfl) (by decide) (fun _ _ _ h => h) h01 rfl hHeld (Or.inl ⟨by rfl, ?_⟩) ?_
            · (intro W9 hSw; obtain ⟨v1, v2, v3⟩ := hSw; have hq := HQ.out; have hd0 := HD0.out; go_simp; (try (first | with_reducible rfl | rfl | (rw [HWD.out]; done) | (rw [HQ.out]; done) | (rw [HWQ.out]; done) | (rw [HQ.out, HWQ.out]; done) | (simp; done))))
            try simp only [Act.put, List.setIfInBounds_toArray, List.set_cons_zero, List.set_cons_succ]
            refine wpG_takeB (i := 6) (oi := ⟨some 80, _, _, _, _, _⟩) (v := undef) rfl (by kernel_rfl) (by kernel_rfl) (by kernel_rfl) (by decide) (fun _ _ _ h => h) h01 rfl hHeld (Or.inr ⟨by rfl, rfl⟩) ?_
            try simp only [Act.put, List.setIfInBounds_toArray, List.set_cons_zero, List.set_cons_succ]
            refine wpG_takeB (i := 7) (oi := ⟨some 81, _, _, _, _, _⟩) (v := undef) rfl (by kernel_rfl) (by kernel_rfl) (by kernel_rfl) (by decide) (fun _ _ _ h => h) h01 rfl hHeld (Or.inr ⟨by rfl, rfl⟩) ?_
            try simp only [Act.put, List.setIfInBounds_toArray, List.set_cons_zero, List.set_cons_succ]
            refine wpG_takeB (i := 8) (oi := ⟨some 82, _, _, _, _, _⟩) (v := undef) rfl (by kernel_rfl) (by kernel_rfl) (by kernel_rfl) (by decide) (fun _ _ _ h => h) h01 rfl hHeld (Or.inr ⟨by rfl, rfl⟩) ?_
            try simp only [Act.put, List.setIfInBounds_toArray, List.set_cons_zero, List.set_cons_succ]
            refine wpG_takeB (i := 9) (oi := ⟨some 83, _, _, _, _, _⟩) (v := undef) rfl (by kernel_rfl) (by kernel_rfl) (by kernel_rfl) (by decide) (fun _ _ _ h => h) h01 rfl hHeld (Or.inr ⟨by rfl, rfl⟩) ?_
            try simp only [Act.put, List.setIfInBounds_toArray, List.set_cons_zero, List.set_cons_succ]
            refine wpG_takeB (i := 10) (oi := ⟨some 84, _, _, _, _, _⟩) (v := undef) rfl (by kernel_rfl) (by kernel_rfl) (by kernel_rfl) (by decide) (fun _ _ _ h => h) h01 rfl hHeld (Or.inr ⟨by rfl, rfl⟩) ?_
            try simp only [Act.put, List.setIfInBounds_toArray, List.set_cons_zero, List.set_cons_succ]
            refine wpG_takeB (i := 11) (oi := ⟨some 85, _, _, _, _, _⟩) (v := undef) rfl (by kernel_rfl) (by kernel_rfl) (by kernel_rfl) (by decide) (fun _ _ _ h => h) h01 rfl hHeld (Or.inr ⟨by rfl, rfl⟩) ?_
            try simp only [Act.put, List.setIfInBounds_toArray, List.set_cons_zero, List.set_cons_succ]
            refine wpG_takeB (i := 12) (oi := ⟨some 86, _, _, _, _, _⟩) (v := undef) rfl (by kernel_rfl) (by kernel_rfl) (by kernel_rfl) (by decide) (fun _ _ _ h => h) h01 rfl hHeld (Or.inr ⟨by rfl, rfl⟩) ?_
            try simp only [Act.put, List.setIfInBounds_toArray, List.set_cons_zero, List.set_cons_succ]
            refine wpG_takeB (i := 13) (oi := ⟨some 87, _, _, _, _, _⟩) (v := .bool true) rfl (by kernel_rfl) (by kernel_rfl) (by kernel_rfl) (by decide) (fun _ _ _ h => h) h01 rfl hHeld (Or.inl ⟨by rfl, ?_⟩) ?_
            · (intro W9 hSw; obtain ⟨v1, v2, v3⟩ := hSw; have hq := HQ.out; have hd0 := HD0.out; go_simp; (try (first | with_reducible rfl | rfl | (rw [HWD.out]; done) | (rw [HQ.out]; done) | (rw [HWQ.out]; done) | (rw [HQ.out, HWQ.out]; done) | (simp; done))))
            try simp only [Act.put, List.setIfInBounds_toArray, List.set_cons_zero, List.set_cons_succ]
            refine wpG_takeB (i := 14) (oi := ⟨some 88, _, _, _, _, _⟩) (v := .bool true) rfl (by kernel_rfl) (by kernel_rfl) (by kernel_rfl) (by decide) (fun _ _ _ h => h) h01 rfl hHeld (Or.inl ⟨by rfl, ?_⟩) ?_
            · (intro W9 hSw; obtain ⟨v1, v2, v3⟩ := hSw; have hq := HQ.out; have hd0 := HD0.out; go_simp; (try (first | with_reducible rfl | rfl | (rw [HWD.out]; done) | (rw [HQ.out]; done) | (rw [HWQ.out]; done) | (rw [HQ.out, HWQ.out]; done) | (simp; done))))
            try simp only [Act.put, List.setIfInBounds_toArray, List.set_cons_zero, List.set_cons_succ]
            refine wpG_takeB (i := 15) (oi := ⟨some 89, _, _, _, _, _⟩) (v := .pointer (some ⟨tb, 0, none⟩)) rfl (by kernel_rfl) (by kernel_rfl) (by kernel_rfl) (by decide) (fun _ _ _ h => h) h01 rfl hHeld (Or.inl ⟨by rfl, ?_⟩) ?_
            · (intro W9 hSw; obtain ⟨v1, v2, v3⟩ := hSw; have hq := HQ.out; have hd0 := HD0.out; go_simp; (try (first | with_reducible rfl | rfl | (rw [HWD.out]; done) | (rw [HQ.out]; done) | (rw [HWQ.out]; done) | (rw [HQ.out, HWQ.out]; done) | (simp; done))))
            try simp only [Act.put, List.setIfInBounds_toArray, List.set_cons_zero, List.set_cons_succ]
            refine wpG_takeB (i := 16) (oi := ⟨some 90, _, _, _, _, _⟩) (v := .pointer (some ⟨tb, 0, none⟩)) rfl (by kernel_rfl) (by kernel_rfl) (by kernel_rfl) (by decide) (fun _ _ _ h => h) h01 rfl hHeld (Or.inl ⟨by rfl, ?_⟩) ?_
            · (intro W9 hSw; obtain ⟨v1, v2, v3⟩ := hSw; have hq := HQ.out; have hd0 := HD0.out; go_simp; (try (first | with_reducible rfl | rfl | (rw [HWD.out]; done) | (rw [HQ.out]; done) | (rw [HWQ.out]; done) | (rw [HQ.out, HWQ.out]; done) | (simp; done))))
            try simp only [Act.put, List.setIfInBounds_toArray, List.set_cons_zero, List.set_cons_succ]
            refine wpG_takeB (i := 17) (oi := ⟨some 91, _, _, _, _, _⟩) (v := .pointer (some ⟨tb, 2, none⟩)) rfl (by kernel_rfl) (by kernel_rfl) (by kernel_rfl) (by decide) (fun _ _ _ h => h) h01 rfl hHeld (Or.inl ⟨by rfl, ?_⟩) ?_
            · (intro W9 hSw; obtain ⟨v1, v2, v3⟩ := hSw; have hq := HQ.out; have hd0 := HD0.out; go_simp; (try (first | with_reducible rfl | rfl | (rw [HWD.out]; done) | (rw [HQ.out]; done) | (rw [HWQ.out]; done) | (rw [HQ.out, HWQ.out]; done) | (simp; done))))
            try simp only [Act.put, List.setIfInBounds_toArray, List.set_cons_zero, List.set_cons_succ]
            refine wpG_takeB (i := 18) (oi := ⟨some 92, _, _, _, _, _⟩) (v := .int .i64 v) rfl (by kernel_rfl) (by kernel_rfl) (by kernel_rfl) (by decide) (fun _ _ _ h => h) h01 rfl hHeld (Or.inl ⟨by rfl, ?_⟩) ?_
            · (intro W9 hSw; obtain ⟨v1, v2, v3⟩ := hSw; have hq := HQ.out; have hd0 := HD0.out; go_simp; (try (first | with_reducible rfl | rfl | (rw [HWD.out]; done) | (rw [HQ.out]; done) | (rw [HWQ.out]; done) | (rw [HQ.out, HWQ.out]; done) | (simp; done))))
            try simp only [Act.put, List.setIfInBounds_toArray, List.set_cons_zero, List.set_cons_succ]
            refine wpG_takeB (i := 19) (oi := ⟨some 93, _, _, _, _, _⟩) (v := .int .i64 d) rfl (by kernel_rfl) (by kernel_rfl) (by kernel_rfl) (by decide) (fun _ _ _ h => h) h01 rfl hHeld (Or.inl ⟨by rfl, ?_⟩) ?_
            · (intro W9 hSw; obtain ⟨v1, v2, v3⟩ := hSw; have hq := HQ.out; have hd0 := HD0.out; go_simp; (try (first | with_reducible rfl | rfl | (rw [HWD.out]; done) | (rw [HQ.out]; done) | (rw [HWQ.out]; done) | (rw [HQ.out, HWQ.out]; done) | (simp; done))))
            try simp only [Act.put, List.setIfInBounds_toArray, List.set_cons_zero, List.set_cons_succ]
            refine wpG_takeB (i := 20) (oi := ⟨some 94, _, _, _, _, _⟩) (v := .int .i64 (4611686018427387904 - d)) rfl (by kernel_rfl) (by kernel_rfl) (by kernel_rfl) (by decide) (fun _ _ _ h => h) h01 rfl hHeld (Or.inl ⟨by rfl, ?_⟩) ?_
            · (intro W9 hSw; obtain ⟨v1, v2, v3⟩ := hSw; have hq := HQ.out; have hd0 := HD0.out; go_simp; (try (first | with_reducible rfl | rfl | (rw [HWD.out]; done) | (rw [HQ.out]; done) | (rw [HWQ.out]; done) | (rw [HQ.out, HWQ.out]; done) | (simp; done))))
            try simp only [Act.put, List.setIfInBounds_toArray, List.set_cons_zero, List.set_cons_succ]
            refine wpG_takeB (i := 21) (oi := ⟨some 95, _, _, _, _, _⟩) (v := .int .i64 10) rfl (by kernel_rfl) (by kernel_rfl) (by kernel_rfl) (by decide) (fun _ _ _ h => h) h01 rfl hHeld (Or.inl ⟨by rfl, ?_⟩) ?_
            · (intro W9 hSw; obtain ⟨v1, v2, v3⟩ := hSw; have hq := HQ.out; have hd0 := HD0.out; go_simp; (try (first | with_reducible rfl | rfl | (rw [HWD.out]; done) | (rw [HQ.out]; done) | (rw [HWQ.out]; done) | (rw [HQ.out, HWQ.out]; done) | (simp; done))))
            try simp only [Act.put, List.setIfInBounds_toArray, List.set_cons_zero, List.set_cons_succ]
            refine wpG_takeB (i := 22) (oi := ⟨some 96, _, _, _, _, _⟩) (v := .int .i64 qq) rfl (by kernel_rfl) (by kernel_rfl) (by kernel_rfl) (by decide) (fun _ _ _ h => h) h01 rfl hHeld (Or.inl ⟨by rfl, ?_⟩) ?_
            · (intro W9 hSw; obtain ⟨v1, v2, v3⟩ := hSw; have hq := HQ.out; have hd0 := HD0.out; go_simp; (try (first | with_reducible rfl | rfl | (rw [HWD.out]; done) | (rw [HQ.out]; done) | (rw [HWQ.out]; done) | (rw [HQ.out, HWQ.out]; done) | (simp; done))))
            try simp only [Act.put, List.setIfInBounds_toArray, List.set_cons_zero, List.set_cons_succ]
            refine wpG_takeB (i := 23) (oi := ⟨some 97, _, _, _, _, _⟩) (v := .bool false) rfl (by kernel_rfl) (by kernel_rfl) (by kernel_rfl) (by decide) (fun _ _ _ h => h) h01 rfl hHeld (Or.inl ⟨by rfl, ?_⟩) ?_
            · (intro W9 hSw; obtain ⟨v1, v2, v3⟩ := hSw; have hq := HQ.out; have hd0 := HD0.out; go_simp; (try (first | with_reducible rfl | rfl | (rw [HWD.out]; done) | (rw [HQ.out]; done) | (rw [HWQ.out]; done) | (rw [HQ.out, HWQ.out]; done) | (simp; done))))
            try simp only [Act.put, List.setIfInBounds_toArray, List.set_cons_zero, List.set_cons_succ]
            refine wpG_takeB (i := 24) (oi := ⟨some 98, _, _, _, _, _⟩) (v := .bool false) rfl (by kernel_rfl) (by kernel_rfl) (by kernel_rfl) (by decide) (fun _ _ _ h => h) h01 rfl hHeld (Or.inl ⟨by rfl, ?_⟩) ?_
            · (intro W9 hSw; obtain ⟨v1, v2, v3⟩ := hSw; have hq := HQ.out; have hd0 := HD0.out; go_simp; (try (first | with_reducible rfl | rfl | (rw [HWD.out]; done) | (rw [HQ.out]; done) | (rw [HWQ.out]; done) | (rw [HQ.out, HWQ.out]; done) | (simp; done))))
            try simp only [Act.put, List.setIfInBounds_toArray, List.set_cons_zero, List.set_cons_succ]
            refine wpG_oneB (i := 25) (o := ⟨some 99, _, _, _, _, _⟩) (by kernel_rfl) rfl rfl (fun K hK => ?_)
            go_simp
            (with_reducible refine (C60n.out _ HSd.out).mono ?_); rintro e w6 ⟨rfl, hs6, hb6⟩
            exact ⟨rfl, HOd.out.below hb6, by rw [← HTX.out, if_neg (by simp), if_neg (by rw [HQQ.out]; exact HVQ.out)]; exact ⟨rfl, hs6⟩⟩
        | false =>
          rw [hb] at C76
          have hT0 := HT0.out
          rw [digs_false hb] at hT0
          have C69 := Lib.hid (fun (W : World) (hs : Sc L sb (i + n) W) => next_sc 69 worI pf69 L sb (i + n) W hs HN.out)
          have HS1 := Lib.hid (fun m => HS.out.drewN m)
          have HT1 : Hid (∀ m, TB tb 2 tx v ln cl (wr.drewN m)) := Lib.hid (fun m => Blk.drewN HT.out m)
          have HO1 := Lib.hid (fun m => only_drewN HO.out m)
          clear hb
          cases hb2 : headP worI (L.drop (i + n)) with
          | false =>
            rw [hb2] at C69 hT0
            rw [if_neg (by simp)] at hT0
            have C60 := Lib.hid (fun (W : World) (hs : Sc L sb (i + n) W) => need_sy L sb (i + n) W hs)
            have HTX := Lib.hid hT0
            clear hT0 hb2
            go_upto_region 16 with (go_at_call 66; (with_reducible refine C76.out.mono ?_); rintro e w1 ⟨rfl, m, rfl⟩)
            obtain ⟨W1, hW1⟩ : ∃ W1, wr.drewN m = W1 := ⟨_, rfl⟩
            have HSd := Lib.hid (show Sc L sb (i + n) W1.drew from hW1 ▸ (HS1.out m).drew)
            have HTd := Lib.hid (show TB tb 2 tx v ln cl W1.drew from hW1 ▸ Blk.drew1 (HT1.out m))
            have HOd := Lib.hid (show Only (fun b => b = sb ∨ b = tb) w W1.drew from hW1 ▸ only_drew (HO1.out m))
            rw [hW1]
            clear hW1
            refine wp_region_G (S0 := (fun _ : World => True)) (S1 := (fun _ : World => True)) (c := 99) (by kernel_rfl) ?_
            have hHeld := trivial
            have h01 := (fun (W : World) (h : (fun _ : World => True) W) => h)
            refine wpG_takeB (i := 0) (oi := ⟨some 115, _, _, _, _, _⟩) (v := .pointer (some ⟨sb, 0, none⟩)) rfl (by kernel_rfl) (by kernel_rfl) (by kernel_rfl) (by decide) (fun _ _ _ h => h) h01 rfl hHeld (Or.inl ⟨by rfl, ?_⟩) ?_
            · (intro W9 hSw; go_simp; (try (first | with_reducible rfl | rfl | (simp; done))))
            try simp only [Act.put, List.setIfInBounds_toArray, List.set_cons_zero, List.set_cons_succ]
            refine wpG_takeB (i := 1) (oi := ⟨some 116, _, _, _, _, _⟩) (v := .pointer (some ⟨sb, 0, none⟩)) rfl (by kernel_rfl) (by kernel_rfl) (by kernel_rfl) (by decide) (fun _ _ _ h => h) h01 rfl hHeld (Or.inl ⟨by rfl, ?_⟩) ?_
            · (intro W9 hSw; go_simp; (try (first | with_reducible rfl | rfl | (simp; done))))
            try simp only [Act.put, List.setIfInBounds_toArray, List.set_cons_zero, List.set_cons_succ]
            refine wpG_takeB (i := 2) (oi := ⟨some 117, _, _, _, _, _⟩) (v := .pointer (some ⟨sb, 0, none⟩)) rfl (by kernel_rfl) (by kernel_rfl) (by kernel_rfl) (by decide) (fun _ _ _ h => h) h01 rfl hHeld (Or.inl ⟨by rfl, ?_⟩) ?_
            · (intro W9 hSw; go_simp; (try (first | with_reducible rfl | rfl | (simp; done))))
            try simp only [Act.put, List.setIfInBounds_toArray, List.set_cons_zero, List.set_cons_succ]
            refine wpG_takeB (i := 3) (oi := ⟨some 118, _, _, _, _, _⟩) (v := .pointer (some ⟨sb, 0, none⟩)) rfl (by kernel_rfl) (by kernel_rfl) (by kernel_rfl) (by decide) (fun _ _ _ h => h) h01 rfl hHeld (Or.inl ⟨by rfl, ?_⟩) ?_
            · (intro W9 hSw; go_simp; (try (first | with_reducible rfl | rfl | (simp; done))))
            try simp only [Act.put, List.setIfInBounds_toArray, List.set_cons_zero, List.set_cons_succ]
            refine wpG_takeB (i := 4) (oi := ⟨some 119, _, _, _, _, _⟩) (v := .pointer (some ⟨sb, 0, none⟩)) rfl (by kernel_rfl) (by kernel_rfl) (by kernel_rfl) (by decide) (fun _ _ _ h => h) h01 rfl hHeld (Or.inl ⟨by rfl, ?_⟩) ?_
            · (intro W9 hSw; go_simp; (try (first | with_reducible rfl | rfl | (simp; done))))
            try simp only [Act.put, List.setIfInBounds_toArray, List.set_cons_zero, List.set_cons_succ]
            refine wpG_takeB (i := 5) (oi := ⟨some 120, _, _, _, _, _⟩) (v := .pointer (some ⟨sb, 0, none⟩)) rfl (by kernel_rfl) (by kernel_rfl) (by kernel_rfl) (by decide) (fun _ _ _ h => h) h01 rfl hHeld (Or.inl ⟨by rfl, ?_⟩) ?_
            · (intro W9 hSw; go_simp; (try (first | with_reducible rfl | rfl | (simp; done))))
            try simp only [Act.put, List.setIfInBounds_toArray, List.set_cons_zero, List.set_cons_succ]
            refine wpG_oneB (i := 6) (o := ⟨some 121, _, _, _, _, _⟩) (by kernel_rfl) rfl rfl (fun K hK => ?_)
            go_simp
            (with_reducible refine (C69.out _ HSd.out).mono ?_); rintro e w5 ⟨rfl, hs5, hb5⟩
            have HS5 := Lib.hid hs5
            have HB5 := Lib.hid hb5
            clear hs5 hb5
            refine hK.out _ _ trivial (fun hHeld => ?_)
            clear hK K
            try simp only [Act.put, List.setIfInBounds_toArray, List.set_cons_zero, List.set_cons_succ]
            refine wpG_takeB (i := 7) (oi := ⟨some 122, _, _, _, _, _⟩) (v := .bool true) rfl (by kernel_rfl) (by kernel_rfl) (by kernel_rfl) (by decide) (fun _ _ _ h => h) h01 rfl hHeld (Or.inl ⟨by rfl, ?_⟩) ?_
            · (intro W9 hSw; go_simp; (try (first | with_reducible rfl | rfl | (simp; done))))
            try simp only [Act.put, List.setIfInBounds_toArray, List.set_cons_zero, List.set_cons_succ]
            refine wpG_oneB (i := 8) (o := ⟨some 123, _, _, _, _, _⟩) (by kernel_rfl) rfl rfl (fun K hK => ?_)
            go_simp
            (with_reducible refine (C60.out _ HS5.out).mono ?_); rintro e w6 ⟨rfl, hs6, hb6⟩
            have HS6 := Lib.hid hs6
            have HB6 := Lib.hid hb6
            clear hs6 hb6
            refine hK.out _ _ trivial (fun hHeld => ?_)
            clear hK K
            try simp only [Act.put, List.setIfInBounds_toArray, List.set_cons_zero, List.set_cons_succ]
            refine wpG_done (by kernel_rfl) ?_ _
            clear hHeld h01
            go_wp2_with fail
            go_ret
            refine ⟨(HOd.out.below HB5.out).below HB6.out, ?_⟩
            rw [← HTX.out]
            exact ⟨rfl, HS6.out, TB.below (TB.below HTd.out HB5.out) HB6.out⟩
          | true =>
            rw [hb2] at C69 hT0
            rw [if_pos rfl] at hT0
            have C60 := Lib.hid (fun (W : World) (hs : Sc L sb (i + n) W) => need_sn L sb (i + n) W hs HLE.out HN.out)
            have HTX := Lib.hid hT0
            clear hT0 hb2
            go_upto_region 16 with (go_at_call 66; (with_reducible refine C76.out.mono ?_); rintro e w1 ⟨rfl, m, rfl⟩)
            obtain ⟨W1, hW1⟩ : ∃ W1, wr.drewN m = W1 := ⟨_, rfl⟩
            have HSd := Lib.hid (show Sc L sb (i + n) W1.drew from hW1 ▸ (HS1.out m).drew)
            have HOd := Lib.hid (show Only (fun b => b = sb ∨ b = tb) w W1.drew from hW1 ▸ only_drew (HO1.out m))
            rw [hW1]
            clear hW1
            refine wp_region_G (S0 := (fun _ : World => True)) (S1 := (fun _ : World => True)) (c := 99) (by kernel_rfl) ?_
            have hHeld := trivial
            have h01 := (fun (W : World) (h : (fun _ : World => True) W) => h)
            refine wpG_takeB (i := 0) (oi := ⟨some 115, _, _, _, _, _⟩) (v := .pointer (some ⟨sb, 0, none⟩)) rfl (by kernel_rfl) (by kernel_rfl) (by kernel_rfl) (by decide) (fun _ _ _ h => h) h01 rfl hHeld (Or.inl ⟨by rfl, ?_⟩) ?_
            · (intro W9 hSw; go_simp; (try (first | with_reducible rfl | rfl | (simp; done))))
            try simp only [Act.put, List.setIfInBounds_toArray, List.set_cons_zero, List.set_cons_succ]
            refine wpG_takeB (i := 1) (oi := ⟨some 116, _, _, _, _, _⟩) (v := .pointer (some ⟨sb, 0, none⟩)) rfl (by kernel_rfl) (by kernel_rfl) (by kernel_rfl) (by decide) (fun _ _ _ h => h) h01 rfl hHeld (Or.inl ⟨by rfl, ?_⟩) ?_
            · (intro W9 hSw; go_simp; (try (first | with_reducible rfl | rfl | (simp; done))))
            try simp only [Act.put, List.setIfInBounds_toArray, List.set_cons_zero, List.set_cons_succ]
            refine wpG_takeB (i := 2) (oi := ⟨some 117, _, _, _, _, _⟩) (v := .pointer (some ⟨sb, 0, none⟩)) rfl (by kernel_rfl) (by kernel_rfl) (by kernel_rfl) (by decide) (fun _ _ _ h => h) h01 rfl hHeld (Or.inl ⟨by rfl, ?_⟩) ?_
            · (intro W9 hSw; go_simp; (try (first | with_reducible rfl | rfl | (simp; done))))
            try simp only [Act.put, List.setIfInBounds_toArray, List.set_cons_zero, List.set_cons_succ]
            refine wpG_takeB (i := 3) (oi := ⟨some 118, _, _, _, _, _⟩) (v := .pointer (some ⟨sb, 0, none⟩)) rfl (by kernel_rfl) (by kernel_rfl) (by kernel_rfl) (by decide) (fun _ _ _ h => h) h01 rfl hHeld (Or.inl ⟨by rfl, ?_⟩) ?_
            · (intro W9 hSw; go_simp; (try (first | with_reducible rfl | rfl | (simp; done))))
            try simp only [Act.put, List.setIfInBounds_toArray, List.set_cons_zero, List.set_cons_succ]
            refine wpG_takeB (i := 4) (oi := ⟨some 119, _, _, _, _, _⟩) (v := .pointer (some ⟨sb, 0, none⟩)) rfl (by kernel_rfl) (by kernel_rfl) (by kernel_rfl) (by decide) (fun _ _ _ h => h) h01 rfl hHeld (Or.inl ⟨by rfl, ?_⟩) ?_
            · (intro W9 hSw; go_simp; (try (first | with_reducible rfl | rfl | (simp; done))))
            try simp only [Act.put, List.setIfInBounds_toArray, List.set_cons_zero, List.set_cons_succ]
            refine wpG_takeB (i := 5) (oi := ⟨some 120, _, _, _, _, _⟩) (v := .pointer (some ⟨sb, 0, none⟩)) rfl (by kernel_rfl) (by kernel_rfl) (by kernel_rfl) (by decide) (fun _ _ _ h => h) h01 rfl hHeld (Or.inl ⟨by rfl, ?_⟩) ?_
            · (intro W9 hSw; go_simp; (try (first | with_reducible rfl | rfl | (simp; done))))
            try simp only [Act.put, List.setIfInBounds_toArray, List.set_cons_zero, List.set_cons_succ]
            refine wpG_oneB (i := 6) (o := ⟨some 121, _, _, _, _, _⟩) (by kernel_rfl) rfl rfl (fun K hK => ?_)
            go_simp
            (with_reducible refine (C69.out _ HSd.out).mono ?_); rintro e w5 ⟨rfl, hs5, hb5⟩
            have HS5 := Lib.hid hs5
            have HB5 := Lib.hid hb5
            clear hs5 hb5
            refine hK.out _ _ trivial (fun hHeld => ?_)
            clear hK K
            try simp only [Act.put, List.setIfInBounds_toArray, List.set_cons_zero, List.set_cons_succ]
            refine wpG_takeB (i := 7) (oi := ⟨some 122, _, _, _, _, _⟩) (v := .bool false) rfl (by kernel_rfl) (by kernel_rfl) (by kernel_rfl) (by decide) (fun _ _ _ h => h) h01 rfl hHeld (Or.inl ⟨by rfl, ?_⟩) ?_
            · (intro W9 hSw; go_simp; (try (first | with_reducible rfl | rfl | (simp; done))))
            try simp only [Act.put, List.setIfInBounds_toArray, List.set_cons_zero, List.set_cons_succ]
            refine wpG_oneB (i := 8) (o := ⟨some 123, _, _, _, _, _⟩) (by kernel_rfl) rfl rfl (fun K hK => ?_)
            go_simp
            (with_reducible refine (C60.out _ HS5.out).mono ?_); rintro e w6 ⟨rfl, hs6, hb6⟩
            refine ⟨rfl, (HOd.out.below HB5.out).below hb6, ?_⟩
            rw [← HTX.out]
            exact ⟨rfl, hs6⟩
    | true =>
      rw [hz] at C71 hT CA
      rw [Bool.true_and] at CA
      cases hx : headP (isI 120) ((L.drop i).drop 1) with
      | false =>
        rw [hx] at CA hT
        rw [if_neg (by simp)] at hT
        have HTT : Hid (digsL 10 true (L.drop (i + 0)) 0 0 = T) := Lib.hid hT
        have HL0 : Hid (i + 0 ≤ L.length) := Lib.hid hi0
        clear h ht hn hb hi0 hlt hln hT hz hx
        generalize (⟨(L.drop i).toArray⟩ : ByteArray) = Sr at CA hsl
        go_enter Tryd.func56, Tryd.ntmps56
        go_upto_region 3 with (go_at_call 66; (with_reducible refine C67.out.mono ?_); rintro e w1 ⟨rfl, hs1, hb1⟩; have HS1 := Lib.hid hs1; have HT1 := Lib.hid (HTw.out.below hb1); have HO1 : Hid (Only (fun b => b = sb ∨ b = tb) w w1) := Lib.hid (Only.of_below hb1); clear hb1 hs1)
        have e0 := Blk.cell HT1.out 0
        have f0 := Blk.frozen HT1.out 0
        simp only [List.getElem?_toArray, List.getElem?_cons_zero] at e0
        go_upto_region 4 with fail
        have HS2 := Lib.hid (HS1.out.far hne 0 (.int .i64 ((2 : Nat) : Int)))
        have HT2 := Lib.hid (TB.kind (j := 2) HT1.out)
        have HO2 : Hid (Only (fun b => b = sb ∨ b = tb) w (w1.setCell ⟨tb, 0, none⟩ (.int .i64 ((2 : Nat) : Int)))) := Lib.hid (Only.set HO1.out (fun _ => .inr rfl) 0 _)
        obtain ⟨W2, hW2⟩ : ∃ W2, w1.setCell ⟨tb, 0, none⟩ (.int .i64 2) = W2 := ⟨_, rfl⟩
        have hW2' : w1.setCell ⟨tb, 0, none⟩ (.int .i64 ((2 : Nat) : Int)) = W2 := hW2
        rw [hW2'] at HS2 HT2 HO2
        rw [hW2]
        clear hW2 hW2' e0 f0
        go_upto_region 5 with (go_at_call 71; (with_reducible refine (C71.out _ HS2.out).mono ?_); rintro e w3 ⟨rfl, hb3⟩; have HB3 := Lib.hid hb3; clear hb3)
        obtain ⟨W3, hW3⟩ : ∃ W3, w3.alloc (.cells #[.int .i64 10] 3) = W3 := ⟨_, rfl⟩
        have hb9 : Below W2.heap.size W2 W3 := hW3 ▸ HB3.out.alloc HB3.out.size _
        have HS3 := Lib.hid (HS2.out.below hb9)
        have HT3 := Lib.hid (HT2.out.below hb9)
        have HO3 := Lib.hid (HO2.out.below hb9)
        obtain ⟨bb, hbb⟩ : ∃ bb, w3.heap.size = bb := ⟨_, rfl⟩
        have HB30 : Hid (Blk W3 bb 3 #[.int .i64 10]) := Lib.hid (hbb ▸ hW3 ▸ Blk.new w3 3 _)
        have HBG : Hid (w.heap.size ≤ bb) := Lib.hid (by have := HO2.out.size; have := HB3.out.size; omega)
        rw [hW3, hbb]
        clear hW3 hbb hb9 HB3
        have s0 := Blk.cell HS3.out 0
        have s1 := Blk.cell HS3.out 1
        simp only [List.getElem?_toArray, List.getElem?_cons_zero, List.getElem?_cons_succ] at s0 s1
        go_upto_region 6 with fail
        go_quiet (first | (go_at_call 72; refine Calls.quiet_of_same (CA.out _)))
        clear s0 s1 hsl
        have HSs := Lib.hid (HS3.out.drewN nq)
        have HTs : Hid (TB tb 2 tx 0 ln cl (W3.drewN nq)) := Lib.hid (Blk.drewN HT3.out nq)
        have HBs := Lib.hid (HB30.out.drewN nq)
        have HOs := Lib.hid (only_drewN HO3.out nq)
        obtain ⟨W4, hW4⟩ : ∃ W4, W3.drewN nq = W4 := ⟨_, rfl⟩
        rw [hW4] at HSs HTs HBs HOs
        rw [hW4]
        clear hW4
        go_wp2_with fail
        have HNE := Lib.hid (And.intro hne (And.intro (Blk.ne HBs.out HSs.out (by decide)) (Blk.ne HBs.out HTs.out (by decide))))
        have HBOX := Lib.hid (show w.heap.size ≤ bb from HBG.out)
        go_loopw [] (fun wr => ∃ (n : Nat) (v : Int), Hid (i + n ≤ L.length) ∧ 0 ≤ v ∧ v ≤ 4611686018427387904 ∧ Hid (digsL 10 true (L.drop (i + n)) v n = T) ∧ Hid (Sc L sb (i + n) wr) ∧ Hid (TB tb 2 tx v ln cl wr) ∧ Hid (Blk wr bb 3 #[.int .i64 10]) ∧ Hid (Only (fun b => b = sb ∨ b = tb) w wr)) (fun wr => L.length - atOf sb wr)
        case atStart => exact ⟨0, 0, HL0.out, by omega, by omega, HTT.out, HSs.out, HTs.out, HBs.out, HOs.out⟩
        case round =>
          obtain ⟨n, v, HLE, hv0, hv1, HT0, HS, HT, HB, HO⟩ := hrel
          have C76 := Lib.hid (next_cap 76 (digB 10) (.pointer (some ⟨bb, 0, none⟩)) L sb (i + n) wr (pc76 10 bb wr HB.out) HS.out HN.out)
          cases hb : headP (digB 10) (L.drop (i + n)) with
          | true =>
            rw [hb] at C76
            have hlt : i + n < L.length := headP_drop hb
            obtain ⟨d0, d1, hT⟩ := digs_true (al := true) (v := v) (n := n) hlt hb
            have hT0 := HT0.out
            rw [hT] at hT0
            have hidx := run_idx L (i + n) hlt
            have C75 := Lib.hid (fun (W : World) => hex_any ((L[i + n]).toNat : Int) W (u8r _).1 (u8r _).2)
            generalize hexI ((L[i + n]).toNat : Int) = d at *
            generalize ((L[i + n]).toNat : Int) = x at *
            have s0 := Blk.cell HS.out 0
            have s1 := Blk.cell HS.out 1
            simp only [List.getElem?_toArray, List.getElem?_cons_zero, List.getElem?_cons_succ] at s0 s1
            have HS1 := Lib.hid (fun m => HS.out.drewN m)
            have HT1 : Hid (∀ m, TB tb 2 tx v ln cl (wr.drewN m)) := Lib.hid (fun m => Blk.drewN HT.out m)
            have HB1 := Lib.hid (fun m => HB.out.drewN m)
            have HO1 := Lib.hid (fun m => only_drewN HO.out m)
            have HTX := Lib.hid hT0
            have HLT := Lib.hid hlt
            obtain ⟨J, hJ⟩ : ∃ J : Int, (((i + n : Nat)) : Int) = J := ⟨_, rfl⟩
            rw [hJ] at hidx s1
            have HJ := Lib.hid hJ
            have HD0 := Lib.hid (And.intro d0 d1)
            have HV := Lib.hid (And.intro hv0 hv1)
            generalize hSt : (⟨L.toArray⟩ : ByteArray) = St at hidx s0
            clear hb hT hT0 hlt hJ d0 d1 hv0 hv1 hSt
            go_upto_region 12 with (go_at_call 66; (with_reducible refine C76.out.mono ?_); rintro e w1 ⟨rfl, m, rfl⟩)
            obtain ⟨W0, hW0⟩ : ∃ W0, wr.drewN m = W0 := ⟨_, rfl⟩
            have s0' : W0.cell? ⟨sb, 0, none⟩ = some (.string St) := by rw [← hW0]; exact s0
            have s1' : W0.cell? ⟨sb, 1, none⟩ = some (.int .i64 J) := by rw [← hW0]; exact s1
            replace HS1 := Lib.hid (fun (k : Nat) => (hW0 ▸ HS1.out m : Sc L sb (i + n) W0).drewN k)
            replace HT1 : Hid (∀ k, TB tb 2 tx v ln cl (W0.drewN k)) := Lib.hid (fun k => Blk.drewN (hW0 ▸ HT1.out m : TB tb 2 tx v ln cl W0) k)
            replace HB1 := Lib.hid (fun (k : Nat) => (hW0 ▸ HB1.out m : Blk W0 bb 3 #[.int .i64 10]).drewN k)
            replace HO1 := Lib.hid (fun (k : Nat) => only_drewN (hW0 ▸ HO1.out m : Only (fun b => b = sb ∨ b = tb) w W0) k)
            rw [hW0]
            clear hW0 s0 s1
            go_quiet (first | (go_at_call 75; refine Calls.quiet_of_same (C75.out _)))
            go_upto_region 13 with fail
            clear hidx s0' s1'
            obtain ⟨W1, hW1⟩ : ∃ W1, W0.drewN nq = W1 := ⟨_, rfl⟩
            have HSa := Lib.hid (show Sc L sb (i + n) W1 from hW1 ▸ HS1.out nq)
            have HTa := Lib.hid (show TB tb 2 tx v ln cl W1 from hW1 ▸ HT1.out nq)
            have HBa := Lib.hid (show Blk W1 bb 3 #[.int .i64 10] from hW1 ▸ HB1.out nq)
            have HOa := Lib.hid (show Only (fun b => b = sb ∨ b = tb) w W1 from hW1 ▸ HO1.out nq)
            have HSd := Lib.hid HSa.out.drew
            have HTd := Lib.hid (show TB tb 2 tx v ln cl W1.drew from Blk.drew1 HTa.out)
            have HBd := Lib.hid HBa.out.drew1
            have HOd := Lib.hid (only_drew HOa.out)
            have HNd := Lib.hid (show NumS sb tb bb J v 10 W1.drew from by have := nums_of HSd.out HTd.out HBd.out; rw [HJ.out] at this; exact this)
            rw [hW1]
            clear hW1
            have C60y := Lib.hid (fun (W : World) => need_yes sb W)
            have C60n := Lib.hid (fun (W : World) (hs : Sc L sb (i + n) W) => need_sn L sb (i + n) W hs HLE.out HN.out)
            obtain ⟨qq, hqq⟩ : ∃ qq : Int, (4611686018427387904 - d) / 10 = qq := ⟨_, rfl⟩
            have HQ : Hid (Int.tdiv (4611686018427387904 - d) 10 = qq) := Lib.hid (by have := HD0.out; rw [Int.tdiv_eq_ediv_of_nonneg (by omega)]; exact hqq)
            have HQQ := Lib.hid hqq
            have HWD : Hid (IntKind.i64.wrap (4611686018427387904 - d) = 4611686018427387904 - d) := Lib.hid (by rw [IntKind.wrap_i64]; have := HD0.out; omega)
            have HWQ : Hid (IntKind.i64.wrap qq = qq) := Lib.hid (by rw [IntKind.wrap_i64]; have := HD0.out; omega)
            by_cases hn0 : n = 0
            · by_cases hvq : v ≤ qq
              ·
                have q8 : (J == (i : Int)) = true := by have := HJ.out; simp; omega
                have q9 : decide (v ≤ qq) = true := decide_eq_true hvq
                have hvb : 10 * v + d ≤ 4611686018427387904 := by have := HQQ.out; have := HD0.out; omega
                have HW1 : Hid (IntKind.i64.wrap (10 * v) = 10 * v) := Lib.hid (by rw [IntKind.wrap_i64]; have := HV.out; have := HD0.out; omega)
                have HW2 : Hid (IntKind.i64.wrap (10 * v + d) = 10 * v + d) := Lib.hid (by rw [IntKind.wrap_i64]; have := HV.out; have := HD0.out; omega)
                have HVB := Lib.hid (show 0 ≤ 10 * v + d ∧ 10 * v + d ≤ 4611686018427387904 by have := HV.out; have := HD0.out; omega)
                have HVQ := Lib.hid hvq
                clear hvq hvb hqq
                refine wp_region_G (S0 := (NumS sb tb bb J v 10)) (S1 := (NumS sb tb bb J v 10)) (c := 99) (by kernel_rfl) ?_
                have hHeld := HNd.out
                have h01 := (fun (W : World) (h : (NumS sb tb bb J v 10) W) => h)
                refine wpG_takeB (i := 0) (oi := ⟨some 74, _, _, _, _, _⟩) (v := .pointer (some ⟨sb, 0, none⟩)) rfl (by kernel_rfl) (by kernel_rfl) (by kernel_rfl) (by decide) (fun _ _ _ h => h) h01 rfl hHeld (Or.inl ⟨by rfl, ?_⟩) ?_
                · (intro W9 hSw; obtain ⟨v1, v2, v3⟩ := hSw; have hq := HQ.out; have hd0 := HD0.out; go_simp; (try (first | with_reducible rfl | rfl | (rw [HWD.out]; done) | (rw [HQ.out]; done) | (rw [HWQ.out]; done) | (rw [HQ.out, HWQ.out]; done) | (simp; done))))
                try simp only [Act.put, List.setIfInBounds_toArray, List.set_cons_zero, List.set_cons_succ]
                refine wpG_takeB (i := 1) (oi := ⟨some 75, _, _, _, _, _⟩) (v := .pointer (some ⟨sb, 0, none⟩)) rfl (by kernel_rfl) (by kernel_rfl) (by kernel_rfl) (by decide) (fun _ _ _ h => h) h01 rfl hHeld (Or.inl ⟨by rfl, ?_⟩) ?_
                · (intro W9 hSw; obtain ⟨v1, v2, v3⟩ := hSw; have hq := HQ.out; have hd0 := HD0.out; go_simp; (try (first | with_reducible rfl | rfl | (rw [HWD.out]; done) | (rw [HQ.out]; done) | (rw [HWQ.out]; done) | (rw [HQ.out, HWQ.out]; done) | (simp; done))))
                try simp only [Act.put, List.setIfInBounds_toArray, List.set_cons_zero, List.set_cons_succ]
                refine wpG_takeB (i := 2) (oi := ⟨some 76, _, _, _, _, _⟩) (v := .pointer (some ⟨sb, 0, none⟩)) rfl (by kernel_rfl) (by kernel_rfl) (by kernel_rfl) (by decide) (fun _ _ _ h => h) h01 rfl hHeld (Or.inl ⟨by rfl, ?_⟩) ?_
                · (intro W9 hSw; obtain ⟨v1, v2, v3⟩ := hSw; have hq := HQ.out; have hd0 := HD0.out; go_simp; (try (first | with_reducible rfl | rfl | (rw [HWD.out]; done) | (rw [HQ.out]; done) | (rw [HWQ.out]; done) | (rw [HQ.out, HWQ.out]; done) | (simp; done))))
                try simp only [Act.put, List.setIfInBounds_toArray, List.set_cons_zero, List.set_cons_succ]
                refine wpG_takeB (i := 3) (oi := ⟨some 77, _, _, _, _, _⟩) (v := .bool true) rfl (by kernel_rfl) (by kernel_rfl) (by kernel_rfl) (by decide) (fun _ _ _ h => h) h01 rfl hHeld (Or.inl ⟨by rfl, ?_⟩) ?_
                · (intro W9 hSw; obtain ⟨v1, v2, v3⟩ := hSw; have hq := HQ.out; have hd0 := HD0.out; go_simp; (try (first | with_reducible rfl | rfl | (rw [HWD.out]; done) | (rw [HQ.out]; done) | (rw [HWQ.out]; done) | (rw [HQ.out, HWQ.out]; done) | (simp; done))))
                try simp only [Act.put, List.setIfInBounds_toArray, List.set_cons_zero, List.set_cons_succ]
                refine wpG_takeB (i := 4) (oi := ⟨some 78, _, _, _, _, _⟩) (v := .bool false) rfl (by kernel_rfl) (by kernel_rfl) (by kernel_rfl) (by decide) (fun _ _ _ h => h) h01 rfl hHeld (Or.inl ⟨by rfl, ?_⟩) ?_
                · (intro W9 hSw; obtain ⟨v1, v2, v3⟩ := hSw; have hq := HQ.out; have hd0 := HD0.out; go_simp; (try (first | with_reducible rfl | rfl | (rw [HWD.out]; done) | (rw [HQ.out]; done) | (rw [HWQ.out]; done) | (rw [HQ.out, HWQ.out]; done) | (simp; done))))
                try simp only [Act.put, List.setIfInBounds_toArray, List.set_cons_zero, List.set_cons_succ]
                refine wpG_takeB (i := 5) (oi := ⟨some 79, _, _, _, _, _⟩) (v := .bool false) rfl (by kernel_rfl) (by kernel_rfl) (by kernel_rfl) (by decide) (fun _ _ _ h => h) h01 rfl hHeld (Or.inl ⟨by rfl, ?_⟩) ?_
                · (intro W9 hSw; obtain ⟨v1, v2, v3⟩ := hSw; have hq := HQ.out; have hd0 := HD0.out; go_simp; (try (first | with_reducible rfl | rfl | (rw [HWD.out]; done) | (rw [HQ.out]; done) | (rw [HWQ.out]; done) | (rw [HQ.out, HWQ.out]; done) | (simp; done))))
                try simp only [Act.put, List.setIfInBounds_toArray, List.set_cons_zero, List.set_cons_succ]
                refine wpG_takeB (i := 6) (oi := ⟨some 80, _, _, _, _, _⟩) (v := .pointer (some ⟨sb, 0, none⟩)) rfl (by kernel_rfl) (by kernel_rfl) (by kernel_rfl) (by decide) (fun _ _ _ h => h) h01 rfl hHeld (Or.inl ⟨by rfl, ?_⟩) ?_
                · (intro W9 hSw; obtain ⟨v1, v2, v3⟩ := hSw; have hq := HQ.out; have hd0 := HD0.out; go_simp; (try (first | with_reducible rfl | rfl | (rw [HWD.out]; done) | (rw [HQ.out]; done) | (rw [HWQ.out]; done) | (rw [HQ.out, HWQ.out]; done) | (simp; done))))
                try simp only [Act.put, List.setIfInBounds_toArray, List.set_cons_zero, List.set_cons_succ]
                refine wpG_takeB (i := 7) (oi := ⟨some 81, _, _, _, _, _⟩) (v := .pointer (some ⟨sb, 0, none⟩)) rfl (by kernel_rfl) (by kernel_rfl) (by kernel_rfl) (by decide) (fun _ _ _ h => h) h01 rfl hHeld (Or.inl ⟨by rfl, ?_⟩) ?_
                · (intro W9 hSw; obtain ⟨v1, v2, v3⟩ := hSw; have hq := HQ.out; have hd0 := HD0.out; go_simp; (try (first | with_reducible rfl | rfl | (rw [HWD.out]; done) | (rw [HQ.out]; done) | (rw [HWQ.out]; done) | (rw [HQ.out, HWQ.out]; done) | (simp; done))))
                try simp only [Act.put, List.setIfInBounds_toArray, List.set_cons_zero, List.set_cons_succ]
                refine wpG_takeB (i := 8) (oi := ⟨some 82, _, _, _, _, _⟩) (v := .pointer (some ⟨sb, 0, none⟩)) rfl (by kernel_rfl) (by kernel_rfl) (by kernel_rfl) (by decide) (fun _ _ _ h => h) h01 rfl hHeld (Or.inl ⟨by rfl, ?_⟩) ?_
                · (intro W9 hSw; obtain ⟨v1, v2, v3⟩ := hSw; have hq := HQ.out; have hd0 := HD0.out; go_simp; (try (first | with_reducible rfl | rfl | (rw [HWD.out]; done) | (rw [HQ.out]; done) | (rw [HWQ.out]; done) | (rw [HQ.out, HWQ.out]; done) | (simp; done))))
                try simp only [Act.put, List.setIfInBounds_toArray, List.set_cons_zero, List.set_cons_succ]
                refine wpG_takeB (i := 9) (oi := ⟨some 83, _, _, _, _, _⟩) (v := .pointer (some ⟨sb, 1, none⟩)) rfl (by kernel_rfl) (by kernel_rfl) (by kernel_rfl) (by decide) (fun _ _ _ h => h) h01 rfl hHeld (Or.inl ⟨by rfl, ?_⟩) ?_
                · (intro W9 hSw; obtain ⟨v1, v2, v3⟩ := hSw; have hq := HQ.out; have hd0 := HD0.out; go_simp; (try (first | with_reducible rfl | rfl | (rw [HWD.out]; done) | (rw [HQ.out]; done) | (rw [HWQ.out]; done) | (rw [HQ.out, HWQ.out]; done) | (simp; done))))
                try simp only [Act.put, List.setIfInBounds_toArray, List.set_cons_zero, List.set_cons_succ]
                refine wpG_takeB (i := 10) (oi := ⟨some 84, _, _, _, _, _⟩) (v := .int .i64 J) rfl (by kernel_rfl) (by kernel_rfl) (by kernel_rfl) (by decide) (fun _ _ _ h => h) h01 rfl hHeld (Or.inl ⟨by rfl, ?_⟩) ?_
                · (intro W9 hSw; obtain ⟨v1, v2, v3⟩ := hSw; have hq := HQ.out; have hd0 := HD0.out; go_simp; (try (first | with_reducible rfl | rfl | (rw [HWD.out]; done) | (rw [HQ.out]; done) | (rw [HWQ.out]; done) | (rw [HQ.out, HWQ.out]; done) | (simp; done))))
                try simp only [Act.put, List.setIfInBounds_toArray, List.set_cons_zero, List.set_cons_succ]
                refine wpG_takeB (i := 11) (oi := ⟨some 85, _, _, _, _, _⟩) (v := .int .i64 (i : Int)) rfl (by kernel_rfl) (by kernel_rfl) (by kernel_rfl) (by decide) (fun _ _ _ h => h) h01 rfl hHeld (Or.inl ⟨by rfl, ?_⟩) ?_
                · (intro W9 hSw; obtain ⟨v1, v2, v3⟩ := hSw; have hq := HQ.out; have hd0 := HD0.out; go_simp; (try (first | with_reducible rfl | rfl | (rw [HWD.out]; done) | (rw [HQ.out]; done) | (rw [HWQ.out]; done) | (rw [HQ.out, HWQ.out]; done) | (simp; done))))
                try simp only [Act.put, List.setIfInBounds_toArray, List.set_cons_zero, List.set_cons_succ]
                refine wpG_takeB (i := 12) (oi := ⟨some 86, _, _, _, _, _⟩) (v := .bool true) rfl (by kernel_rfl) (by kernel_rfl) (by kernel_rfl) (by decide) (fun _ _ _ h => h) h01 rfl hHeld (Or.inl ⟨by rfl, ?_⟩) ?_
                · (intro W9 hSw; obtain ⟨v1, v2, v3⟩ := hSw; have hq := HQ.out; have hd0 := HD0.out; go_simp; (try (first | with_reducible rfl | rfl | (rw [HWD.out]; done) | (rw [HQ.out]; done) | (rw [HWQ.out]; done) | (rw [HQ.out, HWQ.out]; done) | (simp; done))))
                try simp only [Act.put, List.setIfInBounds_toArray, List.set_cons_zero, List.set_cons_succ]
                refine wpG_takeB (i := 13) (oi := ⟨some 87, _, _, _, _, _⟩) (v := .bool true) rfl (by kernel_rfl) (by kernel_rfl) (by kernel_rfl) (by decide) (fun _ _ _ h => h) h01 rfl hHeld (Or.inl ⟨by rfl, ?_⟩) ?_
                · (intro W9 hSw; obtain ⟨v1, v2, v3⟩ := hSw; have hq := HQ.out; have hd0 := HD0.out; go_simp; (try (first | with_reducible rfl | rfl | (rw [HWD.out]; done) | (rw [HQ.out]; done) | (rw [HWQ.out]; done) | (rw [HQ.out, HWQ.out]; done) | (simp; done))))
                try simp only [Act.put, List.setIfInBounds_toArray, List.set_cons_zero, List.set_cons_succ]
                refine wpG_takeB (i := 14) (oi := ⟨some 88, _, _, _, _, _⟩) (v := .bool true) rfl (by kernel_rfl) (by kernel_rfl) (by kernel_rfl) (by decide) (fun _ _ _ h => h) h01 rfl hHeld (Or.inl ⟨by rfl, ?_⟩) ?_
                · (intro W9 hSw; obtain ⟨v1, v2, v3⟩ := hSw; have hq := HQ.out; have hd0 := HD0.out; go_simp; (try (first | with_reducible rfl | rfl | (rw [HWD.out]; done) | (rw [HQ.out]; done) | (rw [HWQ.out]; done) | (rw [HQ.out, HWQ.out]; done) | (simp; done))))
                try simp only [Act.put, List.setIfInBounds_toArray, List.set_cons_zero, List.set_cons_succ]
                refine wpG_takeB (i := 15) (oi := ⟨some 89, _, _, _, _, _⟩) (v := .pointer (some ⟨tb, 0, none⟩)) rfl (by kernel_rfl) (by kernel_rfl) (by kernel_rfl) (by decide) (fun _ _ _ h => h) h01 rfl hHeld (Or.inl ⟨by rfl, ?_⟩) ?_
                · (intro W9 hSw; obtain ⟨v1, v2, v3⟩ := hSw; have hq := HQ.out; have hd0 := HD0.out; go_simp; (try (first | with_reducible rfl | rfl | (rw [HWD.out]; done) | (rw [HQ.out]; done) | (rw [HWQ.out]; done) | (rw [HQ.out, HWQ.out]; done) | (simp; done))))
                try simp only [Act.put, List.setIfInBounds_toArray, List.set_cons_zero, List.set_cons_succ]
                refine wpG_takeB (i := 16) (oi := ⟨some 90, _, _, _, _, _⟩) (v := .pointer (some ⟨tb, 0, none⟩)) rfl (by kernel_rfl) (by kernel_rfl) (by kernel_rfl) (by decide) (fun _ _ _ h => h) h01 rfl hHeld (Or.inl ⟨by rfl, ?_⟩) ?_
                · (intro W9 hSw; obtain ⟨v1, v2, v3⟩ := hSw; have hq := HQ.out; have hd0 := HD0.out; go_simp; (try (first | with_reducible rfl | rfl | (rw [HWD.out]; done) | (rw [HQ.out]; done) | (rw [HWQ.out]; done) | (rw [HQ.out, HWQ.out]; done) | (simp; done))))
                try simp only [Act.put, List.setIfInBounds_toArray, List.set_cons_zero, List.set_cons_succ]
                refine wpG_takeB (i := 17) (oi := ⟨some 91, _, _, _, _, _⟩) (v := .pointer (some ⟨tb, 2, none⟩)) rfl (by kernel_rfl) (by kernel_rfl) (by kernel_rfl) (by decide) (fun _ _ _ h => h) h01 rfl hHeld (Or.inl ⟨by rfl, ?_⟩) ?_
                · (intro W9 hSw; obtain ⟨v1, v2, v3⟩ := hSw; have hq := HQ.out; have hd0 := HD0.out; go_simp; (try (first | with_reducible rfl | rfl | (rw [HWD.out]; done) | (rw [HQ.out]; done) | (rw [HWQ.out]; done) | (rw [HQ.out, HWQ.out]; done) | (simp; done))))
                try simp only [Act.put, List.setIfInBounds_toArray, List.set_cons_zero, List.set_cons_succ]
                refine wpG_takeB (i := 18) (oi := ⟨some 92, _, _, _, _, _⟩) (v := .int .i64 v) rfl (by kernel_rfl) (by kernel_rfl) (by kernel_rfl) (by decide) (fun _ _ _ h => h) h01 rfl hHeld (Or.inl ⟨by rfl, ?_⟩) ?_
                · (intro W9 hSw; obtain ⟨v1, v2, v3⟩ := hSw; have hq := HQ.out; have hd0 := HD0.out; go_simp; (try (first | with_reducible rfl | rfl | (rw [HWD.out]; done) | (rw [HQ.out]; done) | (rw [HWQ.out]; done) | (rw [HQ.out, HWQ.out]; done) | (simp; done))))
                try simp only [Act.put, List.setIfInBounds_toArray, List.set_cons_zero, List.set_cons_succ]
                refine wpG_takeB (i := 19) (oi := ⟨some 93, _, _, _, _, _⟩) (v := .int .i64 d) rfl (by kernel_rfl) (by kernel_rfl) (by kernel_rfl) (by decide) (fun _ _ _ h => h) h01 rfl hHeld (Or.inl ⟨by rfl, ?_⟩) ?_
                · (intro W9 hSw; obtain ⟨v1, v2, v3⟩ := hSw; have hq := HQ.out; have hd0 := HD0.out; go_simp; (try (first | with_reducible rfl | rfl | (rw [HWD.out]; done) | (rw [HQ.out]; done) | (rw [HWQ.out]; done) | (rw [HQ.out, HWQ.out]; done) | (simp; done))))
                try simp only [Act.put, List.setIfInBounds_toArray, List.set_cons_zero, List.set_cons_succ]
                refine wpG_takeB (i := 20) (oi := ⟨some 94, _, _, _, _, _⟩) (v := .int .i64 (4611686018427387904 - d)) rfl (by kernel_rfl) (by kernel_rfl) (by kernel_rfl) (by decide) (fun _ _ _ h => h) h01 rfl hHeld (Or.inl ⟨by rfl, ?_⟩) ?_
                · (intro W9 hSw; obtain ⟨v1, v2, v3⟩ := hSw; have hq := HQ.out; have hd0 := HD0.out; go_simp; (try (first | with_reducible rfl | rfl | (rw [HWD.out]; done) | (rw [HQ.out]; done) | (rw [HWQ.out]; done) | (rw [HQ.out, HWQ.out]; done) | (simp; done))))
                try simp only [Act.put, List.setIfInBounds_toArray, List.set_cons_zero, List.set_cons_succ]
                refine wpG_takeB (i := 21) (oi := ⟨some 95, _, _, _, _, _⟩) (v := .int .i64 10) rfl (by kernel_rfl) (by kernel_rfl) (by kernel_rfl) (by decide) (fun _ _ _ h => h) h01 rfl hHeld (Or.inl ⟨by rfl, ?_⟩) ?_
                · (intro W9 hSw; obtain ⟨v1, v2, v3⟩ := hSw; have hq := HQ.out; have hd0 := HD0.out; go_simp; (try (first | with_reducible rfl | rfl | (rw [HWD.out]; done) | (rw [HQ.out]; done) | (rw [HWQ.out]; done) | (rw [HQ.out, HWQ.out]; done) | (simp; done))))
                try simp only [Act.put, List.setIfInBounds_toArray, List.set_cons_zero, List.set_cons_succ]
                refine wpG_takeB (i := 22) (oi := ⟨some 96, _, _, _, _, _⟩) (v := .int .i64 qq) rfl (by kernel_rfl) (by kernel_rfl) (by kernel_rfl) (by decide) (fun _ _ _ h => h) h01 rfl hHeld (Or.inl ⟨by rfl, ?_⟩) ?_
                · (intro W9 hSw; obtain ⟨v1, v2, v3⟩ := hSw; have hq := HQ.out; have hd0 := HD0.out; go_simp; (try (first | with_reducible rfl | rfl | (rw [HWD.out]; done) | (rw [HQ.out]; done) | (rw [HWQ.out]; done) | (rw [HQ.out, HWQ.out]; done) | (simp; done))))
                try simp only [Act.put, List.setIfInBounds_toArray, List.set_cons_zero, List.set_cons_succ]
                refine wpG_takeB (i := 23) (oi := ⟨some 97, _, _, _, _, _⟩) (v := .bool true) rfl (by kernel_rfl) (by kernel_rfl) (by kernel_rfl) (by decide) (fun _ _ _ h => h) h01 rfl hHeld (Or.inl ⟨by rfl, ?_⟩) ?_
                · (intro W9 hSw; obtain ⟨v1, v2, v3⟩ := hSw; have hq := HQ.out; have hd0 := HD0.out; go_simp; (try (first | with_reducible rfl | rfl | (rw [HWD.out]; done) | (rw [HQ.out]; done) | (rw [HWQ.out]; done) | (rw [HQ.out, HWQ.out]; done) | (simp; done))))
                try simp only [Act.put, List.setIfInBounds_toArray, List.set_cons_zero, List.set_cons_succ]
                refine wpG_takeB (i := 24) (oi := ⟨some 98, _, _, _, _, _⟩) (v := .bool true) rfl (by kernel_rfl) (by kernel_rfl) (by kernel_rfl) (by decide) (fun _ _ _ h => h) h01 rfl hHeld (Or.inl ⟨by rfl, ?_⟩) ?_
                · (intro W9 hSw; obtain ⟨v1, v2, v3⟩ := hSw; have hq := HQ.out; have hd0 := HD0.out; go_simp; (try (first | with_reducible rfl | rfl | (rw [HWD.out]; done) | (rw [HQ.out]; done) | (rw [HWQ.out]; done) | (rw [HQ.out, HWQ.out]; done) | (simp; done))))
                try simp only [Act.put, List.setIfInBounds_toArray, List.set_cons_zero, List.set_cons_succ]
                refine wpG_oneB (i := 25) (o := ⟨some 99, _, _, _, _, _⟩) (by kernel_rfl) rfl rfl (fun K hK => ?_)
                go_simp
                (with_reducible refine (C60y.out _).mono ?_); rintro e w6 ⟨rfl, rfl⟩
                refine hK.out _ _ hHeld (fun hHeld => ?_)
                clear hK K
                try simp only [Act.put, List.setIfInBounds_toArray, List.set_cons_zero, List.set_cons_succ]
                refine wpG_done (by kernel_rfl) ?_ _
                clear hHeld h01
                go_upto_region 14 with fail
                refine wp_region_G (S0 := (NumS sb tb bb J v 10)) (S1 := (fun _ : World => True)) (c := 11) (by kernel_rfl) ?_
                have hHeld := HNd.out
                have h01 := (fun (W : World) (h : (NumS sb tb bb J v 10) W) => trivial)
                refine wpG_take0 (i := 0) (oi := ⟨some 100, _, _, _, _, _⟩) (v := .pointer (some ⟨tb, 0, none⟩)) rfl (by kernel_rfl) (by kernel_rfl) (by kernel_rfl) (by decide) (by kernel_rfl) (fun _ _ _ h => h) rfl hHeld (Or.inl ⟨by rfl, ?_⟩) ?_
                · (intro W9 hSw; obtain ⟨v1, v2, v3⟩ := hSw; go_simp; (try (first | with_reducible rfl | rfl | (rw [HW1.out]; done) | (rw [HW2.out]; done) | (simp; done))))
                try simp only [Act.put, List.setIfInBounds_toArray, List.set_cons_zero, List.set_cons_succ]
                refine wpG_take0 (i := 1) (oi := ⟨some 101, _, _, _, _, _⟩) (v := .int .i64 10) rfl (by kernel_rfl) (by kernel_rfl) (by kernel_rfl) (by decide) (by kernel_rfl) (fun _ _ _ h => h) rfl hHeld (Or.inl ⟨by rfl, ?_⟩) ?_
                · (intro W9 hSw; obtain ⟨v1, v2, v3⟩ := hSw; go_simp; (try (first | with_reducible rfl | rfl | (rw [HW1.out]; done) | (rw [HW2.out]; done) | (simp; done))))
                try simp only [Act.put, List.setIfInBounds_toArray, List.set_cons_zero, List.set_cons_succ]
                refine wpG_take0 (i := 2) (oi := ⟨some 102, _, _, _, _, _⟩) (v := .pointer (some ⟨tb, 0, none⟩)) rfl (by kernel_rfl) (by kernel_rfl) (by kernel_rfl) (by decide) (by kernel_rfl) (fun _ _ _ h => h) rfl hHeld (Or.inl ⟨by rfl, ?_⟩) ?_
                · (intro W9 hSw; obtain ⟨v1, v2, v3⟩ := hSw; go_simp; (try (first | with_reducible rfl | rfl | (rw [HW1.out]; done) | (rw [HW2.out]; done) | (simp; done))))
                try simp only [Act.put, List.setIfInBounds_toArray, List.set_cons_zero, List.set_cons_succ]
                refine wpG_take0 (i := 3) (oi := ⟨some 103, _, _, _, _, _⟩) (v := .pointer (some ⟨tb, 0, none⟩)) rfl (by kernel_rfl) (by kernel_rfl) (by kernel_rfl) (by decide) (by kernel_rfl) (fun _ _ _ h => h) rfl hHeld (Or.inl ⟨by rfl, ?_⟩) ?_
                · (intro W9 hSw; obtain ⟨v1, v2, v3⟩ := hSw; go_simp; (try (first | with_reducible rfl | rfl | (rw [HW1.out]; done) | (rw [HW2.out]; done) | (simp; done))))
                try simp only [Act.put, List.setIfInBounds_toArray, List.set_cons_zero, List.set_cons_succ]
                refine wpG_take0 (i := 4) (oi := ⟨some 104, _, _, _, _, _⟩) (v := .pointer (some ⟨tb, 2, none⟩)) rfl (by kernel_rfl) (by kernel_rfl) (by kernel_rfl) (by decide) (by kernel_rfl) (fun _ _ _ h => h) rfl hHeld (Or.inl ⟨by rfl, ?_⟩) ?_
                · (intro W9 hSw; obtain ⟨v1, v2, v3⟩ := hSw; go_simp; (try (first | with_reducible rfl | rfl | (rw [HW1.out]; done) | (rw [HW2.out]; done) | (simp; done))))
                try simp only [Act.put, List.setIfInBounds_toArray, List.set_cons_zero, List.set_cons_succ]
                refine wpG_take0 (i := 5) (oi := ⟨some 105, _, _, _, _, _⟩) (v := .int .i64 v) rfl (by kernel_rfl) (by kernel_rfl) (by kernel_rfl) (by decide) (by kernel_rfl) (fun _ _ _ h => h) rfl hHeld (Or.inl ⟨by rfl, ?_⟩) ?_
                · (intro W9 hSw; obtain ⟨v1, v2, v3⟩ := hSw; go_simp; (try (first | with_reducible rfl | rfl | (rw [HW1.out]; done) | (rw [HW2.out]; done) | (simp; done))))
                try simp only [Act.put, List.setIfInBounds_toArray, List.set_cons_zero, List.set_cons_succ]
                refine wpG_take0 (i := 6) (oi := ⟨some 106, _, _, _, _, _⟩) (v := .int .i64 (10 * v)) rfl (by kernel_rfl) (by kernel_rfl) (by kernel_rfl) (by decide) (by kernel_rfl) (fun _ _ _ h => h) rfl hHeld (Or.inl ⟨by rfl, ?_⟩) ?_
                · (intro W9 hSw; obtain ⟨v1, v2, v3⟩ := hSw; go_simp; (try (first | with_reducible rfl | rfl | (rw [HW1.out]; done) | (rw [HW2.out]; done) | (simp; done))))
                try simp only [Act.put, List.setIfInBounds_toArray, List.set_cons_zero, List.set_cons_succ]
                refine wpG_take0 (i := 7) (oi := ⟨some 107, _, _, _, _, _⟩) (v := .int .i64 d) rfl (by kernel_rfl) (by kernel_rfl) (by kernel_rfl) (by decide) (by kernel_rfl) (fun _ _ _ h => h) rfl hHeld (Or.inl ⟨by rfl, ?_⟩) ?_
                · (intro W9 hSw; obtain ⟨v1, v2, v3⟩ := hSw; go_simp; (try (first | with_reducible rfl | rfl | (rw [HW1.out]; done) | (rw [HW2.out]; done) | (simp; done))))
                try simp only [Act.put, List.setIfInBounds_toArray, List.set_cons_zero, List.set_cons_succ]
                refine wpG_take0 (i := 8) (oi := ⟨some 108, _, _, _, _, _⟩) (v := .int .i64 (10 * v + d)) rfl (by kernel_rfl) (by kernel_rfl) (by kernel_rfl) (by decide) (by kernel_rfl) (fun _ _ _ h => h) rfl hHeld (Or.inl ⟨by rfl, ?_⟩) ?_
                · (intro W9 hSw; obtain ⟨v1, v2, v3⟩ := hSw; go_simp; (try (first | with_reducible rfl | rfl | (rw [HW1.out]; done) | (rw [HW2.out]; done) | (simp; done))))
                try simp only [Act.put, List.setIfInBounds_toArray, List.set_cons_zero, List.set_cons_succ]
                refine wpG_takeA (i := 9) (oi := ⟨some 109, _, _, _, _, _⟩) (v := .pointer (some ⟨tb, 0, none⟩)) rfl (by kernel_rfl) (by kernel_rfl) (by kernel_rfl) (by decide) (fun _ _ _ h => h) h01 rfl hHeld (Or.inl ⟨by rfl, ?_⟩) ?_
                · (intro W9 hSw; go_simp; (try (first | with_reducible rfl | rfl | (rw [HW1.out]; done) | (rw [HW2.out]; done) | (simp; done))))
                try simp only [Act.put, List.setIfInBounds_toArray, List.set_cons_zero, List.set_cons_succ]
                refine wpG_takeA (i := 10) (oi := ⟨some 110, _, _, _, _, _⟩) (v := .pointer (some ⟨tb, 2, none⟩)) rfl (by kernel_rfl) (by kernel_rfl) (by kernel_rfl) (by decide) (fun _ _ _ h => h) h01 rfl hHeld (Or.inl ⟨by rfl, ?_⟩) ?_
                · (intro W9 hSw; go_simp; (try (first | with_reducible rfl | rfl | (rw [HW1.out]; done) | (rw [HW2.out]; done) | (simp; done))))
                try simp only [Act.put, List.setIfInBounds_toArray, List.set_cons_zero, List.set_cons_succ]
                refine wpG_oneB (i := 11) (o := ⟨none, _, _, _, _, _⟩) (by kernel_rfl) rfl rfl (fun K hK => ?_)
                have kq := Blk.cell HTd.out 2
                simp only [List.getElem?_toArray, List.getElem?_cons_zero, List.getElem?_cons_succ] at kq
                have kz := Blk.frozen HTd.out 2
                go_simp
                clear kq kz
                refine hK.out _ _ trivial (fun hHeld => ?_)
                clear hK K
                try simp only [Act.put, List.setIfInBounds_toArray, List.set_cons_zero, List.set_cons_succ]
                refine wpG_done (by kernel_rfl) ?_ _
                clear hHeld h01
                have HSe := Lib.hid (show Sc L sb (i + n) (W1.setCell ⟨tb, 2, none⟩ (.int .i64 (10 * v + d))).drew.drew from (HSa.out.far HNE.out.1 2 _).drew.drew)
                have HTe := Lib.hid (show TB tb 2 tx (10 * v + d) ln cl (W1.setCell ⟨tb, 2, none⟩ (.int .i64 (10 * v + d))).drew.drew from Blk.drew1 (Blk.drew1 (TB.val HTa.out (10 * v + d))))
                have HBe := Lib.hid (show Blk (W1.setCell ⟨tb, 2, none⟩ (.int .i64 (10 * v + d))).drew.drew bb 3 #[.int .i64 10] from (HBa.out.far HNE.out.2.2 _).drew1.drew1)
                have HOe := Lib.hid (show Only (fun b => b = sb ∨ b = tb) w (W1.setCell ⟨tb, 2, none⟩ (.int .i64 (10 * v + d))).drew.drew from only_drew (only_drew (Only.set HOa.out (fun _ => .inr rfl) 2 _)))
                have C73 := Lib.hid (fun (W : World) (hs : Sc L sb (i + n) W) => pass_any L sb (i + n) W hs HLT.out HN.out)
                go_wp2_with (go_at_call 73; (with_reducible refine (C73.out _ HSe.out).mono ?_); rintro e w7 ⟨rfl, hs7, ho7⟩; have HS7 := Lib.hid hs7; have HO7 := Lib.hid ho7; clear hs7 ho7)
                go_roundw
                case rel => exact ⟨n + 1, 10 * v + d, Lib.hid (by have := HLT.out; omega), HVB.out.1, HVB.out.2, Lib.hid (by have := HTX.out; rw [if_neg (by omega), if_pos (by rw [HQQ.out]; exact HVQ.out)] at this; exact this), Lib.hid HS7.out, Lib.hid (HTe.out.only HO7.out (fun e => HNE.out.1 e.symm)), Lib.hid (HBe.out.only HO7.out (fun e => HNE.out.2.1 e)), Lib.hid (HOe.out.tr HO7.out.sb)⟩
                case measure => rw [HS7.out.at, HS.out.at]; have := HLT.out; omega
              ·
                have q8 : (J == (i : Int)) = true := by have := HJ.out; simp; omega
                have q9 : decide (v ≤ qq) = false := decide_eq_false hvq
                have HVQ := Lib.hid hvq
                clear hvq hqq
                refine wp_region_G (S0 := (NumS sb tb bb J v 10)) (S1 := (NumS sb tb bb J v 10)) (c := 99) (by kernel_rfl) ?_
                have hHeld := HNd.out
                have h01 := (fun (W : World) (h : (NumS sb tb bb J v 10) W) => h)
                refine wpG_takeB (i := 0) (oi := ⟨some 74, _, _, _, _, _⟩) (v := .pointer (some ⟨sb, 0, none⟩)) rfl (by kernel_rfl) (by kernel_rfl) (by kernel_rfl) (by decide) (fun _ _ _ h => h) h01 rfl hHeld (Or.inl ⟨by rfl, ?_⟩) ?_
                · (intro W9 hSw; obtain ⟨v1, v2, v3⟩ := hSw; have hq := HQ.out; have hd0 := HD0.out; go_simp; (try (first | with_reducible rfl | rfl | (rw [HWD.out]; done) | (rw [HQ.out]; done) | (rw [HWQ.out]; done) | (rw [HQ.out, HWQ.out]; done) | (simp; done))))
                try simp only [Act.put, List.setIfInBounds_toArray, List.set_cons_zero, List.set_cons_succ]
                refine wpG_takeB (i := 1) (oi := ⟨some 75, _, _, _, _, _⟩) (v := .pointer (some ⟨sb, 0, none⟩)) rfl (by kernel_rfl) (by kernel_rfl) (by kernel_rfl) (by decide) (fun _ _ _ h => h) h01 rfl hHeld (Or.inl ⟨by rfl, ?_⟩) ?_
                · (intro W9 hSw; obtain ⟨v1, v2, v3⟩ := hSw; have hq := HQ.out; have hd0 := HD0.out; go_simp; (try (first | with_reducible rfl | rfl | (rw [HWD.out]; done) | (rw [HQ.out]; done) | (rw [HWQ.out]; done) | (rw [HQ.out, HWQ.out]; done) | (simp; done))))
                try simp only [Act.put, List.setIfInBounds_toArray, List.set_cons_zero, List.set_cons_succ]
                refine wpG_takeB (i := 2) (oi := ⟨some 76, _, _, _, _, _⟩) (v := .pointer (some ⟨sb, 0, none⟩)) rfl (by kernel_rfl) (by kernel_rfl) (by kernel_rfl) (by decide) (fun _ _ _ h => h) h01 rfl hHeld (Or.inl ⟨by rfl, ?_⟩) ?_
                · (intro W9 hSw; obtain ⟨v1, v2, v3⟩ := hSw; have hq := HQ.out; have hd0 := HD0.out; go_simp; (try (first | with_reducible rfl | rfl | (rw [HWD.out]; done) | (rw [HQ.out]; done) | (rw [HWQ.out]; done) | (rw [HQ.out, HWQ.out]; done) | (simp; done))))
                try simp only [Act.put, List.setIfInBounds_toArray, List.set_cons_zero, List.set_cons_succ]
                refine wpG_takeB (i := 3) (oi := ⟨some 77, _, _, _, _, _⟩) (v := .bool true) rfl (by kernel_rfl) (by kernel_rfl) (by kernel_rfl) (by decide) (fun _ _ _ h => h) h01 rfl hHeld (Or.inl ⟨by rfl, ?_⟩) ?_
                · (intro W9 hSw; obtain ⟨v1, v2, v3⟩ := hSw; have hq := HQ.out; have hd0 := HD0.out; go_simp; (try (first | with_reducible rfl | rfl | (rw [HWD.out]; done) | (rw [HQ.out]; done) | (rw [HWQ.out]; done) | (rw [HQ.out, HWQ.out]; done) | (simp; done))))
                try simp only [Act.put, List.setIfInBounds_toArray, List.set_cons_zero, List.set_cons_succ]
                refine wpG_takeB (i := 4) (oi := ⟨some 78, _, _, _, _, _⟩) (v := .bool false) rfl (by kernel_rfl) (by kernel_rfl) (by kernel_rfl) (by decide) (fun _ _ _ h => h) h01 rfl hHeld (Or.inl ⟨by rfl, ?_⟩) ?_
                · (intro W9 hSw; obtain ⟨v1, v2, v3⟩ := hSw; have hq := HQ.out; have hd0 := HD0.out; go_simp; (try (first | with_reducible rfl | rfl | (rw [HWD.out]; done) | (rw [HQ.out]; done) | (rw [HWQ.out]; done) | (rw [HQ.out, HWQ.out]; done) | (simp; done))))
                try simp only [Act.put, List.setIfInBounds_toArray, List.set_cons_zero, List.set_cons_succ]
                refine wpG_takeB (i := 5) (oi := ⟨some 79, _, _, _, _, _⟩) (v := .bool false) rfl (by kernel_rfl) (by kernel_rfl) (by kernel_rfl) (by decide) (fun _ _ _ h => h) h01 rfl hHeld (Or.inl ⟨by rfl, ?_⟩) ?_
                · (intro W9 hSw; obtain ⟨v1, v2, v3⟩ := hSw; have hq := HQ.out; have hd0 := HD0.out; go_simp; (try (first | with_reducible rfl | rfl | (rw [HWD.out]; done) | (rw [HQ.out]; done) | (rw [HWQ.out]; done) | (rw [HQ.out, HWQ.out]; done) | (simp; done))))
                try simp only [Act.put, List.setIfInBounds_toArray, List.set_cons_zero, List.set_cons_succ]
                refine wpG_takeB (i := 6) (oi := ⟨some 80, _, _, _, _, _⟩) (v := .pointer (some ⟨sb, 0, none⟩)) rfl (by kernel_rfl) (by kernel_rfl) (by kernel_rfl) (by decide) (fun _ _ _ h => h) h01 rfl hHeld (Or.inl ⟨by rfl, ?_⟩) ?_
                · (intro W9 hSw; obtain ⟨v1, v2, v3⟩ := hSw; have hq := HQ.out; have hd0 := HD0.out; go_simp; (try (first | with_reducible rfl | rfl | (rw [HWD.out]; done) | (rw [HQ.out]; done) | (rw [HWQ.out]; done) | (rw [HQ.out, HWQ.out]; done) | (simp; done))))
                try simp only [Act.put, List.setIfInBounds_toArray, List.set_cons_zero, List.set_cons_succ]
                refine wpG_takeB (i := 7) (oi := ⟨some 81, _, _, _, _, _⟩) (v := .pointer (some ⟨sb, 0, none⟩)) rfl (by kernel_rfl) (by kernel_rfl) (by kernel_rfl) (by decide) (fun _ _ _ h => h) h01 rfl hHeld (Or.inl ⟨by rfl, ?_⟩) ?_
                · (intro W9 hSw; obtain ⟨v1, v2, v3⟩ := hSw; have hq := HQ.out; have hd0 := HD0.out; go_simp; (try (first | with_reducible rfl | rfl | (rw [HWD.out]; done) | (rw [HQ.out]; done) | (rw [HWQ.out]; done) | (rw [HQ.out, HWQ.out]; done) | (simp; done))))
                try simp only [Act.put, List.setIfInBounds_toArray, List.set_cons_zero, List.set_cons_succ]
                refine wpG_takeB (i := 8) (oi := ⟨some 82, _, _, _, _, _⟩) (v := .pointer (some ⟨sb, 0, none⟩)) rfl (by kernel_rfl) (by kernel_rfl) (by kernel_rfl) (by decide) (fun _ _ _ h => h) h01 rfl hHeld (Or.inl ⟨by rfl, ?_⟩) ?_
                · (intro W9 hSw; obtain ⟨v1, v2, v3⟩ := hSw; have hq := HQ.out; have hd0 := HD0.out; go_simp; (try (first | with_reducible rfl | rfl | (rw [HWD.out]; done) | (rw [HQ.out]; done) | (rw [HWQ.out]; done) | (rw [HQ.out, HWQ.out]; done) | (simp; done))))
                try simp only [Act.put, List.setIfInBounds_toArray, List.set_cons_zero, List.set_cons_succ]
                refine wpG_takeB (i := 9) (oi := ⟨some 83, _, _, _, _, _⟩) (v := .pointer (some ⟨sb, 1, none⟩)) rfl (by kernel_rfl) (by kernel_rfl) (by kernel_rfl) (by decide) (fun _ _ _ h => h) h01 rfl hHeld (Or.inl ⟨by rfl, ?_⟩) ?_
                · (intro W9 hSw; obtain ⟨v1, v2, v3⟩ := hSw; have hq := HQ.out; have hd0 := HD0.out; go_simp; (try (first | with_reducible rfl | rfl | (rw [HWD.out]; done) | (rw [HQ.out]; done) | (rw [HWQ.out]; done) | (rw [HQ.out, HWQ.out]; done) | (simp; done))))
                try simp only [Act.put, List.setIfInBounds_toArray, List.set_cons_zero, List.set_cons_succ]
                refine wpG_takeB (i := 10) (oi := ⟨some 84, _, _, _, _, _⟩) (v := .int .i64 J) rfl (by kernel_rfl) (by kernel_rfl) (by kernel_rfl) (by decide) (fun _ _ _ h => h) h01 rfl hHeld (Or.inl ⟨by rfl, ?_⟩) ?_
                · (intro W9 hSw; obtain ⟨v1, v2, v3⟩ := hSw; have hq := HQ.out; have hd0 := HD0.out; go_simp; (try (first | with_reducible rfl | rfl | (rw [HWD.out]; done) | (rw [HQ.out]; done) | (rw [HWQ.out]; done) | (rw [HQ.out, HWQ.out]; done) | (simp; done))))
                try simp only [Act.put, List.setIfInBounds_toArray, List.set_cons_zero, List.set_cons_succ]
                refine wpG_takeB (i := 11) (oi := ⟨some 85, _, _, _, _, _⟩) (v := .int .i64 (i : Int)) rfl (by kernel_rfl) (by kernel_rfl) (by kernel_rfl) (by decide) (fun _ _ _ h => h) h01 rfl hHeld (Or.inl ⟨by rfl, ?_⟩) ?_
                · (intro W9 hSw; obtain ⟨v1, v2, v3⟩ := hSw; have hq := HQ.out; have hd0 := HD0.out; go_simp; (try (first | with_reducible rfl | rfl | (rw [HWD.out]; done) | (rw [HQ.out]; done) | (rw [HWQ.out]; done) | (rw [HQ.out, HWQ.out]; done) | (simp; done))))
                try simp only [Act.put, List.setIfInBounds_toArray, List.set_cons_zero, List.set_cons_succ]
                refine wpG_takeB (i := 12) (oi := ⟨some 86, _, _, _, _, _⟩) (v := .bool true) rfl (by kernel_rfl) (by kernel_rfl) (by kernel_rfl) (by decide) (fun _ _ _ h => h) h01 rfl hHeld (Or.inl ⟨by rfl, ?_⟩) ?_
                · (intro W9 hSw; obtain ⟨v1, v2, v3⟩ := hSw; have hq := HQ.out; have hd0 := HD0.out; go_simp; (try (first | with_reducible rfl | rfl | (rw [HWD.out]; done) | (rw [HQ.out]; done) | (rw [HWQ.out]; done) | (rw [HQ.out, HWQ.out]; done) | (simp; done))))
                try simp only [Act.put, List.setIfInBounds_toArray, List.set_cons_zero, List.set_cons_succ]
                refine wpG_takeB (i := 13) (oi := ⟨some 87, _, _, _, _, _⟩) (v := .bool true) rfl (by kernel_rfl) (by kernel_rfl) (by kernel_rfl) (by decide) (fun _ _ _ h => h) h01 rfl hHeld (Or.inl ⟨by rfl, ?_⟩) ?_
                · (intro W9 hSw; obtain ⟨v1, v2, v3⟩ := hSw; have hq := HQ.out; have hd0 := HD0.out; go_simp; (try (first | with_reducible rfl | rfl | (rw [HWD.out]; done) | (rw [HQ.out]; done) | (rw [HWQ.out]; done) | (rw [HQ.out, HWQ.out]; done) | (simp; done))))
                try simp only [Act.put, List.setIfInBounds_toArray, List.set_cons_zero, List.set_cons_succ]
                refine wpG_takeB (i := 14) (oi := ⟨some 88, _, _, _, _, _⟩) (v := .bool true) rfl (by kernel_rfl) (by kernel_rfl) (by kernel_rfl) (by decide) (fun _ _ _ h => h) h01 rfl hHeld (Or.inl ⟨by rfl, ?_⟩) ?_
                · (intro W9 hSw; obtain ⟨v1, v2, v3⟩ := hSw; have hq := HQ.out; have hd0 := HD0.out; go_simp; (try (first | with_reducible rfl | rfl | (rw [HWD.out]; done) | (rw [HQ.out]; done) | (rw [HWQ.out]; done) | (rw [HQ.out, HWQ.out]; done) | (simp; done))))
                try simp only [Act.put, List.setIfInBounds_toArray, List.set_cons_zero, List.set_cons_succ]
                refine wpG_takeB (i := 15) (oi := ⟨some 89, _, _, _, _, _⟩) (v := .pointer (some ⟨tb, 0, none⟩)) rfl (by kernel_rfl) (by kernel_rfl) (by kernel_rfl) (by decide) (fun _ _ _ h => h) h01 rfl hHeld (Or.inl ⟨by rfl, ?_⟩) ?_
                · (intro W9 hSw; obtain ⟨v1, v2, v3⟩ := hSw; have hq := HQ.out; have hd0 := HD0.out; go_simp; (try (first | with_reducible rfl | rfl | (rw [HWD.out]; done) | (rw [HQ.out]; done) | (rw [HWQ.out]; done) | (rw [HQ.out, HWQ.out]; done) | (simp; done))))
                try simp only [Act.put, List.setIfInBounds_toArray, List.set_cons_zero, List.set_cons_succ]
                refine wpG_takeB (i := 16) (oi := ⟨some 90, _, _, _, _, _⟩) (v := .pointer (some ⟨tb, 0, none⟩)) rfl (by kernel_rfl) (by kernel_rfl) (by kernel_rfl) (by decide) (fun _ _ _ h => h) h01 rfl hHeld (Or.inl ⟨by rfl, ?_⟩) ?_
                · (intro W9 hSw; obtain ⟨v1, v2, v3⟩ := hSw; have hq := HQ.out; have hd0 := HD0.out; go_simp; (try (first | with_reducible rfl | rfl | (rw [HWD.out]; done) | (rw [HQ.out]; done) | (rw [HWQ.out]; done) | (rw [HQ.out, HWQ.out]; done) | (simp; done))))
                try simp only [Act.put, List.setIfInBounds_toArray, List.set_cons_zero, List.set_cons_succ]
                refine wpG_takeB (i := 17) (oi := ⟨some 91, _, _, _, _, _⟩) (v := .pointer (some ⟨tb, 2, none⟩)) rfl (by kernel_rfl) (by kernel_rfl) (by kernel_rfl) (by decide) (fun _ _ _ h => h) h01 rfl hHeld (Or.inl ⟨by rfl, ?_⟩) ?_
                · (intro W9 hSw; obtain ⟨v1, v2, v3⟩ := hSw; have hq := HQ.out; have hd0 := HD0.out; go_simp; (try (first | with_reducible rfl | rfl | (rw [HWD.out]; done) | (rw [HQ.out]; done) | (rw [HWQ.out]; done) | (rw [HQ.out, HWQ.out]; done) | (simp; done))))
                try simp only [Act.put, List.setIfInBounds_toArray, List.set_cons_zero, List.set_cons_succ]
                refine wpG_takeB (i := 18) (oi := ⟨some 92, _, _, _, _, _⟩) (v := .int .i64 v) rfl (by kernel_rfl) (by kernel_rfl) (by kernel_rfl) (by decide) (fun _ _ _ h => h) h01 rfl hHeld (Or.inl ⟨by rfl, ?_⟩) ?_
                · (intro W9 hSw; obtain ⟨v1, v2, v3⟩ := hSw; have hq := HQ.out; have hd0 := HD0.out; go_simp; (try (first | with_reducible rfl | rfl | (rw [HWD.out]; done) | (rw [HQ.out]; done) | (rw [HWQ.out]; done) | (rw [HQ.out, HWQ.out]; done) | (simp; done))))
                try simp only [Act.put, List.setIfInBounds_toArray, List.set_cons_zero, List.set_cons_succ]
                refine wpG_takeB (i := 19) (oi := ⟨some 93, _, _, _, _, _⟩) (v := .int .i64 d) rfl (by kernel_rfl) (by kernel_rfl) (by kernel_rfl) (by decide) (fun _ _ _ h => h) h01 rfl hHeld (Or.inl ⟨by rfl, ?_⟩) ?_
                · (intro W9 hSw; obtain ⟨v1, v2, v3⟩ := hSw; have hq := HQ.out; have hd0 := HD0.out; go_simp; (try (first | with_reducible rfl | rfl | (rw [HWD.out]; done) | (rw [HQ.out]; done) | (rw [HWQ.out]; done) | (rw [HQ.out, HWQ.out]; done) | (simp; done))))
                try simp only [Act.put, List.setIfInBounds_toArray, List.set_cons_zero, List.set_cons_succ]
                refine wpG_takeB (i := 20) (oi := ⟨some 94, _, _, _, _, _⟩) (v := .int .i64 (4611686018427387904 - d)) rfl (by kernel_rfl) (by kernel_rfl) (by kernel_rfl) (by decide) (fun _ _ _ h => h) h01 rfl hHeld (Or.inl ⟨by rfl, ?_⟩) ?_
                · (intro W9 hSw; obtain ⟨v1, v2, v3⟩ := hSw; have hq := HQ.out; have hd0 := HD0.out; go_simp; (try (first | with_reducible rfl | rfl | (rw [HWD.out]; done) | (rw [HQ.out]; done) | (rw [HWQ.out]; done) | (rw [HQ.out, HWQ.out]; done) | (simp; done))))
                try simp only [Act.put, List.setIfInBounds_toArray, List.set_cons_zero, List.set_cons_succ]
                refine wpG_takeB (i := 21) (oi := ⟨some 95, _, _, _, _, _⟩) (v := .int .i64 10) rfl (by kernel_rfl) (by kernel_rfl) (by kernel_rfl) (by decide) (fun _ _ _ h => h) h01 rfl hHeld (Or.inl ⟨by rfl, ?_⟩) ?_
                · (intro W9 hSw; obtain ⟨v1, v2, v3⟩ := hSw; have hq := HQ.out; have hd0 := HD0.out; go_simp; (try (first | with_reducible rfl | rfl | (rw [HWD.out]; done) | (rw [HQ.out]; done) | (rw [HWQ.out]; done) | (rw [HQ.out, HWQ.out]; done) | (simp; done))))
                try simp only [Act.put, List.setIfInBounds_toArray, List.set_cons_zero, List.set_cons_succ]
                refine wpG_takeB (i := 22) (oi := ⟨some 96, _, _, _, _, _⟩) (v := .int .i64 qq) rfl (by kernel_rfl) (by kernel_rfl) (by kernel_rfl) (by decide) (fun _ _ _ h => h) h01 rfl hHeld (Or.inl ⟨by rfl, ?_⟩) ?_
                · (intro W9 hSw; obtain ⟨v1, v2, v3⟩ := hSw; have hq := HQ.out; have hd0 := HD0.out; go_simp; (try (first | with_reducible rfl | rfl | (rw [HWD.out]; done) | (rw [HQ.out]; done) | (rw [HWQ.out]; done) | (rw [HQ.out, HWQ.out]; done) | (simp; done))))
                try simp only [Act.put, List.setIfInBounds_toArray, List.set_cons_zero, List.set_cons_succ]
                refine wpG_takeB (i := 23) (oi := ⟨some 97, _, _, _, _, _⟩) (v := .bool false) rfl (by kernel_rfl) (by kernel_rfl) (by kernel_rfl) (by decide) (fun _ _ _ h => h) h01 rfl hHeld (Or.inl ⟨by rfl, ?_⟩) ?_
                · (intro W9 hSw; obtain ⟨v1, v2, v3⟩ := hSw; have hq := HQ.out; have hd0 := HD0.out; go_simp; (try (first | with_reducible rfl | rfl | (rw [HWD.out]; done) | (rw [HQ.out]; done) | (rw [HWQ.out]; done) | (rw [HQ.out, HWQ.out]; done) | (simp; done))))
                try simp only [Act.put, List.setIfInBounds_toArray, List.set_cons_zero, List.set_cons_succ]
                refine wpG_takeB (i := 24) (oi := ⟨some 98, _, _, _, _, _⟩) (v := .bool false) rfl (by kernel_rfl) (by kernel_rfl) (by kernel_rfl) (by decide) (fun _ _ _ h => h) h01 rfl hHeld (Or.inl ⟨by rfl, ?_⟩) ?_
                · (intro W9 hSw; obtain ⟨v1, v2, v3⟩ := hSw; have hq := HQ.out; have hd0 := HD0.out; go_simp; (try (first | with_reducible rfl | rfl | (rw [HWD.out]; done) | (rw [HQ.out]; done) | (rw [HWQ.out]; done) | (rw [HQ.out, HWQ.out]; done) | (simp; done))))
                try simp only [Act.put, List.setIfInBounds_toArray, List.set_cons_zero, List.set_cons_succ]
                refine wpG_oneB (i := 25) (o := ⟨some 99, _, _, _, _, _⟩) (by kernel_rfl) rfl rfl (fun K hK => ?_)
                go_simp
                (with_reducible refine (C60n.out _ HSd.out).mono ?_); rintro e w6 ⟨rfl, hs6, hb6⟩
                exact ⟨rfl, HOd.out.below hb6, by rw [← HTX.out, if_neg (by omega), if_neg (by rw [HQQ.out]; exact HVQ.out)]; exact ⟨rfl, hs6⟩⟩
            ·
              have q8 : (J == (i : Int)) = false := by have := HJ.out; simp; omega
              refine wp_region_G (S0 := (NumS sb tb bb J v 10)) (S1 := (NumS sb tb bb J v 10)) (c := 99) (by kernel_rfl) ?_
              have hHeld := HNd.out
              have h01 := (fun (W : World) (h : (NumS sb tb bb J v 10) W) => h)
              refine wpG_takeB (i := 0) (oi := ⟨some 74, _, _, _, _, _⟩) (v := .pointer (some ⟨sb, 0, none⟩)) rfl (by kernel_rfl) (by kernel_rfl) (by kernel_rfl) (by decide) (fun _ _ _ h => h) h01 rfl hHeld (Or.inl ⟨by rfl, ?_⟩) ?_
              · (intro W9 hSw; obtain ⟨v1, v2, v3⟩ := hSw; have hq := HQ.out; have hd0 := HD0.out; go_simp; (try (first | with_reducible rfl | rfl | (rw [HWD.out]; done) | (rw [HQ.out]; done) | (rw [HWQ.out]; done) | (rw [HQ.out, HWQ.out]; done) | (simp; done))))
              try simp only [Act.put, List.setIfInBounds_toArray, List.set_cons_zero, List.set_cons_succ]
              refine wpG_takeB (i := 1) (oi := ⟨some 75, _, _, _, _, _⟩) (v := .pointer (some ⟨sb, 0, none⟩)) rfl (by kernel_rfl) (by kernel_rfl) (by kernel_rfl) (by decide) (fun _ _ _ h => h) h01 rfl hHeld (Or.inl ⟨by rfl, ?_⟩) ?_
              · (intro W9 hSw; obtain ⟨v1, v2, v3⟩ := hSw; have hq := HQ.out; have hd0 := HD0.out; go_simp; (try (first | with_reducible rfl | rfl | (rw [HWD.out]; done) | (rw [HQ.out]; done) | (rw [HWQ.out]; done) | (rw [HQ.out, HWQ.out]; done) | (simp; done))))
              try simp only [Act.put, List.setIfInBounds_toArray, List.set_cons_zero, List.set_cons_succ]
              refine wpG_takeB (i := 2) (oi := ⟨some 76, _, _, _, _, _⟩) (v := .pointer (some ⟨sb, 0, none⟩)) rfl (by kernel_rfl) (by kernel_rfl) (by kernel_rfl) (by decide) (fun _ _ _ h => h) h01 rfl hHeld (Or.inl ⟨by rfl, ?_⟩) ?_
              · (intro W9 hSw; obtain ⟨v1, v2, v3⟩ := hSw; have hq := HQ.out; have hd0 := HD0.out; go_simp; (try (first | with_reducible rfl | rfl | (rw [HWD.out]; done) | (rw [HQ.out]; done) | (rw [HWQ.out]; done) | (rw [HQ.out, HWQ.out]; done) | (simp; done))))
              try simp only [Act.put, List.setIfInBounds_toArray, List.set_cons_zero, List.set_cons_succ]
              refine wpG_takeB (i := 3) (oi := ⟨some 77, _, _, _, _, _⟩) (v := .bool true) rfl (by kernel_rfl) (by kernel_rfl) (by kernel_rfl) (by decide) (fun _ _ _ h => h) h01 rfl hHeld (Or.inl ⟨by rfl, ?_⟩) ?_
              · (intro W9 hSw; obtain ⟨v1, v2, v3⟩ := hSw; have hq := HQ.out; have hd0 := HD0.out; go_simp; (try (first | with_reducible rfl | rfl | (rw [HWD.out]; done) | (rw [HQ.out]; done) | (rw [HWQ.out]; done) | (rw [HQ.out, HWQ.out]; done) | (simp; done))))
              try simp only [Act.put, List.setIfInBounds_toArray, List.set_cons_zero, List.set_cons_succ]
              refine wpG_takeB (i := 4) (oi := ⟨some 78, _, _, _, _, _⟩) (v := .bool false) rfl (by kernel_rfl) (by kernel_rfl) (by kernel_rfl) (by decide) (fun _ _ _ h => h) h01 rfl hHeld (Or.inl ⟨by rfl, ?_⟩) ?_
              · (intro W9 hSw; obtain ⟨v1, v2, v3⟩ := hSw; have hq := HQ.out; have hd0 := HD0.out; go_simp; (try (first | with_reducible rfl | rfl | (rw [HWD.out]; done) | (rw [HQ.out]; done) | (rw [HWQ.out]; done) | (rw [HQ.out, HWQ.out]; done) | (simp; done))))
              try simp only [Act.put, List.setIfInBounds_toArray, List.set_cons_zero, List.set_cons_succ]
              refine wpG_takeB (i := 5) (oi := ⟨some 79, _, _, _, _, _⟩) (v := .bool false) rfl (by kernel_rfl) (by kernel_rfl) (by kernel_rfl) (by decide) (fun _ _ _ h => h) h01 rfl hHeld (Or.inl ⟨by rfl, ?_⟩) ?_
              · (intro W9 hSw; obtain ⟨v1, v2, v3⟩ := hSw; have hq := HQ.out; have hd0 := HD0.out; go_simp; (try (first | with_reducible rfl | rfl | (rw [HWD.out]; done) | (rw [HQ.out]; done) | (rw [HWQ.out]; done) | (rw [HQ.out, HWQ.out]; done) | (simp; done))))
              try simp only [Act.put, List.setIfInBounds_toArray, List.set_cons_zero, List.set_cons_succ]
              refine wpG_takeB (i := 6) (oi := ⟨some 80, _, _, _, _, _⟩) (v := .pointer (some ⟨sb, 0, none⟩)) rfl (by kernel_rfl) (by kernel_rfl) (by kernel_rfl) (by decide) (fun _ _ _ h => h) h01 rfl hHeld (Or.inl ⟨by rfl, ?_⟩) ?_
              · (intro W9 hSw; obtain ⟨v1, v2, v3⟩ := hSw; have hq := HQ.out; have hd0 := HD0.out; go_simp; (try (first | with_reducible rfl | rfl | (rw [HWD.out]; done) | (rw [HQ.out]; done) | (rw [HWQ.out]; done) | (rw [HQ.out, HWQ.out]; done) | (simp; done))))
              try simp only [Act.put, List.setIfInBounds_toArray, List.set_cons_zero, List.set_cons_succ]
              refine wpG_takeB (i := 7) (oi := ⟨some 81, _, _, _, _, _⟩) (v := .pointer (some ⟨sb, 0, none⟩)) rfl (by kernel_rfl) (by kernel_rfl) (by kernel_rfl) (by decide) (fun _ _ _ h => h) h01 rfl hHeld (Or.inl ⟨by rfl, ?_⟩) ?_
              · (intro W9 hSw; obtain ⟨v1, v2, v3⟩ := hSw; have hq := HQ.out; have hd0 := HD0.out; go_simp; (try (first | with_reducible rfl | rfl | (rw [HWD.out]; done) | (rw [HQ.out]; done) | (rw [HWQ.out]; done) | (rw [HQ.out, HWQ.out]; done) | (simp; done))))
              try simp only [Act.put, List.setIfInBounds_toArray, List.set_cons_zero, List.set_cons_succ]
              refine wpG_takeB (i := 8) (oi := ⟨some 82, _, _, _, _, _⟩) (v := .pointer (some ⟨sb, 0, none⟩)) rfl (by kernel_rfl) (by kernel_rfl) (by kernel_rfl) (by decide) (fun _ _ _ h => h) h01 rfl hHeld (Or.inl ⟨by rfl, ?_⟩) ?_
              · (intro W9 hSw; obtain ⟨v1, v2, v3⟩ := hSw; have hq := HQ.out; have hd0 := HD0.out; go_simp; (try (first | with_reducible rfl | rfl | (rw [HWD.out]; done) | (rw [HQ.out]; done) | (rw [HWQ.out]; done) | (rw [HQ.out, HWQ.out]; done) | (simp; done))))
              try simp only [Act.put, List.setIfInBounds_toArray, List.set_cons_zero, List.set_cons_succ]
              refine wpG_takeB (i := 9) (oi := ⟨some 83, _, _, _, _, _⟩) (v := .pointer (some ⟨sb, 1, none⟩)) rfl (by kernel_rfl) (by kernel_rfl) (by kernel_rfl) (by decide) (fun _ _ _ h => h) h01 rfl hHeld (Or.inl ⟨by rfl, ?_⟩) ?_
              · (intro W9 hSw; obtain ⟨v1, v2, v3⟩ := hSw; have hq := HQ.out; have hd0 := HD0.out; go_simp; (try (first | with_reducible rfl | rfl | (rw [HWD.out]; done) | (rw [HQ.out]; done) | (rw [HWQ.out]; done) | (rw [HQ.out, HWQ.out]; done) | (simp; done))))
              try simp only [Act.put, List.setIfInBounds_toArray, List.set_cons_zero, List.set_cons_succ]
              refine wpG_takeB (i := 10) (oi := ⟨some 84, _, _, _, _, _⟩) (v := .int .i64 J) rfl (by kernel_rfl) (by kernel_rfl) (by kernel_rfl) (by decide) (fun _ _ _ h => h) h01 rfl hHeld (Or.inl ⟨by rfl, ?_⟩) ?_
              · (intro W9 hSw; obtain ⟨v1, v2, v3⟩ := hSw; have hq := HQ.out; have hd0 := HD0.out; go_simp; (try (first | with_reducible rfl | rfl | (rw [HWD.out]; done) | (rw [HQ.out]; done) | (rw [HWQ.out]; done) | (rw [HQ.out, HWQ.out]; done) | (simp; done))))
              try simp only [Act.put, List.setIfInBounds_toArray, List.set_cons_zero, List.set_cons_succ]
              refine wpG_takeB (i := 11) (oi := ⟨some 85, _, _, _, _, _⟩) (v := .int .i64 (i : Int)) rfl (by kernel_rfl) (by kernel_rfl) (by kernel_rfl) (by decide) (fun _ _ _ h => h) h01 rfl hHeld (Or.inl ⟨by rfl, ?_⟩) ?_
              · (intro W9 hSw; obtain ⟨v1, v2, v3⟩ := hSw; have hq := HQ.out; have hd0 := HD0.out; go_simp; (try (first | with_reducible rfl | rfl | (rw [HWD.out]; done) | (rw [HQ.out]; done) | (rw [HWQ.out]; done) | (rw [HQ.out, HWQ.out]; done) | (simp; done))))
              try simp only [Act.put, List.setIfInBounds_toArray, List.set_cons_zero, List.set_cons_succ]
              refine wpG_takeB (i := 12) (oi := ⟨some 86, _, _, _, _, _⟩) (v := .bool false) rfl (by kernel_rfl) (by kernel_rfl) (by kernel_rfl) (by decide) (fun _ _ _ h => h) h01 rfl hHeld (Or.inl ⟨by rfl, ?_⟩) ?_
              · (intro W9 hSw; obtain ⟨v1, v2, v3⟩ := hSw; have hq := HQ.out; have hd0 := HD0.out; go_simp; (try (first | with_reducible rfl | rfl | (rw [HWD.out]; done) | (rw [HQ.out]; done) | (rw [HWQ.out]; done) | (rw [HQ.out, HWQ.out]; done) | (simp; done))))
              try simp only [Act.put, List.setIfInBounds_toArray, List.set_cons_zero, List.set_cons_succ]
              refine wpG_takeB (i := 13) (oi := ⟨some 87, _, _, _, _, _⟩) (v := .bool false) rfl (by kernel_rfl) (by kernel_rfl) (by kernel_rfl) (by decide) (fun _ _ _ h => h) h01 rfl hHeld (Or.inl ⟨by rfl, ?_⟩) ?_
              · (intro W9 hSw; obtain ⟨v1, v2, v3⟩ := hSw; have hq := HQ.out; have hd0 := HD0.out; go_simp; (try (first | with_reducible rfl | rfl | (rw [HWD.out]; done) | (rw [HQ.out]; done) | (rw [HWQ.out]; done) | (rw [HQ.out, HWQ.out]; done) | (simp; done))))
              try simp only [Act.put, List.setIfInBounds_toArray, List.set_cons_zero, List.set_cons_succ]
              refine wpG_takeB (i := 14) (oi := ⟨some 88, _, _, _, _, _⟩) (v := .bool false) rfl (by kernel_rfl) (by kernel_rfl) (by kernel_rfl) (by decide) (fun _ _ _ h => h) h01 rfl hHeld (Or.inl ⟨by rfl, ?_⟩) ?_
              · (intro W9 hSw; obtain ⟨v1, v2, v3⟩ := hSw; have hq := HQ.out; have hd0 := HD0.out; go_simp; (try (first | with_reducible rfl | rfl | (rw [HWD.out]; done) | (rw [HQ.out]; done) | (rw [HWQ.out]; done) | (rw [HQ.out, HWQ.out]; done) | (simp; done))))
              try simp only [Act.put, List.setIfInBounds_toArray, List.set_cons_zero, List.set_cons_succ]
              refine wpG_takeB (i := 15) (oi := ⟨some 89, _, _, _, _, _⟩) (v := undef) rfl (by kernel_rfl) (by kernel_rfl) (by kernel_rfl) (by decide) (fun _ _ _ h => h) h01 rfl hHeld (Or.inr ⟨by rfl, rfl⟩) ?_
              try simp only [Act.put, List.setIfInBounds_toArray, List.set_cons_zero, List.set_cons_succ]
              refine wpG_takeB (i := 16) (oi := ⟨some 90, _, _, _, _, _⟩) (v := undef) rfl (by kernel_rfl) (by kernel_rfl) (by kernel_rfl) (by decide) (fun _ _ _ h => h) h01 rfl hHeld (Or.inr ⟨by rfl, rfl⟩) ?_
              try simp only [Act.put, List.setIfInBounds_toArray, List.set_cons_zero, List.set_cons_succ]
              refine wpG_takeB (i := 17) (oi := ⟨some 91, _, _, _, _, _⟩) (v := undef) rfl (by kernel_rfl) (by kernel_rfl) (by kernel_rfl) (by decide) (fun _ _ _ h => h) h01 rfl hHeld (Or.inr ⟨by rfl, rfl⟩) ?_
              try simp only [Act.put, List.setIfInBounds_toArray, List.set_cons_zero, List.set_cons_succ]
              refine wpG_takeB (i := 18) (oi := ⟨some 92, _, _, _, _, _⟩) (v := undef) rfl (by kernel_rfl) (by kernel_rfl) (by kernel_rfl) (by decide) (fun _ _ _ h => h) h01 rfl hHeld (Or.inr ⟨by rfl, rfl⟩) ?_
              try simp only [Act.put, List.setIfInBounds_toArray, List.set_cons_zero, List.set_cons_succ]
              refine wpG_takeB (i := 19) (oi := ⟨some 93, _, _, _, _, _⟩) (v := undef) rfl (by kernel_rfl) (by kernel_rfl) (by kernel_rfl) (by decide) (fun _ _ _ h => h) h01 rfl hHeld (Or.inr ⟨by rfl, rfl⟩) ?_
              try simp only [Act.put, List.setIfInBounds_toArray, List.set_cons_zero, List.set_cons_succ]
              refine wpG_takeB (i := 20) (oi := ⟨some 94, _, _, _, _, _⟩) (v := undef) rfl (by kernel_rfl) (by kernel_rfl) (by kernel_rfl) (by decide) (fun _ _ _ h => h) h01 rfl hHeld (Or.inr ⟨by rfl, rfl⟩) ?_
              try simp only [Act.put, List.setIfInBounds_toArray, List.set_cons_zero, List.set_cons_succ]
              refine wpG_takeB (i := 21) (oi := ⟨some 95, _, _, _, _, _⟩) (v := undef) rfl (by kernel_rfl) (by kernel_rfl) (by kernel_rfl) (by decide) (fun _ _ _ h => h) h01 rfl hHeld (Or.inr ⟨by rfl, rfl⟩) ?_
              try simp only [Act.put, List.setIfInBounds_toArray, List.set_cons_zero, List.set_cons_succ]
              refine wpG_takeB (i := 22) (oi := ⟨some 96, _, _, _, _, _⟩) (v := undef) rfl (by kernel_rfl) (by kernel_rfl) (by kernel_rfl) (by decide) (fun _ _ _ h => h) h01 rfl hHeld (Or.inr ⟨by rfl, rfl⟩) ?_
              try simp only [Act.put, List.setIfInBounds_toArray, List.set_cons_zero, List.set_cons_succ]
              refine wpG_takeB (i := 23) (oi := ⟨some 97, _, _, _, _, _⟩) (v := undef) rfl (by kernel_rfl) (by kernel_rfl) (by kernel_rfl) (by decide) (fun _ _ _ h => h) h01 rfl hHeld (Or.inr ⟨by rfl, rfl⟩) ?_
              try simp only [Act.put, List.setIfInBounds_toArray, List.set_cons_zero, List.set_cons_succ]
              refine wpG_takeB (i := 24) (oi := ⟨some 98, _, _, _, _, _⟩) (v := .bool false) rfl (by kernel_rfl) (by kernel_rfl) (by kernel_rfl) (by decide) (fun _ _ _ h => h) h01 rfl hHeld (Or.inl ⟨by rfl, ?_⟩) ?_
              · (intro W9 hSw; obtain ⟨v1, v2, v3⟩ := hSw; have hq := HQ.out; have hd0 := HD0.out; go_simp; (try (first | with_reducible rfl | rfl | (rw [HWD.out]; done) | (rw [HQ.out]; done) | (rw [HWQ.out]; done) | (rw [HQ.out, HWQ.out]; done) | (simp; done))))
              try simp only [Act.put, List.setIfInBounds_toArray, List.set_cons_zero, List.set_cons_succ]
              refine wpG_oneB (i := 25) (o := ⟨some 99, _, _, _, _, _⟩) (by kernel_rfl) rfl rfl (fun K hK => ?_)
              go_simp
              (with_reducible refine (C60n.out _ HSd.out).mono ?_); rintro e w6 ⟨rfl, hs6, hb6⟩
              exact ⟨rfl, HOd.out.below hb6, by rw [← HTX.out, if_pos (by simpa using hn0)]; exact ⟨rfl, hs6⟩⟩
          | false =>
            rw [hb] at C76
            have hT0 := HT0.out
            rw [digs_false hb] at hT0
            have C69 := Lib.hid (fun (W : World) (hs : Sc L sb (i + n) W) => next_sc 69 worI pf69 L sb (i + n) W hs HN.out)
            have HS1 := Lib.hid (fun m => HS.out.drewN m)
            have HT1 : Hid (∀ m, TB tb 2 tx v ln cl (wr.drewN m)) := Lib.hid (fun m => Blk.drewN HT.out m)
            have HO1 := Lib.hid (fun m => only_drewN HO.out m)
            clear hb
            cases hb2 : headP worI (L.drop (i + n)) with
            | false =>
              rw [hb2] at C69 hT0
              rw [if_neg (by simp)] at hT0
              have C60 := Lib.hid (fun (W : World) (hs : Sc L sb (i + n) W) => need_sy L sb (i + n) W hs)
              have HTX := Lib.hid hT0
              clear hT0 hb2
              go_upto_region 16 with (go_at_call 66; (with_reducible refine C76.out.mono ?_); rintro e w1 ⟨rfl, m, rfl⟩)
              obtain ⟨W1, hW1⟩ : ∃ W1, wr.drewN m = W1 := ⟨_, rfl⟩
              have HSd := Lib.hid (show Sc L sb (i + n) W1.drew from hW1 ▸ (HS1.out m).drew)
              have HTd := Lib.hid (show TB tb 2 tx v ln cl W1.drew from hW1 ▸ Blk.drew1 (HT1.out m))
              have HOd := Lib.hid (show Only (fun b => b = sb ∨ b = tb) w W1.drew from hW1 ▸ only_drew (HO1.out m))
              rw [hW1]
              clear hW1
              refine wp_region_G (S0 := (fun _ : World => True)) (S1 := (fun _ : World => True)) (c := 99) (by kernel_rfl) ?_
              have hHeld := trivial
              have h01 := (fun (W : World) (h : (fun _ : World => True) W) => h)
              refine wpG_takeB (i := 0) (oi := ⟨some 115, _, _, _, _, _⟩) (v := .pointer (some ⟨sb, 0, none⟩)) rfl (by kernel_rfl) (by kernel_rfl) (by kernel_rfl) (by decide) (fun _ _ _ h => h) h01 rfl hHeld (Or.inl ⟨by rfl, ?_⟩) ?_
              · (intro W9 hSw; go_simp; (try (first | with_reducible rfl | rfl | (simp; done))))
              try simp only [Act.put, List.setIfInBounds_toArray, List.set_cons_zero, List.set_cons_succ]
              refine wpG_takeB (i := 1) (oi := ⟨some 116, _, _, _, _, _⟩) (v := .pointer (some ⟨sb, 0, none⟩)) rfl (by kernel_rfl) (by kernel_rfl) (by kernel_rfl) (by decide) (fun _ _ _ h => h) h01 rfl hHeld (Or.inl ⟨by rfl, ?_⟩) ?_
              · (intro W9 hSw; go_simp; (try (first | with_reducible rfl | rfl | (simp; done))))
              try simp only [Act.put, List.setIfInBounds_toArray, List.set_cons_zero, List.set_cons_succ]
              refine wpG_takeB (i := 2) (oi := ⟨some 117, _, _, _, _, _⟩) (v := .pointer (some ⟨sb, 0, none⟩)) rfl (by kernel_rfl) (by kernel_rfl) (by kernel_rfl) (by decide) (fun _ _ _ h => h) h01 rfl hHeld (Or.inl ⟨by rfl, ?_⟩) ?_
              · (intro W9 hSw; go_simp; (try (first | with_reducible rfl | rfl | (simp; done))))
              try simp only [Act.put, List.setIfInBounds_toArray, List.set_cons_zero, List.set_cons_succ]
              refine wpG_takeB (i := 3) (oi := ⟨some 118, _, _, _, _, _⟩) (v := .pointer (some ⟨sb, 0, none⟩)) rfl (by kernel_rfl) (by kernel_rfl) (by kernel_rfl) (by decide) (fun _ _ _ h => h) h01 rfl hHeld (Or.inl ⟨by rfl, ?_⟩) ?_
              · (intro W9 hSw; go_simp; (try (first | with_reducible rfl | rfl | (simp; done))))
              try simp only [Act.put, List.setIfInBounds_toArray, List.set_cons_zero, List.set_cons_succ]
              refine wpG_takeB (i := 4) (oi := ⟨some 119, _, _, _, _, _⟩) (v := .pointer (some ⟨sb, 0, none⟩)) rfl (by kernel_rfl) (by kernel_rfl) (by kernel_rfl) (by decide) (fun _ _ _ h => h) h01 rfl hHeld (Or.inl ⟨by rfl, ?_⟩) ?_
              · (intro W9 hSw; go_simp; (try (first | with_reducible rfl | rfl | (simp; done))))
              try simp only [Act.put, List.setIfInBounds_toArray, List.set_cons_zero, List.set_cons_succ]
              refine wpG_takeB (i := 5) (oi := ⟨some 120, _, _, _, _, _⟩) (v := .pointer (some ⟨sb, 0, none⟩)) rfl (by kernel_rfl) (by kernel_rfl) (by kernel_rfl) (by decide) (fun _ _ _ h => h) h01 rfl hHeld (Or.inl ⟨by rfl, ?_⟩) ?_
              · (intro W9 hSw; go_simp; (try (first | with_reducible rfl | rfl | (simp; done))))
              try simp only [Act.put, List.setIfInBounds_toArray, List.set_cons_zero, List.set_cons_succ]
              refine wpG_oneB (i := 6) (o := ⟨some 121, _, _, _, _, _⟩) (by kernel_rfl) rfl rfl (fun K hK => ?_)
              go_simp
              (with_reducible refine (C69.out _ HSd.out).mono ?_); rintro e w5 ⟨rfl, hs5, hb5⟩
              have HS5 := Lib.hid hs5
              have HB5 := Lib.hid hb5
              clear hs5 hb5
              refine hK.out _ _ trivial (fun hHeld => ?_)
              clear hK K
              try simp only [Act.put, List.setIfInBounds_toArray, List.set_cons_zero, List.set_cons_succ]
              refine wpG_takeB (i := 7) (oi := ⟨some 122, _, _, _, _, _⟩) (v := .bool true) rfl (by kernel_rfl) (by kernel_rfl) (by kernel_rfl) (by decide) (fun _ _ _ h => h) h01 rfl hHeld (Or.inl ⟨by rfl, ?_⟩) ?_
              · (intro W9 hSw; go_simp; (try (first | with_reducible rfl | rfl | (simp; done))))
              try simp only [Act.put, List.setIfInBounds_toArray, List.set_cons_zero, List.set_cons_succ]
              refine wpG_oneB (i := 8) (o := ⟨some 123, _, _, _, _, _⟩) (by kernel_rfl) rfl rfl (fun K hK => ?_)
              go_simp
              (with_reducible refine (C60.out _ HS5.out).mono ?_); rintro e w6 ⟨rfl, hs6, hb6⟩
              have HS6 := Lib.hid hs6
              have HB6 := Lib.hid hb6
              clear hs6 hb6
              refine hK.out _ _ trivial (fun hHeld => ?_)
              clear hK K
              try simp only [Act.put, List.setIfInBounds_toArray, List.set_cons_zero, List.set_cons_succ]
              refine wpG_done (by kernel_rfl) ?_ _
              clear hHeld h01
              go_wp2_with fail
              go_ret
              refine ⟨(HOd.out.below HB5.out).below HB6.out, ?_⟩
              rw [← HTX.out]
              exact ⟨rfl, HS6.out, TB.below (TB.below HTd.out HB5.out) HB6.out⟩
            | true =>
              rw [hb2] at C69 hT0
              rw [if_pos rfl] at hT0
              have C60 := Lib.hid (fun (W : World) (hs : Sc L sb (i + n) W) => need_sn L sb (i + n) W hs HLE.out HN.out)
              have HTX := Lib.hid hT0
              clear hT0 hb2
              go_upto_region 16 with (go_at_call 66; (with_reducible refine C76.out.mono ?_); rintro e w1 ⟨rfl, m, rfl⟩)
              obtain ⟨W1, hW1⟩ : ∃ W1, wr.drewN m = W1 := ⟨_, rfl⟩
              have HSd := Lib.hid (show Sc L sb (i + n) W1.drew from hW1 ▸ (HS1.out m).drew)
              have HOd := Lib.hid (show Only (fun b => b = sb ∨ b = tb) w W1.drew from hW1 ▸ only_drew (HO1.out m))
              rw [hW1]
              clear hW1
              refine wp_region_G (S0 := (fun _ : World => True)) (S1 := (fun _ : World => True)) (c := 99) (by kernel_rfl) ?_
              have hHeld := trivial
              have h01 := (fun (W : World) (h : (fun _ : World => True) W) => h)
              refine wpG_takeB (i := 0) (oi := ⟨some 115, _, _, _, _, _⟩) (v := .pointer (some ⟨sb, 0, none⟩)) rfl (by kernel_rfl) (by kernel_rfl) (by kernel_rfl) (by decide) (fun _ _ _ h => h) h01 rfl hHeld (Or.inl ⟨by rfl, ?_⟩) ?_
              · (intro W9 hSw; go_simp; (try (first | with_reducible rfl | rfl | (simp; done))))
              try simp only [Act.put, List.setIfInBounds_toArray, List.set_cons_zero, List.set_cons_succ]
              refine wpG_takeB (i := 1) (oi := ⟨some 116, _, _, _, _, _⟩) (v := .pointer (some ⟨sb, 0, none⟩)) rfl (by kernel_rfl) (by kernel_rfl) (by kernel_rfl) (by decide) (fun _ _ _ h => h) h01 rfl hHeld (Or.inl ⟨by rfl, ?_⟩) ?_
              · (intro W9 hSw; go_simp; (try (first | with_reducible rfl | rfl | (simp; done))))
              try simp only [Act.put, List.setIfInBounds_toArray, List.set_cons_zero, List.set_cons_succ]
              refine wpG_takeB (i := 2) (oi := ⟨some 117, _, _, _, _, _⟩) (v := .pointer (some ⟨sb, 0, none⟩)) rfl (by kernel_rfl) (by kernel_rfl) (by kernel_rfl) (by decide) (fun _ _ _ h => h) h01 rfl hHeld (Or.inl ⟨by rfl, ?_⟩) ?_
              · (intro W9 hSw; go_simp; (try (first | with_reducible rfl | rfl | (simp; done))))
              try simp only [Act.put, List.setIfInBounds_toArray, List.set_cons_zero, List.set_cons_succ]
              refine wpG_takeB (i := 3) (oi := ⟨some 118, _, _, _, _, _⟩) (v := .pointer (some ⟨sb, 0, none⟩)) rfl (by kernel_rfl) (by kernel_rfl) (by kernel_rfl) (by decide) (fun _ _ _ h => h) h01 rfl hHeld (Or.inl ⟨by rfl, ?_⟩) ?_
              · (intro W9 hSw; go_simp; (try (first | with_reducible rfl | rfl | (simp; done))))
              try simp only [Act.put, List.setIfInBounds_toArray, List.set_cons_zero, List.set_cons_succ]
              refine wpG_takeB (i := 4) (oi := ⟨some 119, _, _, _, _, _⟩) (v := .pointer (some ⟨sb, 0, none⟩)) rfl (by kernel_rfl) (by kernel_rfl) (by kernel_rfl) (by decide) (fun _ _ _ h => h) h01 rfl hHeld (Or.inl ⟨by rfl, ?_⟩) ?_
              · (intro W9 hSw; go_simp; (try (first | with_reducible rfl | rfl | (simp; done))))
              try simp only [Act.put, List.setIfInBounds_toArray, List.set_cons_zero, List.set_cons_succ]
              refine wpG_takeB (i := 5) (oi := ⟨some 120, _, _, _, _, _⟩) (v := .pointer (some ⟨sb, 0, none⟩)) rfl (by kernel_rfl) (by kernel_rfl) (by kernel_rfl) (by decide) (fun _ _ _ h => h) h01 rfl hHeld (Or.inl ⟨by rfl, ?_⟩) ?_
              · (intro W9 hSw; go_simp; (try (first | with_reducible rfl | rfl | (simp; done))))
              try simp only [Act.put, List.setIfInBounds_toArray, List.set_cons_zero, List.set_cons_succ]
              refine wpG_oneB (i := 6) (o := ⟨some 121, _, _, _, _, _⟩) (by kernel_rfl) rfl rfl (fun K hK => ?_)
              go_simp
              (with_reducible refine (C69.out _ HSd.out).mono ?_); rintro e w5 ⟨rfl, hs5, hb5⟩
              have HS5 := Lib.hid hs5
              have HB5 := Lib.hid hb5
              clear hs5 hb5
              refine hK.out _ _ trivial (fun hHeld => ?_)
              clear hK K
              try simp only [Act.put, List.setIfInBounds_toArray, List.set_cons_zero, List.set_cons_succ]
              refine wpG_takeB (i := 7) (oi := ⟨some 122, _, _, _, _, _⟩) (v := .bool false) rfl (by kernel_rfl) (by kernel_rfl) (by kernel_rfl) (by decide) (fun _ _ _ h => h) h01 rfl hHeld (Or.inl ⟨by rfl, ?_⟩) ?_
              · (intro W9 hSw; go_simp; (try (first | with_reducible rfl | rfl | (simp; done))))
              try simp only [Act.put, List.setIfInBounds_toArray, List.set_cons_zero, List.set_cons_succ]
              refine wpG_oneB (i := 8) (o := ⟨some 123, _, _, _, _, _⟩) (by kernel_rfl) rfl rfl (fun K hK => ?_)
              go_simp
              (with_reducible refine (C60.out _ HS5.out).mono ?_); rintro e w6 ⟨rfl, hs6, hb6⟩
              refine ⟨rfl, (HOd.out.below HB5.out).below hb6, ?_⟩
              rw [← HTX.out]
              exact ⟨rfl, hs6⟩
      | true =>
        rw [hx] at CA hT
        rw [if_pos (by simp)] at hT
        have hlt1 : i + 1 < L.length := by rw [List.drop_drop] at hx; exact headP_drop hx
        have C73a := Lib.hid (fun (W : World) (hs : Sc L sb i W) => pass_any L sb i W hs hlt hn)
        have C73b := Lib.hid (fun (W : World) (hs : Sc L sb (i + 1) W) => pass_any L sb (i + 1) W hs hlt1 hn)
        have C74 := Lib.hid (fun (W : World) (hs : Sc L sb (i + 2) W) => next_sc 74 isHex pf74 L sb (i + 2) W hs hn)
        have HL0 : Hid (i + 2 ≤ L.length) := Lib.hid hlt1
        have e2 : (L.drop i).drop 2 = L.drop (i + 2) := by rw [List.drop_drop]
        rw [e2] at hT
        cases hy : headP isHex (L.drop (i + 2)) with
        | false =>
          rw [hy] at C74 hT
          rw [if_neg (by simp)] at hT
          have HTT := Lib.hid hT
          have C60 := Lib.hid (fun (W : World) (hs : Sc L sb (i + 2) W) => need_sn L sb (i + 2) W hs hlt1 hn)
          clear h ht hn hb hi0 hlt hln hT hz hx hlt1 e2 hy
          generalize (⟨(L.drop i).toArray⟩ : ByteArray) = Sr at CA hsl
          go_enter Tryd.func56, Tryd.ntmps56
          go_upto_region 3 with (go_at_call 66; (with_reducible refine C67.out.mono ?_); rintro e w1 ⟨rfl, hs1, hb1⟩; have HS1 := Lib.hid hs1; have HT1 := Lib.hid (HTw.out.below hb1); have HO1 : Hid (Only (fun b => b = sb ∨ b = tb) w w1) := Lib.hid (Only.of_below hb1); clear hb1 hs1)
          have e0 := Blk.cell HT1.out 0
          have f0 := Blk.frozen HT1.out 0
          simp only [List.getElem?_toArray, List.getElem?_cons_zero] at e0
          go_upto_region 4 with fail
          have HS2 := Lib.hid (HS1.out.far hne 0 (.int .i64 ((2 : Nat) : Int)))
          have HT2 := Lib.hid (TB.kind (j := 2) HT1.out)
          have HO2 : Hid (Only (fun b => b = sb ∨ b = tb) w (w1.setCell ⟨tb, 0, none⟩ (.int .i64 ((2 : Nat) : Int)))) := Lib.hid (Only.set HO1.out (fun _ => .inr rfl) 0 _)
          obtain ⟨W2, hW2⟩ : ∃ W2, w1.setCell ⟨tb, 0, none⟩ (.int .i64 2) = W2 := ⟨_, rfl⟩
          have hW2' : w1.setCell ⟨tb, 0, none⟩ (.int .i64 ((2 : Nat) : Int)) = W2 := hW2
          rw [hW2'] at HS2 HT2 HO2
          rw [hW2]
          clear hW2 hW2' e0 f0
          go_upto_region 5 with (go_at_call 71; (with_reducible refine (C71.out _ HS2.out).mono ?_); rintro e w3 ⟨rfl, hb3⟩; have HB3 := Lib.hid hb3; clear hb3)
          obtain ⟨W3, hW3⟩ : ∃ W3, w3.alloc (.cells #[.int .i64 10] 3) = W3 := ⟨_, rfl⟩
          have hb9 : Below W2.heap.size W2 W3 := hW3 ▸ HB3.out.alloc HB3.out.size _
          have HS3 := Lib.hid (HS2.out.below hb9)
          have HT3 := Lib.hid (HT2.out.below hb9)
          have HO3 := Lib.hid (HO2.out.below hb9)
          obtain ⟨bb, hbb⟩ : ∃ bb, w3.heap.size = bb := ⟨_, rfl⟩
          have HB30 : Hid (Blk W3 bb 3 #[.int .i64 10]) := Lib.hid (hbb ▸ hW3 ▸ Blk.new w3 3 _)
          have HBG : Hid (w.heap.size ≤ bb) := Lib.hid (by have := HO2.out.size; have := HB3.out.size; omega)
          rw [hW3, hbb]
          clear hW3 hbb hb9 HB3
          have s0 := Blk.cell HS3.out 0
          have s1 := Blk.cell HS3.out 1
          simp only [List.getElem?_toArray, List.getElem?_cons_zero, List.getElem?_cons_succ] at s0 s1
          go_upto_region 6 with fail
          go_quiet (first | (go_at_call 72; refine Calls.quiet_of_same (CA.out _)))
          clear s0 s1 hsl
          obtain ⟨W4, hW4⟩ : ∃ W4, W3.drewN nq = W4 := ⟨_, rfl⟩
          have HS4 := Lib.hid (show Sc L sb i W4 from hW4 ▸ HS3.out.drewN nq)
          have HT4 := Lib.hid (show TB tb 2 tx 0 ln cl W4 from hW4 ▸ Blk.drewN HT3.out nq)
          have HB4 := Lib.hid (show Blk W4 bb 3 #[.int .i64 10] from hW4 ▸ HB30.out.drewN nq)
          have HO4 := Lib.hid (show Only (fun b => b = sb ∨ b = tb) w W4 from hW4 ▸ only_drewN HO3.out nq)
          rw [hW4]
          clear hW4
          have HNE0 := Lib.hid (And.intro (Blk.ne HB4.out HS4.out (by decide)) (Blk.ne HB4.out HT4.out (by decide)))
          have e0 := HB4.out.cell 0
          have f0 := HB4.out.frozen 0
          simp only [List.getElem?_toArray, List.getElem?_cons_zero] at e0
          go_upto_region 8 with fail
          obtain ⟨W5, hW5⟩ : ∃ W5, W4.setCell ⟨bb, 0, none⟩ (.int .i64 16) = W5 := ⟨_, rfl⟩
          have HS5 := Lib.hid (show Sc L sb i W5 from hW5 ▸ HS4.out.far (fun e => HNE0.out.1 e.symm) 0 _)
          have HT5 := Lib.hid (show TB tb 2 tx 0 ln cl W5 from hW5 ▸ (Below.heap_setCell _ _ _ _ (by simpa using fun e => HNE0.out.2 e.symm)).trans HT4.out)
          have HB5 := Lib.hid (show Blk W5 bb 3 #[.int .i64 16] from by have := HB4.out.set_ 0 (.int .i64 16); rw [hW5] at this; simpa using this)
          have HO5 := Lib.hid (show Only (fun b => b = sb ∨ b = tb) w W5 from hW5 ▸ HO4.out.set (fun hlt9 => absurd hlt9 (by have := HBG.out; omega)) 0 _)
          rw [hW5]
          clear hW5 e0 f0
          go_upto_region 9 with (go_at_call 73; (with_reducible refine (C73a.out _ HS5.out).mono ?_); rintro e w6 ⟨rfl, hs6, ho6⟩; have HS6 := Lib.hid hs6; have HO6 := Lib.hid ho6; clear hs6 ho6)
          go_upto_region 10 with (go_at_call 73; (with_reducible refine (C73b.out _ HS6.out).mono ?_); rintro e w7 ⟨rfl, hs7, ho7⟩; have HS7 := Lib.hid hs7; have HO7 := Lib.hid ho7; clear hs7 ho7)
          have HT7 := Lib.hid ((HT5.out.only HO6.out (fun e => hne e.symm)).only HO7.out (fun e => hne e.symm))
          have HB7 := Lib.hid (Blk.only (Blk.only HB5.out HO6.out (fun e => HNE0.out.1 e)) HO7.out (fun e => HNE0.out.1 e))
          have HO77 := Lib.hid ((HO5.out.tr HO6.out.sb).tr HO7.out.sb)
          have HSd := Lib.hid (show Sc L sb (i + 2) w7.drew from HS7.out.drew)
          have HTd := Lib.hid (show TB tb 2 tx 0 ln cl w7.drew from Blk.drew1 HT7.out)
          have HBd := Lib.hid HB7.out.drew1
          have HOd := Lib.hid (only_drew HO77.out)
          clear HS5 HB5 HO5
          refine wp_region_G (S0 := (fun _ : World => True)) (S1 := (fun _ : World => True)) (c := 99) (by kernel_rfl) ?_
          have hHeld := trivial
          have h01 := (fun (W : World) (h : (fun _ : World => True) W) => h)
          refine wpG_takeB (i := 0) (oi := ⟨some 49, _, _, _, _, _⟩) (v := .pointer (some ⟨sb, 0, none⟩)) rfl (by kernel_rfl) (by kernel_rfl) (by kernel_rfl) (by decide) (fun _ _ _ h => h) h01 rfl hHeld (Or.inl ⟨by rfl, ?_⟩) ?_
          · (intro W9 hSw; go_simp; (try (first | with_reducible rfl | rfl | (simp; done))))
          try simp only [Act.put, List.setIfInBounds_toArray, List.set_cons_zero, List.set_cons_succ]
          refine wpG_takeB (i := 1) (oi := ⟨some 50, _, _, _, _, _⟩) (v := .pointer (some ⟨sb, 0, none⟩)) rfl (by kernel_rfl) (by kernel_rfl) (by kernel_rfl) (by decide) (fun _ _ _ h => h) h01 rfl hHeld (Or.inl ⟨by rfl, ?_⟩) ?_
          · (intro W9 hSw; go_simp; (try (first | with_reducible rfl | rfl | (simp; done))))
          try simp only [Act.put, List.setIfInBounds_toArray, List.set_cons_zero, List.set_cons_succ]
          refine wpG_takeB (i := 2) (oi := ⟨some 51, _, _, _, _, _⟩) (v := .pointer (some ⟨sb, 0, none⟩)) rfl (by kernel_rfl) (by kernel_rfl) (by kernel_rfl) (by decide) (fun _ _ _ h => h) h01 rfl hHeld (Or.inl ⟨by rfl, ?_⟩) ?_
          · (intro W9 hSw; go_simp; (try (first | with_reducible rfl | rfl | (simp; done))))
          try simp only [Act.put, List.setIfInBounds_toArray, List.set_cons_zero, List.set_cons_succ]
          refine wpG_takeB (i := 3) (oi := ⟨some 52, _, _, _, _, _⟩) (v := .pointer (some ⟨sb, 0, none⟩)) rfl (by kernel_rfl) (by kernel_rfl) (by kernel_rfl) (by decide) (fun _ _ _ h => h) h01 rfl hHeld (Or.inl ⟨by rfl, ?_⟩) ?_
          · (intro W9 hSw; go_simp; (try (first | with_reducible rfl | rfl | (simp; done))))
          try simp only [Act.put, List.setIfInBounds_toArray, List.set_cons_zero, List.set_cons_succ]
          refine wpG_takeB (i := 4) (oi := ⟨some 53, _, _, _, _, _⟩) (v := .pointer (some ⟨sb, 0, none⟩)) rfl (by kernel_rfl) (by kernel_rfl) (by kernel_rfl) (by decide) (fun _ _ _ h => h) h01 rfl hHeld (Or.inl ⟨by rfl, ?_⟩) ?_
          · (intro W9 hSw; go_simp; (try (first | with_reducible rfl | rfl | (simp; done))))
          try simp only [Act.put, List.setIfInBounds_toArray, List.set_cons_zero, List.set_cons_succ]
          refine wpG_takeB (i := 5) (oi := ⟨some 54, _, _, _, _, _⟩) (v := .pointer (some ⟨sb, 0, none⟩)) rfl (by kernel_rfl) (by kernel_rfl) (by kernel_rfl) (by decide) (fun _ _ _ h => h) h01 rfl hHeld (Or.inl ⟨by rfl, ?_⟩) ?_
          · (intro W9 hSw; go_simp; (try (first | with_reducible rfl | rfl | (simp; done))))
          try simp only [Act.put, List.setIfInBounds_toArray, List.set_cons_zero, List.set_cons_succ]
          refine wpG_oneB (i := 6) (o := ⟨some 55, _, _, _, _, _⟩) (by kernel_rfl) rfl rfl (fun K hK => ?_)
          go_simp
          (with_reducible refine (C74.out _ HSd.out).mono ?_); rintro e w5 ⟨rfl, hs5, hb5⟩
          have HS5 := Lib.hid hs5
          have HB5 := Lib.hid hb5
          clear hs5 hb5
          refine hK.out _ _ trivial (fun hHeld => ?_)
          clear hK K
          try simp only [Act.put, List.setIfInBounds_toArray, List.set_cons_zero, List.set_cons_succ]
          refine wpG_oneB (i := 7) (o := ⟨some 56, _, _, _, _, _⟩) (by kernel_rfl) rfl rfl (fun K hK => ?_)
          go_simp
          (with_reducible refine (C60.out _ HS5.out).mono ?_); rintro e w6 ⟨rfl, hs6, hb6⟩
          refine ⟨rfl, (HOd.out.below HB5.out).below hb6, ?_⟩
          rw [← HTT.out]
          exact ⟨rfl, hs6⟩
        | true =>
          rw [hy] at C74 hT
          rw [if_pos rfl] at hT
          have HTT : Hid (digsL 16 false (L.drop (i + 2)) 0 2 = T) := Lib.hid hT
          have C60 := Lib.hid (fun (W : World) (hs : Sc L sb (i + 2) W) => need_sy L sb (i + 2) W hs)
          clear h ht hn hb hi0 hlt hln hT hz hx hlt1 e2 hy
          generalize (⟨(L.drop i).toArray⟩ : ByteArray) = Sr at CA hsl
          go_enter Tryd.func56, Tryd.ntmps56
          go_upto_region 3 with (go_at_call 66; (with_reducible refine C67.out.mono ?_); rintro e w1 ⟨rfl, hs1, hb1⟩; have HS1 := Lib.hid hs1; have HT1 := Lib.hid (HTw.out.below hb1); have HO1 : Hid (Only (fun b => b = sb ∨ b = tb) w w1) := Lib.hid (Only.of_below hb1); clear hb1 hs1)
          have e0 := Blk.cell HT1.out 0
          have f0 := Blk.frozen HT1.out 0
          simp only [List.getElem?_toArray, List.getElem?_cons_zero] at e0
          go_upto_region 4 with fail
          have HS2 := Lib.hid (HS1.out.far hne 0 (.int .i64 ((2 : Nat) : Int)))
          have HT2 := Lib.hid (TB.kind (j := 2) HT1.out)
          have HO2 : Hid (Only (fun b => b = sb ∨ b = tb) w (w1.setCell ⟨tb, 0, none⟩ (.int .i64 ((2 : Nat) : Int)))) := Lib.hid (Only.set HO1.out (fun _ => .inr rfl) 0 _)
          obtain ⟨W2, hW2⟩ : ∃ W2, w1.setCell ⟨tb, 0, none⟩ (.int .i64 2) = W2 := ⟨_, rfl⟩
          have hW2' : w1.setCell ⟨tb, 0, none⟩ (.int .i64 ((2 : Nat) : Int)) = W2 := hW2
          rw [hW2'] at HS2 HT2 HO2
          rw [hW2]
          clear hW2 hW2' e0 f0
          go_upto_region 5 with (go_at_call 71; (with_reducible refine (C71.out _ HS2.out).mono ?_); rintro e w3 ⟨rfl, hb3⟩; have HB3 := Lib.hid hb3; clear hb3)
          obtain ⟨W3, hW3⟩ : ∃ W3, w3.alloc (.cells #[.int .i64 10] 3) = W3 := ⟨_, rfl⟩
          have hb9 : Below W2.heap.size W2 W3 := hW3 ▸ HB3.out.alloc HB3.out.size _
          have HS3 := Lib.hid (HS2.out.below hb9)
          have HT3 := Lib.hid (HT2.out.below hb9)
          have HO3 := Lib.hid (HO2.out.below hb9)
          obtain ⟨bb, hbb⟩ : ∃ bb, w3.heap.size = bb := ⟨_, rfl⟩
          have HB30 : Hid (Blk W3 bb 3 #[.int .i64 10]) := Lib.hid (hbb ▸ hW3 ▸ Blk.new w3 3 _)
          have HBG : Hid (w.heap.size ≤ bb) := Lib.hid (by have := HO2.out.size; have := HB3.out.size; omega)
          rw [hW3, hbb]
          clear hW3 hbb hb9 HB3
          have s0 := Blk.cell HS3.out 0
          have s1 := Blk.cell HS3.out 1
          simp only [List.getElem?_toArray, List.getElem?_cons_zero, List.getElem?_cons_succ] at s0 s1
          go_upto_region 6 with fail
          go_quiet (first | (go_at_call 72; refine Calls.quiet_of_same (CA.out _)))
          clear s0 s1 hsl
          obtain ⟨W4, hW4⟩ : ∃ W4, W3.drewN nq = W4 := ⟨_, rfl⟩
          have HS4 := Lib.hid (show Sc L sb i W4 from hW4 ▸ HS3.out.drewN nq)
          have HT4 := Lib.hid (show TB tb 2 tx 0 ln cl W4 from hW4 ▸ Blk.drewN HT3.out nq)
          have HB4 := Lib.hid (show Blk W4 bb 3 #[.int .i64 10] from hW4 ▸ HB30.out.drewN nq)
          have HO4 := Lib.hid (show Only (fun b => b = sb ∨ b = tb) w W4 from hW4 ▸ only_drewN HO3.out nq)
          rw [hW4]
          clear hW4
          have HNE0 := Lib.hid (And.intro (Blk.ne HB4.out HS4.out (by decide)) (Blk.ne HB4.out HT4.out (by decide)))
          have e0 := HB4.out.cell 0
          have f0 := HB4.out.frozen 0
          simp only [List.getElem?_toArray, List.getElem?_cons_zero] at e0
          go_upto_region 8 with fail
          obtain ⟨W5, hW5⟩ : ∃ W5, W4.setCell ⟨bb, 0, none⟩ (.int .i64 16) = W5 := ⟨_, rfl⟩
          have HS5 := Lib.hid (show Sc L sb i W5 from hW5 ▸ HS4.out.far (fun e => HNE0.out.1 e.symm) 0 _)
          have HT5 := Lib.hid (show TB tb 2 tx 0 ln cl W5 from hW5 ▸ (Below.heap_setCell _ _ _ _ (by simpa using fun e => HNE0.out.2 e.symm)).trans HT4.out)
          have HB5 := Lib.hid (show Blk W5 bb 3 #[.int .i64 16] from by have := HB4.out.set_ 0 (.int .i64 16); rw [hW5] at this; simpa using this)
          have HO5 := Lib.hid (show Only (fun b => b = sb ∨ b = tb) w W5 from hW5 ▸ HO4.out.set (fun hlt9 => absurd hlt9 (by have := HBG.out; omega)) 0 _)
          rw [hW5]
          clear hW5 e0 f0
          go_upto_region 9 with (go_at_call 73; (with_reducible refine (C73a.out _ HS5.out).mono ?_); rintro e w6 ⟨rfl, hs6, ho6⟩; have HS6 := Lib.hid hs6; have HO6 := Lib.hid ho6; clear hs6 ho6)
          go_upto_region 10 with (go_at_call 73; (with_reducible refine (C73b.out _ HS6.out).mono ?_); rintro e w7 ⟨rfl, hs7, ho7⟩; have HS7 := Lib.hid hs7; have HO7 := Lib.hid ho7; clear hs7 ho7)
          have HT7 := Lib.hid ((HT5.out.only HO6.out (fun e => hne e.symm)).only HO7.out (fun e => hne e.symm))
          have HB7 := Lib.hid (Blk.only (Blk.only HB5.out HO6.out (fun e => HNE0.out.1 e)) HO7.out (fun e => HNE0.out.1 e))
          have HO77 := Lib.hid ((HO5.out.tr HO6.out.sb).tr HO7.out.sb)
          have HSd := Lib.hid (show Sc L sb (i + 2) w7.drew from HS7.out.drew)
          have HTd := Lib.hid (show TB tb 2 tx 0 ln cl w7.drew from Blk.drew1 HT7.out)
          have HBd := Lib.hid HB7.out.drew1
          have HOd := Lib.hid (only_drew HO77.out)
          clear HS5 HB5 HO5
          refine wp_region_G (S0 := (fun _ : World => True)) (S1 := (fun _ : World => True)) (c := 99) (by kernel_rfl) ?_
          have hHeld := trivial
          have h01 := (fun (W : World) (h : (fun _ : World => True) W) => h)
          refine wpG_takeB (i := 0) (oi := ⟨some 49, _, _, _, _, _⟩) (v := .pointer (some ⟨sb, 0, none⟩)) rfl (by kernel_rfl) (by kernel_rfl) (by kernel_rfl) (by decide) (fun _ _ _ h => h) h01 rfl hHeld (Or.inl ⟨by rfl, ?_⟩) ?_
          · (intro W9 hSw; go_simp; (try (first | with_reducible rfl | rfl | (simp; done))))
          try simp only [Act.put, List.setIfInBounds_toArray, List.set_cons_zero, List.set_cons_succ]
          refine wpG_takeB (i := 1) (oi := ⟨some 50, _, _, _, _, _⟩) (v := .pointer (some ⟨sb, 0, none⟩)) rfl (by kernel_rfl) (by kernel_rfl) (by kernel_rfl) (by decide) (fun _ _ _ h => h) h01 rfl hHeld (Or.inl ⟨by rfl, ?_⟩) ?_
          · (intro W9 hSw; go_simp; (try (first | with_reducible rfl | rfl | (simp; done))))
          try simp only [Act.put, List.setIfInBounds_toArray, List.set_cons_zero, List.set_cons_succ]
          refine wpG_takeB (i := 2) (oi := ⟨some 51, _, _, _, _, _⟩) (v := .pointer (some ⟨sb, 0, none⟩)) rfl (by kernel_rfl) (by kernel_rfl) (by kernel_rfl) (by decide) (fun _ _ _ h => h) h01 rfl hHeld (Or.inl ⟨by rfl, ?_⟩) ?_
          · (intro W9 hSw; go_simp; (try (first | with_reducible rfl | rfl | (simp; done))))
          try simp only [Act.put, List.setIfInBounds_toArray, List.set_cons_zero, List.set_cons_succ]
          refine wpG_takeB (i := 3) (oi := ⟨some 52, _, _, _, _, _⟩) (v := .pointer (some ⟨sb, 0, none⟩)) rfl (by kernel_rfl) (by kernel_rfl) (by kernel_rfl) (by decide) (fun _ _ _ h => h) h01 rfl hHeld (Or.inl ⟨by rfl, ?_⟩) ?_
          · (intro W9 hSw; go_simp; (try (first | with_reducible rfl | rfl | (simp; done))))
          try simp only [Act.put, List.setIfInBounds_toArray, List.set_cons_zero, List.set_cons_succ]
          refine wpG_takeB (i := 4) (oi := ⟨some 53, _, _, _, _, _⟩) (v := .pointer (some ⟨sb, 0, none⟩)) rfl (by kernel_rfl) (by kernel_rfl) (by kernel_rfl) (by decide) (fun _ _ _ h => h) h01 rfl hHeld (Or.inl ⟨by rfl, ?_⟩) ?_
          · (intro W9 hSw; go_simp; (try (first | with_reducible rfl | rfl | (simp; done))))
          try simp only [Act.put, List.setIfInBounds_toArray, List.set_cons_zero, List.set_cons_succ]
          refine wpG_takeB (i := 5) (oi := ⟨some 54, _, _, _, _, _⟩) (v := .pointer (some ⟨sb, 0, none⟩)) rfl (by kernel_rfl) (by kernel_rfl) (by kernel_rfl) (by decide) (fun _ _ _ h => h) h01 rfl hHeld (Or.inl ⟨by rfl, ?_⟩) ?_
          · (intro W9 hSw; go_simp; (try (first | with_reducible rfl | rfl | (simp; done))))
          try simp only [Act.put, List.setIfInBounds_toArray, List.set_cons_zero, List.set_cons_succ]
          refine wpG_oneB (i := 6) (o := ⟨some 55, _, _, _, _, _⟩) (by kernel_rfl) rfl rfl (fun K hK => ?_)
          go_simp
          (with_reducible refine (C74.out _ HSd.out).mono ?_); rintro e w5 ⟨rfl, hs5, hb5⟩
          have HS5 := Lib.hid hs5
          have HB5 := Lib.hid hb5
          clear hs5 hb5
          refine hK.out _ _ trivial (fun hHeld => ?_)
          clear hK K
          try simp only [Act.put, List.setIfInBounds_toArray, List.set_cons_zero, List.set_cons_succ]
          refine wpG_oneB (i := 7) (o := ⟨some 56, _, _, _, _, _⟩) (by kernel_rfl) rfl rfl (fun K hK => ?_)
          go_simp
          (with_reducible refine (C60.out _ HS5.out).mono ?_); rintro e w8 ⟨rfl, hs8, hb8⟩
          have HS8 := Lib.hid hs8
          have HB8 := Lib.hid hb8
          clear hs8 hb8
          refine hK.out _ _ trivial (fun hHeld => ?_)
          clear hK K
          try simp only [Act.put, List.setIfInBounds_toArray, List.set_cons_zero, List.set_cons_succ]
          refine wpG_done (by kernel_rfl) ?_ _
          clear hHeld h01
          have HSs := HS8
          have HTs := Lib.hid (TB.below (TB.below HTd.out HB5.out) HB8.out)
          have HBs := Lib.hid (Blk.below (Blk.below HBd.out HB5.out HBd.out.lt) HB8.out (Blk.below HBd.out HB5.out HBd.out.lt).lt)
          have HOs := Lib.hid ((HOd.out.below HB5.out).below HB8.out)
          go_wp2_with fail
          have HNE := Lib.hid (And.intro hne (And.intro (Blk.ne HBs.out HSs.out (by decide)) (Blk.ne HBs.out HTs.out (by decide))))
          have HBOX := Lib.hid (show w.heap.size ≤ bb from HBG.out)
          go_loopw [] (fun wr => ∃ (n : Nat) (v : Int), Hid (i + n ≤ L.length) ∧ 0 ≤ v ∧ v ≤ 4611686018427387904 ∧ Hid (digsL 16 false (L.drop (i + n)) v n = T) ∧ Hid (Sc L sb (i + n) wr) ∧ Hid (TB tb 2 tx v ln cl wr) ∧ Hid (Blk wr bb 3 #[.int .i64 16]) ∧ Hid (Only (fun b => b = sb ∨ b = tb) w wr)) (fun wr => L.length - atOf sb wr)
          case atStart => exact ⟨2, 0, HL0.out, by omega, by omega, HTT.out, HSs.out, HTs.out, HBs.out, HOs.out⟩
          case round =>
            obtain ⟨n, v, HLE, hv0, hv1, HT0, HS, HT, HB, HO⟩ := hrel
            have C76 := Lib.hid (next_cap 76 (digB 16) (.pointer (some ⟨bb, 0, none⟩)) L sb (i + n) wr (pc76 16 bb wr HB.out) HS.out HN.out)
            cases hb : headP (digB 16) (L.drop (i + n)) with
            | true =>
              rw [hb] at C76
              have hlt : i + n < L.length := headP_drop hb
              obtain ⟨d0, d1, hT⟩ := digs_true (al := false) (v := v) (n := n) hlt hb
              have hT0 := HT0.out
              rw [hT] at hT0
              have hidx := run_idx L (i + n) hlt
              have C75 := Lib.hid (fun (W : World) => hex_any ((L[i + n]).toNat : Int) W (u8r _).1 (u8r _).2)
              generalize hexI ((L[i + n]).toNat : Int) = d at *
              generalize ((L[i + n]).toNat : Int) = x at *
              have s0 := Blk.cell HS.out 0
              have s1 := Blk.cell HS.out 1
              simp only [List.getElem?_toArray, List.getElem?_cons_zero, List.getElem?_cons_succ] at s0 s1
              have HS1 := Lib.hid (fun m => HS.out.drewN m)
              have HT1 : Hid (∀ m, TB tb 2 tx v ln cl (wr.drewN m)) := Lib.hid (fun m => Blk.drewN HT.out m)
              have HB1 := Lib.hid (fun m => HB.out.drewN m)
              have HO1 := Lib.hid (fun m => only_drewN HO.out m)
              have HTX := Lib.hid hT0
              have HLT := Lib.hid hlt
              obtain ⟨J, hJ⟩ : ∃ J : Int, (((i + n : Nat)) : Int) = J := ⟨_, rfl⟩
              rw [hJ] at hidx s1
              have HJ := Lib.hid hJ
              have HD0 := Lib.hid (And.intro d0 d1)
              have HV := Lib.hid (And.intro hv0 hv1)
              generalize hSt : (⟨L.toArray⟩ : ByteArray) = St at hidx s0
              clear hb hT hT0 hlt hJ d0 d1 hv0 hv1 hSt
              go_upto_region 12 with (go_at_call 66; (with_reducible refine C76.out.mono ?_); rintro e w1 ⟨rfl, m, rfl⟩)
              obtain ⟨W0, hW0⟩ : ∃ W0, wr.drewN m = W0 := ⟨_, rfl⟩
              have s0' : W0.cell? ⟨sb, 0, none⟩ = some (.string St) := by rw [← hW0]; exact s0
              have s1' : W0.cell? ⟨sb, 1, none⟩ = some (.int .i64 J) := by rw [← hW0]; exact s1
              replace HS1 := Lib.hid (fun (k : Nat) => (hW0 ▸ HS1.out m : Sc L sb (i + n) W0).drewN k)
              replace HT1 : Hid (∀ k, TB tb 2 tx v ln cl (W0.drewN k)) := Lib.hid (fun k => Blk.drewN (hW0 ▸ HT1.out m : TB tb 2 tx v ln cl W0) k)
              replace HB1 := Lib.hid (fun (k : Nat) => (hW0 ▸ HB1.out m : Blk W0 bb 3 #[.int .i64 16]).drewN k)
              replace HO1 := Lib.hid (fun (k : Nat) => only_drewN (hW0 ▸ HO1.out m : Only (fun b => b = sb ∨ b = tb) w W0) k)
              rw [hW0]
              clear hW0 s0 s1
              go_quiet (first | (go_at_call 75; refine Calls.quiet_of_same (C75.out _)))
              go_upto_region 13 with fail
              clear hidx s0' s1'
              obtain ⟨W1, hW1⟩ : ∃ W1, W0.drewN nq = W1 := ⟨_, rfl⟩
              have HSa := Lib.hid (show Sc L sb (i + n) W1 from hW1 ▸ HS1.out nq)
              have HTa := Lib.hid (show TB tb 2 tx v ln cl W1 from hW1 ▸ HT1.out nq)
              have HBa := Lib.hid (show Blk W1 bb 3 #[.int .i64 16] from hW1 ▸ HB1.out nq)
              have HOa := Lib.hid (show Only (fun b => b = sb ∨ b = tb) w W1 from hW1 ▸ HO1.out nq)
              have HSd := Lib.hid HSa.out.drew
              have HTd := Lib.hid (show TB tb 2 tx v ln cl W1.drew from Blk.drew1 HTa.out)
              have HBd := Lib.hid HBa.out.drew1
              have HOd := Lib.hid (only_drew HOa.out)
              have HNd := Lib.hid (show NumS sb tb bb J v 16 W1.drew from by have := nums_of HSd.out HTd.out HBd.out; rw [HJ.out] at this; exact this)
              rw [hW1]
              clear hW1
              have C60y := Lib.hid (fun (W : World) => need_yes sb W)
              have C60n := Lib.hid (fun (W : World) (hs : Sc L sb (i + n) W) => need_sn L sb (i + n) W hs HLE.out HN.out)
              obtain ⟨qq, hqq⟩ : ∃ qq : Int, (4611686018427387904 - d) / 16 = qq := ⟨_, rfl⟩
              have HQ : Hid (Int.tdiv (4611686018427387904 - d) 16 = qq) := Lib.hid (by have := HD0.out; rw [Int.tdiv_eq_ediv_of_nonneg (by omega)]; exact hqq)
              have HQQ := Lib.hid hqq
              have HWD : Hid (IntKind.i64.wrap (4611686018427387904 - d) = 4611686018427387904 - d) := Lib.hid (by rw [IntKind.wrap_i64]; have := HD0.out; omega)
              have HWQ : Hid (IntKind.i64.wrap qq = qq) := Lib.hid (by rw [IntKind.wrap_i64]; have := HD0.out; omega)
              by_cases hvq : v ≤ qq
              ·
                have q9 : decide (v ≤ qq) = true := decide_eq_true hvq
                have hvb : 16 * v + d ≤ 4611686018427387904 := by have := HQQ.out; have := HD0.out; omega
                have HW1 : Hid (IntKind.i64.wrap (16 * v) = 16 * v) := Lib.hid (by rw [IntKind.wrap_i64]; have := HV.out; have := HD0.out; omega)
                have HW2 : Hid (IntKind.i64.wrap (16 * v + d) = 16 * v + d) := Lib.hid (by rw [IntKind.wrap_i64]; have := HV.out; have := HD0.out; omega)
                have HVB := Lib.hid (show 0 ≤ 16 * v + d ∧ 16 * v + d ≤ 4611686018427387904 by have := HV.out; have := HD0.out; omega)
                have HVQ := Lib.hid hvq
                clear hvq hvb hqq
                refine wp_region_G (S0 := (NumS sb tb bb J v 16)) (S1 := (NumS sb tb bb J v 16)) (c := 99) (by kernel_rfl) ?_
                have hHeld := HNd.out
                have h01 := (fun (W : World) (h : (NumS sb tb bb J v 16) W) => h)
                refine wpG_takeB (i := 0) (oi := ⟨some 74, _, _, _, _, _⟩) (v := .pointer (some ⟨sb, 0, none⟩)) rfl (by kernel_rfl) (by kernel_rfl) (by kernel_rfl) (by decide) (fun _ _ _ h => h) h01 rfl hHeld (Or.inl ⟨by rfl, ?_⟩) ?_
                · (intro W9 hSw; obtain ⟨v1, v2, v3⟩ := hSw; have hq := HQ.out; have hd0 := HD0.out; go_simp; (try (first | with_reducible rfl | rfl | (rw [HWD.out]; done) | (rw [HQ.out]; done) | (rw [HWQ.out]; done) | (rw [HQ.out, HWQ.out]; done) | (simp; done))))
                try simp only [Act.put, List.setIfInBounds_toArray, List.set_cons_zero, List.set_cons_succ]
                refine wpG_takeB (i := 1) (oi := ⟨some 75, _, _, _, _, _⟩) (v := .pointer (some ⟨sb, 0, none⟩)) rfl (by kernel_rfl) (by kernel_rfl) (by kernel_rfl) (by decide) (fun _ _ _ h => h) h01 rfl hHeld (Or.inl ⟨by rfl, ?_⟩) ?_
                · (intro W9 hSw; obtain ⟨v1, v2, v3⟩ := hSw; have hq := HQ.out; have hd0 := HD0.out; go_simp; (try (first | with_reducible rfl | rfl | (rw [HWD.out]; done) | (rw [HQ.out]; done) | (rw [HWQ.out]; done) | (rw [HQ.out, HWQ.out]; done) | (simp; done))))
                try simp only [Act.put, List.setIfInBounds_toArray, List.set_cons_zero, List.set_cons_succ]
                refine wpG_takeB (i := 2) (oi := ⟨some 76, _, _, _, _, _⟩) (v := .pointer (some ⟨sb, 0, none⟩)) rfl (by kernel_rfl) (by kernel_rfl) (by kernel_rfl) (by decide) (fun _ _ _ h => h) h01 rfl hHeld (Or.inl ⟨by rfl, ?_⟩) ?_
                · (intro W9 hSw; obtain ⟨v1, v2, v3⟩ := hSw; have hq := HQ.out; have hd0 := HD0.out; go_simp; (try (first | with_reducible rfl | rfl | (rw [HWD.out]; done) | (rw [HQ.out]; done) | (rw [HWQ.out]; done) | (rw [HQ.out, HWQ.out]; done) | (simp; done))))
                try simp only [Act.put, List.setIfInBounds_toArray, List.set_cons_zero, List.set_cons_succ]
                refine wpG_takeB (i := 3) (oi := ⟨some 77, _, _, _, _, _⟩) (v := .bool false) rfl (by kernel_rfl) (by kernel_rfl) (by kernel_rfl) (by decide) (fun _ _ _ h => h) h01 rfl hHeld (Or.inl ⟨by rfl, ?_⟩) ?_
                · (intro W9 hSw; obtain ⟨v1, v2, v3⟩ := hSw; have hq := HQ.out; have hd0 := HD0.out; go_simp; (try (first | with_reducible rfl | rfl | (rw [HWD.out]; done) | (rw [HQ.out]; done) | (rw [HWQ.out]; done) | (rw [HQ.out, HWQ.out]; done) | (simp; done))))
                try simp only [Act.put, List.setIfInBounds_toArray, List.set_cons_zero, List.set_cons_succ]
                refine wpG_takeB (i := 4) (oi := ⟨some 78, _, _, _, _, _⟩) (v := .bool true) rfl (by kernel_rfl) (by kernel_rfl) (by kernel_rfl) (by decide) (fun _ _ _ h => h) h01 rfl hHeld (Or.inl ⟨by rfl, ?_⟩) ?_
                · (intro W9 hSw; obtain ⟨v1, v2, v3⟩ := hSw; have hq := HQ.out; have hd0 := HD0.out; go_simp; (try (first | with_reducible rfl | rfl | (rw [HWD.out]; done) | (rw [HQ.out]; done) | (rw [HWQ.out]; done) | (rw [HQ.out, HWQ.out]; done) | (simp; done))))
                try simp only [Act.put, List.setIfInBounds_toArray, List.set_cons_zero, List.set_cons_succ]
                refine wpG_takeB (i := 5) (oi := ⟨some 79, _, _, _, _, _⟩) (v := .bool true) rfl (by kernel_rfl) (by kernel_rfl) (by kernel_rfl) (by decide) (fun _ _ _ h => h) h01 rfl hHeld (Or.inl ⟨by rfl, ?_⟩) ?_
                · (intro W9 hSw; obtain ⟨v1, v2, v3⟩ := hSw; have hq := HQ.out; have hd0 := HD0.out; go_simp; (try (first | with_reducible rfl | rfl | (rw [HWD.out]; done) | (rw [HQ.out]; done) | (rw [HWQ.out]; done) | (rw [HQ.out, HWQ.out]; done) | (simp; done))))
                try simp only [Act.put, List.setIfInBounds_toArray, List.set_cons_zero, List.set_cons_succ]
                refine wpG_takeB (i := 6) (oi := ⟨some 80, _, _, _, _, _⟩) (v := undef) rfl (by kernel_rfl) (by kernel_rfl) (by kernel_rfl) (by decide) (fun _ _ _ h => h) h01 rfl hHeld (Or.inr ⟨by rfl, rfl⟩) ?_
                try simp only [Act.put, List.setIfInBounds_toArray, List.set_cons_zero, List.set_cons_succ]
                refine wpG_takeB (i := 7) (oi := ⟨some 81, _, _, _, _, _⟩) (v := undef) rfl (by kernel_rfl) (by kernel_rfl) (by kernel_rfl) (by decide) (fun _ _ _ h => h) h01 rfl hHeld (Or.inr ⟨by rfl, rfl⟩) ?_
                try simp only [Act.put, List.setIfInBounds_toArray, List.set_cons_zero, List.set_cons_succ]
                refine wpG_takeB (i := 8) (oi := ⟨some 82, _, _, _, _, _⟩) (v := undef) rfl (by kernel_rfl) (by kernel_rfl) (by kernel_rfl) (by decide) (fun _ _ _ h => h) h01 rfl hHeld (Or.inr ⟨by rfl, rfl⟩) ?_
                try simp only [Act.put, List.setIfInBounds_toArray, List.set_cons_zero, List.set_cons_succ]
                refine wpG_takeB (i := 9) (oi := ⟨some 83, _, _, _, _, _⟩) (v := undef) rfl (by kernel_rfl) (by kernel_rfl) (by kernel_rfl) (by decide) (fun _ _ _ h => h) h01 rfl hHeld (Or.inr ⟨by rfl, rfl⟩) ?_
                try simp only [Act.put, List.setIfInBounds_toArray, List.set_cons_zero, List.set_cons_succ]
                refine wpG_takeB (i := 10) (oi := ⟨some 84, _, _, _, _, _⟩) (v := undef) rfl (by kernel_rfl) (by kernel_rfl) (by kernel_rfl) (by decide) (fun _ _ _ h => h) h01 rfl hHeld (Or.inr ⟨by rfl, rfl⟩) ?_
                try simp only [Act.put, List.setIfInBounds_toArray, List.set_cons_zero, List.set_cons_succ]
                refine wpG_takeB (i := 11) (oi := ⟨some 85, _, _, _, _, _⟩) (v := undef) rfl (by kernel_rfl) (by kernel_rfl) (by kernel_rfl) (by decide) (fun _ _ _ h => h) h01 rfl hHeld (Or.inr ⟨by rfl, rfl⟩) ?_
                try simp only [Act.put, List.setIfInBounds_toArray, List.set_cons_zero, List.set_cons_succ]
                refine wpG_takeB (i := 12) (oi := ⟨some 86, _, _, _, _, _⟩) (v := undef) rfl (by kernel_rfl) (by kernel_rfl) (by kernel_rfl) (by decide) (fun _ _ _ h => h) h01 rfl hHeld (Or.inr ⟨by rfl, rfl⟩) ?_
                try simp only [Act.put, List.setIfInBounds_toArray, List.set_cons_zero, List.set_cons_succ]
                refine wpG_takeB (i := 13) (oi := ⟨some 87, _, _, _, _, _⟩) (v := .bool true) rfl (by kernel_rfl) (by kernel_rfl) (by kernel_rfl) (by decide) (fun _ _ _ h => h) h01 rfl hHeld (Or.inl ⟨by rfl, ?_⟩) ?_
                · (intro W9 hSw; obtain ⟨v1, v2, v3⟩ := hSw; have hq := HQ.out; have hd0 := HD0.out; go_simp; (try (first | with_reducible rfl | rfl | (rw [HWD.out]; done) | (rw [HQ.out]; done) | (rw [HWQ.out]; done) | (rw [HQ.out, HWQ.out]; done) | (simp; done))))
                try simp only [Act.put, List.setIfInBounds_toArray, List.set_cons_zero, List.set_cons_succ]
                refine wpG_takeB (i := 14) (oi := ⟨some 88, _, _, _, _, _⟩) (v := .bool true) rfl (by kernel_rfl) (by kernel_rfl) (by kernel_rfl) (by decide) (fun _ _ _ h => h) h01 rfl hHeld (Or.inl ⟨by rfl, ?_⟩) ?_
                · (intro W9 hSw; obtain ⟨v1, v2, v3⟩ := hSw; have hq := HQ.out; have hd0 := HD0.out; go_simp; (try (first | with_reducible rfl | rfl | (rw [HWD.out]; done) | (rw [HQ.out]; done) | (rw [HWQ.out]; done) | (rw [HQ.out, HWQ.out]; done) | (simp; done))))
                try simp only [Act.put, List.setIfInBounds_toArray, List.set_cons_zero, List.set_cons_succ]
                refine wpG_takeB (i := 15) (oi := ⟨some 89, _, _, _, _, _⟩) (v := .pointer (some ⟨tb, 0, none⟩)) rfl (by kernel_rfl) (by kernel_rfl) (by kernel_rfl) (by decide) (fun _ _ _ h => h) h01 rfl hHeld (Or.inl ⟨by rfl, ?_⟩) ?_
                · (intro W9 hSw; obtain ⟨v1, v2, v3⟩ := hSw; have hq := HQ.out; have hd0 := HD0.out; go_simp; (try (first | with_reducible rfl | rfl | (rw [HWD.out]; done) | (rw [HQ.out]; done) | (rw [HWQ.out]; done) | (rw [HQ.out, HWQ.out]; done) | (simp; done))))
                try simp only [Act.put, List.setIfInBounds_toArray, List.set_cons_zero, List.set_cons_succ]
                refine wpG_takeB (i := 16) (oi := ⟨some 90, _, _, _, _, _⟩) (v := .pointer (some ⟨tb, 0, none⟩)) rfl (by kernel_rfl) (by kernel_rfl) (by kernel_rfl) (by decide) (fun _ _ _ h => h) h01 rfl hHeld (Or.inl ⟨by rfl, ?_⟩) ?_
                · (intro W9 hSw; obtain ⟨v1, v2, v3⟩ := hSw; have hq := HQ.out; have hd0 := HD0.out; go_simp; (try (first | with_reducible rfl | rfl | (rw [HWD.out]; done) | (rw [HQ.out]; done) | (rw [HWQ.out]; done) | (rw [HQ.out, HWQ.out]; done) | (simp; done))))
                try simp only [Act.put, List.setIfInBounds_toArray, List.set_cons_zero, List.set_cons_succ]
                refine wpG_takeB (i := 17) (oi := ⟨some 91, _, _, _, _, _⟩) (v := .pointer (some ⟨tb, 2, none⟩)) rfl (by kernel_rfl) (by kernel_rfl) (by kernel_rfl) (by decide) (fun _ _ _ h => h) h01 rfl hHeld (Or.inl ⟨by rfl, ?_⟩) ?_
                · (intro W9 hSw; obtain ⟨v1, v2, v3⟩ := hSw; have hq := HQ.out; have hd0 := HD0.out; go_simp; (try (first | with_reducible rfl | rfl | (rw [HWD.out]; done) | (rw [HQ.out]; done) | (rw [HWQ.out]; done) | (rw [HQ.out, HWQ.out]; done) | (simp; done))))
                try simp only [Act.put, List.setIfInBounds_toArray, List.set_cons_zero, List.set_cons_succ]
                refine wpG_takeB (i := 18) (oi := ⟨some 92, _, _, _, _, _⟩) (v := .int .i64 v) rfl (by kernel_rfl) (by kernel_rfl) (by kernel_rfl) (by decide) (fun _ _ _ h => h) h01 rfl hHeld (Or.inl ⟨by rfl, ?_⟩) ?_
                · (intro W9 hSw; obtain ⟨v1, v2, v3⟩ := hSw; have hq := HQ.out; have hd0 := HD0.out; go_simp; (try (first | with_reducible rfl | rfl | (rw [HWD.out]; done) | (rw [HQ.out]; done) | (rw [HWQ.out]; done) | (rw [HQ.out, HWQ.out]; done) | (simp; done))))
                try simp only [Act.put, List.setIfInBounds_toArray, List.set_cons_zero, List.set_cons_succ]
                refine wpG_takeB (i := 19) (oi := ⟨some 93, _, _, _, _, _⟩) (v := .int .i64 d) rfl (by kernel_rfl) (by kernel_rfl) (by kernel_rfl) (by decide) (fun _ _ _ h => h) h01 rfl hHeld (Or.inl ⟨by rfl, ?_⟩) ?_
                · (intro W9 hSw; obtain ⟨v1, v2, v3⟩ := hSw; have hq := HQ.out; have hd0 := HD0.out; go_simp; (try (first | with_reducible rfl | rfl | (rw [HWD.out]; done) | (rw [HQ.out]; done) | (rw [HWQ.out]; done) | (rw [HQ.out, HWQ.out]; done) | (simp; done))))
                try simp only [Act.put, List.setIfInBounds_toArray, List.set_cons_zero, List.set_cons_succ]
                refine wpG_takeB (i := 20) (oi := ⟨some 94, _, _, _, _, _⟩) (v := .int .i64 (4611686018427387904 - d)) rfl (by kernel_rfl) (by kernel_rfl) (by kernel_rfl) (by decide) (fun _ _ _ h => h) h01 rfl hHeld (Or.inl ⟨by rfl, ?_⟩) ?_
                · (intro W9 hSw; obtain ⟨v1, v2, v3⟩ := hSw; have hq := HQ.out; have hd0 := HD0.out; go_simp; (try (first | with_reducible rfl | rfl | (rw [HWD.out]; done) | (rw [HQ.out]; done) | (rw [HWQ.out]; done) | (rw [HQ.out, HWQ.out]; done) | (simp; done))))
                try simp only [Act.put, List.setIfInBounds_toArray, List.set_cons_zero, List.set_cons_succ]
                refine wpG_takeB (i := 21) (oi := ⟨some 95, _, _, _, _, _⟩) (v := .int .i64 16) rfl (by kernel_rfl) (by kernel_rfl) (by kernel_rfl) (by decide) (fun _ _ _ h => h) h01 rfl hHeld (Or.inl ⟨by rfl, ?_⟩) ?_
                · (intro W9 hSw; obtain ⟨v1, v2, v3⟩ := hSw; have hq := HQ.out; have hd0 := HD0.out; go_simp; (try (first | with_reducible rfl | rfl | (rw [HWD.out]; done) | (rw [HQ.out]; done) | (rw [HWQ.out]; done) | (rw [HQ.out, HWQ.out]; done) | (simp; done))))
                try simp only [Act.put, List.setIfInBounds_toArray, List.set_cons_zero, List.set_cons_succ]
                refine wpG_takeB (i := 22) (oi := ⟨some 96, _, _, _, _, _⟩) (v := .int .i64 qq) rfl (by kernel_rfl) (by kernel_rfl) (by kernel_rfl) (by decide) (fun _ _ _ h => h) h01 rfl hHeld (Or.inl ⟨by rfl, ?_⟩) ?_
                · (intro W9 hSw; obtain ⟨v1, v2, v3⟩ := hSw; have hq := HQ.out; have hd0 := HD0.out; go_simp; (try (first | with_reducible rfl | rfl | (rw [HWD.out]; done) | (rw [HQ.out]; done) | (rw [HWQ.out]; done) | (rw [HQ.out, HWQ.out]; done) | (simp; done))))
                try simp only [Act.put, List.setIfInBounds_toArray, List.set_cons_zero, List.set_cons_succ]
                refine wpG_takeB (i := 23) (oi := ⟨some 97, _, _, _, _, _⟩) (v := .bool true) rfl (by kernel_rfl) (by kernel_rfl) (by kernel_rfl) (by decide) (fun _ _ _ h => h) h01 rfl hHeld (Or.inl ⟨by rfl, ?_⟩) ?_
                · (intro W9 hSw; obtain ⟨v1, v2, v3⟩ := hSw; have hq := HQ.out; have hd0 := HD0.out; go_simp; (try (first | with_reducible rfl | rfl | (rw [HWD.out]; done) | (rw [HQ.out]; done) | (rw [HWQ.out]; done) | (rw [HQ.out, HWQ.out]; done) | (simp; done))))
                try simp only [Act.put, List.setIfInBounds_toArray, List.set_cons_zero, List.set_cons_succ]
                refine wpG_takeB (i := 24) (oi := ⟨some 98, _, _, _, _, _⟩) (v := .bool true) rfl (by kernel_rfl) (by kernel_rfl) (by kernel_rfl) (by decide) (fun _ _ _ h => h) h01 rfl hHeld (Or.inl ⟨by rfl, ?_⟩) ?_
                · (intro W9 hSw; obtain ⟨v1, v2, v3⟩ := hSw; have hq := HQ.out; have hd0 := HD0.out; go_simp; (try (first | with_reducible rfl | rfl | (rw [HWD.out]; done) | (rw [HQ.out]; done) | (rw [HWQ.out]; done) | (rw [HQ.out, HWQ.out]; done) | (simp; done))))
                try simp only [Act.put, List.setIfInBounds_toArray, List.set_cons_zero, List.set_cons_succ]
                refine wpG_oneB (i := 25) (o := ⟨some 99, _, _, _, _, _⟩) (by kernel_rfl) rfl rfl (fun K hK => ?_)
                go_simp
                (with_reducible refine (C60y.out _).mono ?_); rintro e w6 ⟨rfl, rfl⟩
                refine hK.out _ _ hHeld (fun hHeld => ?_)
                clear hK K
                try simp only [Act.put, List.setIfInBounds_toArray, List.set_cons_zero, List.set_cons_succ]
                refine wpG_done (by kernel_rfl) ?_ _
                clear hHeld h01
                go_upto_region 14 with fail
                refine wp_region_G (S0 := (NumS sb tb bb J v 16)) (S1 := (fun _ : World => True)) (c := 11) (by kernel_rfl) ?_
                have hHeld := HNd.out
                have h01 := (fun (W : World) (h : (NumS sb tb bb J v 16) W) => trivial)
                refine wpG_take0 (i := 0) (oi := ⟨some 100, _, _, _, _, _⟩) (v := .pointer (some ⟨tb, 0, none⟩)) rfl (by kernel_rfl) (by kernel_rfl) (by kernel_rfl) (by decide) (by kernel_rfl) (fun _ _ _ h => h) rfl hHeld (Or.inl ⟨by rfl, ?_⟩) ?_
                · (intro W9 hSw; obtain ⟨v1, v2, v3⟩ := hSw; go_simp; (try (first | with_reducible rfl | rfl | (rw [HW1.out]; done) | (rw [HW2.out]; done) | (simp; done))))
                try simp only [Act.put, List.setIfInBounds_toArray, List.set_cons_zero, List.set_cons_succ]
                refine wpG_take0 (i := 1) (oi := ⟨some 101, _, _, _, _, _⟩) (v := .int .i64 16) rfl (by kernel_rfl) (by kernel_rfl) (by kernel_rfl) (by decide) (by kernel_rfl) (fun _ _ _ h => h) rfl hHeld (Or.inl ⟨by rfl, ?_⟩) ?_
                · (intro W9 hSw; obtain ⟨v1, v2, v3⟩ := hSw; go_simp; (try (first | with_reducible rfl | rfl | (rw [HW1.out]; done) | (rw [HW2.out]; done) | (simp; done))))
                try simp only [Act.put, List.setIfInBounds_toArray, List.set_cons_zero, List.set_cons_succ]
                refine wpG_take0 (i := 2) (oi := ⟨some 102, _, _, _, _, _⟩) (v := .pointer (some ⟨tb, 0, none⟩)) rfl (by kernel_rfl) (by kernel_rfl) (by kernel_rfl) (by decide) (by kernel_rfl) (fun _ _ _ h => h) rfl hHeld (Or.inl ⟨by rfl, ?_⟩) ?_
                · (intro W9 hSw; obtain ⟨v1, v2, v3⟩ := hSw; go_simp; (try (first | with_reducible rfl | rfl | (rw [HW1.out]; done) | (rw [HW2.out]; done) | (simp; done))))
                try simp only [Act.put, List.setIfInBounds_toArray, List.set_cons_zero, List.set_cons_succ]
                refine wpG_take0 (i := 3) (oi := ⟨some 103, _, _, _, _, _⟩) (v := .pointer (some ⟨tb, 0, none⟩)) rfl (by kernel_rfl) (by kernel_rfl) (by kernel_rfl) (by decide) (by kernel_rfl) (fun _ _ _ h => h) rfl hHeld (Or.inl ⟨by rfl, ?_⟩) ?_
                · (intro W9 hSw; obtain ⟨v1, v2, v3⟩ := hSw; go_simp; (try (first | with_reducible rfl | rfl | (rw [HW1.out]; done) | (rw [HW2.out]; done) | (simp; done))))
                try simp only [Act.put, List.setIfInBounds_toArray, List.set_cons_zero, List.set_cons_succ]
                refine wpG_take0 (i := 4) (oi := ⟨some 104, _, _, _, _, _⟩) (v := .pointer (some ⟨tb, 2, none⟩)) rfl (by kernel_rfl) (by kernel_rfl) (by kernel_rfl) (by decide) (by kernel_rfl) (fun _ _ _ h => h) rfl hHeld (Or.inl ⟨by rfl, ?_⟩) ?_
                · (intro W9 hSw; obtain ⟨v1, v2, v3⟩ := hSw; go_simp; (try (first | with_reducible rfl | rfl | (rw [HW1.out]; done) | (rw [HW2.out]; done) | (simp; done))))
                try simp only [Act.put, List.setIfInBounds_toArray, List.set_cons_zero, List.set_cons_succ]
                refine wpG_take0 (i := 5) (oi := ⟨some 105, _, _, _, _, _⟩) (v := .int .i64 v) rfl (by kernel_rfl) (by kernel_rfl) (by kernel_rfl) (by decide) (by kernel_rfl) (fun _ _ _ h => h) rfl hHeld (Or.inl ⟨by rfl, ?_⟩) ?_
                · (intro W9 hSw; obtain ⟨v1, v2, v3⟩ := hSw; go_simp; (try (first | with_reducible rfl | rfl | (rw [HW1.out]; done) | (rw [HW2.out]; done) | (simp; done))))
                try simp only [Act.put, List.setIfInBounds_toArray, List.set_cons_zero, List.set_cons_succ]
                refine wpG_take0 (i := 6) (oi := ⟨some 106, _, _, _, _, _⟩) (v := .int .i64 (16 * v)) rfl (by kernel_rfl) (by kernel_rfl) (by kernel_rfl) (by decide) (by kernel_rfl) (fun _ _ _ h => h) rfl hHeld (Or.inl ⟨by rfl, ?_⟩) ?_
                · (intro W9 hSw; obtain ⟨v1, v2, v3⟩ := hSw; go_simp; (try (first | with_reducible rfl | rfl | (rw [HW1.out]; done) | (rw [HW2.out]; done) | (simp; done))))
                try simp only [Act.put, List.setIfInBounds_toArray, List.set_cons_zero, List.set_cons_succ]
                refine wpG_take0 (i := 7) (oi := ⟨some 107, _, _, _, _, _⟩) (v := .int .i64 d) rfl (by kernel_rfl) (by kernel_rfl) (by kernel_rfl) (by decide) (by kernel_rfl) (fun _ _ _ h => h) rfl hHeld (Or.inl ⟨by rfl, ?_⟩) ?_
                · (intro W9 hSw; obtain ⟨v1, v2, v3⟩ := hSw; go_simp; (try (first | with_reducible rfl | rfl | (rw [HW1.out]; done) | (rw [HW2.out]; done) | (simp; done))))
                try simp only [Act.put, List.setIfInBounds_toArray, List.set_cons_zero, List.set_cons_succ]
                refine wpG_take0 (i := 8) (oi := ⟨some 108, _, _, _, _, _⟩) (v := .int .i64 (16 * v + d)) rfl (by kernel_rfl) (by kernel_rfl) (by kernel_rfl) (by decide) (by kernel_rfl) (fun _ _ _ h => h) rfl hHeld (Or.inl ⟨by rfl, ?_⟩) ?_
                · (intro W9 hSw; obtain ⟨v1, v2, v3⟩ := hSw; go_simp; (try (first | with_reducible rfl | rfl | (rw [HW1.out]; done) | (rw [HW2.out]; done) | (simp; done))))
                try simp only [Act.put, List.setIfInBounds_toArray, List.set_cons_zero, List.set_cons_succ]
                refine wpG_takeA (i := 9) (oi := ⟨some 109, _, _, _, _, _⟩) (v := .pointer (some ⟨tb, 0, none⟩)) rfl (by kernel_rfl) (by kernel_rfl) (by kernel_rfl) (by decide) (fun _ _ _ h => h) h01 rfl hHeld (Or.inl ⟨by rfl, ?_⟩) ?_
                · (intro W9 hSw; go_simp; (try (first | with_reducible rfl | rfl | (rw [HW1.out]; done) | (rw [HW2.out]; done) | (simp; done))))
                try simp only [Act.put, List.setIfInBounds_toArray, List.set_cons_zero, List.set_cons_succ]
                refine wpG_takeA (i := 10) (oi := ⟨some 110, _, _, _, _, _⟩) (v := .pointer (some ⟨tb, 2, none⟩)) rfl (by kernel_rfl) (by kernel_rfl) (by kernel_rfl) (by decide) (fun _ _ _ h => h) h01 rfl hHeld (Or.inl ⟨by rfl, ?_⟩) ?_
                · (intro W9 hSw; go_simp; (try (first | with_reducible rfl | rfl | (rw [HW1.out]; done) | (rw [HW2.out]; done) | (simp; done))))
                try simp only [Act.put, List.setIfInBounds_toArray, List.set_cons_zero, List.set_cons_succ]
                refine wpG_oneB (i := 11) (o := ⟨none, _, _, _, _, _⟩) (by kernel_rfl) rfl rfl (fun K hK => ?_)
                have kq := Blk.cell HTd.out 2
                simp only [List.getElem?_toArray, List.getElem?_cons_zero, List.getElem?_cons_succ] at kq
                have kz := Blk.frozen HTd.out 2
                go_simp
                clear kq kz
                refine hK.out _ _ trivial (fun hHeld => ?_)
                clear hK K
                try simp only [Act.put, List.setIfInBounds_toArray, List.set_cons_zero, List.set_cons_succ]
                refine wpG_done (by kernel_rfl) ?_ _
                clear hHeld h01
                have HSe := Lib.hid (show Sc L sb (i + n) (W1.setCell ⟨tb, 2, none⟩ (.int .i64 (16 * v + d))).drew.drew from (HSa.out.far HNE.out.1 2 _).drew.drew)
                have HTe := Lib.hid (show TB tb 2 tx (16 * v + d) ln cl (W1.setCell ⟨tb, 2, none⟩ (.int .i64 (16 * v + d))).drew.drew from Blk.drew1 (Blk.drew1 (TB.val HTa.out (16 * v + d))))
                have HBe := Lib.hid (show Blk (W1.setCell ⟨tb, 2, none⟩ (.int .i64 (16 * v + d))).drew.drew bb 3 #[.int .i64 16] from (HBa.out.far HNE.out.2.2 _).drew1.drew1)
                have HOe := Lib.hid (show Only (fun b => b = sb ∨ b = tb) w (W1.setCell ⟨tb, 2, none⟩ (.int .i64 (16 * v + d))).drew.drew from only_drew (only_drew (Only.set HOa.out (fun _ => .inr rfl) 2 _)))
                have C73 := Lib.hid (fun (W : World) (hs : Sc L sb (i + n) W) => pass_any L sb (i + n) W hs HLT.out HN.out)
                go_wp2_with (go_at_call 73; (with_reducible refine (C73.out _ HSe.out).mono ?_); rintro e w7 ⟨rfl, hs7, ho7⟩; have HS7 := Lib.hid hs7; have HO7 := Lib.hid ho7; clear hs7 ho7)
                go_roundw
                case rel => exact ⟨n + 1, 16 * v + d, Lib.hid (by have := HLT.out; omega), HVB.out.1, HVB.out.2, Lib.hid (by have := HTX.out; rw [if_neg (by simp), if_pos (by rw [HQQ.out]; exact HVQ.out)] at this; exact this), Lib.hid HS7.out, Lib.hid (HTe.out.only HO7.out (fun e => HNE.out.1 e.symm)), Lib.hid (HBe.out.only HO7.out (fun e => HNE.out.2.1 e)), Lib.hid (HOe.out.tr HO7.out.sb)⟩
                case measure => rw [HS7.out.at, HS.out.at]; have := HLT.out; omega
              ·
                have q9 : decide (v ≤ qq) = false := decide_eq_false hvq
                have HVQ := Lib.hid hvq
                clear hvq hqq
                refine wp_region_G (S0 := (NumS sb tb bb J v 16)) (S1 := (NumS sb tb bb J v 16)) (c := 99) (by kernel_rfl) ?_
                have hHeld := HNd.out
                have h01 := (fun (W : World) (h : (NumS sb tb bb J v 16) W) => h)
                refine wpG_takeB (i := 0) (oi := ⟨some 74, _, _, _, _, _⟩) (v := .pointer (some ⟨sb, 0, none⟩)) rfl (by kernel_rfl) (by kernel_rfl) (by kernel_rfl) (by decide) (fun _ _ _ h => h) h01 rfl hHeld (Or.inl ⟨by rfl, ?_⟩) ?_
                · (intro W9 hSw; obtain ⟨v1, v2, v3⟩ := hSw; have hq := HQ.out; have hd0 := HD0.out; go_simp; (try (first | with_reducible rfl | rfl | (rw [HWD.out]; done) | (rw [HQ.out]; done) | (rw [HWQ.out]; done) | (rw [HQ.out, HWQ.out]; done) | (simp; done))))
                try simp only [Act.put, List.setIfInBounds_toArray, List.set_cons_zero, List.set_cons_succ]
                refine wpG_takeB (i := 1) (oi := ⟨some 75, _, _, _, _, _⟩) (v := .pointer (some ⟨sb, 0, none⟩)) rfl (by kernel_rfl) (by kernel_rfl) (by kernel_rfl) (by decide) (fun _ _ _ h => h) h01 rfl hHeld (Or.inl ⟨by rfl, ?_⟩) ?_
                · (intro W9 hSw; obtain ⟨v1, v2, v3⟩ := hSw; have hq := HQ.out; have hd0 := HD0.out; go_simp; (try (first | with_reducible rfl | rfl | (rw [HWD.out]; done) | (rw [HQ.out]; done) | (rw [HWQ.out]; done) | (rw [HQ.out, HWQ.out]; done) | (simp; done))))
                try simp only [Act.put, List.setIfInBounds_toArray, List.set_cons_zero, List.set_cons_succ]
                refine wpG_takeB (i := 2) (oi := ⟨some 76, _, _, _, _, _⟩) (v := .pointer (some ⟨sb, 0, none⟩)) rfl (by kernel_rfl) (by kernel_rfl) (by kernel_rfl) (by decide) (fun _ _ _ h => h) h01 rfl hHeld (Or.inl ⟨by rfl, ?_⟩) ?_
                · (intro W9 hSw; obtain ⟨v1, v2, v3⟩ := hSw; have hq := HQ.out; have hd0 := HD0.out; go_simp; (try (first | with_reducible rfl | rfl | (rw [HWD.out]; done) | (rw [HQ.out]; done) | (rw [HWQ.out]; done) | (rw [HQ.out, HWQ.out]; done) | (simp; done))))
                try simp only [Act.put, List.setIfInBounds_toArray, List.set_cons_zero, List.set_cons_succ]
                refine wpG_takeB (i := 3) (oi := ⟨some 77, _, _, _, _, _⟩) (v := .bool false) rfl (by kernel_rfl) (by kernel_rfl) (by kernel_rfl) (by decide) (fun _ _ _ h => h) h01 rfl hHeld (Or.inl ⟨by rfl, ?_⟩) ?_
                · (intro W9 hSw; obtain ⟨v1, v2, v3⟩ := hSw; have hq := HQ.out; have hd0 := HD0.out; go_simp; (try (first | with_reducible rfl | rfl | (rw [HWD.out]; done) | (rw [HQ.out]; done) | (rw [HWQ.out]; done) | (rw [HQ.out, HWQ.out]; done) | (simp; done))))
                try simp only [Act.put, List.setIfInBounds_toArray, List.set_cons_zero, List.set_cons_succ]
                refine wpG_takeB (i := 4) (oi := ⟨some 78, _, _, _, _, _⟩) (v := .bool true) rfl (by kernel_rfl) (by kernel_rfl) (by kernel_rfl) (by decide) (fun _ _ _ h => h) h01 rfl hHeld (Or.inl ⟨by rfl, ?_⟩) ?_
                · (intro W9 hSw; obtain ⟨v1, v2, v3⟩ := hSw; have hq := HQ.out; have hd0 := HD0.out; go_simp; (try (first | with_reducible rfl | rfl | (rw [HWD.out]; done) | (rw [HQ.out]; done) | (rw [HWQ.out]; done) | (rw [HQ.out, HWQ.out]; done) | (simp; done))))
                try simp only [Act.put, List.setIfInBounds_toArray, List.set_cons_zero, List.set_cons_succ]
                refine wpG_takeB (i := 5) (oi := ⟨some 79, _, _, _, _, _⟩) (v := .bool true) rfl (by kernel_rfl) (by kernel_rfl) (by kernel_rfl) (by decide) (fun _ _ _ h => h) h01 rfl hHeld (Or.inl ⟨by rfl, ?_⟩) ?_
                · (intro W9 hSw; obtain ⟨v1, v2, v3⟩ := hSw; have hq := HQ.out; have hd0 := HD0.out; go_simp; (try (first | with_reducible rfl | rfl | (rw [HWD.out]; done) | (rw [HQ.out]; done) | (rw [HWQ.out]; done) | (rw [HQ.out, HWQ.out]; done) | (simp; done))))
                try simp only [Act.put, List.setIfInBounds_toArray, List.set_cons_zero, List.set_cons_succ]
                refine wpG_takeB (i := 6) (oi := ⟨some 80, _, _, _, _, _⟩) (v := undef) rfl (by kernel_rfl) (by kernel_rfl) (by kernel_rfl) (by decide) (fun _ _ _ h => h) h01 rfl hHeld (Or.inr ⟨by rfl, rfl⟩) ?_
                try simp only [Act.put, List.setIfInBounds_toArray, List.set_cons_zero, List.set_cons_succ]
                refine wpG_takeB (i := 7) (oi := ⟨some 81, _, _, _, _, _⟩) (v := undef) rfl (by kernel_rfl) (by kernel_rfl) (by kernel_rfl) (by decide) (fun _ _ _ h => h) h01 rfl hHeld (Or.inr ⟨by rfl, rfl⟩) ?_
                try simp only [Act.put, List.setIfInBounds_toArray, List.set_cons_zero, List.set_cons_succ]
                refine wpG_takeB (i := 8) (oi := ⟨some 82, _, _, _, _, _⟩) (v := undef) rfl (by kernel_rfl) (by kernel_rfl) (by kernel_rfl) (by decide) (fun _ _ _ h => h) h01 rfl hHeld (Or.inr ⟨by rfl, rfl⟩) ?_
                try simp only [Act.put, List.setIfInBounds_toArray, List.set_cons_zero, List.set_cons_succ]
                refine wpG_takeB (i := 9) (oi := ⟨some 83, _, _, _, _, _⟩) (v := undef) rfl (by kernel_rfl) (by kernel_rfl) (by kernel_rfl) (by decide) (fun _ _ _ h => h) h01 rfl hHeld (Or.inr ⟨by rfl, rfl⟩) ?_
                try simp only [Act.put, List.setIfInBounds_toArray, List.set_cons_zero, List.set_cons_succ]
                refine wpG_takeB (i := 10) (oi := ⟨some 84, _, _, _, _, _⟩) (v := undef) rfl (by kernel_rfl) (by kernel_rfl) (by kernel_rfl) (by decide) (fun _ _ _ h => h) h01 rfl hHeld (Or.inr ⟨by rfl, rfl⟩) ?_
                try simp only [Act.put, List.setIfInBounds_toArray, List.set_cons_zero, List.set_cons_succ]
                refine wpG_takeB (i := 11) (oi := ⟨some 85, _, _, _, _, _⟩) (v := undef) rfl (by kernel_rfl) (by kernel_rfl) (by kernel_rfl) (by decide) (fun _ _ _ h => h) h01 rfl hHeld (Or.inr ⟨by rfl, rfl⟩) ?_
                try simp only [Act.put, List.setIfInBounds_toArray, List.set_cons_zero, List.set_cons_succ]
                refine wpG_takeB (i := 12) (oi := ⟨some 86, _, _, _, _, _⟩) (v := undef) rfl (by kernel_rfl) (by kernel_rfl) (by kernel_rfl) (by decide) (fun _ _ _ h => h) h01 rfl hHeld (Or.inr ⟨by rfl, rfl⟩) ?_
                try simp only [Act.put, List.setIfInBounds_toArray, List.set_cons_zero, List.set_cons_succ]
                refine wpG_takeB (i := 13) (oi := ⟨some 87, _, _, _, _, _⟩) (v := .bool true) rfl (by kernel_rfl) (by kernel_rfl) (by kernel_rfl) (by decide) (fun _ _ _ h => h) h01 rfl hHeld (Or.inl ⟨by rfl, ?_⟩) ?_
                · (intro W9 hSw; obtain ⟨v1, v2, v3⟩ := hSw; have hq := HQ.out; have hd0 := HD0.out; go_simp; (try (first | with_reducible rfl | rfl | (rw [HWD.out]; done) | (rw [HQ.out]; done) | (rw [HWQ.out]; done) | (rw [HQ.out, HWQ.out]; done) | (simp; done))))
                try simp only [Act.put, List.setIfInBounds_toArray, List.set_cons_zero, List.set_cons_succ]
                refine wpG_takeB (i := 14) (oi := ⟨some 88, _, _, _, _, _⟩) (v := .bool true) rfl (by kernel_rfl) (by kernel_rfl) (by kernel_rfl) (by decide) (fun _ _ _ h => h) h01 rfl hHeld (Or.inl ⟨by rfl, ?_⟩) ?_
                · (intro W9 hSw; obtain ⟨v1, v2, v3⟩ := hSw; have hq := HQ.out; have hd0 := HD0.out; go_simp; (try (first | with_reducible rfl | rfl | (rw [HWD.out]; done) | (rw [HQ.out]; done) | (rw [HWQ.out]; done) | (rw [HQ.out, HWQ.out]; done) | (simp; done))))
                try simp only [Act.put, List.setIfInBounds_toArray, List.set_cons_zero, List.set_cons_succ]
                refine wpG_takeB (i := 15) (oi := ⟨some 89, _, _, _, _, _⟩) (v := .pointer (some ⟨tb, 0, none⟩)) rfl (by kernel_rfl) (by kernel_rfl) (by kernel_rfl) (by decide) (fun _ _ _ h => h) h01 rfl hHeld (Or.inl ⟨by rfl, ?_⟩) ?_
                · (intro W9 hSw; obtain ⟨v1, v2, v3⟩ := hSw; have hq := HQ.out; have hd0 := HD0.out; go_simp; (try (first | with_reducible rfl | rfl | (rw [HWD.out]; done) | (rw [HQ.out]; done) | (rw [HWQ.out]; done) | (rw [HQ.out, HWQ.out]; done) | (simp; done))))
                try simp only [Act.put, List.setIfInBounds_toArray, List.set_cons_zero, List.set_cons_succ]
                refine wpG_takeB (i := 16) (oi := ⟨some 90, _, _, _, _, _⟩) (v := .pointer (some ⟨tb, 0, none⟩)) rfl (by kernel_rfl) (by kernel_rfl) (by kernel_rfl) (by decide) (fun _ _ _ h => h) h01 rfl hHeld (Or.inl ⟨by rfl, ?_⟩) ?_
                · (intro W9 hSw; obtain ⟨v1, v2, v3⟩ := hSw; have hq := HQ.out; have hd0 := HD0.out; go_simp; (try (first | with_reducible rfl | rfl | (rw [HWD.out]; done) | (rw [HQ.out]; done) | (rw [HWQ.out]; done) | (rw [HQ.out, HWQ.out]; done) | (simp; done))))
                try simp only [Act.put, List.setIfInBounds_toArray, List.set_cons_zero, List.set_cons_succ]
                refine wpG_takeB (i := 17) (oi := ⟨some 91, _, _, _, _, _⟩) (v := .pointer (some ⟨tb, 2, none⟩)) rfl (by kernel_rfl) (by kernel_rfl) (by kernel_rfl) (by decide) (fun _ _ _ h => h) h01 rfl hHeld (Or.inl ⟨by rfl, ?_⟩) ?_
                · (intro W9 hSw; obtain ⟨v1, v2, v3⟩ := hSw; have hq := HQ.out; have hd0 := HD0.out; go_simp; (try (first | with_reducible rfl | rfl | (rw [HWD.out]; done) | (rw [HQ.out]; done) | (rw [HWQ.out]; done) | (rw [HQ.out, HWQ.out]; done) | (simp; done))))
                try simp only [Act.put, List.setIfInBounds_toArray, List.set_cons_zero, List.set_cons_succ]
                refine wpG_takeB (i := 18) (oi := ⟨some 92, _, _, _, _, _⟩) (v := .int .i64 v) rfl (by kernel_rfl) (by kernel_rfl) (by kernel_rfl) (by decide) (fun _ _ _ h => h) h01 rfl hHeld (Or.inl ⟨by rfl, ?_⟩) ?_
                · (intro W9 hSw; obtain ⟨v1, v2, v3⟩ := hSw; have hq := HQ.out; have hd0 := HD0.out; go_simp; (try (first | with_reducible rfl | rfl | (rw [HWD.out]; done) | (rw [HQ.out]; done) | (rw [HWQ.out]; done) | (rw [HQ.out, HWQ.out]; done) | (simp; done))))
                try simp only [Act.put, List.setIfInBounds_toArray, List.set_cons_zero, List.set_cons_succ]
                refine wpG_takeB (i := 19) (oi := ⟨some 93, _, _, _, _, _⟩) (v := .int .i64 d) rfl (by kernel_rfl) (by kernel_rfl) (by kernel_rfl) (by decide) (fun _ _ _ h => h) h01 rfl hHeld (Or.inl ⟨by rfl, ?_⟩) ?_
                · (intro W9 hSw; obtain ⟨v1, v2, v3⟩ := hSw; have hq := HQ.out; have hd0 := HD0.out; go_simp; (try (first | with_reducible rfl | rfl | (rw [HWD.out]; done) | (rw [HQ.out]; done) | (rw [HWQ.out]; done) | (rw [HQ.out, HWQ.out]; done) | (simp; done))))
                try simp only [Act.put, List.setIfInBounds_toArray, List.set_cons_zero, List.set_cons_succ]
                refine wpG_takeB (i := 20) (oi := ⟨some 94, _, _, _, _, _⟩) (v := .int .i64 (4611686018427387904 - d)) rfl (by kernel_rfl) (by kernel_rfl) (by kernel_rfl) (by decide) (fun _ _ _ h => h) h01 rfl hHeld (Or.inl ⟨by rfl, ?_⟩) ?_
                · (intro W9 hSw; obtain ⟨v1, v2, v3⟩ := hSw; have hq := HQ.out; have hd0 := HD0.out; go_simp; (try (first | with_reducible rfl | rfl | (rw [HWD.out]; done) | (rw [HQ.out]; done) | (rw [HWQ.out]; done) | (rw [HQ.out, HWQ.out]; done) | (simp; done))))
                try simp only [Act.put, List.setIfInBounds_toArray, List.set_cons_zero, List.set_cons_succ]
                refine wpG_takeB (i := 21) (oi := ⟨some 95, _, _, _, _, _⟩) (v := .int .i64 16) rfl (by kernel_rfl) (by kernel_rfl) (by kernel_rfl) (by decide) (fun _ _ _ h => h) h01 rfl hHeld (Or.inl ⟨by rfl, ?_⟩) ?_
                · (intro W9 hSw; obtain ⟨v1, v2, v3⟩ := hSw; have hq := HQ.out; have hd0 := HD0.out; go_simp; (try (first | with_reducible rfl | rfl | (rw [HWD.out]; done) | (rw [HQ.out]; done) | (rw [HWQ.out]; done) | (rw [HQ.out, HWQ.out]; done) | (simp; done))))
                try simp only [Act.put, List.setIfInBounds_toArray, List.set_cons_zero, List.set_cons_succ]
                refine wpG_takeB (i := 22) (oi := ⟨some 96, _, _, _, _, _⟩) (v := .int .i64 qq) rfl (by kernel_rfl) (by kernel_rfl) (by kernel_rfl) (by decide) (fun _ _ _ h => h) h01 rfl hHeld (Or.inl ⟨by rfl, ?_⟩) ?_
                · (intro W9 hSw; obtain ⟨v1, v2, v3⟩ := hSw; have hq := HQ.out; have hd0 := HD0.out; go_simp; (try (first | with_reducible rfl | rfl | (rw [HWD.out]; done) | (rw [HQ.out]; done) | (rw [HWQ.out]; done) | (rw [HQ.out, HWQ.out]; done) | (simp; done))))
                try simp only [Act.put, List.setIfInBounds_toArray, List.set_cons_zero, List.set_cons_succ]
                refine wpG_takeB (i := 23) (oi := ⟨some 97, _, _, _, _, _⟩) (v := .bool false) rfl (by kernel_rfl) (by kernel_rfl) (by kernel_rfl) (by decide) (fun _ _ _ h => h) h01 rfl hHeld (Or.inl ⟨by rfl, ?_⟩) ?_
                · (intro W9 hSw; obtain ⟨v1, v2, v3⟩ := hSw; have hq := HQ.out; have hd0 := HD0.out; go_simp; (try (first | with_reducible rfl | rfl | (rw [HWD.out]; done) | (rw [HQ.out]; done) | (rw [HWQ.out]; done) | (rw [HQ.out, HWQ.out]; done) | (simp; done))))
                try simp only [Act.put, List.setIfInBounds_toArray, List.set_cons_zero, List.set_cons_succ]
                refine wpG_takeB (i := 24) (oi := ⟨some 98, _, _, _, _, _⟩) (v := .bool false) rfl (by kernel_rfl) (by kernel_rfl) (by kernel_rfl) (by decide) (fun _ _ _ h => h) h01 rfl hHeld (Or.inl ⟨by rfl, ?_⟩) ?_
                · (intro W9 hSw; obtain ⟨v1, v2, v3⟩ := hSw; have hq := HQ.out; have hd0 := HD0.out; go_simp; (try (first | with_reducible rfl | rfl | (rw [HWD.out]; done) | (rw [HQ.out]; done) | (rw [HWQ.out]; done) | (rw [HQ.out, HWQ.out]; done) | (simp; done))))
                try simp only [Act.put, List.setIfInBounds_toArray, List.set_cons_zero, List.set_cons_succ]
                refine wpG_oneB (i := 25) (o := ⟨some 99, _, _, _, _, _⟩) (by kernel_rfl) rfl rfl (fun K hK => ?_)
                go_simp
                (with_reducible refine (C60n.out _ HSd.out).mono ?_); rintro e w6 ⟨rfl, hs6, hb6⟩
                exact ⟨rfl, HOd.out.below hb6, by rw [← HTX.out, if_neg (by simp), if_neg (by rw [HQQ.out]; exact HVQ.out)]; exact ⟨rfl, hs6⟩⟩
            | false =>
              rw [hb] at C76
              have hT0 := HT0.out
              rw [digs_false hb] at hT0
              have C69 := Lib.hid (fun (W : World) (hs : Sc L sb (i + n) W) => next_sc 69 worI pf69 L sb (i + n) W hs HN.out)
              have HS1 := Lib.hid (fun m => HS.out.drewN m)
              have HT1 : Hid (∀ m, TB tb 2 tx v ln cl (wr.drewN m)) := Lib.hid (fun m => Blk.drewN HT.out m)
              have HO1 := Lib.hid (fun m => only_drewN HO.out m)
              clear hb
              cases hb2 : headP worI (L.drop (i + n)) with
              | false =>
                rw [hb2] at C69 hT0
                rw [if_neg (by simp)] at hT0
                have C60 := Lib.hid (fun (W : World) (hs : Sc L sb (i + n) W) => need_sy L sb (i + n) W hs)
                have HTX := Lib.hid hT0
                clear hT0 hb2
                go_upto_region 16 with (go_at_call 66; (with_reducible refine C76.out.mono ?_); rintro e w1 ⟨rfl, m, rfl⟩)
                obtain ⟨W1, hW1⟩ : ∃ W1, wr.drewN m = W1 := ⟨_, rfl⟩
                have HSd := Lib.hid (show Sc L sb (i + n) W1.drew from hW1 ▸ (HS1.out m).drew)
                have HTd := Lib.hid (show TB tb 2 tx v ln cl W1.drew from hW1 ▸ Blk.drew1 (HT1.out m))
                have HOd := Lib.hid (show Only (fun b => b = sb ∨ b = tb) w W1.drew from hW1 ▸ only_drew (HO1.out m))
                rw [hW1]
                clear hW1
                refine wp_region_G (S0 := (fun _ : World => True)) (S1 := (fun _ : World => True)) (c := 99) (by kernel_rfl) ?_
                have hHeld := trivial
                have h01 := (fun (W : World) (h : (fun _ : World => True) W) => h)
                refine wpG_takeB (i := 0) (oi := ⟨some 115, _, _, _, _, _⟩) (v := .pointer (some ⟨sb, 0, none⟩)) rfl (by kernel_rfl) (by kernel_rfl) (by kernel_rfl) (by decide) (fun _ _ _ h => h) h01 rfl hHeld (Or.inl ⟨by rfl, ?_⟩) ?_
                · (intro W9 hSw; go_simp; (try (first | with_reducible rfl | rfl | (simp; done))))
                try simp only [Act.put, List.setIfInBounds_toArray, List.set_cons_zero, List.set_cons_succ]
                refine wpG_takeB (i := 1) (oi := ⟨some 116, _, _, _, _, _⟩) (v := .pointer (some ⟨sb, 0, none⟩)) rfl (by kernel_rfl) (by kernel_rfl) (by kernel_rfl) (by decide) (fun _ _ _ h => h) h01 rfl hHeld (Or.inl ⟨by rfl, ?_⟩) ?_
                · (intro W9 hSw; go_simp; (try (first | with_reducible rfl | rfl | (simp; done))))
                try simp only [Act.put, List.setIfInBounds_toArray, List.set_cons_zero, List.set_cons_succ]
                refine wpG_takeB (i := 2) (oi := ⟨some 117, _, _, _, _, _⟩) (v := .pointer (some ⟨sb, 0, none⟩)) rfl (by kernel_rfl) (by kernel_rfl) (by kernel_rfl) (by decide) (fun _ _ _ h => h) h01 rfl hHeld (Or.inl ⟨by rfl, ?_⟩) ?_
                · (intro W9 hSw; go_simp; (try (first | with_reducible rfl | rfl | (simp; done))))
                try simp only [Act.put, List.setIfInBounds_toArray, List.set_cons_zero, List.set_cons_succ]
                refine wpG_takeB (i := 3) (oi := ⟨some 118, _, _, _, _, _⟩) (v := .pointer (some ⟨sb, 0, none⟩)) rfl (by kernel_rfl) (by kernel_rfl) (by kernel_rfl) (by decide) (fun _ _ _ h => h) h01 rfl hHeld (Or.inl ⟨by rfl, ?_⟩) ?_
                · (intro W9 hSw; go_simp; (try (first | with_reducible rfl | rfl | (simp; done))))
                try simp only [Act.put, List.setIfInBounds_toArray, List.set_cons_zero, List.set_cons_succ]
                refine wpG_takeB (i := 4) (oi := ⟨some 119, _, _, _, _, _⟩) (v := .pointer (some ⟨sb, 0, none⟩)) rfl (by kernel_rfl) (by kernel_rfl) (by kernel_rfl) (by decide) (fun _ _ _ h => h) h01 rfl hHeld (Or.inl ⟨by rfl, ?_⟩) ?_
                · (intro W9 hSw; go_simp; (try (first | with_reducible rfl | rfl | (simp; done))))
                try simp only [Act.put, List.setIfInBounds_toArray, List.set_cons_zero, List.set_cons_succ]
                refine wpG_takeB (i := 5) (oi := ⟨some 120, _, _, _, _, _⟩) (v := .pointer (some ⟨sb, 0, none⟩)) rfl (by kernel_rfl) (by kernel_rfl) (by kernel_rfl) (by decide) (fun _ _ _ h => h) h01 rfl hHeld (Or.inl ⟨by rfl, ?_⟩) ?_
                · (intro W9 hSw; go_simp; (try (first | with_reducible rfl | rfl | (simp; done))))
                try simp only [Act.put, List.setIfInBounds_toArray, List.set_cons_zero, List.set_cons_succ]
                refine wpG_oneB (i := 6) (o := ⟨some 121, _, _, _, _, _⟩) (by kernel_rfl) rfl rfl (fun K hK => ?_)
                go_simp
                (with_reducible refine (C69.out _ HSd.out).mono ?_); rintro e w5 ⟨rfl, hs5, hb5⟩
                have HS5 := Lib.hid hs5
                have HB5 := Lib.hid hb5
                clear hs5 hb5
                refine hK.out _ _ trivial (fun hHeld => ?_)
                clear hK K
                try simp only [Act.put, List.setIfInBounds_toArray, List.set_cons_zero, List.set_cons_succ]
                refine wpG_takeB (i := 7) (oi := ⟨some 122, _, _, _, _, _⟩) (v := .bool true) rfl (by kernel_rfl) (by kernel_rfl) (by kernel_rfl) (by decide) (fun _ _ _ h => h) h01 rfl hHeld (Or.inl ⟨by rfl, ?_⟩) ?_
                · (intro W9 hSw; go_simp; (try (first | with_reducible rfl | rfl | (simp; done))))
                try simp only [Act.put, List.setIfInBounds_toArray, List.set_cons_zero, List.set_cons_succ]
                refine wpG_oneB (i := 8) (o := ⟨some 123, _, _, _, _, _⟩) (by kernel_rfl) rfl rfl (fun K hK => ?_)
                go_simp
                (with_reducible refine (C60.out _ HS5.out).mono ?_); rintro e w6 ⟨rfl, hs6, hb6⟩
                have HS6 := Lib.hid hs6
                have HB6 := Lib.hid hb6
                clear hs6 hb6
                refine hK.out _ _ trivial (fun hHeld => ?_)
                clear hK K
                try simp only [Act.put, List.setIfInBounds_toArray, List.set_cons_zero, List.set_cons_succ]
                refine wpG_done (by kernel_rfl) ?_ _
                clear hHeld h01
                go_wp2_with fail
                go_ret
                refine ⟨(HOd.out.below HB5.out).below HB6.out, ?_⟩
                rw [← HTX.out]
                exact ⟨rfl, HS6.out, TB.below (TB.below HTd.out HB5.out) HB6.out⟩
              | true =>
                rw [hb2] at C69 hT0
                rw [if_pos rfl] at hT0
                have C60 := Lib.hid (fun (W : World) (hs : Sc L sb (i + n) W) => need_sn L sb (i + n) W hs HLE.out HN.out)
                have HTX := Lib.hid hT0
                clear hT0 hb2
                go_upto_region 16 with (go_at_call 66; (with_reducible refine C76.out.mono ?_); rintro e w1 ⟨rfl, m, rfl⟩)
                obtain ⟨W1, hW1⟩ : ∃ W1, wr.drewN m = W1 := ⟨_, rfl⟩
                have HSd := Lib.hid (show Sc L sb (i + n) W1.drew from hW1 ▸ (HS1.out m).drew)
                have HOd := Lib.hid (show Only (fun b => b = sb ∨ b = tb) w W1.drew from hW1 ▸ only_drew (HO1.out m))
                rw [hW1]
                clear hW1
                refine wp_region_G (S0 := (fun _ : World => True)) (S1 := (fun _ : World => True)) (c := 99) (by kernel_rfl) ?_
                have hHeld := trivial
                have h01 := (fun (W : World) (h : (fun _ : World => True) W) => h)
                refine wpG_takeB (i := 0) (oi := ⟨some 115, _, _, _, _, _⟩) (v := .pointer (some ⟨sb, 0, none⟩)) rfl (by kernel_rfl) (by kernel_rfl) (by kernel_rfl) (by decide) (fun _ _ _ h => h) h01 rfl hHeld (Or.inl ⟨by rfl, ?_⟩) ?_
                · (intro W9 hSw; go_simp; (try (first | with_reducible rfl | rfl | (simp; done))))
                try simp only [Act.put, List.setIfInBounds_toArray, List.set_cons_zero, List.set_cons_succ]
                refine wpG_takeB (i := 1) (oi := ⟨some 116, _, _, _, _, _⟩) (v := .pointer (some ⟨sb, 0, none⟩)) rfl (by kernel_rfl) (by kernel_rfl) (by kernel_rfl) (by decide) (fun _ _ _ h => h) h01 rfl hHeld (Or.inl ⟨by rfl, ?_⟩) ?_
                · (intro W9 hSw; go_simp; (try (first | with_reducible rfl | rfl | (simp; done))))
                try simp only [Act.put, List.setIfInBounds_toArray, List.set_cons_zero, List.set_cons_succ]
                refine wpG_takeB (i := 2) (oi := ⟨some 117, _, _, _, _, _⟩) (v := .pointer (some ⟨sb, 0, none⟩)) rfl (by kernel_rfl) (by kernel_rfl) (by kernel_rfl) (by decide) (fun _ _ _ h => h) h01 rfl hHeld (Or.inl ⟨by rfl, ?_⟩) ?_
                · (intro W9 hSw; go_simp; (try (first | with_reducible rfl | rfl | (simp; done))))
                try simp only [Act.put, List.setIfInBounds_toArray, List.set_cons_zero, List.set_cons_succ]
                refine wpG_takeB (i := 3) (oi := ⟨some 118, _, _, _, _, _⟩) (v := .pointer (some ⟨sb, 0, none⟩)) rfl (by kernel_rfl) (by kernel_rfl) (by kernel_rfl) (by decide) (fun _ _ _ h => h) h01 rfl hHeld (Or.inl ⟨by rfl, ?_⟩) ?_
                · (intro W9 hSw; go_simp; (try (first | with_reducible rfl | rfl | (simp; done))))
                try simp only [Act.put, List.setIfInBounds_toArray, List.set_cons_zero, List.set_cons_succ]
                refine wpG_takeB (i := 4) (oi := ⟨some 119, _, _, _, _, _⟩) (v := .pointer (some ⟨sb, 0, none⟩)) rfl (by kernel_rfl) (by kernel_rfl) (by kernel_rfl) (by decide) (fun _ _ _ h => h) h01 rfl hHeld (Or.inl ⟨by rfl, ?_⟩) ?_
                · (intro W9 hSw; go_simp; (try (first | with_reducible rfl | rfl | (simp; done))))
                try simp only [Act.put, List.setIfInBounds_toArray, List.set_cons_zero, List.set_cons_succ]
                refine wpG_takeB (i := 5) (oi := ⟨some 120, _, _, _, _, _⟩) (v := .pointer (some ⟨sb, 0, none⟩)) rfl (by kernel_rfl) (by kernel_rfl) (by kernel_rfl) (by decide) (fun _ _ _ h => h) h01 rfl hHeld (Or.inl ⟨by rfl, ?_⟩) ?_
                · (intro W9 hSw; go_simp; (try (first | with_reducible rfl | rfl | (simp; done))))
                try simp only [Act.put, List.setIfInBounds_toArray, List.set_cons_zero, List.set_cons_succ]
                refine wpG_oneB (i := 6) (o := ⟨some 121, _, _, _, _, _⟩) (by kernel_rfl) rfl rfl (fun K hK => ?_)
                go_simp
                (with_reducible refine (C69.out _ HSd.out).mono ?_); rintro e w5 ⟨rfl, hs5, hb5⟩
                have HS5 := Lib.hid hs5
                have HB5 := Lib.hid hb5
                clear hs5 hb5
                refine hK.out _ _ trivial (fun hHeld => ?_)
                clear hK K
                try simp only [Act.put, List.setIfInBounds_toArray, List.set_cons_zero, List.set_cons_succ]
                refine wpG_takeB (i := 7) (oi := ⟨some 122, _, _, _, _, _⟩) (v := .bool false) rfl (by kernel_rfl) (by kernel_rfl) (by kernel_rfl) (by decide) (fun _ _ _ h => h) h01 rfl hHeld (Or.inl ⟨by rfl, ?_⟩) ?_
                · (intro W9 hSw; go_simp; (try (first | with_reducible rfl | rfl | (simp; done))))
                try simp only [Act.put, List.setIfInBounds_toArray, List.set_cons_zero, List.set_cons_succ]
                refine wpG_oneB (i := 8) (o := ⟨some 123, _, _, _, _, _⟩) (by kernel_rfl) rfl rfl (fun K hK => ?_)
                go_simp
                (with_reducible refine (C60.out _ HS5.out).mono ?_); rintro e w6 ⟨rfl, hs6, hb6⟩
                refine ⟨rfl, (HOd.out.below HB5.out).below hb6, ?_⟩
                rw [← HTX.out]
                exact ⟨rfl, hs6⟩


end Go.Proofs.YtkihoekldklkhaaDoor
