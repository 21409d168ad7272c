/- The contract of the reference's Block, its good case. -/
import Derived.Test.YtbfejjjdolfcfaaRb1
namespace Go.Proofs.Ytbfejjjdolfcfaa
open Go.RowKit
set_option linter.unusedVariables false
set_option linter.unusedSimpArgs false

theorem own_full {w : World} {B g n : Nat} {e : TypeId} {cs : Array Value} {xs : List Value} (h : Blk w g e cs) (hB : B ≤ g) (hn : cs.size = n) (hx : cs.toList = xs) (hm : n ≤ maxLen) : w.ownsRow B e 1 (.slice (some ⟨g, 0, none⟩) n n) n xs :=
  ⟨by rw [← hx]; simpa using hn, .inr ⟨g, n, cs, rfl, hB, h, Nat.le_refl _, hm, by simpa using hn, by rw [Nat.mul_one, ← hx, List.take_of_length_le (by simp; omega)]⟩⟩
theorem own_other {w : World} {B B' n n' sz sz' : Nat} {e e' : TypeId} {v v' : Value} {xs xs' : List Value} (h : w.ownsRow B e sz v n xs) (h' : w.ownsRow B' e' sz' v' n' xs') (hne : e ≠ e') : v.ownBlock = none ∨ v.ownBlock ≠ v'.ownBlock := by
  rcases h.2 with ⟨rfl, _⟩ | ⟨g, cap, cur, rfl, _, hh, _⟩
  · exact .inl rfl
  · right
    rcases h'.2 with ⟨rfl, _⟩ | ⟨g', cap', cur', rfl, _, hh', _⟩
    · simp [Value.ownBlock]
    · intro he
      simp only [Value.ownBlock, Option.some.injEq] at he
      subst he
      rw [hh] at hh'
      cases hh'
      exact hne rfl
def RB4 (B m : Nat) (xs : List Value) (V : Nat) (out vv kk : Value) (wr : World) : Prop := (kk = .int .i64 0 ∧ vv = .int .i64 (V : Nat) ∧ wr.ownsRow B 5 1 out (m + 0) (xs ++ [])) ∨ (kk = .int .i64 1 ∧ vv = .int .i64 ((V : Nat) / 256) ∧ wr.ownsRow B 5 1 out (m + 1) (xs ++ [.int .u8 (((V : Nat) : Int) % 256)])) ∨ (kk = .int .i64 2 ∧ vv = .int .i64 ((V : Nat) / 65536) ∧ wr.ownsRow B 5 1 out (m + 2) (xs ++ [.int .u8 (((V : Nat) : Int) % 256), .int .u8 (((V : Nat) : Int) / 256 % 256)])) ∨ (kk = .int .i64 3 ∧ vv = .int .i64 ((V : Nat) / 16777216) ∧ wr.ownsRow B 5 1 out (m + 3) (xs ++ [.int .u8 (((V : Nat) : Int) % 256), .int .u8 (((V : Nat) : Int) / 256 % 256), .int .u8 (((V : Nat) : Int) / 65536 % 256)])) ∨ (kk = .int .i64 4 ∧ vv = .int .i64 ((V : Nat) / 4294967296) ∧ wr.ownsRow B 5 1 out (m + 4) (xs ++ [.int .u8 (((V : Nat) : Int) % 256), .int .u8 (((V : Nat) : Int) / 256 % 256), .int .u8 (((V : Nat) : Int) / 65536 % 256), .int .u8 (((V : Nat) : Int) / 16777216 % 256)]))

set_option maxRecDepth 100000 in
set_option maxHeartbeats 4000000 in
theorem rblk_good (A1 A2 : Option Addr) (c1 c2 : Nat) (ks ns : List Int) (ctr : Int) (w : World) (h1 : Holds w A1 8 (ks.map iw)) (h2 : Holds w A2 3 (ns.map iw)) (l1 : ks.length = 8) (l2 : ns.length = 3) (hb : goodB ks ns ctr) :
    Calls Try.prog 13 #[.slice A1 8 c1, .slice A2 3 c2, .int .i64 ctr] w fun e w' => Rowed w 5 64 ((blkB ks ns ctr).map u8) (fun v => .tuple #[v, .int .i64 0]) e w' := by
  have cw1 := words_any A1 8 c1 8 ks w l1 (by omega) h1
  have cw2 := words_any A2 3 c2 3 ns w l2 (by omega) h2
  obtain ⟨g1, g2, g3⟩ := (good_iff ks ns ctr).1 hb
  rw [g1] at cw1
  rw [g2] at cw2
  have C1 := Lib.hid cw1
  have C2 := Lib.hid cw2
  simp [isW] at g3
  obtain ⟨g4, g5⟩ := g3
  have HS := Lib.hid (wordS_ok hb)
  have HNUM := Lib.hid (show (kon.map iw ++ ks.map iw ++ [iw ctr] ++ ns.map iw) = (wordS ks ns ctr).map nw by rw [← num_nat hb.2.2]; simp [numS])
  have HOUT := Lib.hid (show outW (wordS ks ns ctr) (dbls 10 (wordS ks ns ctr)) 16 = blkB ks ns ctr from rfl)
  have H1 := Lib.hid h1
  have H2 := Lib.hid h2
  have O1 := Lib.hid (iw_one ks)
  have O2 := Lib.hid (iw_one ns)
  generalize blkB ks ns ctr = out0 at *
  generalize wordS ks ns ctr = S at *
  obtain ⟨T, hT⟩ : ∃ T, dbls 10 S = T := ⟨_, rfl⟩
  rw [hT] at HOUT
  have HT := Lib.hid hT
  clear cw1 cw2 g1 g2 h1 h2 hb l1 l2 hT
  have HK4 := Lib.hid (Blk.new w 3 #[.int .i64 1634760805, .int .i64 857760878, .int .i64 2036477234, .int .i64 1797285236])
  have HOK := Lib.hid (show (w.alloc (.cells #[.int .i64 1634760805, .int .i64 857760878, .int .i64 2036477234, .int .i64 1797285236] 3)).ownsRow w.heap.size 3 1 (.slice (some ⟨w.heap.size, 0, none⟩) 4 4) 4 (kon.map iw) from own_full HK4.out (Nat.le_refl _) rfl rfl (by unfold maxLen; omega))
  have HBW0 := Lib.hid ((Below.refl _ w).alloc (Nat.le_refl _) (.cells #[.int .i64 1634760805, .int .i64 857760878, .int .i64 2036477234, .int .i64 1797285236] 3))
  go_enter Try.func13, Try.ntmps13
  go_wp2_with fail
  (with_reducible refine C1.out.mono ?_); rintro e w1 ⟨rfl, rfl⟩
  go_wp2_with fail
  (with_reducible refine C2.out.mono ?_); rintro e w1 ⟨rfl, rfl⟩
  clear C1 C2
  have q1 : decide (ctr < 0) = false := by simp; omega
  have q2 : decide (4294967296 ≤ ctr) = false := by simp; omega
  clear g4 g5
  go_wp2_with (at_builtin; go_must (refine wpList_app_own (base := w.heap.size) (n := 4) (m := 8) (xs := kon.map iw) (news := ks.map iw) rfl (.tmp 36) (.tmp 37) 29 rfl el29 rfl HOK.out rfl (H1.out.alloc _) O1.out (by unfold maxLen; omega) (by omega) (by simp) ?_; intro v2 w2 hown hg hat; refine Hid.out ?_))
  refine Lib.hid ?_
  (have HO2 := Lib.hid hown; have HB2 := Lib.hid (below_own HBW0.out (by simp) HOK.out hg); clear hown hg hat)
  go_wp2_with (at_builtin; go_must (refine wpList_app_own (base := w.heap.size) (n := 12) (m := 1) (xs := kon.map iw ++ ks.map iw) (news := [iw ctr]) rfl (.tmp 39) (.tmp 41) 29 rfl el29 rfl (own_alloc HO2.out) rfl (Holds.one _ _ _) (iw_one [ctr]) (by unfold maxLen; omega) (by omega) (by have := HB2.out.size; simp; omega) ?_; intro v3 w3 hown hg hat; refine Hid.out ?_))
  refine Lib.hid ?_
  (have HO3 := Lib.hid hown; have HB3 := Lib.hid (below_own (HB2.out.alloc HB2.out.size _) (by have := HB2.out.size; simp; omega) (own_alloc HO2.out) hg); clear hown hg hat)
  go_wp2_with (at_builtin; go_must (refine wpList_app_own (base := w.heap.size) (n := 13) (m := 3) (xs := kon.map iw ++ ks.map iw ++ [iw ctr]) (news := ns.map iw) rfl (.tmp 42) (.tmp 43) 29 rfl el29 rfl HO3.out rfl (H2.out.keep HB3.out) O2.out (by unfold maxLen; omega) (by omega) HB3.out.size ?_; intro v4 w4 hown hg hat; refine Hid.out ?_))
  refine Lib.hid ?_
  (rw [HNUM.out] at hown; have HO4 := Lib.hid hown; have HB4 := Lib.hid (below_own HB3.out HB3.out.size HO3.out hg); clear hown hg hat; obtain ⟨gf, capf, rfl, hgf1, hgf2, -⟩ := own_holds HO4.out (by omega))
  go_wp2_with (at_builtin; go_must (refine wpList_app_own (base := w4.heap.size) (n := 0) (m := 16) (xs := []) (news := S.map nw) rfl (.tmp 45) (.tmp 46) 29 rfl el29 rfl (own_none00 w4 3) rfl ((holds_own HO4.out).alloc _) (nw_one S) (by unfold maxLen; omega) (by omega) (by simp) ?_; intro v5 w5 hown hg hat; refine Hid.out ?_))
  refine Lib.hid ?_
  (rw [Nat.zero_add, List.nil_append] at hown; have hb5 := below_own ((Below.refl w4.heap.size w4).alloc (Nat.le_refl _) _) (by simp) (own_none00 w4 3) hg; have HOF := Lib.hid (own_none HO4.out (grown_of_below hb5)); obtain ⟨gs, caps, rfl, hgs1, hgs2, -⟩ := own_holds hown (by omega); have HOS := Lib.hid (own_base hown HB4.out.size); have HBW5 := Lib.hid (HB4.out.trans (hb5.mono HB4.out.size)); have hne : gs ≠ gf := (by omega); clear hown hg hat hb5)
  have HNE := Lib.hid hne
  clear hgf1 hgf2 hgs1 hgs2 hne q1 q2
  go_wp2_with fail
  go_loopw [10] (fun ii wr => ∃ (j : Nat) (ys : List Nat), j ≤ 10 ∧ ii = .int .i64 j ∧ Hid (St16 ys) ∧ Hid (dbls (10 - j) ys = T) ∧ wr.ownsRow w.heap.size 3 1 (.slice (some ⟨gs, 0, none⟩) 16 caps) 16 (ys.map nw) ∧ wr.ownsRow w.heap.size 3 1 (.slice (some ⟨gf, 0, none⟩) 16 capf) 16 (S.map nw) ∧ Below w.heap.size w wr) (fun ii _ => 10 - (intOf ii).toNat)
  case atStart => exact ⟨0, S, by omega, rfl, HS, HT, HOS.out, HOF.out, HBW5.out⟩
  clear HOS HOF HBW5
  case round =>
    obtain ⟨j, ys, hj, rfl, HY, HYT, ho1, ho2, hbw⟩ := hrel
    have HS3 := Lib.hid ho1
    have HF3 := Lib.hid ho2
    have HB3 := Lib.hid hbw
    clear ho1 ho2 hbw
    by_cases hlt : (j : Int) < 10
    · obtain ⟨Y, hY⟩ : ∃ Y, dbl ys = Y := ⟨_, rfl⟩
      have HYD := Lib.hid hY
      have HQ0 := Lib.hid (show (q8.drop 0).foldl qstep ys = Y from hY)
      clear hY
      go_wp2_with fail
      go_loopw [11, 12, 13, 14, 15] (fun kk _ _ _ _ wz => ∃ (k : Nat) (zs : List Nat), k ≤ 8 ∧ kk = .int .i64 k ∧ Hid (St16 zs) ∧ Hid ((q8.drop k).foldl qstep zs = Y) ∧ wz.ownsRow w.heap.size 3 1 (.slice (some ⟨gs, 0, none⟩) 16 caps) 16 (zs.map nw) ∧ wz.ownsRow w.heap.size 3 1 (.slice (some ⟨gf, 0, none⟩) 16 capf) 16 (S.map nw) ∧ Below w.heap.size w wz) (fun kk _ _ _ _ _ => 8 - (intOf kk).toNat)
      case atStart => exact ⟨0, ys, by omega, rfl, HY, HQ0, HS3.out, HF3.out, HB3.out⟩
      case round =>
        obtain ⟨k, zs, hk, rfl, HZ, HZY, ho1, ho2, hbw⟩ := hrel
        have HS5 := Lib.hid ho1
        have HF5 := Lib.hid ho2
        have HB5 := Lib.hid hbw
        clear ho1 ho2 hbw
        by_cases hlt2 : (k : Int) < 8
        · obtain ⟨i0, i1, i2, i3, hq, ⟨l0, l1, l2, l3⟩, ⟨n01, n02, n03, n12, n13, n23⟩, hm, hlo, hhi⟩ := q8_idx k (by omega)
          have HQ := Lib.hid hq
          obtain ⟨hk0, y0⟩ := own_nat HS5.out HZ.out l0
          obtain ⟨hk1, y1⟩ := own_nat HS5.out HZ.out l1
          obtain ⟨hk2, y2⟩ := own_nat HS5.out HZ.out l2
          obtain ⟨hk3, y3⟩ := own_nat HS5.out HZ.out l3
          obtain ⟨x0, hx0⟩ : ∃ x, zs.getD i0 0 = x := ⟨_, rfl⟩
          obtain ⟨x1, hx1⟩ : ∃ x, zs.getD i1 0 = x := ⟨_, rfl⟩
          obtain ⟨x2, hx2⟩ : ∃ x, zs.getD i2 0 = x := ⟨_, rfl⟩
          obtain ⟨x3, hx3⟩ : ∃ x, zs.getD i3 0 = x := ⟨_, rfl⟩
          rw [hx0] at hk0 y0
          rw [hx1] at hk1 y1
          rw [hx2] at hk2 y2
          rw [hx3] at hk3 y3
          have HK0 := Lib.hid hk0
          have HK1 := Lib.hid hk1
          have HK2 := Lib.hid hk2
          have HK3 := Lib.hid hk3
          have c10 := fun W => rquarter_any x0 x1 x2 x3 W y0 y1 y2 y3
          simp only [tup4] at c10
          have C10 := Lib.hid c10
          have HX := Lib.hid (And.intro hx0 (And.intro hx1 (And.intro hx2 hx3)))
          have HYB := Lib.hid (And.intro y0 (And.intro y1 (And.intro y2 y3)))
          have m0 : (i0 : Int) < 16 := by omega
          have m1 : (i1 : Int) < 16 := by omega
          have m2 : (i2 : Int) < 16 := by omega
          have m3 : (i3 : Int) < 16 := by omega
          have p0 : (0 : Int) ≤ i0 := by omega
          have p1 : (0 : Int) ≤ i1 := by omega
          have p2 : (0 : Int) ≤ i2 := by omega
          have p3 : (0 : Int) ≤ i3 := by omega
          have E0 := Lib.hid (show (k : Int) % 4 = i0 by omega)
          have hr4 : (k : Int) % 4 < 4 := by omega
          have hr0 : 0 ≤ (k : Int) % 4 := by omega
          by_cases h4 : (k : Int) < 4
          · obtain ⟨r1, r2, r3⟩ := hlo (by omega)
            have d4 : decide (4 ≤ (k : Int)) = false := by simp; omega
            have E1 := Lib.hid (show 4 + (k : Int) % 4 = i1 by omega)
            have E2 := Lib.hid (show 8 + (k : Int) % 4 = i2 by omega)
            have E3 := Lib.hid (show 12 + (k : Int) % 4 = i3 by omega)
            clear hlo hhi hm r1 r2 r3 hq hx0 hx1 hx2 hx3 y0 y1 y2 y3 c10 hk0 hk1 hk2 hk3 h4
            go_wp2_with fail
            clear d4
            rw [E1.out, E2.out, E3.out, E0.out]
            clear E0 E1 E2 E3 hr4 hr0
            refine wp_region_G (S0 := (fun (w' : World) => w'.cell? ⟨gs, i0, none⟩ = some (.int .i64 (x0 : Nat)) ∧ w'.cell? ⟨gs, i1, none⟩ = some (.int .i64 (x1 : Nat)) ∧ w'.cell? ⟨gs, i2, none⟩ = some (.int .i64 (x2 : Nat)) ∧ w'.cell? ⟨gs, i3, none⟩ = some (.int .i64 (x3 : Nat)))) (S1 := (fun (_ : World) => True)) (c := 24) (by kernel_rfl) ?_
            have hHeld := (show wr.drew.cell? ⟨gs, i0, none⟩ = some (.int .i64 (x0 : Nat)) ∧ wr.drew.cell? ⟨gs, i1, none⟩ = some (.int .i64 (x1 : Nat)) ∧ wr.drew.cell? ⟨gs, i2, none⟩ = some (.int .i64 (x2 : Nat)) ∧ wr.drew.cell? ⟨gs, i3, none⟩ = some (.int .i64 (x3 : Nat)) from ⟨HK0.out, HK1.out, HK2.out, HK3.out⟩)
            have h01 := (fun (w : World) (_ : w.cell? ⟨gs, i0, none⟩ = some (.int .i64 (x0 : Nat)) ∧ w.cell? ⟨gs, i1, none⟩ = some (.int .i64 (x1 : Nat)) ∧ w.cell? ⟨gs, i2, none⟩ = some (.int .i64 (x2 : Nat)) ∧ w.cell? ⟨gs, i3, none⟩ = some (.int .i64 (x3 : Nat))) => trivial)
            refine wpG_takeA (i := 0) (oi := ⟨some 82, _, _, _, _, _⟩) (v := ?_) rfl (by kernel_rfl) (by kernel_rfl) (by kernel_rfl) (by decide) (fun _ _ _ h => h) h01 rfl hHeld (Or.inl ⟨by rfl, ?_⟩) ?_
            rotate_left
            · (intro w hSw; (try dsimp only at hSw); go_simp; (try with_reducible rfl))
            try simp only [Act.put, List.setIfInBounds_toArray, List.set_cons_zero, List.set_cons_succ]
            refine wpG_takeA (i := 1) (oi := ⟨some 83, _, _, _, _, _⟩) (v := ?_) rfl (by kernel_rfl) (by kernel_rfl) (by kernel_rfl) (by decide) (fun _ _ _ h => h) h01 rfl hHeld (Or.inl ⟨by rfl, ?_⟩) ?_
            rotate_left
            · (intro w hSw; (try dsimp only at hSw); go_simp; (try with_reducible rfl))
            try simp only [Act.put, List.setIfInBounds_toArray, List.set_cons_zero, List.set_cons_succ]
            refine wpG_takeA (i := 2) (oi := ⟨some 84, _, _, _, _, _⟩) (v := ?_) rfl (by kernel_rfl) (by kernel_rfl) (by kernel_rfl) (by decide) (fun _ _ _ h => h) h01 rfl hHeld (Or.inl ⟨by rfl, ?_⟩) ?_
            rotate_left
            · (intro w hSw; (try dsimp only at hSw); go_simp; (try with_reducible rfl))
            try simp only [Act.put, List.setIfInBounds_toArray, List.set_cons_zero, List.set_cons_succ]
            refine wpG_takeA (i := 3) (oi := ⟨some 85, _, _, _, _, _⟩) (v := ?_) rfl (by kernel_rfl) (by kernel_rfl) (by kernel_rfl) (by decide) (fun _ _ _ h => h) h01 rfl hHeld (Or.inl ⟨by rfl, ?_⟩) ?_
            rotate_left
            · (intro w hSw; (try dsimp only at hSw); go_simp; (try with_reducible rfl))
            try simp only [Act.put, List.setIfInBounds_toArray, List.set_cons_zero, List.set_cons_succ]
            refine wpG_takeA (i := 4) (oi := ⟨some 86, _, _, _, _, _⟩) (v := ?_) rfl (by kernel_rfl) (by kernel_rfl) (by kernel_rfl) (by decide) (fun _ _ _ h => h) h01 rfl hHeld (Or.inl ⟨by rfl, ?_⟩) ?_
            rotate_left
            · (intro w hSw; (try dsimp only at hSw); go_simp; (try with_reducible rfl))
            try simp only [Act.put, List.setIfInBounds_toArray, List.set_cons_zero, List.set_cons_succ]
            refine wpG_takeA (i := 5) (oi := ⟨some 87, _, _, _, _, _⟩) (v := ?_) rfl (by kernel_rfl) (by kernel_rfl) (by kernel_rfl) (by decide) (fun _ _ _ h => h) h01 rfl hHeld (Or.inl ⟨by rfl, ?_⟩) ?_
            rotate_left
            · (intro w hSw; (try dsimp only at hSw); go_simp; (try with_reducible rfl))
            try simp only [Act.put, List.setIfInBounds_toArray, List.set_cons_zero, List.set_cons_succ]
            refine wpG_takeA (i := 6) (oi := ⟨some 88, _, _, _, _, _⟩) (v := ?_) rfl (by kernel_rfl) (by kernel_rfl) (by kernel_rfl) (by decide) (fun _ _ _ h => h) h01 rfl hHeld (Or.inl ⟨by rfl, ?_⟩) ?_
            rotate_left
            · (intro w hSw; (try dsimp only at hSw); go_simp; (try with_reducible rfl))
            try simp only [Act.put, List.setIfInBounds_toArray, List.set_cons_zero, List.set_cons_succ]
            refine wpG_takeA (i := 7) (oi := ⟨some 89, _, _, _, _, _⟩) (v := ?_) rfl (by kernel_rfl) (by kernel_rfl) (by kernel_rfl) (by decide) (fun _ _ _ h => h) h01 rfl hHeld (Or.inl ⟨by rfl, ?_⟩) ?_
            rotate_left
            · (intro w hSw; (try dsimp only at hSw); go_simp; (try with_reducible rfl))
            try simp only [Act.put, List.setIfInBounds_toArray, List.set_cons_zero, List.set_cons_succ]
            refine wpG_takeA (i := 8) (oi := ⟨some 90, _, _, _, _, _⟩) (v := ?_) rfl (by kernel_rfl) (by kernel_rfl) (by kernel_rfl) (by decide) (fun _ _ _ h => h) h01 rfl hHeld (Or.inl ⟨by rfl, ?_⟩) ?_
            rotate_left
            · (intro w hSw; (try dsimp only at hSw); go_simp; (try with_reducible rfl))
            try simp only [Act.put, List.setIfInBounds_toArray, List.set_cons_zero, List.set_cons_succ]
            refine wpG_takeA (i := 9) (oi := ⟨some 91, _, _, _, _, _⟩) (v := ?_) rfl (by kernel_rfl) (by kernel_rfl) (by kernel_rfl) (by decide) (fun _ _ _ h => h) h01 rfl hHeld (Or.inl ⟨by rfl, ?_⟩) ?_
            rotate_left
            · (intro w hSw; (try dsimp only at hSw); go_simp; (try with_reducible rfl))
            try simp only [Act.put, List.setIfInBounds_toArray, List.set_cons_zero, List.set_cons_succ]
            refine wpG_takeA (i := 10) (oi := ⟨some 92, _, _, _, _, _⟩) (v := ?_) rfl (by kernel_rfl) (by kernel_rfl) (by kernel_rfl) (by decide) (fun _ _ _ h => h) h01 rfl hHeld (Or.inl ⟨by rfl, ?_⟩) ?_
            rotate_left
            · (intro w hSw; (try dsimp only at hSw); go_simp; (try with_reducible rfl))
            try simp only [Act.put, List.setIfInBounds_toArray, List.set_cons_zero, List.set_cons_succ]
            refine wpG_take0 (i := 11) (oi := ⟨some 93, _, _, _, _, _⟩) (v := ?_) rfl (by kernel_rfl) (by kernel_rfl) (by kernel_rfl) (by decide) (by kernel_rfl) (fun _ _ _ h => h) rfl hHeld (Or.inl ⟨by rfl, ?_⟩) ?_
            rotate_left
            · (intro w hSw; (try dsimp only at hSw); go_simp; (try with_reducible rfl))
            try simp only [Act.put, List.setIfInBounds_toArray, List.set_cons_zero, List.set_cons_succ]
            refine wpG_takeA (i := 12) (oi := ⟨some 94, _, _, _, _, _⟩) (v := ?_) rfl (by kernel_rfl) (by kernel_rfl) (by kernel_rfl) (by decide) (fun _ _ _ h => h) h01 rfl hHeld (Or.inl ⟨by rfl, ?_⟩) ?_
            rotate_left
            · (intro w hSw; (try dsimp only at hSw); go_simp; (try with_reducible rfl))
            try simp only [Act.put, List.setIfInBounds_toArray, List.set_cons_zero, List.set_cons_succ]
            refine wpG_takeA (i := 13) (oi := ⟨some 95, _, _, _, _, _⟩) (v := ?_) rfl (by kernel_rfl) (by kernel_rfl) (by kernel_rfl) (by decide) (fun _ _ _ h => h) h01 rfl hHeld (Or.inl ⟨by rfl, ?_⟩) ?_
            rotate_left
            · (intro w hSw; (try dsimp only at hSw); go_simp; (try with_reducible rfl))
            try simp only [Act.put, List.setIfInBounds_toArray, List.set_cons_zero, List.set_cons_succ]
            refine wpG_takeA (i := 14) (oi := ⟨some 96, _, _, _, _, _⟩) (v := ?_) rfl (by kernel_rfl) (by kernel_rfl) (by kernel_rfl) (by decide) (fun _ _ _ h => h) h01 rfl hHeld (Or.inl ⟨by rfl, ?_⟩) ?_
            rotate_left
            · (intro w hSw; (try dsimp only at hSw); go_simp; (try with_reducible rfl))
            try simp only [Act.put, List.setIfInBounds_toArray, List.set_cons_zero, List.set_cons_succ]
            refine wpG_take0 (i := 15) (oi := ⟨some 97, _, _, _, _, _⟩) (v := ?_) rfl (by kernel_rfl) (by kernel_rfl) (by kernel_rfl) (by decide) (by kernel_rfl) (fun _ _ _ h => h) rfl hHeld (Or.inl ⟨by rfl, ?_⟩) ?_
            rotate_left
            · (intro w hSw; (try dsimp only at hSw); go_simp; (try with_reducible rfl))
            try simp only [Act.put, List.setIfInBounds_toArray, List.set_cons_zero, List.set_cons_succ]
            refine wpG_takeA (i := 16) (oi := ⟨some 98, _, _, _, _, _⟩) (v := ?_) rfl (by kernel_rfl) (by kernel_rfl) (by kernel_rfl) (by decide) (fun _ _ _ h => h) h01 rfl hHeld (Or.inl ⟨by rfl, ?_⟩) ?_
            rotate_left
            · (intro w hSw; (try dsimp only at hSw); go_simp; (try with_reducible rfl))
            try simp only [Act.put, List.setIfInBounds_toArray, List.set_cons_zero, List.set_cons_succ]
            refine wpG_takeA (i := 17) (oi := ⟨some 99, _, _, _, _, _⟩) (v := ?_) rfl (by kernel_rfl) (by kernel_rfl) (by kernel_rfl) (by decide) (fun _ _ _ h => h) h01 rfl hHeld (Or.inl ⟨by rfl, ?_⟩) ?_
            rotate_left
            · (intro w hSw; (try dsimp only at hSw); go_simp; (try with_reducible rfl))
            try simp only [Act.put, List.setIfInBounds_toArray, List.set_cons_zero, List.set_cons_succ]
            refine wpG_takeA (i := 18) (oi := ⟨some 100, _, _, _, _, _⟩) (v := ?_) rfl (by kernel_rfl) (by kernel_rfl) (by kernel_rfl) (by decide) (fun _ _ _ h => h) h01 rfl hHeld (Or.inl ⟨by rfl, ?_⟩) ?_
            rotate_left
            · (intro w hSw; (try dsimp only at hSw); go_simp; (try with_reducible rfl))
            try simp only [Act.put, List.setIfInBounds_toArray, List.set_cons_zero, List.set_cons_succ]
            refine wpG_take0 (i := 19) (oi := ⟨some 101, _, _, _, _, _⟩) (v := ?_) rfl (by kernel_rfl) (by kernel_rfl) (by kernel_rfl) (by decide) (by kernel_rfl) (fun _ _ _ h => h) rfl hHeld (Or.inl ⟨by rfl, ?_⟩) ?_
            rotate_left
            · (intro w hSw; (try dsimp only at hSw); go_simp; (try with_reducible rfl))
            try simp only [Act.put, List.setIfInBounds_toArray, List.set_cons_zero, List.set_cons_succ]
            refine wpG_takeA (i := 20) (oi := ⟨some 102, _, _, _, _, _⟩) (v := ?_) rfl (by kernel_rfl) (by kernel_rfl) (by kernel_rfl) (by decide) (fun _ _ _ h => h) h01 rfl hHeld (Or.inl ⟨by rfl, ?_⟩) ?_
            rotate_left
            · (intro w hSw; (try dsimp only at hSw); go_simp; (try with_reducible rfl))
            try simp only [Act.put, List.setIfInBounds_toArray, List.set_cons_zero, List.set_cons_succ]
            refine wpG_takeA (i := 21) (oi := ⟨some 103, _, _, _, _, _⟩) (v := ?_) rfl (by kernel_rfl) (by kernel_rfl) (by kernel_rfl) (by decide) (fun _ _ _ h => h) h01 rfl hHeld (Or.inl ⟨by rfl, ?_⟩) ?_
            rotate_left
            · (intro w hSw; (try dsimp only at hSw); go_simp; (try with_reducible rfl))
            try simp only [Act.put, List.setIfInBounds_toArray, List.set_cons_zero, List.set_cons_succ]
            refine wpG_takeA (i := 22) (oi := ⟨some 104, _, _, _, _, _⟩) (v := ?_) rfl (by kernel_rfl) (by kernel_rfl) (by kernel_rfl) (by decide) (fun _ _ _ h => h) h01 rfl hHeld (Or.inl ⟨by rfl, ?_⟩) ?_
            rotate_left
            · (intro w hSw; (try dsimp only at hSw); go_simp; (try with_reducible rfl))
            try simp only [Act.put, List.setIfInBounds_toArray, List.set_cons_zero, List.set_cons_succ]
            refine wpG_take0 (i := 23) (oi := ⟨some 105, _, _, _, _, _⟩) (v := ?_) rfl (by kernel_rfl) (by kernel_rfl) (by kernel_rfl) (by decide) (by kernel_rfl) (fun _ _ _ h => h) rfl hHeld (Or.inl ⟨by rfl, ?_⟩) ?_
            rotate_left
            · (intro w hSw; (try dsimp only at hSw); go_simp; (try with_reducible rfl))
            try simp only [Act.put, List.setIfInBounds_toArray, List.set_cons_zero, List.set_cons_succ]
            refine wpG_oneB (i := 24) (o := ⟨some 106, _, _, _, _, _⟩) (by kernel_rfl) rfl rfl (fun K hK => ?_)
            go_simp
            (with_reducible refine (C10.out _).mono ?_); rintro e w2 ⟨rfl, b2⟩
            have OS2 := Lib.hid (own_none (own_drew HS5.out) (grown_of_below b2))
            have OF2 := Lib.hid (own_none (own_drew HF5.out) (grown_of_below b2))
            have BW2 := Lib.hid ((below_drew HB5.out).trans (b2.mono (show w.heap.size ≤ wr.drew.heap.size from HB5.out.size)))
            have k0 := (own_nat OS2.out HZ.out l0).1.trans (congrArg (fun x => some (Value.int .i64 ((x : Nat) : Int))) HX.out.1)
            have k1 := (own_nat OS2.out HZ.out l1).1.trans (congrArg (fun x => some (Value.int .i64 ((x : Nat) : Int))) HX.out.2.1)
            have k2 := (own_nat OS2.out HZ.out l2).1.trans (congrArg (fun x => some (Value.int .i64 ((x : Nat) : Int))) HX.out.2.2.1)
            have k3 := (own_nat OS2.out HZ.out l3).1.trans (congrArg (fun x => some (Value.int .i64 ((x : Nat) : Int))) HX.out.2.2.2)
            have f0 := own_frozen (k := i0) OS2.out
            have f1 := own_frozen (k := i1) OS2.out
            have f2 := own_frozen (k := i2) OS2.out
            have f3 := own_frozen (k := i3) OS2.out
            clear b2
            refine hK.out _ _ trivial (fun hHeld => ?_)
            clear hK K
            try simp only [Act.put, List.setIfInBounds_toArray, List.set_cons_zero, List.set_cons_succ]
            refine wpG_takeB (i := 25) (oi := ⟨some 81, _, _, _, _, _⟩) (v := ?_) rfl (by kernel_rfl) (by kernel_rfl) (by kernel_rfl) (by decide) (fun _ _ _ h => h) h01 rfl hHeld (Or.inl ⟨by rfl, ?_⟩) ?_
            rotate_left
            · (intro w hSw; (try dsimp only at hSw); go_simp; (try with_reducible rfl))
            try simp only [Act.put, List.setIfInBounds_toArray, List.set_cons_zero, List.set_cons_succ]
            refine wpG_takeB (i := 26) (oi := ⟨some 107, _, _, _, _, _⟩) (v := ?_) rfl (by kernel_rfl) (by kernel_rfl) (by kernel_rfl) (by decide) (fun _ _ _ h => h) h01 rfl hHeld (Or.inl ⟨by rfl, ?_⟩) ?_
            rotate_left
            · (intro w hSw; (try dsimp only at hSw); go_simp; (try with_reducible rfl))
            try simp only [Act.put, List.setIfInBounds_toArray, List.set_cons_zero, List.set_cons_succ]
            refine wpG_takeB (i := 27) (oi := ⟨some 108, _, _, _, _, _⟩) (v := ?_) rfl (by kernel_rfl) (by kernel_rfl) (by kernel_rfl) (by decide) (fun _ _ _ h => h) h01 rfl hHeld (Or.inl ⟨by rfl, ?_⟩) ?_
            rotate_left
            · (intro w hSw; (try dsimp only at hSw); go_simp; (try with_reducible rfl))
            try simp only [Act.put, List.setIfInBounds_toArray, List.set_cons_zero, List.set_cons_succ]
            refine wpG_takeB (i := 28) (oi := ⟨some 109, _, _, _, _, _⟩) (v := ?_) rfl (by kernel_rfl) (by kernel_rfl) (by kernel_rfl) (by decide) (fun _ _ _ h => h) h01 rfl hHeld (Or.inl ⟨by rfl, ?_⟩) ?_
            rotate_left
            · (intro w hSw; (try dsimp only at hSw); go_simp; (try with_reducible rfl))
            try simp only [Act.put, List.setIfInBounds_toArray, List.set_cons_zero, List.set_cons_succ]
            refine wpG_takeB (i := 29) (oi := ⟨some 110, _, _, _, _, _⟩) (v := ?_) rfl (by kernel_rfl) (by kernel_rfl) (by kernel_rfl) (by decide) (fun _ _ _ h => h) h01 rfl hHeld (Or.inl ⟨by rfl, ?_⟩) ?_
            rotate_left
            · (intro w hSw; (try dsimp only at hSw); go_simp; (try with_reducible rfl))
            try simp only [Act.put, List.setIfInBounds_toArray, List.set_cons_zero, List.set_cons_succ]
            refine wpG_takeB (i := 30) (oi := ⟨some 111, _, _, _, _, _⟩) (v := ?_) rfl (by kernel_rfl) (by kernel_rfl) (by kernel_rfl) (by decide) (fun _ _ _ h => h) h01 rfl hHeld (Or.inl ⟨by rfl, ?_⟩) ?_
            rotate_left
            · (intro w hSw; (try dsimp only at hSw); go_simp; (try with_reducible rfl))
            try simp only [Act.put, List.setIfInBounds_toArray, List.set_cons_zero, List.set_cons_succ]
            refine wpG_oneB (i := 31) (o := ⟨none, _, _, _, _, _⟩) (by kernel_rfl) rfl rfl (fun K hK => ?_)
            go_simp
            refine hK.out _ _ trivial (fun hHeld => ?_)
            clear hK K
            try simp only [Act.put, List.setIfInBounds_toArray, List.set_cons_zero, List.set_cons_succ]
            refine wpG_takeB (i := 32) (oi := ⟨some 112, _, _, _, _, _⟩) (v := ?_) rfl (by kernel_rfl) (by kernel_rfl) (by kernel_rfl) (by decide) (fun _ _ _ h => h) h01 rfl hHeld (Or.inl ⟨by rfl, ?_⟩) ?_
            rotate_left
            · (intro w hSw; (try dsimp only at hSw); go_simp; (try with_reducible rfl))
            try simp only [Act.put, List.setIfInBounds_toArray, List.set_cons_zero, List.set_cons_succ]
            refine wpG_oneB (i := 33) (o := ⟨none, _, _, _, _, _⟩) (by kernel_rfl) rfl rfl (fun K hK => ?_)
            go_simp
            refine hK.out _ _ trivial (fun hHeld => ?_)
            clear hK K
            try simp only [Act.put, List.setIfInBounds_toArray, List.set_cons_zero, List.set_cons_succ]
            refine wpG_takeB (i := 34) (oi := ⟨some 113, _, _, _, _, _⟩) (v := ?_) rfl (by kernel_rfl) (by kernel_rfl) (by kernel_rfl) (by decide) (fun _ _ _ h => h) h01 rfl hHeld (Or.inl ⟨by rfl, ?_⟩) ?_
            rotate_left
            · (intro w hSw; (try dsimp only at hSw); go_simp; (try with_reducible rfl))
            try simp only [Act.put, List.setIfInBounds_toArray, List.set_cons_zero, List.set_cons_succ]
            refine wpG_oneB (i := 35) (o := ⟨none, _, _, _, _, _⟩) (by kernel_rfl) rfl rfl (fun K hK => ?_)
            go_simp
            refine hK.out _ _ trivial (fun hHeld => ?_)
            clear hK K
            try simp only [Act.put, List.setIfInBounds_toArray, List.set_cons_zero, List.set_cons_succ]
            refine wpG_takeB (i := 36) (oi := ⟨some 114, _, _, _, _, _⟩) (v := ?_) rfl (by kernel_rfl) (by kernel_rfl) (by kernel_rfl) (by decide) (fun _ _ _ h => h) h01 rfl hHeld (Or.inl ⟨by rfl, ?_⟩) ?_
            rotate_left
            · (intro w hSw; (try dsimp only at hSw); go_simp; (try with_reducible rfl))
            try simp only [Act.put, List.setIfInBounds_toArray, List.set_cons_zero, List.set_cons_succ]
            refine wpG_oneB (i := 37) (o := ⟨none, _, _, _, _, _⟩) (by kernel_rfl) rfl rfl (fun K hK => ?_)
            go_simp
            refine hK.out _ _ trivial (fun hHeld => ?_)
            clear hK K
            try simp only [Act.put, List.setIfInBounds_toArray, List.set_cons_zero, List.set_cons_succ]
            refine wpG_done (by kernel_rfl) ?_ _
            go_wp2_with fail
            have hq := HQ.out
            obtain ⟨hx0, hx1, hx2, hx3⟩ := HX.out
            have hst : qstep zs (i0, i1, i2, i3) = (((zs.set i0 (qA x0 x1 x2 x3)).set i1 (qB x0 x1 x2 x3)).set i2 (qC x0 x1 x2 x3)).set i3 (qD x0 x1 x2 x3) := by
              unfold qstep
              simp only [hx0, hx1, hx2, hx3]
            have HST := Lib.hid hst
            have HQ2 := Lib.hid (show (q8.drop (k + 1)).foldl qstep (qstep zs (i0, i1, i2, i3)) = Y by have h := HZY.out; rw [q8_drop k (by omega), hq] at h; exact h)
            clear hq hx0 hx1 hx2 hx3 hst hHeld h01
            go_roundw
            case rel =>
              refine ⟨k + 1, qstep zs (i0, i1, i2, i3), by omega, by go_num, ?_, HQ2, ?_, ?_, ?_⟩
              · rw [HST.out]
                exact (((HZ.out.set i0 (qA_lt _ _ _ _)).set i1 (qB_lt HYB.out.2.1)).set i2 (qC_lt _ _ _ _)).set i3 (qD_lt HYB.out.2.2.2)
              · rw [HST.out, List.map_set, List.map_set, List.map_set, List.map_set]
                exact own_store (own_store (own_store (own_store OS2.out _) _) _) _
              · have hng : ∀ v : Value, v = .slice (some ⟨gf, 0, none⟩) 16 capf → v.ownBlock ≠ some gs := fun v hv => by subst hv; simpa [Value.ownBlock] using HNE.out.symm
                exact own_setCell (own_setCell (own_setCell (own_setCell OF2.out (hng _ rfl) _) (hng _ rfl) _) (hng _ rfl) _) (hng _ rfl) _
              · exact (((BW2.out.setCell (own_ge OS2.out) _).setCell (own_ge OS2.out) _).setCell (own_ge OS2.out) _).setCell (own_ge OS2.out) _
            case measure => simp [intOf]; omega
          · obtain ⟨r1, r2, r3⟩ := hhi (by omega)
            have d4 : decide (4 ≤ (k : Int)) = true := by simp; omega
            have E1 := Lib.hid (show 4 + ((k : Int) + 1) % 4 = i1 by omega)
            have E2 := Lib.hid (show 8 + ((k : Int) + 2) % 4 = i2 by omega)
            have E3 := Lib.hid (show 12 + ((k : Int) + 3) % 4 = i3 by omega)
            have hr1 : ((k : Int) + 1) % 4 < 4 := by omega
            have hr2 : ((k : Int) + 2) % 4 < 4 := by omega
            have hr3 : ((k : Int) + 3) % 4 < 4 := by omega
            clear hlo hhi hm r1 r2 r3 hq hx0 hx1 hx2 hx3 y0 y1 y2 y3 c10 hk0 hk1 hk2 hk3 h4
            go_wp2_with fail
            clear d4
            rw [E1.out, E2.out, E3.out, E0.out]
            clear E0 E1 E2 E3 hr4 hr0 hr1 hr2 hr3
            refine wp_region_G (S0 := (fun (w' : World) => w'.cell? ⟨gs, i0, none⟩ = some (.int .i64 (x0 : Nat)) ∧ w'.cell? ⟨gs, i1, none⟩ = some (.int .i64 (x1 : Nat)) ∧ w'.cell? ⟨gs, i2, none⟩ = some (.int .i64 (x2 : Nat)) ∧ w'.cell? ⟨gs, i3, none⟩ = some (.int .i64 (x3 : Nat)))) (S1 := (fun (_ : World) => True)) (c := 24) (by kernel_rfl) ?_
            have hHeld := (show wr.drew.cell? ⟨gs, i0, none⟩ = some (.int .i64 (x0 : Nat)) ∧ wr.drew.cell? ⟨gs, i1, none⟩ = some (.int .i64 (x1 : Nat)) ∧ wr.drew.cell? ⟨gs, i2, none⟩ = some (.int .i64 (x2 : Nat)) ∧ wr.drew.cell? ⟨gs, i3, none⟩ = some (.int .i64 (x3 : Nat)) from ⟨HK0.out, HK1.out, HK2.out, HK3.out⟩)
            have h01 := (fun (w : World) (_ : w.cell? ⟨gs, i0, none⟩ = some (.int .i64 (x0 : Nat)) ∧ w.cell? ⟨gs, i1, none⟩ = some (.int .i64 (x1 : Nat)) ∧ w.cell? ⟨gs, i2, none⟩ = some (.int .i64 (x2 : Nat)) ∧ w.cell? ⟨gs, i3, none⟩ = some (.int .i64 (x3 : Nat))) => trivial)
            refine wpG_takeA (i := 0) (oi := ⟨some 82, _, _, _, _, _⟩) (v := ?_) rfl (by kernel_rfl) (by kernel_rfl) (by kernel_rfl) (by decide) (fun _ _ _ h => h) h01 rfl hHeld (Or.inl ⟨by rfl, ?_⟩) ?_
            rotate_left
            · (intro w hSw; (try dsimp only at hSw); go_simp; (try with_reducible rfl))
            try simp only [Act.put, List.setIfInBounds_toArray, List.set_cons_zero, List.set_cons_succ]
            refine wpG_takeA (i := 1) (oi := ⟨some 83, _, _, _, _, _⟩) (v := ?_) rfl (by kernel_rfl) (by kernel_rfl) (by kernel_rfl) (by decide) (fun _ _ _ h => h) h01 rfl hHeld (Or.inl ⟨by rfl, ?_⟩) ?_
            rotate_left
            · (intro w hSw; (try dsimp only at hSw); go_simp; (try with_reducible rfl))
            try simp only [Act.put, List.setIfInBounds_toArray, List.set_cons_zero, List.set_cons_succ]
            refine wpG_takeA (i := 2) (oi := ⟨some 84, _, _, _, _, _⟩) (v := ?_) rfl (by kernel_rfl) (by kernel_rfl) (by kernel_rfl) (by decide) (fun _ _ _ h => h) h01 rfl hHeld (Or.inl ⟨by rfl, ?_⟩) ?_
            rotate_left
            · (intro w hSw; (try dsimp only at hSw); go_simp; (try with_reducible rfl))
            try simp only [Act.put, List.setIfInBounds_toArray, List.set_cons_zero, List.set_cons_succ]
            refine wpG_takeA (i := 3) (oi := ⟨some 85, _, _, _, _, _⟩) (v := ?_) rfl (by kernel_rfl) (by kernel_rfl) (by kernel_rfl) (by decide) (fun _ _ _ h => h) h01 rfl hHeld (Or.inl ⟨by rfl, ?_⟩) ?_
            rotate_left
            · (intro w hSw; (try dsimp only at hSw); go_simp; (try with_reducible rfl))
            try simp only [Act.put, List.setIfInBounds_toArray, List.set_cons_zero, List.set_cons_succ]
            refine wpG_takeA (i := 4) (oi := ⟨some 86, _, _, _, _, _⟩) (v := ?_) rfl (by kernel_rfl) (by kernel_rfl) (by kernel_rfl) (by decide) (fun _ _ _ h => h) h01 rfl hHeld (Or.inl ⟨by rfl, ?_⟩) ?_
            rotate_left
            · (intro w hSw; (try dsimp only at hSw); go_simp; (try with_reducible rfl))
            try simp only [Act.put, List.setIfInBounds_toArray, List.set_cons_zero, List.set_cons_succ]
            refine wpG_takeA (i := 5) (oi := ⟨some 87, _, _, _, _, _⟩) (v := ?_) rfl (by kernel_rfl) (by kernel_rfl) (by kernel_rfl) (by decide) (fun _ _ _ h => h) h01 rfl hHeld (Or.inl ⟨by rfl, ?_⟩) ?_
            rotate_left
            · (intro w hSw; (try dsimp only at hSw); go_simp; (try with_reducible rfl))
            try simp only [Act.put, List.setIfInBounds_toArray, List.set_cons_zero, List.set_cons_succ]
            refine wpG_takeA (i := 6) (oi := ⟨some 88, _, _, _, _, _⟩) (v := ?_) rfl (by kernel_rfl) (by kernel_rfl) (by kernel_rfl) (by decide) (fun _ _ _ h => h) h01 rfl hHeld (Or.inl ⟨by rfl, ?_⟩) ?_
            rotate_left
            · (intro w hSw; (try dsimp only at hSw); go_simp; (try with_reducible rfl))
            try simp only [Act.put, List.setIfInBounds_toArray, List.set_cons_zero, List.set_cons_succ]
            refine wpG_takeA (i := 7) (oi := ⟨some 89, _, _, _, _, _⟩) (v := ?_) rfl (by kernel_rfl) (by kernel_rfl) (by kernel_rfl) (by decide) (fun _ _ _ h => h) h01 rfl hHeld (Or.inl ⟨by rfl, ?_⟩) ?_
            rotate_left
            · (intro w hSw; (try dsimp only at hSw); go_simp; (try with_reducible rfl))
            try simp only [Act.put, List.setIfInBounds_toArray, List.set_cons_zero, List.set_cons_succ]
            refine wpG_takeA (i := 8) (oi := ⟨some 90, _, _, _, _, _⟩) (v := ?_) rfl (by kernel_rfl) (by kernel_rfl) (by kernel_rfl) (by decide) (fun _ _ _ h => h) h01 rfl hHeld (Or.inl ⟨by rfl, ?_⟩) ?_
            rotate_left
            · (intro w hSw; (try dsimp only at hSw); go_simp; (try with_reducible rfl))
            try simp only [Act.put, List.setIfInBounds_toArray, List.set_cons_zero, List.set_cons_succ]
            refine wpG_takeA (i := 9) (oi := ⟨some 91, _, _, _, _, _⟩) (v := ?_) rfl (by kernel_rfl) (by kernel_rfl) (by kernel_rfl) (by decide) (fun _ _ _ h => h) h01 rfl hHeld (Or.inl ⟨by rfl, ?_⟩) ?_
            rotate_left
            · (intro w hSw; (try dsimp only at hSw); go_simp; (try with_reducible rfl))
            try simp only [Act.put, List.setIfInBounds_toArray, List.set_cons_zero, List.set_cons_succ]
            refine wpG_takeA (i := 10) (oi := ⟨some 92, _, _, _, _, _⟩) (v := ?_) rfl (by kernel_rfl) (by kernel_rfl) (by kernel_rfl) (by decide) (fun _ _ _ h => h) h01 rfl hHeld (Or.inl ⟨by rfl, ?_⟩) ?_
            rotate_left
            · (intro w hSw; (try dsimp only at hSw); go_simp; (try with_reducible rfl))
            try simp only [Act.put, List.setIfInBounds_toArray, List.set_cons_zero, List.set_cons_succ]
            refine wpG_take0 (i := 11) (oi := ⟨some 93, _, _, _, _, _⟩) (v := ?_) rfl (by kernel_rfl) (by kernel_rfl) (by kernel_rfl) (by decide) (by kernel_rfl) (fun _ _ _ h => h) rfl hHeld (Or.inl ⟨by rfl, ?_⟩) ?_
            rotate_left
            · (intro w hSw; (try dsimp only at hSw); go_simp; (try with_reducible rfl))
            try simp only [Act.put, List.setIfInBounds_toArray, List.set_cons_zero, List.set_cons_succ]
            refine wpG_takeA (i := 12) (oi := ⟨some 94, _, _, _, _, _⟩) (v := ?_) rfl (by kernel_rfl) (by kernel_rfl) (by kernel_rfl) (by decide) (fun _ _ _ h => h) h01 rfl hHeld (Or.inl ⟨by rfl, ?_⟩) ?_
            rotate_left
            · (intro w hSw; (try dsimp only at hSw); go_simp; (try with_reducible rfl))
            try simp only [Act.put, List.setIfInBounds_toArray, List.set_cons_zero, List.set_cons_succ]
            refine wpG_takeA (i := 13) (oi := ⟨some 95, _, _, _, _, _⟩) (v := ?_) rfl (by kernel_rfl) (by kernel_rfl) (by kernel_rfl) (by decide) (fun _ _ _ h => h) h01 rfl hHeld (Or.inl ⟨by rfl, ?_⟩) ?_
            rotate_left
            · (intro w hSw; (try dsimp only at hSw); go_simp; (try with_reducible rfl))
            try simp only [Act.put, List.setIfInBounds_toArray, List.set_cons_zero, List.set_cons_succ]
            refine wpG_takeA (i := 14) (oi := ⟨some 96, _, _, _, _, _⟩) (v := ?_) rfl (by kernel_rfl) (by kernel_rfl) (by kernel_rfl) (by decide) (fun _ _ _ h => h) h01 rfl hHeld (Or.inl ⟨by rfl, ?_⟩) ?_
            rotate_left
            · (intro w hSw; (try dsimp only at hSw); go_simp; (try with_reducible rfl))
            try simp only [Act.put, List.setIfInBounds_toArray, List.set_cons_zero, List.set_cons_succ]
            refine wpG_take0 (i := 15) (oi := ⟨some 97, _, _, _, _, _⟩) (v := ?_) rfl (by kernel_rfl) (by kernel_rfl) (by kernel_rfl) (by decide) (by kernel_rfl) (fun _ _ _ h => h) rfl hHeld (Or.inl ⟨by rfl, ?_⟩) ?_
            rotate_left
            · (intro w hSw; (try dsimp only at hSw); go_simp; (try with_reducible rfl))
            try simp only [Act.put, List.setIfInBounds_toArray, List.set_cons_zero, List.set_cons_succ]
            refine wpG_takeA (i := 16) (oi := ⟨some 98, _, _, _, _, _⟩) (v := ?_) rfl (by kernel_rfl) (by kernel_rfl) (by kernel_rfl) (by decide) (fun _ _ _ h => h) h01 rfl hHeld (Or.inl ⟨by rfl, ?_⟩) ?_
            rotate_left
            · (intro w hSw; (try dsimp only at hSw); go_simp; (try with_reducible rfl))
            try simp only [Act.put, List.setIfInBounds_toArray, List.set_cons_zero, List.set_cons_succ]
            refine wpG_takeA (i := 17) (oi := ⟨some 99, _, _, _, _, _⟩) (v := ?_) rfl (by kernel_rfl) (by kernel_rfl) (by kernel_rfl) (by decide) (fun _ _ _ h => h) h01 rfl hHeld (Or.inl ⟨by rfl, ?_⟩) ?_
            rotate_left
            · (intro w hSw; (try dsimp only at hSw); go_simp; (try with_reducible rfl))
            try simp only [Act.put, List.setIfInBounds_toArray, List.set_cons_zero, List.set_cons_succ]
            refine wpG_takeA (i := 18) (oi := ⟨some 100, _, _, _, _, _⟩) (v := ?_) rfl (by kernel_rfl) (by kernel_rfl) (by kernel_rfl) (by decide) (fun _ _ _ h => h) h01 rfl hHeld (Or.inl ⟨by rfl, ?_⟩) ?_
            rotate_left
            · (intro w hSw; (try dsimp only at hSw); go_simp; (try with_reducible rfl))
            try simp only [Act.put, List.setIfInBounds_toArray, List.set_cons_zero, List.set_cons_succ]
            refine wpG_take0 (i := 19) (oi := ⟨some 101, _, _, _, _, _⟩) (v := ?_) rfl (by kernel_rfl) (by kernel_rfl) (by kernel_rfl) (by decide) (by kernel_rfl) (fun _ _ _ h => h) rfl hHeld (Or.inl ⟨by rfl, ?_⟩) ?_
            rotate_left
            · (intro w hSw; (try dsimp only at hSw); go_simp; (try with_reducible rfl))
            try simp only [Act.put, List.setIfInBounds_toArray, List.set_cons_zero, List.set_cons_succ]
            refine wpG_takeA (i := 20) (oi := ⟨some 102, _, _, _, _, _⟩) (v := ?_) rfl (by kernel_rfl) (by kernel_rfl) (by kernel_rfl) (by decide) (fun _ _ _ h => h) h01 rfl hHeld (Or.inl ⟨by rfl, ?_⟩) ?_
            rotate_left
            · (intro w hSw; (try dsimp only at hSw); go_simp; (try with_reducible rfl))
            try simp only [Act.put, List.setIfInBounds_toArray, List.set_cons_zero, List.set_cons_succ]
            refine wpG_takeA (i := 21) (oi := ⟨some 103, _, _, _, _, _⟩) (v := ?_) rfl (by kernel_rfl) (by kernel_rfl) (by kernel_rfl) (by decide) (fun _ _ _ h => h) h01 rfl hHeld (Or.inl ⟨by rfl, ?_⟩) ?_
            rotate_left
            · (intro w hSw; (try dsimp only at hSw); go_simp; (try with_reducible rfl))
            try simp only [Act.put, List.setIfInBounds_toArray, List.set_cons_zero, List.set_cons_succ]
            refine wpG_takeA (i := 22) (oi := ⟨some 104, _, _, _, _, _⟩) (v := ?_) rfl (by kernel_rfl) (by kernel_rfl) (by kernel_rfl) (by decide) (fun _ _ _ h => h) h01 rfl hHeld (Or.inl ⟨by rfl, ?_⟩) ?_
            rotate_left
            · (intro w hSw; (try dsimp only at hSw); go_simp; (try with_reducible rfl))
            try simp only [Act.put, List.setIfInBounds_toArray, List.set_cons_zero, List.set_cons_succ]
            refine wpG_take0 (i := 23) (oi := ⟨some 105, _, _, _, _, _⟩) (v := ?_) rfl (by kernel_rfl) (by kernel_rfl) (by kernel_rfl) (by decide) (by kernel_rfl) (fun _ _ _ h => h) rfl hHeld (Or.inl ⟨by rfl, ?_⟩) ?_
            rotate_left
            · (intro w hSw; (try dsimp only at hSw); go_simp; (try with_reducible rfl))
            try simp only [Act.put, List.setIfInBounds_toArray, List.set_cons_zero, List.set_cons_succ]
            refine wpG_oneB (i := 24) (o := ⟨some 106, _, _, _, _, _⟩) (by kernel_rfl) rfl rfl (fun K hK => ?_)
            go_simp
            (with_reducible refine (C10.out _).mono ?_); rintro e w2 ⟨rfl, b2⟩
            have OS2 := Lib.hid (own_none (own_drew HS5.out) (grown_of_below b2))
            have OF2 := Lib.hid (own_none (own_drew HF5.out) (grown_of_below b2))
            have BW2 := Lib.hid ((below_drew HB5.out).trans (b2.mono (show w.heap.size ≤ wr.drew.heap.size from HB5.out.size)))
            have k0 := (own_nat OS2.out HZ.out l0).1.trans (congrArg (fun x => some (Value.int .i64 ((x : Nat) : Int))) HX.out.1)
            have k1 := (own_nat OS2.out HZ.out l1).1.trans (congrArg (fun x => some (Value.int .i64 ((x : Nat) : Int))) HX.out.2.1)
            have k2 := (own_nat OS2.out HZ.out l2).1.trans (congrArg (fun x => some (Value.int .i64 ((x : Nat) : Int))) HX.out.2.2.1)
            have k3 := (own_nat OS2.out HZ.out l3).1.trans (congrArg (fun x => some (Value.int .i64 ((x : Nat) : Int))) HX.out.2.2.2)
            have f0 := own_frozen (k := i0) OS2.out
            have f1 := own_frozen (k := i1) OS2.out
            have f2 := own_frozen (k := i2) OS2.out
            have f3 := own_frozen (k := i3) OS2.out
            clear b2
            refine hK.out _ _ trivial (fun hHeld => ?_)
            clear hK K
            try simp only [Act.put, List.setIfInBounds_toArray, List.set_cons_zero, List.set_cons_succ]
            refine wpG_takeB (i := 25) (oi := ⟨some 81, _, _, _, _, _⟩) (v := ?_) rfl (by kernel_rfl) (by kernel_rfl) (by kernel_rfl) (by decide) (fun _ _ _ h => h) h01 rfl hHeld (Or.inl ⟨by rfl, ?_⟩) ?_
            rotate_left
            · (intro w hSw; (try dsimp only at hSw); go_simp; (try with_reducible rfl))
            try simp only [Act.put, List.setIfInBounds_toArray, List.set_cons_zero, List.set_cons_succ]
            refine wpG_takeB (i := 26) (oi := ⟨some 107, _, _, _, _, _⟩) (v := ?_) rfl (by kernel_rfl) (by kernel_rfl) (by kernel_rfl) (by decide) (fun _ _ _ h => h) h01 rfl hHeld (Or.inl ⟨by rfl, ?_⟩) ?_
            rotate_left
            · (intro w hSw; (try dsimp only at hSw); go_simp; (try with_reducible rfl))
            try simp only [Act.put, List.setIfInBounds_toArray, List.set_cons_zero, List.set_cons_succ]
            refine wpG_takeB (i := 27) (oi := ⟨some 108, _, _, _, _, _⟩) (v := ?_) rfl (by kernel_rfl) (by kernel_rfl) (by kernel_rfl) (by decide) (fun _ _ _ h => h) h01 rfl hHeld (Or.inl ⟨by rfl, ?_⟩) ?_
            rotate_left
            · (intro w hSw; (try dsimp only at hSw); go_simp; (try with_reducible rfl))
            try simp only [Act.put, List.setIfInBounds_toArray, List.set_cons_zero, List.set_cons_succ]
            refine wpG_takeB (i := 28) (oi := ⟨some 109, _, _, _, _, _⟩) (v := ?_) rfl (by kernel_rfl) (by kernel_rfl) (by kernel_rfl) (by decide) (fun _ _ _ h => h) h01 rfl hHeld (Or.inl ⟨by rfl, ?_⟩) ?_
            rotate_left
            · (intro w hSw; (try dsimp only at hSw); go_simp; (try with_reducible rfl))
            try simp only [Act.put, List.setIfInBounds_toArray, List.set_cons_zero, List.set_cons_succ]
            refine wpG_takeB (i := 29) (oi := ⟨some 110, _, _, _, _, _⟩) (v := ?_) rfl (by kernel_rfl) (by kernel_rfl) (by kernel_rfl) (by decide) (fun _ _ _ h => h) h01 rfl hHeld (Or.inl ⟨by rfl, ?_⟩) ?_
            rotate_left
            · (intro w hSw; (try dsimp only at hSw); go_simp; (try with_reducible rfl))
            try simp only [Act.put, List.setIfInBounds_toArray, List.set_cons_zero, List.set_cons_succ]
            refine wpG_takeB (i := 30) (oi := ⟨some 111, _, _, _, _, _⟩) (v := ?_) rfl (by kernel_rfl) (by kernel_rfl) (by kernel_rfl) (by decide) (fun _ _ _ h => h) h01 rfl hHeld (Or.inl ⟨by rfl, ?_⟩) ?_
            rotate_left
            · (intro w hSw; (try dsimp only at hSw); go_simp; (try with_reducible rfl))
            try simp only [Act.put, List.setIfInBounds_toArray, List.set_cons_zero, List.set_cons_succ]
            refine wpG_oneB (i := 31) (o := ⟨none, _, _, _, _, _⟩) (by kernel_rfl) rfl rfl (fun K hK => ?_)
            go_simp
            refine hK.out _ _ trivial (fun hHeld => ?_)
            clear hK K
            try simp only [Act.put, List.setIfInBounds_toArray, List.set_cons_zero, List.set_cons_succ]
            refine wpG_takeB (i := 32) (oi := ⟨some 112, _, _, _, _, _⟩) (v := ?_) rfl (by kernel_rfl) (by kernel_rfl) (by kernel_rfl) (by decide) (fun _ _ _ h => h) h01 rfl hHeld (Or.inl ⟨by rfl, ?_⟩) ?_
            rotate_left
            · (intro w hSw; (try dsimp only at hSw); go_simp; (try with_reducible rfl))
            try simp only [Act.put, List.setIfInBounds_toArray, List.set_cons_zero, List.set_cons_succ]
            refine wpG_oneB (i := 33) (o := ⟨none, _, _, _, _, _⟩) (by kernel_rfl) rfl rfl (fun K hK => ?_)
            go_simp
            refine hK.out _ _ trivial (fun hHeld => ?_)
            clear hK K
            try simp only [Act.put, List.setIfInBounds_toArray, List.set_cons_zero, List.set_cons_succ]
            refine wpG_takeB (i := 34) (oi := ⟨some 113, _, _, _, _, _⟩) (v := ?_) rfl (by kernel_rfl) (by kernel_rfl) (by kernel_rfl) (by decide) (fun _ _ _ h => h) h01 rfl hHeld (Or.inl ⟨by rfl, ?_⟩) ?_
            rotate_left
            · (intro w hSw; (try dsimp only at hSw); go_simp; (try with_reducible rfl))
            try simp only [Act.put, List.setIfInBounds_toArray, List.set_cons_zero, List.set_cons_succ]
            refine wpG_oneB (i := 35) (o := ⟨none, _, _, _, _, _⟩) (by kernel_rfl) rfl rfl (fun K hK => ?_)
            go_simp
            refine hK.out _ _ trivial (fun hHeld => ?_)
            clear hK K
            try simp only [Act.put, List.setIfInBounds_toArray, List.set_cons_zero, List.set_cons_succ]
            refine wpG_takeB (i := 36) (oi := ⟨some 114, _, _, _, _, _⟩) (v := ?_) rfl (by kernel_rfl) (by kernel_rfl) (by kernel_rfl) (by decide) (fun _ _ _ h => h) h01 rfl hHeld (Or.inl ⟨by rfl, ?_⟩) ?_
            rotate_left
            · (intro w hSw; (try dsimp only at hSw); go_simp; (try with_reducible rfl))
            try simp only [Act.put, List.setIfInBounds_toArray, List.set_cons_zero, List.set_cons_succ]
            refine wpG_oneB (i := 37) (o := ⟨none, _, _, _, _, _⟩) (by kernel_rfl) rfl rfl (fun K hK => ?_)
            go_simp
            refine hK.out _ _ trivial (fun hHeld => ?_)
            clear hK K
            try simp only [Act.put, List.setIfInBounds_toArray, List.set_cons_zero, List.set_cons_succ]
            refine wpG_done (by kernel_rfl) ?_ _
            go_wp2_with fail
            have hq := HQ.out
            obtain ⟨hx0, hx1, hx2, hx3⟩ := HX.out
            have hst : qstep zs (i0, i1, i2, i3) = (((zs.set i0 (qA x0 x1 x2 x3)).set i1 (qB x0 x1 x2 x3)).set i2 (qC x0 x1 x2 x3)).set i3 (qD x0 x1 x2 x3) := by
              unfold qstep
              simp only [hx0, hx1, hx2, hx3]
            have HST := Lib.hid hst
            have HQ2 := Lib.hid (show (q8.drop (k + 1)).foldl qstep (qstep zs (i0, i1, i2, i3)) = Y by have h := HZY.out; rw [q8_drop k (by omega), hq] at h; exact h)
            clear hq hx0 hx1 hx2 hx3 hst hHeld h01
            go_roundw
            case rel =>
              refine ⟨k + 1, qstep zs (i0, i1, i2, i3), by omega, by go_num, ?_, HQ2, ?_, ?_, ?_⟩
              · rw [HST.out]
                exact (((HZ.out.set i0 (qA_lt _ _ _ _)).set i1 (qB_lt HYB.out.2.1)).set i2 (qC_lt _ _ _ _)).set i3 (qD_lt HYB.out.2.2.2)
              · rw [HST.out, List.map_set, List.map_set, List.map_set, List.map_set]
                exact own_store (own_store (own_store (own_store OS2.out _) _) _) _
              · have hng : ∀ v : Value, v = .slice (some ⟨gf, 0, none⟩) 16 capf → v.ownBlock ≠ some gs := fun v hv => by subst hv; simpa [Value.ownBlock] using HNE.out.symm
                exact own_setCell (own_setCell (own_setCell (own_setCell OF2.out (hng _ rfl) _) (hng _ rfl) _) (hng _ rfl) _) (hng _ rfl) _
              · exact (((BW2.out.setCell (own_ge OS2.out) _).setCell (own_ge OS2.out) _).setCell (own_ge OS2.out) _).setCell (own_ge OS2.out) _
            case measure => simp [intOf]; omega
        · obtain rfl : k = 8 := by omega
          have hz := HZY.out
          rw [show q8.drop 8 = [] from rfl, List.foldl_nil] at hz
          have HZ2 := Lib.hid hz
          clear hz hlt2
          go_wp2_with fail
          go_roundw
          case rel => exact ⟨j + 1, zs, by omega, by go_num, HZ, Lib.hid (by have := HYT.out; rw [show 10 - j = (10 - (j + 1)) + 1 by omega] at this; rw [HZ2.out, ← HYD.out]; exact this), HS5.out, HF5.out, HB5.out⟩
          case measure => simp [intOf]; omega
    · obtain rfl : j = 10 := by omega
      have hyt := HYT.out
      rw [show 10 - 10 = 0 from rfl, dbls] at hyt
      subst hyt
      clear hlt HYT
      rw [show ((10 : Nat) : Int) = 10 from rfl]
      go_wp2_with fail
      go_loopw [16, 17, 18, 19] (fun out ii _ _ wz => ∃ i : Nat, i ≤ 16 ∧ ii = .int .i64 i ∧ wz.ownsRow w.heap.size 5 1 out (4 * i) ((outW S ys i).map Ytbfejjjdolfcfaa.u8) ∧ wz.ownsRow w.heap.size 3 1 (.slice (some ⟨gs, 0, none⟩) 16 caps) 16 (ys.map nw) ∧ wz.ownsRow w.heap.size 3 1 (.slice (some ⟨gf, 0, none⟩) 16 capf) 16 (S.map nw) ∧ Below w.heap.size w wz) (fun _ ii _ _ _ => 16 - (intOf ii).toNat)
      case atStart => exact ⟨0, by omega, rfl, World.ownsRow_nil _ _ 5 1, HS3.out, HF3.out, HB3.out⟩
      clear HS3 HF3 HB3
      case round =>
        obtain ⟨i, hi, rfl, ho0, ho1, ho2, hbw⟩ := hrel
        have HO6 := Lib.hid ho0
        have HS6 := Lib.hid ho1
        have HF6 := Lib.hid ho2
        have HB6 := Lib.hid hbw
        clear ho0 ho1 ho2 hbw
        by_cases hlt3 : (i : Int) < 16
        · obtain ⟨hk1, y1⟩ := own_nat HS6.out HY.out (show i < 16 by omega)
          obtain ⟨hk2, y2⟩ := own_nat HF6.out HS.out (show i < 16 by omega)
          obtain ⟨V, hV⟩ : ∃ V : Nat, (ys.getD i 0 + S.getD i 0) % 4294967296 = V := ⟨_, rfl⟩
          have hos := outW_succ S ys i
          rw [hV] at hos
          have HOS := Lib.hid hos
          have hs2 : ((ys.getD i 0 : Nat) + (S.getD i 0 : Nat) : Int) % 4294967296 = (V : Nat) := by omega
          have hV2 : (V : Int) < 4294967296 := by omega
          generalize ys.getD i 0 = x at *
          generalize S.getD i 0 = y at *
          have hx : (x : Int) < 4294967296 := by omega
          have hy : (y : Int) < 4294967296 := by omega
          have hi0 : (0 : Int) ≤ i := by omega
          clear y1 y2 hV hos
          go_wp2_with fail
          go_region
          go_wp2_with fail
          rw [hs2]
          clear hs2 hk1 hk2
          have HO7 := Lib.hid (own_drew HO6.out)
          have HS7 := Lib.hid (own_drew HS6.out)
          have HF7 := Lib.hid (own_drew HF6.out)
          have HB7 := Lib.hid (below_drew HB6.out)
          clear HO6 HS6 HF6 HB6
          go_loopw [16, 18, 19] (fun out vv kk wq => RB4 w.heap.size (4 * i) ((outW S ys i).map Ytbfejjjdolfcfaa.u8) V out vv kk wq ∧ wq.ownsRow w.heap.size 3 1 (.slice (some ⟨gs, 0, none⟩) 16 caps) 16 (ys.map nw) ∧ wq.ownsRow w.heap.size 3 1 (.slice (some ⟨gf, 0, none⟩) 16 capf) 16 (S.map nw) ∧ Below w.heap.size w wq) (fun _ _ kk _ => (4 - intOf kk).toNat)
          case atStart => exact ⟨.inl ⟨rfl, rfl, by rw [List.append_nil]; exact HO7.out⟩, HS7.out, HF7.out, HB7.out⟩
          clear HO7 HS7 HF7 HB7
          case round =>
            obtain ⟨hc, ho1, ho2, hbw⟩ := hrel
            have HS8 := Lib.hid ho1
            have HF8 := Lib.hid ho2
            have HB8 := Lib.hid hbw
            clear ho1 ho2 hbw
            rcases hc with ⟨rfl, rfl, ho⟩ | ⟨rfl, rfl, ho⟩ | ⟨rfl, rfl, ho⟩ | ⟨rfl, rfl, ho⟩ | ⟨rfl, rfl, ho⟩
            all_goals (obtain ⟨A8, cap8, rfl, -⟩ := own_form ho; have HO8 := Lib.hid ho; clear ho)
            · go_wp2_with (at_builtin; go_must (refine wpList_app_own (base := w.heap.size) (n := 4 * i + 0) (m := 1) (xs := (outW S ys i).map Ytbfejjjdolfcfaa.u8 ++ []) (news := [.int .u8 (((V : Nat) : Int) % 256)]) rfl (.tmp 133) (.tmp 137) 30 rfl el30 rfl (own_alloc HO8.out) rfl (Holds.one _ _ _) (by intro u hu; cases hu with | head => rfl | tail _ h => cases h) (by unfold maxLen; omega) (by omega) (by have := HB8.out.size; simp; omega) ?_; intro v9 w9 hown hg _; refine Hid.out ?_))
              refine Lib.hid ?_
              rw [List.append_assoc] at hown
              have HO9 := Lib.hid hown
              have HS9 := Lib.hid ((own_alloc HS8.out).kept hg (own_other HS8.out HO8.out (by decide)))
              have HF9 := Lib.hid ((own_alloc HF8.out).kept hg (own_other HF8.out HO8.out (by decide)))
              have HB9 := Lib.hid (below_own (HB8.out.alloc HB8.out.size _) (by have := HB8.out.size; simp; omega) (own_alloc HO8.out) hg)
              clear hown hg
              go_wp2_with fail
              go_roundw
              case rel => exact ⟨.inr (.inl ⟨rfl, congrArg (Value.int .i64) (by omega), HO9.out⟩), HS9.out, HF9.out, HB9.out⟩
              case measure => simp [intOf]
            · go_wp2_with (at_builtin; go_must (refine wpList_app_own (base := w.heap.size) (n := 4 * i + 1) (m := 1) (xs := (outW S ys i).map Ytbfejjjdolfcfaa.u8 ++ [.int .u8 (((V : Nat) : Int) % 256)]) (news := [.int .u8 (((V : Nat) : Int) / 256 % 256)]) rfl (.tmp 133) (.tmp 137) 30 rfl el30 rfl (own_alloc HO8.out) rfl (Holds.one _ _ _) (by intro u hu; cases hu with | head => rfl | tail _ h => cases h) (by unfold maxLen; omega) (by omega) (by have := HB8.out.size; simp; omega) ?_; intro v9 w9 hown hg _; refine Hid.out ?_))
              refine Lib.hid ?_
              rw [List.append_assoc] at hown
              have HO9 := Lib.hid hown
              have HS9 := Lib.hid ((own_alloc HS8.out).kept hg (own_other HS8.out HO8.out (by decide)))
              have HF9 := Lib.hid ((own_alloc HF8.out).kept hg (own_other HF8.out HO8.out (by decide)))
              have HB9 := Lib.hid (below_own (HB8.out.alloc HB8.out.size _) (by have := HB8.out.size; simp; omega) (own_alloc HO8.out) hg)
              clear hown hg
              go_wp2_with fail
              go_roundw
              case rel => exact ⟨.inr (.inr (.inl ⟨rfl, congrArg (Value.int .i64) (by omega), HO9.out⟩)), HS9.out, HF9.out, HB9.out⟩
              case measure => simp [intOf]
            · go_wp2_with (at_builtin; go_must (refine wpList_app_own (base := w.heap.size) (n := 4 * i + 2) (m := 1) (xs := (outW S ys i).map Ytbfejjjdolfcfaa.u8 ++ [.int .u8 (((V : Nat) : Int) % 256), .int .u8 (((V : Nat) : Int) / 256 % 256)]) (news := [.int .u8 (((V : Nat) : Int) / 65536 % 256)]) rfl (.tmp 133) (.tmp 137) 30 rfl el30 rfl (own_alloc HO8.out) rfl (Holds.one _ _ _) (by intro u hu; cases hu with | head => rfl | tail _ h => cases h) (by unfold maxLen; omega) (by omega) (by have := HB8.out.size; simp; omega) ?_; intro v9 w9 hown hg _; refine Hid.out ?_))
              refine Lib.hid ?_
              rw [List.append_assoc] at hown
              have HO9 := Lib.hid hown
              have HS9 := Lib.hid ((own_alloc HS8.out).kept hg (own_other HS8.out HO8.out (by decide)))
              have HF9 := Lib.hid ((own_alloc HF8.out).kept hg (own_other HF8.out HO8.out (by decide)))
              have HB9 := Lib.hid (below_own (HB8.out.alloc HB8.out.size _) (by have := HB8.out.size; simp; omega) (own_alloc HO8.out) hg)
              clear hown hg
              go_wp2_with fail
              go_roundw
              case rel => exact ⟨.inr (.inr (.inr (.inl ⟨rfl, congrArg (Value.int .i64) (by omega), HO9.out⟩))), HS9.out, HF9.out, HB9.out⟩
              case measure => simp [intOf]
            · go_wp2_with (at_builtin; go_must (refine wpList_app_own (base := w.heap.size) (n := 4 * i + 3) (m := 1) (xs := (outW S ys i).map Ytbfejjjdolfcfaa.u8 ++ [.int .u8 (((V : Nat) : Int) % 256), .int .u8 (((V : Nat) : Int) / 256 % 256), .int .u8 (((V : Nat) : Int) / 65536 % 256)]) (news := [.int .u8 (((V : Nat) : Int) / 16777216 % 256)]) rfl (.tmp 133) (.tmp 137) 30 rfl el30 rfl (own_alloc HO8.out) rfl (Holds.one _ _ _) (by intro u hu; cases hu with | head => rfl | tail _ h => cases h) (by unfold maxLen; omega) (by omega) (by have := HB8.out.size; simp; omega) ?_; intro v9 w9 hown hg _; refine Hid.out ?_))
              refine Lib.hid ?_
              rw [List.append_assoc] at hown
              have HO9 := Lib.hid hown
              have HS9 := Lib.hid ((own_alloc HS8.out).kept hg (own_other HS8.out HO8.out (by decide)))
              have HF9 := Lib.hid ((own_alloc HF8.out).kept hg (own_other HF8.out HO8.out (by decide)))
              have HB9 := Lib.hid (below_own (HB8.out.alloc HB8.out.size _) (by have := HB8.out.size; simp; omega) (own_alloc HO8.out) hg)
              clear hown hg
              go_wp2_with fail
              go_roundw
              case rel => exact ⟨.inr (.inr (.inr (.inr (⟨rfl, congrArg (Value.int .i64) (by omega), HO9.out⟩)))), HS9.out, HF9.out, HB9.out⟩
              case measure => simp [intOf]
            · go_wp2_with fail
              go_roundw
              case rel =>
                refine ⟨i + 1, by omega, by go_num, ?_, HS8.out, HF8.out, HB8.out⟩
                rw [HOS.out, List.map_append]
                have hl : (le4 V).map Ytbfejjjdolfcfaa.u8 = [.int .u8 (((V : Nat) : Int) % 256), .int .u8 (((V : Nat) : Int) / 256 % 256), .int .u8 (((V : Nat) : Int) / 65536 % 256), .int .u8 (((V : Nat) : Int) / 16777216 % 256)] := by
                  simp only [le4, List.map_cons, List.map_nil]
                  rw [u8_of (by omega), u8_of (by omega), u8_of (by omega), u8_of (by omega)]
                  simp
                rw [hl]
                exact HO8.out
              case measure => simp [intOf]; omega
        · obtain rfl : i = 16 := by omega
          have ho := HO6.out
          rw [HOUT.out] at ho
          have HO9 := Lib.hid ho
          clear ho hlt3
          go_wp2_with fail
          go_ret2
          exact ⟨_, rfl, HO9.out, HB6.out⟩
end Go.Proofs.Ytbfejjjdolfcfaa
