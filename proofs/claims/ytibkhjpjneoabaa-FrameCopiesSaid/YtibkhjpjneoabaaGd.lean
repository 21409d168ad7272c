/- The reference's delimited, and Read. Parts of lists of results; a reader beside another one. Hardly any walk. -/
import Derived.Test.YtibkhjpjneoabaaGb
import Derived.Test.YtibkhjpjneoabaaGp
import Derived.Test.YtibkhjpjneoabaaFt
namespace Go.Proofs.Ytibkhjpjneoabaa
open Go.RowKit
set_option linter.unusedVariables false
set_option linter.unusedSimpArgs false

/-- The sealed bytes in the making. -/
structure SlO (wo W : World) (As : Option Addr) (ns cs : Nat) (sl : List UInt8) : Prop where
  below : Below wo.heap.size wo W
  own : W.ownsRow wo.heap.size 5 1 (.slice As ns cs) ns (sl.map u8)
  len : ns = sl.length
  small : ns ≤ 30000
theorem SlO.over {wo W W2 : World} {As : Option Addr} {ns cs : Nat} {sl : List UInt8} (h : SlO wo W As ns cs sl) (hb : Below W.heap.size W W2) : SlO wo W2 As ns cs sl :=
  ⟨h.below.trans (hb.mono h.below.size), own_keeps h.own fun g hg => hb.block g (own_lt h.own g hg), h.len, h.small⟩
theorem SlO.push {wo W W2 : World} {As A4 : Option Addr} {ns cs c4 : Nat} {sl : List UInt8} {y : UInt8} {ob : Obj} (h : SlO wo W As ns cs sl) (hown : W2.ownsRow wo.heap.size 5 1 (.slice A4 (ns + 1) c4) (ns + 1) (sl.map u8 ++ [y].map u8)) (hg : (W.alloc ob).grownBy W2 (Value.slice As ns cs).ownBlock) (hs : ns + 1 ≤ 30000) : SlO wo W2 A4 (ns + 1) c4 (sl ++ [y]) :=
  ⟨below_own (h.below.alloc h.below.size ob) (Nat.le_trans h.below.size (by simp)) (own_alloc h.own) hg, by rw [List.map_append]; exact hown, by simp [h.len], hs⟩

set_option maxRecDepth 100000 in
set_option maxHeartbeats 16000000 in
theorem delimited_ref (m c : Int) (hF : OkF 2 m c) (A : Option Addr) (n cp : Nat) (bs : List UInt8) (w : World) (hr : RB w A n cp bs) (hn : n ≤ 30000) :
    Calls Try.prog 38 #[FV 2 m c, .slice A n cp] w (RRes w (feedS 2 m c St.new bs)) := by
  unfold FV
  obtain ⟨W0, hW0⟩ : ∃ W0, (w.alloc (.cells #[.int .i64 2, .int .i64 m, .int .i64 c] 24)).alloc (.cells #[.slice none 0 0, .bool false, .int .i64 0] 49) = W0 := ⟨_, rfl⟩
  have hb0 : Below w.heap.size w W0 := hW0 ▸ ((Below.refl _ w).alloc (Nat.le_refl _) _).alloc (by simp) _
  have kf : Blk W0 w.heap.size 24 #[.int .i64 2, .int .i64 m, .int .i64 c] := hW0 ▸ (Blk.new w 24 _).alloc _
  have kr : Blk W0 (w.heap.size + 1) 49 #[.slice none 0 0, .bool false, .int .i64 0] := by have := Blk.new (w.alloc (.cells #[.int .i64 2, .int .i64 m, .int .i64 c] 24)) 49 #[.slice none 0 0, .bool false, .int .i64 0]; rw [World.size_alloc, hW0] at this; exact this
  have hsz : W0.heap.size = w.heap.size + 2 := by rw [← hW0]; simp
  obtain ⟨W1, hW1⟩ : ∃ W1, W0.alloc (.cells #[.slice none 0 0, .bool false, .int .i64 (-1)] 49) = W1 := ⟨_, rfl⟩
  have hb1 : Below W0.heap.size W0 W1 := hW1 ▸ (Below.refl _ W0).alloc (Nat.le_refl _) _
  have kx : Blk W1 (w.heap.size + 2) 49 #[.slice none 0 0, .bool false, .int .i64 (-1)] := by have := Blk.new W0 49 #[.slice none 0 0, .bool false, .int .i64 (-1)]; rw [hW1, hsz] at this; exact this
  have HX1 := Lib.hid (show RxM w W1 2 m c (.slice none 0 0) false (-1) [] from ⟨kf.below hb1 kf.lt, kr.below hb1 kr.lt, kx, ⟨World.ownsRow_nil _ _ 44 3, fun _ h => by cases h⟩, hb0.trans (hb1.mono hb0.size)⟩)
  have HR := Lib.hid hr
  have HN := Lib.hid hn
  have HF := Lib.hid hF
  have HW0 := Lib.hid hW0
  have HW1 := Lib.hid hW1
  have HM1 := Lib.hid (show 0 ≤ m ∧ m ≤ 4096 from ⟨by have := hF.m1; omega, hF.m2⟩)
  clear hW0 hb0 kf kr hW1 hb1 kx hr hn hF
  go_enter Try.func38, Try.ntmps38
  go_upto_region 1 with fail
  rw [HW0.out]
  clear HW0
  go_upto_region 2 with fail
  rw [HW1.out]
  clear HW1 hsz
  have hn3 : (n : Int) ≤ 30000 := by have := HN.out; omega
  go_wp2_with fail
  go_loopw [6] (fun aa wr => ∃ (at_ : Nat) (out : Value) (ds : List Fd), aa = .int .i64 (at_ : Int) ∧ Hid (RxM w wr 2 m c out false (-1) ds) ∧ Hid (DelT m c bs at_ (ds.map Fd.fr))) (fun aa _ => n + 1 - (intOf aa).toNat)
  case atStart => exact ⟨0, .slice none 0 0, [], rfl, HX1, Lib.hid DelT.zero⟩
  case round =>
    obtain ⟨at_, out, ds, rfl, HX, HT⟩ := hrel
    obtain ⟨wo, rfl⟩ : ∃ wo : World, wo = wr := ⟨_, rfl⟩
    have ha0 : (0 : Int) ≤ at_ := by omega
    have ha3 : (at_ : Int) ≤ 30001 := by have := HT.out.le; have := HR.out.len; have := HN.out; omega
    obtain ⟨Ao, co, hout, -⟩ := own_formS HX.out.frs.own
    subst hout
    have HDL := Lib.hid (show ds.length ≤ 30000 by have := HT.out.cnt; rw [HR.out.len, List.length_map] at this; have := HN.out; omega)
    by_cases hlt : (at_ : Int) < n
    case neg =>
      have HTF := Lib.hid (HT.out.fin (by rw [HR.out.len]; omega))
      obtain ⟨⟨x0, x1, x2⟩, ⟨y0, y1, y2⟩, z0, z1, z2, -, -, -⟩ := HX.out.cells_
      go_wp2_with fail
      obtain ⟨hk, hfr, hbw⟩ := HX.out.ret
      refine bodyPost_ret (v := .agg #[.slice Ao ds.length co, .bool false, .int .i64 (-1)]) (rx_res rfl rfl hk) rfl ⟨_, _, ?_, hfr, ?_, hbw⟩
      · obtain ⟨h1, h2, h3⟩ := HTF.out
        rw [show decide ((feedS 2 m c St.new bs).1.st = 2) = false by simpa using h1, h2]; rfl
      · exact HTF.out.2.2.symm
    case pos =>
    have HLT := Lib.hid hlt
    have HAT := Lib.hid (show at_ < bs.length by have := HR.out.len; omega)
    obtain ⟨b, o, hAA, hbl, hcl⟩ := HR.out.bs (by rw [HR.out.len]; omega)
    subst hAA
    have HCL := Lib.hid (show ∀ W, Below w.heap.size w W → ∀ i (hi : i < bs.length), W.cell? ⟨b, o + i, none⟩ = some (.int .u8 ((bs[i]).toNat : Int)) from fun W hb i hi => (hb.cell (p := ⟨b, o + i, none⟩) hbl).trans (hcl i hi))
    have kx := HCL.out _ HX.out.below_ at_ HAT.out
    obtain ⟨x, hx⟩ : ∃ x : Int, ((bs[at_]'HAT.out).toNat : Int) = x := ⟨_, rfl⟩
    rw [hx] at kx
    have hx0 : 0 ≤ x := by omega
    have hx1 : x < 256 := by have := (bs[at_]'HAT.out).toNat_lt; omega
    clear hcl hbl
    by_cases h126 : x = 126
    · have H126 := Lib.hid (show bs[at_]'HAT.out = 126 from UInt8.toNat_inj.1 (by have h := hx.trans h126; show (bs[at_]'HAT.out).toNat = 126; omega))
      subst h126
      clear hx
      go_wp2_with fail
      go_roundw
      case rel => exact ⟨at_ + 1, _, ds, by go_num, HX, Lib.hid (HT.out.flag HAT.out H126.out)⟩
      case measure => have := HLT.out; simp [intOf]; omega
    have q126 : (x == 126) = false := by simpa using h126
    have HA9 := Lib.hid (show bs[at_]'HAT.out ≠ 126 from fun e => h126 (by rw [← hx, e]; rfl))
    clear hx h126
    go_wp2_with fail
    clear kx hx0 hx1 q126
    go_loopw [7, 8, 9, 10] (fun s7 s8 s9 s10 wz => ∃ (As : Option Addr) (ns cs : Nat) (sl : List UInt8) (code : Int) (k : Nat), s7 = .slice As ns cs ∧ s8 = .int .i64 code ∧ s9 = .int .i64 (k : Int) ∧ Hid (SlO wo wz As ns cs sl) ∧ Hid ((code = 0 ∧ DelJ m c at_ bs k sl) ∨ (code = 5 ∧ DelB m c at_ bs k 5))) (fun _ _ s9 _ _ => n - (intOf s9).toNat)
    case atStart => exact ⟨none, 0, 0, [], 0, at_, rfl, rfl, rfl, Lib.hid ⟨Below.refl _ _, World.ownsRow_nil _ _ 5 1, rfl, by omega⟩, Lib.hid (.inl ⟨rfl, DelJ.zero HM1.out.1 (by have := HAT.out; omega)⟩)⟩
    case round =>
      obtain ⟨As, ns, cs, sl, code, k, rfl, rfl, rfl, HSL, HCD⟩ := hrel
      obtain ⟨wx, rfl⟩ : ∃ wx : World, wx = wr := ⟨_, rfl⟩
      have HX4 := Lib.hid (HX.out.below HSL.out.below)
      have hk0 : (0 : Int) ≤ k := by omega
      have HKN := Lib.hid (show at_ ≤ k ∧ k ≤ n from by
        have := HR.out.len
        rcases HCD.out with ⟨-, h⟩ | ⟨-, h⟩
        · have := h.le; have := h.kl; omega
        · have := h.kl; have := h.le; omega)
      rcases HCD.out with ⟨hc0, hJ⟩ | ⟨hc5, hB⟩
      case inr =>
        subst hc5
        have HDB := Lib.hid hB
        clear hB
        go_upto_region 8 with fail
        go_cut [38] from 24 to 37 (fun z wz => z = .bool false ∧ wx = wz)
        case first =>
          by_cases hkn : (k : Int) < n
          · have hkb : k < bs.length := by have := HR.out.len; omega
            have kx := HCL.out _ HX4.out.below_ k hkb
            obtain ⟨y, hy⟩ : ∃ y : Int, ((bs[k]).toNat : Int) = y := ⟨_, rfl⟩
            rw [hy] at kx
            clear hy hkb
            by_cases hy6 : y = 126
            · subst hy6
              go_wp2_with fail
              go_meet
              exact ⟨rfl, rfl⟩
            · have q6 : (y != 126) = true := by simpa using hy6
              clear hy6
              go_wp2_with fail
              go_meet
              exact ⟨rfl, rfl⟩
          · go_wp2_with fail
            go_meet
            exact ⟨rfl, rfl⟩
        case rest =>
          obtain ⟨rfl, rfl⟩ := hcut
          obtain ⟨⟨x0, x1, x2⟩, -, -, -, -, -, -, -⟩ := HX4.out.cells_
          go_wp2_with (at_builtin; go_must (refine wpList_app_sz rfl (.tmp 92) (.tmp 96) 40 rfl els40 (base := w.heap.size) (n := ds.length) (m := 1) (xs := ds.flatMap Fd.cells) (news := Fd.cells ⟨⟨at_, [], 5⟩, none, 0, 0⟩) rfl (own_alloc HX4.out.frs.own) rfl (HoldsS.new _ 3 1 (Fd.cells ⟨⟨at_, [], 5⟩, none, 0, 0⟩) 44 rfl) (fd_one _) (by have := HDL.out; unfold maxLen; omega) (by have := HDL.out; omega) (by have := HX4.out.below_.size; simp; omega) (by simp) ?_; intro v4 w4 hown hgr; refine Hid.out ?_))
          refine Lib.hid ?_
          obtain ⟨A4, c4, hv4, -⟩ := own_formS hown
          subst hv4
          have HX5 := Lib.hid (RxM.push (d := ⟨⟨at_, [], 5⟩, none, 0, 0⟩) HX4.out (World.ownsRow_nil _ _ 5 1) hown hgr)
          have HXB := Lib.hid (RxM.box_ HX4.out hgr)
          clear hown hgr x0 x1 x2
          have kq := HXB.out.1.cell 0
          simp at kq
          have zq := HXB.out.1.frozen 0
          go_upto_region 28 with fail
          obtain ⟨w6, hw6⟩ : ∃ w6, w4.setCell ⟨w.heap.size + 2, 0, none⟩ (.slice A4 (ds.length + 1) c4) = w6 := ⟨_, rfl⟩
          have HX6 := Lib.hid (hw6 ▸ HX5.out)
          rw [hw6]
          clear kq zq hw6
          go_loopw [9] (fun s9 wz => ∃ k2 : Nat, s9 = .int .i64 (k2 : Int) ∧ w6 = wz ∧ Hid (DelB m c at_ bs k2 5)) (fun s9 _ => n - (intOf s9).toNat)
          case atStart => exact ⟨k, by first | rfl | (simp; done), rfl, HDB⟩
          case round =>
            obtain ⟨k2, rfl, rfl, HD2⟩ := hrel
            have hk20 : (0 : Int) ≤ k2 := by omega
            have HKL := Lib.hid (show k2 ≤ n by have := HD2.out.kl; have := HR.out.len; omega)
            have hk23 : (k2 : Int) ≤ 30000 := by have := HKL.out; have := HN.out; omega
            by_cases hk2 : (k2 : Int) < n
            · have HKB := Lib.hid (show k2 < bs.length by have := HR.out.len; omega)
              have kx := HCL.out _ HX6.out.below_ k2 HKB.out
              obtain ⟨y2, hy2⟩ : ∃ y2 : Int, ((bs[k2]'HKB.out).toNat : Int) = y2 := ⟨_, rfl⟩
              rw [hy2] at kx
              have hy20 : 0 ≤ y2 := by omega
              have hy21 : y2 < 256 := by have := (bs[k2]'HKB.out).toNat_lt; omega
              have HK2 := Lib.hid hk2
              by_cases h126 : y2 = 126
              · have H126 := Lib.hid (show bs[k2]'HKB.out = 126 from UInt8.toNat_inj.1 (by have h : ((bs[k2]'HKB.out).toNat : Int) = 126 := hy2.trans h126; show (bs[k2]'HKB.out).toNat = 126; omega))
                subst h126
                clear hy2
                go_wp2_with fail
                go_roundw
                case rel => exact ⟨k2 + 1, .slice A4 (ds.length + 1) c4, ds ++ [⟨⟨at_, [], 5⟩, none, 0, 0⟩], by go_num, HX6, Lib.hid (by rw [List.map_append]; exact HT.out.dam HAT.out HD2.out (.inl ⟨HKB.out, H126.out⟩))⟩
                case measure => have := HD2.out.le; have := HLT.out; simp [intOf]; omega
              · have q126 : (y2 != 126) = true := by simpa using h126
                have H126 := Lib.hid (show bs[k2]'HKB.out ≠ 126 from fun e => h126 (by rw [← hy2, e]; rfl))
                clear hy2 h126
                go_wp2_with fail
                go_roundw
                case rel => exact ⟨k2 + 1, by go_num, by first | rfl | trivial, Lib.hid (HD2.out.skip HKB.out H126.out)⟩
                case measure => have := HKB.out; have := HR.out.len; simp [intOf]; omega
            · have HKE := Lib.hid (show k2 = bs.length by have := HR.out.len; have := HKL.out; omega)
              go_wp2_with fail
              go_roundw
              case rel => exact ⟨k2 + 1, .slice A4 (ds.length + 1) c4, ds ++ [⟨⟨at_, [], 5⟩, none, 0, 0⟩], by go_num, HX6, Lib.hid (by rw [List.map_append]; exact HT.out.dam HAT.out HD2.out (.inr HKE.out))⟩
              case measure => have := HKE.out; have := HLT.out; have := HR.out.len; simp [intOf]; omega
      case inl =>
      subst hc0
      have HJ := Lib.hid hJ
      have HCNT := Lib.hid (show ns + 1 ≤ 30000 by have := hJ.len; have := HSL.out.len; have := HM1.out; have := tailN_le c; omega)
      clear hJ HCD
      by_cases hkn : (k : Int) < n
      case neg =>
        have HKE := Lib.hid (show k = bs.length by have := HR.out.len; have := HKN.out; omega)
        have HFE := Lib.hid (HT.out.stop HAT.out (fun a => HJ.out.mid HAT.out HA9.out HKE.out a))
        have qe : ((k : Int) == (n : Int)) = true := by have := HR.out.len; have := HKE.out; simp; omega
        obtain ⟨⟨x0, x1, x2⟩, ⟨y0, y1, y2⟩, z0, z1, z2, t0, t1, t2⟩ := HX4.out.cells_
        go_upto_region 27 with fail
        obtain ⟨w5, hw5⟩ : ∃ w5, wx.setCell ⟨w.heap.size + 2, 2, none⟩ (.int .i64 (at_ : Int)) = w5 := ⟨_, rfl⟩
        have HX5 := Lib.hid (hw5 ▸ HX4.out.set_mid (at_ : Int))
        rw [hw5]
        clear x0 x1 x2 y0 y1 y2 z0 z1 z2 t0 t1 t2 hw5
        obtain ⟨⟨x0, x1, x2⟩, ⟨y0, y1, y2⟩, z0, z1, z2, -, -, -⟩ := HX5.out.cells_
        go_wp2_with fail
        obtain ⟨hk, hfr, hbw⟩ := HX5.out.ret
        refine bodyPost_ret (v := .agg #[.slice Ao ds.length co, .bool false, .int .i64 (at_ : Int)]) (rx_res rfl rfl hk) rfl ⟨_, _, ?_, hfr, ?_, hbw⟩
        · rw [HFE.out]; rfl
        · rw [HFE.out]
      case pos =>
      have HKB := Lib.hid (show k < bs.length by have := HR.out.len; omega)
      have qke : ((k : Int) == (n : Int)) = false := by simp; omega
      have hkn3 : (k : Int) ≤ 30000 := by omega
      have kx := HCL.out _ HX4.out.below_ k HKB.out
      obtain ⟨y, hy⟩ : ∃ y : Int, ((bs[k]'HKB.out).toNat : Int) = y := ⟨_, rfl⟩
      have HY := Lib.hid hy
      rw [hy] at kx
      have hy0 : 0 ≤ y := by omega
      have hy1 : y < 256 := by have := (bs[k]'HKB.out).toNat_lt; omega
      by_cases hy6 : y = 126
      case pos =>
        have HYB := Lib.hid (show bs[k]'HKB.out = 126 from UInt8.toNat_inj.1 (by have h := hy.trans hy6; show (bs[k]'HKB.out).toNat = 126; omega))
        clear hy
        subst hy6
        have C55 := Lib.hid (fun W (h : RB W As ns cs sl) => ropened_any 2 m c at_ HF.out.c1 HF.out.c2 As ns cs sl W h (by have := HSL.out.small; omega))
        unfold Framed1 FV at C55
        have HRE := Lib.hid (own_RB3 HSL.out.own)
        have HS22 := Lib.hid HX4.out.drew.rxx
        obtain ⟨fr, hfr⟩ : ∃ fr, openS c at_ sl = fr := ⟨_, rfl⟩
        rw [hfr] at C55
        have HFR := Lib.hid hfr
        clear hfr
        go_upto_region 22 with fail
        have HI0 := Lib.hid (And.intro hn3 (And.intro ha0 (And.intro ha3 (And.intro hk0 hkn))))
        clear hn3 ha0 ha3 hk0 hkn hy0 hy1 hkn3 kx qke
        refine wp_region_G (S0 := (RxX w.heap.size (w.heap.size + 2) 2 m c (.slice Ao ds.length co))) (S1 := (fun _ => True)) (c := 9) (by kernel_rfl) ?_
        have hHeld := HS22.out
        have h01 := (fun (W : World) (h : (RxX w.heap.size (w.heap.size + 2) 2 m c (.slice Ao ds.length co)) W) => trivial)
        refine wpG_takeA (i := 0) (oi := ⟨some 79, _, _, _, _, _⟩) (v := .pointer (some ⟨w.heap.size + 2, 0, none⟩)) rfl (by kernel_rfl) (by kernel_rfl) (by kernel_rfl) (by decide) (fun _ _ _ h => h) h01 rfl hHeld (Or.inl ⟨by rfl, ?_⟩) ?_
        · (intro W9 hSw; go_simp; (try (first | with_reducible rfl | rfl | (simp; done) | (exact HWR.out) | (exact HBG.out))))
        try simp only [Act.put, List.setIfInBounds_toArray, List.set_cons_zero, List.set_cons_succ]
        refine wpG_take0 (i := 1) (oi := ⟨some 80, _, _, _, _, _⟩) (v := .slice Ao ds.length co) rfl (by kernel_rfl) (by kernel_rfl) (by kernel_rfl) (by decide) (by kernel_rfl) (fun _ _ _ h => h) rfl hHeld (Or.inl ⟨by rfl, ?_⟩) ?_
        · (intro W9 hSw; obtain ⟨v0, v1, v2, v3⟩ := hSw; go_simp; (try (first | with_reducible rfl | rfl | (simp; done) | (exact HWR.out) | (exact HBG.out))))
        try simp only [Act.put, List.setIfInBounds_toArray, List.set_cons_zero, List.set_cons_succ]
        refine wpG_take0 (i := 2) (oi := ⟨some 81, _, _, _, _, _⟩) (v := .agg #[.int .i64 2, .int .i64 m, .int .i64 c]) rfl (by kernel_rfl) (by kernel_rfl) (by kernel_rfl) (by decide) (by kernel_rfl) (fun _ _ _ h => h) rfl hHeld (Or.inl ⟨by rfl, ?_⟩) ?_
        · (intro W9 hSw; obtain ⟨v0, v1, v2, v3⟩ := hSw; go_simp; (try (first | with_reducible rfl | rfl | (simp; done) | (exact HWR.out) | (exact HBG.out))))
        try simp only [Act.put, List.setIfInBounds_toArray, List.set_cons_zero, List.set_cons_succ]
        refine wpG_takeA (i := 3) (oi := ⟨some 82, _, _, _, _, _⟩) (v := .int .i64 (at_ : Int)) rfl (by kernel_rfl) (by kernel_rfl) (by kernel_rfl) (by decide) (fun _ _ _ h => h) h01 rfl hHeld (Or.inl ⟨by rfl, ?_⟩) ?_
        · (intro W9 hSw; go_simp; (try (first | with_reducible rfl | rfl | (simp; done) | (exact HWR.out) | (exact HBG.out))))
        try simp only [Act.put, List.setIfInBounds_toArray, List.set_cons_zero, List.set_cons_succ]
        refine wpG_takeA (i := 4) (oi := ⟨some 83, _, _, _, _, _⟩) (v := .slice As ns cs) rfl (by kernel_rfl) (by kernel_rfl) (by kernel_rfl) (by decide) (fun _ _ _ h => h) h01 rfl hHeld (Or.inl ⟨by rfl, ?_⟩) ?_
        · (intro W9 hSw; go_simp; (try (first | with_reducible rfl | rfl | (simp; done) | (exact HWR.out) | (exact HBG.out))))
        try simp only [Act.put, List.setIfInBounds_toArray, List.set_cons_zero, List.set_cons_succ]
        refine wpG_oneA (i := 5) (o := ⟨some 84, _, _, _, _, _⟩) (by kernel_rfl) rfl rfl (fun K hK => ?_)
        go_simp
        (with_reducible refine (C55.out _ (HRE.out.below (below_drew (Below.refl _ _)))).mono ?_); rintro e w8 ⟨A8, n8, c8, rfl, ho8, b8⟩
        have HX8 := Lib.hid (HX4.out.drew.below b8)
        have HO8 := Lib.hid (own_base ho8 (show w.heap.size ≤ wx.drew.heap.size from HX4.out.below_.size))
        clear ho8 b8
        refine hK.out _ _ HX8.out.rxx (fun hHeld => ?_)
        clear hK K
        try simp only [Act.put, List.setIfInBounds_toArray, List.set_cons_zero, List.set_cons_succ]
        refine wpG_oneA (i := 6) (o := ⟨some 85, _, _, _, _, _⟩) (by kernel_rfl) rfl rfl (fun K hK => ?_)
        have hb9 : Below w8.heap.size w8 (w8.alloc (.cells (Fd.cells ⟨fr, A8, n8, c8⟩).toArray 44)) := (Below.refl _ w8).alloc (Nat.le_refl _) _
        go_simp
        refine hK.out _ _ (HX8.out.below hb9).rxx (fun hHeld => ?_)
        clear hb9
        clear hK K
        try simp only [Act.put, List.setIfInBounds_toArray, List.set_cons_zero, List.set_cons_succ]
        refine wpG_oneA (i := 7) (o := ⟨some 86, _, _, _, _, _⟩) (by kernel_rfl) rfl rfl (fun K hK => ?_)
        refine step_app_sz rfl (.tmp 80) (.tmp 85) 40 rfl els40 (base := w.heap.size) (n := ds.length) (m := 1) (xs := ds.flatMap Fd.cells) (news := Fd.cells ⟨fr, A8, n8, c8⟩) rfl (own_alloc HX8.out.frs.own) rfl (HoldsS.new _ 3 1 (Fd.cells ⟨fr, A8, n8, c8⟩) 44 rfl) (fd_one _) (by have := HDL.out; unfold maxLen; omega) (by have := HDL.out; omega) (by have := HX8.out.below_.size; simp; omega) (by simp) ?_
        intro v9 w9 hown hgr
        obtain ⟨A9, c9, hv9, -⟩ := own_formS hown
        subst hv9
        have HX9 := Lib.hid (RxM.push (d := ⟨fr, A8, n8, c8⟩) HX8.out HO8.out hown hgr)
        have HXB := Lib.hid (RxM.box_ HX8.out hgr)
        clear hown hgr
        refine hK.out _ _ HXB.out.2 (fun hHeld => ?_)
        clear hK K
        try simp only [Act.put, List.setIfInBounds_toArray, List.set_cons_zero, List.set_cons_succ]
        refine wpG_takeA (i := 8) (oi := ⟨some 87, _, _, _, _, _⟩) (v := .pointer (some ⟨w.heap.size + 2, 0, none⟩)) rfl (by kernel_rfl) (by kernel_rfl) (by kernel_rfl) (by decide) (fun _ _ _ h => h) h01 rfl hHeld (Or.inl ⟨by rfl, ?_⟩) ?_
        · (intro W9 hSw; go_simp; (try (first | with_reducible rfl | rfl | (simp; done) | (exact HWR.out) | (exact HBG.out))))
        try simp only [Act.put, List.setIfInBounds_toArray, List.set_cons_zero, List.set_cons_succ]
        refine wpG_oneB (i := 9) (o := ⟨none, _, _, _, _, _⟩) (by kernel_rfl) rfl rfl (fun K hK => ?_)
        have kq := HXB.out.2.1
        have zq := HXB.out.1.frozen 0
        go_simp
        refine hK.out _ _ trivial (fun hHeld => ?_)
        clear hK K
        try simp only [Act.put, List.setIfInBounds_toArray, List.set_cons_zero, List.set_cons_succ]
        refine wpG_done (by kernel_rfl) ?_ _
        clear hHeld h01
        obtain ⟨hn3, ha0, ha3, hk0, hkn⟩ := HI0.out
        have hkn3 : (k : Int) ≤ 30000 := by omega
        obtain ⟨w6, hw6⟩ : ∃ w6, w9.setCell ⟨w.heap.size + 2, 0, none⟩ (.slice A9 (ds.length + 1) c9) = w6 := ⟨_, rfl⟩
        have HX6 := Lib.hid (hw6 ▸ HX9.out)
        rw [hw6]
        clear hw6 kq zq
        go_wp2_with fail
        go_loopw [9] (fun s9 wz => ∃ k2 : Nat, s9 = .int .i64 (k2 : Int) ∧ w6 = wz ∧ Hid (k2 = k)) (fun s9 _ => n - (intOf s9).toNat)
        case atStart => exact ⟨k, by first | rfl | (simp; done), rfl, Lib.hid rfl⟩
        case round =>
          obtain ⟨k2, rfl, rfl, HD2⟩ := hrel
          have hk20 : (0 : Int) ≤ k2 := by omega
          have hkk := HD2.out
          subst hkk
          have kx := HCL.out _ HX6.out.below_ k2 HKB.out
          rw [HY.out] at kx
          have hk2 : (k2 : Int) < n := by have := HKB.out; have := HR.out.len; omega
          have hk23 : (k2 : Int) ≤ 30000 := by have := HN.out; omega
          go_wp2_with fail
          go_roundw
          case rel => exact ⟨k2 + 1, .slice A9 (ds.length + 1) c9, ds ++ [⟨fr, A8, n8, c8⟩], by go_num, HX6, Lib.hid (by rw [List.map_append]; have := HT.out.open_ HJ.out HAT.out HA9.out HKB.out HYB.out; rw [HFR.out] at this; exact this)⟩
          case measure => have := HJ.out.le; have := HLT.out; simp [intOf]; omega
      case neg =>
      have q126 : (y != 126) = true := by simpa using hy6
      have HYB := Lib.hid (show bs[k]'HKB.out ≠ 126 from fun e => hy6 (by rw [← hy, e]; rfl))
      clear hy6
      by_cases hy5 : y = 125
      case neg =>
        have q125 : (y == 125) = false := by simpa using hy5
        have HYV := HY
        have HY5 := Lib.hid (show bs[k]'HKB.out ≠ 125 from fun e => hy5 (by rw [← hy, e]; rfl))
        clear hy hy5
        go_wp2_with (at_builtin; go_must (refine wpList_app_own (base := wo.heap.size) (n := ns) (m := 1) (xs := sl.map Go.Proofs.Ytibkhjpjneoabaa.u8) (news := [.int .u8 y]) rfl (.tmp 67) (.tmp 69) 28 rfl el22 rfl (own_alloc HSL.out.own) rfl (Holds.one _ _ _) (by simp [Value.oneCell']) (by have := HSL.out.small; unfold maxLen; omega) (by have := HSL.out.small; omega) (by have := HSL.out.below.size; simp; omega) ?_; intro v4 w4 hown hg hat; refine Hid.out ?_))
        refine Lib.hid ?_
        obtain ⟨A4, c4, rfl, -⟩ := own_form hown
        have hnews : [Value.int .u8 y] = [(bs[k]'HKB.out)].map Go.Proofs.Ytibkhjpjneoabaa.u8 := by rw [← HYV.out]; rfl
        rw [hnews] at hown
        have HS4 := Lib.hid (SlO.push HSL.out hown hg (by have := HCNT.out; omega))
        clear hown hg hat hnews
        have HX4 := Lib.hid (HX.out.below HS4.out.below)
        have C54 := Lib.hid (fun W => tail_any 2 m c HF.out.c1 HF.out.c2 W)
        unfold FV at C54
        have HWR := Lib.hid (show IntKind.i64.wrap (m + (tailN c : Int)) = m + (tailN c : Int) from by have := HM1.out; have := tailN_le c; rw [IntKind.wrap_i64]; omega)
        have HS20 := Lib.hid HX4.out.drew.rxf
        by_cases hbig : m + (tailN c : Int) < (ns : Int) + 1
        · have HBG := Lib.hid hbig
          have HBL := Lib.hid (show m + (tailN c : Int) < ((sl.length + 1 : Nat) : Int) by have := HSL.out.len; omega)
          clear hbig
          go_upto_region 20 with fail
          (try clear hn3)
          (try clear ha0)
          (try clear ha3)
          (try clear hk0)
          (try clear hkn)
          (try clear hy0)
          (try clear hy1)
          (try clear hz0)
          (try clear hz1)
          refine wp_region_G (S0 := (RxF w.heap.size 2 m c)) (S1 := (RxF w.heap.size 2 m c)) (c := 99) (by kernel_rfl) ?_
          have hHeld := HS20.out
          have h01 := (fun (W : World) (h : (RxF w.heap.size 2 m c) W) => h)
          refine wpG_takeB (i := 0) (oi := ⟨some 71, _, _, _, _, _⟩) (v := .slice A4 (ns + 1) c4) rfl (by kernel_rfl) (by kernel_rfl) (by kernel_rfl) (by decide) (fun _ _ _ h => h) h01 rfl hHeld (Or.inl ⟨by rfl, ?_⟩) ?_
          · (intro W9 hSw; obtain ⟨v1, v2, v3⟩ := hSw; go_simp; (try (first | with_reducible rfl | rfl | (simp; done) | (exact HWR.out) | (exact HBG.out))))
          try simp only [Act.put, List.setIfInBounds_toArray, List.set_cons_zero, List.set_cons_succ]
          refine wpG_takeB (i := 1) (oi := ⟨some 72, _, _, _, _, _⟩) (v := .int .i64 ((ns : Int) + 1)) rfl (by kernel_rfl) (by kernel_rfl) (by kernel_rfl) (by decide) (fun _ _ _ h => h) h01 rfl hHeld (Or.inl ⟨by rfl, ?_⟩) ?_
          · (intro W9 hSw; obtain ⟨v1, v2, v3⟩ := hSw; go_simp; (try (first | with_reducible rfl | rfl | (simp; done) | (exact HWR.out) | (exact HBG.out))))
          try simp only [Act.put, List.setIfInBounds_toArray, List.set_cons_zero, List.set_cons_succ]
          refine wpG_takeB (i := 2) (oi := ⟨some 73, _, _, _, _, _⟩) (v := .pointer (some ⟨w.heap.size, 1, none⟩)) rfl (by kernel_rfl) (by kernel_rfl) (by kernel_rfl) (by decide) (fun _ _ _ h => h) h01 rfl hHeld (Or.inl ⟨by rfl, ?_⟩) ?_
          · (intro W9 hSw; obtain ⟨v1, v2, v3⟩ := hSw; go_simp; (try (first | with_reducible rfl | rfl | (simp; done) | (exact HWR.out) | (exact HBG.out))))
          try simp only [Act.put, List.setIfInBounds_toArray, List.set_cons_zero, List.set_cons_succ]
          refine wpG_takeB (i := 3) (oi := ⟨some 74, _, _, _, _, _⟩) (v := .int .i64 m) rfl (by kernel_rfl) (by kernel_rfl) (by kernel_rfl) (by decide) (fun _ _ _ h => h) h01 rfl hHeld (Or.inl ⟨by rfl, ?_⟩) ?_
          · (intro W9 hSw; obtain ⟨v1, v2, v3⟩ := hSw; go_simp; (try (first | with_reducible rfl | rfl | (simp; done) | (exact HWR.out) | (exact HBG.out))))
          try simp only [Act.put, List.setIfInBounds_toArray, List.set_cons_zero, List.set_cons_succ]
          refine wpG_takeB (i := 4) (oi := ⟨some 75, _, _, _, _, _⟩) (v := .agg #[.int .i64 2, .int .i64 m, .int .i64 c]) rfl (by kernel_rfl) (by kernel_rfl) (by kernel_rfl) (by decide) (fun _ _ _ h => h) h01 rfl hHeld (Or.inl ⟨by rfl, ?_⟩) ?_
          · (intro W9 hSw; obtain ⟨v1, v2, v3⟩ := hSw; go_simp; (try (first | with_reducible rfl | rfl | (simp; done) | (exact HWR.out) | (exact HBG.out))))
          try simp only [Act.put, List.setIfInBounds_toArray, List.set_cons_zero, List.set_cons_succ]
          refine wpG_oneB (i := 5) (o := ⟨some 76, _, _, _, _, _⟩) (by kernel_rfl) rfl rfl (fun K hK => ?_)
          go_simp
          (with_reducible refine (C54.out _).mono ?_); rintro e w5 ⟨rfl, b5⟩
          have HB5 := Lib.hid (Below.trans (below_drew (Below.refl w4.heap.size w4)) b5)
          have HS5 := Lib.hid ((HX4.out.below HB5.out).rxf)
          clear b5
          refine hK.out _ _ HS5.out (fun hHeld => ?_)
          clear hK K
          try simp only [Act.put, List.setIfInBounds_toArray, List.set_cons_zero, List.set_cons_succ]
          refine wpG_takeB (i := 6) (oi := ⟨some 77, _, _, _, _, _⟩) (v := .int .i64 (m + (tailN c : Int))) rfl (by kernel_rfl) (by kernel_rfl) (by kernel_rfl) (by decide) (fun _ _ _ h => h) h01 rfl hHeld (Or.inl ⟨by rfl, ?_⟩) ?_
          · (intro W9 hSw; obtain ⟨v1, v2, v3⟩ := hSw; go_simp; (try (first | with_reducible rfl | rfl | (simp; done) | (exact HWR.out) | (exact HBG.out))))
          try simp only [Act.put, List.setIfInBounds_toArray, List.set_cons_zero, List.set_cons_succ]
          refine wpG_takeB (i := 7) (oi := ⟨some 78, _, _, _, _, _⟩) (v := .bool true) rfl (by kernel_rfl) (by kernel_rfl) (by kernel_rfl) (by decide) (fun _ _ _ h => h) h01 rfl hHeld (Or.inl ⟨by rfl, ?_⟩) ?_
          · (intro W9 hSw; obtain ⟨v1, v2, v3⟩ := hSw; go_simp; (try (first | with_reducible rfl | rfl | (simp; done) | (exact HWR.out) | (exact HBG.out))))
          try simp only [Act.put, List.setIfInBounds_toArray, List.set_cons_zero, List.set_cons_succ]
          refine wpG_done (by kernel_rfl) ?_ _
          clear hHeld h01
          go_wp2_with fail
          go_roundw
          case rel => exact ⟨A4, ns + 1, c4, sl ++ [(bs[k]'HKB.out)], 5, k + 1, rfl, rfl, by go_num, Lib.hid (HS4.out.over HB5.out), Lib.hid (.inr ⟨rfl, HJ.out.long HAT.out HA9.out HKB.out HYB.out HY5.out HBL.out⟩)⟩
          case measure => have := HKB.out; have := HR.out.len; simp [intOf]; omega
        · have HBG := Lib.hid (show (ns : Int) + 1 ≤ m + (tailN c : Int) by omega)
          have HBL := Lib.hid (show ((sl.length + 1 : Nat) : Int) ≤ m + (tailN c : Int) by have := HSL.out.len; omega)
          clear hbig
          go_upto_region 20 with fail
          (try clear hn3)
          (try clear ha0)
          (try clear ha3)
          (try clear hk0)
          (try clear hkn)
          (try clear hy0)
          (try clear hy1)
          (try clear hz0)
          (try clear hz1)
          refine wp_region_G (S0 := (RxF w.heap.size 2 m c)) (S1 := (RxF w.heap.size 2 m c)) (c := 99) (by kernel_rfl) ?_
          have hHeld := HS20.out
          have h01 := (fun (W : World) (h : (RxF w.heap.size 2 m c) W) => h)
          refine wpG_takeB (i := 0) (oi := ⟨some 71, _, _, _, _, _⟩) (v := .slice A4 (ns + 1) c4) rfl (by kernel_rfl) (by kernel_rfl) (by kernel_rfl) (by decide) (fun _ _ _ h => h) h01 rfl hHeld (Or.inl ⟨by rfl, ?_⟩) ?_
          · (intro W9 hSw; obtain ⟨v1, v2, v3⟩ := hSw; go_simp; (try (first | with_reducible rfl | rfl | (simp; done) | (exact HWR.out) | (exact HBG.out))))
          try simp only [Act.put, List.setIfInBounds_toArray, List.set_cons_zero, List.set_cons_succ]
          refine wpG_takeB (i := 1) (oi := ⟨some 72, _, _, _, _, _⟩) (v := .int .i64 ((ns : Int) + 1)) rfl (by kernel_rfl) (by kernel_rfl) (by kernel_rfl) (by decide) (fun _ _ _ h => h) h01 rfl hHeld (Or.inl ⟨by rfl, ?_⟩) ?_
          · (intro W9 hSw; obtain ⟨v1, v2, v3⟩ := hSw; go_simp; (try (first | with_reducible rfl | rfl | (simp; done) | (exact HWR.out) | (exact HBG.out))))
          try simp only [Act.put, List.setIfInBounds_toArray, List.set_cons_zero, List.set_cons_succ]
          refine wpG_takeB (i := 2) (oi := ⟨some 73, _, _, _, _, _⟩) (v := .pointer (some ⟨w.heap.size, 1, none⟩)) rfl (by kernel_rfl) (by kernel_rfl) (by kernel_rfl) (by decide) (fun _ _ _ h => h) h01 rfl hHeld (Or.inl ⟨by rfl, ?_⟩) ?_
          · (intro W9 hSw; obtain ⟨v1, v2, v3⟩ := hSw; go_simp; (try (first | with_reducible rfl | rfl | (simp; done) | (exact HWR.out) | (exact HBG.out))))
          try simp only [Act.put, List.setIfInBounds_toArray, List.set_cons_zero, List.set_cons_succ]
          refine wpG_takeB (i := 3) (oi := ⟨some 74, _, _, _, _, _⟩) (v := .int .i64 m) rfl (by kernel_rfl) (by kernel_rfl) (by kernel_rfl) (by decide) (fun _ _ _ h => h) h01 rfl hHeld (Or.inl ⟨by rfl, ?_⟩) ?_
          · (intro W9 hSw; obtain ⟨v1, v2, v3⟩ := hSw; go_simp; (try (first | with_reducible rfl | rfl | (simp; done) | (exact HWR.out) | (exact HBG.out))))
          try simp only [Act.put, List.setIfInBounds_toArray, List.set_cons_zero, List.set_cons_succ]
          refine wpG_takeB (i := 4) (oi := ⟨some 75, _, _, _, _, _⟩) (v := .agg #[.int .i64 2, .int .i64 m, .int .i64 c]) rfl (by kernel_rfl) (by kernel_rfl) (by kernel_rfl) (by decide) (fun _ _ _ h => h) h01 rfl hHeld (Or.inl ⟨by rfl, ?_⟩) ?_
          · (intro W9 hSw; obtain ⟨v1, v2, v3⟩ := hSw; go_simp; (try (first | with_reducible rfl | rfl | (simp; done) | (exact HWR.out) | (exact HBG.out))))
          try simp only [Act.put, List.setIfInBounds_toArray, List.set_cons_zero, List.set_cons_succ]
          refine wpG_oneB (i := 5) (o := ⟨some 76, _, _, _, _, _⟩) (by kernel_rfl) rfl rfl (fun K hK => ?_)
          go_simp
          (with_reducible refine (C54.out _).mono ?_); rintro e w5 ⟨rfl, b5⟩
          have HB5 := Lib.hid (Below.trans (below_drew (Below.refl w4.heap.size w4)) b5)
          have HS5 := Lib.hid ((HX4.out.below HB5.out).rxf)
          clear b5
          refine hK.out _ _ HS5.out (fun hHeld => ?_)
          clear hK K
          try simp only [Act.put, List.setIfInBounds_toArray, List.set_cons_zero, List.set_cons_succ]
          refine wpG_takeB (i := 6) (oi := ⟨some 77, _, _, _, _, _⟩) (v := .int .i64 (m + (tailN c : Int))) rfl (by kernel_rfl) (by kernel_rfl) (by kernel_rfl) (by decide) (fun _ _ _ h => h) h01 rfl hHeld (Or.inl ⟨by rfl, ?_⟩) ?_
          · (intro W9 hSw; obtain ⟨v1, v2, v3⟩ := hSw; go_simp; (try (first | with_reducible rfl | rfl | (simp; done) | (exact HWR.out) | (exact HBG.out))))
          try simp only [Act.put, List.setIfInBounds_toArray, List.set_cons_zero, List.set_cons_succ]
          refine wpG_takeB (i := 7) (oi := ⟨some 78, _, _, _, _, _⟩) (v := .bool false) rfl (by kernel_rfl) (by kernel_rfl) (by kernel_rfl) (by decide) (fun _ _ _ h => h) h01 rfl hHeld (Or.inl ⟨by rfl, ?_⟩) ?_
          · (intro W9 hSw; obtain ⟨v1, v2, v3⟩ := hSw; go_simp; (try (first | with_reducible rfl | rfl | (simp; done) | (exact HWR.out) | (exact HBG.out))))
          try simp only [Act.put, List.setIfInBounds_toArray, List.set_cons_zero, List.set_cons_succ]
          refine wpG_done (by kernel_rfl) ?_ _
          clear hHeld h01
          go_wp2_with fail
          go_roundw
          case rel => exact ⟨A4, ns + 1, c4, sl ++ [(bs[k]'HKB.out)], 0, k + 1, rfl, rfl, by go_num, Lib.hid (HS4.out.over HB5.out), Lib.hid (.inl ⟨rfl, HJ.out.push HKB.out HYB.out HY5.out HBL.out⟩)⟩
          case measure => have := HKB.out; have := HR.out.len; simp [intOf]; omega
      case pos =>
      have HY5 := Lib.hid (show bs[k]'HKB.out = 125 from UInt8.toNat_inj.1 (by have h := hy.trans hy5; show (bs[k]'HKB.out).toNat = 125; omega))
      clear hy
      subst hy5
      by_cases hk2 : (k : Int) + 1 = n
      case pos =>
        have qk2 : ((k : Int) + 1 == (n : Int)) = true := by simpa using hk2
        have HFE := Lib.hid (HT.out.stop HAT.out (fun a => HJ.out.half HAT.out HA9.out (by have := HR.out.len; omega) HY5.out a))
        clear hk2
        obtain ⟨⟨x0, x1, x2⟩, ⟨y0, y1, y2⟩, z0, z1, z2, t0, t1, t2⟩ := HX4.out.cells_
        go_upto_region 14 with fail
        obtain ⟨w5, hw5⟩ : ∃ w5, wx.setCell ⟨w.heap.size + 2, 2, none⟩ (.int .i64 (at_ : Int)) = w5 := ⟨_, rfl⟩
        have HX5 := Lib.hid (hw5 ▸ HX4.out.set_mid (at_ : Int))
        rw [hw5]
        clear x0 x1 x2 y0 y1 y2 z0 z1 z2 t0 t1 t2 hw5
        obtain ⟨⟨x0, x1, x2⟩, ⟨y0, y1, y2⟩, z0, z1, z2, -, -, -⟩ := HX5.out.cells_
        go_wp2_with fail
        obtain ⟨hk, hfr, hbw⟩ := HX5.out.ret
        refine bodyPost_ret (v := .agg #[.slice Ao ds.length co, .bool false, .int .i64 (at_ : Int)]) (rx_res rfl rfl hk) rfl ⟨_, _, ?_, hfr, ?_, hbw⟩
        · rw [HFE.out]; rfl
        · rw [HFE.out]
      case neg =>
      have qk2 : ((k : Int) + 1 == (n : Int)) = false := by simpa using hk2
      have hkn2 : (k : Int) + 1 < n := by omega
      have HKB2 := Lib.hid (show k + 1 < bs.length by have := HR.out.len; omega)
      have kx2 := HCL.out _ HX4.out.below_ (k + 1) HKB2.out
      have kx3 := kx2
      rw [← Nat.add_assoc] at kx3
      obtain ⟨z, hz⟩ : ∃ z : Int, ((bs[k + 1]'HKB2.out).toNat : Int) = z := ⟨_, rfl⟩
      have hxr := xor_u8 (bs[k + 1]'HKB2.out)
      rw [hz] at kx2 kx3 hxr
      obtain ⟨yv, hyv⟩ : ∃ yv : Int, (((bs[k + 1]'HKB2.out) ^^^ 32).toNat : Int) = yv := ⟨_, rfl⟩
      rw [hyv] at hxr
      have HYV := Lib.hid hyv
      have hz0 : 0 ≤ z := by omega
      have hz1 : z < 256 := by have := (bs[k + 1]'HKB2.out).toNat_lt; omega
      have hv126 : yv = 126 ↔ bs[k + 1]'HKB2.out = 94 := by
        rw [← xor_126, ← hyv]
        exact ⟨fun h => UInt8.toNat_inj.1 (by show ((bs[k + 1]'HKB2.out) ^^^ 32).toNat = 126; omega), fun h => by rw [h]; rfl⟩
      have hv125 : yv = 125 ↔ bs[k + 1]'HKB2.out = 93 := by
        rw [← xor_125, ← hyv]
        exact ⟨fun h => UInt8.toNat_inj.1 (by show ((bs[k + 1]'HKB2.out) ^^^ 32).toNat = 125; omega), fun h => by rw [h]; rfl⟩
      by_cases hok : bs[k + 1]'HKB2.out = 94 ∨ bs[k + 1]'HKB2.out = 93
      case neg =>
        have qa : (yv != 126) = true := by simpa using fun h => hok (.inl (hv126.1 h))
        have qb : (yv != 125) = true := by simpa using fun h => hok (.inr (hv125.1 h))
        have HDB := Lib.hid (HJ.out.bad HAT.out HA9.out HKB2.out HY5.out hok)
        clear hok hv126 hv125 hz hyv hk2
        obtain ⟨⟨x0, x1, x2⟩, -, -, -, -, -, -, -⟩ := HX4.out.cells_
        go_wp2_with (at_builtin; go_must (refine wpList_app_sz rfl (.tmp 92) (.tmp 96) 40 rfl els40 (base := w.heap.size) (n := ds.length) (m := 1) (xs := ds.flatMap Fd.cells) (news := Fd.cells ⟨⟨at_, [], 6⟩, none, 0, 0⟩) rfl (own_alloc HX4.out.frs.own) rfl (HoldsS.new _ 3 1 (Fd.cells ⟨⟨at_, [], 6⟩, none, 0, 0⟩) 44 rfl) (fd_one _) (by have := HDL.out; unfold maxLen; omega) (by have := HDL.out; omega) (by have := HX4.out.below_.size; simp; omega) (by simp) ?_; intro v4 w4 hown hgr; refine Hid.out ?_))
        refine Lib.hid ?_
        obtain ⟨A4, c4, hv4, -⟩ := own_formS hown
        subst hv4
        have HX5 := Lib.hid (RxM.push (d := ⟨⟨at_, [], 6⟩, none, 0, 0⟩) HX4.out (World.ownsRow_nil _ _ 5 1) hown hgr)
        have HXB := Lib.hid (RxM.box_ HX4.out hgr)
        clear hown hgr x0 x1 x2
        have kq := HXB.out.1.cell 0
        simp at kq
        have zq := HXB.out.1.frozen 0
        go_upto_region 28 with fail
        obtain ⟨w6, hw6⟩ : ∃ w6, w4.setCell ⟨w.heap.size + 2, 0, none⟩ (.slice A4 (ds.length + 1) c4) = w6 := ⟨_, rfl⟩
        have HX6 := Lib.hid (hw6 ▸ HX5.out)
        rw [hw6]
        clear kq zq hw6
        go_loopw [9] (fun s9 wz => ∃ k2 : Nat, s9 = .int .i64 (k2 : Int) ∧ w6 = wz ∧ Hid (DelB m c at_ bs k2 6)) (fun s9 _ => n - (intOf s9).toNat)
        case atStart => exact ⟨(k + 1), by first | rfl | (simp; done), rfl, HDB⟩
        case round =>
          obtain ⟨k2, rfl, rfl, HD2⟩ := hrel
          have hk20 : (0 : Int) ≤ k2 := by omega
          have HKL := Lib.hid (show k2 ≤ n by have := HD2.out.kl; have := HR.out.len; omega)
          have hk23 : (k2 : Int) ≤ 30000 := by have := HKL.out; have := HN.out; omega
          by_cases hk2 : (k2 : Int) < n
          · have HKB := Lib.hid (show k2 < bs.length by have := HR.out.len; omega)
            have kx := HCL.out _ HX6.out.below_ k2 HKB.out
            obtain ⟨y2, hy2⟩ : ∃ y2 : Int, ((bs[k2]'HKB.out).toNat : Int) = y2 := ⟨_, rfl⟩
            rw [hy2] at kx
            have hy20 : 0 ≤ y2 := by omega
            have hy21 : y2 < 256 := by have := (bs[k2]'HKB.out).toNat_lt; omega
            have HK2 := Lib.hid hk2
            by_cases h126 : y2 = 126
            · have H126 := Lib.hid (show bs[k2]'HKB.out = 126 from UInt8.toNat_inj.1 (by have h : ((bs[k2]'HKB.out).toNat : Int) = 126 := hy2.trans h126; show (bs[k2]'HKB.out).toNat = 126; omega))
              subst h126
              clear hy2
              go_wp2_with fail
              go_roundw
              case rel => exact ⟨k2 + 1, .slice A4 (ds.length + 1) c4, ds ++ [⟨⟨at_, [], 6⟩, none, 0, 0⟩], by go_num, HX6, Lib.hid (by rw [List.map_append]; exact HT.out.dam HAT.out HD2.out (.inl ⟨HKB.out, H126.out⟩))⟩
              case measure => have := HD2.out.le; have := HLT.out; simp [intOf]; omega
            · have q126 : (y2 != 126) = true := by simpa using h126
              have H126 := Lib.hid (show bs[k2]'HKB.out ≠ 126 from fun e => h126 (by rw [← hy2, e]; rfl))
              clear hy2 h126
              go_wp2_with fail
              go_roundw
              case rel => exact ⟨k2 + 1, by go_num, by first | rfl | trivial, Lib.hid (HD2.out.skip HKB.out H126.out)⟩
              case measure => have := HKB.out; have := HR.out.len; simp [intOf]; omega
          · have HKE := Lib.hid (show k2 = bs.length by have := HR.out.len; have := HKL.out; omega)
            go_wp2_with fail
            go_roundw
            case rel => exact ⟨k2 + 1, .slice A4 (ds.length + 1) c4, ds ++ [⟨⟨at_, [], 6⟩, none, 0, 0⟩], by go_num, HX6, Lib.hid (by rw [List.map_append]; exact HT.out.dam HAT.out HD2.out (.inr HKE.out))⟩
            case measure => have := HKE.out; have := HLT.out; have := HR.out.len; simp [intOf]; omega
      case pos =>
      have HOK := Lib.hid hok
      go_upto_region 16 with fail
      go_cut [64] from 59 to 63 (fun q wz => q = .bool false ∧ wx = wz)
      case first =>
        rcases hok with h9 | h9
        · have qa : (yv != 126) = false := by simpa using hv126.2 h9
          clear hv126 hv125 h9 hz hyv hk2
          go_wp2_with fail
          go_meet
          exact ⟨rfl, rfl⟩
        · have hq := hv125.2 h9
          have qa : (yv != 126) = true := by simp; omega
          have qb : (yv != 125) = false := by simpa using hq
          clear hv126 hv125 h9 hz hyv hq hk2
          go_wp2_with fail
          go_meet
          exact ⟨rfl, rfl⟩
      case rest =>
      obtain ⟨rfl, rfl⟩ := hcut
      clear hok hv126 hv125 hz hyv hk2 kx kx2 kx3 hxr
      go_wp2_with (at_builtin; go_must (refine wpList_app_own (base := wo.heap.size) (n := ns) (m := 1) (xs := sl.map Go.Proofs.Ytibkhjpjneoabaa.u8) (news := [.int .u8 yv]) rfl (.tmp 67) (.tmp 69) 28 rfl el22 rfl (own_alloc HSL.out.own) rfl (Holds.one _ _ _) (by simp [Value.oneCell']) (by have := HSL.out.small; unfold maxLen; omega) (by have := HSL.out.small; omega) (by have := HSL.out.below.size; simp; omega) ?_; intro v4 w4 hown hg hat; refine Hid.out ?_))
      refine Lib.hid ?_
      obtain ⟨A4, c4, rfl, -⟩ := own_form hown
      have hnews : [Value.int .u8 yv] = [((bs[k + 1]'HKB2.out) ^^^ 32)].map Go.Proofs.Ytibkhjpjneoabaa.u8 := by rw [← HYV.out]; rfl
      rw [hnews] at hown
      have HS4 := Lib.hid (SlO.push HSL.out hown hg (by have := HCNT.out; omega))
      clear hown hg hat hnews
      have HX4 := Lib.hid (HX.out.below HS4.out.below)
      have C54 := Lib.hid (fun W => tail_any 2 m c HF.out.c1 HF.out.c2 W)
      unfold FV at C54
      have HWR := Lib.hid (show IntKind.i64.wrap (m + (tailN c : Int)) = m + (tailN c : Int) from by have := HM1.out; have := tailN_le c; rw [IntKind.wrap_i64]; omega)
      have HS20 := Lib.hid HX4.out.drew.rxf
      by_cases hbig : m + (tailN c : Int) < (ns : Int) + 1
      · have HBG := Lib.hid hbig
        have HBL := Lib.hid (show m + (tailN c : Int) < ((sl.length + 1 : Nat) : Int) by have := HSL.out.len; omega)
        clear hbig
        go_upto_region 20 with fail
        (try clear hn3)
        (try clear ha0)
        (try clear ha3)
        (try clear hk0)
        (try clear hkn)
        (try clear hy0)
        (try clear hy1)
        (try clear hz0)
        (try clear hz1)
        refine wp_region_G (S0 := (RxF w.heap.size 2 m c)) (S1 := (RxF w.heap.size 2 m c)) (c := 99) (by kernel_rfl) ?_
        have hHeld := HS20.out
        have h01 := (fun (W : World) (h : (RxF w.heap.size 2 m c) W) => h)
        refine wpG_takeB (i := 0) (oi := ⟨some 71, _, _, _, _, _⟩) (v := .slice A4 (ns + 1) c4) rfl (by kernel_rfl) (by kernel_rfl) (by kernel_rfl) (by decide) (fun _ _ _ h => h) h01 rfl hHeld (Or.inl ⟨by rfl, ?_⟩) ?_
        · (intro W9 hSw; obtain ⟨v1, v2, v3⟩ := hSw; go_simp; (try (first | with_reducible rfl | rfl | (simp; done) | (exact HWR.out) | (exact HBG.out))))
        try simp only [Act.put, List.setIfInBounds_toArray, List.set_cons_zero, List.set_cons_succ]
        refine wpG_takeB (i := 1) (oi := ⟨some 72, _, _, _, _, _⟩) (v := .int .i64 ((ns : Int) + 1)) rfl (by kernel_rfl) (by kernel_rfl) (by kernel_rfl) (by decide) (fun _ _ _ h => h) h01 rfl hHeld (Or.inl ⟨by rfl, ?_⟩) ?_
        · (intro W9 hSw; obtain ⟨v1, v2, v3⟩ := hSw; go_simp; (try (first | with_reducible rfl | rfl | (simp; done) | (exact HWR.out) | (exact HBG.out))))
        try simp only [Act.put, List.setIfInBounds_toArray, List.set_cons_zero, List.set_cons_succ]
        refine wpG_takeB (i := 2) (oi := ⟨some 73, _, _, _, _, _⟩) (v := .pointer (some ⟨w.heap.size, 1, none⟩)) rfl (by kernel_rfl) (by kernel_rfl) (by kernel_rfl) (by decide) (fun _ _ _ h => h) h01 rfl hHeld (Or.inl ⟨by rfl, ?_⟩) ?_
        · (intro W9 hSw; obtain ⟨v1, v2, v3⟩ := hSw; go_simp; (try (first | with_reducible rfl | rfl | (simp; done) | (exact HWR.out) | (exact HBG.out))))
        try simp only [Act.put, List.setIfInBounds_toArray, List.set_cons_zero, List.set_cons_succ]
        refine wpG_takeB (i := 3) (oi := ⟨some 74, _, _, _, _, _⟩) (v := .int .i64 m) rfl (by kernel_rfl) (by kernel_rfl) (by kernel_rfl) (by decide) (fun _ _ _ h => h) h01 rfl hHeld (Or.inl ⟨by rfl, ?_⟩) ?_
        · (intro W9 hSw; obtain ⟨v1, v2, v3⟩ := hSw; go_simp; (try (first | with_reducible rfl | rfl | (simp; done) | (exact HWR.out) | (exact HBG.out))))
        try simp only [Act.put, List.setIfInBounds_toArray, List.set_cons_zero, List.set_cons_succ]
        refine wpG_takeB (i := 4) (oi := ⟨some 75, _, _, _, _, _⟩) (v := .agg #[.int .i64 2, .int .i64 m, .int .i64 c]) rfl (by kernel_rfl) (by kernel_rfl) (by kernel_rfl) (by decide) (fun _ _ _ h => h) h01 rfl hHeld (Or.inl ⟨by rfl, ?_⟩) ?_
        · (intro W9 hSw; obtain ⟨v1, v2, v3⟩ := hSw; go_simp; (try (first | with_reducible rfl | rfl | (simp; done) | (exact HWR.out) | (exact HBG.out))))
        try simp only [Act.put, List.setIfInBounds_toArray, List.set_cons_zero, List.set_cons_succ]
        refine wpG_oneB (i := 5) (o := ⟨some 76, _, _, _, _, _⟩) (by kernel_rfl) rfl rfl (fun K hK => ?_)
        go_simp
        (with_reducible refine (C54.out _).mono ?_); rintro e w5 ⟨rfl, b5⟩
        have HB5 := Lib.hid (Below.trans (below_drew (Below.refl w4.heap.size w4)) b5)
        have HS5 := Lib.hid ((HX4.out.below HB5.out).rxf)
        clear b5
        refine hK.out _ _ HS5.out (fun hHeld => ?_)
        clear hK K
        try simp only [Act.put, List.setIfInBounds_toArray, List.set_cons_zero, List.set_cons_succ]
        refine wpG_takeB (i := 6) (oi := ⟨some 77, _, _, _, _, _⟩) (v := .int .i64 (m + (tailN c : Int))) rfl (by kernel_rfl) (by kernel_rfl) (by kernel_rfl) (by decide) (fun _ _ _ h => h) h01 rfl hHeld (Or.inl ⟨by rfl, ?_⟩) ?_
        · (intro W9 hSw; obtain ⟨v1, v2, v3⟩ := hSw; go_simp; (try (first | with_reducible rfl | rfl | (simp; done) | (exact HWR.out) | (exact HBG.out))))
        try simp only [Act.put, List.setIfInBounds_toArray, List.set_cons_zero, List.set_cons_succ]
        refine wpG_takeB (i := 7) (oi := ⟨some 78, _, _, _, _, _⟩) (v := .bool true) rfl (by kernel_rfl) (by kernel_rfl) (by kernel_rfl) (by decide) (fun _ _ _ h => h) h01 rfl hHeld (Or.inl ⟨by rfl, ?_⟩) ?_
        · (intro W9 hSw; obtain ⟨v1, v2, v3⟩ := hSw; go_simp; (try (first | with_reducible rfl | rfl | (simp; done) | (exact HWR.out) | (exact HBG.out))))
        try simp only [Act.put, List.setIfInBounds_toArray, List.set_cons_zero, List.set_cons_succ]
        refine wpG_done (by kernel_rfl) ?_ _
        clear hHeld h01
        go_wp2_with fail
        go_roundw
        case rel => exact ⟨A4, ns + 1, c4, sl ++ [((bs[k + 1]'HKB2.out) ^^^ 32)], 5, k + 2, rfl, rfl, by go_num, Lib.hid (HS4.out.over HB5.out), Lib.hid (.inr ⟨rfl, HJ.out.long2 HAT.out HA9.out HKB2.out HY5.out HOK.out HBL.out⟩)⟩
        case measure => have := HKB.out; have := HR.out.len; simp [intOf]; omega
      · have HBG := Lib.hid (show (ns : Int) + 1 ≤ m + (tailN c : Int) by omega)
        have HBL := Lib.hid (show ((sl.length + 1 : Nat) : Int) ≤ m + (tailN c : Int) by have := HSL.out.len; omega)
        clear hbig
        go_upto_region 20 with fail
        (try clear hn3)
        (try clear ha0)
        (try clear ha3)
        (try clear hk0)
        (try clear hkn)
        (try clear hy0)
        (try clear hy1)
        (try clear hz0)
        (try clear hz1)
        refine wp_region_G (S0 := (RxF w.heap.size 2 m c)) (S1 := (RxF w.heap.size 2 m c)) (c := 99) (by kernel_rfl) ?_
        have hHeld := HS20.out
        have h01 := (fun (W : World) (h : (RxF w.heap.size 2 m c) W) => h)
        refine wpG_takeB (i := 0) (oi := ⟨some 71, _, _, _, _, _⟩) (v := .slice A4 (ns + 1) c4) rfl (by kernel_rfl) (by kernel_rfl) (by kernel_rfl) (by decide) (fun _ _ _ h => h) h01 rfl hHeld (Or.inl ⟨by rfl, ?_⟩) ?_
        · (intro W9 hSw; obtain ⟨v1, v2, v3⟩ := hSw; go_simp; (try (first | with_reducible rfl | rfl | (simp; done) | (exact HWR.out) | (exact HBG.out))))
        try simp only [Act.put, List.setIfInBounds_toArray, List.set_cons_zero, List.set_cons_succ]
        refine wpG_takeB (i := 1) (oi := ⟨some 72, _, _, _, _, _⟩) (v := .int .i64 ((ns : Int) + 1)) rfl (by kernel_rfl) (by kernel_rfl) (by kernel_rfl) (by decide) (fun _ _ _ h => h) h01 rfl hHeld (Or.inl ⟨by rfl, ?_⟩) ?_
        · (intro W9 hSw; obtain ⟨v1, v2, v3⟩ := hSw; go_simp; (try (first | with_reducible rfl | rfl | (simp; done) | (exact HWR.out) | (exact HBG.out))))
        try simp only [Act.put, List.setIfInBounds_toArray, List.set_cons_zero, List.set_cons_succ]
        refine wpG_takeB (i := 2) (oi := ⟨some 73, _, _, _, _, _⟩) (v := .pointer (some ⟨w.heap.size, 1, none⟩)) rfl (by kernel_rfl) (by kernel_rfl) (by kernel_rfl) (by decide) (fun _ _ _ h => h) h01 rfl hHeld (Or.inl ⟨by rfl, ?_⟩) ?_
        · (intro W9 hSw; obtain ⟨v1, v2, v3⟩ := hSw; go_simp; (try (first | with_reducible rfl | rfl | (simp; done) | (exact HWR.out) | (exact HBG.out))))
        try simp only [Act.put, List.setIfInBounds_toArray, List.set_cons_zero, List.set_cons_succ]
        refine wpG_takeB (i := 3) (oi := ⟨some 74, _, _, _, _, _⟩) (v := .int .i64 m) rfl (by kernel_rfl) (by kernel_rfl) (by kernel_rfl) (by decide) (fun _ _ _ h => h) h01 rfl hHeld (Or.inl ⟨by rfl, ?_⟩) ?_
        · (intro W9 hSw; obtain ⟨v1, v2, v3⟩ := hSw; go_simp; (try (first | with_reducible rfl | rfl | (simp; done) | (exact HWR.out) | (exact HBG.out))))
        try simp only [Act.put, List.setIfInBounds_toArray, List.set_cons_zero, List.set_cons_succ]
        refine wpG_takeB (i := 4) (oi := ⟨some 75, _, _, _, _, _⟩) (v := .agg #[.int .i64 2, .int .i64 m, .int .i64 c]) rfl (by kernel_rfl) (by kernel_rfl) (by kernel_rfl) (by decide) (fun _ _ _ h => h) h01 rfl hHeld (Or.inl ⟨by rfl, ?_⟩) ?_
        · (intro W9 hSw; obtain ⟨v1, v2, v3⟩ := hSw; go_simp; (try (first | with_reducible rfl | rfl | (simp; done) | (exact HWR.out) | (exact HBG.out))))
        try simp only [Act.put, List.setIfInBounds_toArray, List.set_cons_zero, List.set_cons_succ]
        refine wpG_oneB (i := 5) (o := ⟨some 76, _, _, _, _, _⟩) (by kernel_rfl) rfl rfl (fun K hK => ?_)
        go_simp
        (with_reducible refine (C54.out _).mono ?_); rintro e w5 ⟨rfl, b5⟩
        have HB5 := Lib.hid (Below.trans (below_drew (Below.refl w4.heap.size w4)) b5)
        have HS5 := Lib.hid ((HX4.out.below HB5.out).rxf)
        clear b5
        refine hK.out _ _ HS5.out (fun hHeld => ?_)
        clear hK K
        try simp only [Act.put, List.setIfInBounds_toArray, List.set_cons_zero, List.set_cons_succ]
        refine wpG_takeB (i := 6) (oi := ⟨some 77, _, _, _, _, _⟩) (v := .int .i64 (m + (tailN c : Int))) rfl (by kernel_rfl) (by kernel_rfl) (by kernel_rfl) (by decide) (fun _ _ _ h => h) h01 rfl hHeld (Or.inl ⟨by rfl, ?_⟩) ?_
        · (intro W9 hSw; obtain ⟨v1, v2, v3⟩ := hSw; go_simp; (try (first | with_reducible rfl | rfl | (simp; done) | (exact HWR.out) | (exact HBG.out))))
        try simp only [Act.put, List.setIfInBounds_toArray, List.set_cons_zero, List.set_cons_succ]
        refine wpG_takeB (i := 7) (oi := ⟨some 78, _, _, _, _, _⟩) (v := .bool false) rfl (by kernel_rfl) (by kernel_rfl) (by kernel_rfl) (by decide) (fun _ _ _ h => h) h01 rfl hHeld (Or.inl ⟨by rfl, ?_⟩) ?_
        · (intro W9 hSw; obtain ⟨v1, v2, v3⟩ := hSw; go_simp; (try (first | with_reducible rfl | rfl | (simp; done) | (exact HWR.out) | (exact HBG.out))))
        try simp only [Act.put, List.setIfInBounds_toArray, List.set_cons_zero, List.set_cons_succ]
        refine wpG_done (by kernel_rfl) ?_ _
        clear hHeld h01
        go_wp2_with fail
        go_roundw
        case rel => exact ⟨A4, ns + 1, c4, sl ++ [((bs[k + 1]'HKB2.out) ^^^ 32)], 0, k + 2, rfl, rfl, by go_num, Lib.hid (HS4.out.over HB5.out), Lib.hid (.inl ⟨rfl, HJ.out.push2 HKB2.out HY5.out HOK.out HBL.out⟩)⟩
        case measure => have := HKB.out; have := HR.out.len; simp [intOf]; omega
set_option maxRecDepth 100000 in
set_option maxHeartbeats 2000000 in
theorem read_ref (k m c : Int) (hF : OkF k m c) (A : Option Addr) (n cp : Nat) (bs : List UInt8) (w : World) (hr : RB w A n cp bs) (hn : n ≤ 30000) :
    Calls Try.prog 20 #[FV k m c, .slice A n cp] w (RRes w (feedS k m c St.new bs)) := by
  obtain ⟨W0, hW0⟩ : ∃ W0, (w.alloc (.cells #[.int .i64 k, .int .i64 m, .int .i64 c] 24)).alloc (.cells #[.slice none 0 0, .bool false, .int .i64 0] 49) = W0 := ⟨_, rfl⟩
  have hb0 : Below w.heap.size w W0 := hW0 ▸ ((Below.refl _ w).alloc (Nat.le_refl _) _).alloc (by simp) _
  have kf : Blk W0 w.heap.size 24 #[.int .i64 k, .int .i64 m, .int .i64 c] := hW0 ▸ (Blk.new w 24 _).alloc _
  have kr : Blk W0 (w.heap.size + 1) 49 #[.slice none 0 0, .bool false, .int .i64 0] := by have := Blk.new (w.alloc (.cells #[.int .i64 k, .int .i64 m, .int .i64 c] 24)) 49 #[.slice none 0 0, .bool false, .int .i64 0]; rw [World.size_alloc, hW0] at this; exact this
  have key : Calls Try.prog (if k = 1 then 37 else 38) #[FV k m c, .slice A n cp] W0 (RRes W0 (feedS k m c St.new bs)) := by
    rcases hF.k with rfl | rfl
    · exact prefixed_any m c hF A n cp bs W0 (hr.below hb0) hn
    · exact delimited_ref m c hF A n cp bs W0 (hr.below hb0) hn
  unfold FV RRes at key
  unfold FV RRes
  obtain ⟨f0, f1, f2⟩ : W0.cell? ⟨w.heap.size, 0, none⟩ = some (.int .i64 k) ∧ W0.cell? ⟨w.heap.size, 1, none⟩ = some (.int .i64 m) ∧ W0.cell? ⟨w.heap.size, 2, none⟩ = some (.int .i64 c) := ⟨kf.cell 0, kf.cell 1, kf.cell 2⟩
  have HB0 := Lib.hid hb0
  have HKR := Lib.hid kr
  have HW0 := Lib.hid hW0
  generalize feedS k m c St.new bs = p at *
  obtain ⟨q1, hq1⟩ : ∃ q1, decide (p.1.st = 2) = q1 := ⟨_, rfl⟩
  obtain ⟨q2, hq2⟩ : ∃ q2 : Int, (if p.1.begun then (p.1.at_ : Int) else -1) = q2 := ⟨_, rfl⟩
  rw [hq1, hq2] at key ⊢
  clear hq1 hq2
  clear hb0 kf kr hW0 hr hn
  rcases hF.k with rfl | rfl
  all_goals
    first
      | rw [if_pos rfl] at key
      | rw [if_neg (by decide)] at key
    have C := Lib.hid key
    clear key hF
    go_enter Try.func20, Try.ntmps20
    go_upto_region 1 with fail
    rw [HW0.out]
    clear HW0
    go_wp2_with (first
      | (go_at_call 37; (with_reducible refine C.out.mono ?_); rintro e w2 ⟨out, ds, rfl, hf, hd, hb⟩; refine Hid.out ?_)
      | (go_at_call 38; (with_reducible refine C.out.mono ?_); rintro e w2 ⟨out, ds, rfl, hf, hd, hb⟩; refine Hid.out ?_))
    refine Lib.hid ?_
    obtain ⟨Ao, co, hout, -⟩ := own_formS hf.own
    subst hout
    have HFL := Lib.hid hf
    have HDS := Lib.hid hd
    have HBW := Lib.hid (HB0.out.trans (hb.mono HB0.out.size))
    have HR2 := Lib.hid (HKR.out.below hb HKR.out.lt)
    have HB2 := Lib.hid hb.size
    obtain ⟨y0, y1, y2⟩ : w2.cell? ⟨w.heap.size + 1, 0, none⟩ = some (.slice none 0 0) ∧ w2.cell? ⟨w.heap.size + 1, 1, none⟩ = some (.bool false) ∧ w2.cell? ⟨w.heap.size + 1, 2, none⟩ = some (.int .i64 0) := ⟨HR2.out.cell 0, HR2.out.cell 1, HR2.out.cell 2⟩
    have z0 := HR2.out.frozen 0
    have z1 := HR2.out.frozen 1
    have z2 := HR2.out.frozen 2
    clear hf hd hb f0 f1 f2
    go_wp2_with fail
    have hn := own_neB HFL.out.own HR2.out (by decide)
    have hk := ((HR2.out.set_ 0 (.slice Ao ds.length co)).set_ 1 (.bool q1)).set_ 2 (.int .i64 q2)
    simp only [List.setIfInBounds_toArray, List.set_cons_zero, List.set_cons_succ] at hk
    refine bodyPost_ret (v := .agg #[.slice Ao ds.length co, .bool q1, .int .i64 q2]) (rx_res rfl rfl hk) rfl ⟨_, ds, rfl, ⟨own_base (own_setCell (own_setCell (own_setCell HFL.out.own hn _) hn _) hn _) HB0.out.size, fun x hx => ?_⟩, HDS.out, Below.setCell (Below.setCell (Below.setCell HBW.out (by simp) _) (by simp) _) (by simp) _⟩
    have hm := own_neB (HFL.out.rows x hx) HR2.out (by decide)
    exact own_base (own_setCell (own_setCell (own_setCell (HFL.out.rows x hx) hm _) hm _) hm _) HB0.out.size
end Go.Proofs.Ytibkhjpjneoabaa

namespace Go.Proofs.Ytibkhjpjneoabaa
open Go.RowKit
set_option linter.unusedVariables false
set_option linter.unusedSimpArgs false

theorem elem40 : Try.prog.underlying 40 = some (.slice (Try.prog.elem 40)) := by kernel_rfl
theorem size40 (W : World) : (sizeOf (Try.prog.elem 40)).run Try.prog W = .ok 3 W := by kernel_rfl
theorem cells_len (ds : List Fd) : (ds.flatMap Fd.cells).length = ds.length * 3 := by
  induction ds with
  | nil => rfl
  | cons d ds ih => simp only [List.flatMap_cons, List.length_append, ih, List.length_cons]; have : d.cells.length = 3 := rfl; omega
theorem cells_drop (p : Nat) : ∀ ds : List Fd, (ds.drop p).flatMap Fd.cells = (ds.flatMap Fd.cells).drop (p * 3) := by
  induction p with
  | zero => intro ds; simp
  | succ p ih =>
    intro ds
    cases ds with
    | nil => simp
    | cons d ds =>
      have h3 : d.cells.length = 3 := rfl
      rw [List.drop_succ_cons, ih, List.flatMap_cons, show (p + 1) * 3 = d.cells.length + p * 3 by omega, List.drop_append]
      simp [h3]
/-- The rest of a list of results. -/
theorem slice_frl {W : World} {B n cp : Nat} {A : Option Addr} {ds : List Fd} (h : FrL W B (.slice A n cp) ds) (p : Nat) (hp : p ≤ n) :
    ∃ A' c', (∀ W' : World, (Instr.slice 40 (.slice A n cp) (some (.int .i64 (p : Int))) none none).run Try.prog W' = .ok (.slice A' (n - p) c') W') ∧ FrR W A' (ds.drop p) ∧ n - p = (ds.drop p).length ∧ ∀ b o, A' = some ⟨b, o, none⟩ → ∃ o', A = some ⟨b, o', none⟩ := by
  have hn := h.own.1
  rw [cells_len] at hn
  obtain ⟨A0, cap, e, h1, h2, h3, h4⟩ := own_formS h.own
  injection e with e1 e2 e3
  subst e1 e3
  have hl : n - p = (ds.drop p).length := by rw [List.length_drop]; omega
  have hrun : ∀ W' : World, (Instr.slice 40 (.slice A n cp) (some (.int .i64 (p : Int))) none none).run Try.prog W' = .ok (sliced A p n cp 3) W' := fun W' => by
    rw [run_slice_l W' 40 A n cp elem40 .i64 (p : Int) (by omega) (by omega), size40]; rfl
  cases A with
  | none =>
    obtain ⟨h5, h6⟩ := h3 rfl
    obtain rfl : p = 0 := by omega
    refine ⟨none, 0, fun W' => ?_, ⟨fun h0 => ?_, fun d hd => own_RB3 (h.rows d (List.mem_of_mem_drop hd))⟩, hl, fun b o e => by cases e⟩
    · rw [hrun W']
      subst h6
      have : n = 0 := by omega
      subst this
      simp [sliced]
    · rw [List.length_drop] at h0; omega
  | some a =>
    refine ⟨some (if cp = p then a else a.add (p * 3)), cp - p, fun W' => ?_, ⟨fun h0 => ?_, fun d hd => own_RB3 (h.rows d (List.mem_of_mem_drop hd))⟩, hl, ?_⟩
    · rw [hrun W']
      simp [sliced]
      split <;> rfl
    · rw [List.length_drop] at h0
      obtain ⟨g, hg, -, -⟩ := h4 (by omega)
      cases hg
      refine ⟨g, p * 3, ?_, fun j u hu => ?_⟩
      · rw [if_neg (by omega), Addr.add_lit, Nat.zero_add]
      · rw [cells_drop, List.getElem?_drop] at hu
        have := h.own.cells rfl _ u hu
        rw [Addr.add_lit, Nat.zero_add] at this
        exact this
    · intro b o he
      by_cases hc : cp = p
      · rw [if_pos hc] at he
        exact ⟨o, he⟩
      · rw [if_neg hc] at he
        have he := Option.some.inj he
        by_cases hp0 : p = 0
        · subst hp0
          exact ⟨o, by rw [← he]; simp [Addr.add]⟩
        · obtain ⟨g, hg, -, -⟩ := h4 (by omega)
          cases hg
          rw [Addr.add_lit] at he
          cases he
          exact ⟨0, rfl⟩
theorem stepS_st2 (k m c : Int) (s : St) (x : UInt8) (h : s.st ≠ 3) : (stepS k m c s x).1.st ≠ 3 := by
  have hd : ∀ (s : St) (x : UInt8) (d : Int), s.st ≠ 3 → (damS s x d).1.st ≠ 3 := fun s x d h => by
    unfold damS St.ended
    split <;> simp <;> assumption
  have hp : ∀ (s : St) (x y : UInt8), s.st ≠ 3 → (pushS m c s x y).1.st ≠ 3 := fun s x y h => by
    unfold pushS
    split
    · exact hd s x 5 h
    · exact h
  have hb : ∀ (s : St) (x : UInt8), s.st ≠ 3 → (readB k m c s x).1.st ≠ 3 := fun s x h => by
    unfold readB
    split
    · unfold preS
      dsimp only [St.ended]
      (repeat' split) <;> first | exact h | (show (2 : Int) ≠ 3; decide)
    · unfold delS
      (repeat' split) <;> first | exact h | exact hp _ _ _ h | exact hd _ _ _ h
  unfold stepS
  split
  · split <;> simp
  · split
    · exact h
    · split
      · exact hb _ _ h
      · split
        · exact h
        · exact hb _ _ h
theorem feedS_st2 (k m c : Int) : ∀ (l : List UInt8) (s : St), s.st ≠ 3 → (feedS k m c s l).1.st ≠ 3
  | [], s, h => h
  | x :: r, s, h => feedS_st2 k m c r _ (stepS_st2 k m c s x h)
theorem damS_lost (s : St) (x : UInt8) (d : Int) : (damS s x d).1.lost = s.lost := by
  unfold damS St.ended; split <;> rfl
theorem stepS_lost (k m c : Int) (s : St) (x : UInt8) : (stepS k m c s x).1.lost = s.lost := by
  have hp : ∀ (s : St) (x y : UInt8), (pushS m c s x y).1.lost = s.lost := fun s x y => by
    unfold pushS
    split
    · exact damS_lost s x 5
    · rfl
  have hb : ∀ (s : St) (x : UInt8), (readB k m c s x).1.lost = s.lost := fun s x => by
    unfold readB
    split
    · unfold preS
      dsimp only [St.ended]
      (repeat' split) <;> rfl
    · unfold delS
      (repeat' split) <;> first | rfl | exact hp _ _ _ | exact damS_lost _ _ _
  unfold stepS
  (repeat' split) <;> first | rfl | (exact hb _ _)
theorem feedS_lost (k m c : Int) : ∀ (l : List UInt8) (s : St), (feedS k m c s l).1.lost = s.lost
  | [], s => rfl
  | x :: r, s => by simp only [feedS]; rw [feedS_lost k m c r, stepS_lost]
/-- A reader that is not touched while another one is. -/
theorem RdS.apart2 {W W2 : World} {B B2 r r2 : Nat} {k m c k2 m2 c2 : Int} {v v2 : Value} {s s2 : St} (h : RdS W B r k m c v s) (h2 : RdS W B2 r2 k2 m2 c2 v2 s2) (hne : r ≠ r2) (hv : ∀ j, v.ownBlock = some j → v2.ownBlock ≠ some j) (ho : Only (SFo r2 v2) W W2) : RdS W2 B r k m c v s :=
  h.only ho fun q hq e => by
    rcases hq with rfl | hq
    · rcases e with e | e
      · exact hne e
      · exact own_neB h2.own h.blk (by decide) e
    · rcases e with rfl | e
      · exact own_neB h.own h2.blk (by decide) hq
      · exact hv q hq e
/-- A list of results that is not touched while a reader is. -/
theorem FrL.apart2 {W W2 : World} {B B2 r2 : Nat} {k2 m2 c2 : Int} {out v2 : Value} {s2 : St} {ds : List Fd} (h : FrL W B out ds) (h2 : RdS W B2 r2 k2 m2 c2 v2 s2) (hv : ∀ d ∈ ds, ∀ j, d.val.ownBlock = some j → v2.ownBlock ≠ some j) (ho : Only (SFo r2 v2) W W2) : FrL W2 B out ds :=
  h.only ho (fun j hj e => by
    rcases e with rfl | e
    · exact own_neB h.own h2.blk (by decide) hj
    · exact own_neS h.own h2.own (by decide) j hj e) (fun d hd j hj e => by
    rcases e with rfl | e
    · exact own_neB (h.rows d hd) h2.blk (by decide) hj
    · exact hv d hd j hj e)
/-- Packets, one behind the other. -/
theorem pks_flat_len (f : Nat → Pk) (i : Nat) (h7 : ∀ j, j < i → (f j).l.length ≤ 700) : (pks f i).flatten.length ≤ 700 * i := by
  induction i with
  | zero => simp [pks]
  | succ i ih =>
    rw [pks_succ, List.flatten_append, List.length_append]
    have := ih (fun j hj => h7 j (by omega))
    have := h7 i (by omega)
    have e : ([(f i).l] : List (List UInt8)).flatten.length = (f i).l.length := by simp
    rw [e]
    omega
end Go.Proofs.Ytibkhjpjneoabaa
