/- The contract of (place).xor and of cipher.Xor. -/
import Derived.Test.YtbfejjjdolfcfaaXor
import Derived.Test.YtbfejjjdolfcfaaOrd
namespace Go.Proofs.Ytbfejjjdolfcfaa
open Go.RowKit
set_option linter.unusedVariables false
set_option linter.unusedSimpArgs false

/-- Byte p of the key stream of a number. -/
def keyB (key : Int) (p : Nat) : UInt8 := (blkB (List.replicate 8 key) [0, 0, 0] ((p / 64 : Nat) : Int)).getD (p % 64) 0
def xorL (key : Int) (a : Nat) (l : List UInt8) : List UInt8 := l.mapIdx fun i x => x ^^^ keyB key (a + i)
/-- The first d bytes combined. -/
def xorP (key : Int) (a : Nat) (l : List UInt8) (d : Nat) : List UInt8 := (xorL key a l).take d ++ l.drop d
def xorS (key : Int) (a : Nat) (l : List UInt8) : List UInt8 := if key = 0 then l else xorL key a l
theorem xorL_length (key : Int) (a : Nat) (l : List UInt8) : (xorL key a l).length = l.length := by simp [xorL]
theorem xorP_zero (key : Int) (a : Nat) (l : List UInt8) : xorP key a l 0 = l := by simp [xorP]
theorem xorP_all (key : Int) (a : Nat) (l : List UInt8) : xorP key a l l.length = xorL key a l := by
  unfold xorP
  rw [List.drop_length, List.append_nil, List.take_of_length_le (by rw [xorL_length]; omega)]
theorem xorP_length (key : Int) (a : Nat) (l : List UInt8) {d : Nat} (h : d ≤ l.length) : (xorP key a l d).length = l.length := by
  simp [xorP, xorL_length]; omega
theorem xorP_get (key : Int) (a : Nat) (l : List UInt8) {d : Nat} (h : d < l.length) : (xorP key a l d)[d]? = some l[d] := by
  unfold xorP
  rw [List.getElem?_append_right (by rw [List.length_take]; omega), List.length_take, xorL_length, Nat.min_eq_left (by omega), Nat.sub_self, List.getElem?_drop]
  simp [List.getElem?_eq_getElem h]
theorem xorP_step (key : Int) (a : Nat) (l : List UInt8) {d : Nat} (h : d < l.length) : (xorP key a l d).set d (l[d] ^^^ keyB key (a + d)) = xorP key a l (d + 1) := by
  unfold xorP
  have hl : ((xorL key a l).take d).length = d := by rw [List.length_take, xorL_length]; omega
  rw [List.set_append_right _ _ (by omega), hl, Nat.sub_self, List.drop_eq_getElem_cons h, List.set_cons_zero, List.take_succ_eq_append_getElem (by rw [xorL_length]; exact h), List.append_assoc]
  congr 1
  simp [xorL]
theorem u8_xor (x y : UInt8) : bits .xor .u8 (x.toNat : Int) (y.toNat : Int) = ((x ^^^ y).toNat : Int) := by
  show IntKind.u8.wrap ((BitVec.ofInt 8 (x.toNat : Int) ^^^ BitVec.ofInt 8 (y.toNat : Int)).toNat : Int) = _
  rw [BitVec.ofInt_natCast, BitVec.ofInt_natCast, BitVec.toNat_xor, BitVec.toNat_ofNat, BitVec.toNat_ofNat, Nat.mod_eq_of_lt x.toNat_lt, Nat.mod_eq_of_lt y.toNat_lt, UInt8.toNat_xor]
  exact wrap_u8_id (Nat.xor_lt_two_pow (n := 8) x.toNat_lt y.toNat_lt)
theorem own_ne_blk {w : World} {B n c g0 g sz : Nat} {e t : TypeId} {xs : List Value} {cs : Array Value} (h : w.ownsRow B e sz (.slice (some ⟨g0, 0, none⟩) n c) n xs) (hg : Blk w g t cs) (hne : e ≠ t) : g ≠ g0 := by
  rcases h.2 with ⟨h0, _⟩ | ⟨g', cap', cur, hv, _, hh, _⟩
  · cases h0
  · cases hv
    rintro rfl
    have hq : Blk w g e cur := hh
    unfold Blk at hq hg
    rw [hq] at hg
    injection hg with hg
    injection hg with _ ht
    exact hne ht
theorem own_ge {w : World} {B n c g0 sz : Nat} {e : TypeId} {xs : List Value} (h : w.ownsRow B e sz (.slice (some ⟨g0, 0, none⟩) n c) n xs) : B ≤ g0 := (h.lt g0 rfl).1
theorem make3 (w : World) : (Instr.makeSlice 29 (.int .i64 3) (.int .i64 3)).run Try.prog w = .ok (.slice (some ⟨w.heap.size, 0, none⟩) 3 3) (w.alloc (.cells #[.int .i64 0, .int .i64 0, .int .i64 0] 3)) := by kernel_rfl
theorem good_key {key : Int} {c : Nat} (hk : isW key = true) (hc : c < 4294967296) : goodB (List.replicate 8 key) [0, 0, 0] (c : Int) := by
  refine ⟨by simp, rfl, ?_⟩
  have h1 : isW (c : Int) = true := by simp [isW]; omega
  simp [numS, kon, hk, h1]
  decide
theorem blk_key (key : Int) (hk : isW key = true) (c : Nat) (hc : c < 4294967296) (g g' : Nat) (w : World) (h1 : Blk w g 3 #[.int .i64 key, .int .i64 key, .int .i64 key, .int .i64 key, .int .i64 key, .int .i64 key, .int .i64 key, .int .i64 key]) (h2 : Blk w g' 3 #[.int .i64 0, .int .i64 0, .int .i64 0]) :
    Calls Try.prog 12 #[.slice (some ⟨g, 0, none⟩) 8 8, .slice (some ⟨g', 0, none⟩) 3 3, .int .i64 c] w fun e w' => Rowed w 5 64 ((blkB (List.replicate 8 key) [0, 0, 0] (c : Int)).map u8) (fun v => .tuple #[v, .int .i64 0]) e w' := by
  have h := blk_any (some ⟨g, 0, none⟩) (some ⟨g', 0, none⟩) 8 8 3 3 (List.replicate 8 key) [0, 0, 0] c (blkB (List.replicate 8 key) [0, 0, 0] (c : Int)) 0 (fun _ => ⟨rfl, rfl⟩) (fun h => absurd (good_key hk hc) h) w (holds_blk h1 rfl rfl) (holds_blk h2 rfl rfl) (by omega) (by omega)
  rw [blkB_length] at h
  exact h

set_option maxRecDepth 100000 in
set_option maxHeartbeats 4000000 in
theorem pxor_zero (A : Option Addr) (n c : Nat) (a : Int) (l : List UInt8) (w : World) (hl : l.length = n) (hn : n ≤ 3000) (hb : Holds w A n (l.map u8)) (hc : A = none → c = 0) :
    Calls Try.prog 31 #[.agg #[.int .i64 0, .int .i64 a], .slice A n c] w fun e w' => Rowed w 5 n (l.map u8) (fun v => v) e w' := by
  have C36 := Lib.hid (clone_any A n c (l.map u8) (w.alloc (.cells #[.int .i64 0, .int .i64 a] 44)) (by omega) (hb.alloc _) (u8_one l) hc)
  have HBX := Lib.hid (Blk.new w 44 #[.int .i64 0, .int .i64 a])
  clear hb hc
  go_enter Try.func31, Try.ntmps31
  go_wp2_with fail
  (with_reducible refine C36.out.mono ?_); rintro e w1 ⟨v1, rfl, ho1, hb1⟩
  have hcell := (HBX.out.below hb1 HBX.out.lt).cell 0
  simp at hcell
  have HO := Lib.hid (own_base ho1 (show w.heap.size ≤ _ by simp))
  have HBW := Lib.hid (((Below.refl _ w).alloc (Nat.le_refl _) (.cells #[.int .i64 0, .int .i64 a] 44)).trans (hb1.mono (by simp)))
  clear ho1 hb1
  go_wp2_with fail
  go_ret
  exact ⟨_, rfl, HO.out, HBW.out⟩

set_option maxRecDepth 100000 in
set_option maxHeartbeats 8000000 in
theorem pxor_any (A : Option Addr) (n c a : Nat) (key : Int) (l : List UInt8) (w : World) (hl : l.length = n) (hn : n ≤ 3000) (hb : Holds w A n (l.map u8)) (hc : A = none → c = 0) (hk : isW key = true) (hk0 : key ≠ 0) (ha : a + n ≤ 274877906944) :
    Calls Try.prog 31 #[.agg #[.int .i64 key, .int .i64 a], .slice A n c] w fun e w' => Rowed w 5 n ((xorL key a l).map u8) (fun v => v) e w' := by
  have C36 := Lib.hid (clone_any A n c (l.map u8) (w.alloc (.cells #[.int .i64 key, .int .i64 a] 44)) (by omega) (hb.alloc _) (u8_one l) hc)
  have HBX := Lib.hid (Blk.new w 44 #[.int .i64 key, .int .i64 a])
  have HL := Lib.hid hl
  have HK := Lib.hid hk
  have hd : (key == 0) = false := by simp [hk0]
  obtain ⟨bx, hh⟩ : ∃ bx, w.heap.size = bx := ⟨_, rfl⟩
  have HBW0 := Lib.hid ((Below.refl _ w).alloc (Nat.le_refl _) (.cells #[.int .i64 key, .int .i64 a] 44))
  have hsz : (w.alloc (.cells #[.int .i64 key, .int .i64 a] 44)).heap.size = bx + 1 := by simp [hh]
  have HSZ := Lib.hid hsz
  rw [hh] at HBX HBW0
  have HH := Lib.hid hh
  have ha2 : (a : Int) + n ≤ 274877906944 := by omega
  clear hl hb hc hk hk0 ha
  go_enter Try.func31, Try.ntmps31
  go_wp2_with fail
  (with_reducible refine C36.out.mono ?_); rintro e w1 ⟨v1, rfl, ho1, hb1⟩
  obtain ⟨A0, cap0, rfl, hcap0, -⟩ := own_form ho1
  clear hh
  have HBX1 := Lib.hid (HBX.out.below hb1 HBX.out.lt)
  have hcell := HBX1.out.cell 0
  simp at hcell
  have HOUT1 := Lib.hid (own_base ho1 (show bx ≤ _ by rw [HSZ.out]; omega))
  have HBW1 := Lib.hid (HBW0.out.trans (hb1.mono (show bx ≤ _ by rw [HSZ.out]; omega)))
  clear ho1 hb1 hsz HBX HBW0
  go_wp2_with fail
  (with_reducible refine (repeat_any w1.heap.size key _ (Blk.new w1 3 #[.int .i64 key])).mono ?_); rintro e w2 ⟨g8, rfl, hg8, hk8, hb8⟩
  have HK8 := Lib.hid hk8
  have hsz1 : bx ≤ w1.heap.size := (by have := HBW1.out.size; rw [HH.out] at this; exact this)
  have hb2 := ((Below.refl _ w1).alloc (Nat.le_refl _) (.cells #[.int .i64 key] 3)).trans (hb8.mono (by simp))
  have HBX2 := Lib.hid (HBX1.out.below hb2 HBX1.out.lt)
  have HOUT2 := Lib.hid (own_none HOUT1.out (grown_of_below hb2))
  have HBW2 := Lib.hid (HBW1.out.trans (hb2.mono hsz1))
  clear hk8 hb8 hb2 hcell hg8 hsz1 HBX1 HOUT1 HBW1
  go_wp2_with fail
  go_loopw [7] (fun dd wr => ∃ d : Nat, d ≤ n ∧ dd = .int .i64 d ∧ wr.ownsRow bx 5 1 (.slice A0 n cap0) n ((xorP key a l d).map Ytbfejjjdolfcfaa.u8) ∧ Blk wr bx 44 #[.int .i64 key, .int .i64 a] ∧ Blk wr g8 3 #[.int .i64 key, .int .i64 key, .int .i64 key, .int .i64 key, .int .i64 key, .int .i64 key, .int .i64 key, .int .i64 key] ∧ Below bx w wr) (fun dd _ => n - (intOf dd).toNat)
  case atStart => exact ⟨0, Nat.zero_le _, rfl, by rw [xorP_zero]; exact HOUT2.out, HBX2.out, HK8.out, HBW2.out⟩
  clear HBX2 HOUT2 HBW2 HK8
  case round =>
    obtain ⟨d, hd', rfl, hown, hbx, hk8, hbw⟩ := hrel
    have HOUT2 := Lib.hid hown
    have HBX2 := Lib.hid hbx
    have HK2 := Lib.hid hk8
    have HBW2 := Lib.hid hbw
    clear hown hbx hk8 hbw
    by_cases hlt : (d : Int) < n
    · have hcell := HBX2.out.cell 1
      simp at hcell
      obtain ⟨f, hf⟩ : ∃ f : Nat, (a + d) % 64 = f := ⟨_, rfl⟩
      obtain ⟨q, hq⟩ : ∃ q : Nat, (a + d) / 64 = q := ⟨_, rfl⟩
      have hf1 : ((a : Int) + d) % 64 = f := by omega
      have hq1 : ((a : Int) + d) / 64 = q := by omega
      have hf2 : (f : Int) < 64 := by omega
      have HF := Lib.hid (And.intro hf hq)
      have HQ := Lib.hid (show q < 4294967296 by omega)
      clear hf hq
      have HKA := Lib.hid (HK2.out.alloc (.cells #[.int .i64 0, .int .i64 0, .int .i64 0] 3)).drew
      have HKA2 := HKA
      have HZA := Lib.hid (Blk.new wr 3 #[.int .i64 0, .int .i64 0, .int .i64 0]).drew
      have HBXA := Lib.hid (HBX2.out.alloc (.cells #[.int .i64 0, .int .i64 0, .int .i64 0] 3)).drew
      have HOUTA := Lib.hid (own_drew (own_alloc (o := .cells #[.int .i64 0, .int .i64 0, .int .i64 0] 3) HOUT2.out))
      have HBWA := Lib.hid (below_drew (HBW2.out.alloc (by have := HBW2.out.size; rw [HH.out] at this; exact this) (.cells #[.int .i64 0, .int .i64 0, .int .i64 0] 3)))
      have HSZA := Lib.hid (show bx ≤ ((wr.alloc (.cells #[.int .i64 0, .int .i64 0, .int .i64 0] 3)).drew).heap.size by have := HBWA.out.size; rw [HH.out] at this; exact this)
      have CB := Lib.hid (fun W hk hz => blk_key key HK.out q HQ.out g8 wr.heap.size W hk hz)
      have hmk := make3 wr
      have hmk' := make3 wr.drew
      by_cases hmin : (f : Int) + n - d < 64
      · obtain ⟨e, he⟩ : ∃ e : Nat, (f : Int) + n - d = e := ⟨f + n - d, by omega⟩
        have hfe : (f : Int) < e := by omega
        have he64 : (e : Int) < 64 := by omega
        have hde : d + (e - f) ≤ n := by omega
        go_wp2_with fail
        have e1 : IntKind.i64.wrap ((a : Int) + d) = a + d := IntWalk.i64_in _ (by omega)
        have e2 : IntKind.i64.wrap (((a : Int) + d).tdiv 64) = q := by rw [Int.tdiv_eq_ediv_of_nonneg (by omega), hq1]; exact IntWalk.i64_in _ (by omega)
        refine wp_region_G (S0 := (fun (w' : World) => w'.cell? ⟨bx, 1, none⟩ = some (.int .i64 (a : Nat)))) (S1 := (fun (w' : World) => w'.cell? ⟨bx, 1, none⟩ = some (.int .i64 (a : Nat)))) (c := 7) (by kernel_rfl) ?_
        have hHeld := (show wr.drew.cell? ⟨bx, 1, none⟩ = some (.int .i64 (a : Nat)) from HBX2.out.cell 1)
        have h01 := (show ∀ w : World, w.cell? ⟨bx, 1, none⟩ = some (.int .i64 (a : Nat)) → w.cell? ⟨bx, 1, none⟩ = some (.int .i64 (a : Nat)) from fun w h => h)
        refine wpG_takeA (i := 0) (oi := ⟨some 34, _, _, _, _, _⟩) (v := ?_) rfl (by kernel_rfl) (by kernel_rfl) (by kernel_rfl) (by decide) (fun _ _ _ h => h) h01 rfl hHeld (Or.inl ⟨by rfl, ?_⟩) ?_
        rotate_left
        · (intro w hSw; (try dsimp only at hSw); go_simp; (try with_reducible rfl))
        try simp only [Act.put, List.setIfInBounds_toArray, List.set_cons_zero, List.set_cons_succ]
        refine wpG_takeA (i := 2) (oi := ⟨some 36, _, _, _, _, _⟩) (v := ?_) rfl (by kernel_rfl) (by kernel_rfl) (by kernel_rfl) (by decide) (fun _ _ _ h => h) h01 rfl hHeld (Or.inl ⟨by rfl, ?_⟩) ?_
        rotate_left
        · (intro w hSw; (try dsimp only at hSw); go_simp; (try with_reducible rfl))
        try simp only [Act.put, List.setIfInBounds_toArray, List.set_cons_zero, List.set_cons_succ]
        refine wpG_takeA (i := 3) (oi := ⟨some 37, _, _, _, _, _⟩) (v := ?_) rfl (by kernel_rfl) (by kernel_rfl) (by kernel_rfl) (by decide) (fun _ _ _ h => h) h01 rfl hHeld (Or.inl ⟨by rfl, ?_⟩) ?_
        rotate_left
        · (intro w hSw; (try dsimp only at hSw); go_simp; (try with_reducible rfl))
        try simp only [Act.put, List.setIfInBounds_toArray, List.set_cons_zero, List.set_cons_succ]
        refine wpG_takeA (i := 4) (oi := ⟨some 38, _, _, _, _, _⟩) (v := ?_) rfl (by kernel_rfl) (by kernel_rfl) (by kernel_rfl) (by decide) (fun _ _ _ h => h) h01 rfl hHeld (Or.inl ⟨by rfl, ?_⟩) ?_
        rotate_left
        · (intro w hSw; (try dsimp only at hSw); go_simp; (try with_reducible rfl))
        try simp only [Act.put, List.setIfInBounds_toArray, List.set_cons_zero, List.set_cons_succ]
        refine wpG_takeA (i := 5) (oi := ⟨some 39, _, _, _, _, _⟩) (v := ?_) rfl (by kernel_rfl) (by kernel_rfl) (by kernel_rfl) (by decide) (fun _ _ _ h => h) h01 rfl hHeld (Or.inl ⟨by rfl, ?_⟩) ?_
        rotate_left
        · (intro w hSw; (try dsimp only at hSw); go_simp; (try with_reducible rfl))
        try simp only [Act.put, List.setIfInBounds_toArray, List.set_cons_zero, List.set_cons_succ]
        refine wpG_takeA (i := 6) (oi := ⟨some 40, _, _, _, _, _⟩) (v := ?_) rfl (by kernel_rfl) (by kernel_rfl) (by kernel_rfl) (by decide) (fun _ _ _ h => h) h01 rfl hHeld (Or.inl ⟨by rfl, ?_⟩) ?_
        rotate_left
        · (intro w hSw; (try dsimp only at hSw); go_simp; (try with_reducible rfl))
        try simp only [Act.put, List.setIfInBounds_toArray, List.set_cons_zero, List.set_cons_succ]
        refine wpG_oneA (i := 1) (o := ⟨some 35, _, _, _, _, _⟩) (by kernel_rfl) rfl rfl (fun K hK => ?_)
        go_simp
        refine hK.out _ _ (HBXA.out.cell 1) (fun hHeld => ?_)
        clear hK K
        try simp only [Act.put, List.setIfInBounds_toArray, List.set_cons_zero, List.set_cons_succ]
        refine wpG_oneB (i := 7) (o := ⟨some 41, _, _, _, _, _⟩) (by kernel_rfl) rfl rfl (fun K hK => ?_)
        go_simp
        (with_reducible refine (CB.out _ HKA.out HZA.out).mono ?_); rintro e w5 ⟨v5, rfl, ho5, hb5⟩
        obtain ⟨gb, capb, rfl, hgb1, hgb2, hgb3, hgb4, hgb5⟩ := own_holds ho5 (by omega)
        have HO5 := Lib.hid ho5
        have HBX5 := Lib.hid (HBXA.out.below hb5 HBXA.out.lt)
        have HK5 := Lib.hid (HKA2.out.below hb5 HKA2.out.lt)
        have HOUT5 := Lib.hid (own_none HOUTA.out (grown_of_below hb5))
        have HBW5 := Lib.hid (HBWA.out.trans (hb5.mono HSZA.out))
        have HNE5 := Lib.hid (show ∀ g0, (Value.slice A0 n cap0).ownBlock = some g0 → g0 ≠ gb from fun g0 hg0 => by have := (HOUTA.out.lt g0 hg0).2; omega)
        clear ho5 hb5 hgb5
        refine hK.out _ _ (HBX5.out.cell 1) (fun hHeld => ?_)
        clear hK K
        try simp only [Act.put, List.setIfInBounds_toArray, List.set_cons_zero, List.set_cons_succ]
        refine wpG_takeB (i := 8) (oi := ⟨some 33, _, _, _, _, _⟩) (v := ?_) rfl (by kernel_rfl) (by kernel_rfl) (by kernel_rfl) (by decide) (fun _ _ _ h => h) h01 rfl hHeld (Or.inl ⟨by rfl, ?_⟩) ?_
        rotate_left
        · (intro w hSw; (try dsimp only at hSw); go_simp; (try with_reducible rfl))
        try simp only [Act.put, List.setIfInBounds_toArray, List.set_cons_zero, List.set_cons_succ]
        refine wpG_takeB (i := 9) (oi := ⟨some 42, _, _, _, _, _⟩) (v := ?_) rfl (by kernel_rfl) (by kernel_rfl) (by kernel_rfl) (by decide) (fun _ _ _ h => h) h01 rfl hHeld (Or.inl ⟨by rfl, ?_⟩) ?_
        rotate_left
        · (intro w hSw; (try dsimp only at hSw); go_simp; (try with_reducible rfl))
        try simp only [Act.put, List.setIfInBounds_toArray, List.set_cons_zero, List.set_cons_succ]
        refine wpG_takeB (i := 10) (oi := ⟨some 43, _, _, _, _, _⟩) (v := ?_) rfl (by kernel_rfl) (by kernel_rfl) (by kernel_rfl) (by decide) (fun _ _ _ h => h) h01 rfl hHeld (Or.inl ⟨by rfl, ?_⟩) ?_
        rotate_left
        · (intro w hSw; (try dsimp only at hSw); go_simp; (try with_reducible rfl))
        try simp only [Act.put, List.setIfInBounds_toArray, List.set_cons_zero, List.set_cons_succ]
        refine wpG_takeB (i := 11) (oi := ⟨some 9, _, _, _, _, _⟩) (v := ?_) rfl (by kernel_rfl) (by kernel_rfl) (by kernel_rfl) (by decide) (fun _ _ _ h => h) h01 rfl hHeld (Or.inl ⟨by rfl, ?_⟩) ?_
        rotate_left
        · (intro w hSw; (try dsimp only at hSw); go_simp; (try with_reducible rfl))
        try simp only [Act.put, List.setIfInBounds_toArray, List.set_cons_zero, List.set_cons_succ]
        refine wpG_takeB (i := 12) (oi := ⟨some 10, _, _, _, _, _⟩) (v := ?_) rfl (by kernel_rfl) (by kernel_rfl) (by kernel_rfl) (by decide) (fun _ _ _ h => h) h01 rfl hHeld (Or.inl ⟨by rfl, ?_⟩) ?_
        rotate_left
        · (intro w hSw; (try dsimp only at hSw); go_simp; (try with_reducible rfl))
        try simp only [Act.put, List.setIfInBounds_toArray, List.set_cons_zero, List.set_cons_succ]
        refine wpG_done (by kernel_rfl) ?_ _
        clear e1 e2
        clear hmk hmk' hcell hHeld h01
        go_wp2_with fail
        have HGB := Lib.hid (own_base HO5.out HSZA.out)
        clear hgb1 hgb2 hgb3 hgb4
        go_loopw [12, 13, 56] (fun _ _ jj wz => ∃ j : Nat, j ≤ e - f ∧ jj = .int .i64 j ∧ wz.ownsRow bx 5 1 (.slice A0 n cap0) n ((xorP key a l (d + j)).map Ytbfejjjdolfcfaa.u8) ∧ Blk wz bx 44 #[.int .i64 key, .int .i64 a] ∧ Blk wz g8 3 #[.int .i64 key, .int .i64 key, .int .i64 key, .int .i64 key, .int .i64 key, .int .i64 key, .int .i64 key, .int .i64 key] ∧ wz.ownsRow bx 5 1 (.slice (some ⟨gb, 0, none⟩) 64 capb) 64 ((blkB (List.replicate 8 key) [0, 0, 0] (q : Int)).map Ytbfejjjdolfcfaa.u8) ∧ Below bx w wz) (fun _ _ jj _ => (e - f) - (intOf jj).toNat)
        case atStart => exact ⟨0, Nat.zero_le _, rfl, HOUT5.out, HBX5.out, HK5.out, HGB.out, HBW5.out⟩
        case round =>
          obtain ⟨j, hj, rfl, hown, hbx, hk8, hgbo, hbw⟩ := hrel
          have HOUT6 := Lib.hid hown
          have HBX6 := Lib.hid hbx
          have HK6 := Lib.hid hk8
          have HGB6 := Lib.hid hgbo
          have HBW6 := Lib.hid hbw
          clear hown hbx hk8 hgbo hbw
          by_cases hlt2 : (j : Int) < (e - f : Nat)
          · obtain ⟨g0, cap1, hA0, -, -, -, -, hcs⟩ := own_holds HOUT6.out (by omega)
            cases hA0
            have hdl : d + j < l.length := by rw [HL.out]; omega
            have hc1 := hcs (d + j) (Ytbfejjjdolfcfaa.u8 l[d + j]) (by rw [List.getElem?_map, xorP_get key a l hdl]; rfl)
            rw [Addr.add_lit, Nat.zero_add] at hc1
            have hfr := own_frozen (k := d + j) HOUT6.out
            have hne := HNE5.out g0 rfl
            have hlb : f + j < (blkB (List.replicate 8 key) [0, 0, 0] (q : Int)).length := by rw [blkB_length]; omega
            obtain ⟨_, _, hv2, -, -, -, -, hcs2⟩ := own_holds HGB6.out (by omega)
            cases hv2
            have hc2 := hcs2 (f + j) (Ytbfejjjdolfcfaa.u8 (blkB (List.replicate 8 key) [0, 0, 0] (q : Int))[f + j]) (by rw [List.getElem?_map, List.getElem?_eq_getElem hlb]; rfl)
            rw [Addr.add_lit, Nat.zero_add] at hc2
            have hkb : keyB key (a + (d + j)) = (blkB (List.replicate 8 key) [0, 0, 0] (q : Int))[f + j] := by
              unfold keyB
              rw [show (a + (d + j)) / 64 = q by have := HF.out; omega, show (a + (d + j)) % 64 = f + j by have := HF.out; omega]
              rw [List.getD_eq_getElem?_getD, List.getElem?_eq_getElem hlb]
              rfl
            have hst := xorP_step key a l hdl
            rw [hkb] at hst
            have hx := u8_xor l[d + j] (blkB (List.replicate 8 key) [0, 0, 0] (q : Int))[f + j]
            unfold Ytbfejjjdolfcfaa.u8 at hc1 hc2
            have hso := own_store (k := d + j) HOUT6.out (Ytbfejjjdolfcfaa.u8 (l[d + j] ^^^ (blkB (List.replicate 8 key) [0, 0, 0] (q : Int))[f + j]))
            rw [← List.map_set, hst] at hso
            unfold Ytbfejjjdolfcfaa.u8 at hso
            have HSO := Lib.hid hso
            have hb1 : (l[d + j].toNat : Int) < 256 := by have := l[d + j].toNat_lt; omega
            have hb2 : ((blkB (List.replicate 8 key) [0, 0, 0] (q : Int))[f + j].toNat : Int) < 256 := by have := (blkB (List.replicate 8 key) [0, 0, 0] (q : Int))[f + j].toNat_lt; omega
            generalize l[d + j] ^^^ (blkB (List.replicate 8 key) [0, 0, 0] (q : Int))[f + j] = z at *
            generalize (l[d + j].toNat : Int) = x at *
            generalize ((blkB (List.replicate 8 key) [0, 0, 0] (q : Int))[f + j].toNat : Int) = y at *
            clear hkb hst hcs hcs2 hso hlb hdl
            go_wp2_with fail
            go_roundw
            case rel => exact ⟨j + 1, by omega, by go_num, HSO.out, HBX6.out.far (own_ne_blk HOUT6.out HBX6.out (by decide)) _, HK6.out.far (own_ne_blk HOUT6.out HK6.out (by decide)) _, own_setCell HGB6.out (by simpa [Value.ownBlock] using hne.symm) _, HBW6.out.setCell (own_ge HOUT6.out) _⟩
            case measure => simp [intOf]; omega
          · obtain rfl : j = e - f := by omega
            go_wp2_with fail
            go_roundw
            case rel => exact ⟨d + (e - f), hde, by go_num, HOUT6.out, HBX6.out, HK6.out, HBW6.out⟩
            case measure => simp [intOf]; omega
      · have hde : d + (64 - f) ≤ n := by omega
        have hmin2 : 64 ≤ (f : Int) + n - d := by omega
        clear hmin
        go_wp2_with fail
        have e1 : IntKind.i64.wrap ((a : Int) + d) = a + d := IntWalk.i64_in _ (by omega)
        have e2 : IntKind.i64.wrap (((a : Int) + d).tdiv 64) = q := by rw [Int.tdiv_eq_ediv_of_nonneg (by omega), hq1]; exact IntWalk.i64_in _ (by omega)
        refine wp_region_G (S0 := (fun (w' : World) => w'.cell? ⟨bx, 1, none⟩ = some (.int .i64 (a : Nat)))) (S1 := (fun (w' : World) => w'.cell? ⟨bx, 1, none⟩ = some (.int .i64 (a : Nat)))) (c := 7) (by kernel_rfl) ?_
        have hHeld := (show wr.drew.cell? ⟨bx, 1, none⟩ = some (.int .i64 (a : Nat)) from HBX2.out.cell 1)
        have h01 := (show ∀ w : World, w.cell? ⟨bx, 1, none⟩ = some (.int .i64 (a : Nat)) → w.cell? ⟨bx, 1, none⟩ = some (.int .i64 (a : Nat)) from fun w h => h)
        refine wpG_takeA (i := 0) (oi := ⟨some 34, _, _, _, _, _⟩) (v := ?_) rfl (by kernel_rfl) (by kernel_rfl) (by kernel_rfl) (by decide) (fun _ _ _ h => h) h01 rfl hHeld (Or.inl ⟨by rfl, ?_⟩) ?_
        rotate_left
        · (intro w hSw; (try dsimp only at hSw); go_simp; (try with_reducible rfl))
        try simp only [Act.put, List.setIfInBounds_toArray, List.set_cons_zero, List.set_cons_succ]
        refine wpG_takeA (i := 2) (oi := ⟨some 36, _, _, _, _, _⟩) (v := ?_) rfl (by kernel_rfl) (by kernel_rfl) (by kernel_rfl) (by decide) (fun _ _ _ h => h) h01 rfl hHeld (Or.inl ⟨by rfl, ?_⟩) ?_
        rotate_left
        · (intro w hSw; (try dsimp only at hSw); go_simp; (try with_reducible rfl))
        try simp only [Act.put, List.setIfInBounds_toArray, List.set_cons_zero, List.set_cons_succ]
        refine wpG_takeA (i := 3) (oi := ⟨some 37, _, _, _, _, _⟩) (v := ?_) rfl (by kernel_rfl) (by kernel_rfl) (by kernel_rfl) (by decide) (fun _ _ _ h => h) h01 rfl hHeld (Or.inl ⟨by rfl, ?_⟩) ?_
        rotate_left
        · (intro w hSw; (try dsimp only at hSw); go_simp; (try with_reducible rfl))
        try simp only [Act.put, List.setIfInBounds_toArray, List.set_cons_zero, List.set_cons_succ]
        refine wpG_takeA (i := 4) (oi := ⟨some 38, _, _, _, _, _⟩) (v := ?_) rfl (by kernel_rfl) (by kernel_rfl) (by kernel_rfl) (by decide) (fun _ _ _ h => h) h01 rfl hHeld (Or.inl ⟨by rfl, ?_⟩) ?_
        rotate_left
        · (intro w hSw; (try dsimp only at hSw); go_simp; (try with_reducible rfl))
        try simp only [Act.put, List.setIfInBounds_toArray, List.set_cons_zero, List.set_cons_succ]
        refine wpG_takeA (i := 5) (oi := ⟨some 39, _, _, _, _, _⟩) (v := ?_) rfl (by kernel_rfl) (by kernel_rfl) (by kernel_rfl) (by decide) (fun _ _ _ h => h) h01 rfl hHeld (Or.inl ⟨by rfl, ?_⟩) ?_
        rotate_left
        · (intro w hSw; (try dsimp only at hSw); go_simp; (try with_reducible rfl))
        try simp only [Act.put, List.setIfInBounds_toArray, List.set_cons_zero, List.set_cons_succ]
        refine wpG_takeA (i := 6) (oi := ⟨some 40, _, _, _, _, _⟩) (v := ?_) rfl (by kernel_rfl) (by kernel_rfl) (by kernel_rfl) (by decide) (fun _ _ _ h => h) h01 rfl hHeld (Or.inl ⟨by rfl, ?_⟩) ?_
        rotate_left
        · (intro w hSw; (try dsimp only at hSw); go_simp; (try with_reducible rfl))
        try simp only [Act.put, List.setIfInBounds_toArray, List.set_cons_zero, List.set_cons_succ]
        refine wpG_oneA (i := 1) (o := ⟨some 35, _, _, _, _, _⟩) (by kernel_rfl) rfl rfl (fun K hK => ?_)
        go_simp
        refine hK.out _ _ (HBXA.out.cell 1) (fun hHeld => ?_)
        clear hK K
        try simp only [Act.put, List.setIfInBounds_toArray, List.set_cons_zero, List.set_cons_succ]
        refine wpG_oneB (i := 7) (o := ⟨some 41, _, _, _, _, _⟩) (by kernel_rfl) rfl rfl (fun K hK => ?_)
        go_simp
        (with_reducible refine (CB.out _ HKA.out HZA.out).mono ?_); rintro e w5 ⟨v5, rfl, ho5, hb5⟩
        obtain ⟨gb, capb, rfl, hgb1, hgb2, hgb3, hgb4, hgb5⟩ := own_holds ho5 (by omega)
        have HO5 := Lib.hid ho5
        have HBX5 := Lib.hid (HBXA.out.below hb5 HBXA.out.lt)
        have HK5 := Lib.hid (HKA2.out.below hb5 HKA2.out.lt)
        have HOUT5 := Lib.hid (own_none HOUTA.out (grown_of_below hb5))
        have HBW5 := Lib.hid (HBWA.out.trans (hb5.mono HSZA.out))
        have HNE5 := Lib.hid (show ∀ g0, (Value.slice A0 n cap0).ownBlock = some g0 → g0 ≠ gb from fun g0 hg0 => by have := (HOUTA.out.lt g0 hg0).2; omega)
        clear ho5 hb5 hgb5
        refine hK.out _ _ (HBX5.out.cell 1) (fun hHeld => ?_)
        clear hK K
        try simp only [Act.put, List.setIfInBounds_toArray, List.set_cons_zero, List.set_cons_succ]
        refine wpG_takeB (i := 8) (oi := ⟨some 33, _, _, _, _, _⟩) (v := ?_) rfl (by kernel_rfl) (by kernel_rfl) (by kernel_rfl) (by decide) (fun _ _ _ h => h) h01 rfl hHeld (Or.inl ⟨by rfl, ?_⟩) ?_
        rotate_left
        · (intro w hSw; (try dsimp only at hSw); go_simp; (try with_reducible rfl))
        try simp only [Act.put, List.setIfInBounds_toArray, List.set_cons_zero, List.set_cons_succ]
        refine wpG_takeB (i := 9) (oi := ⟨some 42, _, _, _, _, _⟩) (v := ?_) rfl (by kernel_rfl) (by kernel_rfl) (by kernel_rfl) (by decide) (fun _ _ _ h => h) h01 rfl hHeld (Or.inl ⟨by rfl, ?_⟩) ?_
        rotate_left
        · (intro w hSw; (try dsimp only at hSw); go_simp; (try with_reducible rfl))
        try simp only [Act.put, List.setIfInBounds_toArray, List.set_cons_zero, List.set_cons_succ]
        refine wpG_takeB (i := 10) (oi := ⟨some 43, _, _, _, _, _⟩) (v := ?_) rfl (by kernel_rfl) (by kernel_rfl) (by kernel_rfl) (by decide) (fun _ _ _ h => h) h01 rfl hHeld (Or.inl ⟨by rfl, ?_⟩) ?_
        rotate_left
        · (intro w hSw; (try dsimp only at hSw); go_simp; (try with_reducible rfl))
        try simp only [Act.put, List.setIfInBounds_toArray, List.set_cons_zero, List.set_cons_succ]
        refine wpG_takeB (i := 11) (oi := ⟨some 9, _, _, _, _, _⟩) (v := ?_) rfl (by kernel_rfl) (by kernel_rfl) (by kernel_rfl) (by decide) (fun _ _ _ h => h) h01 rfl hHeld (Or.inl ⟨by rfl, ?_⟩) ?_
        rotate_left
        · (intro w hSw; (try dsimp only at hSw); go_simp; (try with_reducible rfl))
        try simp only [Act.put, List.setIfInBounds_toArray, List.set_cons_zero, List.set_cons_succ]
        refine wpG_takeB (i := 12) (oi := ⟨some 10, _, _, _, _, _⟩) (v := ?_) rfl (by kernel_rfl) (by kernel_rfl) (by kernel_rfl) (by decide) (fun _ _ _ h => h) h01 rfl hHeld (Or.inl ⟨by rfl, ?_⟩) ?_
        rotate_left
        · (intro w hSw; (try dsimp only at hSw); go_simp; (try with_reducible rfl))
        try simp only [Act.put, List.setIfInBounds_toArray, List.set_cons_zero, List.set_cons_succ]
        refine wpG_done (by kernel_rfl) ?_ _
        clear e1 e2
        clear hmk hmk' hcell hHeld h01
        go_wp2_with fail
        have HGB := Lib.hid (own_base HO5.out HSZA.out)
        clear hgb1 hgb2 hgb3 hgb4
        go_loopw [12, 13, 56] (fun _ _ jj wz => ∃ j : Nat, j ≤ 64 - f ∧ jj = .int .i64 j ∧ wz.ownsRow bx 5 1 (.slice A0 n cap0) n ((xorP key a l (d + j)).map Ytbfejjjdolfcfaa.u8) ∧ Blk wz bx 44 #[.int .i64 key, .int .i64 a] ∧ Blk wz g8 3 #[.int .i64 key, .int .i64 key, .int .i64 key, .int .i64 key, .int .i64 key, .int .i64 key, .int .i64 key, .int .i64 key] ∧ wz.ownsRow bx 5 1 (.slice (some ⟨gb, 0, none⟩) 64 capb) 64 ((blkB (List.replicate 8 key) [0, 0, 0] (q : Int)).map Ytbfejjjdolfcfaa.u8) ∧ Below bx w wz) (fun _ _ jj _ => (64 - f) - (intOf jj).toNat)
        case atStart => exact ⟨0, Nat.zero_le _, rfl, HOUT5.out, HBX5.out, HK5.out, HGB.out, HBW5.out⟩
        case round =>
          obtain ⟨j, hj, rfl, hown, hbx, hk8, hgbo, hbw⟩ := hrel
          have HOUT6 := Lib.hid hown
          have HBX6 := Lib.hid hbx
          have HK6 := Lib.hid hk8
          have HGB6 := Lib.hid hgbo
          have HBW6 := Lib.hid hbw
          clear hown hbx hk8 hgbo hbw
          by_cases hlt2 : (j : Int) < (64 - f : Nat)
          · obtain ⟨g0, cap1, hA0, -, -, -, -, hcs⟩ := own_holds HOUT6.out (by omega)
            cases hA0
            have hdl : d + j < l.length := by rw [HL.out]; omega
            have hc1 := hcs (d + j) (Ytbfejjjdolfcfaa.u8 l[d + j]) (by rw [List.getElem?_map, xorP_get key a l hdl]; rfl)
            rw [Addr.add_lit, Nat.zero_add] at hc1
            have hfr := own_frozen (k := d + j) HOUT6.out
            have hne := HNE5.out g0 rfl
            have hlb : f + j < (blkB (List.replicate 8 key) [0, 0, 0] (q : Int)).length := by rw [blkB_length]; omega
            obtain ⟨_, _, hv2, -, -, -, -, hcs2⟩ := own_holds HGB6.out (by omega)
            cases hv2
            have hc2 := hcs2 (f + j) (Ytbfejjjdolfcfaa.u8 (blkB (List.replicate 8 key) [0, 0, 0] (q : Int))[f + j]) (by rw [List.getElem?_map, List.getElem?_eq_getElem hlb]; rfl)
            rw [Addr.add_lit, Nat.zero_add] at hc2
            have hkb : keyB key (a + (d + j)) = (blkB (List.replicate 8 key) [0, 0, 0] (q : Int))[f + j] := by
              unfold keyB
              rw [show (a + (d + j)) / 64 = q by have := HF.out; omega, show (a + (d + j)) % 64 = f + j by have := HF.out; omega]
              rw [List.getD_eq_getElem?_getD, List.getElem?_eq_getElem hlb]
              rfl
            have hst := xorP_step key a l hdl
            rw [hkb] at hst
            have hx := u8_xor l[d + j] (blkB (List.replicate 8 key) [0, 0, 0] (q : Int))[f + j]
            unfold Ytbfejjjdolfcfaa.u8 at hc1 hc2
            have hso := own_store (k := d + j) HOUT6.out (Ytbfejjjdolfcfaa.u8 (l[d + j] ^^^ (blkB (List.replicate 8 key) [0, 0, 0] (q : Int))[f + j]))
            rw [← List.map_set, hst] at hso
            unfold Ytbfejjjdolfcfaa.u8 at hso
            have HSO := Lib.hid hso
            have hb1 : (l[d + j].toNat : Int) < 256 := by have := l[d + j].toNat_lt; omega
            have hb2 : ((blkB (List.replicate 8 key) [0, 0, 0] (q : Int))[f + j].toNat : Int) < 256 := by have := (blkB (List.replicate 8 key) [0, 0, 0] (q : Int))[f + j].toNat_lt; omega
            generalize l[d + j] ^^^ (blkB (List.replicate 8 key) [0, 0, 0] (q : Int))[f + j] = z at *
            generalize (l[d + j].toNat : Int) = x at *
            generalize ((blkB (List.replicate 8 key) [0, 0, 0] (q : Int))[f + j].toNat : Int) = y at *
            clear hkb hst hcs hcs2 hso hlb hdl
            go_wp2_with fail
            go_roundw
            case rel => exact ⟨j + 1, by omega, by go_num, HSO.out, HBX6.out.far (own_ne_blk HOUT6.out HBX6.out (by decide)) _, HK6.out.far (own_ne_blk HOUT6.out HK6.out (by decide)) _, own_setCell HGB6.out (by simpa [Value.ownBlock] using hne.symm) _, HBW6.out.setCell (own_ge HOUT6.out) _⟩
            case measure => simp [intOf]; omega
          · obtain rfl : j = 64 - f := by omega
            go_wp2_with fail
            go_roundw
            case rel => exact ⟨d + (64 - f), hde, by go_num, HOUT6.out, HBX6.out, HK6.out, HBW6.out⟩
            case measure => simp [intOf]; omega
    · obtain rfl : d = n := by omega
      have ho := HOUT2.out
      rw [show xorP key a l d = xorL key a l by rw [← HL.out, xorP_all]] at ho
      have HO := Lib.hid ho
      clear ho hlt
      go_wp2_with fail
      go_ret
      exact ⟨_, rfl, by rw [HH.out]; exact HO.out, by rw [HH.out]; exact HBW2.out⟩
end Go.Proofs.Ytbfejjjdolfcfaa
