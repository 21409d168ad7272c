/- The walk of FoldGoes. -/
import Derived.Test.YtkalllenggmgoaaDoorFu
import Derived.Test.YtkalllenggmgoaaDoorFv
namespace Go.Proofs.YtkalllenggmgoaaDoor
open Go.RowKit
set_option linter.unusedVariables false
set_option linter.unusedSimpArgs false

theorem neq43 (W : World) (a b c x y z : Int) : (binOp .neq 43 (.agg #[.int .i64 a, .int .i64 b, .int .i64 c]) (.agg #[.int .i64 x, .int .i64 y, .int .i64 z])).run Tryd.prog W = .ok (.bool (!((a == x) && ((b == y) && (c == z))))) W := by
  have hp : Tryd.prog.stoodInHeld 43 = false := by kernel_rfl
  have ht : Tryd.prog.underlying 43 = some (.struct (Tryd.prog.fieldsOf 43)) := by kernel_rfl
  rw [run_neq_struct, run_equalIn_agg W _ 43 _ _ ht hp]
  unfold Program.fieldsOf
  rw [Tryd.underlying43]
  have h3 := Tryd.underlying3
  simp [go_sem, part, Op.eqFields]
  by_cases h1 : a = x <;> by_cases h2 : b = y <;> by_cases h3 : c = z <;> simp [h1, h2, h3]
theorem own_rb {w : World} {B n : Nat} {v : Value} {l : List UInt8} (h : w.ownsRow B 5 1 v n (l.map Go.Proofs.YtkalllenggmgoaaDoor.u8)) : ∃ A c, v = .slice A n c ∧ RB w A n c l := by
  obtain ⟨A, c, rfl, h1, h2, h3, h4⟩ := own_form h
  exact ⟨A, c, rfl, by have := h.1; simpa using this, holds_own h, h1, h2, fun e => (h3 e).2⟩
theorem u8_ofNat (i : Nat) (h : (i : Int) < 256) : Go.Proofs.YtkalllenggmgoaaDoor.u8 (UInt8.ofNat i) = .int .u8 (i : Int) := by
  have : i < 256 := by omega
  show Value.int .u8 (((UInt8.ofNat i).toNat : Nat) : Int) = _
  simp [Nat.mod_eq_of_lt this]

set_option maxRecDepth 100000 in
set_option maxHeartbeats 1000000 in
theorem goes_bad (A : Option Addr) (n c : Nat) (l : List UInt8) (lo : Bool) (w : World) (h : RB w A n c l) (hn : (n : Int) ≤ 200) (a : Nat) (ha : a < l.length) (hx : scanR l lo = ⟨-1, 0, a⟩) (hy : ∀ c, scanR (l ++ [c]) lo = ⟨-1, 0, a⟩) :
    Calls Tryd.prog 8 #[.slice A n c, .bool lo] w fun e w' => e = .returned (.bool true) ∧ Below w.heap.size w w' := by
  have hln := h.len
  have haI : (a : Int) < n := by omega
  have ha0 : (0 : Int) ≤ a := by omega
  have C22 := Lib.hid (scan22_any A n c l lo w h (by omega))
  rw [hx] at C22
  simp only [] at C22
  have HY := Lib.hid hy
  have HP := Lib.hid h
  have HLN := Lib.hid hln
  clear hx hy h hln ha
  go_enter Tryd.func8, Tryd.ntmps8
  go_upto_region 4 with (go_at_call 22; (with_reducible refine (C22.out).mono ?_); rintro e9 w1 ⟨rfl, hb⟩; have HB1 := Lib.hid hb; clear hb)
  obtain ⟨W2, hW2⟩ : ∃ W2, w1.alloc (.cells #[.int .i64 (-1 : Int), .int .i64 (0 : Int), .int .i64 (a : Int)] 43) = W2 := ⟨_, rfl⟩
  have hB2 : Below w.heap.size w W2 := HB1.out.trans (hW2 ▸ (Below.refl _ w1).alloc HB1.out.size _)
  have hk : Blk W2 w1.heap.size 43 #[.int .i64 (-1 : Int), .int .i64 (0 : Int), .int .i64 (a : Int)] := by rw [← hW2]; exact Blk.new w1 43 _
  rw [hW2]
  have HB2 := Lib.hid hB2
  have HK := Lib.hid hk
  clear hB2 hk hW2
  generalize w1.heap.size = g at *
  go_upto_region 6 with fail
  go_loopw [8, 6, 7] (fun ii le ls wr => ∃ (i la lz : Nat), (i : Int) ≤ 256 ∧ ii = .int .i64 i ∧ le = .int .i64 (la : Int) ∧ ls = .int .i64 (lz : Int) ∧ (la : Int) ≤ i ∧ (lz : Int) ≤ i ∧ Hid (True) ∧ Hid (Below W2.heap.size W2 wr)) (fun ii _ _ _ => 256 - (intOf ii).toNat)
  case atStart => exact ⟨0, 0, 0, by omega, rfl, rfl, rfl, by omega, by omega, Lib.hid (trivial), Lib.hid (Below.refl _ _)⟩
  case round =>
    obtain ⟨i, la, lz, hi, rfl, rfl, rfl, hla, hlz, HC, HBR⟩ := hrel
    by_cases hlt : (i : Int) < 256
    · have HP1 := Lib.hid (HP.out.below (HB2.out.trans (HBR.out.mono HB2.out.size)))
      have HK1 := Lib.hid (HK.out.below HBR.out HK.out.lt)
      go_wp2_with (at_builtin; go_must (refine wpList_app_own (base := wr.heap.size) (n := 0) (m := n) (xs := []) (news := l.map Go.Proofs.YtkalllenggmgoaaDoor.u8) rfl (.tmp 21) (.tmp 22) 26 rfl el22 rfl (own_none00 _ _) rfl (HP1.out.below ((Below.refl _ wr).alloc (Nat.le_refl _) _)).h (fun u hu => by obtain ⟨x9, _, rfl⟩ := List.mem_map.1 hu; rfl) (by have := HP1.out.mc; have h9 := HP1.out.cm; omega) (by omega) (by simp) ?_; intro v2 w2 hown hg hat; refine Hid.out ?_))
      have HO := Lib.hid hown
      have HBA := Lib.hid (below_own ((Below.refl _ wr).alloc (Nat.le_refl _) _) (by simp) (own_none00 wr 5) hg)
      clear hown hg hat
      refine Lib.hid ?_
      go_wp2_with (at_builtin; go_must (refine wpList_app_own (base := wr.heap.size) (n := 0 + n) (m := 1) (xs := [] ++ l.map Go.Proofs.YtkalllenggmgoaaDoor.u8) (news := [.int .u8 (i : Int)]) rfl (.tmp 23) (.tmp 26) 26 rfl el22 rfl (own_alloc HO.out) rfl (Holds.one _ _ _) (by simp [Value.oneCell']) (by unfold maxLen; omega) (by omega) (by have := HBA.out.size; simp; omega) ?_; intro v3 w3 hown hg hat; refine Hid.out ?_))
      have HB3 := Lib.hid (below_own (HBA.out.alloc HBA.out.size _) (by have := HBA.out.size; simp; omega) (own_alloc HO.out) hg)
      have hown2 : w3.ownsRow wr.heap.size 5 1 v3 (n + 1) ((l ++ [UInt8.ofNat i]).map Go.Proofs.YtkalllenggmgoaaDoor.u8) := by
        rw [List.map_append, List.map_cons, List.map_nil, u8_ofNat i hlt]
        have := hown
        rw [Nat.zero_add, List.nil_append] at this
        exact this
      obtain ⟨A3, c3, e3, rb3⟩ := own_rb hown2
      subst e3
      have C22B := Lib.hid (scan22_any A3 _ c3 _ lo w3 rb3 (by omega))
      clear hown hown2 hg hat rb3 HO HBA
      refine Lib.hid ?_
      rw [HY.out] at C22B
      simp only [] at C22B
      go_upto_region 9 with (go_at_call 22; (with_reducible refine (C22B.out).mono ?_); rintro e9 w4 ⟨rfl, hb⟩; have HB4 := Lib.hid hb; clear hb)
      obtain ⟨W5, hW5⟩ : ∃ W5, w4.alloc (.cells #[.int .i64 (-1 : Int), .int .i64 (0 : Int), .int .i64 (a : Int)] 43) = W5 := ⟨_, rfl⟩
      have hB4 : Below wr.heap.size wr w4 := HB3.out.trans (HB4.out.mono HB3.out.size)
      have hB5 : Below wr.heap.size wr W5 := hB4.trans (hW5 ▸ (Below.refl _ w4).alloc hB4.size _)
      have hk5 : Blk W5 w4.heap.size 43 #[.int .i64 (-1 : Int), .int .i64 (0 : Int), .int .i64 (a : Int)] := by rw [← hW5]; exact Blk.new w4 43 _
      rw [hW5]
      have hx5 := HK1.out.below hB5 HK1.out.lt
      have HB5 := Lib.hid hB5
      have y0 := hk5.cell 0
      have y1 := hk5.cell 1
      have y2 := hk5.cell 2
      have x0 := hx5.cell 0
      have x1 := hx5.cell 1
      have x2 := hx5.cell 2
      simp at y0 y1 y2 x0 x1 x2
      have hne := fun W => neq43 W (-1) (0) (a) (-1) (0) (a)
      simp at hne
      clear hB4 hB5 hk5 hx5 hW5
      generalize w4.heap.size = gy at *
      go_wp2_with fail
      go_roundw
      case rel => exact ⟨i + 1, la, lz, by omega, by go_num, by go_num, by go_num, by omega, by omega, Lib.hid (trivial), Lib.hid (HBR.out.trans (HB5.out.mono HBR.out.size))⟩
      case measure => simp [intOf]; omega
    · obtain rfl : i = 256 := by omega
      have HKE := Lib.hid (HK.out.below HBR.out HK.out.lt)
      have x0 := HKE.out.cell 0
      have x1 := HKE.out.cell 1
      have x2 := HKE.out.cell 2
      simp at x0 x1 x2
      have HBE := Lib.hid (HB2.out.trans (HBR.out.mono HB2.out.size))
      go_wp2_with (go_at_call 11; (with_reducible refine (known_any _).mono ?_); rintro e9 w9 ⟨rfl, hb9⟩; have HB9 := Lib.hid (HBE.out.trans (hb9.mono HBE.out.size)); clear hb9)
      go_ret
      exact ⟨rfl, HB9.out⟩

set_option maxRecDepth 100000 in
set_option maxHeartbeats 1000000 in
theorem goes_end (A : Option Addr) (n c : Nat) (l : List UInt8) (lo : Bool) (w : World) (h : RB w A n c l) (hn : (n : Int) ≤ 200) (e : Nat) (he : e ≤ l.length) (hx : scanR l lo = ⟨e, 0, -1⟩) (hy : ∀ c, scanR (l ++ [c]) lo = ⟨e, 0, -1⟩) :
    Calls Tryd.prog 8 #[.slice A n c, .bool lo] w fun e w' => e = .returned (.bool true) ∧ Below w.heap.size w w' := by
  have hln := h.len
  have heI : (e : Int) ≤ n := by omega
  have he0 : (0 : Int) ≤ e := by omega
  have C22 := Lib.hid (scan22_any A n c l lo w h (by omega))
  rw [hx] at C22
  simp only [] at C22
  have HY := Lib.hid hy
  have HP := Lib.hid h
  have HLN := Lib.hid hln
  clear hx hy h hln he
  go_enter Tryd.func8, Tryd.ntmps8
  go_upto_region 4 with (go_at_call 22; (with_reducible refine (C22.out).mono ?_); rintro e9 w1 ⟨rfl, hb⟩; have HB1 := Lib.hid hb; clear hb)
  obtain ⟨W2, hW2⟩ : ∃ W2, w1.alloc (.cells #[.int .i64 (e : Int), .int .i64 (0 : Int), .int .i64 (-1 : Int)] 43) = W2 := ⟨_, rfl⟩
  have hB2 : Below w.heap.size w W2 := HB1.out.trans (hW2 ▸ (Below.refl _ w1).alloc HB1.out.size _)
  have hk : Blk W2 w1.heap.size 43 #[.int .i64 (e : Int), .int .i64 (0 : Int), .int .i64 (-1 : Int)] := by rw [← hW2]; exact Blk.new w1 43 _
  rw [hW2]
  have HB2 := Lib.hid hB2
  have HK := Lib.hid hk
  clear hB2 hk hW2
  generalize w1.heap.size = g at *
  go_upto_region 6 with fail
  go_loopw [8, 6, 7] (fun ii le ls wr => ∃ (i la lz : Nat), (i : Int) ≤ 256 ∧ ii = .int .i64 i ∧ le = .int .i64 (la : Int) ∧ ls = .int .i64 (lz : Int) ∧ (la : Int) ≤ i ∧ (lz : Int) ≤ i ∧ Hid (True) ∧ Hid (Below W2.heap.size W2 wr)) (fun ii _ _ _ => 256 - (intOf ii).toNat)
  case atStart => exact ⟨0, 0, 0, by omega, rfl, rfl, rfl, by omega, by omega, Lib.hid (trivial), Lib.hid (Below.refl _ _)⟩
  case round =>
    obtain ⟨i, la, lz, hi, rfl, rfl, rfl, hla, hlz, HC, HBR⟩ := hrel
    by_cases hlt : (i : Int) < 256
    · have HP1 := Lib.hid (HP.out.below (HB2.out.trans (HBR.out.mono HB2.out.size)))
      have HK1 := Lib.hid (HK.out.below HBR.out HK.out.lt)
      go_wp2_with (at_builtin; go_must (refine wpList_app_own (base := wr.heap.size) (n := 0) (m := n) (xs := []) (news := l.map Go.Proofs.YtkalllenggmgoaaDoor.u8) rfl (.tmp 21) (.tmp 22) 26 rfl el22 rfl (own_none00 _ _) rfl (HP1.out.below ((Below.refl _ wr).alloc (Nat.le_refl _) _)).h (fun u hu => by obtain ⟨x9, _, rfl⟩ := List.mem_map.1 hu; rfl) (by have := HP1.out.mc; have h9 := HP1.out.cm; omega) (by omega) (by simp) ?_; intro v2 w2 hown hg hat; refine Hid.out ?_))
      have HO := Lib.hid hown
      have HBA := Lib.hid (below_own ((Below.refl _ wr).alloc (Nat.le_refl _) _) (by simp) (own_none00 wr 5) hg)
      clear hown hg hat
      refine Lib.hid ?_
      go_wp2_with (at_builtin; go_must (refine wpList_app_own (base := wr.heap.size) (n := 0 + n) (m := 1) (xs := [] ++ l.map Go.Proofs.YtkalllenggmgoaaDoor.u8) (news := [.int .u8 (i : Int)]) rfl (.tmp 23) (.tmp 26) 26 rfl el22 rfl (own_alloc HO.out) rfl (Holds.one _ _ _) (by simp [Value.oneCell']) (by unfold maxLen; omega) (by omega) (by have := HBA.out.size; simp; omega) ?_; intro v3 w3 hown hg hat; refine Hid.out ?_))
      have HB3 := Lib.hid (below_own (HBA.out.alloc HBA.out.size _) (by have := HBA.out.size; simp; omega) (own_alloc HO.out) hg)
      have hown2 : w3.ownsRow wr.heap.size 5 1 v3 (n + 1) ((l ++ [UInt8.ofNat i]).map Go.Proofs.YtkalllenggmgoaaDoor.u8) := by
        rw [List.map_append, List.map_cons, List.map_nil, u8_ofNat i hlt]
        have := hown
        rw [Nat.zero_add, List.nil_append] at this
        exact this
      obtain ⟨A3, c3, e3, rb3⟩ := own_rb hown2
      subst e3
      have C22B := Lib.hid (scan22_any A3 _ c3 _ lo w3 rb3 (by omega))
      clear hown hown2 hg hat rb3 HO HBA
      refine Lib.hid ?_
      rw [HY.out] at C22B
      simp only [] at C22B
      go_upto_region 9 with (go_at_call 22; (with_reducible refine (C22B.out).mono ?_); rintro e9 w4 ⟨rfl, hb⟩; have HB4 := Lib.hid hb; clear hb)
      obtain ⟨W5, hW5⟩ : ∃ W5, w4.alloc (.cells #[.int .i64 (e : Int), .int .i64 (0 : Int), .int .i64 (-1 : Int)] 43) = W5 := ⟨_, rfl⟩
      have hB4 : Below wr.heap.size wr w4 := HB3.out.trans (HB4.out.mono HB3.out.size)
      have hB5 : Below wr.heap.size wr W5 := hB4.trans (hW5 ▸ (Below.refl _ w4).alloc hB4.size _)
      have hk5 : Blk W5 w4.heap.size 43 #[.int .i64 (e : Int), .int .i64 (0 : Int), .int .i64 (-1 : Int)] := by rw [← hW5]; exact Blk.new w4 43 _
      rw [hW5]
      have hx5 := HK1.out.below hB5 HK1.out.lt
      have HB5 := Lib.hid hB5
      have y0 := hk5.cell 0
      have y1 := hk5.cell 1
      have y2 := hk5.cell 2
      have x0 := hx5.cell 0
      have x1 := hx5.cell 1
      have x2 := hx5.cell 2
      simp at y0 y1 y2 x0 x1 x2
      have hne := fun W => neq43 W (e) (0) (-1) (e) (0) (-1)
      simp at hne
      clear hB4 hB5 hk5 hx5 hW5
      generalize w4.heap.size = gy at *
      go_wp2_with fail
      go_roundw
      case rel => exact ⟨i + 1, la, lz, by omega, by go_num, by go_num, by go_num, by omega, by omega, Lib.hid (trivial), Lib.hid (HBR.out.trans (HB5.out.mono HBR.out.size))⟩
      case measure => simp [intOf]; omega
    · obtain rfl : i = 256 := by omega
      have HKE := Lib.hid (HK.out.below HBR.out HK.out.lt)
      have x0 := HKE.out.cell 0
      have x1 := HKE.out.cell 1
      have x2 := HKE.out.cell 2
      simp at x0 x1 x2
      have HBE := Lib.hid (HB2.out.trans (HBR.out.mono HB2.out.size))
      go_wp2_with (go_at_call 11; (with_reducible refine (known_any _).mono ?_); rintro e9 w9 ⟨rfl, hb9⟩; have HB9 := Lib.hid (HBE.out.trans (hb9.mono HBE.out.size)); clear hb9)
      go_ret
      exact ⟨rfl, HB9.out⟩

set_option maxRecDepth 100000 in
set_option maxHeartbeats 1000000 in
theorem goes_need (A : Option Addr) (n c : Nat) (l : List UInt8) (lo : Bool) (w : World) (h : RB w A n c l) (hn : (n : Int) ≤ 200) (k : Nat) (hx : scanR l lo = ⟨-1, (k : Int), -1⟩) (hk : k ≤ 10) (hy : GoC k l.length (fun c => scanR (l ++ [c]) lo)) :
    Calls Tryd.prog 8 #[.slice A n c, .bool lo] w fun e w' => e = .returned (.bool true) ∧ Below w.heap.size w w' := by
  have hln := h.len
  have hkI : (k : Int) ≤ 10 := by omega
  have hk0 : (0 : Int) < k := by have := hy.pos; omega
  rw [hln] at hy
  have C22 := Lib.hid (scan22_any A n c l lo w h (by omega))
  rw [hx] at C22
  simp only [] at C22
  have HY := Lib.hid hy
  have HP := Lib.hid h
  have HLN := Lib.hid hln
  clear hx hy h hln hk
  go_enter Tryd.func8, Tryd.ntmps8
  go_upto_region 4 with (go_at_call 22; (with_reducible refine (C22.out).mono ?_); rintro e9 w1 ⟨rfl, hb⟩; have HB1 := Lib.hid hb; clear hb)
  obtain ⟨W2, hW2⟩ : ∃ W2, w1.alloc (.cells #[.int .i64 (-1 : Int), .int .i64 (k : Int), .int .i64 (-1 : Int)] 43) = W2 := ⟨_, rfl⟩
  have hB2 : Below w.heap.size w W2 := HB1.out.trans (hW2 ▸ (Below.refl _ w1).alloc HB1.out.size _)
  have hk : Blk W2 w1.heap.size 43 #[.int .i64 (-1 : Int), .int .i64 (k : Int), .int .i64 (-1 : Int)] := by rw [← hW2]; exact Blk.new w1 43 _
  rw [hW2]
  have HB2 := Lib.hid hB2
  have HK := Lib.hid hk
  clear hB2 hk hW2
  generalize w1.heap.size = g at *
  go_upto_region 6 with fail
  go_loopw [8, 6, 7] (fun ii le ls wr => ∃ (i la lz : Nat), (i : Int) ≤ 256 ∧ ii = .int .i64 i ∧ le = .int .i64 (la : Int) ∧ ls = .int .i64 (lz : Int) ∧ (la : Int) ≤ i ∧ (lz : Int) ≤ i ∧ Hid (∀ c : UInt8, c.toNat < i → (scanR (l ++ [c]) lo = ⟨(n : Int) + 1, 0, -1⟩ ∧ k = 1 ∨ ∃ m : Nat, scanR (l ++ [c]) lo = ⟨-1, m, -1⟩ ∧ k = m + 1 ∧ 0 < m) → 0 < la ∧ 0 < lz) ∧ Hid (Below W2.heap.size W2 wr)) (fun ii _ _ _ => 256 - (intOf ii).toNat)
  case atStart => exact ⟨0, 0, 0, by omega, rfl, rfl, rfl, by omega, by omega, Lib.hid (fun _ h => absurd h (Nat.not_lt_zero _)), Lib.hid (Below.refl _ _)⟩
  case round =>
    obtain ⟨i, la, lz, hi, rfl, rfl, rfl, hla, hlz, HC, HBR⟩ := hrel
    by_cases hlt : (i : Int) < 256
    · have HP1 := Lib.hid (HP.out.below (HB2.out.trans (HBR.out.mono HB2.out.size)))
      have HK1 := Lib.hid (HK.out.below HBR.out HK.out.lt)
      go_wp2_with (at_builtin; go_must (refine wpList_app_own (base := wr.heap.size) (n := 0) (m := n) (xs := []) (news := l.map Go.Proofs.YtkalllenggmgoaaDoor.u8) rfl (.tmp 21) (.tmp 22) 26 rfl el22 rfl (own_none00 _ _) rfl (HP1.out.below ((Below.refl _ wr).alloc (Nat.le_refl _) _)).h (fun u hu => by obtain ⟨x9, _, rfl⟩ := List.mem_map.1 hu; rfl) (by have := HP1.out.mc; have h9 := HP1.out.cm; omega) (by omega) (by simp) ?_; intro v2 w2 hown hg hat; refine Hid.out ?_))
      have HO := Lib.hid hown
      have HBA := Lib.hid (below_own ((Below.refl _ wr).alloc (Nat.le_refl _) _) (by simp) (own_none00 wr 5) hg)
      clear hown hg hat
      refine Lib.hid ?_
      go_wp2_with (at_builtin; go_must (refine wpList_app_own (base := wr.heap.size) (n := 0 + n) (m := 1) (xs := [] ++ l.map Go.Proofs.YtkalllenggmgoaaDoor.u8) (news := [.int .u8 (i : Int)]) rfl (.tmp 23) (.tmp 26) 26 rfl el22 rfl (own_alloc HO.out) rfl (Holds.one _ _ _) (by simp [Value.oneCell']) (by unfold maxLen; omega) (by omega) (by have := HBA.out.size; simp; omega) ?_; intro v3 w3 hown hg hat; refine Hid.out ?_))
      have HB3 := Lib.hid (below_own (HBA.out.alloc HBA.out.size _) (by have := HBA.out.size; simp; omega) (own_alloc HO.out) hg)
      have hown2 : w3.ownsRow wr.heap.size 5 1 v3 (n + 1) ((l ++ [UInt8.ofNat i]).map Go.Proofs.YtkalllenggmgoaaDoor.u8) := by
        rw [List.map_append, List.map_cons, List.map_nil, u8_ofNat i hlt]
        have := hown
        rw [Nat.zero_add, List.nil_append] at this
        exact this
      obtain ⟨A3, c3, e3, rb3⟩ := own_rb hown2
      subst e3
      have C22B := Lib.hid (scan22_any A3 _ c3 _ lo w3 rb3 (by omega))
      clear hown hown2 hg hat rb3 HO HBA
      refine Lib.hid ?_
      have hy9 := HY.out.all (UInt8.ofNat i)
      try simp only [] at hy9
      rcases hy9 with hY | ⟨hY, hk1⟩ | ⟨m, hY, hk1, hm0⟩
      · rw [hY] at C22B
        have hcnt : ∀ c : UInt8, c.toNat < i + 1 → (scanR (l ++ [c]) lo = ⟨(n : Int) + 1, 0, -1⟩ ∧ k = 1 ∨ ∃ m : Nat, scanR (l ++ [c]) lo = ⟨-1, m, -1⟩ ∧ k = m + 1 ∧ 0 < m) → 0 < la ∧ 0 < lz := fun c hc hp => by
          rcases Nat.lt_or_ge c.toNat i with h9 | h9
          · exact HC.out c h9 hp
          · exfalso
            have e9 : c = UInt8.ofNat i := by apply UInt8.toNat_inj.1; simp; omega
            subst e9
            rw [hY] at hp
            rcases hp with ⟨h1, h3⟩ | ⟨m', h1, h3, h2⟩ <;> (injection h1 with p1 p2 p3; omega)
        have HCN := Lib.hid hcnt
        clear hY hcnt
        simp only [] at C22B
        go_upto_region 9 with (go_at_call 22; (with_reducible refine (C22B.out).mono ?_); rintro e9 w4 ⟨rfl, hb⟩; have HB4 := Lib.hid hb; clear hb)
        obtain ⟨W5, hW5⟩ : ∃ W5, w4.alloc (.cells #[.int .i64 (-1 : Int), .int .i64 (0 : Int), .int .i64 (n : Int)] 43) = W5 := ⟨_, rfl⟩
        have hB4 : Below wr.heap.size wr w4 := HB3.out.trans (HB4.out.mono HB3.out.size)
        have hB5 : Below wr.heap.size wr W5 := hB4.trans (hW5 ▸ (Below.refl _ w4).alloc hB4.size _)
        have hk5 : Blk W5 w4.heap.size 43 #[.int .i64 (-1 : Int), .int .i64 (0 : Int), .int .i64 (n : Int)] := by rw [← hW5]; exact Blk.new w4 43 _
        rw [hW5]
        have hx5 := HK1.out.below hB5 HK1.out.lt
        have HB5 := Lib.hid hB5
        have y0 := hk5.cell 0
        have y1 := hk5.cell 1
        have y2 := hk5.cell 2
        have x0 := hx5.cell 0
        have x1 := hx5.cell 1
        have x2 := hx5.cell 2
        simp at y0 y1 y2 x0 x1 x2
        have hne := fun W => neq43 W (-1) (0) (n) (-1) (k) (-1)
        clear hne
        clear hB4 hB5 hk5 hx5 hW5
        generalize w4.heap.size = gy at *
        go_wp2_with fail
        go_roundw
        case rel => exact ⟨i + 1, la, lz, by omega, by go_num, by go_num, by go_num, by omega, by omega, Lib.hid (HCN.out), Lib.hid (HBR.out.trans (HB5.out.mono HBR.out.size))⟩
        case measure => simp [intOf]; omega
      · rw [hY] at C22B
        have hkd : ((k : Int) != 1) = false := by simp [hk1]
        clear hY hk1
        simp only [] at C22B
        go_upto_region 9 with (go_at_call 22; (with_reducible refine (C22B.out).mono ?_); rintro e9 w4 ⟨rfl, hb⟩; have HB4 := Lib.hid hb; clear hb)
        obtain ⟨W5, hW5⟩ : ∃ W5, w4.alloc (.cells #[.int .i64 ((n : Int) + 1 : Int), .int .i64 (0 : Int), .int .i64 (-1 : Int)] 43) = W5 := ⟨_, rfl⟩
        have hB4 : Below wr.heap.size wr w4 := HB3.out.trans (HB4.out.mono HB3.out.size)
        have hB5 : Below wr.heap.size wr W5 := hB4.trans (hW5 ▸ (Below.refl _ w4).alloc hB4.size _)
        have hk5 : Blk W5 w4.heap.size 43 #[.int .i64 ((n : Int) + 1 : Int), .int .i64 (0 : Int), .int .i64 (-1 : Int)] := by rw [← hW5]; exact Blk.new w4 43 _
        rw [hW5]
        have hx5 := HK1.out.below hB5 HK1.out.lt
        have HB5 := Lib.hid hB5
        have y0 := hk5.cell 0
        have y1 := hk5.cell 1
        have y2 := hk5.cell 2
        have x0 := hx5.cell 0
        have x1 := hx5.cell 1
        have x2 := hx5.cell 2
        simp at y0 y1 y2 x0 x1 x2
        have hne := fun W => neq43 W ((n : Int) + 1) (0) (-1) (-1) (k) (-1)
        clear hne
        clear hB4 hB5 hk5 hx5 hW5
        generalize w4.heap.size = gy at *
        go_wp2_with fail
        go_roundw
        case rel => exact ⟨i + 1, la + 1, lz + 1, by omega, by go_num, by go_num, by go_num, by omega, by omega, Lib.hid (fun _ _ _ => ⟨by omega, by omega⟩), Lib.hid (HBR.out.trans (HB5.out.mono HBR.out.size))⟩
        case measure => simp [intOf]; omega
      · rw [hY] at C22B
        have hmI : (0 : Int) < m := by omega
        by_cases hkm : (m : Int) = k - 1
        · have hcc : ¬ (m : Int) < k - 1 := by omega
          have hkd : ((m : Int) == (k : Int) - 1) = true := by simp [hkm]
          clear hY hk1 hm0 hkm
          simp only [] at C22B
          go_upto_region 9 with (go_at_call 22; (with_reducible refine (C22B.out).mono ?_); rintro e9 w4 ⟨rfl, hb⟩; have HB4 := Lib.hid hb; clear hb)
          obtain ⟨W5, hW5⟩ : ∃ W5, w4.alloc (.cells #[.int .i64 (-1 : Int), .int .i64 (m : Int), .int .i64 (-1 : Int)] 43) = W5 := ⟨_, rfl⟩
          have hB4 : Below wr.heap.size wr w4 := HB3.out.trans (HB4.out.mono HB3.out.size)
          have hB5 : Below wr.heap.size wr W5 := hB4.trans (hW5 ▸ (Below.refl _ w4).alloc hB4.size _)
          have hk5 : Blk W5 w4.heap.size 43 #[.int .i64 (-1 : Int), .int .i64 (m : Int), .int .i64 (-1 : Int)] := by rw [← hW5]; exact Blk.new w4 43 _
          rw [hW5]
          have hx5 := HK1.out.below hB5 HK1.out.lt
          have HB5 := Lib.hid hB5
          have y0 := hk5.cell 0
          have y1 := hk5.cell 1
          have y2 := hk5.cell 2
          have x0 := hx5.cell 0
          have x1 := hx5.cell 1
          have x2 := hx5.cell 2
          simp at y0 y1 y2 x0 x1 x2
          have hne := fun W => neq43 W (-1) (m) (-1) (-1) (k) (-1)
          clear hne
          clear hB4 hB5 hk5 hx5 hW5
          generalize w4.heap.size = gy at *
          go_wp2_with fail
          go_roundw
          case rel => exact ⟨i + 1, la + 1, lz + 1, by omega, by go_num, by go_num, by go_num, by omega, by omega, Lib.hid (fun _ _ _ => ⟨by omega, by omega⟩), Lib.hid (HBR.out.trans (HB5.out.mono HBR.out.size))⟩
          case measure => simp [intOf]; omega
        · have hcc : ¬ (m : Int) < k - 1 := by omega
          have hcnt : ∀ c : UInt8, c.toNat < i + 1 → (scanR (l ++ [c]) lo = ⟨(n : Int) + 1, 0, -1⟩ ∧ k = 1 ∨ ∃ m : Nat, scanR (l ++ [c]) lo = ⟨-1, m, -1⟩ ∧ k = m + 1 ∧ 0 < m) → 0 < la + 1 ∧ 0 < lz := fun c hc hp => by
            rcases Nat.lt_or_ge c.toNat i with h9 | h9
            · exact ⟨by omega, (HC.out c h9 hp).2⟩
            · exfalso
              have e9 : c = UInt8.ofNat i := by apply UInt8.toNat_inj.1; simp; omega
              subst e9
              rw [hY] at hp
              rcases hp with ⟨h1, h3⟩ | ⟨m', h1, h3, h2⟩ <;> (injection h1 with p1 p2 p3; omega)
          have HCN := Lib.hid hcnt
          have hkd : ((m : Int) == (k : Int) - 1) = false := by simp [hkm]
          clear hY hcnt hk1 hm0 hkm
          simp only [] at C22B
          go_upto_region 9 with (go_at_call 22; (with_reducible refine (C22B.out).mono ?_); rintro e9 w4 ⟨rfl, hb⟩; have HB4 := Lib.hid hb; clear hb)
          obtain ⟨W5, hW5⟩ : ∃ W5, w4.alloc (.cells #[.int .i64 (-1 : Int), .int .i64 (m : Int), .int .i64 (-1 : Int)] 43) = W5 := ⟨_, rfl⟩
          have hB4 : Below wr.heap.size wr w4 := HB3.out.trans (HB4.out.mono HB3.out.size)
          have hB5 : Below wr.heap.size wr W5 := hB4.trans (hW5 ▸ (Below.refl _ w4).alloc hB4.size _)
          have hk5 : Blk W5 w4.heap.size 43 #[.int .i64 (-1 : Int), .int .i64 (m : Int), .int .i64 (-1 : Int)] := by rw [← hW5]; exact Blk.new w4 43 _
          rw [hW5]
          have hx5 := HK1.out.below hB5 HK1.out.lt
          have HB5 := Lib.hid hB5
          have y0 := hk5.cell 0
          have y1 := hk5.cell 1
          have y2 := hk5.cell 2
          have x0 := hx5.cell 0
          have x1 := hx5.cell 1
          have x2 := hx5.cell 2
          simp at y0 y1 y2 x0 x1 x2
          have hne := fun W => neq43 W (-1) (m) (-1) (-1) (k) (-1)
          clear hne
          clear hB4 hB5 hk5 hx5 hW5
          generalize w4.heap.size = gy at *
          go_wp2_with fail
          go_roundw
          case rel => exact ⟨i + 1, la + 1, lz, by omega, by go_num, by go_num, by go_num, by omega, by omega, Lib.hid (HCN.out), Lib.hid (HBR.out.trans (HB5.out.mono HBR.out.size))⟩
          case measure => simp [intOf]; omega
    · obtain rfl : i = 256 := by omega
      have HKE := Lib.hid (HK.out.below HBR.out HK.out.lt)
      obtain ⟨c0, hp⟩ := HY.out.one
      obtain ⟨p1, p2⟩ := HC.out c0 (by have := c0.toNat_lt; omega) hp
      have p3 : (0 : Int) < la := by omega
      have p4 : (0 : Int) < lz := by omega
      clear hp p1 p2
      have x0 := HKE.out.cell 0
      have x1 := HKE.out.cell 1
      have x2 := HKE.out.cell 2
      simp at x0 x1 x2
      have HBE := Lib.hid (HB2.out.trans (HBR.out.mono HB2.out.size))
      go_wp2_with (go_at_call 11; (with_reducible refine (known_any _).mono ?_); rintro e9 w9 ⟨rfl, hb9⟩; have HB9 := Lib.hid (HBE.out.trans (hb9.mono HBE.out.size)); clear hb9)
      go_ret
      exact ⟨rfl, HB9.out⟩

set_option maxRecDepth 100000 in
set_option maxHeartbeats 1000000 in
theorem goes_law (A : Option Addr) (n c : Nat) (l : List UInt8) (lo : Bool) (w : World) (h : RB w A n c l) :
    Calls Tryd.prog 8 #[.slice A n c, .bool lo] w fun e w' => e = .returned (.bool true) ∧ Below w.heap.size w w' := by
  by_cases hn : (n : Int) ≤ 200
  · rcases goes l lo with ⟨a, h1, h2, h3⟩ | ⟨e, h1, h2, h3⟩ | ⟨k, h1, h2, h3⟩
    · exact goes_bad A n c l lo w h hn a h1 h2 h3
    · exact goes_end A n c l lo w h hn e h1 h2 h3
    · exact goes_need A n c l lo w h hn k h1 h2 h3
  · have hb : (200 : Int) < n := by omega
    clear hn
    go_enter Tryd.func8, Tryd.ntmps8
    go_wp2_with (go_at_call 11; (with_reducible refine (known_any _).mono ?_); rintro e9 w9 ⟨rfl, hb9⟩; have HB9 := Lib.hid hb9; clear hb9)
    go_ret
    exact ⟨rfl, HB9.out⟩

end Go.Proofs.YtkalllenggmgoaaDoor
