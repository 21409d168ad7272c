/- reads, scans; known. -/
import Derived.Test.YtkalllenggmgoaaDoorFt
import Derived.Lib.SlBytesConst
namespace Go.Proofs.YtkalllenggmgoaaDoor
open Go.RowKit
set_option linter.unusedVariables false
set_option linter.unusedSimpArgs false

theorem read_any (A : Option Addr) (n c : Nat) (l : List UInt8) (lo : Bool) (W : World) (h : RB W A n c l) (hn : n ≤ 1000000) : Calls Tryd.prog 20 #[.slice A n c, .bool lo] W (ReadE l lo W) := by
  rcases ends l lo with ⟨h1, p, r⟩ | ⟨h1, p, r⟩ | ⟨nm, ln, h1, lo', nn, r⟩
  · by_cases hlt : ((scanF l lo).2.place : Int) + 1 < n
    · exact read_long A n c l lo W h hn _ hlt r
    · refine read_ok A n c l lo W h hn ?_
      rw [r]
      have := h.len
      congr 1
      omega
  · exact read_bad A n c l lo W h hn _ (by omega) r
  · exact read_short A n c l lo W h hn _ (by omega) r
theorem eq43 (W : World) (a b c x y z : Int) : (binOp .eql 43 (.agg #[.int .i64 a, .int .i64 b, .int .i64 c]) (.agg #[.int .i64 x, .int .i64 y, .int .i64 z])).run Tryd.prog W = .ok (.bool ((a == x) && ((b == y) && (c == z)))) W := by
  have hp : Tryd.prog.stoodInHeld 43 = false := by kernel_rfl
  have ht : Tryd.prog.underlying 43 = some (.struct (Tryd.prog.fieldsOf 43)) := by kernel_rfl
  rw [run_eql_struct, run_equalIn_agg W _ 43 _ _ ht hp]
  unfold Program.fieldsOf
  rw [Tryd.underlying43]
  have h3 := Tryd.underlying3
  simp [go_sem, part, Op.eqFields]
  by_cases h1 : a = x <;> by_cases h2 : b = y <;> by_cases h3 : c = z <;> simp [h1, h2, h3]
set_option maxRecDepth 100000 in
set_option maxHeartbeats 1000000 in
theorem scans_yes (l : List UInt8) (lo : Bool) (e n a : Int) (W : World) (hl : l.length ≤ 1000000) (h : scanR l lo = ⟨e, n, a⟩) :
    Calls Tryd.prog 29 #[.string ⟨l.toArray⟩, .bool lo, .int .i64 e, .int .i64 n, .int .i64 a] W fun e w' => e = .returned (.bool true) ∧ Below W.heap.size W w' := by
  obtain ⟨cap, W1, hcv, hr, hb, hlt⟩ := conv_sr W l hl
  have C22 := Lib.hid (scan22_any _ _ cap l lo W1 hr hl)
  rw [h] at C22
  have HB := Lib.hid hb
  have hq := fun W => eq43 W e n a e n a
  simp only [beq_self_eq_true, Bool.and_self] at hq
  generalize (⟨l.toArray⟩ : ByteArray) = sb at *
  clear hr hb hlt h hl
  go_enter Tryd.func29, Tryd.ntmps29
  go_wp2_with (go_at_call 22; (with_reducible refine C22.out.mono ?_); rintro e9 w1 ⟨rfl, hb⟩; have HB1 := Lib.hid (HB.out.trans (hb.mono HB.out.size)); clear hb)
  go_ret
  exact ⟨rfl, HB1.out⟩
def HAt1 (b o k : Nat) (sn st : ByteArray) (W : World) : Prop := W.cell? ⟨b, o, none⟩ = some (.string sn) ∧ W.cell? ⟨b, o + 1, none⟩ = some (.string st) ∧ W.cell? ⟨k, 0, none⟩ = some (.string sn) ∧ W.cell? ⟨k, 1, none⟩ = some (.string st)
set_option maxRecDepth 100000 in
set_option maxHeartbeats 1000000 in
theorem reads_one (l : List UInt8) (lo : Bool) (nm tx : List UInt8) (k : Nat) (W : World) (hk : Blk W k 9 #[.string ⟨nm.toArray⟩, .string ⟨tx.toArray⟩]) (h : readF l lo = (0, [⟨nm, tx⟩])) (hl : l.length ≤ 1000000) :
    Calls Tryd.prog 28 #[.string ⟨l.toArray⟩, .bool lo, .slice (some ⟨k, 0, none⟩) 2 2] W fun e w' => e = .returned (.bool true) ∧ Below W.heap.size W w' := by
  obtain ⟨cap, W1, hcv, hr, hb, hlt⟩ := conv_sr W l hl
  have C20 := Lib.hid (read_any _ _ cap l lo W1 hr hl)
  unfold ReadE at C20
  rw [h] at C20
  have HB := Lib.hid hb
  have HK := Lib.hid (hk.below hb hk.lt)
  generalize (⟨l.toArray⟩ : ByteArray) = sb at *
  generalize hsn : (⟨nm.toArray⟩ : ByteArray) = sn at *
  generalize hst : (⟨tx.toArray⟩ : ByteArray) = st at *
  have HSN := Lib.hid hsn
  have HST := Lib.hid hst
  clear hr hb hlt h hl hk hsn hst
  go_enter Tryd.func28, Tryd.ntmps28
  go_wp2_with (go_at_call 20; (with_reducible refine C20.out.mono ?_); rintro e9 w1 ⟨v1, rfl, hown, hb⟩; have HB1 := Lib.hid (HB.out.trans (hb.mono HB.out.size)); obtain ⟨A1, c1, e1, -, -, -, hp⟩ := own_formS hown; subst e1; have HO := Lib.hid hown; have HK1 := Lib.hid (HK.out.below hb HK.out.lt); have HP := Lib.hid hp; clear hb hown hp)
  go_loopw [9] (fun ii wr => ∃ i : Nat, (i : Int) ≤ 1 ∧ ii = .int .i64 i ∧ Hid (Below w1.heap.size w1 wr)) (fun ii _ => 1 - (intOf ii).toNat)
  case atStart => exact ⟨0, by omega, rfl, Lib.hid (Below.refl _ _)⟩
  case round =>
    obtain ⟨i, hi, rfl, HBR⟩ := hrel
    by_cases hlt : (i : Int) < 1
    · obtain rfl : i = 0 := by omega
      obtain ⟨g, rfl, -⟩ := HP.out (by simp)
      have hh := HoldsS.own HO.out
      have x0 : w1.cell? ⟨g, 0, none⟩ = some (.string sn) := by
        have := hh.2.2 _ rfl 0 (.string sn) (by rw [← HSN.out]; rfl)
        rwa [Addr.add_lit] at this
      have x1 : w1.cell? ⟨g, 1, none⟩ = some (.string st) := by
        have := hh.2.2 _ rfl 1 (.string st) (by rw [← HST.out]; rfl)
        rwa [Addr.add_lit] at this
      have key : ∀ {a : Addr} {u : Value}, w1.cell? a = some u → wr.cell? a = some u := fun h => (HBR.out.cell (World.block_lt_of_cell? _ _ h)).trans h
      have y0 := key x0
      have y1 := key x1
      have z0 : wr.cell? ⟨k, 0, none⟩ = some (.string sn) := key (HK1.out.cell 0)
      have z1 : wr.cell? ⟨k, 1, none⟩ = some (.string st) := key (HK1.out.cell 1)
      clear x0 x1 key hh
      go_upto_region 7 with fail
      go_quiet (fail)
      go_wp2_with fail
      go_roundw
      case rel => exact ⟨1, by omega, rfl, Lib.hid (below_drewN HBR.out _)⟩
      case measure => simp [intOf]
    · obtain rfl : i = 1 := by omega
      go_wp2_with fail
      go_ret
      exact ⟨rfl, HB1.out.trans (HBR.out.mono HB1.out.size)⟩
theorem RB.litF (w : World) (l : List UInt8) (m : Nat) (fr : Nat × Nat) (cs : Array Value) (hc : cs = (l.map Go.Proofs.YtkalllenggmgoaaDoor.u8).toArray) (hl : l.length = m) (hm : m ≤ 1000) : RB (w.alloc (.cells cs 5 fr)) (some ⟨w.heap.size, 0, none⟩) m m l := by
  refine ⟨hl, ⟨by simp [hl], fun h => (by cases h), fun b hb j u hj => ?_⟩, Nat.le_refl _, by unfold maxLen; omega, fun h => by cases h⟩
  cases hb
  rw [Addr.add_lit, Nat.zero_add]
  have h1 : (w.alloc (.cells cs 5 fr)).heap[w.heap.size]? = some (.cells cs 5 fr) := World.alloc_heap_new w _
  unfold World.cell?
  simp only [h1]
  subst hc
  simpa using hj

def lK : List Hd := [⟨[65], [98, 32, 99]⟩, ⟨[68], []⟩]
theorem kw1 : validL lK = true := by decide +kernel
theorem kw2 : writeL lK = [65, 58, 32, 98, 32, 99, 13, 10, 68, 58, 32, 13, 10, 13, 10] := by decide +kernel
theorem kr0 : readF [65, 58, 98, 13, 10, 13, 10] false = (6, []) := by decide +kernel
theorem kr1 : readF [65, 58, 98, 13, 10, 13, 10] true = (0, [⟨[65], [98]⟩]) := by decide +kernel
theorem kr2 : readF [65, 58, 32, 98, 13, 10, 32, 99, 13, 10, 13, 10] true = (0, [⟨[65], [98, 32, 99]⟩]) := by decide +kernel
theorem ks0 : scanR [65, 58, 32, 98, 13, 10, 13, 10, 120] false = ⟨8, 0, -1⟩ := by decide +kernel
theorem ks1 : scanR [65, 58, 32, 98, 13, 10] false = ⟨-1, 2, -1⟩ := by decide +kernel
theorem ks2 : scanR [65, 58, 32] false = ⟨-1, 4, -1⟩ := by decide +kernel
theorem ks3 : scanR [65] false = ⟨-1, 6, -1⟩ := by decide +kernel
theorem ks4 : scanR [65, 58, 98] false = ⟨-1, 0, 2⟩ := by decide +kernel
theorem ks5 : scanR [] false = ⟨-1, 2, -1⟩ := by decide +kernel
theorem ks6 : scanR [65] true = ⟨-1, 5, -1⟩ := by decide +kernel
theorem ks7 : scanR [65, 58] true = ⟨-1, 4, -1⟩ := by decide +kernel
theorem ks8 : scanR [65, 58, 32, 98, 13, 10, 32] true = ⟨-1, 4, -1⟩ := by decide +kernel
theorem ks9 : scanR [65, 32] true = ⟨-1, 0, 1⟩ := by decide +kernel

set_option maxRecDepth 100000 in
set_option maxHeartbeats 4000000 in
theorem known_any (w : World) : Calls Tryd.prog 11 #[] w fun e w' => e = .returned (.bool true) ∧ Below w.heap.size w w' := by
  obtain ⟨W1, hW1⟩ : ∃ W1, w.alloc (.cells #[.string { data := #[65] }, .string { data := #[98, 32, 99] }, .string { data := #[68] }, .string { data := #[] }] 25) = W1 := ⟨_, rfl⟩
  have hb1 : Below w.heap.size w W1 := hW1 ▸ (Below.refl _ w).alloc (Nat.le_refl _) _
  have hl1 : HL W1 (some ⟨w.heap.size, 0, none⟩) 2 2 lK := by
    rw [← hW1]
    exact ⟨rfl, HoldsS.new w 2 2 [.string { data := #[65] }, .string { data := #[98, 32, 99] }, .string { data := #[68] }, .string { data := #[] }] 25 rfl, Nat.le_refl _, by unfold maxLen; omega, fun h => by cases h⟩
  have hsm : Small lK := fun h hh => by
    simp [lK] at hh
    rcases hh with rfl | rfl <;> simp
  have C12 := Lib.hid (write_ok _ 2 2 lK W1 hl1 hsm kw1)
  unfold Fresh at C12
  rw [kw2] at C12
  have C13 := Lib.hid (fun (w2 : World) (hb : Below W1.heap.size W1 w2) => length_ok _ 2 2 lK w2 (hl1.below hb) hsm kw1)
  rw [kw2] at C13
  have HW1 := Lib.hid hW1
  have HB1 := Lib.hid hb1
  clear hW1 hb1 hl1 hsm
  go_enter Tryd.func11, Tryd.ntmps11
  go_upto_region 2 with fail
  rw [HW1.out]
  go_upto_region 3 with (go_at_call 12; (with_reducible refine C12.out.mono ?_); rintro e w2 ⟨v2, rfl, ho, hb⟩; obtain ⟨A2, c2, e2, -⟩ := own_form ho; subst e2; have HO := Lib.hid ho; have HB12 := Lib.hid hb; clear ho hb)
  go_upto_region 4 with (go_at_call 13; (with_reducible refine (C13.out _ HB12.out).mono ?_); rintro e w3 ⟨rfl, hb⟩; have HO3 := Lib.hid (own_keeps HO.out fun g hg => hb.block g (own_lt HO.out g hg)); have HB3 := Lib.hid ((HB1.out.trans (HB12.out.mono HB1.out.size)).trans (hb.mono (HB1.out.trans (HB12.out.mono HB1.out.size)).size)); clear hb)
  have hcv := Lib.run_convert_bytes_const (P := Tryd.prog) w3 26 5 #[.int .u8 65, .int .u8 58, .int .u8 98, .int .u8 13, .int .u8 10, .int .u8 13, .int .u8 10] 7 7 Tryd.underlying26 Tryd.underlying5
  have hr4 : RB (w3.alloc (.cells #[.int .u8 65, .int .u8 58, .int .u8 98, .int .u8 13, .int .u8 10, .int .u8 13, .int .u8 10] 5 (7, 8))) (some ⟨w3.heap.size, 0, none⟩) 7 7 [65, 58, 98, 13, 10, 13, 10] := RB.litF w3 _ 7 _ _ rfl rfl (by omega)
  have C20 := Lib.hid (read_any _ 7 7 _ false _ hr4 (by omega))
  unfold ReadE at C20
  rw [kr0] at C20
  have HB4 := Lib.hid ((Below.refl w3.heap.size w3).alloc (Nat.le_refl _) (.cells #[.int .u8 65, .int .u8 58, .int .u8 98, .int .u8 13, .int .u8 10, .int .u8 13, .int .u8 10] 5 (7, 8)))
  clear hr4
  go_upto_region 5 with (go_at_call 20; (with_reducible refine C20.out.mono ?_); rintro e w5 ⟨v5, rfl, ho, hb⟩; obtain ⟨A5, c5, e5, -⟩ := own_formS ho; subst e5; have HB35 := Lib.hid (HB4.out.trans (hb.mono HB4.out.size)); clear ho hb)
  have u5 := conv_RB (own_RB3 (own_keeps HO3.out fun g hg => HB35.out.block g (own_lt HO3.out g hg)))
  have u5' : (convert 26 9 (.slice A2 15 c2)).run Tryd.prog w5 = .ok (.string { data := #[65, 58, 32, 98, 32, 99, 13, 10, 68, 58, 32, 13, 10, 13, 10] }) w5 := u5
  have HBW := Lib.hid (HB3.out.trans (HB35.out.mono HB3.out.size))
  clear u5 hcv
  go_upto_region 7 with (first | (go_at_call 28; (with_reducible refine (reads_one [65, 58, 98, 13, 10, 13, 10] true [65] [98] _ _ (Blk.new _ 9 _) kr1 (by decide)).mono ?_); rintro e9 w9 ⟨rfl, hb9⟩; replace HBW := Lib.hid ((HBW.out.alloc HBW.out.size _).trans (hb9.mono (HBW.out.alloc HBW.out.size _).size)); clear hb9) | (go_at_call 28; (with_reducible refine (reads_one [65, 58, 32, 98, 13, 10, 32, 99, 13, 10, 13, 10] true [65] [98, 32, 99] _ _ (Blk.new _ 9 _) kr2 (by decide)).mono ?_); rintro e9 w9 ⟨rfl, hb9⟩; replace HBW := Lib.hid ((HBW.out.alloc HBW.out.size _).trans (hb9.mono (HBW.out.alloc HBW.out.size _).size)); clear hb9))
  clear u5'
  go_wp2_with (first | (go_at_call 29; (with_reducible refine (scans_yes [65, 58, 32, 98, 13, 10, 13, 10, 120] false (8) 0 (-1) _ (by decide) ks0).mono ?_); rintro e9 w9 ⟨rfl, hb9⟩; replace HBW := Lib.hid (HBW.out.trans (hb9.mono HBW.out.size)); clear hb9) | (go_at_call 29; (with_reducible refine (scans_yes [65, 58, 32, 98, 13, 10] false (-1) 2 (-1) _ (by decide) ks1).mono ?_); rintro e9 w9 ⟨rfl, hb9⟩; replace HBW := Lib.hid (HBW.out.trans (hb9.mono HBW.out.size)); clear hb9) | (go_at_call 29; (with_reducible refine (scans_yes [65, 58, 32] false (-1) 4 (-1) _ (by decide) ks2).mono ?_); rintro e9 w9 ⟨rfl, hb9⟩; replace HBW := Lib.hid (HBW.out.trans (hb9.mono HBW.out.size)); clear hb9) | (go_at_call 29; (with_reducible refine (scans_yes [65] false (-1) 6 (-1) _ (by decide) ks3).mono ?_); rintro e9 w9 ⟨rfl, hb9⟩; replace HBW := Lib.hid (HBW.out.trans (hb9.mono HBW.out.size)); clear hb9) | (go_at_call 29; (with_reducible refine (scans_yes [65, 58, 98] false (-1) 0 (2) _ (by decide) ks4).mono ?_); rintro e9 w9 ⟨rfl, hb9⟩; replace HBW := Lib.hid (HBW.out.trans (hb9.mono HBW.out.size)); clear hb9) | (go_at_call 29; (with_reducible refine (scans_yes [] false (-1) 2 (-1) _ (by decide) ks5).mono ?_); rintro e9 w9 ⟨rfl, hb9⟩; replace HBW := Lib.hid (HBW.out.trans (hb9.mono HBW.out.size)); clear hb9) | (go_at_call 29; (with_reducible refine (scans_yes [65] true (-1) 5 (-1) _ (by decide) ks6).mono ?_); rintro e9 w9 ⟨rfl, hb9⟩; replace HBW := Lib.hid (HBW.out.trans (hb9.mono HBW.out.size)); clear hb9) | (go_at_call 29; (with_reducible refine (scans_yes [65, 58] true (-1) 4 (-1) _ (by decide) ks7).mono ?_); rintro e9 w9 ⟨rfl, hb9⟩; replace HBW := Lib.hid (HBW.out.trans (hb9.mono HBW.out.size)); clear hb9) | (go_at_call 29; (with_reducible refine (scans_yes [65, 58, 32, 98, 13, 10, 32] true (-1) 4 (-1) _ (by decide) ks8).mono ?_); rintro e9 w9 ⟨rfl, hb9⟩; replace HBW := Lib.hid (HBW.out.trans (hb9.mono HBW.out.size)); clear hb9) | (go_at_call 29; (with_reducible refine (scans_yes [65, 32] true (-1) 0 (1) _ (by decide) ks9).mono ?_); rintro e9 w9 ⟨rfl, hb9⟩; replace HBW := Lib.hid (HBW.out.trans (hb9.mono HBW.out.size)); clear hb9))
  go_ret
  exact ⟨rfl, HBW.out⟩
end Go.Proofs.YtkalllenggmgoaaDoor
