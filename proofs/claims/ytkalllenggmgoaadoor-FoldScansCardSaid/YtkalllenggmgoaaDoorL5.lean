/- The walk of FoldScans. -/
import Derived.Test.YtkalllenggmgoaaDoorFu
namespace Go.Proofs.YtkalllenggmgoaaDoor
open Go.RowKit
set_option linter.unusedVariables false
set_option linter.unusedSimpArgs false

set_option maxRecDepth 100000 in
set_option maxHeartbeats 1000000 in
theorem scans_law (A : Option Addr) (n c : Nat) (l : List UInt8) (lo : Bool) (w : World) (h : RB w A n c l) :
    Calls Tryd.prog 5 #[.slice A n c, .bool lo] w fun e w' => e = .returned (.bool true) ∧ Below w.heap.size w w' := by
  have HP := Lib.hid h
  have hm : (n : Int) ≤ 9223372036854775807 := by have := h.mc; have h9 := h.cm; unfold maxLen at h9; omega
  clear h
  go_enter Tryd.func5, Tryd.ntmps5
  by_cases hbig : (300 : Int) < n
  · go_wp2_with (go_at_call 11; (with_reducible refine (known_any _).mono ?_); rintro e9 w9 ⟨rfl, hb9⟩; have HB9 := Lib.hid hb9; clear hb9)
    go_ret
    exact ⟨rfl, HB9.out⟩
  · have hn3 : (n : Int) ≤ 300 := by omega
    clear hm hbig
    go_wp2_with fail
    obtain ⟨N1, hN1⟩ : ∃ N1, n + 1 = N1 := ⟨_, rfl⟩
    go_loopw [5] (fun ii wr => ∃ i : Nat, (i : Int) ≤ n + 1 ∧ ii = .int .i64 i ∧ Hid (Below w.heap.size w wr)) (fun ii _ => N1 - (intOf ii).toNat)
    case atStart => exact ⟨0, by omega, rfl, Lib.hid (Below.refl _ _)⟩
    case round =>
      obtain ⟨i, hi, rfl, HBR⟩ := hrel
      by_cases hlt : (i : Int) ≤ n
      · obtain ⟨A', c', hrun, hrb, -⟩ := slice_to wr A n c i l (HP.out.below HBR.out) (by omega)
        have C22 := Lib.hid (scan22_any A' i c' (l.take i) lo wr hrb (by omega))
        have C23 := Lib.hid (fun (w2 : World) (hb : Below wr.heap.size wr w2) => rscan_any A' i c' (l.take i) lo w2 (hrb.below hb) (by omega))
        unfold ScdV at C23
        generalize scanR (l.take i) lo = sc at C22 C23
        obtain ⟨se, sn, sa⟩ := sc
        clear hrb
        go_upto_region 7 with ((go_at_call 22; (with_reducible refine C22.out.mono ?_); rintro e9 w1 ⟨rfl, hb⟩; have HB1 := Lib.hid hb; clear hb))
        obtain ⟨W2, hW2⟩ : ∃ W2, w1.alloc (.cells #[.int .i64 se, .int .i64 sn, .int .i64 sa] 43) = W2 := ⟨_, rfl⟩
        have hB2 : Below wr.heap.size wr W2 := HB1.out.trans (hW2 ▸ (Below.refl _ w1).alloc HB1.out.size _)
        have hk : Blk W2 w1.heap.size 43 #[.int .i64 se, .int .i64 sn, .int .i64 sa] := by rw [← hW2]; exact Blk.new w1 43 _
        rw [hW2]
        have HB2 := Lib.hid hB2
        have HK := Lib.hid hk
        clear hB2 hk hW2
        generalize w1.heap.size = g at *
        go_upto_region 8 with (go_at_call 23; (with_reducible refine (C23.out _ HB2.out).mono ?_); rintro e9 w3 ⟨rfl, hb⟩; have HK3 := Lib.hid (HK.out.below hb HK.out.lt); have HB3 := Lib.hid (HB2.out.trans (hb.mono HB2.out.size)); clear hb)
        have y0 := HK3.out.cell 0
        have y1 := HK3.out.cell 1
        have y2 := HK3.out.cell 2
        simp at y0 y1 y2
        go_wp2_with fail
        go_roundw
        case rel => exact ⟨i + 1, by omega, by go_num, Lib.hid (HBR.out.trans (HB3.out.mono HBR.out.size))⟩
        case measure => simp [intOf]; omega
      · go_wp2_with (go_at_call 11; (with_reducible refine (known_any _).mono ?_); rintro e9 w9 ⟨rfl, hb9⟩; have HB9 := Lib.hid (HBR.out.trans (hb9.mono HBR.out.size)); clear hb9)
        go_ret
        exact ⟨rfl, HB9.out⟩

end Go.Proofs.YtkalllenggmgoaaDoor
