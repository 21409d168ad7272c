/- The walk of VarintWrites. -/
import Derived.Test.YtbimolbiccmdiaaKn
import Derived.Test.YtbimolbiccmdiaaLaw2
namespace Go.Proofs.Ytbimolbiccmdiaa
open Go.RowKit

theorem el22 : El Try.prog 22 5 1 := El.mk' (z := .int .u8 0) Try.underlying22 (by kernel_rfl) rfl
def zeros40 : Array Value := Array.replicate 40 (.int .u8 0)
theorem make40 (w : World) : (Instr.makeSlice 22 (.int .i64 0) (.int .i64 40)).run Try.prog w = .ok (.slice (some ⟨w.heap.size, 0, none⟩) 0 40) (w.alloc (.cells zeros40 5)) := by kernel_rfl

theorem seven_at {w wr w4 : World} {n k : Nat} {l : List UInt8} (h : wr.ownsRow w.heap.size 5 1 (.slice (some ⟨w.heap.size, 0, none⟩) 40 40) 40 (l.map u8 ++ List.replicate (40 - n) (.int .u8 7))) (hl : l.length = n) (hn : n ≤ k) (hk : k < 40) (hb : Below wr.heap.size wr w4) :
    w4.cell? ⟨w.heap.size, k, none⟩ = some (.int .u8 7) := by
  have hx := h.cells (g := w.heap.size) rfl k (.int .u8 7) (by
    rw [List.getElem?_append_right (by simp; omega), List.getElem?_replicate, if_pos (by simp; omega)])
  rw [Addr.add_lit, Nat.zero_add] at hx
  rw [hb.cell (World.block_lt_of_cell? _ _ hx)]
  exact hx

set_option maxRecDepth 100000 in
set_option maxHeartbeats 2000000 in
theorem writes_law (A : Option Addr) (n c : Nat) (l : List UInt8) (v : Int) (w : World) (hl : l.length = n) (_ : n ≤ c) (_ : c ≤ maxLen) (hb : BS w w.heap.size A l) (_ : (Lit.int .i64 v).wf = true) :
    Calls Try.prog 3 #[.slice A n c, .int .i64 v] w fun e w' => e = .returned (.bool true) ∧ Below w.heap.size w w' := by
  by_cases hn : (n : Int) ≤ 20
  · have HL := Lib.hid hl
    have HB := Lib.hid (hb.holds hl)
    clear hl hb
    have hmk := make40
    have H1 := Lib.hid (u8_one l)
    go_enter Try.func3, Try.ntmps3
    go_wp2_with (first
      | (at_builtin; obtain ⟨w1, hrun, hown, hg⟩ := run_app_fits (ty := 22) el22 (base := w.heap.size) (g := w.heap.size) (cap := 40) (c := c) (World.ownsRow_made w zeros40 40 (Nat.le_refl _) (by decide) (by decide)) (HB.out.keep ((Below.refl _ w).alloc (Nat.le_refl _) _)) H1.out (by omega); simp only [Nat.zero_add, List.nil_append] at hown; have HO := Lib.hid hown; have HG := Lib.hid hg; clear hown hg; go_must (refine wpList_run rfl (.tmp 19) (.tmp 20) 22 rfl rfl rfl hrun ?_)))
    clear hrun hmk
    have HBW := Lib.hid (((Below.refl w.heap.size w).alloc (Nat.le_refl _) (.cells zeros40 5)).grown HG.out (by simp) (fun k hk => by cases hk; exact Nat.le_refl _))
    have hn40 : n ≤ 40 := by omega
    go_loopw [7] (fun i wr => ∃ k : Nat, n ≤ k ∧ k ≤ 40 ∧ i = .int .i64 k ∧ wr.ownsRow w.heap.size 5 1 (.slice (some ⟨w.heap.size, 0, none⟩) k 40) k (l.map u8 ++ List.replicate (k - n) (.int .u8 7)) ∧ Below w.heap.size w wr) (fun i _ => 40 - (intOf i).toNat)
    case atStart => exact ⟨n, Nat.le_refl _, hn40, rfl, by simpa using HO.out, HBW.out⟩
    case round =>
      obtain ⟨k, hnk, hk40, rfl, hown, hbw⟩ := hrel
      have HO2 := Lib.hid hown
      have HBW2 := Lib.hid hbw
      clear hown hbw
      by_cases hlt : (k : Int) < 40
      · obtain ⟨old, hcell, hfr⟩ := own_spare (k := k) HO2.out (by omega)
        go_wp2
        refine ⟨⟨k + 1, by omega, by omega, by simp, ?_, HBW2.out.setCell (by simp) _⟩, by simp [intOf]; omega⟩
        have := own_push HO2.out (by omega) (.int .u8 7)
        rw [List.append_assoc] at this
        rw [show k + 1 - n = (k - n) + 1 by omega, List.replicate_succ']
        exact this
      · obtain rfl : k = 40 := by omega
        clear hlt HO HG HBW
        go_wp2_with fail
        have hold := holds_own (own_prefix HO2.out (show n ≤ 40 by omega))
        rw [List.take_left' (by simp [HL.out])] at hold
        have HOLD := Lib.hid hold
        clear hold
        by_cases hva : 0 ≤ v ∧ v < 34359738368
        · obtain ⟨h0, h1⟩ := hva
          obtain ⟨vn, rfl⟩ := Int.eq_ofNat_of_zero_le h0
          have HVN := Lib.hid (show vn < 34359738368 by omega)
          clear h0 h1
          (with_reducible refine (append_yes _ n 40 vn _ _ HOLD.out (by omega) (by omega) HVN.out).mono ?_); rintro e w2 ⟨val, rfl, hown, hb2⟩
          obtain ⟨g1, cap1, rfl, -⟩ := own_holds hown (by omega)
          have HC := Lib.hid hown
          have HB2 := Lib.hid hb2
          clear hown hb2
          go_wp2_with fail
          (with_reducible refine (len_yes vn _ HVN.out).mono ?_); rintro e w3 ⟨rfl, hb3⟩
          have HB3 := Lib.hid hb3
          clear hb3
          go_wp2_with fail
          (with_reducible refine (rwrite_yes vn _ HVN.out).mono ?_); rintro e w4 ⟨val2, rfl, hown, hb4⟩
          obtain ⟨g2, cap2, rfl, -⟩ := own_holds hown (by omega)
          have HW := Lib.hid hown
          have HB4 := Lib.hid (HB2.out.trans ((HB3.out.trans (hb4.mono HB3.out.size)).mono HB2.out.size))
          have HC4 := Lib.hid ((holds_own HC.out).keep (HB3.out.trans (hb4.mono HB3.out.size)))
          clear hown hb4
          have HBA := Lib.hid (HBW2.out.trans (HB4.out.mono HBW2.out.size))
          have s1 := conv_bs (P := Try.prog) w4 22 9 5 Try.underlying22 Try.underlying5 Try.underlying9 (n := n + (k0 vn + 1)) (c := cap1) (l := l ++ formB vn (k0 vn)) (by simp [formB_length, HL.out]) (by rw [List.map_append]; exact HC4.out)
          have s2 := conv_bs (P := Try.prog) w4 22 9 5 Try.underlying22 Try.underlying5 Try.underlying9 (c := c) HL.out (HB.out.keep HBA.out)
          have s3 := conv_bs (P := Try.prog) w4 22 9 5 Try.underlying22 Try.underlying5 Try.underlying9 (c := cap2) (l := formB vn (k0 vn)) (by simp [formB_length]) (holds_own HW.out)
          have s4 := conv_bs (P := Try.prog) w4 22 9 5 Try.underlying22 Try.underlying5 Try.underlying9 (c := 40) HL.out (HOLD.out.keep HB4.out)
          rw [str_append] at s1
          have hz2 : (⟨l.toArray⟩ : ByteArray).size ≤ 20 := by have := HL.out; simp [ByteArray.size]; omega
          have hz3 : (⟨(formB vn (k0 vn)).toArray⟩ : ByteArray).size ≤ 5 := by have := k0_le vn; simp [ByteArray.size, formB_length]; omega
          generalize (⟨l.toArray⟩ : ByteArray) = S2 at *
          generalize (⟨(formB vn (k0 vn)).toArray⟩ : ByteArray) = S3 at *
          go_wp2_with fail
          clear s1 s2 s3 s4 hz2 hz3
          go_loop [14] (fun i => ∃ k : Nat, n ≤ k ∧ k ≤ 40 ∧ i = .int .i64 k) (fun i => 40 - (intOf i).toNat)
          case atStart => exact ⟨n, Nat.le_refl _, hn40, rfl⟩
          case round =>
            obtain ⟨k, hnk', hk', rfl⟩ := hrel
            by_cases hlt : (k : Int) < 40
            · have hcell : w4.cell? ⟨w.heap.size, k, none⟩ = some (.int .u8 7) := seven_at HO2.out HL.out hnk' (by omega) HB4.out
              go_wp2
              go_round
              case rel => exact ⟨k + 1, by omega, by omega, by simp⟩
              case measure => simp [intOf]; omega
            · go_wp2_with (first | (go_at_call 10; (with_reducible refine (known_any _).mono ?_); rintro e w5 ⟨rfl, b5⟩; have B5 := Lib.hid b5; clear b5))
              go_ret
              exact ⟨rfl, HBA.out.trans (B5.out.mono HBA.out.size)⟩
        · have HVA := Lib.hid (show v < 0 ∨ 34359738368 ≤ v by omega)
          clear hva
          (with_reducible refine (append_no _ n 40 v _ HVA.out).mono ?_); rintro e w2 ⟨rfl, hb2⟩
          have HB2 := Lib.hid hb2
          clear hb2
          go_wp2_with fail
          (with_reducible refine (len_no v _ HVA.out).mono ?_); rintro e w4 ⟨rfl, hb3⟩
          have HB4 := Lib.hid (HB2.out.trans (hb3.mono HB2.out.size))
          clear hb3
          go_wp2_with fail
          (with_reducible refine (rwrite_no v _ HVA.out).mono ?_); rintro e w5 ⟨rfl, rfl⟩
          have HBA := Lib.hid (HBW2.out.trans (HB4.out.mono HBW2.out.size))
          have s2 := conv_bs (P := Try.prog) w4 22 9 5 Try.underlying22 Try.underlying5 Try.underlying9 (c := c) HL.out (HB.out.keep HBA.out)
          have s4 := conv_bs (P := Try.prog) w4 22 9 5 Try.underlying22 Try.underlying5 Try.underlying9 (c := 40) HL.out (HOLD.out.keep HB4.out)
          generalize (⟨l.toArray⟩ : ByteArray) = S2 at *
          go_wp2_with fail
          clear s2 s4
          go_loop [14] (fun i => ∃ k : Nat, n ≤ k ∧ k ≤ 40 ∧ i = .int .i64 k) (fun i => 40 - (intOf i).toNat)
          case atStart => exact ⟨n, Nat.le_refl _, hn40, rfl⟩
          case round =>
            obtain ⟨k, hnk', hk', rfl⟩ := hrel
            by_cases hlt : (k : Int) < 40
            · have hcell : w4.cell? ⟨w.heap.size, k, none⟩ = some (.int .u8 7) := seven_at HO2.out HL.out hnk' (by omega) HB4.out
              go_wp2
              go_round
              case rel => exact ⟨k + 1, by omega, by omega, by simp⟩
              case measure => simp [intOf]; omega
            · go_wp2_with (first | (go_at_call 10; (with_reducible refine (known_any _).mono ?_); rintro e w5 ⟨rfl, b5⟩; have B5 := Lib.hid b5; clear b5))
              go_ret
              exact ⟨rfl, HBA.out.trans (B5.out.mono HBA.out.size)⟩
  · clear hl hb
    go_enter Try.func3, Try.ntmps3
    go_wp2_with (first | (go_at_call 10; (with_reducible refine (known_any _).mono ?_); rintro e w5 ⟨rfl, b5⟩; have B5 := Lib.hid b5; clear b5))
    go_ret
    exact ⟨rfl, B5.out⟩
end Go.Proofs.Ytbimolbiccmdiaa
