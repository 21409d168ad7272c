/- The walk of VarintGoes, case 5. -/
import Derived.Test.YtbimolbiccmdiaaKn
import Derived.Test.YtbimolbiccmdiaaGoP
import Derived.Test.YtbimolbiccmdiaaLaw3
import Derived.Test.YtbimolbiccmdiaaL3
namespace Go.Proofs.Ytbimolbiccmdiaa
open Go.RowKit

set_option maxRecDepth 100000 in
set_option maxHeartbeats 4000000 in
theorem goes_law5 (A : Option Addr) (n c : Nat) (l : List UInt8) (loose : Bool) (lo hi : Int) (w : World) (hl : l.length = n) (hc : n ≤ c) (hb : BS w w.heap.size A l) (hn : (n : Int) ≤ 6) (hlo : 0 ≤ lo) (hlh : lo ≤ hi) (hhi : hi < 34359738368) (rv rm re : Int) (hrs : readS l loose = (rv, rm, re)) (hre : re = 0) (hrm : rm = (n : Int)) (hv : lo ≤ rv) (hv2 : rv ≤ hi) :
    Calls Try.prog 9 #[.slice A n c, .bool loose, .agg #[.int .i64 lo, .int .i64 hi]] w fun e w' => e = .returned (.bool true) ∧ Below w.heap.size w w' := by
  have bb : Below w.heap.size w (w.alloc (.cells #[.int .i64 lo, .int .i64 hi] 44)) := (Below.refl _ _).alloc (Nat.le_refl _) _
  have c1 := begins_any A n c l loose lo hi _ hl (by omega) hc ((hb.below bb).more bb.size)
  have c2 := fun W (hW : Below w.heap.size w W) => read_any A n c w.heap.size l loose W hl (by omega) hc (hb.below hW)
  have hp := goes_plain (l := l) (loose := loose) hlo hlh hhi
  have hok := begins_ok2 (l := l) (loose := loose) hlo hlh hhi
  rw [hl] at hp
  rcases hbs : beginsS l loose lo hi with ⟨b1, z1⟩
  rw [hbs] at c1 hp hok
  rw [hrs] at c2 hp
  simp only at hok hp
  subst hok
  simp only [tupB] at c1
  simp only [tup3] at c2
  subst hre
  subst hrm
  have d3 : decide (rv ≥ lo) = true := by simp; omega
  have d4 : decide (rv ≤ hi) = true := by simp; omega
  simp only [hv, hv2, true_and, and_true, true_or, iff_true] at hp
  clear hv hv2
  have BB := Lib.hid bb
  have C1 := Lib.hid c1
  have CR := Lib.hid c2
  have HP := Lib.hid hp
  have HA := Lib.hid (hb.holds hl)
  have H1 := Lib.hid (u8_one l)
  have HN := Lib.hid hn
  have HL := Lib.hid hl
  clear c1 c2 hb hc bb hbs hrs hp hl
  go_enter Try.func9, Try.ntmps9
  go_wp2_with fail
  (with_reducible refine C1.out.mono ?_); rintro e w1 ⟨rfl, b1'⟩
  have B1 := Lib.hid (BB.out.trans (b1'.mono BB.out.size))
  have blk : Blk w1 w.heap.size 44 #[.int .i64 lo, .int .i64 hi] := (Blk.new w _ _).below b1' (by simp)
  have e0 := blk.cell 0
  have e1 := blk.cell 1
  have BLK := Lib.hid blk
  have HSZ := Lib.hid (show w.heap.size < w1.heap.size from blk.lt)
  clear b1' blk
  simp at e0 e1
  go_wp2_with (first | (go_at_call 14; (with_reducible refine (CR.out _ B1.out).mono ?_); rintro e w' ⟨rfl, rfl⟩))
  go_loopw [13, 14, 15, 16] (fun g i _ _ wr => ∃ (k : Nat) (gb : Bool), k ≤ 256 ∧ i = .int .i64 k ∧ g = .bool gb ∧ Hid (gb = true ↔ ∃ y : Nat, y < k ∧ (beginsS (l ++ [UInt8.ofNat y]) loose lo hi).1 = true) ∧ Hid (Below w.heap.size w wr) ∧ Hid (Blk wr w.heap.size 44 #[.int .i64 lo, .int .i64 hi]) ∧ w.heap.size < wr.heap.size) (fun _ i _ _ _ => 256 - (intOf i).toNat)
  case atStart => exact ⟨0, false, by omega, rfl, rfl, ⟨fun h => (by cases h), fun ⟨y, hy, _⟩ => absurd hy (by omega)⟩, B1.out, BLK.out, HSZ.out⟩
  case round =>
    obtain ⟨k, gb, hk, rfl, rfl, HG, HBW, HBL, hsz⟩ := hrel
    by_cases hlt : (k : Int) < 256
    · have e0 := HBL.out.cell 0
      have e1 := HBL.out.cell 1
      simp at e0 e1
      have hk0 : (0 : Int) ≤ (k : Int) := by omega
      have hconv := u8_ofNat k (by omega)
      obtain ⟨b2, hb2⟩ : ∃ b2, (beginsS (l ++ [UInt8.ofNat k]) loose lo hi).1 = b2 := ⟨_, rfl⟩
      have hbs : beginsS (l ++ [UInt8.ofNat k]) loose lo hi = (b2, 0) := by rw [← hb2, ← begins_ok2 (l := l ++ [UInt8.ofNat k]) (loose := loose) hlo hlh hhi]
      have HBS := Lib.hid hbs
      have HB2 := Lib.hid hb2
      have HCV := Lib.hid hconv
      clear hbs hb2 hconv
      cases gb with
      | true =>
        go_wp2_with fail
        go_region_held3 (fun w' => w'.cell? ⟨w.heap.size, 0, none⟩ = some (.int .i64 lo) ∧ w'.cell? ⟨w.heap.size, 1, none⟩ = some (.int .i64 hi))
          (first | go_keep | exact HEE.out | exact ⟨e0, e1⟩)
          (first
            | ((refine step_app_own (base := wr.heap.size) (n := 0) (m := n) (xs := []) (news := l.map u8) rfl (.tmp 71) (.tmp 72) 22 rfl el22 rfl (own_drew (own_none00 wr 5)) rfl (Holds.drew ((HA.out.keep HBW.out).alloc _)) H1.out (by have := HN.out; unfold maxLen; omega) (by have := HN.out; omega) (by simp; try omega) ?_); (go_must (intro v1 w1 hown1 hg1 _; have bw1 := below_own (below_drew ((Below.refl wr.heap.size wr).alloc (Nat.le_refl _) _)) (by simp; try omega) (own_drew (own_none00 wr 5)) hg1; have HEE := Lib.hid (show w1.cell? ⟨w.heap.size, 0, none⟩ = some (.int .i64 lo) ∧ w1.cell? ⟨w.heap.size, 1, none⟩ = some (.int .i64 hi) from ⟨(bw1.cell (p := ⟨w.heap.size, 0, none⟩) hsz).trans e0, (bw1.cell (p := ⟨w.heap.size, 1, none⟩) hsz).trans e1⟩); have HW1 := Lib.hid bw1; clear bw1; (rw [Nat.zero_add, List.nil_append] at hown1); clear hg1; obtain ⟨A1, k1, rfl, f1, f2, f3, f4⟩ := own_form hown1; clear f1 f2 f3 f4)))
            | ((refine step_app_own (base := wr.heap.size) (n := 0) (m := n) (xs := []) (news := l.map u8) rfl (.tmp 71) (.tmp 72) 22 rfl el22 rfl (own_drew (own_alloc (own_none00 wr 5))) rfl (Holds.drew (((HA.out.keep HBW.out).alloc _).alloc _)) H1.out (by have := HN.out; unfold maxLen; omega) (by have := HN.out; omega) (by simp; try omega) ?_); (go_must (intro v1 w1 hown1 hg1 _; have bw1 := below_own (below_drew (((Below.refl wr.heap.size wr).alloc (Nat.le_refl _) _).alloc (by simp) _)) (by simp; try omega) (own_drew (own_alloc (own_none00 wr 5))) hg1; have HEE := Lib.hid (show w1.cell? ⟨w.heap.size, 0, none⟩ = some (.int .i64 lo) ∧ w1.cell? ⟨w.heap.size, 1, none⟩ = some (.int .i64 hi) from ⟨(bw1.cell (p := ⟨w.heap.size, 0, none⟩) hsz).trans e0, (bw1.cell (p := ⟨w.heap.size, 1, none⟩) hsz).trans e1⟩); have HW1 := Lib.hid bw1; clear bw1; (rw [Nat.zero_add, List.nil_append] at hown1); have HK1 := Lib.hid ((Holds.drew (Holds.one1 wr (.cells #[] 5) (.int .u8 (IntKind.u8.wrap (k : Int))) 5)).grown hg1 (by show some (wr.heap.size + 1) ≠ some wr.heap.size; simp)); clear hg1; obtain ⟨A1, k1, rfl, f1, f2, f3, f4⟩ := own_form hown1; clear f1 f2 f3 f4)))
            | ((refine step_app_own (base := wr.heap.size) (n := 0) (m := n) (xs := []) (news := l.map u8) rfl (.tmp 71) (.tmp 72) 22 rfl el22 rfl (own_drew (own_none1 wr (.cells #[.int .u8 (IntKind.u8.wrap (k : Int))] 5) 5)) rfl (Holds.drew (((HA.out.keep HBW.out).alloc _).alloc _)) H1.out (by have := HN.out; unfold maxLen; omega) (by have := HN.out; omega) (by simp; try omega) ?_); (go_must (intro v1 w1 hown1 hg1 _; have bw1 := below_own (below_drew (((Below.refl wr.heap.size wr).alloc (Nat.le_refl _) _).alloc (by simp) _)) (by simp; try omega) (own_drew (own_none1 wr (.cells #[.int .u8 (IntKind.u8.wrap (k : Int))] 5) 5)) hg1; have HEE := Lib.hid (show w1.cell? ⟨w.heap.size, 0, none⟩ = some (.int .i64 lo) ∧ w1.cell? ⟨w.heap.size, 1, none⟩ = some (.int .i64 hi) from ⟨(bw1.cell (p := ⟨w.heap.size, 0, none⟩) hsz).trans e0, (bw1.cell (p := ⟨w.heap.size, 1, none⟩) hsz).trans e1⟩); have HW1 := Lib.hid bw1; clear bw1; (rw [Nat.zero_add, List.nil_append] at hown1); have HK1 := Lib.hid ((Holds.drew ((Holds.one wr (.int .u8 (IntKind.u8.wrap (k : Int))) 5).alloc (.cells #[] 5))).grown hg1 (by show some wr.heap.size ≠ some (wr.heap.size + 1); simp)); clear hg1; obtain ⟨A1, k1, rfl, f1, f2, f3, f4⟩ := own_form hown1; clear f1 f2 f3 f4)))
            | ((refine step_app_own (base := wr.heap.size) (v := .slice A1 n k1) (n := n) (m := 1) (xs := l.map u8) (A := some ⟨w1.heap.size, 0, none⟩) (news := [.int .u8 (IntKind.u8.wrap (k : Int))]) rfl (.tmp 73) (.tmp 76) 22 rfl el22 rfl (own_alloc hown1) rfl (Holds.one _ _ _) (by simp [Value.oneCell']) (by have := HN.out; unfold maxLen; omega) (by have := HN.out; omega) (by have := HW1.out.size; simp; try omega) ?_); (go_must (intro v2 w2 hown2 hg2 _; have bw2 := below_own (HW1.out.alloc HW1.out.size _) (by have := HW1.out.size; simp; try omega) (own_alloc hown1) hg2; have HEE := Lib.hid (show w2.cell? ⟨w.heap.size, 0, none⟩ = some (.int .i64 lo) ∧ w2.cell? ⟨w.heap.size, 1, none⟩ = some (.int .i64 hi) from ⟨(bw2.cell (p := ⟨w.heap.size, 0, none⟩) hsz).trans e0, (bw2.cell (p := ⟨w.heap.size, 1, none⟩) hsz).trans e1⟩); have HW2 := Lib.hid bw2; clear bw2 hown1 hg2; obtain ⟨A2, k2, rfl, f1, f2, f3, f4⟩ := own_form hown2; rw [wrap_u8_id (k := k) (by omega), ← HCV.out, ← map_snoc] at hown2; have HF1 := Lib.hid f1; have HF2 := Lib.hid (own_BS hown2); clear f1 f2 f3 f4 hown2)))
            | ((refine step_app_own (base := wr.heap.size) (v := .slice A1 n k1) (n := n) (m := 1) (xs := l.map u8) (news := [.int .u8 (IntKind.u8.wrap (k : Int))]) rfl (.tmp 73) (.tmp 76) 22 rfl el22 rfl hown1 rfl HK1.out (by simp [Value.oneCell']) (by have := HN.out; unfold maxLen; omega) (by have := HN.out; omega) (by have := HW1.out.size; simp; try omega) ?_); (go_must (intro v2 w2 hown2 hg2 _; have bw2 := below_own HW1.out (by have := HW1.out.size; simp; try omega) hown1 hg2; have HEE := Lib.hid (show w2.cell? ⟨w.heap.size, 0, none⟩ = some (.int .i64 lo) ∧ w2.cell? ⟨w.heap.size, 1, none⟩ = some (.int .i64 hi) from ⟨(bw2.cell (p := ⟨w.heap.size, 0, none⟩) hsz).trans e0, (bw2.cell (p := ⟨w.heap.size, 1, none⟩) hsz).trans e1⟩); have HW2 := Lib.hid bw2; clear bw2 hown1 hg2; obtain ⟨A2, k2, rfl, f1, f2, f3, f4⟩ := own_form hown2; rw [wrap_u8_id (k := k) (by omega), ← HCV.out, ← map_snoc] at hown2; have HF1 := Lib.hid f1; have HF2 := Lib.hid (own_BS hown2); clear f1 f2 f3 f4 hown2)))
            | (go_at_call 18; (go_must ((with_reducible refine (begins_any A2 (n + 1) k2 (l ++ [UInt8.ofNat k]) loose lo hi w2 (by have := HL.out; simp; omega) (by have := HN.out; omega) HF1.out HF2.out).mono ?_); rintro e w3 ⟨he, hb3⟩; simp only [HBS.out, tupB] at he; subst he; have hb4 := HW2.out.trans (hb3.mono HW2.out.size); have HBW5 := Lib.hid (HBW.out.trans (hb4.mono HBW.out.size)); have HBL5 := Lib.hid (HBL.out.below hb4 hsz); have HSZ5 := Lib.hid (show wr.heap.size ≤ w3.heap.size from hb4.size); have HEE := Lib.hid (show w3.cell? ⟨w.heap.size, 0, none⟩ = some (.int .i64 lo) ∧ w3.cell? ⟨w.heap.size, 1, none⟩ = some (.int .i64 hi) from ⟨HBL5.out.cell 0, HBL5.out.cell 1⟩); clear hb3 hb4))))
        go_wp2
        all_goals
          refine ⟨⟨k + 1, true, by omega, by simp, rfl, ⟨fun _ => ?_, fun _ => rfl⟩, HBW5.out, HBL5.out, by have := HSZ5.out; omega⟩, by simp [intOf]; omega⟩
          obtain ⟨y, hy, h⟩ := HG.out.1 (by simp)
          exact ⟨y, by omega, h⟩
      | false =>
        go_wp2_with fail
        go_region_held3 (fun w' => w'.cell? ⟨w.heap.size, 0, none⟩ = some (.int .i64 lo) ∧ w'.cell? ⟨w.heap.size, 1, none⟩ = some (.int .i64 hi))
          (first | go_keep | exact HEE.out | exact ⟨e0, e1⟩)
          (first
            | ((refine step_app_own (base := wr.heap.size) (n := 0) (m := n) (xs := []) (news := l.map u8) rfl (.tmp 71) (.tmp 72) 22 rfl el22 rfl (own_drew (own_none00 wr 5)) rfl (Holds.drew ((HA.out.keep HBW.out).alloc _)) H1.out (by have := HN.out; unfold maxLen; omega) (by have := HN.out; omega) (by simp; try omega) ?_); (go_must (intro v1 w1 hown1 hg1 _; have bw1 := below_own (below_drew ((Below.refl wr.heap.size wr).alloc (Nat.le_refl _) _)) (by simp; try omega) (own_drew (own_none00 wr 5)) hg1; have HEE := Lib.hid (show w1.cell? ⟨w.heap.size, 0, none⟩ = some (.int .i64 lo) ∧ w1.cell? ⟨w.heap.size, 1, none⟩ = some (.int .i64 hi) from ⟨(bw1.cell (p := ⟨w.heap.size, 0, none⟩) hsz).trans e0, (bw1.cell (p := ⟨w.heap.size, 1, none⟩) hsz).trans e1⟩); have HW1 := Lib.hid bw1; clear bw1; (rw [Nat.zero_add, List.nil_append] at hown1); clear hg1; obtain ⟨A1, k1, rfl, f1, f2, f3, f4⟩ := own_form hown1; clear f1 f2 f3 f4)))
            | ((refine step_app_own (base := wr.heap.size) (n := 0) (m := n) (xs := []) (news := l.map u8) rfl (.tmp 71) (.tmp 72) 22 rfl el22 rfl (own_drew (own_alloc (own_none00 wr 5))) rfl (Holds.drew (((HA.out.keep HBW.out).alloc _).alloc _)) H1.out (by have := HN.out; unfold maxLen; omega) (by have := HN.out; omega) (by simp; try omega) ?_); (go_must (intro v1 w1 hown1 hg1 _; have bw1 := below_own (below_drew (((Below.refl wr.heap.size wr).alloc (Nat.le_refl _) _).alloc (by simp) _)) (by simp; try omega) (own_drew (own_alloc (own_none00 wr 5))) hg1; have HEE := Lib.hid (show w1.cell? ⟨w.heap.size, 0, none⟩ = some (.int .i64 lo) ∧ w1.cell? ⟨w.heap.size, 1, none⟩ = some (.int .i64 hi) from ⟨(bw1.cell (p := ⟨w.heap.size, 0, none⟩) hsz).trans e0, (bw1.cell (p := ⟨w.heap.size, 1, none⟩) hsz).trans e1⟩); have HW1 := Lib.hid bw1; clear bw1; (rw [Nat.zero_add, List.nil_append] at hown1); have HK1 := Lib.hid ((Holds.drew (Holds.one1 wr (.cells #[] 5) (.int .u8 (IntKind.u8.wrap (k : Int))) 5)).grown hg1 (by show some (wr.heap.size + 1) ≠ some wr.heap.size; simp)); clear hg1; obtain ⟨A1, k1, rfl, f1, f2, f3, f4⟩ := own_form hown1; clear f1 f2 f3 f4)))
            | ((refine step_app_own (base := wr.heap.size) (n := 0) (m := n) (xs := []) (news := l.map u8) rfl (.tmp 71) (.tmp 72) 22 rfl el22 rfl (own_drew (own_none1 wr (.cells #[.int .u8 (IntKind.u8.wrap (k : Int))] 5) 5)) rfl (Holds.drew (((HA.out.keep HBW.out).alloc _).alloc _)) H1.out (by have := HN.out; unfold maxLen; omega) (by have := HN.out; omega) (by simp; try omega) ?_); (go_must (intro v1 w1 hown1 hg1 _; have bw1 := below_own (below_drew (((Below.refl wr.heap.size wr).alloc (Nat.le_refl _) _).alloc (by simp) _)) (by simp; try omega) (own_drew (own_none1 wr (.cells #[.int .u8 (IntKind.u8.wrap (k : Int))] 5) 5)) hg1; have HEE := Lib.hid (show w1.cell? ⟨w.heap.size, 0, none⟩ = some (.int .i64 lo) ∧ w1.cell? ⟨w.heap.size, 1, none⟩ = some (.int .i64 hi) from ⟨(bw1.cell (p := ⟨w.heap.size, 0, none⟩) hsz).trans e0, (bw1.cell (p := ⟨w.heap.size, 1, none⟩) hsz).trans e1⟩); have HW1 := Lib.hid bw1; clear bw1; (rw [Nat.zero_add, List.nil_append] at hown1); have HK1 := Lib.hid ((Holds.drew ((Holds.one wr (.int .u8 (IntKind.u8.wrap (k : Int))) 5).alloc (.cells #[] 5))).grown hg1 (by show some wr.heap.size ≠ some (wr.heap.size + 1); simp)); clear hg1; obtain ⟨A1, k1, rfl, f1, f2, f3, f4⟩ := own_form hown1; clear f1 f2 f3 f4)))
            | ((refine step_app_own (base := wr.heap.size) (v := .slice A1 n k1) (n := n) (m := 1) (xs := l.map u8) (A := some ⟨w1.heap.size, 0, none⟩) (news := [.int .u8 (IntKind.u8.wrap (k : Int))]) rfl (.tmp 73) (.tmp 76) 22 rfl el22 rfl (own_alloc hown1) rfl (Holds.one _ _ _) (by simp [Value.oneCell']) (by have := HN.out; unfold maxLen; omega) (by have := HN.out; omega) (by have := HW1.out.size; simp; try omega) ?_); (go_must (intro v2 w2 hown2 hg2 _; have bw2 := below_own (HW1.out.alloc HW1.out.size _) (by have := HW1.out.size; simp; try omega) (own_alloc hown1) hg2; have HEE := Lib.hid (show w2.cell? ⟨w.heap.size, 0, none⟩ = some (.int .i64 lo) ∧ w2.cell? ⟨w.heap.size, 1, none⟩ = some (.int .i64 hi) from ⟨(bw2.cell (p := ⟨w.heap.size, 0, none⟩) hsz).trans e0, (bw2.cell (p := ⟨w.heap.size, 1, none⟩) hsz).trans e1⟩); have HW2 := Lib.hid bw2; clear bw2 hown1 hg2; obtain ⟨A2, k2, rfl, f1, f2, f3, f4⟩ := own_form hown2; rw [wrap_u8_id (k := k) (by omega), ← HCV.out, ← map_snoc] at hown2; have HF1 := Lib.hid f1; have HF2 := Lib.hid (own_BS hown2); clear f1 f2 f3 f4 hown2)))
            | ((refine step_app_own (base := wr.heap.size) (v := .slice A1 n k1) (n := n) (m := 1) (xs := l.map u8) (news := [.int .u8 (IntKind.u8.wrap (k : Int))]) rfl (.tmp 73) (.tmp 76) 22 rfl el22 rfl hown1 rfl HK1.out (by simp [Value.oneCell']) (by have := HN.out; unfold maxLen; omega) (by have := HN.out; omega) (by have := HW1.out.size; simp; try omega) ?_); (go_must (intro v2 w2 hown2 hg2 _; have bw2 := below_own HW1.out (by have := HW1.out.size; simp; try omega) hown1 hg2; have HEE := Lib.hid (show w2.cell? ⟨w.heap.size, 0, none⟩ = some (.int .i64 lo) ∧ w2.cell? ⟨w.heap.size, 1, none⟩ = some (.int .i64 hi) from ⟨(bw2.cell (p := ⟨w.heap.size, 0, none⟩) hsz).trans e0, (bw2.cell (p := ⟨w.heap.size, 1, none⟩) hsz).trans e1⟩); have HW2 := Lib.hid bw2; clear bw2 hown1 hg2; obtain ⟨A2, k2, rfl, f1, f2, f3, f4⟩ := own_form hown2; rw [wrap_u8_id (k := k) (by omega), ← HCV.out, ← map_snoc] at hown2; have HF1 := Lib.hid f1; have HF2 := Lib.hid (own_BS hown2); clear f1 f2 f3 f4 hown2)))
            | (go_at_call 18; (go_must ((with_reducible refine (begins_any A2 (n + 1) k2 (l ++ [UInt8.ofNat k]) loose lo hi w2 (by have := HL.out; simp; omega) (by have := HN.out; omega) HF1.out HF2.out).mono ?_); rintro e w3 ⟨he, hb3⟩; simp only [HBS.out, tupB] at he; subst he; have hb4 := HW2.out.trans (hb3.mono HW2.out.size); have HBW5 := Lib.hid (HBW.out.trans (hb4.mono HBW.out.size)); have HBL5 := Lib.hid (HBL.out.below hb4 hsz); have HSZ5 := Lib.hid (show wr.heap.size ≤ w3.heap.size from hb4.size); have HEE := Lib.hid (show w3.cell? ⟨w.heap.size, 0, none⟩ = some (.int .i64 lo) ∧ w3.cell? ⟨w.heap.size, 1, none⟩ = some (.int .i64 hi) from ⟨HBL5.out.cell 0, HBL5.out.cell 1⟩); clear hb3 hb4))))
        go_wp2
        all_goals
          refine ⟨⟨k + 1, b2, by omega, by simp, rfl, ⟨fun h => ⟨k, by omega, by rw [HB2.out]; exact h⟩, ?_⟩, HBW5.out, HBL5.out, by have := HSZ5.out; omega⟩, by simp [intOf]; omega⟩
          rintro ⟨y, hy, h⟩
          rcases Nat.lt_or_ge y k with h1 | h1
          · exact absurd (HG.out.2 ⟨y, h1, h⟩) (by simp)
          · obtain rfl : y = k := by omega
            rw [HB2.out] at h; exact h
    · obtain rfl : k = 256 := by omega
      have hgo : gb = true ↔ goesB l loose lo hi := HG.out.trans ⟨fun ⟨y, _, h⟩ => ⟨_, h⟩, fun ⟨x, h⟩ => ⟨x.toNat, x.toNat_lt, by simpa using h⟩⟩
      clear hlt
      have hp := HP.out
      rw [← hgo] at hp
      clear hgo HG
      cases gb <;> cases b1 <;> simp at hp <;> (go_wp2_with (go_at_call 10; (with_reducible refine (known_any _).mono ?_); rintro e w5 ⟨rfl, b5⟩; have HB6 := Lib.hid (HBW.out.trans (b5.mono HBW.out.size)); clear b5); go_ret; exact ⟨rfl, HB6.out⟩)
  
end Go.Proofs.Ytbimolbiccmdiaa
