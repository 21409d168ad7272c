/- The contract of slices.Repeat of one number, eight times. -/
import Derived.Test.YtbfejjjdolfcfaaMul
import Derived.Test.YtbfejjjdolfcfaaBl2
import Derived.Test.YtbfejjjdolfcfaaOrd
import Derived.Laws.CopyOwn
namespace Go.Proofs.Ytbfejjjdolfcfaa
open Go.RowKit
set_option linter.unusedVariables false
set_option linter.unusedSimpArgs false

theorem make8 (w : World) : (Instr.makeSlice 29 (.int .i64 8) (.int .i64 8)).run Try.prog w = .ok (.slice (some ⟨w.heap.size, 0, none⟩) 8 8) (w.alloc (.cells #[.int .i64 0, .int .i64 0, .int .i64 0, .int .i64 0, .int .i64 0, .int .i64 0, .int .i64 0, .int .i64 0] 3)) := by kernel_rfl
theorem holds_pre {w : World} {g : Nat} {t : TypeId} {cs : Array Value} (h : Blk w g t cs) (n : Nat) (vs : List Value) (hv : cs.toList.take n = vs) : Holds w (some ⟨g, 0, none⟩) vs.length vs :=
  ⟨by omega, fun h => (by cases h), fun b hb j u hu => by
    cases hb
    rw [Addr.add_lit, Nat.zero_add, h.cell]
    rw [← hv, List.getElem?_take] at hu
    split at hu
    · simpa using hu
    · cases hu⟩
def RepS (w : World) (h : Nat) (key : Int) (nn : Value) (wr : World) : Prop := ((nn = .int .i64 1 ∧ Blk wr h 3 #[.int .i64 key, .int .i64 0, .int .i64 0, .int .i64 0, .int .i64 0, .int .i64 0, .int .i64 0, .int .i64 0]) ∨ (nn = .int .i64 2 ∧ Blk wr h 3 #[.int .i64 key, .int .i64 key, .int .i64 0, .int .i64 0, .int .i64 0, .int .i64 0, .int .i64 0, .int .i64 0]) ∨ (nn = .int .i64 4 ∧ Blk wr h 3 #[.int .i64 key, .int .i64 key, .int .i64 key, .int .i64 key, .int .i64 0, .int .i64 0, .int .i64 0, .int .i64 0]) ∨ (nn = .int .i64 8 ∧ Blk wr h 3 #[.int .i64 key, .int .i64 key, .int .i64 key, .int .i64 key, .int .i64 key, .int .i64 key, .int .i64 key, .int .i64 key])) ∧ Below h w wr

set_option maxRecDepth 100000 in
set_option maxHeartbeats 2000000 in
theorem repeat_any (h0 : Nat) (key : Int) (w : World) (hb0 : Blk w h0 3 #[.int .i64 key]) : Calls Try.prog 37 #[.slice (some ⟨h0, 0, none⟩) 1 1, .int .i64 8] w fun e w' =>
    ∃ g, e = .returned (.slice (some ⟨g, 0, none⟩) 8 8) ∧ w.heap.size ≤ g ∧ Blk w' g 3 #[.int .i64 key, .int .i64 key, .int .i64 key, .int .i64 key, .int .i64 key, .int .i64 key, .int .i64 key, .int .i64 key] ∧ Below w.heap.size w w' := by
  have hmk := make8 w
  have hsz : (Try.prog.info? 3).map (·.size) = some 1 := by kernel_rfl
  obtain ⟨h, hh⟩ : ∃ h, w.heap.size = h := ⟨_, rfl⟩
  have HN := Lib.hid (Blk.new w 3 #[.int .i64 0, .int .i64 0, .int .i64 0, .int .i64 0, .int .i64 0, .int .i64 0, .int .i64 0, .int .i64 0])
  have HS0 := Lib.hid (hb0.alloc (.cells #[.int .i64 0, .int .i64 0, .int .i64 0, .int .i64 0, .int .i64 0, .int .i64 0, .int .i64 0, .int .i64 0] 3))
  have HBW := Lib.hid ((Below.refl _ w).alloc (Nat.le_refl _) (.cells #[.int .i64 0, .int .i64 0, .int .i64 0, .int .i64 0, .int .i64 0, .int .i64 0, .int .i64 0, .int .i64 0] 3))
  have HLT := Lib.hid hb0.lt
  rw [hh] at HN HBW HLT hmk ⊢
  have HH := Lib.hid hh
  clear hh hb0
  go_enter Try.func37, Try.ntmps37
  go_wp2_with (first
    | (go_at_call 38; (with_reducible refine (mul_18 _).mono ?_); rintro e w1 ⟨rfl, rfl⟩)
    | (refine wpList_copy_splice (o := ⟨some 33, _, _, _, _, _⟩) rfl (.tmp 31) (.tmp 32) 29 29 rfl 3 Try.underlying29 hsz _ _ _ _ _ _ rfl rfl h 0 [.int .i64 0, .int .i64 0, .int .i64 0, .int .i64 0, .int .i64 0, .int .i64 0, .int .i64 0, .int .i64 0] 3 HN.out [.int .i64 key] rfl (fun _ => ⟨rfl, _, rfl, (holds_blk HS0.out (n := 1) (vs := [.int .i64 key]) rfl rfl).2.2 _ rfl⟩) (by simp) (by intro v hv; cases hv with | head => rfl | tail _ h => cases h) h w HBW.out (Nat.le_refl _) ?_; intro w2 hg2 hb2; have HG2 := Lib.hid (show Blk w2 h 3 #[.int .i64 key, .int .i64 0, .int .i64 0, .int .i64 0, .int .i64 0, .int .i64 0, .int .i64 0, .int .i64 0] from hg2); have HB2 := Lib.hid hb2; clear hg2 hb2))
  clear hmk
  go_loopw [8] (fun nn wr => RepS w h key nn wr) (fun nn _ => (8 - intOf nn).toNat)
  case atStart => exact ⟨.inl ⟨rfl, HG2.out⟩, HB2.out⟩
  case round =>
    obtain ⟨hc, hb⟩ := hrel
    have HB := Lib.hid hb
    clear hb
    rcases hc with ⟨rfl, hb⟩ | ⟨rfl, hb⟩ | ⟨rfl, hb⟩ | ⟨rfl, hb⟩
    all_goals (have HG := Lib.hid hb; clear hb)
    · go_wp2_with fail
      refine wp_region_G (S0 := (fun _ => True)) (S1 := (fun _ => True)) (c := 7) (by kernel_rfl) ?_
      have hHeld := trivial
      have h01 := (fun (_ : World) (_ : True) => trivial)
      refine wpG_takeA (i := 0) (oi := ⟨some 38, _, _, _, _, _⟩) (v := ?_) rfl (by kernel_rfl) (by kernel_rfl) (by kernel_rfl) (by decide) (fun _ _ _ h => h) h01 rfl hHeld (Or.inl ⟨by rfl, ?_⟩) ?_
      rotate_left
      · (intro w hSw; (try dsimp only at hSw); go_simp; (try with_reducible rfl))
      try simp only [Act.put, List.setIfInBounds_toArray, List.set_cons_zero, List.set_cons_succ]
      refine wpG_takeA (i := 1) (oi := ⟨some 39, _, _, _, _, _⟩) (v := ?_) rfl (by kernel_rfl) (by kernel_rfl) (by kernel_rfl) (by decide) (fun _ _ _ h => h) h01 rfl hHeld (Or.inl ⟨by rfl, ?_⟩) ?_
      rotate_left
      · (intro w hSw; (try dsimp only at hSw); go_simp; (try with_reducible rfl))
      try simp only [Act.put, List.setIfInBounds_toArray, List.set_cons_zero, List.set_cons_succ]
      refine wpG_takeA (i := 2) (oi := ⟨some 40, _, _, _, _, _⟩) (v := ?_) rfl (by kernel_rfl) (by kernel_rfl) (by kernel_rfl) (by decide) (fun _ _ _ h => h) h01 rfl hHeld (Or.inl ⟨by rfl, ?_⟩) ?_
      rotate_left
      · (intro w hSw; (try dsimp only at hSw); go_simp; (try with_reducible rfl))
      try simp only [Act.put, List.setIfInBounds_toArray, List.set_cons_zero, List.set_cons_succ]
      refine wpG_takeA (i := 3) (oi := ⟨some 41, _, _, _, _, _⟩) (v := ?_) rfl (by kernel_rfl) (by kernel_rfl) (by kernel_rfl) (by decide) (fun _ _ _ h => h) h01 rfl hHeld (Or.inl ⟨by rfl, ?_⟩) ?_
      rotate_left
      · (intro w hSw; (try dsimp only at hSw); go_simp; (try with_reducible rfl))
      try simp only [Act.put, List.setIfInBounds_toArray, List.set_cons_zero, List.set_cons_succ]
      refine wpG_takeA (i := 4) (oi := ⟨some 42, _, _, _, _, _⟩) (v := ?_) rfl (by kernel_rfl) (by kernel_rfl) (by kernel_rfl) (by decide) (fun _ _ _ h => h) h01 rfl hHeld (Or.inl ⟨by rfl, ?_⟩) ?_
      rotate_left
      · (intro w hSw; (try dsimp only at hSw); go_simp; (try with_reducible rfl))
      try simp only [Act.put, List.setIfInBounds_toArray, List.set_cons_zero, List.set_cons_succ]
      refine wpG_takeA (i := 5) (oi := ⟨some 43, _, _, _, _, _⟩) (v := ?_) rfl (by kernel_rfl) (by kernel_rfl) (by kernel_rfl) (by decide) (fun _ _ _ h => h) h01 rfl hHeld (Or.inl ⟨by rfl, ?_⟩) ?_
      rotate_left
      · (intro w hSw; (try dsimp only at hSw); go_simp; (try with_reducible rfl))
      try simp only [Act.put, List.setIfInBounds_toArray, List.set_cons_zero, List.set_cons_succ]
      refine wpG_takeA (i := 6) (oi := ⟨some 44, _, _, _, _, _⟩) (v := ?_) rfl (by kernel_rfl) (by kernel_rfl) (by kernel_rfl) (by decide) (fun _ _ _ h => h) h01 rfl hHeld (Or.inl ⟨by rfl, ?_⟩) ?_
      rotate_left
      · (intro w hSw; (try dsimp only at hSw); go_simp; (try with_reducible rfl))
      try simp only [Act.put, List.setIfInBounds_toArray, List.set_cons_zero, List.set_cons_succ]
      refine wpG_oneB (i := 7) (o := ⟨some 45, _, _, _, _, _⟩) (by kernel_rfl) rfl rfl (fun K hK => ?_)
      refine step_copy_splice (o := ⟨some 45, _, _, _, _, _⟩) rfl (.tmp 41) (.tmp 44) 29 29 rfl 3 Try.underlying29 hsz (some ⟨h, 1, none⟩) (some ⟨h, 0, none⟩) 7 7 1 8 (by rfl) (by rfl) h 1 [.int .i64 key, .int .i64 0, .int .i64 0, .int .i64 0, .int .i64 0, .int .i64 0, .int .i64 0, .int .i64 0] 3 HG.out [.int .i64 key] rfl (fun _ => ⟨rfl, _, rfl, (holds_pre HG.out 1 [.int .i64 key] rfl).2.2 _ rfl⟩) (by simp) (by intro v hv; simp at hv; rcases hv with rfl | hv <;> rfl) h w (below_drew HB.out) (Nat.le_refl _) ?_; intro w4 hg4 hb4
      rw [show goInt ((List.length ([.int .i64 key] : List Value) : Nat) : Int) = .int .i64 1 from rfl]
      refine hK.out _ _ trivial (fun hHeld => ?_)
      clear hK K
      try simp only [Act.put, List.setIfInBounds_toArray, List.set_cons_zero, List.set_cons_succ]
      refine wpG_takeB (i := 8) (oi := ⟨some 46, _, _, _, _, _⟩) (v := ?_) rfl (by kernel_rfl) (by kernel_rfl) (by kernel_rfl) (by decide) (fun _ _ _ h => h) h01 rfl hHeld (Or.inl ⟨by rfl, ?_⟩) ?_
      rotate_left
      · (intro w hSw; (try dsimp only at hSw); go_simp; (try with_reducible rfl))
      try simp only [Act.put, List.setIfInBounds_toArray, List.set_cons_zero, List.set_cons_succ]
      refine wpG_takeB (i := 9) (oi := ⟨some 8, _, _, _, _, _⟩) (v := ?_) rfl (by kernel_rfl) (by kernel_rfl) (by kernel_rfl) (by decide) (fun _ _ _ h => h) h01 rfl hHeld (Or.inl ⟨by rfl, ?_⟩) ?_
      rotate_left
      · (intro w hSw; (try dsimp only at hSw); go_simp; (try with_reducible rfl))
      try simp only [Act.put, List.setIfInBounds_toArray, List.set_cons_zero, List.set_cons_succ]
      refine wpG_done (by kernel_rfl) ?_ _
      have HG4 := Lib.hid (show Blk w4 h 3 #[.int .i64 key, .int .i64 key, .int .i64 0, .int .i64 0, .int .i64 0, .int .i64 0, .int .i64 0, .int .i64 0] from hg4.out)
      have HB4 := Lib.hid hb4
      clear hg4 hb4
      go_wp2_with fail
      go_roundw
      case rel => exact ⟨.inr (.inl ⟨rfl, HG4.out⟩), HB4.out⟩
      case measure => simp [intOf, IntKind.wrap_i64]
    · go_wp2_with fail
      refine wp_region_G (S0 := (fun _ => True)) (S1 := (fun _ => True)) (c := 7) (by kernel_rfl) ?_
      have hHeld := trivial
      have h01 := (fun (_ : World) (_ : True) => trivial)
      refine wpG_takeA (i := 0) (oi := ⟨some 38, _, _, _, _, _⟩) (v := ?_) rfl (by kernel_rfl) (by kernel_rfl) (by kernel_rfl) (by decide) (fun _ _ _ h => h) h01 rfl hHeld (Or.inl ⟨by rfl, ?_⟩) ?_
      rotate_left
      · (intro w hSw; (try dsimp only at hSw); go_simp; (try with_reducible rfl))
      try simp only [Act.put, List.setIfInBounds_toArray, List.set_cons_zero, List.set_cons_succ]
      refine wpG_takeA (i := 1) (oi := ⟨some 39, _, _, _, _, _⟩) (v := ?_) rfl (by kernel_rfl) (by kernel_rfl) (by kernel_rfl) (by decide) (fun _ _ _ h => h) h01 rfl hHeld (Or.inl ⟨by rfl, ?_⟩) ?_
      rotate_left
      · (intro w hSw; (try dsimp only at hSw); go_simp; (try with_reducible rfl))
      try simp only [Act.put, List.setIfInBounds_toArray, List.set_cons_zero, List.set_cons_succ]
      refine wpG_takeA (i := 2) (oi := ⟨some 40, _, _, _, _, _⟩) (v := ?_) rfl (by kernel_rfl) (by kernel_rfl) (by kernel_rfl) (by decide) (fun _ _ _ h => h) h01 rfl hHeld (Or.inl ⟨by rfl, ?_⟩) ?_
      rotate_left
      · (intro w hSw; (try dsimp only at hSw); go_simp; (try with_reducible rfl))
      try simp only [Act.put, List.setIfInBounds_toArray, List.set_cons_zero, List.set_cons_succ]
      refine wpG_takeA (i := 3) (oi := ⟨some 41, _, _, _, _, _⟩) (v := ?_) rfl (by kernel_rfl) (by kernel_rfl) (by kernel_rfl) (by decide) (fun _ _ _ h => h) h01 rfl hHeld (Or.inl ⟨by rfl, ?_⟩) ?_
      rotate_left
      · (intro w hSw; (try dsimp only at hSw); go_simp; (try with_reducible rfl))
      try simp only [Act.put, List.setIfInBounds_toArray, List.set_cons_zero, List.set_cons_succ]
      refine wpG_takeA (i := 4) (oi := ⟨some 42, _, _, _, _, _⟩) (v := ?_) rfl (by kernel_rfl) (by kernel_rfl) (by kernel_rfl) (by decide) (fun _ _ _ h => h) h01 rfl hHeld (Or.inl ⟨by rfl, ?_⟩) ?_
      rotate_left
      · (intro w hSw; (try dsimp only at hSw); go_simp; (try with_reducible rfl))
      try simp only [Act.put, List.setIfInBounds_toArray, List.set_cons_zero, List.set_cons_succ]
      refine wpG_takeA (i := 5) (oi := ⟨some 43, _, _, _, _, _⟩) (v := ?_) rfl (by kernel_rfl) (by kernel_rfl) (by kernel_rfl) (by decide) (fun _ _ _ h => h) h01 rfl hHeld (Or.inl ⟨by rfl, ?_⟩) ?_
      rotate_left
      · (intro w hSw; (try dsimp only at hSw); go_simp; (try with_reducible rfl))
      try simp only [Act.put, List.setIfInBounds_toArray, List.set_cons_zero, List.set_cons_succ]
      refine wpG_takeA (i := 6) (oi := ⟨some 44, _, _, _, _, _⟩) (v := ?_) rfl (by kernel_rfl) (by kernel_rfl) (by kernel_rfl) (by decide) (fun _ _ _ h => h) h01 rfl hHeld (Or.inl ⟨by rfl, ?_⟩) ?_
      rotate_left
      · (intro w hSw; (try dsimp only at hSw); go_simp; (try with_reducible rfl))
      try simp only [Act.put, List.setIfInBounds_toArray, List.set_cons_zero, List.set_cons_succ]
      refine wpG_oneB (i := 7) (o := ⟨some 45, _, _, _, _, _⟩) (by kernel_rfl) rfl rfl (fun K hK => ?_)
      refine step_copy_splice (o := ⟨some 45, _, _, _, _, _⟩) rfl (.tmp 41) (.tmp 44) 29 29 rfl 3 Try.underlying29 hsz (some ⟨h, 2, none⟩) (some ⟨h, 0, none⟩) 6 6 2 8 (by rfl) (by rfl) h 2 [.int .i64 key, .int .i64 key, .int .i64 0, .int .i64 0, .int .i64 0, .int .i64 0, .int .i64 0, .int .i64 0] 3 HG.out [.int .i64 key, .int .i64 key] rfl (fun _ => ⟨rfl, _, rfl, (holds_pre HG.out 2 [.int .i64 key, .int .i64 key] rfl).2.2 _ rfl⟩) (by simp) (by intro v hv; simp at hv; rcases hv with rfl | hv <;> rfl) h w (below_drew HB.out) (Nat.le_refl _) ?_; intro w4 hg4 hb4
      rw [show goInt ((List.length ([.int .i64 key, .int .i64 key] : List Value) : Nat) : Int) = .int .i64 2 from rfl]
      refine hK.out _ _ trivial (fun hHeld => ?_)
      clear hK K
      try simp only [Act.put, List.setIfInBounds_toArray, List.set_cons_zero, List.set_cons_succ]
      refine wpG_takeB (i := 8) (oi := ⟨some 46, _, _, _, _, _⟩) (v := ?_) rfl (by kernel_rfl) (by kernel_rfl) (by kernel_rfl) (by decide) (fun _ _ _ h => h) h01 rfl hHeld (Or.inl ⟨by rfl, ?_⟩) ?_
      rotate_left
      · (intro w hSw; (try dsimp only at hSw); go_simp; (try with_reducible rfl))
      try simp only [Act.put, List.setIfInBounds_toArray, List.set_cons_zero, List.set_cons_succ]
      refine wpG_takeB (i := 9) (oi := ⟨some 8, _, _, _, _, _⟩) (v := ?_) rfl (by kernel_rfl) (by kernel_rfl) (by kernel_rfl) (by decide) (fun _ _ _ h => h) h01 rfl hHeld (Or.inl ⟨by rfl, ?_⟩) ?_
      rotate_left
      · (intro w hSw; (try dsimp only at hSw); go_simp; (try with_reducible rfl))
      try simp only [Act.put, List.setIfInBounds_toArray, List.set_cons_zero, List.set_cons_succ]
      refine wpG_done (by kernel_rfl) ?_ _
      have HG4 := Lib.hid (show Blk w4 h 3 #[.int .i64 key, .int .i64 key, .int .i64 key, .int .i64 key, .int .i64 0, .int .i64 0, .int .i64 0, .int .i64 0] from hg4.out)
      have HB4 := Lib.hid hb4
      clear hg4 hb4
      go_wp2_with fail
      go_roundw
      case rel => exact ⟨.inr (.inr (.inl ⟨rfl, HG4.out⟩)), HB4.out⟩
      case measure => simp [intOf, IntKind.wrap_i64]
    · go_wp2_with fail
      refine wp_region_G (S0 := (fun _ => True)) (S1 := (fun _ => True)) (c := 7) (by kernel_rfl) ?_
      have hHeld := trivial
      have h01 := (fun (_ : World) (_ : True) => trivial)
      refine wpG_takeA (i := 0) (oi := ⟨some 38, _, _, _, _, _⟩) (v := ?_) rfl (by kernel_rfl) (by kernel_rfl) (by kernel_rfl) (by decide) (fun _ _ _ h => h) h01 rfl hHeld (Or.inl ⟨by rfl, ?_⟩) ?_
      rotate_left
      · (intro w hSw; (try dsimp only at hSw); go_simp; (try with_reducible rfl))
      try simp only [Act.put, List.setIfInBounds_toArray, List.set_cons_zero, List.set_cons_succ]
      refine wpG_takeA (i := 1) (oi := ⟨some 39, _, _, _, _, _⟩) (v := ?_) rfl (by kernel_rfl) (by kernel_rfl) (by kernel_rfl) (by decide) (fun _ _ _ h => h) h01 rfl hHeld (Or.inl ⟨by rfl, ?_⟩) ?_
      rotate_left
      · (intro w hSw; (try dsimp only at hSw); go_simp; (try with_reducible rfl))
      try simp only [Act.put, List.setIfInBounds_toArray, List.set_cons_zero, List.set_cons_succ]
      refine wpG_takeA (i := 2) (oi := ⟨some 40, _, _, _, _, _⟩) (v := ?_) rfl (by kernel_rfl) (by kernel_rfl) (by kernel_rfl) (by decide) (fun _ _ _ h => h) h01 rfl hHeld (Or.inl ⟨by rfl, ?_⟩) ?_
      rotate_left
      · (intro w hSw; (try dsimp only at hSw); go_simp; (try with_reducible rfl))
      try simp only [Act.put, List.setIfInBounds_toArray, List.set_cons_zero, List.set_cons_succ]
      refine wpG_takeA (i := 3) (oi := ⟨some 41, _, _, _, _, _⟩) (v := ?_) rfl (by kernel_rfl) (by kernel_rfl) (by kernel_rfl) (by decide) (fun _ _ _ h => h) h01 rfl hHeld (Or.inl ⟨by rfl, ?_⟩) ?_
      rotate_left
      · (intro w hSw; (try dsimp only at hSw); go_simp; (try with_reducible rfl))
      try simp only [Act.put, List.setIfInBounds_toArray, List.set_cons_zero, List.set_cons_succ]
      refine wpG_takeA (i := 4) (oi := ⟨some 42, _, _, _, _, _⟩) (v := ?_) rfl (by kernel_rfl) (by kernel_rfl) (by kernel_rfl) (by decide) (fun _ _ _ h => h) h01 rfl hHeld (Or.inl ⟨by rfl, ?_⟩) ?_
      rotate_left
      · (intro w hSw; (try dsimp only at hSw); go_simp; (try with_reducible rfl))
      try simp only [Act.put, List.setIfInBounds_toArray, List.set_cons_zero, List.set_cons_succ]
      refine wpG_takeA (i := 5) (oi := ⟨some 43, _, _, _, _, _⟩) (v := ?_) rfl (by kernel_rfl) (by kernel_rfl) (by kernel_rfl) (by decide) (fun _ _ _ h => h) h01 rfl hHeld (Or.inl ⟨by rfl, ?_⟩) ?_
      rotate_left
      · (intro w hSw; (try dsimp only at hSw); go_simp; (try with_reducible rfl))
      try simp only [Act.put, List.setIfInBounds_toArray, List.set_cons_zero, List.set_cons_succ]
      refine wpG_takeA (i := 6) (oi := ⟨some 44, _, _, _, _, _⟩) (v := ?_) rfl (by kernel_rfl) (by kernel_rfl) (by kernel_rfl) (by decide) (fun _ _ _ h => h) h01 rfl hHeld (Or.inl ⟨by rfl, ?_⟩) ?_
      rotate_left
      · (intro w hSw; (try dsimp only at hSw); go_simp; (try with_reducible rfl))
      try simp only [Act.put, List.setIfInBounds_toArray, List.set_cons_zero, List.set_cons_succ]
      refine wpG_oneB (i := 7) (o := ⟨some 45, _, _, _, _, _⟩) (by kernel_rfl) rfl rfl (fun K hK => ?_)
      refine step_copy_splice (o := ⟨some 45, _, _, _, _, _⟩) rfl (.tmp 41) (.tmp 44) 29 29 rfl 3 Try.underlying29 hsz (some ⟨h, 4, none⟩) (some ⟨h, 0, none⟩) 4 4 4 8 (by rfl) (by rfl) h 4 [.int .i64 key, .int .i64 key, .int .i64 key, .int .i64 key, .int .i64 0, .int .i64 0, .int .i64 0, .int .i64 0] 3 HG.out [.int .i64 key, .int .i64 key, .int .i64 key, .int .i64 key] rfl (fun _ => ⟨rfl, _, rfl, (holds_pre HG.out 4 [.int .i64 key, .int .i64 key, .int .i64 key, .int .i64 key] rfl).2.2 _ rfl⟩) (by simp) (by intro v hv; simp at hv; rcases hv with rfl | hv <;> rfl) h w (below_drew HB.out) (Nat.le_refl _) ?_; intro w4 hg4 hb4
      rw [show goInt ((List.length ([.int .i64 key, .int .i64 key, .int .i64 key, .int .i64 key] : List Value) : Nat) : Int) = .int .i64 4 from rfl]
      refine hK.out _ _ trivial (fun hHeld => ?_)
      clear hK K
      try simp only [Act.put, List.setIfInBounds_toArray, List.set_cons_zero, List.set_cons_succ]
      refine wpG_takeB (i := 8) (oi := ⟨some 46, _, _, _, _, _⟩) (v := ?_) rfl (by kernel_rfl) (by kernel_rfl) (by kernel_rfl) (by decide) (fun _ _ _ h => h) h01 rfl hHeld (Or.inl ⟨by rfl, ?_⟩) ?_
      rotate_left
      · (intro w hSw; (try dsimp only at hSw); go_simp; (try with_reducible rfl))
      try simp only [Act.put, List.setIfInBounds_toArray, List.set_cons_zero, List.set_cons_succ]
      refine wpG_takeB (i := 9) (oi := ⟨some 8, _, _, _, _, _⟩) (v := ?_) rfl (by kernel_rfl) (by kernel_rfl) (by kernel_rfl) (by decide) (fun _ _ _ h => h) h01 rfl hHeld (Or.inl ⟨by rfl, ?_⟩) ?_
      rotate_left
      · (intro w hSw; (try dsimp only at hSw); go_simp; (try with_reducible rfl))
      try simp only [Act.put, List.setIfInBounds_toArray, List.set_cons_zero, List.set_cons_succ]
      refine wpG_done (by kernel_rfl) ?_ _
      have HG4 := Lib.hid (show Blk w4 h 3 #[.int .i64 key, .int .i64 key, .int .i64 key, .int .i64 key, .int .i64 key, .int .i64 key, .int .i64 key, .int .i64 key] from hg4.out)
      have HB4 := Lib.hid hb4
      clear hg4 hb4
      go_wp2_with fail
      go_roundw
      case rel => exact ⟨.inr (.inr (.inr (⟨rfl, HG4.out⟩))), HB4.out⟩
      case measure => simp [intOf, IntKind.wrap_i64]
    · go_wp2_with fail
      go_ret
      exact ⟨h, rfl, by omega, HG.out, HB.out⟩
end Go.Proofs.Ytbfejjjdolfcfaa
