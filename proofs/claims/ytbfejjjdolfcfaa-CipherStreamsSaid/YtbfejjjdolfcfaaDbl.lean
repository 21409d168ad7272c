/- The double round: the state as a list of words; the contract of (*state).double. -/
import Derived.Test.YtbfejjjdolfcfaaQr
import Derived.Test.YtbfejjjdolfcfaaOrd
import Derived.Test.YtbfejjjdolfcfaaGr
import Derived.Deep.RegionHeld3
namespace Go.Proofs.Ytbfejjjdolfcfaa
open Go.RowKit
set_option linter.unusedVariables false
set_option linter.unusedSimpArgs false

def w32 (x : Nat) : Value := .int .u32 (x : Int)
/-- The cells of a state. -/
def cw (xs : List Nat) : Array Value := (xs.map w32).toArray
abbrev Four := Nat × Nat × Nat × Nat
def q8 : List Four := [(0, 4, 8, 12), (1, 5, 9, 13), (2, 6, 10, 14), (3, 7, 11, 15), (0, 5, 10, 15), (1, 6, 11, 12), (2, 7, 8, 13), (3, 4, 9, 14)]
def row4 (i : Four) : Value := .agg #[.int .i64 i.1, .int .i64 i.2.1, .int .i64 i.2.2.1, .int .i64 i.2.2.2]
def L8 : Value := .agg #[.int .i64 0, .int .i64 4, .int .i64 8, .int .i64 12, .int .i64 1, .int .i64 5, .int .i64 9, .int .i64 13, .int .i64 2, .int .i64 6, .int .i64 10, .int .i64 14, .int .i64 3, .int .i64 7, .int .i64 11, .int .i64 15, .int .i64 0, .int .i64 5, .int .i64 10, .int .i64 15, .int .i64 1, .int .i64 6, .int .i64 11, .int .i64 12, .int .i64 2, .int .i64 7, .int .i64 8, .int .i64 13, .int .i64 3, .int .i64 4, .int .i64 9, .int .i64 14]
def qstep (s : List Nat) (i : Four) : List Nat :=
  (((s.set i.1 (qA (s.getD i.1 0) (s.getD i.2.1 0) (s.getD i.2.2.1 0) (s.getD i.2.2.2 0))).set i.2.1 (qB (s.getD i.1 0) (s.getD i.2.1 0) (s.getD i.2.2.1 0) (s.getD i.2.2.2 0))).set i.2.2.1 (qC (s.getD i.1 0) (s.getD i.2.1 0) (s.getD i.2.2.1 0) (s.getD i.2.2.2 0))).set i.2.2.2 (qD (s.getD i.1 0) (s.getD i.2.1 0) (s.getD i.2.2.1 0) (s.getD i.2.2.2 0))
def dbl (s : List Nat) : List Nat := q8.foldl qstep s
/-- A state's words. -/
def St16 (s : List Nat) : Prop := s.length = 16 ∧ ∀ x ∈ s, x < 4294967296

theorem q8_ok : ∀ (j : Nat) (h : j < 8), ∃ a b c d : Nat, (q8[j]'(show j < q8.length from h)) = (a, b, c, d) ∧ (a < 16 ∧ b < 16 ∧ c < 16 ∧ d < 16) ∧ (a ≠ b ∧ a ≠ c ∧ a ≠ d ∧ b ≠ c ∧ b ≠ d ∧ c ≠ d) ∧ ∀ W : World, (Instr.index 76 L8 (.int .i64 j)).run Try.prog W = .ok (.agg #[.int .i64 a, .int .i64 b, .int .i64 c, .int .i64 d]) W := by
  intro j h
  match j, h with
  | 0, _ => exact ⟨_, _, _, _, rfl, by decide, by decide, fun W => by kernel_rfl⟩
  | 1, _ => exact ⟨_, _, _, _, rfl, by decide, by decide, fun W => by kernel_rfl⟩
  | 2, _ => exact ⟨_, _, _, _, rfl, by decide, by decide, fun W => by kernel_rfl⟩
  | 3, _ => exact ⟨_, _, _, _, rfl, by decide, by decide, fun W => by kernel_rfl⟩
  | 4, _ => exact ⟨_, _, _, _, rfl, by decide, by decide, fun W => by kernel_rfl⟩
  | 5, _ => exact ⟨_, _, _, _, rfl, by decide, by decide, fun W => by kernel_rfl⟩
  | 6, _ => exact ⟨_, _, _, _, rfl, by decide, by decide, fun W => by kernel_rfl⟩
  | 7, _ => exact ⟨_, _, _, _, rfl, by decide, by decide, fun W => by kernel_rfl⟩
  | (_ + 8), h => exact absurd h (by omega)

theorem cw_get {s : List Nat} (h : St16 s) {i : Nat} (hi : i < 16) : (cw s)[i]? = some (.int .u32 (s.getD i 0 : Nat)) ∧ s.getD i 0 < 4294967296 := by
  have hl : i < s.length := by rw [h.1]; exact hi
  have hg : s.getD i 0 = s[i] := by simp [List.getD, List.getElem?_eq_getElem hl]
  rw [hg]
  refine ⟨by simp [cw, w32, List.getElem?_eq_getElem hl], h.2 _ (List.getElem_mem hl)⟩
theorem qA_lt (a b c d : Nat) : qA a b c d < 4294967296 := halfA_lt _ _
theorem qC_lt (a b c d : Nat) : qC a b c d < 4294967296 := halfC_lt _ _ _ _ _
theorem qB_lt {a b c d : Nat} (hb : b < 4294967296) : qB a b c d < 4294967296 := halfB_lt (halfB_lt hb (by omega)) (by omega)
theorem qD_lt {a b c d : Nat} (hd : d < 4294967296) : qD a b c d < 4294967296 := halfD_lt (halfD_lt hd (by omega)) (by omega)
theorem St16.set {s : List Nat} (h : St16 s) (i : Nat) {x : Nat} (hx : x < 4294967296) : St16 (s.set i x) := by
  refine ⟨by rw [List.length_set]; exact h.1, fun y hy => ?_⟩
  rcases List.mem_or_eq_of_mem_set hy with h1 | h1
  · exact h.2 y h1
  · rw [h1]; exact hx
theorem cw_set (s : List Nat) (i x : Nat) : cw (s.set i x) = (cw s).setIfInBounds i (.int .u32 (x : Nat)) := by
  unfold cw
  rw [List.map_set, ← List.setIfInBounds_toArray]
  rfl


theorem q8_drop (j : Nat) (h : j < 8) (s : List Nat) : (q8.drop j).foldl qstep s = (q8.drop (j + 1)).foldl qstep (qstep s (q8[j]'(show j < q8.length from h))) := by
  rw [List.drop_eq_getElem_cons (show j < q8.length from h), List.foldl_cons]
set_option maxRecDepth 100000 in
set_option maxHeartbeats 4000000 in
theorem double_any (g : Nat) (t : TypeId) (s : List Nat) (w : World) (hs : St16 s) (hg : Blk w g t (cw s)) :
    Calls Try.prog 35 #[.pointer (some ⟨g, 0, none⟩)] w fun e w' => (e = .returned (.tuple #[]) ∧ Blk w' g t (cw (dbl s))) ∧ w.grownBy w' (some g) := by
  obtain ⟨T, hT⟩ : ∃ T, dbl s = T := ⟨_, rfl⟩
  rw [hT]
  have HT := Lib.hid hT
  have HS := Lib.hid hs
  have HG := Lib.hid hg
  clear hT hs hg
  go_enter Try.func35, Try.ntmps35
  go_wp2_with fail
  go_loopw [13] (fun jj wr => ∃ (j : Nat) (ys : List Nat), j ≤ 8 ∧ jj = .int .i64 j ∧ Hid (St16 ys) ∧ Hid ((q8.drop j).foldl qstep ys = T) ∧ Blk wr g t (cw ys) ∧ w.grownBy wr (some g)) (fun jj _ => 8 - (intOf jj).toNat)
  case atStart => exact ⟨0, s, by omega, rfl, HS, HT, HG.out, World.grownBy.refl w _⟩
  case round =>
    obtain ⟨j, ys, hj, rfl, HY, HTY, hgy, hgr⟩ := hrel
    have HG0 := Lib.hid hgy
    have GR0 := Lib.hid hgr
    clear hgy hgr
    by_cases hlt : (j : Int) < 8
    · obtain ⟨i0, i1, i2, i3, hq, ⟨l0, l1, l2, l3⟩, ⟨n01, n02, n03, n12, n13, n23⟩, hrun⟩ := q8_ok j (by omega)
      have hix := hrun wr
      unfold L8 at hix
      have HQ := Lib.hid hq
      have m0 : (i0 : Int) < 16 := by omega
      have m1 : (i1 : Int) < 16 := by omega
      have m2 : (i2 : Int) < 16 := by omega
      have m3 : (i3 : Int) < 16 := by omega
      have p0 : (0 : Int) ≤ i0 := by omega
      have p1 : (0 : Int) ≤ i1 := by omega
      have p2 : (0 : Int) ≤ i2 := by omega
      have p3 : (0 : Int) ≤ i3 := by omega
      have CX0 := Lib.hid (cw_get HY.out l0)
      have CX1 := Lib.hid (cw_get HY.out l1)
      have CX2 := Lib.hid (cw_get HY.out l2)
      have CX3 := Lib.hid (cw_get HY.out l3)
      clear hq hrun
      go_wp2_with fail
      obtain ⟨h, hh⟩ : ∃ h, wr.heap.size = h := ⟨_, rfl⟩
      have hbl := Blk.new wr 75 #[.int .i64 (i0 : Nat), .int .i64 (i1 : Nat), .int .i64 (i2 : Nat), .int .i64 (i3 : Nat)]
      have hgl := HG0.out.lt
      have hg1 := HG0.out.alloc (.cells #[.int .i64 (i0 : Nat), .int .i64 (i1 : Nat), .int .i64 (i2 : Nat), .int .i64 (i3 : Nat)] 75)
      have gr1 := grown_trans GR0.out (World.grownBy_alloc wr (.cells #[.int .i64 (i0 : Nat), .int .i64 (i1 : Nat), .int .i64 (i2 : Nat), .int .i64 (i3 : Nat)] 75) (some g))
      rw [hh] at hbl hgl ⊢
      generalize wr.alloc (.cells #[.int .i64 (i0 : Nat), .int .i64 (i1 : Nat), .int .i64 (i2 : Nat), .int .i64 (i3 : Nat)] 75) = W1 at hbl hg1 gr1 ⊢
      have hne : h ≠ g := by omega
      have HL1 := Lib.hid hbl
      have HG1 := Lib.hid hg1
      have GR1 := Lib.hid gr1
      obtain ⟨x0, hx0⟩ : ∃ x, ys.getD i0 0 = x := ⟨_, rfl⟩
      obtain ⟨x1, hx1⟩ : ∃ x, ys.getD i1 0 = x := ⟨_, rfl⟩
      obtain ⟨x2, hx2⟩ : ∃ x, ys.getD i2 0 = x := ⟨_, rfl⟩
      obtain ⟨x3, hx3⟩ : ∃ x, ys.getD i3 0 = x := ⟨_, rfl⟩
      rw [hx0] at CX0
      rw [hx1] at CX1
      rw [hx2] at CX2
      rw [hx3] at CX3
      have c9 := fun W => quarter_any x0 x1 x2 x3 W CX0.out.2 CX1.out.2 CX2.out.2 CX3.out.2
      simp only [tup4] at c9
      have C9 := Lib.hid c9
      have HX := Lib.hid (And.intro hx0 (And.intro hx1 (And.intro hx2 hx3)))
      clear hbl hg1 gr1 hh hx0 hx1 hx2 hx3 c9 hgl hix
      refine wp_region_G (S0 := (fun (w' : World) => (w'.cell? ⟨h, 0, none⟩ = some (.int .i64 (i0 : Nat)) ∧ w'.cell? ⟨h, 1, none⟩ = some (.int .i64 (i1 : Nat)) ∧ w'.cell? ⟨h, 2, none⟩ = some (.int .i64 (i2 : Nat)) ∧ w'.cell? ⟨h, 3, none⟩ = some (.int .i64 (i3 : Nat))) ∧ w'.cell? ⟨g, i0, none⟩ = some (.int .u32 (x0 : Nat)) ∧ w'.cell? ⟨g, i1, none⟩ = some (.int .u32 (x1 : Nat)) ∧ w'.cell? ⟨g, i2, none⟩ = some (.int .u32 (x2 : Nat)) ∧ w'.cell? ⟨g, i3, none⟩ = some (.int .u32 (x3 : Nat)))) (S1 := (fun (w' : World) => w'.cell? ⟨h, 0, none⟩ = some (.int .i64 (i0 : Nat)) ∧ w'.cell? ⟨h, 1, none⟩ = some (.int .i64 (i1 : Nat)) ∧ w'.cell? ⟨h, 2, none⟩ = some (.int .i64 (i2 : Nat)) ∧ w'.cell? ⟨h, 3, none⟩ = some (.int .i64 (i3 : Nat)))) (c := 36) (by kernel_rfl) ?_
      have hHeld := (show (W1.drew.cell? ⟨h, 0, none⟩ = some (.int .i64 (i0 : Nat)) ∧ W1.drew.cell? ⟨h, 1, none⟩ = some (.int .i64 (i1 : Nat)) ∧ W1.drew.cell? ⟨h, 2, none⟩ = some (.int .i64 (i2 : Nat)) ∧ W1.drew.cell? ⟨h, 3, none⟩ = some (.int .i64 (i3 : Nat))) ∧ W1.drew.cell? ⟨g, i0, none⟩ = some (.int .u32 (x0 : Nat)) ∧ W1.drew.cell? ⟨g, i1, none⟩ = some (.int .u32 (x1 : Nat)) ∧ W1.drew.cell? ⟨g, i2, none⟩ = some (.int .u32 (x2 : Nat)) ∧ W1.drew.cell? ⟨g, i3, none⟩ = some (.int .u32 (x3 : Nat)) from ⟨⟨HL1.out.cell 0, HL1.out.cell 1, HL1.out.cell 2, HL1.out.cell 3⟩, (HG1.out.cell i0).trans CX0.out.1, (HG1.out.cell i1).trans CX1.out.1, (HG1.out.cell i2).trans CX2.out.1, (HG1.out.cell i3).trans CX3.out.1⟩)
      have h01 := (show ∀ w : World, ((w.cell? ⟨h, 0, none⟩ = some (.int .i64 (i0 : Nat)) ∧ w.cell? ⟨h, 1, none⟩ = some (.int .i64 (i1 : Nat)) ∧ w.cell? ⟨h, 2, none⟩ = some (.int .i64 (i2 : Nat)) ∧ w.cell? ⟨h, 3, none⟩ = some (.int .i64 (i3 : Nat))) ∧ w.cell? ⟨g, i0, none⟩ = some (.int .u32 (x0 : Nat)) ∧ w.cell? ⟨g, i1, none⟩ = some (.int .u32 (x1 : Nat)) ∧ w.cell? ⟨g, i2, none⟩ = some (.int .u32 (x2 : Nat)) ∧ w.cell? ⟨g, i3, none⟩ = some (.int .u32 (x3 : Nat))) → (w.cell? ⟨h, 0, none⟩ = some (.int .i64 (i0 : Nat)) ∧ w.cell? ⟨h, 1, none⟩ = some (.int .i64 (i1 : Nat)) ∧ w.cell? ⟨h, 2, none⟩ = some (.int .i64 (i2 : Nat)) ∧ w.cell? ⟨h, 3, none⟩ = some (.int .i64 (i3 : Nat))) from fun w h => h.1)
      refine wpG_takeA (i := 0) (v := ?_) rfl (by kernel_rfl) (by kernel_rfl) (by kernel_rfl) (by decide) (fun _ _ _ h => h) h01 rfl hHeld (Or.inl ⟨by rfl, ?_⟩) ?_
      rotate_left
      · (intro w hSw; (try dsimp only at hSw); go_simp; (try with_reducible rfl))
      try simp only [Act.put, List.setIfInBounds_toArray, List.set_cons_zero, List.set_cons_succ]
      refine wpG_takeA (i := 1) (v := ?_) rfl (by kernel_rfl) (by kernel_rfl) (by kernel_rfl) (by decide) (fun _ _ _ h => h) h01 rfl hHeld (Or.inl ⟨by rfl, ?_⟩) ?_
      rotate_left
      · (intro w hSw; (try dsimp only at hSw); go_simp; (try with_reducible rfl))
      try simp only [Act.put, List.setIfInBounds_toArray, List.set_cons_zero, List.set_cons_succ]
      refine wpG_takeA (i := 2) (v := ?_) rfl (by kernel_rfl) (by kernel_rfl) (by kernel_rfl) (by decide) (fun _ _ _ h => h) h01 rfl hHeld (Or.inl ⟨by rfl, ?_⟩) ?_
      rotate_left
      · (intro w hSw; (try dsimp only at hSw); go_simp; (try with_reducible rfl))
      try simp only [Act.put, List.setIfInBounds_toArray, List.set_cons_zero, List.set_cons_succ]
      refine wpG_takeA (i := 3) (v := ?_) rfl (by kernel_rfl) (by kernel_rfl) (by kernel_rfl) (by decide) (fun _ _ _ h => h) h01 rfl hHeld (Or.inl ⟨by rfl, ?_⟩) ?_
      rotate_left
      · (intro w hSw; (try dsimp only at hSw); go_simp; (try with_reducible rfl))
      try simp only [Act.put, List.setIfInBounds_toArray, List.set_cons_zero, List.set_cons_succ]
      refine wpG_takeA (i := 4) (v := ?_) rfl (by kernel_rfl) (by kernel_rfl) (by kernel_rfl) (by decide) (fun _ _ _ h => h) h01 rfl hHeld (Or.inl ⟨by rfl, ?_⟩) ?_
      rotate_left
      · (intro w hSw; (try dsimp only at hSw); go_simp; (try with_reducible rfl))
      try simp only [Act.put, List.setIfInBounds_toArray, List.set_cons_zero, List.set_cons_succ]
      refine wpG_takeA (i := 5) (v := ?_) rfl (by kernel_rfl) (by kernel_rfl) (by kernel_rfl) (by decide) (fun _ _ _ h => h) h01 rfl hHeld (Or.inl ⟨by rfl, ?_⟩) ?_
      rotate_left
      · (intro w hSw; (try dsimp only at hSw); go_simp; (try with_reducible rfl))
      try simp only [Act.put, List.setIfInBounds_toArray, List.set_cons_zero, List.set_cons_succ]
      refine wpG_takeA (i := 6) (v := ?_) rfl (by kernel_rfl) (by kernel_rfl) (by kernel_rfl) (by decide) (fun _ _ _ h => h) h01 rfl hHeld (Or.inl ⟨by rfl, ?_⟩) ?_
      rotate_left
      · (intro w hSw; (try dsimp only at hSw); go_simp; (try with_reducible rfl))
      try simp only [Act.put, List.setIfInBounds_toArray, List.set_cons_zero, List.set_cons_succ]
      refine wpG_takeA (i := 7) (v := ?_) rfl (by kernel_rfl) (by kernel_rfl) (by kernel_rfl) (by decide) (fun _ _ _ h => h) h01 rfl hHeld (Or.inl ⟨by rfl, ?_⟩) ?_
      rotate_left
      · (intro w hSw; (try dsimp only at hSw); go_simp; (try with_reducible rfl))
      try simp only [Act.put, List.setIfInBounds_toArray, List.set_cons_zero, List.set_cons_succ]
      refine wpG_takeA (i := 8) (v := ?_) rfl (by kernel_rfl) (by kernel_rfl) (by kernel_rfl) (by decide) (fun _ _ _ h => h) h01 rfl hHeld (Or.inl ⟨by rfl, ?_⟩) ?_
      rotate_left
      · (intro w hSw; (try dsimp only at hSw); go_simp; (try with_reducible rfl))
      try simp only [Act.put, List.setIfInBounds_toArray, List.set_cons_zero, List.set_cons_succ]
      refine wpG_takeA (i := 9) (v := ?_) rfl (by kernel_rfl) (by kernel_rfl) (by kernel_rfl) (by decide) (fun _ _ _ h => h) h01 rfl hHeld (Or.inl ⟨by rfl, ?_⟩) ?_
      rotate_left
      · (intro w hSw; (try dsimp only at hSw); go_simp; (try with_reducible rfl))
      try simp only [Act.put, List.setIfInBounds_toArray, List.set_cons_zero, List.set_cons_succ]
      refine wpG_takeA (i := 10) (v := ?_) rfl (by kernel_rfl) (by kernel_rfl) (by kernel_rfl) (by decide) (fun _ _ _ h => h) h01 rfl hHeld (Or.inl ⟨by rfl, ?_⟩) ?_
      rotate_left
      · (intro w hSw; (try dsimp only at hSw); go_simp; (try with_reducible rfl))
      try simp only [Act.put, List.setIfInBounds_toArray, List.set_cons_zero, List.set_cons_succ]
      refine wpG_takeA (i := 11) (v := ?_) rfl (by kernel_rfl) (by kernel_rfl) (by kernel_rfl) (by decide) (fun _ _ _ h => h) h01 rfl hHeld (Or.inl ⟨by rfl, ?_⟩) ?_
      rotate_left
      · (intro w hSw; (try dsimp only at hSw); go_simp; (try with_reducible rfl))
      try simp only [Act.put, List.setIfInBounds_toArray, List.set_cons_zero, List.set_cons_succ]
      refine wpG_takeA (i := 12) (v := ?_) rfl (by kernel_rfl) (by kernel_rfl) (by kernel_rfl) (by decide) (fun _ _ _ h => h) h01 rfl hHeld (Or.inl ⟨by rfl, ?_⟩) ?_
      rotate_left
      · (intro w hSw; (try dsimp only at hSw); go_simp; (try with_reducible rfl))
      try simp only [Act.put, List.setIfInBounds_toArray, List.set_cons_zero, List.set_cons_succ]
      refine wpG_takeA (i := 13) (v := ?_) rfl (by kernel_rfl) (by kernel_rfl) (by kernel_rfl) (by decide) (fun _ _ _ h => h) h01 rfl hHeld (Or.inl ⟨by rfl, ?_⟩) ?_
      rotate_left
      · (intro w hSw; (try dsimp only at hSw); go_simp; (try with_reducible rfl))
      try simp only [Act.put, List.setIfInBounds_toArray, List.set_cons_zero, List.set_cons_succ]
      refine wpG_takeA (i := 14) (v := ?_) rfl (by kernel_rfl) (by kernel_rfl) (by kernel_rfl) (by decide) (fun _ _ _ h => h) h01 rfl hHeld (Or.inl ⟨by rfl, ?_⟩) ?_
      rotate_left
      · (intro w hSw; (try dsimp only at hSw); go_simp; (try with_reducible rfl))
      try simp only [Act.put, List.setIfInBounds_toArray, List.set_cons_zero, List.set_cons_succ]
      refine wpG_takeA (i := 15) (v := ?_) rfl (by kernel_rfl) (by kernel_rfl) (by kernel_rfl) (by decide) (fun _ _ _ h => h) h01 rfl hHeld (Or.inl ⟨by rfl, ?_⟩) ?_
      rotate_left
      · (intro w hSw; (try dsimp only at hSw); go_simp; (try with_reducible rfl))
      try simp only [Act.put, List.setIfInBounds_toArray, List.set_cons_zero, List.set_cons_succ]
      refine wpG_takeA (i := 16) (v := ?_) rfl (by kernel_rfl) (by kernel_rfl) (by kernel_rfl) (by decide) (fun _ _ _ h => h) h01 rfl hHeld (Or.inl ⟨by rfl, ?_⟩) ?_
      rotate_left
      · (intro w hSw; (try dsimp only at hSw); go_simp; (try with_reducible rfl))
      try simp only [Act.put, List.setIfInBounds_toArray, List.set_cons_zero, List.set_cons_succ]
      refine wpG_take0 (i := 17) (v := ?_) rfl (by kernel_rfl) (by kernel_rfl) (by kernel_rfl) (by decide) (by kernel_rfl) (fun _ _ _ h => h) rfl hHeld (Or.inl ⟨by rfl, ?_⟩) ?_
      rotate_left
      · (intro w hSw; (try dsimp only at hSw); go_simp; (try with_reducible rfl))
      try simp only [Act.put, List.setIfInBounds_toArray, List.set_cons_zero, List.set_cons_succ]
      refine wpG_takeA (i := 18) (v := ?_) rfl (by kernel_rfl) (by kernel_rfl) (by kernel_rfl) (by decide) (fun _ _ _ h => h) h01 rfl hHeld (Or.inl ⟨by rfl, ?_⟩) ?_
      rotate_left
      · (intro w hSw; (try dsimp only at hSw); go_simp; (try with_reducible rfl))
      try simp only [Act.put, List.setIfInBounds_toArray, List.set_cons_zero, List.set_cons_succ]
      refine wpG_takeA (i := 19) (v := ?_) rfl (by kernel_rfl) (by kernel_rfl) (by kernel_rfl) (by decide) (fun _ _ _ h => h) h01 rfl hHeld (Or.inl ⟨by rfl, ?_⟩) ?_
      rotate_left
      · (intro w hSw; (try dsimp only at hSw); go_simp; (try with_reducible rfl))
      try simp only [Act.put, List.setIfInBounds_toArray, List.set_cons_zero, List.set_cons_succ]
      refine wpG_takeA (i := 20) (v := ?_) rfl (by kernel_rfl) (by kernel_rfl) (by kernel_rfl) (by decide) (fun _ _ _ h => h) h01 rfl hHeld (Or.inl ⟨by rfl, ?_⟩) ?_
      rotate_left
      · (intro w hSw; (try dsimp only at hSw); go_simp; (try with_reducible rfl))
      try simp only [Act.put, List.setIfInBounds_toArray, List.set_cons_zero, List.set_cons_succ]
      refine wpG_takeA (i := 21) (v := ?_) rfl (by kernel_rfl) (by kernel_rfl) (by kernel_rfl) (by decide) (fun _ _ _ h => h) h01 rfl hHeld (Or.inl ⟨by rfl, ?_⟩) ?_
      rotate_left
      · (intro w hSw; (try dsimp only at hSw); go_simp; (try with_reducible rfl))
      try simp only [Act.put, List.setIfInBounds_toArray, List.set_cons_zero, List.set_cons_succ]
      refine wpG_takeA (i := 22) (v := ?_) rfl (by kernel_rfl) (by kernel_rfl) (by kernel_rfl) (by decide) (fun _ _ _ h => h) h01 rfl hHeld (Or.inl ⟨by rfl, ?_⟩) ?_
      rotate_left
      · (intro w hSw; (try dsimp only at hSw); go_simp; (try with_reducible rfl))
      try simp only [Act.put, List.setIfInBounds_toArray, List.set_cons_zero, List.set_cons_succ]
      refine wpG_take0 (i := 23) (v := ?_) rfl (by kernel_rfl) (by kernel_rfl) (by kernel_rfl) (by decide) (by kernel_rfl) (fun _ _ _ h => h) rfl hHeld (Or.inl ⟨by rfl, ?_⟩) ?_
      rotate_left
      · (intro w hSw; (try dsimp only at hSw); go_simp; (try with_reducible rfl))
      try simp only [Act.put, List.setIfInBounds_toArray, List.set_cons_zero, List.set_cons_succ]
      refine wpG_takeA (i := 24) (v := ?_) rfl (by kernel_rfl) (by kernel_rfl) (by kernel_rfl) (by decide) (fun _ _ _ h => h) h01 rfl hHeld (Or.inl ⟨by rfl, ?_⟩) ?_
      rotate_left
      · (intro w hSw; (try dsimp only at hSw); go_simp; (try with_reducible rfl))
      try simp only [Act.put, List.setIfInBounds_toArray, List.set_cons_zero, List.set_cons_succ]
      refine wpG_takeA (i := 25) (v := ?_) rfl (by kernel_rfl) (by kernel_rfl) (by kernel_rfl) (by decide) (fun _ _ _ h => h) h01 rfl hHeld (Or.inl ⟨by rfl, ?_⟩) ?_
      rotate_left
      · (intro w hSw; (try dsimp only at hSw); go_simp; (try with_reducible rfl))
      try simp only [Act.put, List.setIfInBounds_toArray, List.set_cons_zero, List.set_cons_succ]
      refine wpG_takeA (i := 26) (v := ?_) rfl (by kernel_rfl) (by kernel_rfl) (by kernel_rfl) (by decide) (fun _ _ _ h => h) h01 rfl hHeld (Or.inl ⟨by rfl, ?_⟩) ?_
      rotate_left
      · (intro w hSw; (try dsimp only at hSw); go_simp; (try with_reducible rfl))
      try simp only [Act.put, List.setIfInBounds_toArray, List.set_cons_zero, List.set_cons_succ]
      refine wpG_takeA (i := 27) (v := ?_) rfl (by kernel_rfl) (by kernel_rfl) (by kernel_rfl) (by decide) (fun _ _ _ h => h) h01 rfl hHeld (Or.inl ⟨by rfl, ?_⟩) ?_
      rotate_left
      · (intro w hSw; (try dsimp only at hSw); go_simp; (try with_reducible rfl))
      try simp only [Act.put, List.setIfInBounds_toArray, List.set_cons_zero, List.set_cons_succ]
      refine wpG_takeA (i := 28) (v := ?_) rfl (by kernel_rfl) (by kernel_rfl) (by kernel_rfl) (by decide) (fun _ _ _ h => h) h01 rfl hHeld (Or.inl ⟨by rfl, ?_⟩) ?_
      rotate_left
      · (intro w hSw; (try dsimp only at hSw); go_simp; (try with_reducible rfl))
      try simp only [Act.put, List.setIfInBounds_toArray, List.set_cons_zero, List.set_cons_succ]
      refine wpG_take0 (i := 29) (v := ?_) rfl (by kernel_rfl) (by kernel_rfl) (by kernel_rfl) (by decide) (by kernel_rfl) (fun _ _ _ h => h) rfl hHeld (Or.inl ⟨by rfl, ?_⟩) ?_
      rotate_left
      · (intro w hSw; (try dsimp only at hSw); go_simp; (try with_reducible rfl))
      try simp only [Act.put, List.setIfInBounds_toArray, List.set_cons_zero, List.set_cons_succ]
      refine wpG_takeA (i := 30) (v := ?_) rfl (by kernel_rfl) (by kernel_rfl) (by kernel_rfl) (by decide) (fun _ _ _ h => h) h01 rfl hHeld (Or.inl ⟨by rfl, ?_⟩) ?_
      rotate_left
      · (intro w hSw; (try dsimp only at hSw); go_simp; (try with_reducible rfl))
      try simp only [Act.put, List.setIfInBounds_toArray, List.set_cons_zero, List.set_cons_succ]
      refine wpG_takeA (i := 31) (v := ?_) rfl (by kernel_rfl) (by kernel_rfl) (by kernel_rfl) (by decide) (fun _ _ _ h => h) h01 rfl hHeld (Or.inl ⟨by rfl, ?_⟩) ?_
      rotate_left
      · (intro w hSw; (try dsimp only at hSw); go_simp; (try with_reducible rfl))
      try simp only [Act.put, List.setIfInBounds_toArray, List.set_cons_zero, List.set_cons_succ]
      refine wpG_takeA (i := 32) (v := ?_) rfl (by kernel_rfl) (by kernel_rfl) (by kernel_rfl) (by decide) (fun _ _ _ h => h) h01 rfl hHeld (Or.inl ⟨by rfl, ?_⟩) ?_
      rotate_left
      · (intro w hSw; (try dsimp only at hSw); go_simp; (try with_reducible rfl))
      try simp only [Act.put, List.setIfInBounds_toArray, List.set_cons_zero, List.set_cons_succ]
      refine wpG_takeA (i := 33) (v := ?_) rfl (by kernel_rfl) (by kernel_rfl) (by kernel_rfl) (by decide) (fun _ _ _ h => h) h01 rfl hHeld (Or.inl ⟨by rfl, ?_⟩) ?_
      rotate_left
      · (intro w hSw; (try dsimp only at hSw); go_simp; (try with_reducible rfl))
      try simp only [Act.put, List.setIfInBounds_toArray, List.set_cons_zero, List.set_cons_succ]
      refine wpG_takeA (i := 34) (v := ?_) rfl (by kernel_rfl) (by kernel_rfl) (by kernel_rfl) (by decide) (fun _ _ _ h => h) h01 rfl hHeld (Or.inl ⟨by rfl, ?_⟩) ?_
      rotate_left
      · (intro w hSw; (try dsimp only at hSw); go_simp; (try with_reducible rfl))
      try simp only [Act.put, List.setIfInBounds_toArray, List.set_cons_zero, List.set_cons_succ]
      refine wpG_take0 (i := 35) (v := ?_) rfl (by kernel_rfl) (by kernel_rfl) (by kernel_rfl) (by decide) (by kernel_rfl) (fun _ _ _ h => h) rfl hHeld (Or.inl ⟨by rfl, ?_⟩) ?_
      rotate_left
      · (intro w hSw; (try dsimp only at hSw); go_simp; (try with_reducible rfl))
      try simp only [Act.put, List.setIfInBounds_toArray, List.set_cons_zero, List.set_cons_succ]
      refine wpG_takeA (i := 42) (v := ?_) rfl (by kernel_rfl) (by kernel_rfl) (by kernel_rfl) (by decide) (fun _ _ _ h => h) h01 rfl hHeld (Or.inl ⟨by rfl, ?_⟩) ?_
      rotate_left
      · (intro w hSw; (try dsimp only at hSw); go_simp; (try with_reducible rfl))
      try simp only [Act.put, List.setIfInBounds_toArray, List.set_cons_zero, List.set_cons_succ]
      refine wpG_takeA (i := 45) (v := ?_) rfl (by kernel_rfl) (by kernel_rfl) (by kernel_rfl) (by decide) (fun _ _ _ h => h) h01 rfl hHeld (Or.inl ⟨by rfl, ?_⟩) ?_
      rotate_left
      · (intro w hSw; (try dsimp only at hSw); go_simp; (try with_reducible rfl))
      try simp only [Act.put, List.setIfInBounds_toArray, List.set_cons_zero, List.set_cons_succ]
      refine wpG_takeA (i := 48) (v := ?_) rfl (by kernel_rfl) (by kernel_rfl) (by kernel_rfl) (by decide) (fun _ _ _ h => h) h01 rfl hHeld (Or.inl ⟨by rfl, ?_⟩) ?_
      rotate_left
      · (intro w hSw; (try dsimp only at hSw); go_simp; (try with_reducible rfl))
      try simp only [Act.put, List.setIfInBounds_toArray, List.set_cons_zero, List.set_cons_succ]
      refine wpG_takeA (i := 51) (v := ?_) rfl (by kernel_rfl) (by kernel_rfl) (by kernel_rfl) (by decide) (fun _ _ _ h => h) h01 rfl hHeld (Or.inl ⟨by rfl, ?_⟩) ?_
      rotate_left
      · (intro w hSw; (try dsimp only at hSw); go_simp; (try with_reducible rfl))
      try simp only [Act.put, List.setIfInBounds_toArray, List.set_cons_zero, List.set_cons_succ]
      refine wpG_oneB (i := 36) (by kernel_rfl) rfl rfl (fun K hK => ?_)
      go_simp
      (with_reducible refine (C9.out _).mono ?_); rintro e w2 ⟨rfl, b2⟩
      have BG2 := Lib.hid ((show Blk W1.drew g t (cw ys) from HG1.out).below b2 HG1.out.lt)
      have HL2 := Lib.hid ((show Blk W1.drew h 75 #[.int .i64 (i0 : Nat), .int .i64 (i1 : Nat), .int .i64 (i2 : Nat), .int .i64 (i3 : Nat)] from HL1.out).below b2 HL1.out.lt)
      have GR2 := Lib.hid (grown_trans (grown_drew GR1.out) (grown_of_below b2))
      have k0 := (BG2.out.cell i0).trans CX0.out.1
      have k1 := (BG2.out.cell i1).trans CX1.out.1
      have k2 := (BG2.out.cell i2).trans CX2.out.1
      have k3 := (BG2.out.cell i3).trans CX3.out.1
      have f0 := BG2.out.frozen i0
      have f1 := BG2.out.frozen i1
      have f2 := BG2.out.frozen i2
      have f3 := BG2.out.frozen i3
      clear b2
      refine hK.out _ _ ⟨HL2.out.cell 0, HL2.out.cell 1, HL2.out.cell 2, HL2.out.cell 3⟩ (fun hHeld => ?_)
      clear hK K
      try simp only [Act.put, List.setIfInBounds_toArray, List.set_cons_zero, List.set_cons_succ]
      refine wpG_takeB (i := 37) (v := ?_) rfl (by kernel_rfl) (by kernel_rfl) (by kernel_rfl) (by decide) (fun _ _ _ h => h) h01 rfl hHeld (Or.inl ⟨by rfl, ?_⟩) ?_
      rotate_left
      · (intro w hSw; (try dsimp only at hSw); go_simp; (try with_reducible rfl))
      try simp only [Act.put, List.setIfInBounds_toArray, List.set_cons_zero, List.set_cons_succ]
      refine wpG_takeB (i := 38) (v := ?_) rfl (by kernel_rfl) (by kernel_rfl) (by kernel_rfl) (by decide) (fun _ _ _ h => h) h01 rfl hHeld (Or.inl ⟨by rfl, ?_⟩) ?_
      rotate_left
      · (intro w hSw; (try dsimp only at hSw); go_simp; (try with_reducible rfl))
      try simp only [Act.put, List.setIfInBounds_toArray, List.set_cons_zero, List.set_cons_succ]
      refine wpG_takeB (i := 39) (v := ?_) rfl (by kernel_rfl) (by kernel_rfl) (by kernel_rfl) (by decide) (fun _ _ _ h => h) h01 rfl hHeld (Or.inl ⟨by rfl, ?_⟩) ?_
      rotate_left
      · (intro w hSw; (try dsimp only at hSw); go_simp; (try with_reducible rfl))
      try simp only [Act.put, List.setIfInBounds_toArray, List.set_cons_zero, List.set_cons_succ]
      refine wpG_takeB (i := 40) (v := ?_) rfl (by kernel_rfl) (by kernel_rfl) (by kernel_rfl) (by decide) (fun _ _ _ h => h) h01 rfl hHeld (Or.inl ⟨by rfl, ?_⟩) ?_
      rotate_left
      · (intro w hSw; (try dsimp only at hSw); go_simp; (try with_reducible rfl))
      try simp only [Act.put, List.setIfInBounds_toArray, List.set_cons_zero, List.set_cons_succ]
      refine wpG_takeB (i := 41) (v := ?_) rfl (by kernel_rfl) (by kernel_rfl) (by kernel_rfl) (by decide) (fun _ _ _ h => h) h01 rfl hHeld (Or.inl ⟨by rfl, ?_⟩) ?_
      rotate_left
      · (intro w hSw; (try dsimp only at hSw); go_simp; (try with_reducible rfl))
      try simp only [Act.put, List.setIfInBounds_toArray, List.set_cons_zero, List.set_cons_succ]
      refine wpG_takeB (i := 43) (v := ?_) rfl (by kernel_rfl) (by kernel_rfl) (by kernel_rfl) (by decide) (fun _ _ _ h => h) h01 rfl hHeld (Or.inl ⟨by rfl, ?_⟩) ?_
      rotate_left
      · (intro w hSw; (try dsimp only at hSw); go_simp; (try with_reducible rfl))
      try simp only [Act.put, List.setIfInBounds_toArray, List.set_cons_zero, List.set_cons_succ]
      refine wpG_oneB (i := 44) (by kernel_rfl) rfl rfl (fun K hK => ?_)
      go_simp
      refine hK.out _ _ ⟨(HL2.out.far hne _).cell 0, (HL2.out.far hne _).cell 1, (HL2.out.far hne _).cell 2, (HL2.out.far hne _).cell 3⟩ (fun hHeld => ?_)
      clear hK K
      try simp only [Act.put, List.setIfInBounds_toArray, List.set_cons_zero, List.set_cons_succ]
      refine wpG_takeB (i := 46) (v := ?_) rfl (by kernel_rfl) (by kernel_rfl) (by kernel_rfl) (by decide) (fun _ _ _ h => h) h01 rfl hHeld (Or.inl ⟨by rfl, ?_⟩) ?_
      rotate_left
      · (intro w hSw; (try dsimp only at hSw); go_simp; (try with_reducible rfl))
      try simp only [Act.put, List.setIfInBounds_toArray, List.set_cons_zero, List.set_cons_succ]
      refine wpG_oneB (i := 47) (by kernel_rfl) rfl rfl (fun K hK => ?_)
      go_simp
      refine hK.out _ _ ⟨((HL2.out.far hne _).far hne _).cell 0, ((HL2.out.far hne _).far hne _).cell 1, ((HL2.out.far hne _).far hne _).cell 2, ((HL2.out.far hne _).far hne _).cell 3⟩ (fun hHeld => ?_)
      clear hK K
      try simp only [Act.put, List.setIfInBounds_toArray, List.set_cons_zero, List.set_cons_succ]
      refine wpG_takeB (i := 49) (v := ?_) rfl (by kernel_rfl) (by kernel_rfl) (by kernel_rfl) (by decide) (fun _ _ _ h => h) h01 rfl hHeld (Or.inl ⟨by rfl, ?_⟩) ?_
      rotate_left
      · (intro w hSw; (try dsimp only at hSw); go_simp; (try with_reducible rfl))
      try simp only [Act.put, List.setIfInBounds_toArray, List.set_cons_zero, List.set_cons_succ]
      refine wpG_oneB (i := 50) (by kernel_rfl) rfl rfl (fun K hK => ?_)
      go_simp
      refine hK.out _ _ ⟨(((HL2.out.far hne _).far hne _).far hne _).cell 0, (((HL2.out.far hne _).far hne _).far hne _).cell 1, (((HL2.out.far hne _).far hne _).far hne _).cell 2, (((HL2.out.far hne _).far hne _).far hne _).cell 3⟩ (fun hHeld => ?_)
      clear hK K
      try simp only [Act.put, List.setIfInBounds_toArray, List.set_cons_zero, List.set_cons_succ]
      refine wpG_takeB (i := 52) (v := ?_) rfl (by kernel_rfl) (by kernel_rfl) (by kernel_rfl) (by decide) (fun _ _ _ h => h) h01 rfl hHeld (Or.inl ⟨by rfl, ?_⟩) ?_
      rotate_left
      · (intro w hSw; (try dsimp only at hSw); go_simp; (try with_reducible rfl))
      try simp only [Act.put, List.setIfInBounds_toArray, List.set_cons_zero, List.set_cons_succ]
      refine wpG_oneB (i := 53) (by kernel_rfl) rfl rfl (fun K hK => ?_)
      go_simp
      refine hK.out _ _ ⟨((((HL2.out.far hne _).far hne _).far hne _).far hne _).cell 0, ((((HL2.out.far hne _).far hne _).far hne _).far hne _).cell 1, ((((HL2.out.far hne _).far hne _).far hne _).far hne _).cell 2, ((((HL2.out.far hne _).far hne _).far hne _).far hne _).cell 3⟩ (fun hHeld => ?_)
      clear hK K
      try simp only [Act.put, List.setIfInBounds_toArray, List.set_cons_zero, List.set_cons_succ]
      refine wpG_done (by kernel_rfl) ?_ _
      go_wp2_with fail
      go_roundw
      case rel =>
        have hq := HQ.out
        obtain ⟨hx0, hx1, hx2, hx3⟩ := HX.out
        have hst : qstep ys (i0, i1, i2, i3) = (((ys.set i0 (qA x0 x1 x2 x3)).set i1 (qB x0 x1 x2 x3)).set i2 (qC x0 x1 x2 x3)).set i3 (qD x0 x1 x2 x3) := by
          unfold qstep
          simp only [hx0, hx1, hx2, hx3]
        refine ⟨j + 1, qstep ys (i0, i1, i2, i3), by omega, by go_num, ?_, ?_, ?_, ?_⟩
        · rw [hst]
          exact (((HY.out.set i0 (qA_lt _ _ _ _)).set i1 (qB_lt CX1.out.2)).set i2 (qC_lt _ _ _ _)).set i3 (qD_lt CX3.out.2)
        · have h := HTY.out
          rw [q8_drop j (by omega), hq] at h
          exact h
        · rw [hst, cw_set, cw_set, cw_set, cw_set]
          exact (((BG2.out.set_ i0 _).set_ i1 _).set_ i2 _).set_ i3 _
        · exact grown_set (grown_set (grown_set (grown_set GR2.out i0 _) i1 _) i2 _) i3 _
      case measure => simp [intOf]; omega
    · obtain rfl : j = 8 := by omega
      go_wp2_with fail
      go_end0
      have h := HTY.out
      rw [show q8.drop 8 = [] from rfl, List.foldl_nil] at h
      exact ⟨⟨rfl, h ▸ HG0.out⟩, GR0.out⟩
end Go.Proofs.Ytbfejjjdolfcfaa
