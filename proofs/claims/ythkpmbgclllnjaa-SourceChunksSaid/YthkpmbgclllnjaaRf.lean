/- The reference: Left, New, few, Feed, Close, Peek, Take. -/
import Derived.Test.YthkpmbgclllnjaaFe
namespace Go.Proofs.Ythkpmbgclllnjaa
open Go.RowKit
set_option linter.unusedVariables false
set_option linter.unusedSimpArgs false

/-- The four cells of the reference's source. -/
def FR (g lim : Nat) (A : Option Addr) (n c tk : Nat) (cl : Bool) (W : World) : Prop := W.cell? ⟨g, 0, none⟩ = some (.int .i64 (lim : Int)) ∧ W.cell? ⟨g, 1, none⟩ = some (.slice A n c) ∧ W.cell? ⟨g, 2, none⟩ = some (.int .i64 (tk : Int)) ∧ W.cell? ⟨g, 3, none⟩ = some (.bool cl)
theorem FR.of {W : World} {g lim : Nat} {A : Option Addr} {n c tk : Nat} {cl : Bool} (h : Blk W g 37 #[.int .i64 lim, .slice A n c, .int .i64 tk, .bool cl]) : FR g lim A n c tk cl W := ⟨h.cell 0, h.cell 1, h.cell 2, h.cell 3⟩
/-- Results: a struct in a cell, and slots. -/
theorem res2 {fn : Func} {p u : Tmp} (h : fn.results = #[.cell p 37, .tmp u]) (tmps : Array Value) (W : World) (g : Nat) (cs : Array Value) (hp : tmps.getD p undef = .pointer (some ⟨g, 0, none⟩)) (hg : Blk W g 37 cs) (hs : cs.size = 4) :
    (results fn tmps).run Try.prog W = .ok (.tuple #[.agg cs, tmps.getD u undef]) W := by
  rw [results_cell_tmp h, hp]
  simp [asAddr, Result.andThen, run_loadVar_row W g 37 37 cs (0, 0) _ hg Try.underlying37 rfl (by rw [hs]; kernel_rfl)]
theorem res3 {fn : Func} {p u u2 : Tmp} (h : fn.results = #[.cell p 37, .tmp u, .tmp u2]) (tmps : Array Value) (W : World) (g : Nat) (cs : Array Value) (hp : tmps.getD p undef = .pointer (some ⟨g, 0, none⟩)) (hg : Blk W g 37 cs) (hs : cs.size = 4) :
    (results fn tmps).run Try.prog W = .ok (.tuple #[.agg cs, tmps.getD u undef, tmps.getD u2 undef]) W := by
  have hl := run_loadVar_row (P := Try.prog) W g 37 37 cs (0, 0) _ hg Try.underlying37 rfl (by rw [hs]; kernel_rfl)
  have hp' : tmps[p]?.getD undef = .pointer (some ⟨g, 0, none⟩) := by simpa using hp
  simp only [results, h]
  simp [Sem.run_bind, Result.andThen, hp', hl, asAddr]
theorem set4 {W : World} {g : Nat} {x0 x1 x2 x3 : Value} (h : Blk W g 37 #[x0, x1, x2, x3]) (a b c d : Value) : Blk ((((W.setCell ⟨g, 0, none⟩ a).setCell ⟨g, 1, none⟩ b).setCell ⟨g, 2, none⟩ c).setCell ⟨g, 3, none⟩ d) g 37 #[a, b, c, d] := by
  have := (((h.set_ 0 a).set_ 1 b).set_ 2 c).set_ 3 d
  simpa using this
theorem below4 {B : Nat} {w W : World} {g : Nat} (h : Below B w W) (hg : B ≤ g) (a b c d : Value) : Below B w ((((W.setCell ⟨g, 0, none⟩ a).setCell ⟨g, 1, none⟩ b).setCell ⟨g, 2, none⟩ c).setCell ⟨g, 3, none⟩ d) :=
  Below.setCell (Below.setCell (Below.setCell (Below.setCell h hg _) hg _) hg _) hg _
section
variable {lim : Nat} {A : Option Addr} {n c tk : Nat} {cl : Bool} {l : List UInt8} {w : World}
set_option maxRecDepth 100000 in
theorem rleft_any (lim : Nat) (cl : Bool) (h : RB w A n c l) (ht : tk ≤ n) :
    Calls Try.prog 21 #[.agg #[.int .i64 lim, .slice A n c, .int .i64 tk, .bool cl]] w fun e w' => ∃ A' c', e = .returned (.slice A' (n - tk) c') ∧ RB w A' (n - tk) c' (l.drop tk) ∧ Within A A' ∧ Below w.heap.size w w' := by
  obtain ⟨A', c', hs, hr, hw⟩ := slice_from w A n c tk l h ht
  have HR := Lib.hid (And.intro hr hw)
  clear h ht hr hw
  go_enter Try.func21, Try.ntmps21
  go_wp2_with fail
  go_ret
  exact ⟨A', c', rfl, HR.out.1, HR.out.2, (Below.refl _ _).alloc (Nat.le_refl _) _⟩
set_option maxRecDepth 100000 in
theorem few_any : Calls Try.prog 48 #[.agg #[.int .i64 lim, .slice A n c, .int .i64 tk, .bool cl]] w fun e w' => e = .returned (.int .i64 (if cl then 9 else 4)) ∧ Below w.heap.size w w' := by
  cases cl
  all_goals
    go_enter Try.func48, Try.ntmps48
    go_wp2_with fail
    go_ret
    exact ⟨rfl, (Below.refl _ _).alloc (Nat.le_refl _) _⟩
set_option maxRecDepth 100000 in
theorem rnew_bad (n : Int) (w : World) (h : n < 1 ∨ 1048576 < n) :
    Calls Try.prog 16 #[.int .i64 n] w fun e w' => e = .returned (.tuple #[.agg #[.int .i64 0, .slice none 0 0, .int .i64 0, .bool false], .int .i64 2]) ∧ Below w.heap.size w w' := by
  by_cases h1 : n < 1
  · have q1 : decide (n < 1) = true := by simpa using h1
    clear h
    go_enter Try.func16, Try.ntmps16
    go_wp2_with fail
    exact bodyPost_ret (v := .tuple #[.agg #[.int .i64 0, .slice none 0 0, .int .i64 0, .bool false], .int .i64 2]) (by simp [results, Try.results16, go_sem]) rfl ⟨rfl, (Below.refl _ _).alloc (Nat.le_refl _) _⟩
  · have q1 : decide (n < 1) = false := by simpa using h1
    have q2 : decide (1048576 < n) = true := by simp; omega
    clear h
    go_enter Try.func16, Try.ntmps16
    go_wp2_with fail
    exact bodyPost_ret (v := .tuple #[.agg #[.int .i64 0, .slice none 0 0, .int .i64 0, .bool false], .int .i64 2]) (by simp [results, Try.results16, go_sem]) rfl ⟨rfl, (Below.refl _ _).alloc (Nat.le_refl _) _⟩
set_option maxRecDepth 100000 in
theorem rnew_ok (n : Nat) (w : World) (h0 : 1 ≤ n) (h1 : n ≤ 1048576) :
    Calls Try.prog 16 #[.int .i64 n] w fun e w' => e = .returned (.tuple #[.agg #[.int .i64 n, .slice none 0 0, .int .i64 0, .bool false], .int .i64 0]) ∧ Below w.heap.size w w' := by
  have q1 : decide ((n : Int) < 1) = false := by simp; omega
  have q2 : decide (1048576 < (n : Int)) = false := by simp; omega
  have q3 : decide (n < 1) = false := by simp; omega
  have q4 : decide (1048576 < n) = false := by simp; omega
  clear h0 h1
  go_enter Try.func16, Try.ntmps16
  go_wp2_with fail
  exact bodyPost_ret (v := .tuple #[.agg #[.int .i64 n, .slice none 0 0, .int .i64 0, .bool false], .int .i64 0]) (by simp [results, Try.results16, go_sem]) rfl ⟨rfl, (Below.refl _ _).alloc (Nat.le_refl _) _⟩
set_option maxRecDepth 100000 in
theorem rclose_any : Calls Try.prog 47 #[.agg #[.int .i64 lim, .slice A n c, .int .i64 tk, .bool cl]] w fun e w' => e = .returned (.tuple #[.agg #[.int .i64 lim, .slice A n c, .int .i64 tk, .bool true], .int .i64 (if cl then 8 else 0)]) ∧ Below w.heap.size w w' := by
  have hb : Below w.heap.size w ((w.alloc (.cells #[.int .i64 lim, .slice A n c, .int .i64 tk, .bool true] 37)).alloc (.cells #[.int .i64 lim, .slice A n c, .int .i64 tk, .bool true] 37)) := ((Below.refl _ _).alloc (Nat.le_refl _) _).alloc (by simp) _
  cases cl
  · go_enter Try.func47, Try.ntmps47
    go_wp2_with fail
    exact bodyPost_ret (v := .tuple #[.agg #[.int .i64 lim, .slice A n c, .int .i64 tk, .bool true], .int .i64 0]) (by simp [results, Try.results47, go_sem]) rfl ⟨rfl, hb⟩
  · go_enter Try.func47, Try.ntmps47
    go_wp2_with fail
    exact bodyPost_ret (v := .tuple #[.agg #[.int .i64 lim, .slice A n c, .int .i64 tk, .bool true], .int .i64 8]) (by simp [results, Try.results47, go_sem]) rfl ⟨rfl, hb⟩
/-- The error of Feed, at the reference. -/
theorem feedE_ref (hl : (l.drop tk).length = n - tk) (m : Nat) : feedE lim cl (l.drop tk) m = if cl then 8 else if (lim : Int) < ((n - tk : Nat) : Int) + m then 7 else 0 := by
  unfold feedE
  rw [hl]
  cases cl
  · simp only [Bool.false_eq_true, if_false]
    by_cases h : (lim : Int) - ((n - tk : Nat) : Int) < m
    · rw [if_pos h, if_pos (by omega)]
    · rw [if_neg h, if_neg (by omega)]
  · rfl
/-- What Feed of the reference returns. -/
def RFed (w : World) (lim tk : Nat) (cl : Bool) (A : Option Addr) (l x : List UInt8) (E : Int) (e : Ending) (w' : World) : Prop := ∃ A' c' n' l', e = .returned (.tuple #[.agg #[.int .i64 lim, .slice A' n' c', .int .i64 tk, .bool cl], .int .i64 E]) ∧ RB w' A' n' c' l' ∧ l' = (if E = 0 then l ++ x else l) ∧ Below w.heap.size w w' ∧ ((¬ E = 0 ∧ A' = A) ∨ ∀ a, A' = some a → w.heap.size ≤ a.block ∧ a.spot = none)
set_option maxRecDepth 100000 in
set_option maxHeartbeats 1000000 in
theorem rfeed_any (h : RB w A n c l) (ht : tk ≤ n) (hn : n ≤ 2000000) (hlim : lim ≤ 1048576) (X : Option Addr) (m cx : Nat) (x : List UInt8) (hx : RB w X m cx x) (hm : m ≤ 1000000) :
    Calls Try.prog 43 #[.agg #[.int .i64 lim, .slice A n c, .int .i64 tk, .bool cl], .slice X m cx] w (RFed w lim tk cl A l x (feedE lim cl (l.drop tk) m)) := by
  have hfe := feedE_ref (lim := lim) (cl := cl) (n := n) (tk := tk) (l := l) (by rw [List.length_drop, h.len]) m
  obtain ⟨E, hE⟩ : ∃ E, feedE lim cl (l.drop tk) m = E := ⟨_, rfl⟩
  rw [hE] at hfe ⊢
  have H := Lib.hid h
  have HX := Lib.hid hx
  have HM := Lib.hid (And.intro hm hn)
  have hm2 : (m : Int) ≤ 1000000 := by omega
  have hm0 : (0 : Int) ≤ m := by omega
  obtain ⟨w0, hW0⟩ : ∃ w0, (w.alloc (.cells #[.int .i64 lim, .slice A n c, .int .i64 tk, .bool cl] 37)).alloc (.cells #[.int .i64 0, .slice none 0 0, .int .i64 0, .bool false] 37) = w0 := ⟨_, rfl⟩
  have hbw : Below w.heap.size w w0 := hW0 ▸ ((Below.refl _ w).alloc (Nat.le_refl _) _).alloc (by simp) _
  have k1 : Blk w0 w.heap.size 37 #[.int .i64 lim, .slice A n c, .int .i64 tk, .bool cl] := hW0 ▸ (Blk.new w 37 _).alloc _
  have k2 : Blk w0 (w.heap.size + 1) 37 #[.int .i64 0, .slice none 0 0, .int .i64 0, .bool false] := by have := Blk.new (w.alloc (.cells #[.int .i64 lim, .slice A n c, .int .i64 tk, .bool cl] 37)) 37 #[.int .i64 0, .slice none 0 0, .int .i64 0, .bool false]; rw [World.size_alloc, hW0] at this; exact this
  have HBW := Lib.hid hbw
  have HK1 := Lib.hid k1
  have HK2 := Lib.hid k2
  have HW0 := Lib.hid hW0
  cases cl
  · have HS0 := Lib.hid (show FR w.heap.size lim A n c tk false w0.drew from FR.of k1)
    have C21 := Lib.hid (rleft_any (w := w0.drew) lim false (h.below (below_drew hbw)) ht)
    have hlim2 : (lim : Int) ≤ 1048576 := by omega
    have hlim0 : (0 : Int) ≤ lim := by omega
    rw [if_neg (by simp)] at hfe
    obtain ⟨d, hd⟩ : ∃ d, n - tk = d := ⟨_, rfl⟩
    have hd2 : (d : Int) ≤ 2000000 := by omega
    have hd0 : (0 : Int) ≤ d := by omega
    rw [hd] at C21 hfe
    have HWR := Lib.hid (show IntKind.i64.wrap ((d : Int) + m) = (d : Int) + m from IntWalk.i64_in _ (by omega))
    have HFE := Lib.hid hfe
    have hfr : ∀ W, Below w0.heap.size w0 W → FR w.heap.size lim A n c tk false W := fun W hb => FR.of (HK1.out.below hb HK1.out.lt)
    have HFR := Lib.hid hfr
    clear h hx hm hn hbw k1 k2 hW0 hE hfe ht hlim hd hfr
    by_cases hlt : (lim : Int) < (d : Int) + m
    · have hE7 := HFE.out
      rw [if_pos hlt] at hE7
      subst hE7
      go_enter Try.func43, Try.ntmps43
      go_wp2_with fail
      rw [HW0.out]
      refine wp_region_G (S0 := (FR w.heap.size lim A n c tk false)) (S1 := (FR w.heap.size lim A n c tk false)) (c := 99) (by kernel_rfl) ?_
      have hHeld := HS0.out
      have h01 := (fun (W : World) (h : (FR w.heap.size lim A n c tk false) W) => h)
      refine wpG_takeB (i := 0) (oi := ⟨some 9, _, _, _, _, _⟩) (v := .agg #[.int .i64 lim, .slice A n c, .int .i64 tk, .bool false]) rfl (by kernel_rfl) (by kernel_rfl) (by kernel_rfl) (by decide) (fun _ _ _ h => h) h01 rfl hHeld (Or.inl ⟨by rfl, ?_⟩) ?_
      · (intro W9 hSw; obtain ⟨v1, v2, v3, v4⟩ := hSw; go_simp; (try (first | with_reducible rfl | rfl | exact HWR.out | (rw [HWR.out]; done) | omega)))
      try simp only [Act.put, List.setIfInBounds_toArray, List.set_cons_zero, List.set_cons_succ]
      refine wpG_takeB (i := 3) (oi := ⟨some 12, _, _, _, _, _⟩) (v := .slice X m cx) rfl (by kernel_rfl) (by kernel_rfl) (by kernel_rfl) (by decide) (fun _ _ _ h => h) h01 rfl hHeld (Or.inl ⟨by rfl, ?_⟩) ?_
      · (intro W9 hSw; obtain ⟨v1, v2, v3, v4⟩ := hSw; go_simp; (try (first | with_reducible rfl | rfl | exact HWR.out | (rw [HWR.out]; done) | omega)))
      try simp only [Act.put, List.setIfInBounds_toArray, List.set_cons_zero, List.set_cons_succ]
      refine wpG_takeB (i := 4) (oi := ⟨some 13, _, _, _, _, _⟩) (v := .int .i64 (m : Int)) rfl (by kernel_rfl) (by kernel_rfl) (by kernel_rfl) (by decide) (fun _ _ _ h => h) h01 rfl hHeld (Or.inl ⟨by rfl, ?_⟩) ?_
      · (intro W9 hSw; obtain ⟨v1, v2, v3, v4⟩ := hSw; go_simp; (try (first | with_reducible rfl | rfl | exact HWR.out | (rw [HWR.out]; done) | omega)))
      try simp only [Act.put, List.setIfInBounds_toArray, List.set_cons_zero, List.set_cons_succ]
      refine wpG_takeB (i := 6) (oi := ⟨some 15, _, _, _, _, _⟩) (v := .pointer (some ⟨w.heap.size, 0, none⟩)) rfl (by kernel_rfl) (by kernel_rfl) (by kernel_rfl) (by decide) (fun _ _ _ h => h) h01 rfl hHeld (Or.inl ⟨by rfl, ?_⟩) ?_
      · (intro W9 hSw; obtain ⟨v1, v2, v3, v4⟩ := hSw; go_simp; (try (first | with_reducible rfl | rfl | exact HWR.out | (rw [HWR.out]; done) | omega)))
      try simp only [Act.put, List.setIfInBounds_toArray, List.set_cons_zero, List.set_cons_succ]
      refine wpG_takeB (i := 7) (oi := ⟨some 16, _, _, _, _, _⟩) (v := .int .i64 (lim : Int)) rfl (by kernel_rfl) (by kernel_rfl) (by kernel_rfl) (by decide) (fun _ _ _ h => h) h01 rfl hHeld (Or.inl ⟨by rfl, ?_⟩) ?_
      · (intro W9 hSw; obtain ⟨v1, v2, v3, v4⟩ := hSw; go_simp; (try (first | with_reducible rfl | rfl | exact HWR.out | (rw [HWR.out]; done) | omega)))
      try simp only [Act.put, List.setIfInBounds_toArray, List.set_cons_zero, List.set_cons_succ]
      refine wpG_oneB (i := 1) (o := ⟨some 10, _, _, _, _, _⟩) (by kernel_rfl) rfl rfl (fun K hK => ?_)
      go_simp
      (with_reducible refine C21.out.mono ?_); rintro e w1 ⟨A1, c1, rfl, -, -, b1⟩
      have HB1 := Lib.hid (show Below w0.heap.size w0 w1 from (below_drew (Below.refl w0.heap.size w0)).trans b1)
      clear b1
      refine hK.out _ _ (HFR.out w1 HB1.out) (fun hHeld => ?_)
      clear hK K
      try simp only [Act.put, List.setIfInBounds_toArray, List.set_cons_zero, List.set_cons_succ]
      refine wpG_takeB (i := 2) (oi := ⟨some 11, _, _, _, _, _⟩) (v := .int .i64 (d : Int)) rfl (by kernel_rfl) (by kernel_rfl) (by kernel_rfl) (by decide) (fun _ _ _ h => h) h01 rfl hHeld (Or.inl ⟨by rfl, ?_⟩) ?_
      · (intro W9 hSw; obtain ⟨v1, v2, v3, v4⟩ := hSw; go_simp; (try (first | with_reducible rfl | rfl | exact HWR.out | (rw [HWR.out]; done) | omega)))
      try simp only [Act.put, List.setIfInBounds_toArray, List.set_cons_zero, List.set_cons_succ]
      refine wpG_takeB (i := 5) (oi := ⟨some 14, _, _, _, _, _⟩) (v := .int .i64 ((d : Int) + m)) rfl (by kernel_rfl) (by kernel_rfl) (by kernel_rfl) (by decide) (fun _ _ _ h => h) h01 rfl hHeld (Or.inl ⟨by rfl, ?_⟩) ?_
      · (intro W9 hSw; obtain ⟨v1, v2, v3, v4⟩ := hSw; go_simp; (try (first | with_reducible rfl | rfl | exact HWR.out | (rw [HWR.out]; done) | omega)))
      try simp only [Act.put, List.setIfInBounds_toArray, List.set_cons_zero, List.set_cons_succ]
      refine wpG_takeB (i := 8) (oi := ⟨some 17, _, _, _, _, _⟩) (v := .bool true) rfl (by kernel_rfl) (by kernel_rfl) (by kernel_rfl) (by decide) (fun _ _ _ h => h) h01 rfl hHeld (Or.inl ⟨by rfl, ?_⟩) ?_
      · (intro W9 hSw; obtain ⟨v1, v2, v3, v4⟩ := hSw; go_simp; (try (first | with_reducible rfl | rfl | exact HWR.out | (rw [HWR.out]; done) | omega)))
      try simp only [Act.put, List.setIfInBounds_toArray, List.set_cons_zero, List.set_cons_succ]
      refine wpG_done (by kernel_rfl) ?_ _
      clear hHeld h01
      have b0 := (HK1.out.below HB1.out HK1.out.lt).cell 0
      have b1 := (HK1.out.below HB1.out HK1.out.lt).cell 1
      have b2 := (HK1.out.below HB1.out HK1.out.lt).cell 2
      have b3 := (HK1.out.below HB1.out HK1.out.lt).cell 3
      have K2 := Lib.hid (HK2.out.below HB1.out HK2.out.lt)
      have g0 := K2.out.frozen 0
      have g1 := K2.out.frozen 1
      have g2 := K2.out.frozen 2
      have g3 := K2.out.frozen 3
      have r0 := K2.out.cell 0
      have r1 := K2.out.cell 1
      have r2 := K2.out.cell 2
      have r3 := K2.out.cell 3
      simp at b0 b1 b2 b3 r0 r1 r2 r3
      go_wp2_with fail
      have hbf := below4 (HBW.out.trans (HB1.out.mono HBW.out.size)) (g := w.heap.size + 1) (by omega) (.int .i64 lim) (.slice A n c) (.int .i64 tk) (.bool false)
      exact bodyPost_ret (v := .tuple #[.agg #[.int .i64 lim, .slice A n c, .int .i64 tk, .bool false], .int .i64 7]) (by exact res2 (fn := Try.f43) (p := 4) (u := 5) rfl _ _ (w.heap.size + 1) _ rfl (set4 K2.out _ _ _ _) rfl) rfl ⟨A, c, n, l, rfl, H.out.below hbf, rfl, hbf, .inl ⟨by omega, rfl⟩⟩
    · have hE0 := HFE.out
      rw [if_neg hlt] at hE0
      subst hE0
      have hlt' : (d : Int) + m ≤ lim := by omega
      go_enter Try.func43, Try.ntmps43
      go_wp2_with fail
      rw [HW0.out]
      refine wp_region_G (S0 := (FR w.heap.size lim A n c tk false)) (S1 := (FR w.heap.size lim A n c tk false)) (c := 99) (by kernel_rfl) ?_
      have hHeld := HS0.out
      have h01 := (fun (W : World) (h : (FR w.heap.size lim A n c tk false) W) => h)
      refine wpG_takeB (i := 0) (oi := ⟨some 9, _, _, _, _, _⟩) (v := .agg #[.int .i64 lim, .slice A n c, .int .i64 tk, .bool false]) rfl (by kernel_rfl) (by kernel_rfl) (by kernel_rfl) (by decide) (fun _ _ _ h => h) h01 rfl hHeld (Or.inl ⟨by rfl, ?_⟩) ?_
      · (intro W9 hSw; obtain ⟨v1, v2, v3, v4⟩ := hSw; go_simp; (try (first | with_reducible rfl | rfl | exact HWR.out | (rw [HWR.out]; done) | omega)))
      try simp only [Act.put, List.setIfInBounds_toArray, List.set_cons_zero, List.set_cons_succ]
      refine wpG_takeB (i := 3) (oi := ⟨some 12, _, _, _, _, _⟩) (v := .slice X m cx) rfl (by kernel_rfl) (by kernel_rfl) (by kernel_rfl) (by decide) (fun _ _ _ h => h) h01 rfl hHeld (Or.inl ⟨by rfl, ?_⟩) ?_
      · (intro W9 hSw; obtain ⟨v1, v2, v3, v4⟩ := hSw; go_simp; (try (first | with_reducible rfl | rfl | exact HWR.out | (rw [HWR.out]; done) | omega)))
      try simp only [Act.put, List.setIfInBounds_toArray, List.set_cons_zero, List.set_cons_succ]
      refine wpG_takeB (i := 4) (oi := ⟨some 13, _, _, _, _, _⟩) (v := .int .i64 (m : Int)) rfl (by kernel_rfl) (by kernel_rfl) (by kernel_rfl) (by decide) (fun _ _ _ h => h) h01 rfl hHeld (Or.inl ⟨by rfl, ?_⟩) ?_
      · (intro W9 hSw; obtain ⟨v1, v2, v3, v4⟩ := hSw; go_simp; (try (first | with_reducible rfl | rfl | exact HWR.out | (rw [HWR.out]; done) | omega)))
      try simp only [Act.put, List.setIfInBounds_toArray, List.set_cons_zero, List.set_cons_succ]
      refine wpG_takeB (i := 6) (oi := ⟨some 15, _, _, _, _, _⟩) (v := .pointer (some ⟨w.heap.size, 0, none⟩)) rfl (by kernel_rfl) (by kernel_rfl) (by kernel_rfl) (by decide) (fun _ _ _ h => h) h01 rfl hHeld (Or.inl ⟨by rfl, ?_⟩) ?_
      · (intro W9 hSw; obtain ⟨v1, v2, v3, v4⟩ := hSw; go_simp; (try (first | with_reducible rfl | rfl | exact HWR.out | (rw [HWR.out]; done) | omega)))
      try simp only [Act.put, List.setIfInBounds_toArray, List.set_cons_zero, List.set_cons_succ]
      refine wpG_takeB (i := 7) (oi := ⟨some 16, _, _, _, _, _⟩) (v := .int .i64 (lim : Int)) rfl (by kernel_rfl) (by kernel_rfl) (by kernel_rfl) (by decide) (fun _ _ _ h => h) h01 rfl hHeld (Or.inl ⟨by rfl, ?_⟩) ?_
      · (intro W9 hSw; obtain ⟨v1, v2, v3, v4⟩ := hSw; go_simp; (try (first | with_reducible rfl | rfl | exact HWR.out | (rw [HWR.out]; done) | omega)))
      try simp only [Act.put, List.setIfInBounds_toArray, List.set_cons_zero, List.set_cons_succ]
      refine wpG_oneB (i := 1) (o := ⟨some 10, _, _, _, _, _⟩) (by kernel_rfl) rfl rfl (fun K hK => ?_)
      go_simp
      (with_reducible refine C21.out.mono ?_); rintro e w1 ⟨A1, c1, rfl, -, -, b1⟩
      have HB1 := Lib.hid (show Below w0.heap.size w0 w1 from (below_drew (Below.refl w0.heap.size w0)).trans b1)
      clear b1
      refine hK.out _ _ (HFR.out w1 HB1.out) (fun hHeld => ?_)
      clear hK K
      try simp only [Act.put, List.setIfInBounds_toArray, List.set_cons_zero, List.set_cons_succ]
      refine wpG_takeB (i := 2) (oi := ⟨some 11, _, _, _, _, _⟩) (v := .int .i64 (d : Int)) rfl (by kernel_rfl) (by kernel_rfl) (by kernel_rfl) (by decide) (fun _ _ _ h => h) h01 rfl hHeld (Or.inl ⟨by rfl, ?_⟩) ?_
      · (intro W9 hSw; obtain ⟨v1, v2, v3, v4⟩ := hSw; go_simp; (try (first | with_reducible rfl | rfl | exact HWR.out | (rw [HWR.out]; done) | omega)))
      try simp only [Act.put, List.setIfInBounds_toArray, List.set_cons_zero, List.set_cons_succ]
      refine wpG_takeB (i := 5) (oi := ⟨some 14, _, _, _, _, _⟩) (v := .int .i64 ((d : Int) + m)) rfl (by kernel_rfl) (by kernel_rfl) (by kernel_rfl) (by decide) (fun _ _ _ h => h) h01 rfl hHeld (Or.inl ⟨by rfl, ?_⟩) ?_
      · (intro W9 hSw; obtain ⟨v1, v2, v3, v4⟩ := hSw; go_simp; (try (first | with_reducible rfl | rfl | exact HWR.out | (rw [HWR.out]; done) | omega)))
      try simp only [Act.put, List.setIfInBounds_toArray, List.set_cons_zero, List.set_cons_succ]
      refine wpG_takeB (i := 8) (oi := ⟨some 17, _, _, _, _, _⟩) (v := .bool false) rfl (by kernel_rfl) (by kernel_rfl) (by kernel_rfl) (by decide) (fun _ _ _ h => h) h01 rfl hHeld (Or.inl ⟨by rfl, ?_⟩) ?_
      · (intro W9 hSw; obtain ⟨v1, v2, v3, v4⟩ := hSw; go_simp; (try (first | with_reducible rfl | rfl | exact HWR.out | (rw [HWR.out]; done) | omega)))
      try simp only [Act.put, List.setIfInBounds_toArray, List.set_cons_zero, List.set_cons_succ]
      refine wpG_done (by kernel_rfl) ?_ _
      clear hHeld h01
      have HH := Lib.hid ((H.out.below HBW.out).below HB1.out)
      have HHX := Lib.hid ((HX.out.below HBW.out).below HB1.out)
      have HLT := Lib.hid (And.intro hlt' hlt)
      have b1 : (w1.alloc (.cells #[] 5)).cell? ⟨w.heap.size, 1, none⟩ = some (.slice A n c) := ((HK1.out.below HB1.out HK1.out.lt).alloc (.cells #[] 5)).cell 1
      clear hlt' hlt
      go_wp2_with (at_builtin; (refine wpList_app_own (base := w1.heap.size) (n := 0) (m := n) (xs := []) (news := l.map u8) rfl (.tmp 19) (.tmp 21) 22 rfl el22 rfl (own_none00 w1 5) rfl (HH.out.h.alloc _) (u8_one _) (by have := HM.out; unfold maxLen; omega) (by have := HM.out; omega) (by simp) ?_; intro v2 w2 ho2 hg2 _; rw [Nat.zero_add, List.nil_append] at ho2; obtain ⟨A2, c2, rfl, -⟩ := own_form ho2; have HO2 := Lib.hid ho2; have HB2 := Lib.hid (below_own ((Below.refl w1.heap.size w1).alloc (Nat.le_refl _) _) (by simp) (own_none00 w1 5) hg2); clear ho2 hg2; refine Hid.out ?_))
      refine Lib.hid ?_
      go_wp2_with (at_builtin; (refine wpList_app_own (base := w1.heap.size) (n := n) (m := m) (xs := l.map u8) (news := x.map u8) rfl (.tmp 22) (.tmp 23) 22 rfl el22 rfl HO2.out rfl ((HHX.out.below HB2.out).h) (u8_one _) (by have := HM.out; unfold maxLen; omega) (by have := HM.out; omega) HB2.out.size ?_; intro v3 w3 ho3 hg3 _; rw [← List.map_append] at ho3; obtain ⟨A3, c3, rfl, -⟩ := own_form ho3; have HO3 := Lib.hid ho3; have HB3 := Lib.hid (below_own HB2.out HB2.out.size HO2.out hg3); clear ho3 hg3; refine Hid.out ?_))
      refine Lib.hid ?_
      have HB4 := Lib.hid (show Below w0.heap.size w0 w3 from HB1.out.trans (HB3.out.mono HB1.out.size))
      have K1 := Lib.hid (HK1.out.below HB4.out HK1.out.lt)
      have K2 := Lib.hid (HK2.out.below HB4.out HK2.out.lt)
      clear b1
      have b0 := K1.out.cell 0
      have b1 := K1.out.cell 1
      have b2 := K1.out.cell 2
      have b3 := K1.out.cell 3
      have f1 := K1.out.frozen 1
      have g0 := K2.out.frozen 0
      have g1 := K2.out.frozen 1
      have g2 := K2.out.frozen 2
      have g3 := K2.out.frozen 3
      have r0 := K2.out.cell 0
      have r1 := K2.out.cell 1
      have r2 := K2.out.cell 2
      have r3 := K2.out.cell 3
      simp at b0 b1 b2 b3 r0 r1 r2 r3
      go_wp2_with fail
      obtain ⟨w5, hw5⟩ : ∃ w5, w3.setCell ⟨w.heap.size, 1, none⟩ (.slice A3 (n + m) c3) = w5 := ⟨_, rfl⟩
      have K2b : Blk w5 (w.heap.size + 1) 37 #[.int .i64 0, .slice none 0 0, .int .i64 0, .bool false] := hw5 ▸ K2.out.far (by simp) _
      have hb5 : Below w.heap.size w w5 := hw5 ▸ Below.setCell (HBW.out.trans (HB4.out.mono HBW.out.size)) (Nat.le_refl _) _
      have ho5 : w5.ownsRow w1.heap.size 5 1 (.slice A3 (n + m) c3) (n + m) ((l ++ x).map u8) := own_keeps HO3.out fun k hk => hw5 ▸ Below.heap_setCell _ _ _ _ (by have := (HO3.out.lt k hk).1; have := HB1.out.size; have := HK1.out.lt; simp; omega)
      rw [hw5]
      have hbf := below4 hb5 (g := w.heap.size + 1) (by omega) (.int .i64 lim) (.slice A3 (n + m) c3) (.int .i64 tk) (.bool false)
      refine bodyPost_ret (v := .tuple #[.agg #[.int .i64 lim, .slice A3 (n + m) c3, .int .i64 tk, .bool false], .int .i64 0]) (by exact res2 (fn := Try.f43) (p := 4) (u := 5) rfl _ _ (w.heap.size + 1) _ rfl (set4 K2b _ _ _ _) rfl) rfl ⟨A3, c3, n + m, l ++ x, rfl, ?_, (if_pos rfl).symm, hbf, .inr fun a ha => ?_⟩
      · obtain ⟨A9, c9, e9, hr9⟩ := own_RB (own_keeps ho5 (w' := ((((w5.setCell ⟨w.heap.size + 1, 0, none⟩ (.int .i64 lim)).setCell ⟨w.heap.size + 1, 1, none⟩ (.slice A3 (n + m) c3)).setCell ⟨w.heap.size + 1, 2, none⟩ (.int .i64 tk)).setCell ⟨w.heap.size + 1, 3, none⟩ (.bool false))) fun k hk => by
          have hne : k ≠ w.heap.size + 1 := by have := (HO3.out.lt k hk).1; have := HB1.out.size; have := HK2.out.lt; omega
          rw [Below.heap_setCell _ _ _ _ (by simpa using hne), Below.heap_setCell _ _ _ _ (by simpa using hne), Below.heap_setCell _ _ _ _ (by simpa using hne), Below.heap_setCell _ _ _ _ (by simpa using hne)])
        injection e9 with e1 e2 e3
        subst e1 e3
        exact hr9
      · rcases HO3.out.2 with ⟨h0, _⟩ | ⟨g, cap, cur, hv, hgl, _⟩
        · injection h0 with h0; rw [ha] at h0; cases h0
        · injection hv with hv; rw [ha] at hv; cases hv; have := HBW.out.size; have := HB1.out.size; exact ⟨show w.heap.size ≤ g by omega, rfl⟩
  · obtain rfl : E = 8 := hfe.trans (if_pos rfl)
    have hb : Below w.heap.size w ((w.alloc (.cells #[.int .i64 lim, .slice A n c, .int .i64 tk, .bool true] 37)).alloc (.cells #[.int .i64 lim, .slice A n c, .int .i64 tk, .bool true] 37)) := ((Below.refl _ _).alloc (Nat.le_refl _) _).alloc (by simp) _
    have HB := Lib.hid hb
    clear h hx hm hn hbw k1 k2 hW0 hE hfe HW0 HK1 HK2 HBW hb
    go_enter Try.func43, Try.ntmps43
    go_wp2_with fail
    refine bodyPost_ret (v := .tuple #[.agg #[.int .i64 lim, .slice A n c, .int .i64 tk, .bool true], .int .i64 8]) (by simp [results, Try.results43, go_sem]) rfl ⟨A, c, n, l, rfl, H.out.below HB.out, rfl, HB.out, .inl ⟨by omega, rfl⟩⟩
end
end Go.Proofs.Ythkpmbgclllnjaa
