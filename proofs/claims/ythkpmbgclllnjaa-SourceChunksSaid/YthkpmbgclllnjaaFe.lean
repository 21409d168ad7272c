/- Feed, Close, New, Copy. -/
import Derived.Test.YthkpmbgclllnjaaUn
namespace Go.Proofs.Ythkpmbgclllnjaa
open Go.RowKit
set_option linter.unusedVariables false
set_option linter.unusedSimpArgs false
attribute [local go_sem] fld0 fld1 fld2

/-- The error of Feed. -/
def feedE (lim : Nat) (cl : Bool) (l : List UInt8) (m : Nat) : Int := if cl then 8 else if (lim : Int) - l.length < m then 7 else 0
/-- Three cells of a source. -/
def FC (bs bt bb : Nat) (v : Value) (W : World) : Prop := W.cell? ⟨bs, 0, none⟩ = some (.pointer (some ⟨bt, 0, none⟩)) ∧ W.cell? ⟨bt, 0, none⟩ = some (.pointer (some ⟨bb, 0, none⟩)) ∧ W.cell? ⟨bb, 0, none⟩ = some v
/-- Four. -/
def FD (bs bt bb : Nat) (v : Value) (tk : Nat) (W : World) : Prop := FC bs bt bb v W ∧ W.cell? ⟨bb, 1, none⟩ = some (.int .i64 (tk : Int))

set_option maxRecDepth 100000 in
theorem feed_none (p A : Option Addr) (m c : Nat) (w : World) (h : NoSrc p w) :
    Calls Try.prog 10 #[.pointer p, .slice A m c] w fun e w' => e = .returned (.int .i64 1) ∧ Below w.heap.size w w' := by
  have C := Lib.hid (open_none h)
  clear h
  go_enter Try.func10, Try.ntmps10
  go_wp2_with (go_at_call 29; (with_reducible refine C.out.mono ?_); rintro e w1 ⟨rfl, rfl⟩)
  go_ret
  exact ⟨rfl, Below.refl _ _⟩
set_option maxRecDepth 100000 in
theorem close_none (p : Option Addr) (w : World) (h : NoSrc p w) :
    Calls Try.prog 28 #[.pointer p] w fun e w' => e = .returned (.int .i64 1) ∧ Below w.heap.size w w' := by
  have C := Lib.hid (open_none h)
  clear h
  go_enter Try.func28, Try.ntmps28
  go_wp2_with (go_at_call 29; (with_reducible refine C.out.mono ?_); rintro e w1 ⟨rfl, rfl⟩)
  go_ret
  exact ⟨rfl, Below.refl _ _⟩
set_option maxRecDepth 100000 in
theorem copy_none (p : Option Addr) (w : World) (h : NoSrc p w) :
    Calls Try.prog 18 #[.pointer p] w fun e w' => e = .returned (.pointer none) ∧ Below w.heap.size w w' := by
  have C := Lib.hid (h w (Below.refl _ _))
  clear h
  go_enter Try.func18, Try.ntmps18
  go_wp2_with (go_at_call 38; (with_reducible refine C.out.mono ?_); rintro e w1 ⟨rfl, rfl⟩)
  go_ret
  exact ⟨rfl, Below.refl _ _⟩
set_option maxRecDepth 100000 in
theorem new_bad (n : Int) (w : World) (h : n < 1 ∨ 1048576 < n) :
    Calls Try.prog 9 #[.int .i64 n] w fun e w' => e = .returned (.tuple #[.pointer none, .int .i64 2]) ∧ Below w.heap.size w w' := by
  by_cases h1 : n < 1
  · have q1 : decide (n < 1) = true := by simpa using h1
    clear h
    go_enter Try.func9, Try.ntmps9
    go_wp2_with fail
    exact bodyPost_ret (v := .tuple #[.pointer none, .int .i64 2]) (by simp [results, Try.results9, go_sem]) rfl ⟨rfl, Below.refl _ _⟩
  · have q1 : decide (n < 1) = false := by simpa using h1
    have q2 : decide (1048576 < n) = true := by simp; omega
    clear h
    go_enter Try.func9, Try.ntmps9
    go_wp2_with fail
    exact bodyPost_ret (v := .tuple #[.pointer none, .int .i64 2]) (by simp [results, Try.results9, go_sem]) rfl ⟨rfl, Below.refl _ _⟩
set_option maxRecDepth 100000 in
theorem new_ok (n : Nat) (w : World) (h0 : 1 ≤ n) (h1 : n ≤ 1048576) :
    Calls Try.prog 9 #[.int .i64 n] w fun e w' => ∃ bs bt bb, e = .returned (.tuple #[.pointer (some ⟨bs, 0, none⟩), .int .i64 0]) ∧ SS w' w.heap.size bs bt bb (.slice none 0 0) n [] 0 false ∧ Below w.heap.size w w' ∧ w.heap.size ≤ bs ∧ w.heap.size ≤ bt ∧ w.heap.size ≤ bb := by
  have q1 : decide ((n : Int) < 1) = false := by simp; omega
  have q2 : decide (1048576 < (n : Int)) = false := by simp; omega
  have q3 : decide (n < 1) = false := by simp; omega
  have q4 : decide (1048576 < n) = false := by simp; omega
  have H := Lib.hid (And.intro h0 h1)
  clear h0 h1
  go_enter Try.func9, Try.ntmps9
  go_wp2_with fail
  obtain ⟨w1, hw1⟩ : ∃ w1, ((w.alloc (.cells #[.slice none 0 0, .int .i64 0] 63)).alloc (.cells #[.pointer (some ⟨w.heap.size, 0, none⟩), .int .i64 n, .bool false] 65)).alloc (.cells #[.pointer (some ⟨w.heap.size + 1, 0, none⟩)] 56) = w1 := ⟨_, rfl⟩
  have kb : Blk w1 w.heap.size 63 #[.slice none 0 0, .int .i64 0] := hw1 ▸ ((Blk.new w 63 _).alloc _).alloc _
  have kt : Blk w1 (w.heap.size + 1) 65 #[.pointer (some ⟨w.heap.size, 0, none⟩), .int .i64 n, .bool false] := by have := (Blk.new (w.alloc (.cells #[.slice none 0 0, .int .i64 0] 63)) 65 #[.pointer (some ⟨w.heap.size, 0, none⟩), .int .i64 n, .bool false]).alloc (.cells #[.pointer (some ⟨w.heap.size + 1, 0, none⟩)] 56); rw [World.size_alloc, hw1] at this; exact this
  have ks : Blk w1 (w.heap.size + 1 + 1) 56 #[.pointer (some ⟨w.heap.size + 1, 0, none⟩)] := by have := Blk.new ((w.alloc (.cells #[.slice none 0 0, .int .i64 0] 63)).alloc (.cells #[.pointer (some ⟨w.heap.size, 0, none⟩), .int .i64 n, .bool false] 65)) 56 #[.pointer (some ⟨w.heap.size + 1, 0, none⟩)]; rw [World.size_alloc, World.size_alloc, hw1] at this; exact this
  have hb : Below w.heap.size w w1 := hw1 ▸ (((Below.refl _ w).alloc (Nat.le_refl _) _).alloc (by simp) _).alloc (by simp; omega) _
  rw [hw1]
  exact bodyPost_ret (v := .tuple #[.pointer (some ⟨w.heap.size + 1 + 1, 0, none⟩), .int .i64 0]) (by simp [results, Try.results9, go_sem]) rfl ⟨w.heap.size + 1 + 1, w.heap.size + 1, w.heap.size, rfl, ⟨ks, kt, kb, World.ownsRow_nil _ _ 5 1, hb.size, H.out.2, by simp, by omega⟩, hb, by omega, by omega, by omega⟩
section
variable {w : World} {B bs bt bb : Nat} {v : Value} {lim : Nat} {l : List UInt8} {tk : Nat} {cl : Bool}
set_option maxRecDepth 100000 in
theorem close_bad (h : SS w B bs bt bb v lim l tk true) :
    Calls Try.prog 28 #[.pointer (some ⟨bs, 0, none⟩)] w fun e w' => e = .returned (.int .i64 8) ∧ Below w.heap.size w w' := by
  have C := Lib.hid (open_some h)
  clear h
  go_enter Try.func28, Try.ntmps28
  go_wp2_with (go_at_call 29; (with_reducible refine C.out.mono ?_); rintro e w1 ⟨rfl, rfl⟩)
  go_ret
  exact ⟨rfl, Below.refl _ _⟩
set_option maxRecDepth 100000 in
theorem close_ok (h : SS w B bs bt bb v lim l tk false) :
    Calls Try.prog 28 #[.pointer (some ⟨bs, 0, none⟩)] w fun e w' => e = .returned (.int .i64 0) ∧ SS w' B bs bt bb v lim l tk true ∧ Only (SF bt bb v) w w' := by
  have C := Lib.hid (open_some h)
  have H := Lib.hid h
  have e0 := h.src.cell 0
  have e1 := h.st.cell 2
  have f1 := h.st.frozen 2
  simp at e0 e1
  clear h
  go_enter Try.func28, Try.ntmps28
  go_wp2_with (go_at_call 29; (with_reducible refine C.out.mono ?_); rintro e w1 ⟨rfl, rfl⟩)
  go_ret
  have h := H.out
  have ho : Only (fun k => k = bt) w (w.setCell ⟨bt, 2, none⟩ (.bool true)) := Only.set (p := fun k => k = bt) (Only.refl _ w) (fun _ => rfl) 2 _
  refine ⟨rfl, ⟨h.src.only ho h.ne_st, ?_, h.buf.only ho h.ne_tb.symm, own_only h.own ho fun k hk e => own_ne h.own h.st (by decide) (e ▸ hk), by rw [World.size_setCell]; exact h.base, h.limB, h.lenB, h.tkB⟩, ho.mono fun b _ hb => .inl hb⟩
  have := h.st.set_ 2 (.bool true)
  simpa using this
set_option maxRecDepth 100000 in
theorem feed_bad (h : SS w B bs bt bb v lim l tk cl) (A : Option Addr) (m c : Nat) (hm : m ≤ maxLen) (hE : feedE lim cl l m ≠ 0) :
    Calls Try.prog 10 #[.pointer (some ⟨bs, 0, none⟩), .slice A m c] w fun e w' => e = .returned (.int .i64 (feedE lim cl l m)) ∧ Below w.heap.size w w' := by
  unfold maxLen at hm
  have C := Lib.hid (open_some h)
  have R := Lib.hid (room_some h)
  cases cl
  · have h1 : (lim : Int) - l.length < m := by
      by_cases h1 : (lim : Int) - l.length < m
      · exact h1
      · exact absurd (by unfold feedE; rw [if_neg (by simp), if_neg h1]) hE
    have hx : feedE lim false l m = 7 := by unfold feedE; rw [if_neg (by simp), if_pos h1]
    rw [hx]
    obtain ⟨r, hr⟩ : ∃ r, (lim : Int) - l.length = r := ⟨_, rfl⟩
    rw [hr] at R h1
    have q1 : decide (r < m) = true := by simpa using h1
    clear h hE hx hr
    go_enter Try.func10, Try.ntmps10
    go_wp2_with (first
      | (go_at_call 29; (with_reducible refine C.out.mono ?_); rintro e w1 ⟨rfl, rfl⟩)
      | (go_at_call 25; (with_reducible refine R.out.mono ?_); rintro e w2 ⟨rfl, b2⟩; have HB := Lib.hid b2; clear b2))
    go_ret
    exact ⟨rfl, HB.out⟩
  · have hx : feedE lim true l m = 8 := by unfold feedE; rw [if_pos rfl]
    rw [hx]
    clear h hE hx
    go_enter Try.func10, Try.ntmps10
    go_wp2_with (go_at_call 29; (with_reducible refine C.out.mono ?_); rintro e w1 ⟨rfl, rfl⟩)
    go_ret
    exact ⟨rfl, Below.refl _ _⟩
theorem feedE_ok {m : Nat} (hE : feedE lim cl l m = 0) : cl = false ∧ (m : Int) ≤ lim - l.length := by
  unfold feedE at hE
  cases cl
  · refine ⟨rfl, ?_⟩
    rw [if_neg (by simp)] at hE
    split at hE
    · cases hE
    · omega
  · cases hE
set_option maxRecDepth 100000 in
set_option maxHeartbeats 1000000 in
theorem feed_ok (h : SS w B bs bt bb v lim l tk false) (A : Option Addr) (m c : Nat) (x : List UInt8) (hx : RB w A m c x) (hm : m + l.length ≤ lim) :
    Calls Try.prog 10 #[.pointer (some ⟨bs, 0, none⟩), .slice A m c] w fun e w' => e = .returned (.int .i64 0) ∧ ∃ v', SS w' B bs bt bb v' lim (l ++ x) tk false ∧ Only (SF bt bb v) w w' ∧ Hat v v' w := by
  have C := Lib.hid (open_some h)
  have R := Lib.hid (room_some h)
  have H := Lib.hid h
  have HX := Lib.hid hx
  have hlb := h.limB
  have HM := Lib.hid (show m + l.length ≤ 1048576 by omega)
  obtain ⟨r, hr⟩ : ∃ r, (lim : Int) - l.length = r := ⟨_, rfl⟩
  have q1 : decide (r < m) = false := by simp; omega
  have HM2 := Lib.hid hm
  rw [hr] at R
  obtain ⟨A0, c0, hv, -⟩ := h.form
  have hfc : ∀ W, Below w.heap.size w W → FC bs bt bb v W := fun W hb => ⟨(h.below hb).src.cell 0, (h.below hb).st.cell 0, (h.below hb).buf.cell 0⟩
  have HFC := Lib.hid hfc
  have HV := Lib.hid hv
  clear h hx hm hlb hr hfc hv
  go_enter Try.func10, Try.ntmps10
  go_wp2_with (first
    | (go_at_call 29; (with_reducible refine C.out.mono ?_); rintro e w1 ⟨rfl, rfl⟩)
    | (go_at_call 25; (with_reducible refine R.out.mono ?_); rintro e w2 ⟨rfl, b2⟩; have HB := Lib.hid b2; clear b2))
  have hv := HV.out
  have H2 := Lib.hid (H.out.below HB.out)
  have HS0 := Lib.hid (HFC.out w2.drew (below_drew HB.out))
  clear HV

  refine wp_region_G (S0 := (FC bs bt bb v)) (S1 := (fun _ => True)) (c := 21) (by kernel_rfl) ?_
  have hHeld := HS0.out
  have h01 := (fun (W : World) (h : (FC bs bt bb v) W) => trivial)
  refine wpG_take0 (i := 0) (oi := ⟨some 18, _, _, _, _, _⟩) (v := .pointer (some ⟨bs, 0, none⟩)) rfl (by kernel_rfl) (by kernel_rfl) (by kernel_rfl) (by decide) (by kernel_rfl) (fun _ _ _ h => h) rfl hHeld (Or.inl ⟨by rfl, ?_⟩) ?_
  · (intro W9 hSw; obtain ⟨v1, v2, v3⟩ := hSw; go_simp; (try (first | with_reducible rfl | rfl)))
  try simp only [Act.put, List.setIfInBounds_toArray, List.set_cons_zero, List.set_cons_succ]
  refine wpG_take0 (i := 1) (oi := ⟨some 19, _, _, _, _, _⟩) (v := .pointer (some ⟨bs, 0, none⟩)) rfl (by kernel_rfl) (by kernel_rfl) (by kernel_rfl) (by decide) (by kernel_rfl) (fun _ _ _ h => h) rfl hHeld (Or.inl ⟨by rfl, ?_⟩) ?_
  · (intro W9 hSw; obtain ⟨v1, v2, v3⟩ := hSw; go_simp; (try (first | with_reducible rfl | rfl)))
  try simp only [Act.put, List.setIfInBounds_toArray, List.set_cons_zero, List.set_cons_succ]
  refine wpG_take0 (i := 2) (oi := ⟨some 20, _, _, _, _, _⟩) (v := .pointer (some ⟨bs, 0, none⟩)) rfl (by kernel_rfl) (by kernel_rfl) (by kernel_rfl) (by decide) (by kernel_rfl) (fun _ _ _ h => h) rfl hHeld (Or.inl ⟨by rfl, ?_⟩) ?_
  · (intro W9 hSw; obtain ⟨v1, v2, v3⟩ := hSw; go_simp; (try (first | with_reducible rfl | rfl)))
  try simp only [Act.put, List.setIfInBounds_toArray, List.set_cons_zero, List.set_cons_succ]
  refine wpG_take0 (i := 3) (oi := ⟨some 21, _, _, _, _, _⟩) (v := .pointer (some ⟨bt, 0, none⟩)) rfl (by kernel_rfl) (by kernel_rfl) (by kernel_rfl) (by decide) (by kernel_rfl) (fun _ _ _ h => h) rfl hHeld (Or.inl ⟨by rfl, ?_⟩) ?_
  · (intro W9 hSw; obtain ⟨v1, v2, v3⟩ := hSw; go_simp; (try (first | with_reducible rfl | rfl)))
  try simp only [Act.put, List.setIfInBounds_toArray, List.set_cons_zero, List.set_cons_succ]
  refine wpG_take0 (i := 4) (oi := ⟨some 22, _, _, _, _, _⟩) (v := .pointer (some ⟨bt, 0, none⟩)) rfl (by kernel_rfl) (by kernel_rfl) (by kernel_rfl) (by decide) (by kernel_rfl) (fun _ _ _ h => h) rfl hHeld (Or.inl ⟨by rfl, ?_⟩) ?_
  · (intro W9 hSw; obtain ⟨v1, v2, v3⟩ := hSw; go_simp; (try (first | with_reducible rfl | rfl)))
  try simp only [Act.put, List.setIfInBounds_toArray, List.set_cons_zero, List.set_cons_succ]
  refine wpG_take0 (i := 5) (oi := ⟨some 23, _, _, _, _, _⟩) (v := .pointer (some ⟨bt, 0, none⟩)) rfl (by kernel_rfl) (by kernel_rfl) (by kernel_rfl) (by decide) (by kernel_rfl) (fun _ _ _ h => h) rfl hHeld (Or.inl ⟨by rfl, ?_⟩) ?_
  · (intro W9 hSw; obtain ⟨v1, v2, v3⟩ := hSw; go_simp; (try (first | with_reducible rfl | rfl)))
  try simp only [Act.put, List.setIfInBounds_toArray, List.set_cons_zero, List.set_cons_succ]
  refine wpG_take0 (i := 6) (oi := ⟨some 24, _, _, _, _, _⟩) (v := .pointer (some ⟨bb, 0, none⟩)) rfl (by kernel_rfl) (by kernel_rfl) (by kernel_rfl) (by decide) (by kernel_rfl) (fun _ _ _ h => h) rfl hHeld (Or.inl ⟨by rfl, ?_⟩) ?_
  · (intro W9 hSw; obtain ⟨v1, v2, v3⟩ := hSw; go_simp; (try (first | with_reducible rfl | rfl)))
  try simp only [Act.put, List.setIfInBounds_toArray, List.set_cons_zero, List.set_cons_succ]
  refine wpG_take0 (i := 7) (oi := ⟨some 25, _, _, _, _, _⟩) (v := .pointer (some ⟨bs, 0, none⟩)) rfl (by kernel_rfl) (by kernel_rfl) (by kernel_rfl) (by decide) (by kernel_rfl) (fun _ _ _ h => h) rfl hHeld (Or.inl ⟨by rfl, ?_⟩) ?_
  · (intro W9 hSw; obtain ⟨v1, v2, v3⟩ := hSw; go_simp; (try (first | with_reducible rfl | rfl)))
  try simp only [Act.put, List.setIfInBounds_toArray, List.set_cons_zero, List.set_cons_succ]
  refine wpG_take0 (i := 8) (oi := ⟨some 26, _, _, _, _, _⟩) (v := .pointer (some ⟨bs, 0, none⟩)) rfl (by kernel_rfl) (by kernel_rfl) (by kernel_rfl) (by decide) (by kernel_rfl) (fun _ _ _ h => h) rfl hHeld (Or.inl ⟨by rfl, ?_⟩) ?_
  · (intro W9 hSw; obtain ⟨v1, v2, v3⟩ := hSw; go_simp; (try (first | with_reducible rfl | rfl)))
  try simp only [Act.put, List.setIfInBounds_toArray, List.set_cons_zero, List.set_cons_succ]
  refine wpG_take0 (i := 9) (oi := ⟨some 27, _, _, _, _, _⟩) (v := .pointer (some ⟨bs, 0, none⟩)) rfl (by kernel_rfl) (by kernel_rfl) (by kernel_rfl) (by decide) (by kernel_rfl) (fun _ _ _ h => h) rfl hHeld (Or.inl ⟨by rfl, ?_⟩) ?_
  · (intro W9 hSw; obtain ⟨v1, v2, v3⟩ := hSw; go_simp; (try (first | with_reducible rfl | rfl)))
  try simp only [Act.put, List.setIfInBounds_toArray, List.set_cons_zero, List.set_cons_succ]
  refine wpG_take0 (i := 10) (oi := ⟨some 28, _, _, _, _, _⟩) (v := .pointer (some ⟨bt, 0, none⟩)) rfl (by kernel_rfl) (by kernel_rfl) (by kernel_rfl) (by decide) (by kernel_rfl) (fun _ _ _ h => h) rfl hHeld (Or.inl ⟨by rfl, ?_⟩) ?_
  · (intro W9 hSw; obtain ⟨v1, v2, v3⟩ := hSw; go_simp; (try (first | with_reducible rfl | rfl)))
  try simp only [Act.put, List.setIfInBounds_toArray, List.set_cons_zero, List.set_cons_succ]
  refine wpG_take0 (i := 11) (oi := ⟨some 29, _, _, _, _, _⟩) (v := .pointer (some ⟨bt, 0, none⟩)) rfl (by kernel_rfl) (by kernel_rfl) (by kernel_rfl) (by decide) (by kernel_rfl) (fun _ _ _ h => h) rfl hHeld (Or.inl ⟨by rfl, ?_⟩) ?_
  · (intro W9 hSw; obtain ⟨v1, v2, v3⟩ := hSw; go_simp; (try (first | with_reducible rfl | rfl)))
  try simp only [Act.put, List.setIfInBounds_toArray, List.set_cons_zero, List.set_cons_succ]
  refine wpG_take0 (i := 12) (oi := ⟨some 30, _, _, _, _, _⟩) (v := .pointer (some ⟨bt, 0, none⟩)) rfl (by kernel_rfl) (by kernel_rfl) (by kernel_rfl) (by decide) (by kernel_rfl) (fun _ _ _ h => h) rfl hHeld (Or.inl ⟨by rfl, ?_⟩) ?_
  · (intro W9 hSw; obtain ⟨v1, v2, v3⟩ := hSw; go_simp; (try (first | with_reducible rfl | rfl)))
  try simp only [Act.put, List.setIfInBounds_toArray, List.set_cons_zero, List.set_cons_succ]
  refine wpG_take0 (i := 13) (oi := ⟨some 31, _, _, _, _, _⟩) (v := .pointer (some ⟨bb, 0, none⟩)) rfl (by kernel_rfl) (by kernel_rfl) (by kernel_rfl) (by decide) (by kernel_rfl) (fun _ _ _ h => h) rfl hHeld (Or.inl ⟨by rfl, ?_⟩) ?_
  · (intro W9 hSw; obtain ⟨v1, v2, v3⟩ := hSw; go_simp; (try (first | with_reducible rfl | rfl)))
  try simp only [Act.put, List.setIfInBounds_toArray, List.set_cons_zero, List.set_cons_succ]
  refine wpG_take0 (i := 14) (oi := ⟨some 32, _, _, _, _, _⟩) (v := .pointer (some ⟨bb, 0, none⟩)) rfl (by kernel_rfl) (by kernel_rfl) (by kernel_rfl) (by decide) (by kernel_rfl) (fun _ _ _ h => h) rfl hHeld (Or.inl ⟨by rfl, ?_⟩) ?_
  · (intro W9 hSw; obtain ⟨v1, v2, v3⟩ := hSw; go_simp; (try (first | with_reducible rfl | rfl)))
  try simp only [Act.put, List.setIfInBounds_toArray, List.set_cons_zero, List.set_cons_succ]
  refine wpG_take0 (i := 15) (oi := ⟨some 33, _, _, _, _, _⟩) (v := .pointer (some ⟨bb, 0, none⟩)) rfl (by kernel_rfl) (by kernel_rfl) (by kernel_rfl) (by decide) (by kernel_rfl) (fun _ _ _ h => h) rfl hHeld (Or.inl ⟨by rfl, ?_⟩) ?_
  · (intro W9 hSw; obtain ⟨v1, v2, v3⟩ := hSw; go_simp; (try (first | with_reducible rfl | rfl)))
  try simp only [Act.put, List.setIfInBounds_toArray, List.set_cons_zero, List.set_cons_succ]
  refine wpG_take0 (i := 16) (oi := ⟨some 34, _, _, _, _, _⟩) (v := v) rfl (by kernel_rfl) (by kernel_rfl) (by kernel_rfl) (by decide) (by kernel_rfl) (fun _ _ _ h => h) rfl hHeld (Or.inl ⟨by rfl, ?_⟩) ?_
  · (intro W9 hSw; obtain ⟨v1, v2, v3⟩ := hSw; go_simp; (try (first | with_reducible rfl | rfl)))
  try simp only [Act.put, List.setIfInBounds_toArray, List.set_cons_zero, List.set_cons_succ]
  refine wpG_take0 (i := 17) (oi := ⟨some 35, _, _, _, _, _⟩) (v := .slice A m c) rfl (by kernel_rfl) (by kernel_rfl) (by kernel_rfl) (by decide) (by kernel_rfl) (fun _ _ _ h => h) rfl hHeld (Or.inl ⟨by rfl, ?_⟩) ?_
  · (intro W9 hSw; obtain ⟨v1, v2, v3⟩ := hSw; go_simp; (try (first | with_reducible rfl | rfl)))
  try simp only [Act.put, List.setIfInBounds_toArray, List.set_cons_zero, List.set_cons_succ]
  refine wpG_oneA (i := 18) (o := ⟨some 36, _, _, _, _, _⟩) (by kernel_rfl) rfl rfl (fun K hK => ?_)
  refine step_app_own (base := B) (xs := l.map u8) (news := x.map u8) (n := l.length) (m := m) (v := v) rfl (.tmp 34) (.tmp 35) 22 rfl el22 rfl (own_drew H2.out.own) rfl ((HX.out.below (below_drew HB.out)).h) (u8_one _) (by have := HM.out; unfold maxLen; omega) (by have := HM.out; omega) H2.out.base ?_
  intro v3 w3 ho3 hg3 hat3
  have hg3a := own_form ho3
  obtain ⟨A3, c3, rfl, -⟩ := hg3a
  rw [← List.map_append] at ho3
  have k1 := (H2.out.src.drew).grown hg3 (fun e => own_ne H2.out.own H2.out.src (by decide) e.symm)
  have k2 := (H2.out.st.drew).grown hg3 (fun e => own_ne H2.out.own H2.out.st (by decide) e.symm)
  have k3 := (H2.out.buf.drew).grown hg3 (fun e => own_ne H2.out.own H2.out.buf (by decide) e.symm)
  have K1 := Lib.hid k1
  have K2 := Lib.hid k2
  have K3 := Lib.hid k3
  have HO3 := Lib.hid ho3
  have HG3 := Lib.hid hg3
  have HAT := Lib.hid hat3
  have e3 := k3.cell 0
  have f3 := k3.frozen 0
  simp at e3
  clear k1 k2 k3 ho3 hg3 hat3
  refine hK.out _ _ (⟨K1.out.cell 0, K2.out.cell 0, K3.out.cell 0⟩ : FC bs bt bb v w3) (fun hHeld => ?_)
  clear hK K
  try simp only [Act.put, List.setIfInBounds_toArray, List.set_cons_zero, List.set_cons_succ]
  refine wpG_takeA (i := 19) (oi := ⟨some 37, _, _, _, _, _⟩) (v := .pointer (some ⟨bb, 0, none⟩)) rfl (by kernel_rfl) (by kernel_rfl) (by kernel_rfl) (by decide) (fun _ _ _ h => h) h01 rfl hHeld (Or.inl ⟨by rfl, ?_⟩) ?_
  · (intro W9 hSw; go_simp; (try (first | with_reducible rfl | rfl)))
  try simp only [Act.put, List.setIfInBounds_toArray, List.set_cons_zero, List.set_cons_succ]
  refine wpG_takeA (i := 20) (oi := ⟨some 38, _, _, _, _, _⟩) (v := .pointer (some ⟨bb, 0, none⟩)) rfl (by kernel_rfl) (by kernel_rfl) (by kernel_rfl) (by decide) (fun _ _ _ h => h) h01 rfl hHeld (Or.inl ⟨by rfl, ?_⟩) ?_
  · (intro W9 hSw; go_simp; (try (first | with_reducible rfl | rfl)))
  try simp only [Act.put, List.setIfInBounds_toArray, List.set_cons_zero, List.set_cons_succ]
  refine wpG_oneB (i := 21) (o := ⟨none, _, _, _, _, _⟩) (by kernel_rfl) rfl rfl (fun K hK => ?_)
  go_simp
  refine hK.out _ _ trivial (fun hHeld => ?_)
  clear hK K
  try simp only [Act.put, List.setIfInBounds_toArray, List.set_cons_zero, List.set_cons_succ]
  refine wpG_done (by kernel_rfl) ?_ _
  go_wp2_with fail
  go_ret
  refine ⟨rfl, .slice A3 (l.length + m) c3, ⟨?_, ?_, ?_, ?_, ?_, H.out.limB, ?_, H.out.tkB⟩, ?_, ?_⟩
  · exact K1.out.far (by simpa using H.out.ne_sb) _
  · exact K2.out.far (by simpa using H.out.ne_tb) _
  · have := K3.out.set_ 0 (.slice A3 (l.length + m) c3)
    simpa using this
  · rw [List.length_append, HX.out.len]
    have hne : ∀ k, (Value.slice A3 (l.length + m) c3).ownBlock = some k → k ≠ bb := fun k hk e => own_ne HO3.out K3.out (by decide) (e ▸ hk)
    exact own_keeps HO3.out fun k hk => Below.heap_setCell _ _ _ _ (by simpa using hne k hk)
  · rw [World.size_setCell]; exact Nat.le_trans H2.out.base HG3.out.size
  · rw [List.length_append, HX.out.len]; have := HM2.out; omega
  · refine Only.set (Only.grown (p := SF bt bb v) (Only.of_below (below_drew HB.out)) HG3.out (fun g hg _ => .inr (.inr hg))) (fun _ => .inr (.inl rfl)) 0 _
  · rcases HAT.out with e | e
    · exact .inl e
    · exact .inr fun k hk => by
        rw [e] at hk
        cases hk
        exact HB.out.size


set_option maxRecDepth 100000 in
set_option maxHeartbeats 1000000 in
theorem copy_ok (h : SS w B bs bt bb v lim l tk cl) :
    Calls Try.prog 18 #[.pointer (some ⟨bs, 0, none⟩)] w fun e w' => ∃ cs ct cb v', e = .returned (.pointer (some ⟨cs, 0, none⟩)) ∧ SS w' w.heap.size cs ct cb v' lim l tk cl ∧ Below w.heap.size w w' ∧ w.heap.size ≤ cs ∧ w.heap.size ≤ ct ∧ w.heap.size ≤ cb := by
  have C := Lib.hid (none_some bs bt w h.src)
  have H := Lib.hid h
  have e0 := h.src.cell 0
  have f0 := h.st.cell 0
  have f1 := h.st.cell 1
  have f2 := h.st.cell 2
  simp at e0 f0 f1 f2
  have l1 := h.st.lt
  clear h
  go_enter Try.func18, Try.ntmps18
  go_wp2_with (go_at_call 38; (with_reducible refine C.out.mono ?_); rintro e w1 ⟨rfl, rfl⟩)
  obtain ⟨w1, hw1⟩ : ∃ w1, w.alloc (.cells #[.pointer (some ⟨bb, 0, none⟩), .int .i64 lim, .bool cl] 65) = w1 := ⟨_, rfl⟩
  have hb1 : Below w.heap.size w w1 := hw1 ▸ (Below.refl _ w).alloc (Nat.le_refl _) _
  have hn1 : Blk w1 w.heap.size 65 #[.pointer (some ⟨bb, 0, none⟩), .int .i64 lim, .bool cl] := hw1 ▸ Blk.new w 65 _
  rw [hw1]
  have H1 := Lib.hid (H.out.below hb1)
  have HB1 := Lib.hid hb1
  have HN1 := Lib.hid hn1
  obtain ⟨A0, c0, hv, hr0⟩ := H1.out.form
  have HR0 := Lib.hid hr0
  have HL := Lib.hid (show l.length ≤ 2000000 by have := H.out.lenB; have := H.out.limB; omega)
  have HFD := Lib.hid (show ∀ W, Below w1.heap.size w1 W → FD bs bt bb v tk W from fun W hb => ⟨⟨(H1.out.below hb).src.cell 0, (H1.out.below hb).st.cell 0, (H1.out.below hb).buf.cell 0⟩, (H1.out.below hb).buf.cell 1⟩)
  have HS0 := Lib.hid (HFD.out w1.drew (below_drew (Below.refl _ _)))
  have C39 := Lib.hid (clone_any A0 l.length c0 l w1.drew HL.out (HR0.out.below (below_drew (Below.refl _ _))))
  have HV := Lib.hid hv
  clear hw1 hb1 hn1 hr0 e0 f0 f1 f2 l1 hv

  refine wp_region_G (S0 := (FD bs bt bb v tk)) (S1 := (FD bs bt bb v tk)) (c := 99) (by kernel_rfl) ?_
  have hHeld := HS0.out
  have h01 := (fun (W : World) (h : (FD bs bt bb v tk) W) => h)
  refine wpG_takeB (i := 0) (oi := ⟨some 12, _, _, _, _, _⟩) (v := .pointer (some ⟨bs, 0, none⟩)) rfl (by kernel_rfl) (by kernel_rfl) (by kernel_rfl) (by decide) (fun _ _ _ h => h) h01 rfl hHeld (Or.inl ⟨by rfl, ?_⟩) ?_
  · (intro W9 hSw; obtain ⟨⟨v1, v2, v3⟩, v4⟩ := hSw; go_simp; (try (first | with_reducible rfl | rfl)))
  try simp only [Act.put, List.setIfInBounds_toArray, List.set_cons_zero, List.set_cons_succ]
  refine wpG_takeB (i := 1) (oi := ⟨some 13, _, _, _, _, _⟩) (v := .pointer (some ⟨bs, 0, none⟩)) rfl (by kernel_rfl) (by kernel_rfl) (by kernel_rfl) (by decide) (fun _ _ _ h => h) h01 rfl hHeld (Or.inl ⟨by rfl, ?_⟩) ?_
  · (intro W9 hSw; obtain ⟨⟨v1, v2, v3⟩, v4⟩ := hSw; go_simp; (try (first | with_reducible rfl | rfl)))
  try simp only [Act.put, List.setIfInBounds_toArray, List.set_cons_zero, List.set_cons_succ]
  refine wpG_takeB (i := 2) (oi := ⟨some 14, _, _, _, _, _⟩) (v := .pointer (some ⟨bs, 0, none⟩)) rfl (by kernel_rfl) (by kernel_rfl) (by kernel_rfl) (by decide) (fun _ _ _ h => h) h01 rfl hHeld (Or.inl ⟨by rfl, ?_⟩) ?_
  · (intro W9 hSw; obtain ⟨⟨v1, v2, v3⟩, v4⟩ := hSw; go_simp; (try (first | with_reducible rfl | rfl)))
  try simp only [Act.put, List.setIfInBounds_toArray, List.set_cons_zero, List.set_cons_succ]
  refine wpG_takeB (i := 3) (oi := ⟨some 15, _, _, _, _, _⟩) (v := .pointer (some ⟨bt, 0, none⟩)) rfl (by kernel_rfl) (by kernel_rfl) (by kernel_rfl) (by decide) (fun _ _ _ h => h) h01 rfl hHeld (Or.inl ⟨by rfl, ?_⟩) ?_
  · (intro W9 hSw; obtain ⟨⟨v1, v2, v3⟩, v4⟩ := hSw; go_simp; (try (first | with_reducible rfl | rfl)))
  try simp only [Act.put, List.setIfInBounds_toArray, List.set_cons_zero, List.set_cons_succ]
  refine wpG_takeB (i := 4) (oi := ⟨some 16, _, _, _, _, _⟩) (v := .pointer (some ⟨bt, 0, none⟩)) rfl (by kernel_rfl) (by kernel_rfl) (by kernel_rfl) (by decide) (fun _ _ _ h => h) h01 rfl hHeld (Or.inl ⟨by rfl, ?_⟩) ?_
  · (intro W9 hSw; obtain ⟨⟨v1, v2, v3⟩, v4⟩ := hSw; go_simp; (try (first | with_reducible rfl | rfl)))
  try simp only [Act.put, List.setIfInBounds_toArray, List.set_cons_zero, List.set_cons_succ]
  refine wpG_takeB (i := 5) (oi := ⟨some 17, _, _, _, _, _⟩) (v := .pointer (some ⟨bt, 0, none⟩)) rfl (by kernel_rfl) (by kernel_rfl) (by kernel_rfl) (by decide) (fun _ _ _ h => h) h01 rfl hHeld (Or.inl ⟨by rfl, ?_⟩) ?_
  · (intro W9 hSw; obtain ⟨⟨v1, v2, v3⟩, v4⟩ := hSw; go_simp; (try (first | with_reducible rfl | rfl)))
  try simp only [Act.put, List.setIfInBounds_toArray, List.set_cons_zero, List.set_cons_succ]
  refine wpG_takeB (i := 6) (oi := ⟨some 18, _, _, _, _, _⟩) (v := .pointer (some ⟨bb, 0, none⟩)) rfl (by kernel_rfl) (by kernel_rfl) (by kernel_rfl) (by decide) (fun _ _ _ h => h) h01 rfl hHeld (Or.inl ⟨by rfl, ?_⟩) ?_
  · (intro W9 hSw; obtain ⟨⟨v1, v2, v3⟩, v4⟩ := hSw; go_simp; (try (first | with_reducible rfl | rfl)))
  try simp only [Act.put, List.setIfInBounds_toArray, List.set_cons_zero, List.set_cons_succ]
  refine wpG_takeB (i := 7) (oi := ⟨some 19, _, _, _, _, _⟩) (v := .pointer (some ⟨bb, 0, none⟩)) rfl (by kernel_rfl) (by kernel_rfl) (by kernel_rfl) (by decide) (fun _ _ _ h => h) h01 rfl hHeld (Or.inl ⟨by rfl, ?_⟩) ?_
  · (intro W9 hSw; obtain ⟨⟨v1, v2, v3⟩, v4⟩ := hSw; go_simp; (try (first | with_reducible rfl | rfl)))
  try simp only [Act.put, List.setIfInBounds_toArray, List.set_cons_zero, List.set_cons_succ]
  refine wpG_takeB (i := 8) (oi := ⟨some 20, _, _, _, _, _⟩) (v := .pointer (some ⟨bb, 0, none⟩)) rfl (by kernel_rfl) (by kernel_rfl) (by kernel_rfl) (by decide) (fun _ _ _ h => h) h01 rfl hHeld (Or.inl ⟨by rfl, ?_⟩) ?_
  · (intro W9 hSw; obtain ⟨⟨v1, v2, v3⟩, v4⟩ := hSw; go_simp; (try (first | with_reducible rfl | rfl)))
  try simp only [Act.put, List.setIfInBounds_toArray, List.set_cons_zero, List.set_cons_succ]
  refine wpG_takeB (i := 9) (oi := ⟨some 21, _, _, _, _, _⟩) (v := v) rfl (by kernel_rfl) (by kernel_rfl) (by kernel_rfl) (by decide) (fun _ _ _ h => h) h01 rfl hHeld (Or.inl ⟨by rfl, ?_⟩) ?_
  · (intro W9 hSw; obtain ⟨⟨v1, v2, v3⟩, v4⟩ := hSw; go_simp; (try (first | with_reducible rfl | rfl)))
  try simp only [Act.put, List.setIfInBounds_toArray, List.set_cons_zero, List.set_cons_succ]
  refine wpG_takeB (i := 11) (oi := ⟨some 23, _, _, _, _, _⟩) (v := .pointer (some ⟨bs, 0, none⟩)) rfl (by kernel_rfl) (by kernel_rfl) (by kernel_rfl) (by decide) (fun _ _ _ h => h) h01 rfl hHeld (Or.inl ⟨by rfl, ?_⟩) ?_
  · (intro W9 hSw; obtain ⟨⟨v1, v2, v3⟩, v4⟩ := hSw; go_simp; (try (first | with_reducible rfl | rfl)))
  try simp only [Act.put, List.setIfInBounds_toArray, List.set_cons_zero, List.set_cons_succ]
  refine wpG_takeB (i := 12) (oi := ⟨some 24, _, _, _, _, _⟩) (v := .pointer (some ⟨bs, 0, none⟩)) rfl (by kernel_rfl) (by kernel_rfl) (by kernel_rfl) (by decide) (fun _ _ _ h => h) h01 rfl hHeld (Or.inl ⟨by rfl, ?_⟩) ?_
  · (intro W9 hSw; obtain ⟨⟨v1, v2, v3⟩, v4⟩ := hSw; go_simp; (try (first | with_reducible rfl | rfl)))
  try simp only [Act.put, List.setIfInBounds_toArray, List.set_cons_zero, List.set_cons_succ]
  refine wpG_takeB (i := 13) (oi := ⟨some 25, _, _, _, _, _⟩) (v := .pointer (some ⟨bs, 0, none⟩)) rfl (by kernel_rfl) (by kernel_rfl) (by kernel_rfl) (by decide) (fun _ _ _ h => h) h01 rfl hHeld (Or.inl ⟨by rfl, ?_⟩) ?_
  · (intro W9 hSw; obtain ⟨⟨v1, v2, v3⟩, v4⟩ := hSw; go_simp; (try (first | with_reducible rfl | rfl)))
  try simp only [Act.put, List.setIfInBounds_toArray, List.set_cons_zero, List.set_cons_succ]
  refine wpG_takeB (i := 14) (oi := ⟨some 26, _, _, _, _, _⟩) (v := .pointer (some ⟨bt, 0, none⟩)) rfl (by kernel_rfl) (by kernel_rfl) (by kernel_rfl) (by decide) (fun _ _ _ h => h) h01 rfl hHeld (Or.inl ⟨by rfl, ?_⟩) ?_
  · (intro W9 hSw; obtain ⟨⟨v1, v2, v3⟩, v4⟩ := hSw; go_simp; (try (first | with_reducible rfl | rfl)))
  try simp only [Act.put, List.setIfInBounds_toArray, List.set_cons_zero, List.set_cons_succ]
  refine wpG_takeB (i := 15) (oi := ⟨some 27, _, _, _, _, _⟩) (v := .pointer (some ⟨bt, 0, none⟩)) rfl (by kernel_rfl) (by kernel_rfl) (by kernel_rfl) (by decide) (fun _ _ _ h => h) h01 rfl hHeld (Or.inl ⟨by rfl, ?_⟩) ?_
  · (intro W9 hSw; obtain ⟨⟨v1, v2, v3⟩, v4⟩ := hSw; go_simp; (try (first | with_reducible rfl | rfl)))
  try simp only [Act.put, List.setIfInBounds_toArray, List.set_cons_zero, List.set_cons_succ]
  refine wpG_takeB (i := 16) (oi := ⟨some 28, _, _, _, _, _⟩) (v := .pointer (some ⟨bt, 0, none⟩)) rfl (by kernel_rfl) (by kernel_rfl) (by kernel_rfl) (by decide) (fun _ _ _ h => h) h01 rfl hHeld (Or.inl ⟨by rfl, ?_⟩) ?_
  · (intro W9 hSw; obtain ⟨⟨v1, v2, v3⟩, v4⟩ := hSw; go_simp; (try (first | with_reducible rfl | rfl)))
  try simp only [Act.put, List.setIfInBounds_toArray, List.set_cons_zero, List.set_cons_succ]
  refine wpG_takeB (i := 17) (oi := ⟨some 29, _, _, _, _, _⟩) (v := .pointer (some ⟨bb, 0, none⟩)) rfl (by kernel_rfl) (by kernel_rfl) (by kernel_rfl) (by decide) (fun _ _ _ h => h) h01 rfl hHeld (Or.inl ⟨by rfl, ?_⟩) ?_
  · (intro W9 hSw; obtain ⟨⟨v1, v2, v3⟩, v4⟩ := hSw; go_simp; (try (first | with_reducible rfl | rfl)))
  try simp only [Act.put, List.setIfInBounds_toArray, List.set_cons_zero, List.set_cons_succ]
  refine wpG_takeB (i := 18) (oi := ⟨some 30, _, _, _, _, _⟩) (v := .pointer (some ⟨bb, 0, none⟩)) rfl (by kernel_rfl) (by kernel_rfl) (by kernel_rfl) (by decide) (fun _ _ _ h => h) h01 rfl hHeld (Or.inl ⟨by rfl, ?_⟩) ?_
  · (intro W9 hSw; obtain ⟨⟨v1, v2, v3⟩, v4⟩ := hSw; go_simp; (try (first | with_reducible rfl | rfl)))
  try simp only [Act.put, List.setIfInBounds_toArray, List.set_cons_zero, List.set_cons_succ]
  refine wpG_takeB (i := 19) (oi := ⟨some 31, _, _, _, _, _⟩) (v := .pointer (some ⟨bb, 1, none⟩)) rfl (by kernel_rfl) (by kernel_rfl) (by kernel_rfl) (by decide) (fun _ _ _ h => h) h01 rfl hHeld (Or.inl ⟨by rfl, ?_⟩) ?_
  · (intro W9 hSw; obtain ⟨⟨v1, v2, v3⟩, v4⟩ := hSw; go_simp; (try (first | with_reducible rfl | rfl)))
  try simp only [Act.put, List.setIfInBounds_toArray, List.set_cons_zero, List.set_cons_succ]
  refine wpG_takeB (i := 20) (oi := ⟨some 32, _, _, _, _, _⟩) (v := .int .i64 (tk : Int)) rfl (by kernel_rfl) (by kernel_rfl) (by kernel_rfl) (by decide) (fun _ _ _ h => h) h01 rfl hHeld (Or.inl ⟨by rfl, ?_⟩) ?_
  · (intro W9 hSw; obtain ⟨⟨v1, v2, v3⟩, v4⟩ := hSw; go_simp; (try (first | with_reducible rfl | rfl)))
  try simp only [Act.put, List.setIfInBounds_toArray, List.set_cons_zero, List.set_cons_succ]
  refine wpG_oneB (i := 10) (o := ⟨some 22, _, _, _, _, _⟩) (by kernel_rfl) rfl rfl (fun K hK => ?_)
  go_simp
  rw [HV.out]
  (with_reducible refine C39.out.mono ?_); rintro e w3 ⟨v3, rfl, ho3, b3⟩
  obtain ⟨A3, c3, rfl, -⟩ := own_form ho3
  have HO3 := Lib.hid ho3
  have HB3 := Lib.hid (show Below w1.heap.size w1 w3 from (below_drew (Below.refl w1.heap.size w1)).trans b3)
  clear ho3 b3
  refine hK.out _ _ (HFD.out w3 HB3.out) (fun hHeld => ?_)
  clear hK K
  try simp only [Act.put, List.setIfInBounds_toArray, List.set_cons_zero, List.set_cons_succ]
  refine wpG_takeB (i := 21) (oi := ⟨some 33, _, _, _, _, _⟩) (v := .agg #[.slice A3 l.length c3, .int .i64 (tk : Int)]) rfl (by kernel_rfl) (by kernel_rfl) (by kernel_rfl) (by decide) (fun _ _ _ h => h) h01 rfl hHeld (Or.inl ⟨by rfl, ?_⟩) ?_
  · (intro W9 hSw; obtain ⟨⟨v1, v2, v3⟩, v4⟩ := hSw; go_simp; (try (first | with_reducible rfl | rfl)))
  try simp only [Act.put, List.setIfInBounds_toArray, List.set_cons_zero, List.set_cons_succ]
  refine wpG_oneB (i := 22) (o := ⟨some 34, _, _, _, _, _⟩) (by kernel_rfl) rfl rfl (fun K hK => ?_)
  go_simp
  have HB4 := Lib.hid (show Below w1.heap.size w1 (w3.alloc (.cells #[.slice A3 l.length c3, .int .i64 (tk : Int)] 63)) from HB3.out.alloc HB3.out.size _)
  have HN4 := Lib.hid (Blk.new w3 63 #[.slice A3 l.length c3, .int .i64 (tk : Int)])
  have HO4 := Lib.hid (own_alloc (o := .cells #[.slice A3 l.length c3, .int .i64 (tk : Int)] 63) HO3.out)
  generalize w3.alloc (.cells #[.slice A3 l.length c3, .int .i64 (tk : Int)] 63) = w4 at *
  have n4 := (HN1.out.below HB4.out HN1.out.lt).cell 0
  have m4 := (HN1.out.below HB4.out HN1.out.lt).frozen 0
  simp at n4
  refine hK.out _ _ (HFD.out w4 HB4.out) (fun hHeld => ?_)
  clear hK K
  try simp only [Act.put, List.setIfInBounds_toArray, List.set_cons_zero, List.set_cons_succ]
  refine wpG_takeB (i := 23) (oi := ⟨some 35, _, _, _, _, _⟩) (v := .pointer (some ⟨w.heap.size, 0, none⟩)) rfl (by kernel_rfl) (by kernel_rfl) (by kernel_rfl) (by decide) (fun _ _ _ h => h) h01 rfl hHeld (Or.inl ⟨by rfl, ?_⟩) ?_
  · (intro W9 hSw; obtain ⟨⟨v1, v2, v3⟩, v4⟩ := hSw; go_simp; (try (first | with_reducible rfl | rfl)))
  try simp only [Act.put, List.setIfInBounds_toArray, List.set_cons_zero, List.set_cons_succ]
  refine wpG_oneB (i := 24) (o := ⟨none, _, _, _, _, _⟩) (by kernel_rfl) rfl rfl (fun K hK => ?_)
  go_simp
  have HS5 := Lib.hid (show FD bs bt bb v tk (w4.setCell ⟨w.heap.size, 0, none⟩ (.pointer (some ⟨w3.heap.size, 0, none⟩))) from by
    have h9 := (H1.out.below HB4.out).only (p := fun k => k = w.heap.size) (Only.set (p := fun k => k = w.heap.size) (Only.refl _ w4) (fun _ => rfl) 0 (.pointer (some ⟨w3.heap.size, 0, none⟩))) (fun k hk e => by have := H.out.lt k hk; omega)
    exact ⟨⟨h9.src.cell 0, h9.st.cell 0, h9.buf.cell 0⟩, h9.buf.cell 1⟩)
  refine hK.out _ _ HS5.out (fun hHeld => ?_)
  clear hK K
  try simp only [Act.put, List.setIfInBounds_toArray, List.set_cons_zero, List.set_cons_succ]
  refine wpG_done (by kernel_rfl) ?_ _
  clear hHeld h01
  go_wp2_with fail
  go_ret
  obtain ⟨w5, hw5⟩ : ∃ w5, w4.setCell ⟨w.heap.size, 0, none⟩ (.pointer (some ⟨w3.heap.size, 0, none⟩)) = w5 := ⟨_, rfl⟩
  have h45 : Only (fun k => k = w.heap.size) w4 w5 := hw5 ▸ Only.set (p := fun k => k = w.heap.size) (Only.refl _ w4) (fun _ => rfl) 0 _
  have ht5 : Blk w5 w.heap.size 65 #[.pointer (some ⟨w3.heap.size, 0, none⟩), .int .i64 lim, .bool cl] := by
    have := (HN1.out.below HB4.out HN1.out.lt).set_ 0 (.pointer (some ⟨w3.heap.size, 0, none⟩))
    rw [hw5] at this
    simpa using this
  have hz : w1.heap.size ≤ w3.heap.size := HB3.out.size
  have hz1 := HN1.out.lt
  have hb5 : Blk w5 w3.heap.size 63 #[.slice A3 l.length c3, .int .i64 (tk : Int)] := HN4.out.only h45 (show ¬ w3.heap.size = w.heap.size by omega)
  have ho5 := own_only HO4.out h45 (fun k hk (e : k = w.heap.size) => by have := (HO3.out.lt k hk).1; simp at this; omega)
  have hbw : Below w.heap.size w w5 := (HB1.out.trans (HB4.out.mono HB1.out.size)).trans (h45.to_below (by have := HB4.out.size; omega) (fun b hb (e : b = w.heap.size) => by omega))
  have hz5 : w4.heap.size = w5.heap.size := by rw [← hw5, World.size_setCell]
  rw [hw5, hz5]
  have hs6 : Blk (w5.alloc (.cells #[.pointer (some ⟨w.heap.size, 0, none⟩)] 56)) w5.heap.size 56 #[.pointer (some ⟨w.heap.size, 0, none⟩)] := Blk.new w5 56 _
  refine ⟨w5.heap.size, w.heap.size, w3.heap.size, .slice A3 l.length c3, rfl, ⟨hs6, ht5.alloc _, hb5.alloc _, ?_, ?_, H.out.limB, H.out.lenB, H.out.tkB⟩, hbw.alloc hbw.size _, hbw.size, Nat.le_refl _, by have := HB1.out.size; omega⟩
  · exact own_base (own_alloc ho5) HB1.out.size
  · rw [World.size_alloc]; have := hbw.size; omega
end

end Go.Proofs.Ythkpmbgclllnjaa
