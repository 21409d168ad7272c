/- there, Peek, Take, Skip. -/
import Derived.Test.YthkpmbgclllnjaaSm
namespace Go.Proofs.Ythkpmbgclllnjaa
open Go.RowKit
set_option linter.unusedVariables false
set_option linter.unusedSimpArgs false
attribute [local go_sem] fld0 fld1 fld2


set_option maxRecDepth 100000 in
theorem there41_none (p p1 p2 : Option Addr) (n most : Int) (w : World) (h : NoSrc p w) :
    Calls Try.prog 31 #[.pointer p, .int .i64 n, .int .i64 most, .func (.func 41) #[] #[.pointer p1, .pointer p2]] w fun e w' => e = .returned (.tuple #[.slice none 0 0, .int .i64 0, .int .i64 1]) ∧ Below w.heap.size w w' := by
  have C := Lib.hid (h w (Below.refl _ _))
  clear h
  go_enter Try.func31, Try.ntmps31
  go_wp2_with (go_at_call 38; (with_reducible refine C.out.mono ?_); rintro e w1 ⟨rfl, rfl⟩)
  refine bodyPost_ret (v := .tuple #[.slice none 0 0, .int .i64 0, .int .i64 1]) (by simp [results, Try.results31, go_sem]) rfl ⟨rfl, Below.refl _ _⟩

set_option maxRecDepth 100000 in
set_option maxHeartbeats 1000000 in
theorem there41_bad (p1 p2 : Option Addr) (n most en er E : Int) (B bs bt bb : Nat) (v : Value) (lim : Nat) (l : List UInt8) (tk : Nat) (cl : Bool) (w : World) (h : SS w B bs bt bb v lim l tk cl)
    (hf : 0 ≤ n → n ≤ most → Calls Try.prog 41 #[.pointer p1, .pointer p2] w fun e w' => e = .returned (.tuple #[.int .i64 en, .int .i64 er]) ∧ Below w.heap.size w w')
    (hE : (n < 0 ∧ E = 2) ∨ (0 ≤ n ∧ most < n ∧ E = 3) ∨ (0 ≤ n ∧ n ≤ most ∧ (((er == 0) = false ∧ E = er) ∨ (er = 0 ∧ en < 0 ∧ E = if cl then 9 else 4)))) :
    Calls Try.prog 31 #[.pointer (some ⟨bs, 0, none⟩), .int .i64 n, .int .i64 most, .func (.func 41) #[] #[.pointer p1, .pointer p2]] w fun e w' => e = .returned (.tuple #[.slice none 0 0, .int .i64 0, .int .i64 E]) ∧ Below w.heap.size w w' := by
  have C := Lib.hid (none_some bs bt w h.src)
  have H := Lib.hid h
  have HF := Lib.hid hf
  clear h hf
  rcases hE with ⟨h1, rfl⟩ | ⟨h0, h1, rfl⟩ | ⟨h0, h1, (⟨h2, rfl⟩ | ⟨rfl, h2, hE⟩)⟩
  · have q1 : decide (n < 0) = true := by simpa using h1
    go_enter Try.func31, Try.ntmps31
    go_wp2_with (go_at_call 38; (with_reducible refine C.out.mono ?_); rintro e w1 ⟨rfl, rfl⟩)
    exact bodyPost_ret (v := .tuple #[.slice none 0 0, .int .i64 0, .int .i64 2]) (by simp [results, Try.results31, go_sem]) rfl ⟨rfl, Below.refl _ _⟩
  · have q1 : decide (n < 0) = false := by simp; omega
    have q2 : decide (most < n) = true := by simpa using h1
    go_enter Try.func31, Try.ntmps31
    go_wp2_with (go_at_call 38; (with_reducible refine C.out.mono ?_); rintro e w1 ⟨rfl, rfl⟩)
    exact bodyPost_ret (v := .tuple #[.slice none 0 0, .int .i64 0, .int .i64 3]) (by simp [results, Try.results31, go_sem]) rfl ⟨rfl, Below.refl _ _⟩
  · have q1 : decide (n < 0) = false := by simp; omega
    have q2 : decide (most < n) = false := by simp; omega
    have CF := Lib.hid (HF.out h0 h1)
    clear h0 h1
    go_enter Try.func31, Try.ntmps31
    go_wp2_with (first
      | (go_at_call 38; (with_reducible refine C.out.mono ?_); rintro e w1 ⟨rfl, rfl⟩)
      | (go_at_call 41; (with_reducible refine CF.out.mono ?_); rintro e w2 ⟨rfl, b2⟩; have HB := Lib.hid b2; clear b2))
    exact bodyPost_ret (v := .tuple #[.slice none 0 0, .int .i64 0, .int .i64 E]) (by simp [results, Try.results31, go_sem]) rfl ⟨rfl, HB.out⟩
  · have q1 : decide (n < 0) = false := by simp; omega
    have q2 : decide (most < n) = false := by simp; omega
    have q3 : decide (en < 0) = true := by simpa using h2
    have CF := Lib.hid (HF.out h0 h1)
    clear h0 h1 h2
    cases cl
    · obtain rfl : E = 4 := hE
      go_enter Try.func31, Try.ntmps31
      go_wp2_with (first
        | (go_at_call 38; (with_reducible refine C.out.mono ?_); rintro e w1 ⟨rfl, rfl⟩)
        | (go_at_call 41; (with_reducible refine CF.out.mono ?_); rintro e w2 ⟨rfl, b2⟩; have h2 := H.out.below b2; have e0 := h2.src.cell 0; have f2 := h2.st.cell 2; simp at e0 f2; clear h2; have HB := Lib.hid b2; clear b2))
      exact bodyPost_ret (v := .tuple #[.slice none 0 0, .int .i64 0, .int .i64 4]) (by simp [results, Try.results31, go_sem]) rfl ⟨rfl, HB.out⟩
    · obtain rfl : E = 9 := hE
      go_enter Try.func31, Try.ntmps31
      go_wp2_with (first
        | (go_at_call 38; (with_reducible refine C.out.mono ?_); rintro e w1 ⟨rfl, rfl⟩)
        | (go_at_call 41; (with_reducible refine CF.out.mono ?_); rintro e w2 ⟨rfl, b2⟩; have h2 := H.out.below b2; have e0 := h2.src.cell 0; have f2 := h2.st.cell 2; simp at e0 f2; clear h2; have HB := Lib.hid b2; clear b2))
      exact bodyPost_ret (v := .tuple #[.slice none 0 0, .int .i64 0, .int .i64 9]) (by simp [results, Try.results31, go_sem]) rfl ⟨rfl, HB.out⟩

set_option maxRecDepth 100000 in
set_option maxHeartbeats 1000000 in
theorem there41_ok (p1 p2 : Option Addr) (n most : Int) (en : Nat) (B bs bt bb : Nat) (v : Value) (lim : Nat) (l : List UInt8) (tk : Nat) (cl : Bool) (w : World) (h : SS w B bs bt bb v lim l tk cl)
    (hf : Calls Try.prog 41 #[.pointer p1, .pointer p2] w fun e w' => e = .returned (.tuple #[.int .i64 en, .int .i64 0]) ∧ Below w.heap.size w w') (h0 : 0 ≤ n) (h1 : n ≤ most) (he : en ≤ l.length) :
    Calls Try.prog 31 #[.pointer (some ⟨bs, 0, none⟩), .int .i64 n, .int .i64 most, .func (.func 41) #[] #[.pointer p1, .pointer p2]] w fun e w' => ∃ A c, e = .returned (.tuple #[.slice A en c, .int .i64 en, .int .i64 0]) ∧ w'.ownsRow w.heap.size 5 1 (.slice A en c) en ((l.take en).map u8) ∧ Below w.heap.size w w' := by
  have C := Lib.hid (none_some bs bt w h.src)
  have H := Lib.hid h
  have HF := Lib.hid hf
  have hen : (en : Int) ≤ 1048576 := by have := h.lenB; have := h.limB; omega
  have hen0 : (0 : Int) ≤ en := by omega
  have q1 : decide (n < 0) = false := by simp; omega
  have q2 : decide (most < n) = false := by simp; omega
  have q3 : decide ((en : Int) < 0) = false := by simp
  obtain ⟨A, c, rfl, hr⟩ := h.form
  obtain ⟨A', c', hs, hr', -⟩ := slice_to2 w A l.length c en l hr he
  have HR := Lib.hid hr'
  have HE := Lib.hid he
  have hen2 : en ≤ 2000000 := by omega
  have HE2 := Lib.hid hen2
  clear h hf h0 h1 hr hr' he hen2
  go_enter Try.func31, Try.ntmps31
  go_wp2_with (first
    | (go_at_call 38; (with_reducible refine C.out.mono ?_); rintro e w1 ⟨rfl, rfl⟩)
    | (go_at_call 41; (with_reducible refine HF.out.mono ?_); rintro e w2 ⟨rfl, b2⟩; have h2 := H.out.below b2; have e0 := h2.src.cell 0; have f0 := h2.st.cell 0; have f2 := h2.st.cell 2; have g0 := h2.buf.cell 0; simp at e0 f0 f2 g0; have HB := Lib.hid b2; have C39 := Lib.hid (clone_any A' en c' (l.take en) w2 HE2.out (HR.out.below b2)); clear h2 b2)
    | (go_at_call 39; (with_reducible refine C39.out.mono ?_); rintro e w3 ⟨v3, rfl, o3, b3⟩; rw [List.length_take, Nat.min_eq_left HE.out] at o3; obtain ⟨A3, c3, rfl, -⟩ := own_form o3; have HO := Lib.hid o3; have HB3 := Lib.hid b3; clear o3 b3))
  exact bodyPost_ret (v := .tuple #[.slice A3 en c3, .int .i64 en, .int .i64 0]) (by simp [results, Try.results31, go_sem]) rfl ⟨A3, c3, rfl, own_base HO.out HB.out.size, HB.out.trans (HB3.out.mono HB.out.size)⟩


set_option maxRecDepth 100000 in
theorem there33_none (p p1 p2 p3 : Option Addr) (n most : Int) (w : World) (h : NoSrc p w) :
    Calls Try.prog 31 #[.pointer p, .int .i64 n, .int .i64 most, .func (.func 33) #[] #[.pointer p1, .pointer p2, .pointer p3]] w fun e w' => e = .returned (.tuple #[.slice none 0 0, .int .i64 0, .int .i64 1]) ∧ Below w.heap.size w w' := by
  have C := Lib.hid (h w (Below.refl _ _))
  clear h
  go_enter Try.func31, Try.ntmps31
  go_wp2_with (go_at_call 38; (with_reducible refine C.out.mono ?_); rintro e w1 ⟨rfl, rfl⟩)
  refine bodyPost_ret (v := .tuple #[.slice none 0 0, .int .i64 0, .int .i64 1]) (by simp [results, Try.results31, go_sem]) rfl ⟨rfl, Below.refl _ _⟩

set_option maxRecDepth 100000 in
set_option maxHeartbeats 1000000 in
theorem there33_bad (p1 p2 p3 : Option Addr) (n most en er E : Int) (B bs bt bb : Nat) (v : Value) (lim : Nat) (l : List UInt8) (tk : Nat) (cl : Bool) (w : World) (h : SS w B bs bt bb v lim l tk cl)
    (hf : 0 ≤ n → n ≤ most → Calls Try.prog 33 #[.pointer p1, .pointer p2, .pointer p3] w fun e w' => e = .returned (.tuple #[.int .i64 en, .int .i64 er]) ∧ Below w.heap.size w w')
    (hE : (n < 0 ∧ E = 2) ∨ (0 ≤ n ∧ most < n ∧ E = 3) ∨ (0 ≤ n ∧ n ≤ most ∧ (((er == 0) = false ∧ E = er) ∨ (er = 0 ∧ en < 0 ∧ E = if cl then 9 else 4)))) :
    Calls Try.prog 31 #[.pointer (some ⟨bs, 0, none⟩), .int .i64 n, .int .i64 most, .func (.func 33) #[] #[.pointer p1, .pointer p2, .pointer p3]] w fun e w' => e = .returned (.tuple #[.slice none 0 0, .int .i64 0, .int .i64 E]) ∧ Below w.heap.size w w' := by
  have C := Lib.hid (none_some bs bt w h.src)
  have H := Lib.hid h
  have HF := Lib.hid hf
  clear h hf
  rcases hE with ⟨h1, rfl⟩ | ⟨h0, h1, rfl⟩ | ⟨h0, h1, (⟨h2, rfl⟩ | ⟨rfl, h2, hE⟩)⟩
  · have q1 : decide (n < 0) = true := by simpa using h1
    go_enter Try.func31, Try.ntmps31
    go_wp2_with (go_at_call 38; (with_reducible refine C.out.mono ?_); rintro e w1 ⟨rfl, rfl⟩)
    exact bodyPost_ret (v := .tuple #[.slice none 0 0, .int .i64 0, .int .i64 2]) (by simp [results, Try.results31, go_sem]) rfl ⟨rfl, Below.refl _ _⟩
  · have q1 : decide (n < 0) = false := by simp; omega
    have q2 : decide (most < n) = true := by simpa using h1
    go_enter Try.func31, Try.ntmps31
    go_wp2_with (go_at_call 38; (with_reducible refine C.out.mono ?_); rintro e w1 ⟨rfl, rfl⟩)
    exact bodyPost_ret (v := .tuple #[.slice none 0 0, .int .i64 0, .int .i64 3]) (by simp [results, Try.results31, go_sem]) rfl ⟨rfl, Below.refl _ _⟩
  · have q1 : decide (n < 0) = false := by simp; omega
    have q2 : decide (most < n) = false := by simp; omega
    have CF := Lib.hid (HF.out h0 h1)
    clear h0 h1
    go_enter Try.func31, Try.ntmps31
    go_wp2_with (first
      | (go_at_call 38; (with_reducible refine C.out.mono ?_); rintro e w1 ⟨rfl, rfl⟩)
      | (go_at_call 33; (with_reducible refine CF.out.mono ?_); rintro e w2 ⟨rfl, b2⟩; have HB := Lib.hid b2; clear b2))
    exact bodyPost_ret (v := .tuple #[.slice none 0 0, .int .i64 0, .int .i64 E]) (by simp [results, Try.results31, go_sem]) rfl ⟨rfl, HB.out⟩
  · have q1 : decide (n < 0) = false := by simp; omega
    have q2 : decide (most < n) = false := by simp; omega
    have q3 : decide (en < 0) = true := by simpa using h2
    have CF := Lib.hid (HF.out h0 h1)
    clear h0 h1 h2
    cases cl
    · obtain rfl : E = 4 := hE
      go_enter Try.func31, Try.ntmps31
      go_wp2_with (first
        | (go_at_call 38; (with_reducible refine C.out.mono ?_); rintro e w1 ⟨rfl, rfl⟩)
        | (go_at_call 33; (with_reducible refine CF.out.mono ?_); rintro e w2 ⟨rfl, b2⟩; have h2 := H.out.below b2; have e0 := h2.src.cell 0; have f2 := h2.st.cell 2; simp at e0 f2; clear h2; have HB := Lib.hid b2; clear b2))
      exact bodyPost_ret (v := .tuple #[.slice none 0 0, .int .i64 0, .int .i64 4]) (by simp [results, Try.results31, go_sem]) rfl ⟨rfl, HB.out⟩
    · obtain rfl : E = 9 := hE
      go_enter Try.func31, Try.ntmps31
      go_wp2_with (first
        | (go_at_call 38; (with_reducible refine C.out.mono ?_); rintro e w1 ⟨rfl, rfl⟩)
        | (go_at_call 33; (with_reducible refine CF.out.mono ?_); rintro e w2 ⟨rfl, b2⟩; have h2 := H.out.below b2; have e0 := h2.src.cell 0; have f2 := h2.st.cell 2; simp at e0 f2; clear h2; have HB := Lib.hid b2; clear b2))
      exact bodyPost_ret (v := .tuple #[.slice none 0 0, .int .i64 0, .int .i64 9]) (by simp [results, Try.results31, go_sem]) rfl ⟨rfl, HB.out⟩

set_option maxRecDepth 100000 in
set_option maxHeartbeats 1000000 in
theorem there33_ok (p1 p2 p3 : Option Addr) (n most : Int) (en : Nat) (B bs bt bb : Nat) (v : Value) (lim : Nat) (l : List UInt8) (tk : Nat) (cl : Bool) (w : World) (h : SS w B bs bt bb v lim l tk cl)
    (hf : Calls Try.prog 33 #[.pointer p1, .pointer p2, .pointer p3] w fun e w' => e = .returned (.tuple #[.int .i64 en, .int .i64 0]) ∧ Below w.heap.size w w') (h0 : 0 ≤ n) (h1 : n ≤ most) (he : en ≤ l.length) :
    Calls Try.prog 31 #[.pointer (some ⟨bs, 0, none⟩), .int .i64 n, .int .i64 most, .func (.func 33) #[] #[.pointer p1, .pointer p2, .pointer p3]] w fun e w' => ∃ A c, e = .returned (.tuple #[.slice A en c, .int .i64 en, .int .i64 0]) ∧ w'.ownsRow w.heap.size 5 1 (.slice A en c) en ((l.take en).map u8) ∧ Below w.heap.size w w' := by
  have C := Lib.hid (none_some bs bt w h.src)
  have H := Lib.hid h
  have HF := Lib.hid hf
  have hen : (en : Int) ≤ 1048576 := by have := h.lenB; have := h.limB; omega
  have hen0 : (0 : Int) ≤ en := by omega
  have q1 : decide (n < 0) = false := by simp; omega
  have q2 : decide (most < n) = false := by simp; omega
  have q3 : decide ((en : Int) < 0) = false := by simp
  obtain ⟨A, c, rfl, hr⟩ := h.form
  obtain ⟨A', c', hs, hr', -⟩ := slice_to2 w A l.length c en l hr he
  have HR := Lib.hid hr'
  have HE := Lib.hid he
  have hen2 : en ≤ 2000000 := by omega
  have HE2 := Lib.hid hen2
  clear h hf h0 h1 hr hr' he hen2
  go_enter Try.func31, Try.ntmps31
  go_wp2_with (first
    | (go_at_call 38; (with_reducible refine C.out.mono ?_); rintro e w1 ⟨rfl, rfl⟩)
    | (go_at_call 33; (with_reducible refine HF.out.mono ?_); rintro e w2 ⟨rfl, b2⟩; have h2 := H.out.below b2; have e0 := h2.src.cell 0; have f0 := h2.st.cell 0; have f2 := h2.st.cell 2; have g0 := h2.buf.cell 0; simp at e0 f0 f2 g0; have HB := Lib.hid b2; have C39 := Lib.hid (clone_any A' en c' (l.take en) w2 HE2.out (HR.out.below b2)); clear h2 b2)
    | (go_at_call 39; (with_reducible refine C39.out.mono ?_); rintro e w3 ⟨v3, rfl, o3, b3⟩; rw [List.length_take, Nat.min_eq_left HE.out] at o3; obtain ⟨A3, c3, rfl, -⟩ := own_form o3; have HO := Lib.hid o3; have HB3 := Lib.hid b3; clear o3 b3))
  exact bodyPost_ret (v := .tuple #[.slice A3 en c3, .int .i64 en, .int .i64 0]) (by simp [results, Try.results31, go_sem]) rfl ⟨A3, c3, rfl, own_base HO.out HB.out.size, HB.out.trans (HB3.out.mono HB.out.size)⟩


/-- Two boxes. -/
def FX (a b : Nat) (n : Int) (q : Option Addr) (W : World) : Prop := W.cell? ⟨a, 0, none⟩ = some (.int .i64 n) ∧ W.cell? ⟨b, 0, none⟩ = some (.pointer q)
set_option maxRecDepth 100000 in
set_option maxHeartbeats 1000000 in
theorem find_peek (a b B bs bt bb : Nat) (v : Value) (lim : Nat) (l : List UInt8) (tk : Nat) (cl : Bool) (n : Int) (w : World) (h : SS w B bs bt bb v lim l tk cl) (ha : Blk w a 3 #[.int .i64 n]) (hb : Blk w b 24 #[.pointer (some ⟨bs, 0, none⟩)]) (E : Int) (hE : E = if (l.length : Int) < n then -1 else n) :
    Calls Try.prog 41 #[.pointer (some ⟨a, 0, none⟩), .pointer (some ⟨b, 0, none⟩)] w fun e w' => e = .returned (.tuple #[.int .i64 E, .int .i64 0]) ∧ Below w.heap.size w w' := by
  have HH := Lib.hid (h.below (below_drew (Below.refl _ _)))
  have ha0 := ha.cell 0
  have hb0 := hb.cell 0
  simp at ha0 hb0
  have HA := Lib.hid ha
  have HB := Lib.hid hb
  have HEE := Lib.hid hE
  clear ha hb h hE
  obtain ⟨q, hq⟩ : ∃ q : Option Addr, some ⟨bs, 0, none⟩ = q := ⟨_, rfl⟩
  have HS := Lib.hid (show FX a b n (some ⟨bs, 0, none⟩) w.drew from ⟨ha0, hb0⟩)
  clear hq q ha0 hb0
  by_cases hlt : (l.length : Int) < n
  all_goals
    have HL := Lib.hid hlt
    obtain ⟨m, hm⟩ : ∃ m, l.length = m := ⟨_, rfl⟩
    have HM := Lib.hid hm
    rw [hm] at hlt
    go_enter Try.func41, Try.ntmps41
    go_wp2_with fail

    refine wp_region_G (S0 := (FX a b n (some ⟨bs, 0, none⟩))) (S1 := (FX a b n (some ⟨bs, 0, none⟩))) (c := 99) (by kernel_rfl) ?_
    have hHeld := HS.out
    have h01 := (fun (W : World) (h : (FX a b n (some ⟨bs, 0, none⟩)) W) => h)
    refine wpG_takeB (i := 0) (oi := ⟨some 4, _, _, _, _, _⟩) (v := .int .i64 n) rfl (by kernel_rfl) (by kernel_rfl) (by kernel_rfl) (by decide) (fun _ _ _ h => h) h01 rfl hHeld (Or.inl ⟨by rfl, ?_⟩) ?_
    · (intro W9 hSw; obtain ⟨v1, v2⟩ := hSw; go_simp; (try (first | with_reducible rfl | rfl)))
    try simp only [Act.put, List.setIfInBounds_toArray, List.set_cons_zero, List.set_cons_succ]
    refine wpG_takeB (i := 1) (oi := ⟨some 5, _, _, _, _, _⟩) (v := .pointer (some ⟨bs, 0, none⟩)) rfl (by kernel_rfl) (by kernel_rfl) (by kernel_rfl) (by decide) (fun _ _ _ h => h) h01 rfl hHeld (Or.inl ⟨by rfl, ?_⟩) ?_
    · (intro W9 hSw; obtain ⟨v1, v2⟩ := hSw; go_simp; (try (first | with_reducible rfl | rfl)))
    try simp only [Act.put, List.setIfInBounds_toArray, List.set_cons_zero, List.set_cons_succ]
    refine wpG_oneB (i := 2) (o := ⟨some 6, _, _, _, _, _⟩) (by kernel_rfl) rfl rfl (fun K hK => ?_)
    go_simp
    (with_reducible refine (left_some HH.out).mono ?_); rintro e w1 ⟨rfl, b1⟩
    have HB1 := Lib.hid (show Below w.heap.size w w1 from (below_drew (Below.refl w.heap.size w)).trans b1)
    have ka := (HA.out.below HB1.out HA.out.lt).cell 0
    have kb := (HB.out.below HB1.out HB.out.lt).cell 0
    simp at ka kb
    rw [HM.out]
    refine hK.out _ _ (⟨ka, kb⟩ : FX a b n (some ⟨bs, 0, none⟩) w1) (fun hHeld => ?_)
    clear b1
    clear hK K
    try simp only [Act.put, List.setIfInBounds_toArray, List.set_cons_zero, List.set_cons_succ]
    refine wpG_takeB (i := 3) (oi := ⟨some 7, _, _, _, _, _⟩) (v := .bool (decide ((m : Int) < n))) rfl (by kernel_rfl) (by kernel_rfl) (by kernel_rfl) (by decide) (fun _ _ _ h => h) h01 rfl hHeld (Or.inl ⟨by rfl, ?_⟩) ?_
    · (intro W9 hSw; obtain ⟨v1, v2⟩ := hSw; go_simp; (try (first | with_reducible rfl | rfl)))
    try simp only [Act.put, List.setIfInBounds_toArray, List.set_cons_zero, List.set_cons_succ]
    refine wpG_done (by kernel_rfl) ?_ _
    clear hHeld h01
  · have q1 : decide ((m : Int) < n) = true := by simpa using hlt
    go_wp2_with fail
    exact bodyPost_ret (v := .tuple #[.int .i64 E, .int .i64 0]) (by rw [HEE.out, if_pos HL.out]; simp [results, Try.results41, go_sem]) rfl ⟨rfl, HB1.out⟩
  · have q1 : decide ((m : Int) < n) = false := by simpa using hlt
    go_wp2_with fail
    exact bodyPost_ret (v := .tuple #[.int .i64 E, .int .i64 0]) (by rw [HEE.out, if_neg (Int.not_lt.2 (Int.not_lt.1 (by have := HL.out; omega)))]; simp [results, Try.results41, go_sem]) rfl ⟨rfl, HB1.out⟩


set_option maxRecDepth 100000 in
set_option maxHeartbeats 1000000 in
theorem peek_of (p q : Option Addr) (n lm : Int) (cl : Bool) (w : World) (R : Option Addr → Nat → Nat → Int → World → Prop)
    (h32 : ∀ W, Below w.heap.size w W → Calls Try.prog 32 #[.pointer p] W fun e w' => e = .returned (.agg #[.pointer q, .int .i64 lm, .bool cl]) ∧ Below W.heap.size W w')
    (h31 : ∀ W, Below w.heap.size w W → Blk W w.heap.size 24 #[.pointer p] → Blk W (w.heap.size + 1) 3 #[.int .i64 n] → Calls Try.prog 31 #[.pointer p, .int .i64 n, .int .i64 lm, .func (.func 41) #[] #[.pointer (some ⟨w.heap.size + 1, 0, none⟩), .pointer (some ⟨w.heap.size, 0, none⟩)]] W fun e w' => ∃ A m c k x, e = .returned (.tuple #[.slice A m c, .int .i64 k, .int .i64 x]) ∧ R A m c x w' ∧ Below W.heap.size W w') :
    Calls Try.prog 27 #[.pointer p, .int .i64 n] w fun e w' => ∃ A m c x, e = .returned (.tuple #[.slice A m c, .int .i64 x]) ∧ R A m c x w' ∧ Below w.heap.size w w' := by
  obtain ⟨w0, hW0⟩ : ∃ w0, (w.alloc (.cells #[.pointer p] 24)).alloc (.cells #[.int .i64 n] 3) = w0 := ⟨_, rfl⟩
  have HW0 := Lib.hid hW0
  have HBW := Lib.hid (show Below w.heap.size w w0 from hW0 ▸ ((Below.refl _ w).alloc (Nat.le_refl _) _).alloc (by simp) _)
  have k1 : Blk w0 w.heap.size 24 #[.pointer p] := hW0 ▸ (Blk.new w 24 _).alloc _
  have k2 : Blk w0 (w.heap.size + 1) 3 #[.int .i64 n] := by have := Blk.new (w.alloc (.cells #[.pointer p] 24)) 3 #[.int .i64 n]; rw [World.size_alloc, hW0] at this; exact this
  have HK1 := Lib.hid k1
  have HK2 := Lib.hid k2
  have hs : FX (w.heap.size + 1) w.heap.size n p w0.drew := ⟨k2.cell 0, k1.cell 0⟩
  have HS := Lib.hid hs
  have H32 := Lib.hid (h32 w0.drew (below_drew HBW.out))
  have H31 := Lib.hid h31
  clear hW0 k1 k2 hs h32 h31
  go_enter Try.func27, Try.ntmps27
  go_wp2_with fail
  rw [HW0.out]

  refine wp_region_G (S0 := (FX (w.heap.size + 1) w.heap.size n p)) (S1 := (FX (w.heap.size + 1) w.heap.size n p)) (c := 99) (by kernel_rfl) ?_
  have hHeld := HS.out
  have h01 := (fun (W : World) (h : (FX (w.heap.size + 1) w.heap.size n p) W) => h)
  refine wpG_takeB (i := 0) (oi := ⟨some 10, _, _, _, _, _⟩) (v := .pointer p) rfl (by kernel_rfl) (by kernel_rfl) (by kernel_rfl) (by decide) (fun _ _ _ h => h) h01 rfl hHeld (Or.inl ⟨by rfl, ?_⟩) ?_
  · (intro W9 hSw; obtain ⟨v1, v2⟩ := hSw; go_simp; (try (first | with_reducible rfl | rfl)))
  try simp only [Act.put, List.setIfInBounds_toArray, List.set_cons_zero, List.set_cons_succ]
  refine wpG_takeB (i := 1) (oi := ⟨some 11, _, _, _, _, _⟩) (v := .int .i64 n) rfl (by kernel_rfl) (by kernel_rfl) (by kernel_rfl) (by decide) (fun _ _ _ h => h) h01 rfl hHeld (Or.inl ⟨by rfl, ?_⟩) ?_
  · (intro W9 hSw; obtain ⟨v1, v2⟩ := hSw; go_simp; (try (first | with_reducible rfl | rfl)))
  try simp only [Act.put, List.setIfInBounds_toArray, List.set_cons_zero, List.set_cons_succ]
  refine wpG_takeB (i := 2) (oi := ⟨some 12, _, _, _, _, _⟩) (v := .pointer p) rfl (by kernel_rfl) (by kernel_rfl) (by kernel_rfl) (by decide) (fun _ _ _ h => h) h01 rfl hHeld (Or.inl ⟨by rfl, ?_⟩) ?_
  · (intro W9 hSw; obtain ⟨v1, v2⟩ := hSw; go_simp; (try (first | with_reducible rfl | rfl)))
  try simp only [Act.put, List.setIfInBounds_toArray, List.set_cons_zero, List.set_cons_succ]
  refine wpG_takeB (i := 5) (oi := ⟨some 15, _, _, _, _, _⟩) (v := .func (.func 41) #[] #[.pointer (some ⟨w.heap.size + 1, 0, none⟩), .pointer (some ⟨w.heap.size, 0, none⟩)]) rfl (by kernel_rfl) (by kernel_rfl) (by kernel_rfl) (by decide) (fun _ _ _ h => h) h01 rfl hHeld (Or.inl ⟨by rfl, ?_⟩) ?_
  · (intro W9 hSw; obtain ⟨v1, v2⟩ := hSw; go_simp; (try (first | with_reducible rfl | rfl)))
  try simp only [Act.put, List.setIfInBounds_toArray, List.set_cons_zero, List.set_cons_succ]
  refine wpG_oneB (i := 3) (o := ⟨some 13, _, _, _, _, _⟩) (by kernel_rfl) rfl rfl (fun K hK => ?_)
  go_simp
  (with_reducible refine H32.out.mono ?_); rintro e w1 ⟨rfl, b1⟩
  have HB1 := Lib.hid (show Below w0.heap.size w0 w1 from (below_drew (Below.refl w0.heap.size w0)).trans b1)
  clear b1
  refine hK.out _ _ (⟨(HK2.out.below HB1.out HK2.out.lt).cell 0, (HK1.out.below HB1.out HK1.out.lt).cell 0⟩ : FX (w.heap.size + 1) w.heap.size n p w1) (fun hHeld => ?_)
  clear hK K
  try simp only [Act.put, List.setIfInBounds_toArray, List.set_cons_zero, List.set_cons_succ]
  refine wpG_takeB (i := 4) (oi := ⟨some 14, _, _, _, _, _⟩) (v := .int .i64 lm) rfl (by kernel_rfl) (by kernel_rfl) (by kernel_rfl) (by decide) (fun _ _ _ h => h) h01 rfl hHeld (Or.inl ⟨by rfl, ?_⟩) ?_
  · (intro W9 hSw; obtain ⟨v1, v2⟩ := hSw; go_simp; (try (first | with_reducible rfl | rfl)))
  try simp only [Act.put, List.setIfInBounds_toArray, List.set_cons_zero, List.set_cons_succ]
  refine wpG_oneB (i := 6) (o := ⟨some 16, _, _, _, _, _⟩) (by kernel_rfl) rfl rfl (fun K hK => ?_)
  go_simp
  (with_reducible refine (H31.out w1 (HBW.out.trans (HB1.out.mono HBW.out.size)) (HK1.out.below HB1.out HK1.out.lt) (HK2.out.below HB1.out HK2.out.lt)).mono ?_); rintro e w2 ⟨A, m, c, k, x, rfl, hR, b2⟩
  have HR := Lib.hid hR
  have HB2 := Lib.hid (HB1.out.trans (b2.mono HB1.out.size))
  clear b2 hR
  refine hK.out _ _ (⟨(HK2.out.below HB2.out HK2.out.lt).cell 0, (HK1.out.below HB2.out HK1.out.lt).cell 0⟩ : FX (w.heap.size + 1) w.heap.size n p w2) (fun hHeld => ?_)
  clear hK K
  try simp only [Act.put, List.setIfInBounds_toArray, List.set_cons_zero, List.set_cons_succ]
  refine wpG_takeB (i := 7) (oi := ⟨some 9, _, _, _, _, _⟩) (v := .tuple #[.slice A m c, .int .i64 k, .int .i64 x]) rfl (by kernel_rfl) (by kernel_rfl) (by kernel_rfl) (by decide) (fun _ _ _ h => h) h01 rfl hHeld (Or.inl ⟨by rfl, ?_⟩) ?_
  · (intro W9 hSw; obtain ⟨v1, v2⟩ := hSw; go_simp; (try (first | with_reducible rfl | rfl)))
  try simp only [Act.put, List.setIfInBounds_toArray, List.set_cons_zero, List.set_cons_succ]
  refine wpG_takeB (i := 8) (oi := ⟨some 17, _, _, _, _, _⟩) (v := .slice A m c) rfl (by kernel_rfl) (by kernel_rfl) (by kernel_rfl) (by decide) (fun _ _ _ h => h) h01 rfl hHeld (Or.inl ⟨by rfl, ?_⟩) ?_
  · (intro W9 hSw; obtain ⟨v1, v2⟩ := hSw; go_simp; (try (first | with_reducible rfl | rfl)))
  try simp only [Act.put, List.setIfInBounds_toArray, List.set_cons_zero, List.set_cons_succ]
  refine wpG_takeB (i := 9) (oi := ⟨some 18, _, _, _, _, _⟩) (v := .int .i64 k) rfl (by kernel_rfl) (by kernel_rfl) (by kernel_rfl) (by decide) (fun _ _ _ h => h) h01 rfl hHeld (Or.inl ⟨by rfl, ?_⟩) ?_
  · (intro W9 hSw; obtain ⟨v1, v2⟩ := hSw; go_simp; (try (first | with_reducible rfl | rfl)))
  try simp only [Act.put, List.setIfInBounds_toArray, List.set_cons_zero, List.set_cons_succ]
  refine wpG_takeB (i := 10) (oi := ⟨some 19, _, _, _, _, _⟩) (v := .int .i64 x) rfl (by kernel_rfl) (by kernel_rfl) (by kernel_rfl) (by decide) (fun _ _ _ h => h) h01 rfl hHeld (Or.inl ⟨by rfl, ?_⟩) ?_
  · (intro W9 hSw; obtain ⟨v1, v2⟩ := hSw; go_simp; (try (first | with_reducible rfl | rfl)))
  try simp only [Act.put, List.setIfInBounds_toArray, List.set_cons_zero, List.set_cons_succ]
  refine wpG_takeB (i := 11) (oi := ⟨some 6, _, _, _, _, _⟩) (v := .slice A m c) rfl (by kernel_rfl) (by kernel_rfl) (by kernel_rfl) (by decide) (fun _ _ _ h => h) h01 rfl hHeld (Or.inl ⟨by rfl, ?_⟩) ?_
  · (intro W9 hSw; obtain ⟨v1, v2⟩ := hSw; go_simp; (try (first | with_reducible rfl | rfl)))
  try simp only [Act.put, List.setIfInBounds_toArray, List.set_cons_zero, List.set_cons_succ]
  refine wpG_takeB (i := 12) (oi := ⟨some 7, _, _, _, _, _⟩) (v := .int .i64 k) rfl (by kernel_rfl) (by kernel_rfl) (by kernel_rfl) (by decide) (fun _ _ _ h => h) h01 rfl hHeld (Or.inl ⟨by rfl, ?_⟩) ?_
  · (intro W9 hSw; obtain ⟨v1, v2⟩ := hSw; go_simp; (try (first | with_reducible rfl | rfl)))
  try simp only [Act.put, List.setIfInBounds_toArray, List.set_cons_zero, List.set_cons_succ]
  refine wpG_takeB (i := 13) (oi := ⟨some 8, _, _, _, _, _⟩) (v := .int .i64 x) rfl (by kernel_rfl) (by kernel_rfl) (by kernel_rfl) (by decide) (fun _ _ _ h => h) h01 rfl hHeld (Or.inl ⟨by rfl, ?_⟩) ?_
  · (intro W9 hSw; obtain ⟨v1, v2⟩ := hSw; go_simp; (try (first | with_reducible rfl | rfl)))
  try simp only [Act.put, List.setIfInBounds_toArray, List.set_cons_zero, List.set_cons_succ]
  refine wpG_done (by kernel_rfl) ?_ _
  clear hHeld h01
  go_wp2_with fail
  exact bodyPost_ret (v := .tuple #[.slice A m c, .int .i64 x]) (by simp [results, Try.results27, go_sem]) rfl ⟨A, m, c, x, rfl, HR.out, HBW.out.trans (HB2.out.mono HBW.out.size)⟩
end Go.Proofs.Ythkpmbgclllnjaa
