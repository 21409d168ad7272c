/- The law's helpers: at, feeds; Copy. closes, and Copy. few; the plain values of known's examples. -/
import Derived.Test.YtibkhjpjneoabaaFm
namespace Go.Proofs.Ytibkhjpjneoabaa
open Go.RowKit
set_option linter.unusedVariables false
set_option linter.unusedSimpArgs false

theorem conv_sr (w : World) (l : List UInt8) (hl : l.length ≤ 1000000) :
    ∃ cap W1, (convert 9 28 (.string ⟨l.toArray⟩)).run Try.prog w = .ok (.slice (some ⟨w.heap.size, 0, none⟩) l.length cap) W1 ∧ RB W1 (some ⟨w.heap.size, 0, none⟩) l.length cap l ∧ Below w.heap.size w W1 ∧ w.heap.size < W1.heap.size := by
  obtain ⟨cap, W1, h1, h2, h3, h4, h5⟩ := conv_sb (P := Try.prog) w 9 28 5 ⟨l.toArray⟩ Try.underlying9 Try.underlying28 Try.underlying5
  have hcm : cap ≤ maxLen := by
    have := Lib.run_convert_string_bytes (P := Try.prog) w 9 28 5 ⟨l.toArray⟩ Try.underlying9 Try.underlying28 Try.underlying5
    rw [h1] at this
    injection this with e1 e2
    injection e1 with e3 e4 e5
    rw [e5]
    exact grownCap_le_maxLen _ _ _ _ (by show l.toArray.size ≤ maxLen; unfold maxLen; simp; omega)
  refine ⟨cap, W1, h1, ⟨rfl, ⟨by simp, (fun e => by cases e), fun b hb j u hj => ?_⟩, h4, hcm, fun e => by cases e⟩, h3, h5⟩
  cases hb
  obtain ⟨hj1, hj2⟩ := List.getElem?_eq_some_iff.1 hj
  have hj3 : j < l.length := by simpa using hj1
  obtain ⟨b9, o9, e9, -, hc9⟩ := h2 (show 0 < (l.toArray).toList.length by simp; omega)
  cases e9
  have := hc9 j (by simpa using hj3)
  rw [Addr.add_lit, this, ← hj2]
  simp [u8]
theorem fr_res6 {fn : Func} {tmps : Array Value} {W : World} {bx : Nat} {x y z : Value} (hf : fn.results = Try.f26.results) (h4 : tmps.getD 6 undef = .pointer (some ⟨bx, 0, none⟩)) (hb : Blk W bx 44 #[x, y, z]) : (results fn tmps).run Try.prog W = .ok (.agg #[x, y, z]) W := by
  have e : results fn tmps = results Try.f26 tmps := by unfold results; rw [hf]
  rw [e]
  have c0 : W.cell? ⟨bx, 0, none⟩ = some x := hb.cell 0
  have c1 : W.cell? ⟨bx, 1, none⟩ = some y := hb.cell 1
  have c2 : W.cell? ⟨bx, 2, none⟩ = some z := hb.cell 2
  simp at h4
  simp [results, Try.results26, go_sem, h4, c0, c1, c2]
set_option maxRecDepth 100000 in
set_option maxHeartbeats 1000000 in
theorem at_any (a : Nat) (l : List UInt8) (code : Int) (w : World) (hl : l.length ≤ 1000000) :
    Calls Try.prog 26 #[.int .i64 (a : Int), .string ⟨l.toArray⟩, .int .i64 code] w fun e w' => ∃ g cp, e = .returned (.agg #[.int .i64 (a : Int), .slice (some ⟨g, 0, none⟩) l.length cp, .int .i64 code]) ∧ w.heap.size ≤ g ∧ RB w' (some ⟨g, 0, none⟩) l.length cp l ∧ Below w.heap.size w w' := by
  obtain ⟨W0, hW0⟩ : ∃ W0, w.alloc (.cells #[.int .i64 0, .slice none 0 0, .int .i64 0] 44) = W0 := ⟨_, rfl⟩
  have hb0 : Below w.heap.size w W0 := hW0 ▸ (Below.refl _ w).alloc (Nat.le_refl _) _
  have kx : Blk W0 w.heap.size 44 #[.int .i64 0, .slice none 0 0, .int .i64 0] := hW0 ▸ Blk.new w 44 _
  obtain ⟨cap, W1, hconv, hr, hb1, h5⟩ := conv_sr W0 l hl
  obtain ⟨g, hg⟩ : ∃ g, W0.heap.size = g := ⟨_, rfl⟩
  rw [hg] at hconv hr
  have HG := Lib.hid (show w.heap.size ≤ g from hg ▸ hb0.size)
  have hx1 := kx.below hb1 kx.lt
  have HX := Lib.hid hx1
  have HNE := Lib.hid (show g ≠ w.heap.size by have := kx.lt; omega)
  have HB := Lib.hid (hb0.trans (hb1.mono hb0.size))
  have HR := Lib.hid hr
  have HW0 := Lib.hid hW0
  obtain ⟨g0, g1, g2⟩ : W1.cell? ⟨w.heap.size, 0, none⟩ = some (.int .i64 0) ∧ W1.cell? ⟨w.heap.size, 1, none⟩ = some (.slice none 0 0) ∧ W1.cell? ⟨w.heap.size, 2, none⟩ = some (.int .i64 0) := ⟨hx1.cell 0, hx1.cell 1, hx1.cell 2⟩
  have y0 := hx1.frozen 0
  have y1 := hx1.frozen 1
  have y2 := hx1.frozen 2
  generalize (⟨l.toArray⟩ : ByteArray) = sb at *
  clear hW0 hb0 kx hr hb1 h5 hx1 hg hl
  go_enter Try.func26, Try.ntmps26
  go_upto_region 1 with fail
  rw [HW0.out]
  clear HW0
  go_wp2_with fail
  refine bodyPost_ret (v := .agg #[.int .i64 (a : Int), .slice (some ⟨g, 0, none⟩) l.length cap, .int .i64 code]) (fr_res6 rfl rfl (blk_set3 HX.out)) rfl ⟨g, cap, rfl, HG.out, ?_, below_set3 HB.out (Nat.le_refl _)⟩
  exact HR.out.only (((Only.refl (fun q => q = w.heap.size) W1).set (fun _ => rfl) 0 _).set (fun _ => rfl) 1 _ |>.set (fun _ => rfl) 2 _) fun x hA h0 e => by cases hA; exact HNE.out e
theorem FrR.only {w w' : World} {A : Option Addr} {ds : List Fd} {p : Nat → Prop} (h : FrR w A ds) (ho : Only p w w') (h1 : ∀ b o, A = some ⟨b, o, none⟩ → 0 < ds.length → ¬ p b) (h2 : ∀ d ∈ ds, ∀ a, d.A = some a → 0 < d.n → ¬ p a.block) : FrR w' A ds :=
  ⟨fun h0 => by
    obtain ⟨b, o, e, hc⟩ := h.cells h0
    refine ⟨b, o, e, fun j u hj => ?_⟩
    have h3 := hc j u hj
    have h4 := World.block_lt_of_cell? _ _ h3
    have h5 := ho.block b h4 (h1 b o e h0)
    unfold World.cell? at h3 ⊢
    simpa [h5] using h3, fun d hd => (h.rows d hd).only ho (h2 d hd)⟩
theorem FrR.below {w w' : World} {A : Option Addr} {ds : List Fd} (h : FrR w A ds) (hb : Below w.heap.size w w') : FrR w' A ds := h.only (Only.of_below (p := fun _ => False) hb) (fun _ _ _ _ x => x) fun _ _ _ _ _ x => x
/-- A list lies apart from a reader. -/
structure FrSep (p : Nat → Prop) (A : Option Addr) (ds : List Fd) : Prop where
  c : ∀ b o, A = some ⟨b, o, none⟩ → 0 < ds.length → ¬ p b
  d : ∀ d ∈ ds, ∀ a, d.A = some a → 0 < d.n → ¬ p a.block

set_option maxRecDepth 100000 in
set_option maxHeartbeats 2000000 in
theorem feeds_any (B r : Nat) (k m c : Int) (v : Value) (s : St) (l : List UInt8) (P : Option Addr) (cpP : Nat) (es : List Fd) (w : World) (hF : OkF k m c) (hs : RdS w B r k m c v s) (h3 : s.st ≠ 3) (hl : s.held.length + l.length ≤ 40000) (ho : s.off + l.length ≤ 100000) (he : FrR w P es) (hp : FrSep (SFo r v) P es) (hf : (feedS k m c s l).2 = es.map Fd.fr) (hle : es.length ≤ 100000) :
    Calls Try.prog 25 #[.pointer (some ⟨r, 0, none⟩), .string ⟨l.toArray⟩, .slice P es.length cpP] w fun e w' => e = .returned (.bool true) ∧ ∃ v', StepD w w' B r k m c v v' (feedS k m c s l).1 := by
  obtain ⟨cap, W1, hconv, hr, hb1, h5⟩ := conv_sr w l (by omega)
  have HS := Lib.hid hs
  have HE := Lib.hid (he.below hb1)
  have HP := Lib.hid hp
  have HFE := Lib.hid hf
  have HLE := Lib.hid hle
  have HB1 := Lib.hid hb1
  have C17 := Lib.hid (feed_any B r k m c v s (some ⟨w.heap.size, 0, none⟩) l.length cap l W1 hF (hs.below hb1) h3 hr (fun a hA h0 e => by cases hA; have := hs.lt _ e; simp at this) hl (by omega))
  unfold Fed at C17
  have C15 := Lib.hid (fun W => num_any 0 W)
  generalize (⟨l.toArray⟩ : ByteArray) = sb at *
  generalize feedS k m c s l = fs at *
  clear hs he hp hf hle hr hb1 h5 hl ho h3 hF
  go_enter Try.func25, Try.ntmps25
  go_wp2_with (go_at_call 17; (with_reducible refine C17.out.mono ?_); rintro e w2 ⟨out, v2, ds, rfl, hea, hfr⟩; refine Hid.out ?_)
  refine Lib.hid ?_
  obtain ⟨A2, c2, rfl, -⟩ := own_formS hea.frs.own
  have HEA := Lib.hid hea
  have C21 := Lib.hid (same_any A2 P c2 cpP ds es w2 (hea.frs.read).1 (HE.out.only hea.only HP.out.c HP.out.d) (by rw [hfr, HFE.out]) (by have := congrArg List.length hfr; rw [HFE.out] at this; simp at this; have := HLE.out; omega))
  clear hea hfr
  go_wp2_with (first
    | (go_at_call 15; (with_reducible refine (C15.out _).mono ?_); rintro e w3 ⟨rfl, rfl⟩)
    | (go_at_call 21; (with_reducible refine C21.out.mono ?_); rintro e w4 ⟨rfl, b4⟩; have HB4 := Lib.hid b4; clear b4))
  go_ret
  refine ⟨rfl, v2, HEA.out.rd.below HB4.out, (Only.after HB1.out HEA.out.only).below HB4.out, ?_⟩
  rcases HEA.out.hat with e | e
  · exact .inl e
  · exact .inr fun j hj => Nat.le_trans HB1.out.size (e j hj)
end Go.Proofs.Ytibkhjpjneoabaa

namespace Go.Proofs.Ytibkhjpjneoabaa
open Go.RowKit
set_option linter.unusedVariables false
set_option linter.unusedSimpArgs false

set_option maxRecDepth 100000 in
set_option maxHeartbeats 2000000 in
theorem closes_off (B r : Nat) (k m c : Int) (v : Value) (s : St) (P : Option Addr) (cpP : Nat) (w : World) (hF : OkF k m c) (hs : RdS w B r k m c v s) (h3 : s.st ≠ 3) (hn : s.begun = false) :
    Calls Try.prog 18 #[.pointer (some ⟨r, 0, none⟩), .slice P 0 cpP] w fun e w' => e = .returned (.bool true) ∧ RdS w' B r k m c v s.closed ∧ Only (fun q => q = r) w w' := by
  have C23 := Lib.hid (close_any B r k m c v s w hF hs h3 hn)
  have C15 := Lib.hid (fun W => num_any 0 W)
  have C21 := Lib.hid (fun W => (show Calls Try.prog 21 #[.slice none 0 0, .slice P 0 cpP] W fun e w' => e = .returned (.bool true) ∧ Below W.heap.size W w' from same_any none P 0 cpP [] [] W ⟨fun h => absurd h (by simp), fun _ h => by cases h⟩ ⟨fun h => absurd h (by simp), fun _ h => by cases h⟩ rfl (by simp)))
  clear hF hs h3 hn
  go_enter Try.func18, Try.ntmps18
  go_wp2_with (first
    | (go_at_call 23; (with_reducible refine C23.out.mono ?_); rintro e w2 ⟨rfl, hr, ho⟩; have HR := Lib.hid hr; have HO := Lib.hid ho; clear hr ho)
    | (go_at_call 15; (with_reducible refine (C15.out _).mono ?_); rintro e w3 ⟨rfl, rfl⟩)
    | (go_at_call 21; (with_reducible refine (C21.out _).mono ?_); rintro e w4 ⟨rfl, b4⟩; have HB4 := Lib.hid b4; clear b4))
  go_ret
  exact ⟨rfl, HR.out.below HB4.out, HO.out.below HB4.out⟩
theorem FrR.one {w : World} {b : Nat} {d : Fd} {A : Option Addr} (h : Blk w b 44 #[.int .i64 (d.fr.at_ : Int), d.val, .int .i64 d.fr.code]) (hA : A = some ⟨b, 0, none⟩) (hr : RB w d.A d.n d.cp d.fr.bytes) : FrR w A [d] :=
  ⟨fun _ => ⟨b, 0, hA, fun j u hj => by
    rw [Nat.zero_add, h.cell j]
    simpa [Fd.cells] using hj⟩, fun x hx => by obtain rfl : x = d := by simpa using hx
                                               exact hr⟩
set_option maxRecDepth 100000 in
set_option maxHeartbeats 2000000 in
theorem closes_on (B r : Nat) (k m c : Int) (v : Value) (s : St) (P : Option Addr) (cpP : Nat) (es : List Fd) (w : World) (hF : OkF k m c) (hs : RdS w B r k m c v s) (h3 : s.st ≠ 3) (hn : s.begun = true) (he : FrR w P es) (hp : FrSep (fun q => q = r) P es) (hf : es.map Fd.fr = [⟨s.at_, [], 4⟩]) :
    Calls Try.prog 18 #[.pointer (some ⟨r, 0, none⟩), .slice P es.length cpP] w fun e w' => e = .returned (.bool true) ∧ RdS w' B r k m c v s.closed ∧ Only (fun q => q = r) w w' := by
  have C23 := Lib.hid (close_mid B r k m c v s w hF hs h3 hn)
  have C15 := Lib.hid (fun W => num_any 0 W)
  have HE := Lib.hid he
  have HP := Lib.hid hp
  have HF := Lib.hid hf
  clear hF hs h3 hn he hp hf
  go_enter Try.func18, Try.ntmps18
  go_wp2_with (go_at_call 23; (with_reducible refine C23.out.mono ?_); rintro e w2 ⟨b, rfl, hb, hk, hr, ho⟩; refine Hid.out ?_)
  refine Lib.hid ?_
  have HR := Lib.hid hr
  have HO := Lib.hid ho
  have C21 := Lib.hid (show Calls Try.prog 21 #[.slice (some ⟨b, 0, none⟩) 1 1, .slice P es.length cpP] w2 fun e w' => e = .returned (.bool true) ∧ Below w2.heap.size w2 w' from same_any (some ⟨b, 0, none⟩) P 1 cpP [⟨⟨s.at_, [], 4⟩, none, 0, 0⟩] es w2 (FrR.one (d := ⟨⟨s.at_, [], 4⟩, none, 0, 0⟩) hk rfl (RB.nil w2)) (HE.out.only ho HP.out.c HP.out.d) (by rw [HF.out]; rfl) (by simp))
  clear hb hk hr ho
  go_wp2_with (first
    | (go_at_call 15; (with_reducible refine (C15.out _).mono ?_); rintro e w3 ⟨rfl, rfl⟩)
    | (go_at_call 21; (with_reducible refine C21.out.mono ?_); rintro e w4 ⟨rfl, b4⟩; have HB4 := Lib.hid b4; clear b4))
  go_ret
  exact ⟨rfl, HR.out.below HB4.out, HO.out.below HB4.out⟩
set_option maxRecDepth 100000 in
theorem clone_nil (w : World) : Calls Try.prog 39 #[.slice none 0 0] w fun e w' => e = .returned (.slice none 0 0) ∧ w = w' := by
  have hnil : ∀ W : World, (binOp .eql 28 (.slice none 0 0) (.slice none 0 0)).run Try.prog W = .ok (.bool true) W := fun W => by kernel_rfl
  go_enter Try.func39, Try.ntmps39
  go_wp2_with fail
  go_ret
  exact ⟨rfl, rfl⟩
/-- Clone, of what a reader holds. -/
theorem clone_held (B r : Nat) (k m c : Int) (v : Value) (s : St) (w : World) (h : RdS w B r k m c v s) (hl : s.held.length ≤ 40000) :
    Calls Try.prog 39 #[v] w fun e w' => ∃ A cp, e = .returned (.slice A s.held.length cp) ∧ w'.ownsRow w.heap.size 5 1 (.slice A s.held.length cp) s.held.length (s.held.map u8) ∧ Below w.heap.size w w' ∧ (s.held = [] → A = none) := by
  obtain ⟨A, cp, rfl⟩ := h.form
  by_cases h0 : s.held = []
  · have h1 := h.nil h0
    have h2 := own_RB3 h.own
    have hA : A = none := by
      cases A with
      | none => rfl
      | some a =>
        rcases h.own.2 with ⟨e, -⟩ | ⟨g, cap, cur, e, -⟩
        · cases e
        · cases e; simp [Value.ownBlock] at h1
    subst hA
    have hc := h2.z rfl
    have hz : s.held.length = 0 := by simp [h0]
    rw [hz, hc]
    refine (clone_nil w).mono ?_
    rintro e w' ⟨rfl, rfl⟩
    exact ⟨none, 0, rfl, by rw [h0]; exact World.ownsRow_nil _ _ 5 1, Below.refl _ _, fun _ => rfl⟩
  · refine (clone_any A s.held.length cp s.held w (by omega) (own_RB3 h.own)).mono ?_
    rintro e w' ⟨v2, rfl, h1, h2⟩
    obtain ⟨A2, c2, rfl, -⟩ := own_form h1
    exact ⟨A2, c2, rfl, h1, h2, fun e => absurd e h0⟩
set_option maxRecDepth 100000 in
set_option maxHeartbeats 2000000 in
theorem copy_any (B r : Nat) (k m c : Int) (v : Value) (s : St) (w : World) (hF : OkF k m c) (h : RdS w B r k m c v s) (hl : s.held.length ≤ 40000) :
    Calls Try.prog 24 #[.pointer (some ⟨r, 0, none⟩)] w fun e w' => ∃ r2 v2, e = .returned (.pointer (some ⟨r2, 0, none⟩)) ∧ w.heap.size ≤ r2 ∧ RdS w' w.heap.size r2 k m c v2 s ∧ Below w.heap.size w w' := by
  have C32 := Lib.hid (h.some_ hF)
  have H := Lib.hid h
  have HL := Lib.hid hl
  have a0 : w.cell? ⟨r, 0, none⟩ = some (.int .i64 k) := h.blk.cell 0
  have a1 : w.cell? ⟨r, 1, none⟩ = some (.int .i64 m) := h.blk.cell 1
  have a2 : w.cell? ⟨r, 2, none⟩ = some (.int .i64 c) := h.blk.cell 2
  have a3 : w.cell? ⟨r, 3, none⟩ = some (.int .i64 s.st) := h.blk.cell 3
  have a4 : w.cell? ⟨r, 4, none⟩ = some (.int .i64 s.off) := h.blk.cell 4
  have a5 : w.cell? ⟨r, 5, none⟩ = some (.int .i64 s.at_) := h.blk.cell 5
  have a6 : w.cell? ⟨r, 6, none⟩ = some v := h.blk.cell 6
  have a7 : w.cell? ⟨r, 7, none⟩ = some (.bool s.begun) := h.blk.cell 7
  have a8 : w.cell? ⟨r, 8, none⟩ = some (.bool s.esc) := h.blk.cell 8
  have a9 : w.cell? ⟨r, 9, none⟩ = some (.bool s.lost) := h.blk.cell 9
  obtain ⟨A1, c1, hv⟩ := h.form
  subst hv
  clear h hF hl
  go_enter Try.func24, Try.ntmps24
  go_wp2_with (go_at_call 32; (with_reducible refine C32.out.mono ?_); rintro e w1 ⟨rfl, rfl⟩; refine Hid.out ?_)
  refine Lib.hid ?_
  go_upto_region 4 with fail
  obtain ⟨W1, hW1⟩ : ∃ W1, w.alloc (.cells #[.int .i64 k, .int .i64 m, .int .i64 c, .int .i64 s.st, .int .i64 s.off, .int .i64 s.at_, .slice A1 s.held.length c1, .bool s.begun, .bool s.esc, .bool s.lost] 58) = W1 := ⟨_, rfl⟩
  have hb1 : Below w.heap.size w W1 := hW1 ▸ (Below.refl _ w).alloc (Nat.le_refl _) _
  have kb : Blk W1 w.heap.size 58 #[.int .i64 k, .int .i64 m, .int .i64 c, .int .i64 s.st, .int .i64 s.off, .int .i64 s.at_, .slice A1 s.held.length c1, .bool s.begun, .bool s.esc, .bool s.lost] := hW1 ▸ Blk.new w 58 _
  have h1 := H.out.below hb1
  have b6 : W1.cell? ⟨r, 6, none⟩ = some (.slice A1 s.held.length c1) := h1.blk.cell 6
  have C39 := Lib.hid (clone_held B r k m c _ s W1 h1 HL.out)
  rw [hW1]
  have HK := Lib.hid kb
  have HB1 := Lib.hid hb1
  clear hW1 hb1 kb h1 a0 a1 a2 a3 a4 a5 a6 a7 a8 a9
  go_wp2_with (go_at_call 39; (with_reducible refine C39.out.mono ?_); rintro e w2 ⟨A2, c2, rfl, ho2, hb2, hnil⟩; refine Hid.out ?_)
  refine Lib.hid ?_
  have hk2 := HK.out.below hb2 HK.out.lt
  have kq : w2.cell? ⟨w.heap.size, 6, none⟩ = some (.slice A1 s.held.length c1) := hk2.cell 6
  have zq := hk2.frozen 6
  have HK2 := Lib.hid hk2
  have HO2 := Lib.hid ho2
  have HB2 := Lib.hid hb2
  have HNL := Lib.hid hnil
  clear ho2 hb2 hnil hk2 b6
  go_wp2_with fail
  go_ret
  have hk3 := HK2.out.set_ 6 (.slice A2 s.held.length c2)
  simp only [List.setIfInBounds_toArray, List.set_cons_zero, List.set_cons_succ] at hk3
  have hb := HB1.out.trans (HB2.out.mono HB1.out.size)
  refine ⟨w.heap.size, .slice A2 s.held.length c2, rfl, Nat.le_refl _, ⟨hk3, own_setCell (own_base HO2.out HB1.out.size) (own_ne HO2.out HK2.out (by decide)) _, by simpa using hb.size, fun e => ?_⟩, Below.setCell hb (by simp) _⟩
  rw [HNL.out e]
  rfl
end Go.Proofs.Ytibkhjpjneoabaa

namespace Go.Proofs.Ytibkhjpjneoabaa
open Go.RowKit
set_option linter.unusedVariables false
set_option linter.unusedSimpArgs false

/-- What few returns. -/
def FewD (w : World) (len : Nat) (f : Nat → Pk) (e : Ending) (w' : World) : Prop := ∃ b, e = .returned (.bool b) ∧ w = w' ∧ (b = true → len ≤ 20 ∧ ∀ i, i < len → (f i).n ≤ 700)

set_option maxRecDepth 100000 in
set_option maxHeartbeats 2000000 in
theorem few_any (L : Option Addr) (len cL : Nat) (f : Nat → Pk) (w : World) (hs : PSS w L len f) :
    Calls Try.prog 9 #[.slice L len cL] w (FewD w len f) := by
  have HS := Lib.hid hs
  have hm : (len : Int) ≤ 9223372036854775807 := by have h9 : len ≤ maxLen := hs.1; unfold maxLen at h9; omega
  clear hs
  go_enter Try.func9, Try.ntmps9
  go_wp2_with fail
  go_loopw [3] (fun ii wr => ∃ i : Nat, (i : Int) ≤ len ∧ ii = .int .i64 i ∧ wr = w ∧ Hid (∀ j, j < i → (f j).n ≤ 700)) (fun ii _ => len - (intOf ii).toNat)
  case atStart => exact ⟨0, by omega, rfl, rfl, Lib.hid fun j hj => absurd hj (by omega)⟩
  case round =>
    obtain ⟨i, hi, rfl, rfl, HI⟩ := hrel
    have hi0 : (0 : Int) ≤ i := by omega
    by_cases hlt : (i : Int) < len
    · obtain ⟨b, o, rfl, hbl, hc, hr⟩ := HS.out.2 i (by omega)
      have HLT := Lib.hid hlt
      by_cases h7 : ((f i).n : Int) ≤ 700
      · have q7 : decide ((700 : Int) < ((f i).n : Int)) = false := by simp; omega
        have H7 := Lib.hid h7
        clear h7 hbl hr
        go_wp2_with fail
        go_roundw
        case rel => exact ⟨i + 1, by have := HLT.out; omega, by go_num, by first | rfl | trivial, Lib.hid fun j hj => by
          by_cases e : j = i
          · subst e; have := H7.out; omega
          · exact HI.out j (by omega)⟩
        case measure => have := HLT.out; simp [intOf]; omega
      · have q7 : decide ((700 : Int) < ((f i).n : Int)) = true := by simp; omega
        clear h7 hbl hr
        go_wp2_with fail
        go_ret
        exact ⟨false, rfl, rfl, fun h => by cases h⟩
    · have HLE := Lib.hid (show i = len by omega)
      by_cases h2 : (len : Int) ≤ 20
      · have q2 : decide ((len : Int) ≤ 20) = true := by simpa using h2
        have H2 := Lib.hid h2
        go_wp2_with fail
        go_ret
        exact ⟨true, by first | rfl | (rw [q2]) | simp [q2], rfl, fun _ => ⟨by have := H2.out; omega, fun j hj => HI.out j (by have := HLE.out; omega)⟩⟩
      · have q2 : decide ((len : Int) ≤ 20) = false := by simpa using h2
        go_wp2_with fail
        go_ret
        exact ⟨false, by first | rfl | (rw [q2]) | simp [q2], rfl, fun h => by cases h⟩

/- The readers of known's examples. -/
theorem kx1 : feedS 1 3 0 St.new [1, 97, 2] = (⟨0, 3, 2, [2], true, false, false⟩, [⟨0, [97], 0⟩]) := by rfl
theorem kx2 : feedS 1 3 0 ⟨0, 3, 2, [2], true, false, false⟩ [97] = (⟨0, 4, 2, [2, 97], true, false, false⟩, []) := by rfl
theorem kx3 : feedS 1 3 0 ⟨0, 4, 2, [2, 97], true, false, false⟩ [98, 4, 97] = (⟨2, 7, 5, [], false, false, false⟩, [⟨2, [97, 98], 0⟩, ⟨5, [], 5⟩]) := by rfl
theorem ky1 : feedS 2 3 0 St.new [126, 97, 125, 97, 98, 126] = (⟨0, 6, 1, [], false, false, false⟩, [⟨1, [], 6⟩]) := by rfl
theorem ky2 : feedS 2 3 0 ⟨0, 6, 1, [], false, false, false⟩ [97, 98, 99, 100] = (⟨1, 10, 6, [], false, false, false⟩, [⟨6, [], 5⟩]) := by rfl
theorem ky3 : feedS 2 3 0 ⟨1, 10, 6, [], false, false, false⟩ [126, 97] = (⟨0, 12, 11, [97], true, false, false⟩, []) := by rfl
theorem ka : encErr 1 3 0 [[97, 98], []] = 0 ∧ encB 1 3 0 [[97, 98], []] = [2, 97, 98, 0] := ⟨by rfl, by rfl⟩
theorem kb : encErr 2 3 0 [[126, 97]] = 0 ∧ encB 2 3 0 [[126, 97]] = [125, 94, 97, 126] := ⟨by rfl, by rfl⟩
theorem kc : encErr 2 3 0 [[]] = 4 := by rfl
theorem kd : encErr 1 3 0 [[97, 97, 97, 97]] = 5 := by rfl
end Go.Proofs.Ytibkhjpjneoabaa
