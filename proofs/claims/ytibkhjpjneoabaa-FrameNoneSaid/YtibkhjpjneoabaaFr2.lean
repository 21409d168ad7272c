/- closes, and Copy. -/
import Derived.Test.YtibkhjpjneoabaaFq
namespace Go.Proofs.Ytibkhjpjneoabaa
open Go.RowKit
set_option linter.unusedVariables false
set_option linter.unusedSimpArgs false

set_option maxRecDepth 100000 in
set_option maxHeartbeats 2000000 in
theorem closes_off (B r : Nat) (k m c : Int) (v : Value) (s : St) (P : Option Addr) (cpP : Nat) (w : World) (hF : OkF k m c) (hs : RdS w B r k m c v s) (h3 : s.st ≠ 3) (hn : s.begun = false) :
    Calls Try.prog 18 #[.pointer (some ⟨r, 0, none⟩), .slice P 0 cpP] w fun e w' => e = .returned (.bool true) ∧ RdS w' B r k m c v s.closed ∧ Only (fun q => q = r) w w' := by
  have C23 := Lib.hid (close_any B r k m c v s w hF hs h3 hn)
  have C15 := Lib.hid (fun W => num_any 0 W)
  have C21 := Lib.hid (fun W => (show Calls Try.prog 21 #[.slice none 0 0, .slice P 0 cpP] W fun e w' => e = .returned (.bool true) ∧ Below W.heap.size W w' from same_any none P 0 cpP [] [] W ⟨fun h => absurd h (by simp), fun _ h => by cases h⟩ ⟨fun h => absurd h (by simp), fun _ h => by cases h⟩ rfl (by simp)))
  clear hF hs h3 hn
  go_enter Try.func18, Try.ntmps18
  go_wp2_with (first
    | (go_at_call 23; (with_reducible refine C23.out.mono ?_); rintro e w2 ⟨rfl, hr, ho⟩; have HR := Lib.hid hr; have HO := Lib.hid ho; clear hr ho)
    | (go_at_call 15; (with_reducible refine (C15.out _).mono ?_); rintro e w3 ⟨rfl, rfl⟩)
    | (go_at_call 21; (with_reducible refine (C21.out _).mono ?_); rintro e w4 ⟨rfl, b4⟩; have HB4 := Lib.hid b4; clear b4))
  go_ret
  exact ⟨rfl, HR.out.below HB4.out, HO.out.below HB4.out⟩
theorem FrR.one {w : World} {b : Nat} {d : Fd} {A : Option Addr} (h : Blk w b 44 #[.int .i64 (d.fr.at_ : Int), d.val, .int .i64 d.fr.code]) (hA : A = some ⟨b, 0, none⟩) (hr : RB w d.A d.n d.cp d.fr.bytes) : FrR w A [d] :=
  ⟨fun _ => ⟨b, 0, hA, fun j u hj => by
    rw [Nat.zero_add, h.cell j]
    simpa [Fd.cells] using hj⟩, fun x hx => by obtain rfl : x = d := by simpa using hx
                                               exact hr⟩
set_option maxRecDepth 100000 in
set_option maxHeartbeats 2000000 in
theorem closes_on (B r : Nat) (k m c : Int) (v : Value) (s : St) (P : Option Addr) (cpP : Nat) (es : List Fd) (w : World) (hF : OkF k m c) (hs : RdS w B r k m c v s) (h3 : s.st ≠ 3) (hn : s.begun = true) (he : FrR w P es) (hp : FrSep (fun q => q = r) P es) (hf : es.map Fd.fr = [⟨s.at_, [], 4⟩]) :
    Calls Try.prog 18 #[.pointer (some ⟨r, 0, none⟩), .slice P es.length cpP] w fun e w' => e = .returned (.bool true) ∧ RdS w' B r k m c v s.closed ∧ Only (fun q => q = r) w w' := by
  have C23 := Lib.hid (close_mid B r k m c v s w hF hs h3 hn)
  have C15 := Lib.hid (fun W => num_any 0 W)
  have HE := Lib.hid he
  have HP := Lib.hid hp
  have HF := Lib.hid hf
  clear hF hs h3 hn he hp hf
  go_enter Try.func18, Try.ntmps18
  go_wp2_with (go_at_call 23; (with_reducible refine C23.out.mono ?_); rintro e w2 ⟨b, rfl, hb, hk, hr, ho⟩; refine Hid.out ?_)
  refine Lib.hid ?_
  have HR := Lib.hid hr
  have HO := Lib.hid ho
  have C21 := Lib.hid (show Calls Try.prog 21 #[.slice (some ⟨b, 0, none⟩) 1 1, .slice P es.length cpP] w2 fun e w' => e = .returned (.bool true) ∧ Below w2.heap.size w2 w' from same_any (some ⟨b, 0, none⟩) P 1 cpP [⟨⟨s.at_, [], 4⟩, none, 0, 0⟩] es w2 (FrR.one (d := ⟨⟨s.at_, [], 4⟩, none, 0, 0⟩) hk rfl (RB.nil w2)) (HE.out.only ho HP.out.c HP.out.d) (by rw [HF.out]; rfl) (by simp))
  clear hb hk hr ho
  go_wp2_with (first
    | (go_at_call 15; (with_reducible refine (C15.out _).mono ?_); rintro e w3 ⟨rfl, rfl⟩)
    | (go_at_call 21; (with_reducible refine C21.out.mono ?_); rintro e w4 ⟨rfl, b4⟩; have HB4 := Lib.hid b4; clear b4))
  go_ret
  exact ⟨rfl, HR.out.below HB4.out, HO.out.below HB4.out⟩
set_option maxRecDepth 100000 in
theorem clone_nil (w : World) : Calls Try.prog 39 #[.slice none 0 0] w fun e w' => e = .returned (.slice none 0 0) ∧ w = w' := by
  have hnil : ∀ W : World, (binOp .eql 28 (.slice none 0 0) (.slice none 0 0)).run Try.prog W = .ok (.bool true) W := fun W => by kernel_rfl
  go_enter Try.func39, Try.ntmps39
  go_wp2_with fail
  go_ret
  exact ⟨rfl, rfl⟩
/-- Clone, of what a reader holds. -/
theorem clone_held (B r : Nat) (k m c : Int) (v : Value) (s : St) (w : World) (h : RdS w B r k m c v s) (hl : s.held.length ≤ 40000) :
    Calls Try.prog 39 #[v] w fun e w' => ∃ A cp, e = .returned (.slice A s.held.length cp) ∧ w'.ownsRow w.heap.size 5 1 (.slice A s.held.length cp) s.held.length (s.held.map u8) ∧ Below w.heap.size w w' ∧ (s.held = [] → A = none) := by
  obtain ⟨A, cp, rfl⟩ := h.form
  by_cases h0 : s.held = []
  · have h1 := h.nil h0
    have h2 := own_RB3 h.own
    have hA : A = none := by
      cases A with
      | none => rfl
      | some a =>
        rcases h.own.2 with ⟨e, -⟩ | ⟨g, cap, cur, e, -⟩
        · cases e
        · cases e; simp [Value.ownBlock] at h1
    subst hA
    have hc := h2.z rfl
    have hz : s.held.length = 0 := by simp [h0]
    rw [hz, hc]
    refine (clone_nil w).mono ?_
    rintro e w' ⟨rfl, rfl⟩
    exact ⟨none, 0, rfl, by rw [h0]; exact World.ownsRow_nil _ _ 5 1, Below.refl _ _, fun _ => rfl⟩
  · refine (clone_any A s.held.length cp s.held w (by omega) (own_RB3 h.own)).mono ?_
    rintro e w' ⟨v2, rfl, h1, h2⟩
    obtain ⟨A2, c2, rfl, -⟩ := own_form h1
    exact ⟨A2, c2, rfl, h1, h2, fun e => absurd e h0⟩
set_option maxRecDepth 100000 in
set_option maxHeartbeats 2000000 in
theorem copy_any (B r : Nat) (k m c : Int) (v : Value) (s : St) (w : World) (hF : OkF k m c) (h : RdS w B r k m c v s) (hl : s.held.length ≤ 40000) :
    Calls Try.prog 24 #[.pointer (some ⟨r, 0, none⟩)] w fun e w' => ∃ r2 v2, e = .returned (.pointer (some ⟨r2, 0, none⟩)) ∧ w.heap.size ≤ r2 ∧ RdS w' w.heap.size r2 k m c v2 s ∧ Below w.heap.size w w' := by
  have C32 := Lib.hid (h.some_ hF)
  have H := Lib.hid h
  have HL := Lib.hid hl
  have a0 : w.cell? ⟨r, 0, none⟩ = some (.int .i64 k) := h.blk.cell 0
  have a1 : w.cell? ⟨r, 1, none⟩ = some (.int .i64 m) := h.blk.cell 1
  have a2 : w.cell? ⟨r, 2, none⟩ = some (.int .i64 c) := h.blk.cell 2
  have a3 : w.cell? ⟨r, 3, none⟩ = some (.int .i64 s.st) := h.blk.cell 3
  have a4 : w.cell? ⟨r, 4, none⟩ = some (.int .i64 s.off) := h.blk.cell 4
  have a5 : w.cell? ⟨r, 5, none⟩ = some (.int .i64 s.at_) := h.blk.cell 5
  have a6 : w.cell? ⟨r, 6, none⟩ = some v := h.blk.cell 6
  have a7 : w.cell? ⟨r, 7, none⟩ = some (.bool s.begun) := h.blk.cell 7
  have a8 : w.cell? ⟨r, 8, none⟩ = some (.bool s.esc) := h.blk.cell 8
  have a9 : w.cell? ⟨r, 9, none⟩ = some (.bool s.lost) := h.blk.cell 9
  obtain ⟨A1, c1, hv⟩ := h.form
  subst hv
  clear h hF hl
  go_enter Try.func24, Try.ntmps24
  go_wp2_with (go_at_call 32; (with_reducible refine C32.out.mono ?_); rintro e w1 ⟨rfl, rfl⟩; refine Hid.out ?_)
  refine Lib.hid ?_
  go_upto_region 4 with fail
  obtain ⟨W1, hW1⟩ : ∃ W1, w.alloc (.cells #[.int .i64 k, .int .i64 m, .int .i64 c, .int .i64 s.st, .int .i64 s.off, .int .i64 s.at_, .slice A1 s.held.length c1, .bool s.begun, .bool s.esc, .bool s.lost] 58) = W1 := ⟨_, rfl⟩
  have hb1 : Below w.heap.size w W1 := hW1 ▸ (Below.refl _ w).alloc (Nat.le_refl _) _
  have kb : Blk W1 w.heap.size 58 #[.int .i64 k, .int .i64 m, .int .i64 c, .int .i64 s.st, .int .i64 s.off, .int .i64 s.at_, .slice A1 s.held.length c1, .bool s.begun, .bool s.esc, .bool s.lost] := hW1 ▸ Blk.new w 58 _
  have h1 := H.out.below hb1
  have b6 : W1.cell? ⟨r, 6, none⟩ = some (.slice A1 s.held.length c1) := h1.blk.cell 6
  have C39 := Lib.hid (clone_held B r k m c _ s W1 h1 HL.out)
  rw [hW1]
  have HK := Lib.hid kb
  have HB1 := Lib.hid hb1
  clear hW1 hb1 kb h1 a0 a1 a2 a3 a4 a5 a6 a7 a8 a9
  go_wp2_with (go_at_call 39; (with_reducible refine C39.out.mono ?_); rintro e w2 ⟨A2, c2, rfl, ho2, hb2, hnil⟩; refine Hid.out ?_)
  refine Lib.hid ?_
  have hk2 := HK.out.below hb2 HK.out.lt
  have kq : w2.cell? ⟨w.heap.size, 6, none⟩ = some (.slice A1 s.held.length c1) := hk2.cell 6
  have zq := hk2.frozen 6
  have HK2 := Lib.hid hk2
  have HO2 := Lib.hid ho2
  have HB2 := Lib.hid hb2
  have HNL := Lib.hid hnil
  clear ho2 hb2 hnil hk2 b6
  go_wp2_with fail
  go_ret
  have hk3 := HK2.out.set_ 6 (.slice A2 s.held.length c2)
  simp only [List.setIfInBounds_toArray, List.set_cons_zero, List.set_cons_succ] at hk3
  have hb := HB1.out.trans (HB2.out.mono HB1.out.size)
  refine ⟨w.heap.size, .slice A2 s.held.length c2, rfl, Nat.le_refl _, ⟨hk3, own_setCell (own_base HO2.out HB1.out.size) (own_ne HO2.out HK2.out (by decide)) _, by simpa using hb.size, fun e => ?_⟩, Below.setCell hb (by simp) _⟩
  rw [HNL.out e]
  rfl
end Go.Proofs.Ytibkhjpjneoabaa
