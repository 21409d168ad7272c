/- The law's helpers: at, feeds; Copy. -/
import Derived.Test.YtibkhjpjneoabaaFp
namespace Go.Proofs.Ytibkhjpjneoabaa
open Go.RowKit
set_option linter.unusedVariables false
set_option linter.unusedSimpArgs false

theorem conv_sr (w : World) (l : List UInt8) (hl : l.length ≤ 1000000) :
    ∃ cap W1, (convert 9 28 (.string ⟨l.toArray⟩)).run Try.prog w = .ok (.slice (some ⟨w.heap.size, 0, none⟩) l.length cap) W1 ∧ RB W1 (some ⟨w.heap.size, 0, none⟩) l.length cap l ∧ Below w.heap.size w W1 ∧ w.heap.size < W1.heap.size := by
  obtain ⟨cap, W1, h1, h2, h3, h4, h5⟩ := conv_sb (P := Try.prog) w 9 28 5 ⟨l.toArray⟩ Try.underlying9 Try.underlying28 Try.underlying5
  have hcm : cap ≤ maxLen := by
    have := Lib.run_convert_string_bytes (P := Try.prog) w 9 28 5 ⟨l.toArray⟩ Try.underlying9 Try.underlying28 Try.underlying5
    rw [h1] at this
    injection this with e1 e2
    injection e1 with e3 e4 e5
    rw [e5]
    exact grownCap_le_maxLen _ _ _ _ (by show l.toArray.size ≤ maxLen; unfold maxLen; simp; omega)
  refine ⟨cap, W1, h1, ⟨rfl, ⟨by simp, (fun e => by cases e), fun b hb j u hj => ?_⟩, h4, hcm, fun e => by cases e⟩, h3, h5⟩
  cases hb
  obtain ⟨hj1, hj2⟩ := List.getElem?_eq_some_iff.1 hj
  have hj3 : j < l.length := by simpa using hj1
  obtain ⟨b9, o9, e9, -, hc9⟩ := h2 (show 0 < (l.toArray).toList.length by simp; omega)
  cases e9
  have := hc9 j (by simpa using hj3)
  rw [Addr.add_lit, this, ← hj2]
  simp [u8]
theorem fr_res6 {fn : Func} {tmps : Array Value} {W : World} {bx : Nat} {x y z : Value} (hf : fn.results = Try.f26.results) (h4 : tmps.getD 6 undef = .pointer (some ⟨bx, 0, none⟩)) (hb : Blk W bx 44 #[x, y, z]) : (results fn tmps).run Try.prog W = .ok (.agg #[x, y, z]) W := by
  have e : results fn tmps = results Try.f26 tmps := by unfold results; rw [hf]
  rw [e]
  have c0 : W.cell? ⟨bx, 0, none⟩ = some x := hb.cell 0
  have c1 : W.cell? ⟨bx, 1, none⟩ = some y := hb.cell 1
  have c2 : W.cell? ⟨bx, 2, none⟩ = some z := hb.cell 2
  simp at h4
  simp [results, Try.results26, go_sem, h4, c0, c1, c2]
set_option maxRecDepth 100000 in
set_option maxHeartbeats 1000000 in
theorem at_any (a : Nat) (l : List UInt8) (code : Int) (w : World) (hl : l.length ≤ 1000000) :
    Calls Try.prog 26 #[.int .i64 (a : Int), .string ⟨l.toArray⟩, .int .i64 code] w fun e w' => ∃ g cp, e = .returned (.agg #[.int .i64 (a : Int), .slice (some ⟨g, 0, none⟩) l.length cp, .int .i64 code]) ∧ w.heap.size ≤ g ∧ RB w' (some ⟨g, 0, none⟩) l.length cp l ∧ Below w.heap.size w w' := by
  obtain ⟨W0, hW0⟩ : ∃ W0, w.alloc (.cells #[.int .i64 0, .slice none 0 0, .int .i64 0] 44) = W0 := ⟨_, rfl⟩
  have hb0 : Below w.heap.size w W0 := hW0 ▸ (Below.refl _ w).alloc (Nat.le_refl _) _
  have kx : Blk W0 w.heap.size 44 #[.int .i64 0, .slice none 0 0, .int .i64 0] := hW0 ▸ Blk.new w 44 _
  obtain ⟨cap, W1, hconv, hr, hb1, h5⟩ := conv_sr W0 l hl
  obtain ⟨g, hg⟩ : ∃ g, W0.heap.size = g := ⟨_, rfl⟩
  rw [hg] at hconv hr
  have HG := Lib.hid (show w.heap.size ≤ g from hg ▸ hb0.size)
  have hx1 := kx.below hb1 kx.lt
  have HX := Lib.hid hx1
  have HNE := Lib.hid (show g ≠ w.heap.size by have := kx.lt; omega)
  have HB := Lib.hid (hb0.trans (hb1.mono hb0.size))
  have HR := Lib.hid hr
  have HW0 := Lib.hid hW0
  obtain ⟨g0, g1, g2⟩ : W1.cell? ⟨w.heap.size, 0, none⟩ = some (.int .i64 0) ∧ W1.cell? ⟨w.heap.size, 1, none⟩ = some (.slice none 0 0) ∧ W1.cell? ⟨w.heap.size, 2, none⟩ = some (.int .i64 0) := ⟨hx1.cell 0, hx1.cell 1, hx1.cell 2⟩
  have y0 := hx1.frozen 0
  have y1 := hx1.frozen 1
  have y2 := hx1.frozen 2
  generalize (⟨l.toArray⟩ : ByteArray) = sb at *
  clear hW0 hb0 kx hr hb1 h5 hx1 hg hl
  go_enter Try.func26, Try.ntmps26
  go_upto_region 1 with fail
  rw [HW0.out]
  clear HW0
  go_wp2_with fail
  refine bodyPost_ret (v := .agg #[.int .i64 (a : Int), .slice (some ⟨g, 0, none⟩) l.length cap, .int .i64 code]) (fr_res6 rfl rfl (blk_set3 HX.out)) rfl ⟨g, cap, rfl, HG.out, ?_, below_set3 HB.out (Nat.le_refl _)⟩
  exact HR.out.only (((Only.refl (fun q => q = w.heap.size) W1).set (fun _ => rfl) 0 _).set (fun _ => rfl) 1 _ |>.set (fun _ => rfl) 2 _) fun x hA h0 e => by cases hA; exact HNE.out e
theorem FrR.only {w w' : World} {A : Option Addr} {ds : List Fd} {p : Nat → Prop} (h : FrR w A ds) (ho : Only p w w') (h1 : ∀ b o, A = some ⟨b, o, none⟩ → 0 < ds.length → ¬ p b) (h2 : ∀ d ∈ ds, ∀ a, d.A = some a → 0 < d.n → ¬ p a.block) : FrR w' A ds :=
  ⟨fun h0 => by
    obtain ⟨b, o, e, hc⟩ := h.cells h0
    refine ⟨b, o, e, fun j u hj => ?_⟩
    have h3 := hc j u hj
    have h4 := World.block_lt_of_cell? _ _ h3
    have h5 := ho.block b h4 (h1 b o e h0)
    unfold World.cell? at h3 ⊢
    simpa [h5] using h3, fun d hd => (h.rows d hd).only ho (h2 d hd)⟩
theorem FrR.below {w w' : World} {A : Option Addr} {ds : List Fd} (h : FrR w A ds) (hb : Below w.heap.size w w') : FrR w' A ds := h.only (Only.of_below (p := fun _ => False) hb) (fun _ _ _ _ x => x) fun _ _ _ _ _ x => x
/-- A list lies apart from a reader. -/
structure FrSep (p : Nat → Prop) (A : Option Addr) (ds : List Fd) : Prop where
  c : ∀ b o, A = some ⟨b, o, none⟩ → 0 < ds.length → ¬ p b
  d : ∀ d ∈ ds, ∀ a, d.A = some a → 0 < d.n → ¬ p a.block

set_option maxRecDepth 100000 in
set_option maxHeartbeats 2000000 in
theorem feeds_any (B r : Nat) (k m c : Int) (v : Value) (s : St) (l : List UInt8) (P : Option Addr) (cpP : Nat) (es : List Fd) (w : World) (hF : OkF k m c) (hs : RdS w B r k m c v s) (h3 : s.st ≠ 3) (hl : s.held.length + l.length ≤ 40000) (ho : s.off + l.length ≤ 100000) (he : FrR w P es) (hp : FrSep (SFo r v) P es) (hf : (feedS k m c s l).2 = es.map Fd.fr) (hle : es.length ≤ 100000) :
    Calls Try.prog 25 #[.pointer (some ⟨r, 0, none⟩), .string ⟨l.toArray⟩, .slice P es.length cpP] w fun e w' => e = .returned (.bool true) ∧ ∃ v', StepD w w' B r k m c v v' (feedS k m c s l).1 := by
  obtain ⟨cap, W1, hconv, hr, hb1, h5⟩ := conv_sr w l (by omega)
  have HS := Lib.hid hs
  have HE := Lib.hid (he.below hb1)
  have HP := Lib.hid hp
  have HFE := Lib.hid hf
  have HLE := Lib.hid hle
  have HB1 := Lib.hid hb1
  have C17 := Lib.hid (feed_any B r k m c v s (some ⟨w.heap.size, 0, none⟩) l.length cap l W1 hF (hs.below hb1) h3 hr (fun a hA h0 e => by cases hA; have := hs.lt _ e; simp at this) hl (by omega))
  unfold Fed at C17
  have C15 := Lib.hid (fun W => num_any 0 W)
  generalize (⟨l.toArray⟩ : ByteArray) = sb at *
  generalize feedS k m c s l = fs at *
  clear hs he hp hf hle hr hb1 h5 hl ho h3 hF
  go_enter Try.func25, Try.ntmps25
  go_wp2_with (go_at_call 17; (with_reducible refine C17.out.mono ?_); rintro e w2 ⟨out, v2, ds, rfl, hea, hfr⟩; refine Hid.out ?_)
  refine Lib.hid ?_
  obtain ⟨A2, c2, rfl, -⟩ := own_formS hea.frs.own
  have HEA := Lib.hid hea
  have C21 := Lib.hid (same_any A2 P c2 cpP ds es w2 (hea.frs.read).1 (HE.out.only hea.only HP.out.c HP.out.d) (by rw [hfr, HFE.out]) (by have := congrArg List.length hfr; rw [HFE.out] at this; simp at this; have := HLE.out; omega))
  clear hea hfr
  go_wp2_with (first
    | (go_at_call 15; (with_reducible refine (C15.out _).mono ?_); rintro e w3 ⟨rfl, rfl⟩)
    | (go_at_call 21; (with_reducible refine C21.out.mono ?_); rintro e w4 ⟨rfl, b4⟩; have HB4 := Lib.hid b4; clear b4))
  go_ret
  refine ⟨rfl, v2, HEA.out.rd.below HB4.out, (Only.after HB1.out HEA.out.only).below HB4.out, ?_⟩
  rcases HEA.out.hat with e | e
  · exact .inl e
  · exact .inr fun j hj => Nat.le_trans HB1.out.size (e j hj)
end Go.Proofs.Ytibkhjpjneoabaa
