/- Decode: the deferred closure that recovers. -/
import Derived.Test.YtgbkoegmoelheaaCj
import Derived.Defers
import Derived.Recover
namespace Go.Proofs.Ytgbkoegmoelheaa
open Go.RowKit
set_option linter.unusedVariables false
set_option linter.unusedSimpArgs false

/-- The three results in their cells. -/
structure Res3 (w0 w : World) (gl gn ge : Nat) (x y z : Value) : Prop where
  l : Blk w gl 22 #[x]
  n : Blk w gn 3 #[y]
  e : Blk w ge 26 #[z]
  only : Only (fun b => b = gl ∨ b = gn ∨ b = ge) w0 w
theorem Res3.drew {w0 w : World} {gl gn ge : Nat} {x y z : Value} (h : Res3 w0 w gl gn ge x y z) : Res3 w0 w.drew gl gn ge x y z := ⟨h.l, h.n, h.e, ⟨h.only.os, h.only.tape, h.only.output, h.only.size, h.only.block⟩⟩
theorem Res3.set1 {w0 w : World} {gl gn ge : Nat} {x y z : Value} (h : Res3 w0 w gl gn ge x y z) (u : Value) : Res3 w0 (w.setCell ⟨gl, 0, none⟩ u) gl gn ge u y z :=
  ⟨by have := h.l.set_ 0 u; simpa using this, h.n.far (h.l.ne h.n (by decide)).symm u, h.e.far (h.l.ne h.e (by decide)).symm u, h.only.set (fun _ => .inl rfl) 0 u⟩
theorem Res3.set2 {w0 w : World} {gl gn ge : Nat} {x y z : Value} (h : Res3 w0 w gl gn ge x y z) (u : Value) : Res3 w0 (w.setCell ⟨gn, 0, none⟩ u) gl gn ge x u z :=
  ⟨h.l.far (h.l.ne h.n (by decide)) u, by have := h.n.set_ 0 u; simpa using this, h.e.far (h.n.ne h.e (by decide)).symm u, h.only.set (fun _ => .inr (.inl rfl)) 0 u⟩
theorem Res3.set3 {w0 w : World} {gl gn ge : Nat} {x y z : Value} (h : Res3 w0 w gl gn ge x y z) (u : Value) : Res3 w0 (w.setCell ⟨ge, 0, none⟩ u) gl gn ge x y u :=
  ⟨h.l.far (h.l.ne h.e (by decide)) u, h.n.far (h.n.ne h.e (by decide)) u, by have := h.e.set_ 0 u; simpa using this, h.only.set (fun _ => .inr (.inr rfl)) 0 u⟩

set_option maxRecDepth 100000 in
set_option maxHeartbeats 1000000 in
theorem catch_panicking (gl gn ge : Nat) (x y z : Value) (k : Int) (w : World) (h : Res3 w w gl gn ge x y z) :
    CallsD Try.prog 39 #[.pointer (some ⟨gl, 0, none⟩), .pointer (some ⟨gn, 0, none⟩), .pointer (some ⟨ge, 0, none⟩)] (.panicking [errV k]) w fun e u' w' =>
      e = .returned (.tuple #[]) ∧ u' = .panicking [{ v := .iface 26 (.int .i64 k), recovered := true }] ∧ Res3 w w' gl gn ge (.slice none 0 0) (.int .i64 0) (.int .i64 k) := by
  have H := Lib.hid h
  clear h
  refine callsD_of_wpS Try.func39 rfl fun c₀ cs hu => ?_
  apply wpS_seq
  apply wpS_region
  simp [wpOpsS, go_sem, recoverD, hu, errV, Try.ntmps39, Exit.thenS]
  refine wpS_of_wp ?_
  obtain ⟨ck, hck⟩ : ∃ ck : Frame, ck = { c₀ with mode := .panicking [{ v := .iface 26 (.int .i64 k), recovered := true }] } := ⟨_, rfl⟩
  have HCK := Lib.hid hck
  go_upto_region 2 with fail
  refine wp_region_G (S0 := (fun _ => True)) (S1 := (fun _ => True)) (c := 99) (by kernel_rfl) ?_
  have hHeld := trivial
  have h01 := (fun (W : World) (h : (fun _ => True) W) => h)
  refine wpG_takeB (i := 0) (oi := ⟨some 7, _, _, _, _, _⟩) (v := .iface 26 (.int .i64 k)) rfl (by kernel_rfl) (by kernel_rfl) (by kernel_rfl) (by decide) (fun _ _ _ h => h) h01 rfl hHeld (Or.inl ⟨by rfl, ?_⟩) ?_
  · (intro W9 hSw; go_simp; (try (first | with_reducible rfl | rfl | (simp; done))))
  try simp only [Act.put, List.setIfInBounds_toArray, List.set_cons_zero, List.set_cons_succ]
  refine wpG_takeB (i := 1) (oi := ⟨some 8, _, _, _, _, _⟩) (v := .int .i64 k) rfl (by kernel_rfl) (by kernel_rfl) (by kernel_rfl) (by decide) (fun _ _ _ h => h) h01 rfl hHeld (Or.inl ⟨by rfl, ?_⟩) ?_
  · (intro W9 hSw; go_simp; (try (first | with_reducible rfl | rfl | (simp; done))))
  try simp only [Act.put, List.setIfInBounds_toArray, List.set_cons_zero, List.set_cons_succ]
  refine wpG_oneB (i := 2) (o := ⟨none, _, _, _, _, _⟩) (by kernel_rfl) rfl rfl (fun K hK => ?_)
  have kq := H.out.l.cell 0
  simp at kq
  have kz := H.out.l.frozen 0
  go_simp
  clear kq kz
  have H2 := Lib.hid (H.out.set1 (.slice none 0 0))
  refine hK.out _ _ trivial (fun hHeld => ?_)
  clear hK K
  try simp only [Act.put, List.setIfInBounds_toArray, List.set_cons_zero, List.set_cons_succ]
  refine wpG_oneB (i := 3) (o := ⟨none, _, _, _, _, _⟩) (by kernel_rfl) rfl rfl (fun K hK => ?_)
  have kq := H2.out.n.cell 0
  simp at kq
  have kz := H2.out.n.frozen 0
  go_simp
  clear kq kz
  have H3 := Lib.hid (H2.out.set2 (.int .i64 0))
  refine hK.out _ _ trivial (fun hHeld => ?_)
  clear hK K
  try simp only [Act.put, List.setIfInBounds_toArray, List.set_cons_zero, List.set_cons_succ]
  refine wpG_oneB (i := 4) (o := ⟨none, _, _, _, _, _⟩) (by kernel_rfl) rfl rfl (fun K hK => ?_)
  have kq := H3.out.e.cell 0
  simp at kq
  have kz := H3.out.e.frozen 0
  go_simp
  clear kq kz
  have H4 := Lib.hid (H3.out.set3 (.int .i64 k))
  refine hK.out _ _ trivial (fun hHeld => ?_)
  clear hK K
  try simp only [Act.put, List.setIfInBounds_toArray, List.set_cons_zero, List.set_cons_succ]
  refine wpG_done (by kernel_rfl) ?_ _
  clear hHeld h01
  go_wp2_with fail
  exact ⟨rfl, _, rfl, .tuple #[], by simp [results, Try.results39, go_sem], rfl, rfl, H4.out.drew⟩
set_option maxRecDepth 100000 in
set_option maxHeartbeats 1000000 in
theorem catch_idle (gl gn ge : Nat) (w : World) :
    CallsD Try.prog 39 #[.pointer (some ⟨gl, 0, none⟩), .pointer (some ⟨gn, 0, none⟩), .pointer (some ⟨ge, 0, none⟩)] .returning w fun e u' w' => e = .returned (.tuple #[]) ∧ u' = .returning ∧ w' = w := by
  refine callsD_of_wpS Try.func39 rfl fun c₀ cs hu => ?_
  apply wpS_seq
  apply wpS_region
  simp [wpOpsS, go_sem, recoverD, hu, Try.ntmps39, Exit.thenS]
  refine wpS_of_wp ?_
  go_wp2_with fail
  cases c₀
  simp_all [bodyPostS, results, Try.results39]

theorem dec_res (gl gn ge : Nat) (tmps : Array Value) (W : World) (x y z : Value) (h2 : tmps.getD 2 undef = .pointer (some ⟨gl, 0, none⟩)) (h3 : tmps.getD 3 undef = .pointer (some ⟨gn, 0, none⟩)) (h4 : tmps.getD 4 undef = .pointer (some ⟨ge, 0, none⟩)) (hl : Blk W gl 22 #[x]) (hn : Blk W gn 3 #[y]) (he : Blk W ge 26 #[z]) : (results Try.f16 tmps).run Try.prog W = .ok (.tuple #[x, y, z]) W := by
  have k2 := hl.cell 0
  have k3 := hn.cell 0
  have k4 := he.cell 0
  simp at k2 k3 k4 h2 h3 h4
  simp [results, Try.results16, go_sem, h2, h3, h4, k2, k3, k4]
def catchD (gl gn ge : Nat) : Deferred := { target := .fn (.func 39) #[.pointer (some ⟨gl, 0, none⟩), .pointer (some ⟨gn, 0, none⟩), .pointer (some ⟨ge, 0, none⟩)], args := #[] }
theorem dec_panic {R : Ending → World → Prop} (a : Act) (W : World) (k : Int) {gl gn ge : Nat} {x y z : Value} (hd : a.defers = [catchD gl gn ge]) (h2 : a.tmps.getD 2 undef = .pointer (some ⟨gl, 0, none⟩)) (h3 : a.tmps.getD 3 undef = .pointer (some ⟨gn, 0, none⟩)) (h4 : a.tmps.getD 4 undef = .pointer (some ⟨ge, 0, none⟩)) (h : Res3 W W gl gn ge x y z)
    (hR : ∀ w', Res3 W w' gl gn ge (.slice none 0 0) (.int .i64 0) (.int .i64 k) → R (.returned (.tuple #[.slice none 0 0, .int .i64 0, .int .i64 k])) w') : bodyPostD Try.prog Try.f16 R (Exit.panic [errV k]) a W := by
  unfold bodyPostD
  simp only [hd, catchD]
  refine leaves_cons (f := 39) (args := #[.pointer (some ⟨gl, 0, none⟩), .pointer (some ⟨gn, 0, none⟩), .pointer (some ⟨ge, 0, none⟩)]) (by simp) (by simp [go_sem]) ?_
  refine (catch_panicking gl gn ge x y z k W h).mono ?_
  rintro e u' w' ⟨rfl, rfl, h'⟩
  exact ⟨_, dec_res gl gn ge a.tmps w' _ _ _ h2 h3 h4 h'.l h'.n h'.e, hR w' h'⟩
theorem dec_ret {R : Ending → World → Prop} (a : Act) (W : World) {gl gn ge : Nat} {x y z : Value} (hd : a.defers = [catchD gl gn ge]) (h2 : a.tmps.getD 2 undef = .pointer (some ⟨gl, 0, none⟩)) (h3 : a.tmps.getD 3 undef = .pointer (some ⟨gn, 0, none⟩)) (h4 : a.tmps.getD 4 undef = .pointer (some ⟨ge, 0, none⟩)) (hl : Blk W gl 22 #[x]) (hn : Blk W gn 3 #[y]) (he : Blk W ge 26 #[z])
    (hR : R (.returned (.tuple #[x, y, z])) W) : bodyPostD Try.prog Try.f16 R Exit.ret a W := by
  unfold bodyPostD
  simp only [hd, catchD]
  refine leaves_cons (f := 39) (args := #[.pointer (some ⟨gl, 0, none⟩), .pointer (some ⟨gn, 0, none⟩), .pointer (some ⟨ge, 0, none⟩)]) (by simp) (by simp [go_sem]) ?_
  refine (catch_idle gl gn ge W).mono ?_
  rintro e u' w' ⟨rfl, rfl, rfl⟩
  exact ⟨_, dec_res gl gn ge a.tmps w' _ _ _ h2 h3 h4 hl hn he, hR⟩
theorem leaves_tmps {P : Program} {fn : Func} {t1 t2 : Array Value} {R : Ending → World → Prop} (he : ∀ W, (results fn t1).run P W = (results fn t2).run P W) : ∀ (ds : List Deferred) (u : FrameMode) (w : World), Leaves P fn t1 R ds u w → Leaves P fn t2 R ds u w
  | [], .returning, w, h => by obtain ⟨v, h1, h2⟩ := h; exact ⟨v, (he w) ▸ h1, h2⟩
  | [], .panicking _, w, h => h
  | [], .run, w, h => h
  | d :: ds, u, w, h => by
    obtain ⟨hu, fv, cap, f, args, h1, h2, h3⟩ := h
    refine ⟨hu, fv, cap, f, args, h1, h2, h3.mono fun e u' w' hl => ?_⟩
    cases e with
    | returned v => exact leaves_tmps he ds _ _ hl
    | panicked c => exact leaves_tmps he ds _ _ hl
    | outgrown => exact hl
theorem dec_hQ {R : Ending → World → Prop} {x : List PanicEntry} {a : Act} {w : World} {d : Nat} {v : Value} (hd : (d != 2 && d != 3 && d != 4) = true) (h : bodyPostD Try.prog Try.f16 R (Exit.panic x) (a.put (some d) v) w) : bodyPostD Try.prog Try.f16 R (Exit.panic x) a w := by
  simp at hd
  obtain ⟨⟨h2, h3⟩, h4⟩ := hd
  refine leaves_tmps (fun W => ?_) _ _ _ h
  simp [results, Try.results16, Act.put, go_sem, Array.getElem?_setIfInBounds, h2, h3, h4]

end Go.Proofs.Ytgbkoegmoelheaa
