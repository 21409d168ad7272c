/- scanned: the deferred closure. -/
import Derived.Test.YtkihoekldklkhaaDoorTj
import Derived.Defers
import Derived.Recover
namespace Go.Proofs.YtkihoekldklkhaaDoor
open Go.RowKit
set_option linter.unusedVariables false
set_option linter.unusedSimpArgs false

/-- The three results in their cells. -/
structure Res3 (w0 w : World) (gl gp ge : Nat) (x a b z : Value) : Prop where
  l : Blk w gl 24 #[x]
  p : Blk w gp 26 #[a, b]
  e : Blk w ge 33 #[z]
  only : Only (fun b => b = gl ∨ b = gp ∨ b = ge) w0 w
theorem Res3.drew {w0 w : World} {gl gp ge : Nat} {x a b z : Value} (h : Res3 w0 w gl gp ge x a b z) : Res3 w0 w.drew gl gp ge x a b z := ⟨h.l, h.p, h.e, only_drew h.only⟩
theorem Res3.set1 {w0 w : World} {gl gp ge : Nat} {x a b z : Value} (h : Res3 w0 w gl gp ge x a b z) (u : Value) : Res3 w0 (w.setCell ⟨gl, 0, none⟩ u) gl gp ge u a b z :=
  ⟨by have := h.l.set_ 0 u; simpa using this, h.p.far (h.l.ne h.p (by decide)).symm u, h.e.far (h.l.ne h.e (by decide)).symm u, h.only.set (fun _ => .inl rfl) 0 u⟩
theorem Res3.set2 {w0 w : World} {gl gp ge : Nat} {x a b z : Value} (h : Res3 w0 w gl gp ge x a b z) (u v : Value) : Res3 w0 ((w.setCell ⟨gp, 0, none⟩ u).setCell ⟨gp, 1, none⟩ v) gl gp ge x u v z :=
  ⟨(h.l.far (h.l.ne h.p (by decide)) u).far (h.l.ne h.p (by decide)) v, by have := (h.p.set_ 0 u).set_ 1 v; simpa using this, (h.e.far (h.p.ne h.e (by decide)).symm u).far (h.p.ne h.e (by decide)).symm v, (h.only.set (fun _ => .inr (.inl rfl)) 0 u).set (fun _ => .inr (.inl rfl)) 1 v⟩
theorem Res3.set3 {w0 w : World} {gl gp ge : Nat} {x a b z : Value} (h : Res3 w0 w gl gp ge x a b z) (u : Value) : Res3 w0 (w.setCell ⟨ge, 0, none⟩ u) gl gp ge x a b u :=
  ⟨h.l.far (h.l.ne h.e (by decide)) u, h.p.far (h.p.ne h.e (by decide)) u, by have := h.e.set_ 0 u; simpa using this, h.only.set (fun _ => .inr (.inr rfl)) 0 u⟩
set_option maxRecDepth 100000 in
set_option maxHeartbeats 1000000 in
theorem assert33 (k : Int) (W : World) : (Instr.typeAssert (.iface 33 (.int .i64 k)) 20 33 true).run Tryd.prog W = .ok (.tuple #[.int .i64 k, .bool true]) W := by kernel_rfl
set_option maxRecDepth 100000 in
set_option maxHeartbeats 4000000 in
theorem catch_panicking (L : List UInt8) (sb i gl gp ge : Nat) (x a b z : Value) (k : Int) (w : World) (hs : Sc L sb i w) (h : Res3 w w gl gp ge x a b z) :
    CallsD Tryd.prog 48 #[.pointer (some ⟨sb, 0, none⟩), .pointer (some ⟨gp, 0, none⟩), .pointer (some ⟨gl, 0, none⟩), .pointer (some ⟨ge, 0, none⟩)] (.panicking [errV k]) w fun e u' w' =>
      e = .returned (.tuple #[]) ∧ u' = .panicking [{ v := .iface 33 (.int .i64 k), recovered := true }] ∧ Res3 w w' gl gp ge (.slice none 0 0) (.int .i64 ((lcOf L i).1 : Int)) (.int .i64 ((lcOf L i).2 : Int)) (.int .i64 k) := by
  have H := Lib.hid h
  have hb : Blk w sb 89 #[.string ⟨L.toArray⟩, .int .i64 (i : Int), .int .i64 ((lcOf L i).1 : Int), .int .i64 ((lcOf L i).2 : Int)] := hs
  obtain ⟨ln, hln⟩ : ∃ ln : Int, ((lcOf L i).1 : Int) = ln := ⟨_, rfl⟩
  obtain ⟨cl, hcl⟩ : ∃ cl : Int, ((lcOf L i).2 : Int) = cl := ⟨_, rfl⟩
  rw [hln, hcl] at hb ⊢
  have s2 := hb.cell 2
  have s3 := hb.cell 3
  have p0 := h.p.cell 0
  have p1 := h.p.cell 1
  have z0 := h.p.frozen 0
  have z1 := h.p.frozen 1
  simp only [List.getElem?_toArray, List.getElem?_cons_zero, List.getElem?_cons_succ] at s2 s3 p0 p1
  clear h hb hs hln hcl
  refine callsD_of_wpS Tryd.func48 rfl fun c₀ cs hu => ?_
  simp only [Tryd.ntmps48, List.size_toArray, List.length_cons, List.length_nil, Nat.reduceAdd, Nat.reduceSub, Array.replicate_succ, Array.replicate_zero, List.push_toArray, List.append_toArray, List.nil_append, List.cons_append]
  apply wpS_seq
  apply wpS_region
  simp [wpOpsS, go_sem, s2, s3, p0, p1, z0, z1, Tryd.ntmps48, Exit.thenS]
  have H2 := Lib.hid (H.out.set2 (.int .i64 ln) (.int .i64 cl))
  obtain ⟨W2, hW2⟩ : ∃ W2, (w.setCell ⟨gp, 0, none⟩ (.int .i64 ln)).setCell ⟨gp, 1, none⟩ (.int .i64 cl) = W2 := ⟨_, rfl⟩
  rw [hW2] at H2 ⊢
  clear hW2 s2 s3 p0 p1 z0 z1
  apply wpS_seq
  apply wpS_region
  simp [wpOpsS, go_sem, recoverD, hu, errV, Exit.thenS]
  refine wpS_of_wp ?_
  obtain ⟨ck, hck⟩ : ∃ ck : Frame, ck = { c₀ with mode := .panicking [{ v := .iface 33 (.int .i64 k), recovered := true }] } := ⟨_, rfl⟩
  have HCK := Lib.hid hck
  have l0 := H2.out.l.cell 0
  have l1 := H2.out.l.frozen 0
  have q0 := H2.out.e.cell 0
  have q1 := H2.out.e.frozen 0
  simp only [List.getElem?_toArray, List.getElem?_cons_zero] at l0 q0
  clear hck
  have hta := assert33 k
  have hn1 : ¬ ge = gl := fun e => H2.out.l.ne H2.out.e (by decide) e.symm
  have hn2 : ¬ gl = ge := H2.out.l.ne H2.out.e (by decide)
  have hbk : Blk (W2.setCell ⟨gl, 0, none⟩ (.slice none 0 0)) ge 33 #[z] := H2.out.e.far hn1 _
  have qq0 := hbk.cell 0
  have qq1 := hbk.frozen 0
  simp only [List.getElem?_toArray, List.getElem?_cons_zero] at qq0
  clear hbk
  go_wp2_with fail
  exact ⟨rfl, _, rfl, .tuple #[], by simp [results, Tryd.results48, go_sem], rfl, rfl, (H2.out.set1 (.slice none 0 0)).set3 (.int .i64 k)⟩
set_option maxRecDepth 100000 in
set_option maxHeartbeats 4000000 in
theorem catch_idle (L : List UInt8) (sb i gl gp ge : Nat) (x a b z : Value) (w : World) (hs : Sc L sb i w) (h : Res3 w w gl gp ge x a b z) :
    CallsD Tryd.prog 48 #[.pointer (some ⟨sb, 0, none⟩), .pointer (some ⟨gp, 0, none⟩), .pointer (some ⟨gl, 0, none⟩), .pointer (some ⟨ge, 0, none⟩)] .returning w fun e u' w' => e = .returned (.tuple #[]) ∧ u' = .returning ∧ Res3 w w' gl gp ge x (.int .i64 ((lcOf L i).1 : Int)) (.int .i64 ((lcOf L i).2 : Int)) z := by
  have H := Lib.hid h
  have hb : Blk w sb 89 #[.string ⟨L.toArray⟩, .int .i64 (i : Int), .int .i64 ((lcOf L i).1 : Int), .int .i64 ((lcOf L i).2 : Int)] := hs
  obtain ⟨ln, hln⟩ : ∃ ln : Int, ((lcOf L i).1 : Int) = ln := ⟨_, rfl⟩
  obtain ⟨cl, hcl⟩ : ∃ cl : Int, ((lcOf L i).2 : Int) = cl := ⟨_, rfl⟩
  rw [hln, hcl] at hb ⊢
  have s2 := hb.cell 2
  have s3 := hb.cell 3
  have p0 := h.p.cell 0
  have p1 := h.p.cell 1
  have z0 := h.p.frozen 0
  have z1 := h.p.frozen 1
  simp only [List.getElem?_toArray, List.getElem?_cons_zero, List.getElem?_cons_succ] at s2 s3 p0 p1
  clear h hb hs hln hcl
  refine callsD_of_wpS Tryd.func48 rfl fun c₀ cs hu => ?_
  simp only [Tryd.ntmps48, List.size_toArray, List.length_cons, List.length_nil, Nat.reduceAdd, Nat.reduceSub, Array.replicate_succ, Array.replicate_zero, List.push_toArray, List.append_toArray, List.nil_append, List.cons_append]
  apply wpS_seq
  apply wpS_region
  simp [wpOpsS, go_sem, s2, s3, p0, p1, z0, z1, Tryd.ntmps48, Exit.thenS]
  have H2 := Lib.hid (H.out.set2 (.int .i64 ln) (.int .i64 cl))
  obtain ⟨W2, hW2⟩ : ∃ W2, (w.setCell ⟨gp, 0, none⟩ (.int .i64 ln)).setCell ⟨gp, 1, none⟩ (.int .i64 cl) = W2 := ⟨_, rfl⟩
  rw [hW2] at H2 ⊢
  clear hW2 s2 s3 p0 p1 z0 z1
  apply wpS_seq
  apply wpS_region
  simp [wpOpsS, go_sem, recoverD, hu, Exit.thenS]
  refine wpS_of_wp ?_
  have H3 := H2.out
  go_wp2_with fail
  cases c₀
  simp_all [bodyPostS, results, Tryd.results48]

theorem scd_res (gl gp ge : Nat) (tmps : Array Value) (W : World) (x a b z : Value) (h2 : tmps.getD 2 undef = .pointer (some ⟨gl, 0, none⟩)) (h3 : tmps.getD 3 undef = .pointer (some ⟨gp, 0, none⟩)) (h4 : tmps.getD 4 undef = .pointer (some ⟨ge, 0, none⟩)) (hl : Blk W gl 24 #[x]) (hp : Blk W gp 26 #[a, b]) (he : Blk W ge 33 #[z]) : (results Tryd.f35 tmps).run Tryd.prog W = .ok (.tuple #[x, .agg #[a, b], z]) W := by
  have k2 := hl.cell 0
  have k3 := hp.cell 0
  have k5 := hp.cell 1
  have k4 := he.cell 0
  simp at k2 k3 k4 k5 h2 h3 h4
  simp [results, Tryd.results35, go_sem, h2, h3, h4, k2, k3, k4, k5]
def catchD (sb gl gp ge : Nat) : Deferred := { target := .fn (.func 48) #[.pointer (some ⟨sb, 0, none⟩), .pointer (some ⟨gp, 0, none⟩), .pointer (some ⟨gl, 0, none⟩), .pointer (some ⟨ge, 0, none⟩)], args := #[] }
theorem scd_panic {R : Ending → World → Prop} (t : Act) (W : World) (k : Int) {L : List UInt8} {sb i gl gp ge : Nat} {x a b z : Value} (hd : t.defers = [catchD sb gl gp ge]) (h2 : t.tmps.getD 2 undef = .pointer (some ⟨gl, 0, none⟩)) (h3 : t.tmps.getD 3 undef = .pointer (some ⟨gp, 0, none⟩)) (h4 : t.tmps.getD 4 undef = .pointer (some ⟨ge, 0, none⟩)) (hs : Sc L sb i W) (h : Res3 W W gl gp ge x a b z)
    (hR : ∀ w', Res3 W w' gl gp ge (.slice none 0 0) (.int .i64 ((lcOf L i).1 : Int)) (.int .i64 ((lcOf L i).2 : Int)) (.int .i64 k) → R (.returned (.tuple #[.slice none 0 0, .agg #[.int .i64 ((lcOf L i).1 : Int), .int .i64 ((lcOf L i).2 : Int)], .int .i64 k])) w') : bodyPostD Tryd.prog Tryd.f35 R (Exit.panic [errV k]) t W := by
  unfold bodyPostD
  simp only [hd, catchD]
  refine leaves_cons (f := 48) (args := #[.pointer (some ⟨sb, 0, none⟩), .pointer (some ⟨gp, 0, none⟩), .pointer (some ⟨gl, 0, none⟩), .pointer (some ⟨ge, 0, none⟩)]) (by simp) (by simp [go_sem]) ?_
  refine (catch_panicking L sb i gl gp ge x a b z k W hs h).mono ?_
  rintro e u' w' ⟨rfl, rfl, h'⟩
  exact ⟨_, scd_res gl gp ge t.tmps w' _ _ _ _ h2 h3 h4 h'.l h'.p h'.e, hR w' h'⟩
theorem scd_ret {R : Ending → World → Prop} (t : Act) (W : World) {L : List UInt8} {sb i gl gp ge : Nat} {x a b z : Value} (hd : t.defers = [catchD sb gl gp ge]) (h2 : t.tmps.getD 2 undef = .pointer (some ⟨gl, 0, none⟩)) (h3 : t.tmps.getD 3 undef = .pointer (some ⟨gp, 0, none⟩)) (h4 : t.tmps.getD 4 undef = .pointer (some ⟨ge, 0, none⟩)) (hs : Sc L sb i W) (h : Res3 W W gl gp ge x a b z)
    (hR : ∀ w', Res3 W w' gl gp ge x (.int .i64 ((lcOf L i).1 : Int)) (.int .i64 ((lcOf L i).2 : Int)) z → R (.returned (.tuple #[x, .agg #[.int .i64 ((lcOf L i).1 : Int), .int .i64 ((lcOf L i).2 : Int)], z])) w') : bodyPostD Tryd.prog Tryd.f35 R Exit.ret t W := by
  unfold bodyPostD
  simp only [hd, catchD]
  refine leaves_cons (f := 48) (args := #[.pointer (some ⟨sb, 0, none⟩), .pointer (some ⟨gp, 0, none⟩), .pointer (some ⟨gl, 0, none⟩), .pointer (some ⟨ge, 0, none⟩)]) (by simp) (by simp [go_sem]) ?_
  refine (catch_idle L sb i gl gp ge x a b z W hs h).mono ?_
  rintro e u' w' ⟨rfl, rfl, h'⟩
  exact ⟨_, scd_res gl gp ge t.tmps w' _ _ _ _ h2 h3 h4 h'.l h'.p h'.e, hR w' h'⟩
theorem leaves_tmps {P : Program} {fn : Func} {t1 t2 : Array Value} {R : Ending → World → Prop} (he : ∀ W, (results fn t1).run P W = (results fn t2).run P W) : ∀ (ds : List Deferred) (u : FrameMode) (w : World), Leaves P fn t1 R ds u w → Leaves P fn t2 R ds u w
  | [], .returning, w, h => by obtain ⟨v, h1, h2⟩ := h; exact ⟨v, (he w) ▸ h1, h2⟩
  | [], .panicking _, w, h => h
  | [], .run, w, h => h
  | d :: ds, u, w, h => by
    obtain ⟨hu, fv, cap, f, args, h1, h2, h3⟩ := h
    refine ⟨hu, fv, cap, f, args, h1, h2, h3.mono fun e u' w' hl => ?_⟩
    cases e with
    | returned v => exact leaves_tmps he ds _ _ hl
    | panicked c => exact leaves_tmps he ds _ _ hl
    | outgrown => exact hl
theorem scd_hQ {R : Ending → World → Prop} {x : List PanicEntry} {a : Act} {w : World} {d : Nat} {v : Value} (hd : (d != 2 && d != 3 && d != 4) = true) (h : bodyPostD Tryd.prog Tryd.f35 R (Exit.panic x) (a.put (some d) v) w) : bodyPostD Tryd.prog Tryd.f35 R (Exit.panic x) a w := by
  simp at hd
  obtain ⟨⟨h2, h3⟩, h4⟩ := hd
  refine leaves_tmps (fun W => ?_) _ _ _ h
  simp [results, Tryd.results35, Act.put, go_sem, Array.getElem?_setIfInBounds, h2, h3, h4]

end Go.Proofs.YtkihoekldklkhaaDoor
