/- The walk of SourceChunks. -/
import Derived.Test.YthkpmbgclllnjaaMk
import Derived.Test.YthkpmbgclllnjaaL4
import Derived.Test.YthkpmbgclllnjaaRg
import Derived.Deep.CutRange
namespace Go.Proofs.Ythkpmbgclllnjaa
open Go.RowKit
attribute [local go_sem] wide_fn wide_depth wide_fn_in wide_depth_in Oper.semAt_some
set_option linter.unusedVariables false
set_option linter.unusedSimpArgs false

theorem ActS.below {w W : World} {A : Option Addr} {n : Nat} {f : Nat → ActV} (h : ActS w A n f) (hb : Below w.heap.size w W) : ActS W A n f :=
  ⟨h.1, fun i hi => by
    obtain ⟨b, o, e, hlt, hc, hg⟩ := h.2 i hi
    exact ⟨b, o, e, Nat.lt_of_lt_of_le hlt hb.size, hc.keepc hb hlt, hg.below hb⟩⟩
/-- The pieces that Chunks yields. -/
def pieces (S : Int) (l : List UInt8) : List UInt8 := if 0 < S then l else []
def piecesN (S : Int) (r : Nat) : Nat := if 0 < S ∧ 0 < r then 1 + (r - 1) / S.toNat else 0
theorem piecesN_lt {S : Int} {r j : Nat} (h : j < piecesN S r) : 0 < S ∧ j * S.toNat < r := by
  unfold piecesN at h
  split at h
  · rename_i h1
    refine ⟨h1.1, ?_⟩
    have h2 : j ≤ (r - 1) / S.toNat := by omega
    have h3 := (Nat.le_div_iff_mul_le (by omega)).1 h2
    omega
  · omega
theorem piecesN_iff {S : Int} {r : Nat} (hS : 0 < S) (j : Nat) : j < piecesN S r ↔ j * S.toNat < r := by
  refine ⟨fun h => (piecesN_lt h).2, fun h => ?_⟩
  unfold piecesN
  rw [if_pos ⟨hS, by omega⟩]
  have h3 := (Nat.le_div_iff_mul_le (k := S.toNat) (x := j) (y := r - 1) (by omega)).2 (by omega)
  omega
/-- The range's invariant, and how it is left. -/
structure SI (W7 : World) (Bk Ba Bt : Nat) (Ds : List Nat) (sz : Nat) (many : Int) (s r t j : Nat) (X : World) : Prop where
  k : Blk X Bk 3 #[.int .i64 j]
  a : Blk X Ba 3 #[.int .i64 ((min (j * s) r : Nat) : Int)]
  bt : Blk X Bt 3 #[.int .i64 t]
  below : Below W7.heap.size W7 X
  marks : Marks W7.heap.size Ds X
  size : sz ≤ X.heap.size
  c : t = 0 → j = 0 ∨ (j : Int) < many
structure SX (W7 : World) (Bk Bt : Nat) (Ds : List Nat) (sz : Nat) (many : Int) (t : Nat) (cd : Code) (j : Nat) (X : World) : Prop where
  cd : cd = .exit 2
  k : Blk X Bk 3 #[.int .i64 j]
  bt : Blk X Bt 3 #[.int .i64 t]
  below : Below W7.heap.size W7 X
  marks : Marks W7.heap.size Ds X
  size : sz ≤ X.heap.size
  t0 : t = 0
  c1 : many ≤ j
  c2 : j = 1 ∨ (j : Int) - 1 < many
  c3 : 1 ≤ j
/-- A round's frame. -/
structure SAx (b s r j : Nat) (l : List UInt8) (vs : Array Value) (x : Value) (X : World) : Prop where
  vs : vs = #[x]
  own : X.ownsRow b 5 1 x (min s (r - j * s)) (((l.drop (j * s)).take s).map u8)
/-- The loop's invariant. -/
def SLoop (n0 qa qb B15 B16 : Nat) (W7 : World) (a : Act) (W : World) : Prop := ∃ (t Bt : Nat) (Ds : List Nat), a.tmps.size = 161 ∧ a.tmps.getD 6 undef = .pointer (some ⟨n0, 0, none⟩) ∧ a.tmps.getD 7 undef = .pointer (some ⟨n0 + 1, 0, none⟩) ∧ a.tmps.getD 8 undef = .pointer (some ⟨n0 + 1 + 1, 0, none⟩) ∧ a.tmps.getD 14 undef = .func (.func 40) #[] #[.pointer (some ⟨qa, 0, none⟩), .pointer (some ⟨qb, 0, none⟩)] ∧ a.tmps.getD 15 undef = .pointer (some ⟨B15, 0, none⟩) ∧ a.tmps.getD 16 undef = .pointer (some ⟨B16, 0, none⟩) ∧ a.tmps.getD 17 undef = .pointer (some ⟨Bt, 0, none⟩) ∧ a.defers = Ds.map mark ∧ t ≤ 2 ∧ Blk W Bt 3 #[.int .i64 t] ∧ W7.heap.size ≤ Bt ∧ Below W7.heap.size W7 W ∧ Marks W7.heap.size Ds W
/-- What the region that compares reads. -/
def SReg (Bk Bn Bs Ba Bl g j Nn s d mm cap r ca cc : Nat) (Aa A' : Option Addr) (St : ByteArray) (W : World) : Prop := W.cell? ⟨Bk, 0, none⟩ = some (.int .i64 (j : Int)) ∧ W.cell? ⟨Bn, 0, none⟩ = some (.int .i64 (Nn : Int)) ∧ W.cell? ⟨Bs, 0, none⟩ = some (.int .i64 (s : Int)) ∧ W.cell? ⟨Ba, 0, none⟩ = some (.int .i64 (d : Int)) ∧ W.cell? ⟨Bl, 0, none⟩ = some (.slice Aa r ca) ∧ (convert 22 9 (.slice (some ⟨g, 0, none⟩) mm cap)).run Try.prog W = .ok (.string St) W ∧ (convert 22 9 (.slice A' mm cc)).run Try.prog W = .ok (.string St) W

def CKq (a b : Nat) (A : Option Addr) (N : Nat) (vs : Array Value) (X Y : World) : Prop := X.heap.size ≤ Y.heap.size ∧ ∀ k, (k = a ∨ k = b ∨ ∃ ad, A = some ad ∧ k = ad.block) → 0 < N → Y.heap[k]? = X.heap[k]?
theorem ckq_calm (B qa qb N : Nat) (Aq : Option Addr) (h : ∀ k, (k = qa ∨ k = qb ∨ ∃ ad, Aq = some ad ∧ k = ad.block) → 0 < N → k < B) (vs : Array Value) (X : World) : Calm B (CKq qa qb Aq N vs X) := fun Y k o o' hk hY ho hc =>
  ⟨by rw [size_putObj]; exact hc.1, fun j hj h0 => (World.putObj_heap_other (by have := h j hj h0; omega)).trans (hc.2 j hj h0)⟩
theorem pieces_iter (n : Nat) (W : World) (S : Int) (Lf : List UInt8) (r qa qb : Nat) (Aq : Option Addr) (cq : Nat) (ha : Blk W qa 22 #[.slice Aq (pieces S Lf).length cq]) (hb : Blk W qb 3 #[.int .i64 S]) (hr : RB W Aq (pieces S Lf).length cq (pieces S Lf)) (hL : Lf.length = r) (hm : r ≤ 1048576) :
    Iter Fence.wide n Try.prog 40 #[.pointer (some ⟨qa, 0, none⟩), .pointer (some ⟨qb, 0, none⟩)] (CAt W.heap.size Lf S.toNat) (CKq qa qb Aq (piecesN S r)) (Below W.heap.size) (piecesN S r) W := by
  by_cases hS : 0 < S
  · have e1 : pieces S Lf = Lf := by unfold pieces; rw [if_pos hS]
    rw [e1] at ha hr
    have hb' : Blk W qb 3 #[.int .i64 ((S.toNat : Nat) : Int)] := by rw [Int.toNat_of_nonneg (by omega)]; exact hb
    intro l J Jx hJ hY h0
    refine chunks_iter n W Lf S.toNat (piecesN S r) qa qb Aq cq ha hb' hr (by omega) (fun i => by rw [hL]; exact piecesN_iff hS i) (by omega) l J Jx hJ (fun i hi vs W1 hj hat => (hY i hi vs W1 hj hat).mono fun e W' he => ?_) h0
    rcases he with ⟨h1, h2, h3⟩ | h1
    · exact .inl ⟨h1, h2, h3.1, fun k hk => h3.2 k hk (by omega)⟩
    · exact .inr h1
  · have e1 : pieces S Lf = [] := by unfold pieces; rw [if_neg hS]
    have e2 : piecesN S r = 0 := by unfold piecesN; rw [if_neg (by omega)]
    rw [e1] at ha
    rw [e2]
    exact chunks_iter_no n W qa qb Aq cq ha _ _ _

set_option maxRecDepth 100000 in
set_option maxHeartbeats 16000000 in
theorem chunks_law (lim : Int) (L : Option Addr) (len cL : Nat) (f : Nat → ActV) (S many : Int) (w : World) (_ : (Lit.int .i64 lim).wf = true) (hs : ActS w L len f) (_ : (Lit.int .i64 S).wf = true) (_ : (Lit.int .i64 many).wf = true) :
    Calls Try.prog 6 #[.int .i64 lim, .slice L len cL, .int .i64 S, .int .i64 many] w fun e w' => e = .returned (.bool true) ∧ Below w.heap.size w w' := by
  refine (callsIn_wide (n := 100)).1 ?_
  refine callsIn_of_wp_marks Try.func6 rfl trivial ?_ rfl
  refine wpIn_wide.2 ?_
  simp only [Try.ntmps6, List.size_toArray, List.length_cons, List.length_nil, Nat.reduceAdd, Nat.reduceSub, Array.replicate_succ, Array.replicate_zero, List.push_toArray, List.append_toArray, List.nil_append, List.cons_append]
  obtain ⟨W0, hW0⟩ : ∃ W0, (((w.alloc (.cells #[.int .i64 S] 3)).alloc (.cells #[.int .i64 many] 3)).alloc (.cells #[.bool false] 4)) = W0 := ⟨_, rfl⟩
  have hba : Below w.heap.size w W0 := hW0 ▸ (((Below.refl _ w).alloc (Nat.le_refl _) _).alloc (by simp) _).alloc (by simp; omega) _
  have kS : Blk W0 w.heap.size 3 #[.int .i64 S] := hW0 ▸ ((Blk.new w 3 _).alloc _).alloc _
  have kM : Blk W0 (w.heap.size + 1) 3 #[.int .i64 many] := by have := (Blk.new (w.alloc (.cells #[.int .i64 S] 3)) 3 #[.int .i64 many]).alloc (.cells #[.bool false] 4); rw [World.size_alloc, hW0] at this; exact this
  have kR : Blk W0 (w.heap.size + 1 + 1) 4 #[.bool false] := by have := Blk.new ((w.alloc (.cells #[.int .i64 S] 3)).alloc (.cells #[.int .i64 many] 3)) 4 #[.bool false]; rw [World.size_alloc, World.size_alloc, hW0] at this; exact this
  have HBA := Lib.hid hba
  have KS := Lib.hid kS
  have KM := Lib.hid kM
  have KR := Lib.hid kR
  have ending : ∀ (nn : Nat) (tm : Array Value) (W : World) (Ds : List Nat), tm.getD 8 undef = .pointer (some ⟨w.heap.size + 1 + 1, 0, none⟩) → Marks (w.heap.size + 3) Ds W → Below w.heap.size w W → Blk W (w.heap.size + 1 + 1) 4 #[.bool true] → LeavesInM Fence.wide nn Try.prog Try.f6 tm (fun e w' => e = .returned (.bool true) ∧ Below w.heap.size w w') (Ds.map mark) .returning W := by
    intro nn tm W Ds ht hM hb hk
    refine leaves_marks2 (v := .bool true) Ds W hM fun w' hs => ⟨?_, rfl, hb.trans (hs.to_below.mono (by omega))⟩
    have hk' := (hk.below hs.to_below (by omega)).cell 0
    simp at hk'
    have ht' : tm[8]?.getD undef = .pointer (some ⟨w.heap.size + 1 + 1, 0, none⟩) := by simpa using ht
    simp [results, Try.results6, go_sem, ht', hk']
  have HEND := Lib.hid ending
  have HS0 := Lib.hid hs
  have F := Lib.hid (fits_any L len cL f W0 (hs.below hba))
  have HW0 := Lib.hid hW0
  have hnf : ∀ (a b : Nat) (W : World), (binOp .eql 47 (.func (.func 40) #[] #[.pointer (some ⟨a, 0, none⟩), .pointer (some ⟨b, 0, none⟩)]) .nilFunc).run Try.prog W = .ok (.bool false) W := fun a b W => by kernel_rfl
  clear hba kS kM kR ending hs hW0
  go_wp2_with (go_at_call 15; refine Hid.out ?_)
  refine Lib.hid ?_
  rw [HW0.out]
  clear HW0
  (with_reducible refine F.out.mono ?_); rintro e w1 ⟨⟨t, rfl, ht⟩, rfl⟩
  cases t
  · clear ht
    have C9 := Lib.hid (known_any W0)
    have f1 := KR.out.frozen 0
    go_wp2_with (go_at_call 8; (with_reducible refine C9.out.mono ?_); rintro e w9 ⟨rfl, b9⟩; have k9 := KR.out.below b9 KR.out.lt; have e9 := k9.cell 0; have f9 := k9.frozen 0; simp at e9; have K9 := Lib.hid k9; have B9 := Lib.hid (HBA.out.trans (b9.mono HBA.out.size)); clear b9 k9)
    refine HEND.out _ _ _ [] (by simp) ⟨List.nodup_nil, fun D hD => by cases hD⟩ ?_ ?_
    · exact Below.setCell B9.out (by simp; omega) _
    · have := K9.out.set_ 0 (.bool true)
      simpa using this
  obtain ⟨h60, hm⟩ := ht rfl
  have HM := Lib.hid (And.intro h60 hm)
  clear ht h60 hm
  by_cases hl1 : lim < 1
  · have q1 : decide (lim < 1) = true := by simpa using hl1
    clear hl1
    have C9 := Lib.hid (known_any W0)
    have f1 := KR.out.frozen 0
    go_wp2_with (go_at_call 8; (with_reducible refine C9.out.mono ?_); rintro e w9 ⟨rfl, b9⟩; have k9 := KR.out.below b9 KR.out.lt; have e9 := k9.cell 0; have f9 := k9.frozen 0; simp at e9; have K9 := Lib.hid k9; have B9 := Lib.hid (HBA.out.trans (b9.mono HBA.out.size)); clear b9 k9)
    refine HEND.out _ _ _ [] (by simp) ⟨List.nodup_nil, fun D hD => by cases hD⟩ ?_ ?_
    · exact Below.setCell B9.out (by simp; omega) _
    · have := K9.out.set_ 0 (.bool true)
      simpa using this
  by_cases hl2 : 1000 < lim
  · have q1 : decide (lim < 1) = false := by simpa using hl1
    have q2 : decide (1000 < lim) = true := by simpa using hl2
    clear hl1 hl2
    have C9 := Lib.hid (known_any W0)
    have f1 := KR.out.frozen 0
    go_wp2_with (go_at_call 8; (with_reducible refine C9.out.mono ?_); rintro e w9 ⟨rfl, b9⟩; have k9 := KR.out.below b9 KR.out.lt; have e9 := k9.cell 0; have f9 := k9.frozen 0; simp at e9; have K9 := Lib.hid k9; have B9 := Lib.hid (HBA.out.trans (b9.mono HBA.out.size)); clear b9 k9)
    refine HEND.out _ _ _ [] (by simp) ⟨List.nodup_nil, fun D hD => by cases hD⟩ ?_ ?_
    · exact Below.setCell B9.out (by simp; omega) _
    · have := K9.out.set_ 0 (.bool true)
      simpa using this
  have q1 : decide (lim < 1) = false := by simpa using hl1
  have q2 : decide (1000 < lim) = false := by simpa using hl2
  obtain ⟨n, rfl⟩ : ∃ n : Nat, lim = n := ⟨lim.toNat, by omega⟩
  have C9 := Lib.hid (new_ok n W0 (by omega) (by omega))
  have C16 := Lib.hid (fun W => rnew_ok n W (by omega) (by omega))
  clear hl1 hl2
  go_wp2_with (first
    | (go_at_call 9; (with_reducible refine C9.out.mono ?_); rintro e w2 ⟨bs, bt, bb, rfl, s2, b2, h1, h2, h3⟩; have B2 := Lib.hid b2; have S2 := Lib.hid s2; have HG := Lib.hid (And.intro h1 (And.intro h2 h3)); clear b2 s2 h1 h2 h3)
    | (go_at_call 16; (with_reducible refine (C16.out _).mono ?_); rintro e w3 ⟨rfl, b3⟩; have B3 := Lib.hid (B2.out.trans (b3.mono B2.out.size)); have S3 := Lib.hid (S2.out.below b3); clear b3; refine Hid.out ?_))
  refine Lib.hid ?_
  clear q1 q2
  have HGa := Lib.hid (Blk.new w3 37 #[.int .i64 0, .slice none 0 0, .int .i64 0, .bool false])
  obtain ⟨t0, t1, t2, t3⟩ := four _ _ _ _ _ _ HGa.out
  obtain ⟨z0, z1, z2, z3⟩ := fourz _ _ _ _ _ _ HGa.out
  go_wp2_with fail
  clear t0 t1 t2 t3 z0 z1 z2 z3
  obtain ⟨w4, hw4⟩ : ∃ w4, w3.alloc (.cells #[.int .i64 n, .slice none 0 0, .int .i64 0, .bool false] 37) = w4 := ⟨_, rfl⟩
  have HX4 := Lib.hid (show Blk w4 w3.heap.size 37 #[.int .i64 n, .slice none 0 0, .int .i64 0, .bool false] from hw4 ▸ Blk.new w3 37 _)
  have B4 := Lib.hid (show Below W0.heap.size W0 w4 from hw4 ▸ B3.out.alloc B3.out.size _)
  have B4w := Lib.hid (HBA.out.trans (B4.out.mono HBA.out.size))
  have S4 := Lib.hid (show SS w4 w.heap.size bs bt bb (.slice none 0 0) n (([] : List UInt8).drop 0) 0 false from (hw4 ▸ S3.out.below ((Below.refl _ _).alloc (Nat.le_refl _) _) : SS w4 W0.heap.size bs bt bb (.slice none 0 0) n (([] : List UInt8).drop 0) 0 false).lower HBA.out.size)
  have H34 := Lib.hid (show W0.heap.size ≤ w3.heap.size from B3.out.size)
  have HGw := Lib.hid (And.intro (Nat.le_trans HBA.out.size HG.out.1) (And.intro (Nat.le_trans HBA.out.size HG.out.2.1) (Nat.le_trans HBA.out.size HG.out.2.2)))
  have C17 := Lib.hid (show Calls Try.prog 17 #[.pointer (some ⟨bs, 0, none⟩), .agg #[.int .i64 n, .slice none 0 0, .int .i64 0, .bool false], .slice L len cL] w4 (RunP w4 w.heap.size bs bt bb (.slice none 0 0) n 0 len none) from run_any w w4 L len cL f HS0.out HM.out.1 HM.out.2 B4w.out S4.out HGw.out.2.1 HGw.out.2.2 (RB.nil _) (fun a ha => by cases ha) (Nat.le_refl _) (by omega) (fun a ha => by cases ha))
  rw [hw4]
  clear hw4
  (with_reducible refine C17.out.mono ?_); rintro e w5 ⟨A5, n5, c5, all5, tk5, cl5, v5, rfl, hro⟩
  have R5 := Lib.hid hro
  have HX5 := Lib.hid (HX4.out.only hro.only (S4.out.notSF HX4.out (by decide) (by decide) (by decide)))
  have B5 := Lib.hid (B4.out.trans (hro.only.to_below B4.out.size fun b hb hs => by
    have := SF.ge0 (s := W0.heap.size) hs HG.out.2.1 HG.out.2.2 (fun j hj => by cases hj)
    omega))
  clear hro
  obtain ⟨t0, t1, t2, t3⟩ := four _ _ _ _ _ _ HX5.out
  obtain ⟨z0, z1, z2, z3⟩ := fourz _ _ _ _ _ _ HX5.out
  go_upto_region 8 with fail
  clear t0 t1 t2 t3 z0 z1 z2 z3
  obtain ⟨w6, hw6⟩ : ∃ w6, ((((w5.setCell ⟨w3.heap.size, 0, none⟩ (.int .i64 n)).setCell ⟨w3.heap.size, 1, none⟩ (.slice A5 n5 c5)).setCell ⟨w3.heap.size, 2, none⟩ (.int .i64 (tk5 : Nat))).setCell ⟨w3.heap.size, 3, none⟩ (.bool cl5)) = w6 := ⟨_, rfl⟩
  have HOn := Lib.hid (show Only (fun k => k = w3.heap.size) w5 w6 from hw6 ▸ Only.set (p := fun k => k = w3.heap.size) (Only.set (p := fun k => k = w3.heap.size) (Only.set (p := fun k => k = w3.heap.size) (Only.set (p := fun k => k = w3.heap.size) (Only.refl _ _) (fun _ => rfl) 0 _) (fun _ => rfl) 1 _) (fun _ => rfl) 2 _) (fun _ => rfl) 3 _)
  have HX6 := Lib.hid (show Blk w6 w3.heap.size 37 #[.int .i64 n, .slice A5 n5 c5, .int .i64 tk5, .bool cl5] from hw6 ▸ set4 HX5.out _ _ _ _)
  have S6 := Lib.hid (R5.out.ss.only HOn.out fun k hk (e : k = w3.heap.size) => by
    rcases hk with hk | hk
    · exact R5.out.ss.src.ne HX5.out (by decide) (hk.symm.trans e)
    · exact R5.out.ss.notSF HX5.out (by decide) (by decide) (by decide) (e ▸ hk))
  have RB6 := Lib.hid (R5.out.rb.only HOn.out fun a hA h0 => RB.ne R5.out.rb h0 hA HX5.out (cs4 _ _ _ _ (fun z e => by cases e)))
  have B6 := Lib.hid (B5.out.trans (HOn.out.to_below B5.out.size fun b hb (e : b = w3.heap.size) => by have := H34.out; omega))
  have N5 := Lib.hid (show n5 ≤ 6000 by have := R5.out.nn; have := HM.out.1; omega)
  have TN := Lib.hid R5.out.tn
  have SEP5 := Lib.hid R5.out.sep
  have HL5 := Lib.hid (show (all5.drop tk5).length = n5 - tk5 by rw [List.length_drop, R5.out.rb.len])
  have HLIM := Lib.hid (show n5 - tk5 ≤ 1048576 by have := S6.out.lenB; have := S6.out.limB; have := HL5.out; omega)
  have C20 := Lib.hid (show Calls Try.prog 20 #[.pointer (some ⟨bs, 0, none⟩), .int .i64 S] w6 (fun e w' => ∃ a b A c, e = .returned (fn40 a b) ∧ Chk w6 w' (pieces S (all5.drop tk5)) S a b A c) from by
    by_cases hS : 0 < S
    · unfold pieces; rw [if_pos hS]; exact chunks_some S6.out S hS
    · unfold pieces; rw [if_neg hS]; exact (chunks_no S6.out S (by omega)).mono fun e w' ⟨a, b, h1, h2⟩ => ⟨a, b, none, 0, h1, h2⟩)
  rw [hw6]
  clear hw6
  have ks := (KS.out.below B6.out KS.out.lt).cell 0
  simp only [List.getElem?_toArray, List.getElem?_cons_zero] at ks
  go_wp2_with (go_at_call 20; (with_reducible refine C20.out.mono ?_); rintro e w7 ⟨qa, qb, Aq, cq, rfl, hq⟩; unfold fn40; refine Hid.out ?_)
  refine Lib.hid ?_
  clear ks
  have CH := Lib.hid hq
  have B67 := Lib.hid hq.below
  have B7 := Lib.hid (B6.out.trans (hq.below.mono B6.out.size))
  have S7 := Lib.hid (S6.out.below hq.below)
  have RB7 := Lib.hid (RB6.out.below hq.below)
  have HX7 := Lib.hid (HX6.out.below hq.below HX6.out.lt)
  clear hq
  obtain ⟨t0, t1, t2, t3⟩ := four _ _ _ _ _ _ HX7.out
  have C21 := Lib.hid (rleft_any n cl5 RB7.out TN.out)
  go_wp2_with (go_at_call 21; (with_reducible refine C21.out.mono ?_); rintro e w8 ⟨A8, c8, rfl, hr8, hw8, b8⟩; refine Hid.out ?_)
  refine Lib.hid ?_
  clear t0 t1 t2 t3
  have B78 := Lib.hid b8
  have WI8 := Lib.hid hw8
  have RB8 := Lib.hid (hr8.below b8)
  clear hr8 hw8 b8
  obtain ⟨r, hr⟩ : ∃ r, n5 - tk5 = r := ⟨_, rfl⟩
  rw [hr] at RB8 HLIM HL5 ⊢
  go_upto_region 12 with fail
  obtain ⟨w9, hw9⟩ : ∃ w9, w8.alloc (.cells #[.slice A8 r c8] 22) = w9 := ⟨_, rfl⟩
  have b89 := Lib.hid (show Below w8.heap.size w8 w9 from hw9 ▸ (Below.refl _ _).alloc (Nat.le_refl _) _)
  have KL9 := Lib.hid (show Blk w9 w8.heap.size 22 #[.slice A8 r c8] from hw9 ▸ Blk.new w8 22 _)
  have B79 := Lib.hid (B78.out.trans (b89.out.mono B78.out.size))
  have B9 := Lib.hid (B7.out.trans (B79.out.mono B7.out.size))
  have S9 := Lib.hid (S7.out.below B79.out)
  have RB9 := Lib.hid (RB8.out.below b89.out)
  have SEP8 := Lib.hid (show ∀ a, A8 = some a → 0 < r → ¬ SF bt bb v5 a.block from fun a hA h0 hs => by
    obtain ⟨a0, h1, h2, -⟩ := WI8.out a hA
    rw [h2] at hs
    exact SEP5.out a0 h1 (by omega) hs)
  have C22 := Lib.hid (show Calls Try.prog 22 #[.pointer (some ⟨bs, 0, none⟩), .int .i64 r] w9 (fun e w' => e = .returned (.int .i64 0) ∧ Only (SF bt bb v5) w9 w') from skip_of _ r w9 (fun e w' => e = .returned (.int .i64 0) ∧ Only (SF bt bb v5) w9 w') ((take_ok S9.out (by have := HL5.out; have := HLIM.out; have := N5.out; have := TN.out; omega) r (by have := HL5.out; omega)).mono fun e w' ⟨A, c, he, _, v', _, ho, _⟩ => ⟨A, r, c, 0, he, rfl, ho⟩))
  rw [hw9]
  clear hw9
  have kl := KL9.out.cell 0
  simp only [List.getElem?_toArray, List.getElem?_cons_zero] at kl
  go_wp2_with (go_at_call 22; (with_reducible refine C22.out.mono ?_); rintro e wa ⟨rfl, hon⟩; refine Hid.out ?_)
  refine Lib.hid ?_
  clear kl
  have HB9 := Lib.hid (show W0.heap.size ≤ w9.heap.size from B9.out.size)
  have SFB := Lib.hid (show ∀ b, SF bt bb v5 b → W0.heap.size ≤ b ∧ b < w6.heap.size from fun b hb => ⟨by
    rcases hb with e | e | e
    · have := HG.out.2.1; omega
    · have := HG.out.2.2; omega
    · rcases R5.out.hat with h | h
      · rw [h] at e; cases e
      · have := h b e; have := B4.out.size; omega, S6.out.lt b (.inr hb)⟩)
  have Ba := Lib.hid (B9.out.trans (hon.to_below B9.out.size fun b hb hs => by have := (SFB.out b hs).1; omega))
  have KLa := Lib.hid (KL9.out.only hon fun hs => by have := (SFB.out _ hs).2; have := B67.out.size; have := B78.out.size; omega)
  have RBa := Lib.hid (RB9.out.only hon SEP8.out)
  have CHa := Lib.hid (show Blk wa qa 22 #[.slice Aq (pieces S (all5.drop tk5)).length cq] ∧ Blk wa qb 3 #[.int .i64 S] ∧ RB wa Aq (pieces S (all5.drop tk5)).length cq (pieces S (all5.drop tk5)) from
    ⟨(CH.out.ka.below B79.out CH.out.ka.lt).only hon fun hs => by have := (SFB.out _ hs).2; have := CH.out.na; omega,
     (CH.out.kb.below B79.out CH.out.kb.lt).only hon fun hs => by have := (SFB.out _ hs).2; have := CH.out.nb; omega, (CH.out.rb.below B79.out).only hon fun ad hA h0 hs => by have := (SFB.out _ hs).2; have := CH.out.nA ad hA h0; omega⟩)
  clear hon
  have hr0 : (0 : Int) ≤ r := by omega
  have hrm : (r : Int) ≤ 1048576 := by have := HLIM.out; omega
  go_upto_region 15 with fail
  obtain ⟨wb, hwb⟩ : ∃ wb, wa.alloc (.cells #[.int .i64 0] 3) = wb := ⟨_, rfl⟩
  have bab := Lib.hid (show Below wa.heap.size wa wb from hwb ▸ (Below.refl _ _).alloc (Nat.le_refl _) _)
  have KNb := Lib.hid (show Blk wb wa.heap.size 3 #[.int .i64 0] from hwb ▸ Blk.new wa 3 _)
  have KLb := Lib.hid (KLa.out.below bab.out KLa.out.lt)
  have Bb := Lib.hid (Ba.out.trans (bab.out.mono Ba.out.size))
  have ks := (KS.out.below Bb.out KS.out.lt).cell 0
  have kl := KLb.out.cell 0
  have kn := KNb.out.cell 0
  have kz := KNb.out.frozen 0
  simp only [List.getElem?_toArray, List.getElem?_cons_zero] at ks kl kn
  have HNb := Lib.hid KNb.out
  rw [hwb]
  clear hwb
  go_cut [75] from 69 to 74 (fun z wx => ∃ z0 : Bool, z = .bool z0 ∧ Hid (z0 = (decide (0 < S) && decide (0 < r))) ∧ wx = wb)
  case first =>
    by_cases hS : 0 < S
    · have q1 : decide (0 < S) = true := by simpa using hS
      by_cases hr9 : 0 < (r : Int)
      · have q2 : decide (0 < (r : Int)) = true := by simpa using hr9
        have q3 : decide (0 < r) = true := by simp; omega
        clear hS hr9
        go_wp2_with fail
        go_meet
        exact ⟨_, rfl, Lib.hid (by rw [q1, q3]; rfl), rfl⟩
      · have q2 : decide (0 < (r : Int)) = false := by simpa using hr9
        have q3 : decide (0 < r) = false := by simp; omega
        clear hS hr9
        go_wp2_with fail
        go_meet
        exact ⟨_, rfl, Lib.hid (by rw [q1, q3]; rfl), rfl⟩
    · have q1 : decide (0 < S) = false := by simpa using hS
      clear hS
      go_wp2_with fail
      go_meet
      exact ⟨_, rfl, Lib.hid (by rw [q1]; rfl), rfl⟩
  case rest =>
  obtain ⟨z0, rfl, HZ0, rfl⟩ := hcut
  go_upto_if 75 with fail
  go_cut [] from 76 to 81 (fun wx => Below wa.heap.size wa wx ∧ Blk wx wa.heap.size 3 #[.int .i64 ((piecesN S r : Nat) : Int)])
  case first =>
    cases z0
    rotate_left
    · have hz := HZ0.out
      simp only [Bool.true_eq, Bool.and_eq_true, decide_eq_true_eq] at hz
      obtain ⟨hS, hr9⟩ := hz
      have hdv : 1 + ((r : Int) - 1) / S = ((piecesN S r : Nat) : Int) := by
        unfold piecesN
        rw [if_pos ⟨hS, hr9⟩]
        obtain ⟨s, rfl⟩ : ∃ s : Nat, S = s := ⟨S.toNat, by omega⟩
        rw [Int.toNat_natCast, Int.natCast_add, Int.natCast_ediv, Int.natCast_sub (by omega)]
        rfl
      have hN9 : piecesN S r ≤ r := by
        rcases Nat.lt_or_ge r (piecesN S r) with h | h
        · have := (piecesN_lt h).2
          have h2 : r * 1 ≤ r * S.toNat := Nat.mul_le_mul_left _ (by omega)
          omega
        · exact h
      have hwr : wrap64 (1 + ((r : Int) - 1) / S) = ((piecesN S r : Nat) : Int) := by
        rw [hdv]
        unfold wrap64
        omega
      have HWR := Lib.hid hwr
      clear hdv hN9 hwr
      go_wp2_with fail
      go_meet
      rw [HWR.out]
      refine ⟨Below.setCell bab.out (by simp) _, ?_⟩
      have := HNb.out.set_ 0 (.int .i64 ((piecesN S r : Nat) : Int))
      simpa using this
    · have HN0 := Lib.hid (show piecesN S r = 0 from by
        have hz := HZ0.out
        unfold piecesN
        rw [if_neg]
        rintro ⟨h1, h2⟩
        rw [decide_eq_true h1, decide_eq_true h2] at hz
        cases hz)
      go_wp2_with fail
      go_meet
      rw [HN0.out]
      exact ⟨bab.out, HNb.out⟩
  case rest =>
  obtain ⟨hbc, hkn⟩ := hcut
  obtain ⟨W7, rfl⟩ : ∃ W7 : World, W7 = wc := ⟨_, rfl⟩
  have Bc := Lib.hid (Ba.out.trans (hbc.mono Ba.out.size))
  have K7S := Lib.hid (KS.out.below Bc.out KS.out.lt)
  have K7M := Lib.hid (KM.out.below Bc.out KM.out.lt)
  have K7R := Lib.hid (KR.out.below Bc.out KR.out.lt)
  have K7L := Lib.hid (KLa.out.below hbc KLa.out.lt)
  have K7N := Lib.hid hkn
  have R7 := Lib.hid (RBa.out.below hbc)
  have Q7 := Lib.hid (show Blk W7 qa 22 #[.slice Aq (pieces S (all5.drop tk5)).length cq] ∧ Blk W7 qb 3 #[.int .i64 S] ∧ RB W7 Aq (pieces S (all5.drop tk5)).length cq (pieces S (all5.drop tk5)) from ⟨CHa.out.1.below hbc CHa.out.1.lt, CHa.out.2.1.below hbc CHa.out.2.1.lt, CHa.out.2.2.below hbc⟩)
  have B7w := Lib.hid (HBA.out.trans (Bc.out.mono HBA.out.size))
  have HS7 := Lib.hid (show w.heap.size + 3 ≤ W7.heap.size by have := K7R.out.lt; omega)
  have HLF := Lib.hid (show (all5.drop tk5).length = r from HL5.out)
  generalize all5.drop tk5 = Lf at *
  obtain ⟨B15, hB15⟩ : ∃ b, w8.heap.size = b := ⟨_, rfl⟩
  obtain ⟨B16, hB16⟩ : ∃ b, wa.heap.size = b := ⟨_, rfl⟩
  rw [hB15] at K7L ⊢
  rw [hB16] at K7N ⊢
  clear hbc hkn hB15 hB16 bab KLb Bb ks kl kn kz HNb KNb CHa RBa KLa Ba SFB HB9 SEP8 RB9 S9 B9 B79 KL9 b89 RB8 WI8 B78 HX7 RB7 S7 B7 B67 CH HZ0 C22 C21 C20 KS KM KR F C9 C16 C17
  obtain ⟨Nn, hNn⟩ : ∃ Nn, piecesN S r = Nn := ⟨_, rfl⟩
  rw [hNn] at K7N
  have HNN := Lib.hid hNn
  obtain ⟨s, hs⟩ : ∃ s, S.toNat = s := ⟨_, rfl⟩
  have HSs := Lib.hid hs
  have HRD := Lib.hid (show ∀ j, j < Nn → S = (s : Int) ∧ 1 ≤ s ∧ j * s < r from fun j hj => by
    have h1 := piecesN_lt (hNn ▸ hj)
    rw [hs] at h1
    exact ⟨by omega, by omega, h1.2⟩)
  have HNr := Lib.hid (show Nn ≤ 1048576 from by
    rcases Nat.lt_or_ge r Nn with h | h
    · have h1 := HRD.out r h
      have h2 : r * 1 ≤ r * s := Nat.mul_le_mul_left _ h1.2.1
      omega
    · omega)
  clear hNn hs
  go_wp2_with fail
  have KT := Lib.hid (Blk.new W7 3 #[.int .i64 ((0 : Nat) : Int)])
  have BT := Lib.hid ((Below.refl W7.heap.size W7).alloc (Nat.le_refl _) (.cells #[.int .i64 0] 3))
  refine (wpIn_wide (n := 99)).1 ?_
  refine wpIn_loop (SLoop w.heap.size qa qb B15 B16 W7)
    (fun a W => 2 - turnOf (a.tmps.getD 17 undef) W) ⟨0, W7.heap.size, [], rfl, rfl, rfl, rfl, rfl, rfl, rfl, rfl, rfl, by omega, KT.out, Nat.le_refl _, BT.out, List.nodup_nil, fun D hD => by cases hD⟩ ?_
  rintro ⟨tm, df⟩ W ⟨t, Bt, Ds, hsz, h6, h7, h8, h14, h15, h16, h17, hdf, ht, hkt, hbt, hb, hM⟩
  dsimp only at hsz h6 h7 h8 h14 h15 h16 h17 hdf ⊢
  obtain ⟨x, hx⟩ : ∃ x : Nat → Value, (fun k => tm.getD k undef) = x := ⟨_, rfl⟩
  have e : tm = #[x 0, x 1, x 2, x 3, x 4, x 5, x 6, x 7, x 8, x 9, x 10, x 11, x 12, x 13, x 14, x 15, x 16, x 17, x 18, x 19, x 20, x 21, x 22, x 23, x 24, x 25, x 26, x 27, x 28, x 29, x 30, x 31, x 32, x 33, x 34, x 35, x 36, x 37, x 38, x 39, x 40, x 41, x 42, x 43, x 44, x 45, x 46, x 47, x 48, x 49, x 50, x 51, x 52, x 53, x 54, x 55, x 56, x 57, x 58, x 59, x 60, x 61, x 62, x 63, x 64, x 65, x 66, x 67, x 68, x 69, x 70, x 71, x 72, x 73, x 74, x 75, x 76, x 77, x 78, x 79, x 80, x 81, x 82, x 83, x 84, x 85, x 86, x 87, x 88, x 89, x 90, x 91, x 92, x 93, x 94, x 95, x 96, x 97, x 98, x 99, x 100, x 101, x 102, x 103, x 104, x 105, x 106, x 107, x 108, x 109, x 110, x 111, x 112, x 113, x 114, x 115, x 116, x 117, x 118, x 119, x 120, x 121, x 122, x 123, x 124, x 125, x 126, x 127, x 128, x 129, x 130, x 131, x 132, x 133, x 134, x 135, x 136, x 137, x 138, x 139, x 140, x 141, x 142, x 143, x 144, x 145, x 146, x 147, x 148, x 149, x 150, x 151, x 152, x 153, x 154, x 155, x 156, x 157, x 158, x 159, x 160] := (arr_lit tm 161 hsz).trans (by rw [hx]; rfl)
  have y6 := (congrFun hx 6).symm.trans h6
  have y7 := (congrFun hx 7).symm.trans h7
  have y8 := (congrFun hx 8).symm.trans h8
  have y14 := (congrFun hx 14).symm.trans h14
  have y15 := (congrFun hx 15).symm.trans h15
  have y16 := (congrFun hx 16).symm.trans h16
  have y17 := (congrFun hx 17).symm.trans h17
  rw [y6, y7, y8, y14, y15, y16, y17] at e
  clear y6 y7 y8 y14 y15 y16 y17 h6 h7 h8 h14 h15 h16 h17 hsz hx
  subst e hdf
  have HT := Lib.hid hkt
  have HBb := Lib.hid hb
  have HMk := Lib.hid hM
  have ct := hkt.cell 0
  simp at ct
  clear hkt hb hM
  refine wpIn_wide.2 ?_
  by_cases hlt : (t : Int) < 2
  · have ht2 : t < 2 := by omega
    go_wp2_with fail
    obtain ⟨Wk, hWk⟩ : ∃ Wk, (W.alloc (.cells #[.int .i64 0] 3)).alloc (.cells #[.int .i64 0] 3) = Wk := ⟨_, rfl⟩
    have hbk : Below W.heap.size W Wk := hWk ▸ ((Below.refl _ _).alloc (Nat.le_refl _) _).alloc (by simp) _
    have hzk : Wk.heap.size = W.heap.size + 2 := by rw [← hWk]; simp
    have kk : Blk Wk W.heap.size 3 #[.int .i64 ((0 : Nat) : Int)] := hWk ▸ (Blk.new W 3 _).alloc _
    have kb : Blk Wk (W.heap.size + 1) 3 #[.int .i64 ((min (0 * s) r : Nat) : Int)] := by
      have := Blk.new (W.alloc (.cells #[.int .i64 0] 3)) 3 #[.int .i64 0]
      rw [World.size_alloc, hWk] at this
      simpa using this
    have hb7k := HBb.out.trans (hbk.mono HBb.out.size)
    have htk := HT.out.below hbk HT.out.lt
    have hMk : Marks W7.heap.size Ds Wk := ⟨HMk.out.nodup, fun D hD => ⟨(HMk.out.there D hD).1, (hbk.block D (HMk.out.lt D hD)).trans (HMk.out.there D hD).2⟩⟩
    have hDlt := HMk.out.lt
    have hBt := HT.out.lt
    rw [hWk]
    obtain ⟨Ba, hBa⟩ : ∃ b, W.heap.size + 1 = b := ⟨_, rfl⟩
    rw [hBa] at kb ⊢
    obtain ⟨Bk, hBk⟩ : ∃ b, W.heap.size = b := ⟨_, rfl⟩
    have h7k : W7.heap.size ≤ Bk := hBk ▸ HBb.out.size
    rw [hBk] at hBa hzk kk hDlt hBt ⊢
    have hlq := Q7.out.1.lt
    have hlr := Q7.out.2.1.lt
    have HQA := Lib.hid (show ∀ k, (k = qa ∨ k = qb ∨ ∃ ad, Aq = some ad ∧ k = ad.block) → 0 < Nn → k < W7.heap.size from fun k hk h0 => by
      rcases hk with rfl | rfl | ⟨ad, hA, rfl⟩
      · exact hlq
      · exact hlr
      · have h1 := HRD.out 0 h0
        refine Q7.out.2.2.lt ?_ hA
        have : pieces S Lf = Lf := by unfold pieces; rw [if_pos (by omega)]
        rw [this, HLF.out]
        omega)
    have hlS := K7S.out.lt
    have hlM := K7M.out.lt
    have hlL := K7L.out.lt
    have hlN := K7N.out.lt
    clear hWk hbk hBk ct
    refine (wpIn_wide (n := 99)).1 ?_
    refine wpIn_iter (N := Nn) (At := CAt (Wk.heap.size + 2) Lf s) (Kp := CKq qa qb Aq Nn) (Step := Below (Wk.heap.size + 2)) rfl (by omega) (gf := 40) (lb := #[.pointer (some ⟨qa, 0, none⟩), .pointer (some ⟨qb, 0, none⟩)]) rfl trivial (enters_of Try.func40 (by kernel_rfl) rfl)
      (fun W1 hb1 hz1 => hz1 ▸ (HSs.out ▸ HNN.out ▸ pieces_iter 98 W1 S Lf r qa qb Aq cq (Q7.out.1.below (hb7k.trans (hb1.mono hb7k.size)) hlq) (Q7.out.2.1.below (hb7k.trans (hb1.mono hb7k.size)) hlr) (Q7.out.2.2.below (hb7k.trans (hb1.mono hb7k.size))) HLF.out (by omega)))
      (fun X Y hXY k hk hkX => hXY.block k (by omega))
      (fun vs X => ckq_calm Wk.heap.size qa qb Nn Aq (fun k hk h0 => by have := HQA.out k hk h0; omega) vs X)
      (fun i vs X ⟨val, h, _⟩ => by rw [h]; rfl)
      (fun j X => SI W7 Bk Ba Bt Ds Wk.heap.size many s r t j X)
      (fun cd j X => SX W7 Bk Bt Ds Wk.heap.size many t cd j X)
      ?hI ?hIx ?hIS ?h0
      (fun j vs X a' Wx => (a'.tmps.size = 161 ∧ a'.tmps.getD 6 undef = .pointer (some ⟨w.heap.size, 0, none⟩) ∧ a'.tmps.getD 7 undef = .pointer (some ⟨w.heap.size + 1, 0, none⟩) ∧ a'.tmps.getD 8 undef = .pointer (some ⟨w.heap.size + 1 + 1, 0, none⟩) ∧ a'.tmps.getD 15 undef = .pointer (some ⟨B15, 0, none⟩) ∧ a'.tmps.getD 16 undef = .pointer (some ⟨B16, 0, none⟩) ∧ a'.tmps.getD 17 undef = .pointer (some ⟨Bt, 0, none⟩) ∧ a'.tmps.getD 18 undef = .pointer (some ⟨Bk, 0, none⟩) ∧ a'.tmps.getD 19 undef = .pointer (some ⟨Ba, 0, none⟩) ∧ a'.defers = []) ∧ CKq qa qb Aq Nn vs X Wx ∧ SI W7 Bk Ba Bt Ds Wk.heap.size many s r t j Wx ∧ SAx (Wk.heap.size + 2) s r j Lf vs (a'.tmps.getD 20 undef) Wx)
      ?hAx ?assign ?body ?done ?stop
    case hI => exact fun j X k o o' hk hX ho ⟨h1, ha, h2, h3, h4, h5, h6⟩ => ⟨h1.calm hX ho, ha.calm hX ho, h2.calm hX ho, below_calm h3 (by omega) hX, h4.put (fun hD => by have := hDlt k hD; omega) _, by rw [size_putObj]; exact h5, h6⟩
    case hIx => exact fun cd j X k o o' hk hX ho ⟨h0, h1, h2, h3, h4, h5, h6, h7, h8, h9⟩ => ⟨h0, h1.calm hX ho, h2.calm hX ho, below_calm h3 (by omega) hX, h4.put (fun hD => by have := hDlt k hD; omega) _, by rw [size_putObj]; exact h5, h6, h7, h8, h9⟩
    case hIS => exact fun j X Y ⟨h1, ha, h2, h3, h4, h5, h6⟩ hs => ⟨h1.below hs (by omega), ha.below hs (by omega), h2.below hs (by omega), h3.trans (hs.mono (by omega)), ⟨h4.nodup, fun D hD => ⟨(h4.there D hD).1, (hs.block D (by have := hDlt D hD; omega)).trans (h4.there D hD).2⟩⟩, Nat.le_trans h5 hs.size, h6⟩
    case h0 => exact fun W1 hb1 hz1 => ⟨kk.below hb1 kk.lt, kb.below hb1 kb.lt, htk.below hb1 htk.lt, hb7k.trans (hb1.mono hb7k.size), ⟨hMk.nodup, fun D hD => ⟨(hMk.there D hD).1, (hb1.block D (hMk.lt D hD)).trans (hMk.there D hD).2⟩⟩, hb1.size, fun _ => .inl rfl⟩
    case hAx => exact fun j vs X0 a' X k o o' hk hX ho ⟨ha, hf, ⟨h1, ha1, h2, h3, h4, h5, h6⟩, hv⟩ => ⟨ha, ckq_calm Wk.heap.size qa qb Nn Aq (fun k hk h0 => by have := HQA.out k hk h0; omega) vs X0 X k o o' hk hX ho hf, ⟨h1.calm hX ho, ha1.calm hX ho, h2.calm hX ho, below_calm h3 (by omega) hX, h4.put (fun hD => by have := hDlt k hD; omega) _, by rw [size_putObj]; exact h5, h6⟩, hv.vs, own_calm hv.own hX ho⟩
    case assign =>
      rintro l' j vs X K hl hj hI ⟨val, rfl, hown⟩ hlt2 hK
      gi_wp2
      exact hK _ _ (KeepsFrom.refl _ _) ⟨⟨rfl, rfl, rfl, rfl, rfl, rfl, rfl, rfl, rfl, rfl⟩, ⟨Nat.le_refl _, fun _ _ _ => rfl⟩, hI, rfl, by rw [← HLF.out]; exact hown⟩
    case body =>
      rintro l' j vs X ⟨tm, df⟩ Wx hl hj hr ⟨⟨hsz, h6, h7, h8, h15, h16, h17, h18, h19, hdf⟩, hf, ⟨i1, ia, i2, i3, i4, i5, i6⟩, hvs, hown⟩
      have HZK := Lib.hid hzk
      have HBA := Lib.hid hBa
      clear hzk
      dsimp only at hsz h6 h7 h8 h15 h16 h17 h18 h19 hdf hvs hown ⊢
      obtain ⟨hSs, hs1, hjs⟩ := HRD.out j hj
      obtain ⟨d, hd⟩ : ∃ d, j * s = d := ⟨_, rfl⟩
      have hd2 : (j + 1) * s = d + s := by rw [Nat.add_mul, hd]; omega
      rw [hd] at hjs hown ia
      rw [Nat.min_eq_left (by omega)] at ia
      obtain ⟨mm, hmm⟩ : ∃ mm, min s (r - d) = mm := ⟨_, rfl⟩
      rw [hmm] at hown
      have hmm1 : 1 ≤ mm := by omega
      have hmm2 : d + mm ≤ r := by omega
      have hmin : (if (r : Int) - d < s then (r : Int) - d else (s : Int)) = (mm : Int) := by split <;> omega
      have HNX := Lib.hid (show min ((j + 1) * s) r = d + mm by rw [hd2]; omega)
      obtain ⟨g, cap, h20, hg, hgs, -, -, -⟩ := own_holds hown (by omega)
      rw [h20] at hvs hown
      subst hvs
      obtain ⟨z, hz⟩ : ∃ z : Nat → Value, (fun k => tm.getD k undef) = z := ⟨_, rfl⟩
      have e : tm = #[z 0, z 1, z 2, z 3, z 4, z 5, z 6, z 7, z 8, z 9, z 10, z 11, z 12, z 13, z 14, z 15, z 16, z 17, z 18, z 19, z 20, z 21, z 22, z 23, z 24, z 25, z 26, z 27, z 28, z 29, z 30, z 31, z 32, z 33, z 34, z 35, z 36, z 37, z 38, z 39, z 40, z 41, z 42, z 43, z 44, z 45, z 46, z 47, z 48, z 49, z 50, z 51, z 52, z 53, z 54, z 55, z 56, z 57, z 58, z 59, z 60, z 61, z 62, z 63, z 64, z 65, z 66, z 67, z 68, z 69, z 70, z 71, z 72, z 73, z 74, z 75, z 76, z 77, z 78, z 79, z 80, z 81, z 82, z 83, z 84, z 85, z 86, z 87, z 88, z 89, z 90, z 91, z 92, z 93, z 94, z 95, z 96, z 97, z 98, z 99, z 100, z 101, z 102, z 103, z 104, z 105, z 106, z 107, z 108, z 109, z 110, z 111, z 112, z 113, z 114, z 115, z 116, z 117, z 118, z 119, z 120, z 121, z 122, z 123, z 124, z 125, z 126, z 127, z 128, z 129, z 130, z 131, z 132, z 133, z 134, z 135, z 136, z 137, z 138, z 139, z 140, z 141, z 142, z 143, z 144, z 145, z 146, z 147, z 148, z 149, z 150, z 151, z 152, z 153, z 154, z 155, z 156, z 157, z 158, z 159, z 160] := (arr_lit tm 161 hsz).trans (by rw [hz]; rfl)
      have y6 := (congrFun hz 6).symm.trans h6
      have y7 := (congrFun hz 7).symm.trans h7
      have y8 := (congrFun hz 8).symm.trans h8
      have y15 := (congrFun hz 15).symm.trans h15
      have y16 := (congrFun hz 16).symm.trans h16
      have y17 := (congrFun hz 17).symm.trans h17
      have y18 := (congrFun hz 18).symm.trans h18
      have y19 := (congrFun hz 19).symm.trans h19
      have y20 := (congrFun hz 20).symm.trans h20
      rw [y6, y7, y8, y15, y16, y17, y18, y19, y20] at e
      clear y6 y7 y8 y15 y16 y17 y18 y19 y20 h6 h7 h8 h15 h16 h17 h18 h19 h20 hsz hz
      subst e hdf
      have hlen : ((Lf.drop d).take s).length = mm := by rw [List.length_take, List.length_drop, HLF.out]; exact hmm
      have hrx := R7.out.below i3
      obtain ⟨A', cc, hsl, hra, -⟩ := slice_in Wx.drew A8 r c8 d (d + mm) Lf (hrx.below (below_drew (Below.refl _ _))) (by omega) hmm2
      rw [show d + mm - d = mm by omega, List.drop_take, show d + mm - d = mm by omega] at hra
      rw [show d + mm - d = mm by omega] at hsl
      have htk : (Lf.drop d).take mm = (Lf.drop d).take s := by
        rcases Nat.lt_or_ge (r - d) s with h | h
        · rw [List.take_of_length_le (by rw [List.length_drop, HLF.out]; omega), List.take_of_length_le (by rw [List.length_drop, HLF.out]; omega)]
        · rw [show mm = s by omega]
      rw [htk] at hra
      have HSL := Lib.hid (show ∀ W' : World, (Instr.slice 22 (.slice A8 r c8) (some (.int .i64 (d : Int))) (some (.int .i64 ((d : Int) + mm))) none).run Try.prog W' = .ok (.slice A' mm cc) W' from fun W' => by have := hsl W'; rw [show ((d + mm : Nat) : Int) = (d : Int) + mm by omega] at this; exact this)
      have s3 := conv_bs (P := Try.prog) Wx.drew 22 9 5 Try.underlying22 Try.underlying5 Try.underlying9 (c := cap) (l := (Lf.drop d).take s) hlen (Holds.drew (holds_own hown))
      have s4 := conv_RB hra
      have BR0 := Lib.hid (ByteRow.of hown)
      generalize (⟨((Lf.drop d).take s).toArray⟩ : ByteArray) = St at s3 s4
      have ek := i1.cell 0
      have ea := ia.cell 0
      have es := (K7S.out.below i3 hlS).cell 0
      have en := (K7N.out.below i3 hlN).cell 0
      have el := (K7L.out.below i3 hlL).cell 0
      simp only [List.getElem?_toArray, List.getElem?_cons_zero] at ek ea es en el
      rw [hSs] at es
      have HSR := Lib.hid (show SReg Bk B16 w.heap.size Ba B15 g j Nn s d mm cap r c8 cc A8 A' St Wx.drew from ⟨ek, en, es, ea, el, s3, s4⟩)
      have HMIN := Lib.hid hmin
      have HH1 := Lib.hid (show W7.heap.size ≤ Bk ∧ Bt < Bk ∧ (∀ D ∈ Ds, D < Bk) ∧ Wk.heap.size + 2 ≤ g ∧ t < 2 ∧ w.heap.size + 1 < W7.heap.size ∧ j < Nn ∧ j ≤ 1048576 from ⟨h7k, hBt, hDlt, hg, ht2, hlM, hj, by have := HNr.out; omega⟩)
      have HWR0 := Lib.hid (show IntKind.i64.wrap ((r : Int) - d) = (r : Int) - d by rw [IntKind.wrap_i64]; omega)
      have HWR := Lib.hid (show IntKind.i64.wrap ((d : Int) + mm) = (d : Int) + mm by rw [IntKind.wrap_i64]; omega)
      have q1 : decide (Nn ≤ j) = false := by simp; omega
      have hj0 : (0 : Int) ≤ j := by omega
      have hjn := HNr.out
      have HJ9 := Lib.hid (show (0 : Int) ≤ j ∧ (j : Int) ≤ 1048576 ∧ (j : Int) < Nn ∧ (0 : Int) ≤ d ∧ (d : Int) + mm ≤ r ∧ (0 : Int) ≤ mm ∧ (r : Int) ≤ 1048576 ∧ (0 : Int) ≤ r by omega)
      have I1 := Lib.hid i1
      have IA := Lib.hid ia
      have I2 := Lib.hid i2
      have I3 := Lib.hid i3
      have I4 := Lib.hid i4
      have I5 := Lib.hid i5
      have I6 := Lib.hid i6
      have HF := Lib.hid hf
      have HMM := Lib.hid (And.intro hmm1 hmm2)
      have HSS := Lib.hid hSs
      clear i1 ia i2 i3 i4 i5 i6 hf hown hmm s3 s4 ek ea es en el hsl hra hrx htk hlen hmin hd hd2 hjs hSs hs1 hmm1 hmm2 hjn hj0 hr0 hrm hlS hlM hlL hlN hlq hlr hDlt hBt h7k hlt ht2 ht hbt hg hgs hj
      gi_wp2_with fail
      refine region_round (S := (SReg Bk B16 w.heap.size Ba B15 g j Nn s d mm cap r c8 cc A8 A' St)) (c := 99) (by kernel_rfl) (by kernel_rfl) ?_
      have hHeld := HSR.out
      have h01 := (fun (W : World) (h : (SReg Bk B16 w.heap.size Ba B15 g j Nn s d mm cap r c8 cc A8 A' St) W) => h)
      refine wpG_takeB (i := 0) (oi := ⟨some 88, _, _, _, _, _⟩) (v := .int .i64 (j : Int)) rfl (by kernel_rfl) (by kernel_rfl) (by kernel_rfl) (by decide) (fun _ _ _ h => by obtain ⟨h, -⟩ := h; cases h) h01 rfl hHeld (Or.inl ⟨by rfl, ?_⟩) ?_
      · (intro W9 hSw; obtain ⟨v1, v2, v3, v4, v5, v6, v7⟩ := hSw; have hsl := HSL.out; go_simp; (try (first | with_reducible rfl | rfl | (rw [HWR.out]; done) | (rw [HWR0.out]; done) | (rw [HMIN.out]; done) | (simp; done))))
      try simp only [Act.put, List.setIfInBounds_toArray, List.set_cons_zero, List.set_cons_succ]
      refine wpG_takeB (i := 1) (oi := ⟨some 89, _, _, _, _, _⟩) (v := .int .i64 (Nn : Int)) rfl (by kernel_rfl) (by kernel_rfl) (by kernel_rfl) (by decide) (fun _ _ _ h => by obtain ⟨h, -⟩ := h; cases h) h01 rfl hHeld (Or.inl ⟨by rfl, ?_⟩) ?_
      · (intro W9 hSw; obtain ⟨v1, v2, v3, v4, v5, v6, v7⟩ := hSw; have hsl := HSL.out; go_simp; (try (first | with_reducible rfl | rfl | (rw [HWR.out]; done) | (rw [HWR0.out]; done) | (rw [HMIN.out]; done) | (simp; done))))
      try simp only [Act.put, List.setIfInBounds_toArray, List.set_cons_zero, List.set_cons_succ]
      refine wpG_takeB (i := 2) (oi := ⟨some 90, _, _, _, _, _⟩) (v := .bool false) rfl (by kernel_rfl) (by kernel_rfl) (by kernel_rfl) (by decide) (fun _ _ _ h => by obtain ⟨h, -⟩ := h; cases h) h01 rfl hHeld (Or.inl ⟨by rfl, ?_⟩) ?_
      · (intro W9 hSw; obtain ⟨v1, v2, v3, v4, v5, v6, v7⟩ := hSw; have hsl := HSL.out; go_simp; (try (first | with_reducible rfl | rfl | (rw [HWR.out]; done) | (rw [HWR0.out]; done) | (rw [HMIN.out]; done) | (simp; done))))
      try simp only [Act.put, List.setIfInBounds_toArray, List.set_cons_zero, List.set_cons_succ]
      refine wpG_takeB (i := 3) (oi := ⟨some 91, _, _, _, _, _⟩) (v := .bool false) rfl (by kernel_rfl) (by kernel_rfl) (by kernel_rfl) (by decide) (fun _ _ _ h => by obtain ⟨h, -⟩ := h; cases h) h01 rfl hHeld (Or.inl ⟨by rfl, ?_⟩) ?_
      · (intro W9 hSw; obtain ⟨v1, v2, v3, v4, v5, v6, v7⟩ := hSw; have hsl := HSL.out; go_simp; (try (first | with_reducible rfl | rfl | (rw [HWR.out]; done) | (rw [HWR0.out]; done) | (rw [HMIN.out]; done) | (simp; done))))
      try simp only [Act.put, List.setIfInBounds_toArray, List.set_cons_zero, List.set_cons_succ]
      refine wpG_takeB (i := 4) (oi := ⟨some 92, _, _, _, _, _⟩) (v := .slice (some ⟨g, 0, none⟩) mm cap) rfl (by kernel_rfl) (by kernel_rfl) (by kernel_rfl) (by decide) (fun _ _ _ h => by obtain ⟨h, -⟩ := h; cases h) h01 rfl hHeld (Or.inl ⟨by rfl, ?_⟩) ?_
      · (intro W9 hSw; obtain ⟨v1, v2, v3, v4, v5, v6, v7⟩ := hSw; have hsl := HSL.out; go_simp; (try (first | with_reducible rfl | rfl | (rw [HWR.out]; done) | (rw [HWR0.out]; done) | (rw [HMIN.out]; done) | (simp; done))))
      try simp only [Act.put, List.setIfInBounds_toArray, List.set_cons_zero, List.set_cons_succ]
      refine wpG_takeB (i := 5) (oi := ⟨some 93, _, _, _, _, _⟩) (v := .int .i64 (mm : Int)) rfl (by kernel_rfl) (by kernel_rfl) (by kernel_rfl) (by decide) (fun _ _ _ h => by obtain ⟨h, -⟩ := h; cases h) h01 rfl hHeld (Or.inl ⟨by rfl, ?_⟩) ?_
      · (intro W9 hSw; obtain ⟨v1, v2, v3, v4, v5, v6, v7⟩ := hSw; have hsl := HSL.out; go_simp; (try (first | with_reducible rfl | rfl | (rw [HWR.out]; done) | (rw [HWR0.out]; done) | (rw [HMIN.out]; done) | (simp; done))))
      try simp only [Act.put, List.setIfInBounds_toArray, List.set_cons_zero, List.set_cons_succ]
      refine wpG_takeB (i := 6) (oi := ⟨some 94, _, _, _, _, _⟩) (v := .int .i64 (s : Int)) rfl (by kernel_rfl) (by kernel_rfl) (by kernel_rfl) (by decide) (fun _ _ _ h => by obtain ⟨h, -⟩ := h; cases h) h01 rfl hHeld (Or.inl ⟨by rfl, ?_⟩) ?_
      · (intro W9 hSw; obtain ⟨v1, v2, v3, v4, v5, v6, v7⟩ := hSw; have hsl := HSL.out; go_simp; (try (first | with_reducible rfl | rfl | (rw [HWR.out]; done) | (rw [HWR0.out]; done) | (rw [HMIN.out]; done) | (simp; done))))
      try simp only [Act.put, List.setIfInBounds_toArray, List.set_cons_zero, List.set_cons_succ]
      refine wpG_takeB (i := 7) (oi := ⟨some 95, _, _, _, _, _⟩) (v := .slice A8 r c8) rfl (by kernel_rfl) (by kernel_rfl) (by kernel_rfl) (by decide) (fun _ _ _ h => by obtain ⟨h, -⟩ := h; cases h) h01 rfl hHeld (Or.inl ⟨by rfl, ?_⟩) ?_
      · (intro W9 hSw; obtain ⟨v1, v2, v3, v4, v5, v6, v7⟩ := hSw; have hsl := HSL.out; go_simp; (try (first | with_reducible rfl | rfl | (rw [HWR.out]; done) | (rw [HWR0.out]; done) | (rw [HMIN.out]; done) | (simp; done))))
      try simp only [Act.put, List.setIfInBounds_toArray, List.set_cons_zero, List.set_cons_succ]
      refine wpG_takeB (i := 8) (oi := ⟨some 96, _, _, _, _, _⟩) (v := .int .i64 (r : Int)) rfl (by kernel_rfl) (by kernel_rfl) (by kernel_rfl) (by decide) (fun _ _ _ h => by obtain ⟨h, -⟩ := h; cases h) h01 rfl hHeld (Or.inl ⟨by rfl, ?_⟩) ?_
      · (intro W9 hSw; obtain ⟨v1, v2, v3, v4, v5, v6, v7⟩ := hSw; have hsl := HSL.out; go_simp; (try (first | with_reducible rfl | rfl | (rw [HWR.out]; done) | (rw [HWR0.out]; done) | (rw [HMIN.out]; done) | (simp; done))))
      try simp only [Act.put, List.setIfInBounds_toArray, List.set_cons_zero, List.set_cons_succ]
      refine wpG_takeB (i := 9) (oi := ⟨some 97, _, _, _, _, _⟩) (v := .int .i64 (d : Int)) rfl (by kernel_rfl) (by kernel_rfl) (by kernel_rfl) (by decide) (fun _ _ _ h => by obtain ⟨h, -⟩ := h; cases h) h01 rfl hHeld (Or.inl ⟨by rfl, ?_⟩) ?_
      · (intro W9 hSw; obtain ⟨v1, v2, v3, v4, v5, v6, v7⟩ := hSw; have hsl := HSL.out; go_simp; (try (first | with_reducible rfl | rfl | (rw [HWR.out]; done) | (rw [HWR0.out]; done) | (rw [HMIN.out]; done) | (simp; done))))
      try simp only [Act.put, List.setIfInBounds_toArray, List.set_cons_zero, List.set_cons_succ]
      refine wpG_takeB (i := 10) (oi := ⟨some 98, _, _, _, _, _⟩) (v := .int .i64 ((r : Int) - d)) rfl (by kernel_rfl) (by kernel_rfl) (by kernel_rfl) (by decide) (fun _ _ _ h => by obtain ⟨h, -⟩ := h; cases h) h01 rfl hHeld (Or.inl ⟨by rfl, ?_⟩) ?_
      · (intro W9 hSw; obtain ⟨v1, v2, v3, v4, v5, v6, v7⟩ := hSw; have hsl := HSL.out; go_simp; (try (first | with_reducible rfl | rfl | (rw [HWR.out]; done) | (rw [HWR0.out]; done) | (rw [HMIN.out]; done) | (simp; done))))
      try simp only [Act.put, List.setIfInBounds_toArray, List.set_cons_zero, List.set_cons_succ]
      refine wpG_takeB (i := 11) (oi := ⟨some 99, _, _, _, _, _⟩) (v := .int .i64 (mm : Int)) rfl (by kernel_rfl) (by kernel_rfl) (by kernel_rfl) (by decide) (fun _ _ _ h => by obtain ⟨h, -⟩ := h; cases h) h01 rfl hHeld (Or.inl ⟨by rfl, ?_⟩) ?_
      · (intro W9 hSw; obtain ⟨v1, v2, v3, v4, v5, v6, v7⟩ := hSw; have hsl := HSL.out; go_simp; (try (first | with_reducible rfl | rfl | (rw [HWR.out]; done) | (rw [HWR0.out]; done) | (rw [HMIN.out]; done) | (simp; done))))
      try simp only [Act.put, List.setIfInBounds_toArray, List.set_cons_zero, List.set_cons_succ]
      refine wpG_takeB (i := 12) (oi := ⟨some 100, _, _, _, _, _⟩) (v := .bool false) rfl (by kernel_rfl) (by kernel_rfl) (by kernel_rfl) (by decide) (fun _ _ _ h => by obtain ⟨h, -⟩ := h; cases h) h01 rfl hHeld (Or.inl ⟨by rfl, ?_⟩) ?_
      · (intro W9 hSw; obtain ⟨v1, v2, v3, v4, v5, v6, v7⟩ := hSw; have hsl := HSL.out; go_simp; (try (first | with_reducible rfl | rfl | (rw [HWR.out]; done) | (rw [HWR0.out]; done) | (rw [HMIN.out]; done) | (simp; done))))
      try simp only [Act.put, List.setIfInBounds_toArray, List.set_cons_zero, List.set_cons_succ]
      refine wpG_takeB (i := 13) (oi := ⟨some 101, _, _, _, _, _⟩) (v := .bool false) rfl (by kernel_rfl) (by kernel_rfl) (by kernel_rfl) (by decide) (fun _ _ _ h => by obtain ⟨h, -⟩ := h; cases h) h01 rfl hHeld (Or.inl ⟨by rfl, ?_⟩) ?_
      · (intro W9 hSw; obtain ⟨v1, v2, v3, v4, v5, v6, v7⟩ := hSw; have hsl := HSL.out; go_simp; (try (first | with_reducible rfl | rfl | (rw [HWR.out]; done) | (rw [HWR0.out]; done) | (rw [HMIN.out]; done) | (simp; done))))
      try simp only [Act.put, List.setIfInBounds_toArray, List.set_cons_zero, List.set_cons_succ]
      refine wpG_takeB (i := 14) (oi := ⟨some 102, _, _, _, _, _⟩) (v := .bool false) rfl (by kernel_rfl) (by kernel_rfl) (by kernel_rfl) (by decide) (fun _ _ _ h => by obtain ⟨h, -⟩ := h; cases h) h01 rfl hHeld (Or.inl ⟨by rfl, ?_⟩) ?_
      · (intro W9 hSw; obtain ⟨v1, v2, v3, v4, v5, v6, v7⟩ := hSw; have hsl := HSL.out; go_simp; (try (first | with_reducible rfl | rfl | (rw [HWR.out]; done) | (rw [HWR0.out]; done) | (rw [HMIN.out]; done) | (simp; done))))
      try simp only [Act.put, List.setIfInBounds_toArray, List.set_cons_zero, List.set_cons_succ]
      refine wpG_takeB (i := 15) (oi := ⟨some 103, _, _, _, _, _⟩) (v := .slice (some ⟨g, 0, none⟩) mm cap) rfl (by kernel_rfl) (by kernel_rfl) (by kernel_rfl) (by decide) (fun _ _ _ h => by obtain ⟨h, -⟩ := h; cases h) h01 rfl hHeld (Or.inl ⟨by rfl, ?_⟩) ?_
      · (intro W9 hSw; obtain ⟨v1, v2, v3, v4, v5, v6, v7⟩ := hSw; have hsl := HSL.out; go_simp; (try (first | with_reducible rfl | rfl | (rw [HWR.out]; done) | (rw [HWR0.out]; done) | (rw [HMIN.out]; done) | (simp; done))))
      try simp only [Act.put, List.setIfInBounds_toArray, List.set_cons_zero, List.set_cons_succ]
      refine wpG_takeB (i := 16) (oi := ⟨some 104, _, _, _, _, _⟩) (v := .string St) rfl (by kernel_rfl) (by kernel_rfl) (by kernel_rfl) (by decide) (fun _ _ _ h => by obtain ⟨h, -⟩ := h; cases h) h01 rfl hHeld (Or.inl ⟨by rfl, ?_⟩) ?_
      · (intro W9 hSw; obtain ⟨v1, v2, v3, v4, v5, v6, v7⟩ := hSw; have hsl := HSL.out; go_simp; (try (first | with_reducible rfl | rfl | (rw [HWR.out]; done) | (rw [HWR0.out]; done) | (rw [HMIN.out]; done) | (simp; done))))
      try simp only [Act.put, List.setIfInBounds_toArray, List.set_cons_zero, List.set_cons_succ]
      refine wpG_takeB (i := 17) (oi := ⟨some 105, _, _, _, _, _⟩) (v := .slice A8 r c8) rfl (by kernel_rfl) (by kernel_rfl) (by kernel_rfl) (by decide) (fun _ _ _ h => by obtain ⟨h, -⟩ := h; cases h) h01 rfl hHeld (Or.inl ⟨by rfl, ?_⟩) ?_
      · (intro W9 hSw; obtain ⟨v1, v2, v3, v4, v5, v6, v7⟩ := hSw; have hsl := HSL.out; go_simp; (try (first | with_reducible rfl | rfl | (rw [HWR.out]; done) | (rw [HWR0.out]; done) | (rw [HMIN.out]; done) | (simp; done))))
      try simp only [Act.put, List.setIfInBounds_toArray, List.set_cons_zero, List.set_cons_succ]
      refine wpG_takeB (i := 18) (oi := ⟨some 106, _, _, _, _, _⟩) (v := .int .i64 (d : Int)) rfl (by kernel_rfl) (by kernel_rfl) (by kernel_rfl) (by decide) (fun _ _ _ h => by obtain ⟨h, -⟩ := h; cases h) h01 rfl hHeld (Or.inl ⟨by rfl, ?_⟩) ?_
      · (intro W9 hSw; obtain ⟨v1, v2, v3, v4, v5, v6, v7⟩ := hSw; have hsl := HSL.out; go_simp; (try (first | with_reducible rfl | rfl | (rw [HWR.out]; done) | (rw [HWR0.out]; done) | (rw [HMIN.out]; done) | (simp; done))))
      try simp only [Act.put, List.setIfInBounds_toArray, List.set_cons_zero, List.set_cons_succ]
      refine wpG_takeB (i := 19) (oi := ⟨some 107, _, _, _, _, _⟩) (v := .int .i64 (d : Int)) rfl (by kernel_rfl) (by kernel_rfl) (by kernel_rfl) (by decide) (fun _ _ _ h => by obtain ⟨h, -⟩ := h; cases h) h01 rfl hHeld (Or.inl ⟨by rfl, ?_⟩) ?_
      · (intro W9 hSw; obtain ⟨v1, v2, v3, v4, v5, v6, v7⟩ := hSw; have hsl := HSL.out; go_simp; (try (first | with_reducible rfl | rfl | (rw [HWR.out]; done) | (rw [HWR0.out]; done) | (rw [HMIN.out]; done) | (simp; done))))
      try simp only [Act.put, List.setIfInBounds_toArray, List.set_cons_zero, List.set_cons_succ]
      refine wpG_takeB (i := 20) (oi := ⟨some 108, _, _, _, _, _⟩) (v := .slice (some ⟨g, 0, none⟩) mm cap) rfl (by kernel_rfl) (by kernel_rfl) (by kernel_rfl) (by decide) (fun _ _ _ h => by obtain ⟨h, -⟩ := h; cases h) h01 rfl hHeld (Or.inl ⟨by rfl, ?_⟩) ?_
      · (intro W9 hSw; obtain ⟨v1, v2, v3, v4, v5, v6, v7⟩ := hSw; have hsl := HSL.out; go_simp; (try (first | with_reducible rfl | rfl | (rw [HWR.out]; done) | (rw [HWR0.out]; done) | (rw [HMIN.out]; done) | (simp; done))))
      try simp only [Act.put, List.setIfInBounds_toArray, List.set_cons_zero, List.set_cons_succ]
      refine wpG_takeB (i := 21) (oi := ⟨some 109, _, _, _, _, _⟩) (v := .int .i64 (mm : Int)) rfl (by kernel_rfl) (by kernel_rfl) (by kernel_rfl) (by decide) (fun _ _ _ h => by obtain ⟨h, -⟩ := h; cases h) h01 rfl hHeld (Or.inl ⟨by rfl, ?_⟩) ?_
      · (intro W9 hSw; obtain ⟨v1, v2, v3, v4, v5, v6, v7⟩ := hSw; have hsl := HSL.out; go_simp; (try (first | with_reducible rfl | rfl | (rw [HWR.out]; done) | (rw [HWR0.out]; done) | (rw [HMIN.out]; done) | (simp; done))))
      try simp only [Act.put, List.setIfInBounds_toArray, List.set_cons_zero, List.set_cons_succ]
      refine wpG_takeB (i := 22) (oi := ⟨some 110, _, _, _, _, _⟩) (v := .int .i64 ((d : Int) + mm)) rfl (by kernel_rfl) (by kernel_rfl) (by kernel_rfl) (by decide) (fun _ _ _ h => by obtain ⟨h, -⟩ := h; cases h) h01 rfl hHeld (Or.inl ⟨by rfl, ?_⟩) ?_
      · (intro W9 hSw; obtain ⟨v1, v2, v3, v4, v5, v6, v7⟩ := hSw; have hsl := HSL.out; go_simp; (try (first | with_reducible rfl | rfl | (rw [HWR.out]; done) | (rw [HWR0.out]; done) | (rw [HMIN.out]; done) | (simp; done))))
      try simp only [Act.put, List.setIfInBounds_toArray, List.set_cons_zero, List.set_cons_succ]
      refine wpG_takeB (i := 23) (oi := ⟨some 111, _, _, _, _, _⟩) (v := .slice A' mm cc) rfl (by kernel_rfl) (by kernel_rfl) (by kernel_rfl) (by decide) (fun _ _ _ h => by obtain ⟨h, -⟩ := h; cases h) h01 rfl hHeld (Or.inl ⟨by rfl, ?_⟩) ?_
      · (intro W9 hSw; obtain ⟨v1, v2, v3, v4, v5, v6, v7⟩ := hSw; have hsl := HSL.out; go_simp; (try (first | with_reducible rfl | rfl | (rw [HWR.out]; done) | (rw [HWR0.out]; done) | (rw [HMIN.out]; done) | (simp; done))))
      try simp only [Act.put, List.setIfInBounds_toArray, List.set_cons_zero, List.set_cons_succ]
      refine wpG_takeB (i := 24) (oi := ⟨some 112, _, _, _, _, _⟩) (v := .string St) rfl (by kernel_rfl) (by kernel_rfl) (by kernel_rfl) (by decide) (fun _ _ _ h => by obtain ⟨h, -⟩ := h; cases h) h01 rfl hHeld (Or.inl ⟨by rfl, ?_⟩) ?_
      · (intro W9 hSw; obtain ⟨v1, v2, v3, v4, v5, v6, v7⟩ := hSw; have hsl := HSL.out; go_simp; (try (first | with_reducible rfl | rfl | (rw [HWR.out]; done) | (rw [HWR0.out]; done) | (rw [HMIN.out]; done) | (simp; done))))
      try simp only [Act.put, List.setIfInBounds_toArray, List.set_cons_zero, List.set_cons_succ]
      refine wpG_takeB (i := 25) (oi := ⟨some 113, _, _, _, _, _⟩) (v := .bool false) rfl (by kernel_rfl) (by kernel_rfl) (by kernel_rfl) (by decide) (fun _ _ _ h => by obtain ⟨h, -⟩ := h; cases h) h01 rfl hHeld (Or.inl ⟨by rfl, ?_⟩) ?_
      · (intro W9 hSw; obtain ⟨v1, v2, v3, v4, v5, v6, v7⟩ := hSw; have hsl := HSL.out; go_simp; (try (first | with_reducible rfl | rfl | (rw [HWR.out]; done) | (rw [HWR0.out]; done) | (rw [HMIN.out]; done) | (simp; done))))
      try simp only [Act.put, List.setIfInBounds_toArray, List.set_cons_zero, List.set_cons_succ]
      refine wpG_takeB (i := 26) (oi := ⟨some 114, _, _, _, _, _⟩) (v := .bool false) rfl (by kernel_rfl) (by kernel_rfl) (by kernel_rfl) (by decide) (fun _ _ _ h => by obtain ⟨h, -⟩ := h; cases h) h01 rfl hHeld (Or.inl ⟨by rfl, ?_⟩) ?_
      · (intro W9 hSw; obtain ⟨v1, v2, v3, v4, v5, v6, v7⟩ := hSw; have hsl := HSL.out; go_simp; (try (first | with_reducible rfl | rfl | (rw [HWR.out]; done) | (rw [HWR0.out]; done) | (rw [HMIN.out]; done) | (simp; done))))
      try simp only [Act.put, List.setIfInBounds_toArray, List.set_cons_zero, List.set_cons_succ]
      refine wpG_done (by kernel_rfl) ?_ _
      refine ⟨rfl, ?_⟩
      clear q1 hHeld h01
      obtain ⟨Wd, hWd⟩ : ∃ Wd, Wx.drew = Wd := ⟨_, rfl⟩
      have BR9 := Lib.hid (show ByteRow Wd (Wk.heap.size + 2) (.slice (some ⟨g, 0, none⟩) mm cap) mm from hWd ▸ BR0.out)
      have IAd := Lib.hid (show Blk Wd Ba 3 #[.int .i64 (d : Int)] from hWd ▸ IA.out.drew)
      have ea := IAd.out.cell 0
      have fa := IAd.out.frozen 0
      simp only [List.getElem?_toArray, List.getElem?_cons_zero] at ea
      have HDW := Lib.hid (show ∀ k : Nat, Wd.heap[k]? = Wx.heap[k]? from fun k => by rw [← hWd]; rfl)
      have HDB := Lib.hid (show ∀ B, Below B Wx Wd from fun B => hWd ▸ below_drew (Below.refl _ _))
      rw [hWd]
      clear hWd
      obtain ⟨j0, j1, j2, d0, d1, m0, r1, r0⟩ := HJ9.out
      have hBaBk := HBA.out
      have hz2 := HZK.out
      obtain ⟨k1, k2, k3, k4, k5, k6, k7, k8⟩ := HH1.out
      gi_wp2_with fail
      obtain ⟨We, hWe⟩ : ∃ We, Wd.setCell ⟨Ba, 0, none⟩ (.int .i64 ((d : Int) + mm)) = We := ⟨_, rfl⟩
      have BRe := Lib.hid (show ByteRow We (Wk.heap.size + 2) (.slice (some ⟨g, 0, none⟩) mm cap) mm from by
        obtain ⟨L9, hl9, ho9⟩ := BR9.out
        exact ⟨L9, hl9, hWe ▸ own_setCell ho9 (by simp [Value.ownBlock]; omega) _⟩)
      have HEk := Lib.hid (show ∀ k : Nat, k ≠ Ba → We.heap[k]? = Wx.heap[k]? from fun k hk => by rw [← hWe]; exact (Below.heap_setCell _ _ _ _ (by simpa using hk)).trans (HDW.out k))
      have HEa := Lib.hid (show Blk We Ba 3 #[.int .i64 ((d + mm : Nat) : Int)] from by have := IAd.out.set_ 0 (.int .i64 ((d : Int) + mm)); rw [hWe] at this; simpa using this)
      have HEb := Lib.hid (show ∀ B, B ≤ Ba → Below B Wx We from fun B hB => hWe ▸ Below.setCell (HDB.out B) hB _)
      have HEf := Lib.hid (show KeepsFrom Wk.heap.size Wx We from hWe ▸ (show KeepsFrom Wk.heap.size Wx Wd from ⟨(HDB.out 0).size, fun k o _ h _ => (HDW.out k).trans h⟩).trans ((KeepsOthers.setCell _ _ _).from _))
      rw [hWe]
      clear hWe ea fa
      gi_wp2_with fail
      gi_loopw [21] (fun x wr => ∃ i : Nat, i ≤ mm ∧ x = .int .i64 i ∧ ByteRow wr (Wk.heap.size + 2) (.slice (some ⟨g, 0, none⟩) mm cap) mm ∧ VSt Wk.heap.size g We wr) (fun x _ => mm - (intOf x).toNat)
      case atStart => exact ⟨0, by omega, rfl, BRe.out, VSt.refl _ _ _⟩
      case round =>
        obtain ⟨i, hi, rfl, hbr, hst⟩ := hrel
        by_cases hlt3 : (i : Int) < mm
        · obtain ⟨g', cap', x', e', hcx, hx0, hx1, hfz⟩ := hbr.cell (k := i) (by omega)
          cases e'
          have HBR := Lib.hid hbr
          have HST := Lib.hid hst
          clear hbr hst
          gi_wp2_with fail
          exact ⟨⟨i + 1, by omega, by simp, HBR.out.store (by omega) (by omega), HST.out.set _⟩, by simp [intOf]; omega⟩
        · obtain rfl : i = mm := by omega
          have hkg : Bk ≠ g := by omega
          have htg : Bt ≠ g := by omega
          have hag : Ba ≠ g := by omega
          have r1 := hst.blk (show Blk We Bk 3 #[.int .i64 (j : Int)] from (HEk.out Bk (by omega)).trans I1.out) hkg
          have r2 := hst.blk (show Blk We Bt 3 #[.int .i64 (t : Int)] from (HEk.out Bt (by omega)).trans I2.out) htg
          have ra := hst.blk HEa.out hag
          have r3 := hst.blk (show Blk We (w.heap.size + 1) 3 #[.int .i64 many] from (HEk.out _ (by omega)).trans (K7M.out.below I3.out (by omega))) (by omega)
          have ek := r1.cell 0
          have fk := r1.frozen 0
          have et := r2.cell 0
          have em := r3.cell 0
          simp only [List.getElem?_toArray, List.getElem?_cons_zero] at ek et em
          have hbw := I3.out.trans ((HEb.out W7.heap.size (by omega)).trans (hst.below W7.heap.size (by omega)))
          have HI := Lib.hid (show Blk (wr.setCell ⟨Bk, 0, none⟩ (.int .i64 ((j : Int) + 1))) Bk 3 #[.int .i64 ((j + 1 : Nat) : Int)] ∧ Blk (wr.setCell ⟨Bk, 0, none⟩ (.int .i64 ((j : Int) + 1))) Ba 3 #[.int .i64 ((min ((j + 1) * s) r : Nat) : Int)] ∧ Blk (wr.setCell ⟨Bk, 0, none⟩ (.int .i64 ((j : Int) + 1))) Bt 3 #[.int .i64 t] ∧ Below W7.heap.size W7 (wr.setCell ⟨Bk, 0, none⟩ (.int .i64 ((j : Int) + 1))) ∧ Marks W7.heap.size Ds (wr.setCell ⟨Bk, 0, none⟩ (.int .i64 ((j : Int) + 1))) ∧ Wk.heap.size ≤ (wr.setCell ⟨Bk, 0, none⟩ (.int .i64 ((j : Int) + 1))).heap.size from
            ⟨by have := r1.set_ 0 (.int .i64 ((j : Int) + 1)); simpa using this, by rw [HNX.out]; exact ra.far (by simp; omega) _, r2.far (by simp; omega) _, Below.setCell hbw (by simp; omega) _, ⟨I4.out.nodup, fun D hD => ⟨(I4.out.there D hD).1, (Below.heap_setCell _ _ _ _ (by have := k3 D hD; simp; omega)).trans ((hst.same D (by have := k3 D hD; omega)).trans ((HEk.out D (by have := k3 D hD; omega)).trans (I4.out.there D hD).2))⟩⟩, by rw [World.size_setCell]; exact Nat.le_trans I5.out (Nat.le_trans HEf.out.size hst.keeps.size)⟩)
          have HF2 := Lib.hid (show CKq qa qb Aq Nn #[.slice (some ⟨g, 0, none⟩) i cap] X (wr.setCell ⟨Bk, 0, none⟩ (.int .i64 ((j : Int) + 1))) from
            ⟨by rw [World.size_setCell]; exact Nat.le_trans HF.out.1 (Nat.le_trans HEf.out.size hst.keeps.size), fun k hk h0 => by
              have hlt9 := HQA.out k hk h0
              exact (Below.heap_setCell _ _ _ _ (by simp; omega)).trans ((hst.same _ (by omega)).trans ((HEk.out k (by omega)).trans (HF.out.2 k hk h0)))⟩)
          have HKF := Lib.hid (show KeepsFrom Wk.heap.size Wx (wr.setCell ⟨Bk, 0, none⟩ (.int .i64 ((j : Int) + 1))) from (HEf.out.trans hst.keeps).trans ((KeepsOthers.setCell _ _ _).from _))
          clear r1 r2 r3 ra hbw hst hbr hz2 hBaBk
          obtain ⟨i1, ia, i2, i3, i4, i5⟩ := HI.out
          replace i1 := Lib.hid i1
          replace ia := Lib.hid ia
          replace i2 := Lib.hid i2
          replace i3 := Lib.hid i3
          replace i4 := Lib.hid i4
          replace i5 := Lib.hid i5
          by_cases h0 : t = 0
          · have q2 : ((t : Int) == 0) = true := by simp; omega
            have H0 := Lib.hid h0
            clear h0
            by_cases hmn : many ≤ (j : Int) + 1
            · have q3 : decide (many ≤ (j : Int) + 1) = true := by simpa using hmn
              gi_wp2_with fail
              exact ⟨HKF.out, rfl, i1.out, i2.out, i3.out, i4.out, i5.out, H0.out, by omega, by have := I6.out H0.out; omega, by omega⟩
            · have q3 : decide (many ≤ (j : Int) + 1) = false := by simpa using hmn
              gi_wp2_with fail
              exact ⟨HKF.out, HF2.out, i1.out, ia.out, i2.out, i3.out, i4.out, i5.out, fun _ => .inr (by omega)⟩
          · have q2 : ((t : Int) == 0) = false := by simp; omega
            gi_wp2_with fail
            exact ⟨HKF.out, HF2.out, i1.out, ia.out, i2.out, i3.out, i4.out, i5.out, fun h => absurd h h0⟩
    case done =>
      rintro D X hD h hK
      simp only [Exit.inBlock, Exit.then]
      go_at_K
      have hDs : D ∉ Ds := fun hD2 => by have := hDlt D hD2; omega
      have ek := h.k.cell 0
      have et := h.bt.cell 0
      have en := (K7N.out.below h.below hlN).cell 0
      have em := (K7M.out.below h.below hlM).cell 0
      simp only [List.getElem?_toArray, List.getElem?_cons_zero] at ek et en em
      have HH := Lib.hid h
      have HK := Lib.hid hK
      have HD := Lib.hid hD
      have HZK := Lib.hid hzk
      clear h hK hzk hD
      by_cases h0 : t = 0
      · have q2 : ((t : Int) == 0) = true := by simp; omega
        have hc := HH.out.c h0
        have q1 : ((t : Int) == 1) = false := by simp; omega
        have H0 := Lib.hid h0
        clear h0
        by_cases hmn : many ≤ 1
        · have q4 : decide (1 < many) = false := by simpa using hmn
          have p4 : ¬ 1 < many := by omega
          have p5 : ¬ (1 : Int) < (Nn : Int) := by omega
          clear hc hmn q4
          go_wp2_with fail
          have kn : Blk (X.alloc (.cells #[.int .i64 ((t : Int) + 1)] 3)) X.heap.size 3 #[.int .i64 ((t + 1 : Nat) : Int)] := by have := Blk.new X 3 #[.int .i64 ((t : Int) + 1)]; simpa using this
          exact ⟨⟨t + 1, X.heap.size, D :: Ds, rfl, rfl, rfl, rfl, rfl, rfl, rfl, rfl, rfl, by omega, kn, HH.out.below.size, HH.out.below.alloc HH.out.below.size _, List.nodup_cons.2 ⟨hDs, HH.out.marks.nodup⟩, fun E hE => by
            rcases List.mem_cons.1 hE with rfl | hE
            · exact ⟨by have := HZK.out; have := HD.out; omega, (Below.heap_alloc _ _ _ (Array.getElem?_eq_some_iff.1 HK.out).1).trans HK.out⟩
            · exact ⟨(HH.out.marks.there E hE).1, (Below.heap_alloc _ _ _ (HH.out.marks.lt E hE)).trans (HH.out.marks.there E hE).2⟩⟩, by
            show 2 - turnOf (.pointer (some ⟨X.heap.size, 0, none⟩)) _ < 2 - turnOf (.pointer (some ⟨Bt, 0, none⟩)) W
            rw [turnOf_blk kn, turnOf_blk HT.out]
            omega⟩
        · have q4 : decide (1 < many) = true := by simp; omega
          have p4 : 1 < many := by omega
          have p5 : ¬ many < (Nn : Int) := by omega
          clear hc hmn q4
          go_wp2_with fail
          have kn : Blk (X.alloc (.cells #[.int .i64 ((t : Int) + 1)] 3)) X.heap.size 3 #[.int .i64 ((t + 1 : Nat) : Int)] := by have := Blk.new X 3 #[.int .i64 ((t : Int) + 1)]; simpa using this
          exact ⟨⟨t + 1, X.heap.size, D :: Ds, rfl, rfl, rfl, rfl, rfl, rfl, rfl, rfl, rfl, by omega, kn, HH.out.below.size, HH.out.below.alloc HH.out.below.size _, List.nodup_cons.2 ⟨hDs, HH.out.marks.nodup⟩, fun E hE => by
            rcases List.mem_cons.1 hE with rfl | hE
            · exact ⟨by have := HZK.out; have := HD.out; omega, (Below.heap_alloc _ _ _ (Array.getElem?_eq_some_iff.1 HK.out).1).trans HK.out⟩
            · exact ⟨(HH.out.marks.there E hE).1, (Below.heap_alloc _ _ _ (HH.out.marks.lt E hE)).trans (HH.out.marks.there E hE).2⟩⟩, by
            show 2 - turnOf (.pointer (some ⟨X.heap.size, 0, none⟩)) _ < 2 - turnOf (.pointer (some ⟨Bt, 0, none⟩)) W
            rw [turnOf_blk kn, turnOf_blk HT.out]
            omega⟩
      · have q2 : ((t : Int) == 0) = false := by simp; omega
        have q1 : ((t : Int) == 1) = true := by simp; omega
        go_wp2_with fail
        have kn : Blk (X.alloc (.cells #[.int .i64 ((t : Int) + 1)] 3)) X.heap.size 3 #[.int .i64 ((t + 1 : Nat) : Int)] := by have := Blk.new X 3 #[.int .i64 ((t : Int) + 1)]; simpa using this
        exact ⟨⟨t + 1, X.heap.size, D :: Ds, rfl, rfl, rfl, rfl, rfl, rfl, rfl, rfl, rfl, by omega, kn, HH.out.below.size, HH.out.below.alloc HH.out.below.size _, List.nodup_cons.2 ⟨hDs, HH.out.marks.nodup⟩, fun E hE => by
          rcases List.mem_cons.1 hE with rfl | hE
          · exact ⟨by have := HZK.out; have := HD.out; omega, (Below.heap_alloc _ _ _ (Array.getElem?_eq_some_iff.1 HK.out).1).trans HK.out⟩
          · exact ⟨(HH.out.marks.there E hE).1, (Below.heap_alloc _ _ _ (HH.out.marks.lt E hE)).trans (HH.out.marks.there E hE).2⟩⟩, by
          show 2 - turnOf (.pointer (some ⟨X.heap.size, 0, none⟩)) _ < 2 - turnOf (.pointer (some ⟨Bt, 0, none⟩)) W
          rw [turnOf_blk kn, turnOf_blk HT.out]
          omega⟩
    case stop =>
      rintro D cd j X hD hj ⟨rfl, h1, h2, h3, h4, h5', h6, h7, h8, h9⟩ hK
      obtain ⟨jj, hjj⟩ : ∃ jj, j + 1 = jj := ⟨_, rfl⟩
      rw [hjj] at h1 h7 h8 h9
      have hjN : jj ≤ Nn := by omega
      have hDs : D ∉ Ds := fun hD2 => by have := hDlt D hD2; omega
      have ek := h1.cell 0
      have et := h2.cell 0
      have en := (K7N.out.below h3 hlN).cell 0
      have em := (K7M.out.below h3 hlM).cell 0
      simp only [List.getElem?_toArray, List.getElem?_cons_zero] at ek et en em
      have H3 := Lib.hid h3
      have H4 := Lib.hid h4
      have HK := Lib.hid hK
      have HD := Lib.hid hD
      have HZK := Lib.hid hzk
      have q2 : ((t : Int) == 0) = true := by simp; omega
      have q1 : ((t : Int) == 1) = false := by simp; omega
      have H0 := Lib.hid h6
      clear h1 h2 h3 h4 h5' h6 hK hD hzk hjj
      by_cases hmn : many ≤ 1
      · obtain rfl : jj = 1 := by omega
        have p4 : ¬ 1 < many := by omega
        clear hmn h7 h8 h9
        by_cases hN : 1 < (Nn : Int)
        · skip
          refine wpIn_wide.2 ?_
          go_wp2_with fail
          have kn : Blk (X.alloc (.cells #[.int .i64 ((t : Int) + 1)] 3)) X.heap.size 3 #[.int .i64 ((t + 1 : Nat) : Int)] := by have := Blk.new X 3 #[.int .i64 ((t : Int) + 1)]; simpa using this
          exact ⟨⟨t + 1, X.heap.size, D :: Ds, rfl, rfl, rfl, rfl, rfl, rfl, rfl, rfl, rfl, by omega, kn, H3.out.size, H3.out.alloc H3.out.size _, List.nodup_cons.2 ⟨hDs, H4.out.nodup⟩, fun E hE => by
            rcases List.mem_cons.1 hE with rfl | hE
            · exact ⟨by have := HZK.out; have := HD.out; omega, (Below.heap_alloc _ _ _ (Array.getElem?_eq_some_iff.1 HK.out).1).trans HK.out⟩
            · exact ⟨(H4.out.there E hE).1, (Below.heap_alloc _ _ _ (H4.out.lt E hE)).trans (H4.out.there E hE).2⟩⟩, by
            show 2 - turnOf (.pointer (some ⟨X.heap.size, 0, none⟩)) _ < 2 - turnOf (.pointer (some ⟨Bt, 0, none⟩)) W
            rw [turnOf_blk kn, turnOf_blk HT.out]
            omega⟩
        · have hN1 : (Nn : Int) = 1 := by omega
          refine wpIn_wide.2 ?_
          go_wp2_with fail
          have kn : Blk (X.alloc (.cells #[.int .i64 ((t : Int) + 1)] 3)) X.heap.size 3 #[.int .i64 ((t + 1 : Nat) : Int)] := by have := Blk.new X 3 #[.int .i64 ((t : Int) + 1)]; simpa using this
          exact ⟨⟨t + 1, X.heap.size, D :: Ds, rfl, rfl, rfl, rfl, rfl, rfl, rfl, rfl, rfl, by omega, kn, H3.out.size, H3.out.alloc H3.out.size _, List.nodup_cons.2 ⟨hDs, H4.out.nodup⟩, fun E hE => by
            rcases List.mem_cons.1 hE with rfl | hE
            · exact ⟨by have := HZK.out; have := HD.out; omega, (Below.heap_alloc _ _ _ (Array.getElem?_eq_some_iff.1 HK.out).1).trans HK.out⟩
            · exact ⟨(H4.out.there E hE).1, (Below.heap_alloc _ _ _ (H4.out.lt E hE)).trans (H4.out.there E hE).2⟩⟩, by
            show 2 - turnOf (.pointer (some ⟨X.heap.size, 0, none⟩)) _ < 2 - turnOf (.pointer (some ⟨Bt, 0, none⟩)) W
            rw [turnOf_blk kn, turnOf_blk HT.out]
            omega⟩
      · obtain rfl : many = (jj : Int) := by omega
        have p4 : (1 : Int) < (jj : Int) := by omega
        clear hmn h7 h8
        by_cases hN : jj < Nn
        · have q5 : decide (jj < Nn) = true := by simpa using hN
          refine wpIn_wide.2 ?_
          go_wp2_with fail
          have kn : Blk (X.alloc (.cells #[.int .i64 ((t : Int) + 1)] 3)) X.heap.size 3 #[.int .i64 ((t + 1 : Nat) : Int)] := by have := Blk.new X 3 #[.int .i64 ((t : Int) + 1)]; simpa using this
          exact ⟨⟨t + 1, X.heap.size, D :: Ds, rfl, rfl, rfl, rfl, rfl, rfl, rfl, rfl, rfl, by omega, kn, H3.out.size, H3.out.alloc H3.out.size _, List.nodup_cons.2 ⟨hDs, H4.out.nodup⟩, fun E hE => by
            rcases List.mem_cons.1 hE with rfl | hE
            · exact ⟨by have := HZK.out; have := HD.out; omega, (Below.heap_alloc _ _ _ (Array.getElem?_eq_some_iff.1 HK.out).1).trans HK.out⟩
            · exact ⟨(H4.out.there E hE).1, (Below.heap_alloc _ _ _ (H4.out.lt E hE)).trans (H4.out.there E hE).2⟩⟩, by
            show 2 - turnOf (.pointer (some ⟨X.heap.size, 0, none⟩)) _ < 2 - turnOf (.pointer (some ⟨Bt, 0, none⟩)) W
            rw [turnOf_blk kn, turnOf_blk HT.out]
            omega⟩
        · have hN1 : (Nn : Int) = jj := by omega
          refine wpIn_wide.2 ?_
          go_wp2_with fail
          have kn : Blk (X.alloc (.cells #[.int .i64 ((t : Int) + 1)] 3)) X.heap.size 3 #[.int .i64 ((t + 1 : Nat) : Int)] := by have := Blk.new X 3 #[.int .i64 ((t : Int) + 1)]; simpa using this
          exact ⟨⟨t + 1, X.heap.size, D :: Ds, rfl, rfl, rfl, rfl, rfl, rfl, rfl, rfl, rfl, by omega, kn, H3.out.size, H3.out.alloc H3.out.size _, List.nodup_cons.2 ⟨hDs, H4.out.nodup⟩, fun E hE => by
            rcases List.mem_cons.1 hE with rfl | hE
            · exact ⟨by have := HZK.out; have := HD.out; omega, (Below.heap_alloc _ _ _ (Array.getElem?_eq_some_iff.1 HK.out).1).trans HK.out⟩
            · exact ⟨(H4.out.there E hE).1, (Below.heap_alloc _ _ _ (H4.out.lt E hE)).trans (H4.out.there E hE).2⟩⟩, by
            show 2 - turnOf (.pointer (some ⟨X.heap.size, 0, none⟩)) _ < 2 - turnOf (.pointer (some ⟨Bt, 0, none⟩)) W
            rw [turnOf_blk kn, turnOf_blk HT.out]
            omega⟩
  · have C10 := Lib.hid (known_any W)
    have kb := K7R.out.below HBb.out K7R.out.lt
    have f1 := kb.frozen 0
    have KB4 := Lib.hid kb
    have q1 : decide (t < 2) = false := by simp; omega
    clear kb
    go_wp2_with (go_at_call 8; (with_reducible refine C10.out.mono ?_); rintro e w9 ⟨rfl, b9⟩; have k9 := KB4.out.below b9 KB4.out.lt; have e9 := k9.cell 0; have f9 := k9.frozen 0; simp at e9; have K9 := Lib.hid k9; have B9 := Lib.hid b9; clear b9 k9)
    refine HEND.out _ _ _ Ds ?_ ⟨HMk.out.nodup, fun D hD => ?_⟩ ?_ ?_
    · rfl
    · have := HMk.out.there D hD
      have hlt := HMk.out.lt D hD
      refine ⟨by have := HS7.out; omega, ?_⟩
      rw [Below.heap_setCell _ _ _ _ (by simp; have := HS7.out; omega)]
      exact (B9.out.block D hlt).trans this.2
    · exact Below.setCell (B7w.out.trans ((HBb.out.trans (B9.out.mono HBb.out.size)).mono B7w.out.size)) (by simp; omega) _
    · have := K9.out.set_ 0 (.bool true)
      simpa using this
end Go.Proofs.Ythkpmbgclllnjaa
