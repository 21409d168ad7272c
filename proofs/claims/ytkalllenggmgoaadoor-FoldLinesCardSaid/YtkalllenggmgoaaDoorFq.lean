/- Lines, and the iterator that it returns. -/
import Derived.Test.YtkalllenggmgoaaDoorFp
import Derived.Test.YtkalllenggmgoaaDoorOi
import Derived.Test.YtkalllenggmgoaaDoorMk
namespace Go.Proofs.YtkalllenggmgoaaDoor
open Go.RowKit
attribute [local go_sem] wide_fn wide_depth wide_fn_in wide_depth_in Oper.semAt_some
set_option linter.unusedVariables false
set_option linter.unusedSimpArgs false

theorem res25 {fn : Func} {tmps : Array Value} {W : World} {bx : Nat} {x y : Value} (hf : fn.results = Tryd.f42.results) (h4 : tmps.getD 2 undef = .pointer (some ⟨bx, 0, none⟩)) (hb : Blk W bx 25 #[x, y]) : (results fn tmps).run Tryd.prog W = .ok (.agg #[x, y]) W := by
  have e : results fn tmps = results Tryd.f42 tmps := by unfold results; rw [hf]
  rw [e]
  have c0 : W.cell? ⟨bx, 0, none⟩ = some x := hb.cell 0
  have c1 : W.cell? ⟨bx, 1, none⟩ = some y := hb.cell 1
  simp at h4
  simp [results, Tryd.results42, go_sem, h4, c0, c1]
theorem blk_set25 {W : World} {r : Nat} {a b x y : Value} (h : Blk W r 25 #[a, b]) : Blk ((W.setCell ⟨r, 0, none⟩ x).setCell ⟨r, 1, none⟩ y) r 25 #[x, y] := by
  have hk := (h.set_ 0 x).set_ 1 y
  simpa [List.setIfInBounds_toArray] using hk

set_option maxRecDepth 100000 in
set_option maxHeartbeats 1000000 in
theorem header_any (at_ : Int) (A0 A1 : Option Addr) (n0 n1 c0 c1 : Nat) (gv : Value) (b1 b2 : Bool) (nm tx : List UInt8) (W : World) (h0 : RB W A0 n0 c0 nm) (h1 : RB W A1 n1 c1 tx) :
    Calls Tryd.prog 42 #[.agg #[.int .i64 at_, .slice A0 n0 c0, .slice A1 n1 c1, gv, .bool b1, .bool b2]] W fun e w' => e = .returned (.agg #[.string ⟨nm.toArray⟩, .string ⟨tx.toArray⟩]) ∧ Below W.heap.size W w' := by
  obtain ⟨W1, hW1⟩ : ∃ W1, W.alloc (.cells #[.int .i64 at_, .slice A0 n0 c0, .slice A1 n1 c1, gv, .bool b1, .bool b2] 67) = W1 := ⟨_, rfl⟩
  obtain ⟨W2, hW2⟩ : ∃ W2, W1.alloc (.cells #[.string { data := #[] }, .string { data := #[] }] 25) = W2 := ⟨_, rfl⟩
  have hs1 : W1.heap.size = W.heap.size + 1 := by rw [← hW1]; simp
  have hb1 : Below W.heap.size W W1 := hW1 ▸ (Below.refl _ W).alloc (Nat.le_refl _) _
  have hb2 : Below W.heap.size W W2 := hb1.trans (hW2 ▸ (Below.refl _ W1).alloc (by omega) _)
  have hk1 : Blk W2 W.heap.size 67 #[.int .i64 at_, .slice A0 n0 c0, .slice A1 n1 c1, gv, .bool b1, .bool b2] := by rw [← hW2, ← hW1]; exact (Blk.new W 67 _).alloc _
  have hk2 : Blk W2 (W.heap.size + 1) 25 #[.string { data := #[] }, .string { data := #[] }] := by rw [← hs1, ← hW2]; exact Blk.new W1 25 _
  have u0 := conv_RB (h0.below hb2)
  have u1 := conv_RB (h1.below hb2)
  obtain ⟨bx, hbx⟩ : ∃ bx, W.heap.size = bx := ⟨_, rfl⟩
  rw [hbx] at hk1 hk2 hs1
  have HB2 := Lib.hid hb2
  have HK2 := Lib.hid hk2
  have HW1 := Lib.hid hW1
  have HW2 := Lib.hid hW2
  have HS1 := Lib.hid hs1
  have HBX := Lib.hid hbx
  generalize (⟨nm.toArray⟩ : ByteArray) = sn at *
  generalize (⟨tx.toArray⟩ : ByteArray) = st at *
  have k1 := hk1.cell 1
  have k2 := hk1.cell 2
  have k1' : W2.cell? ⟨bx, 1, none⟩ = some (.slice A0 n0 c0) := k1
  have k2' : W2.cell? ⟨bx, 2, none⟩ = some (.slice A1 n1 c1) := k2
  have z0 := hk2.cell 0
  have z1 := hk2.cell 1
  have z0' : W2.cell? ⟨bx + 1, 0, none⟩ = some (.string { data := #[] }) := z0
  have z1' : W2.cell? ⟨bx + 1, 1, none⟩ = some (.string { data := #[] }) := z1
  have y0 := hk2.frozen 0
  have y1 := hk2.frozen 1
  clear h0 h1 hW1 hW2 hs1 hb1 hb2 hk1 hk2 hbx k1 k2 z0 z1
  go_enter Tryd.func42, Tryd.ntmps42
  go_upto_region 1 with fail
  rw [HW1.out, HBX.out, HW2.out]
  go_wp2_with fail
  refine bodyPost_ret (res25 rfl rfl (blk_set25 HK2.out)) rfl ⟨rfl, ?_⟩
  have h0 := HBX.out
  have hon : Only (fun b => b = bx + 1) W2 ((W2.setCell ⟨bx + 1, 0, none⟩ (.string sn)).setCell ⟨bx + 1, 1, none⟩ (.string st)) :=
    Only.set (p := fun b => b = bx + 1) (Only.set (p := fun b => b = bx + 1) (Only.refl _ _) (fun _ => rfl) 0 _) (fun _ => rfl) 1 _
  exact HB2.out.trans (hon.to_below HB2.out.size fun b hb e => by omega)
/-- What was done, as it lies in memory. -/
structure DnOk (B : Nat) (W : World) (dv : Value) (ds : List Ld) : Prop where
  dn : W.ownsRow B 67 6 dv ds.length (ds.flatMap Ld.cells)
  dr : ∀ d ∈ ds, LdOk B W d
def DnF (dv : Value) (ds : List Ld) (k : Nat) : Prop := dv.ownBlock = some k ∨ ∃ d ∈ ds, d.nv.ownBlock = some k ∨ d.tv.ownBlock = some k
theorem DnOk.lt {B : Nat} {W : World} {dv : Value} {ds : List Ld} (h : DnOk B W dv ds) : ∀ k, DnF dv ds k → B ≤ k ∧ k < W.heap.size := fun k hk => by
  rcases hk with hk | ⟨d, hd, hk | hk⟩
  · exact h.dn.lt k hk
  · exact (h.dr d hd).nm.lt k hk
  · exact (h.dr d hd).tx.lt k hk
theorem DnOk.keep {B : Nat} {W W' : World} {dv : Value} {ds : List Ld} (h : DnOk B W dv ds) (hk : ∀ k, DnF dv ds k → W'.heap[k]? = W.heap[k]?) : DnOk B W' dv ds :=
  ⟨own_keeps h.dn fun k e => hk k (.inl e), fun d hd => ⟨own_keeps (h.dr d hd).nm fun k e => hk k (.inr ⟨d, hd, .inl e⟩), own_keeps (h.dr d hd).tx fun k e => hk k (.inr ⟨d, hd, .inr e⟩), (h.dr d hd).gf⟩⟩
theorem DnOk.below {B : Nat} {W W' : World} {dv : Value} {ds : List Ld} (h : DnOk B W dv ds) (hb : Below W.heap.size W W') : DnOk B W' dv ds := h.keep fun k hk => hb.block k (h.lt k hk).2
theorem ld_get (ds : List Ld) : ∀ (i : Nat) (hi : i < ds.length) (j : Nat) (hj : j < 6), (ds.flatMap Ld.cells)[i * 6 + j]? = (ds[i].cells)[j]? := by
  induction ds with
  | nil => intro i hi; simp at hi
  | cons d ds ih =>
    intro i hi j hj
    have h6 : d.cells.length = 6 := rfl
    cases i with
    | zero => simp only [List.flatMap_cons, Nat.zero_mul, Nat.zero_add, List.getElem_cons_zero]; rw [List.getElem?_append_left (by omega)]
    | succ i =>
      have e : (i + 1) * 6 + j = 6 + (i * 6 + j) := by omega
      simp only [List.flatMap_cons, List.getElem_cons_succ]
      rw [e, List.getElem?_append_right (by omega), h6, Nat.add_sub_cancel_left]
      exact ih i (by simpa using hi) j hj
structure LdAt (W : World) (b o : Nat) (d : Ld) : Prop where
  h0 : W.cell? ⟨b, o, none⟩ = some (.int .i64 (d.at_ : Int))
  h1 : W.cell? ⟨b, o + 1, none⟩ = some d.nv
  h2 : W.cell? ⟨b, o + 2, none⟩ = some d.tv
  h3 : W.cell? ⟨b, o + 3, none⟩ = some d.gv
  h4 : W.cell? ⟨b, o + 4, none⟩ = some (.bool d.opn)
  h5 : W.cell? ⟨b, o + 5, none⟩ = some (.bool d.spr)
theorem DnOk.at {B : Nat} {W : World} {dv : Value} {ds : List Ld} (h : DnOk B W dv ds) (hn : 0 < ds.length) : ∃ b c, dv = .slice (some ⟨b, 0, none⟩) ds.length c ∧ ∀ (i : Nat) (hi : i < ds.length), LdAt W b (i * 6) ds[i] := by
  obtain ⟨A, c, e, -, -, -, hp⟩ := own_formS h.dn
  obtain ⟨b, hA, -⟩ := hp hn
  subst hA
  subst e
  have hh := HoldsS.own h.dn
  refine ⟨b, c, rfl, fun i hi => ?_⟩
  have key : ∀ j, j < 6 → ∀ u, (ds[i].cells)[j]? = some u → W.cell? ⟨b, i * 6 + j, none⟩ = some u := fun j hj u hu => by
    have := hh.2.2 _ rfl (i * 6 + j) u ((ld_get ds i hi j hj).trans hu)
    rwa [Addr.add_lit, Nat.zero_add] at this
  exact ⟨key 0 (by omega) _ rfl, key 1 (by omega) _ rfl, key 2 (by omega) _ rfl, key 3 (by omega) _ rfl, key 4 (by omega) _ rfl, key 5 (by omega) _ rfl⟩
def LAt (ks : List (Nat × List UInt8 × List UInt8)) (i : Nat) (vs : Array Value) (W : World) : Prop := ∃ k, ks[i]? = some k ∧ vs = #[.int .i64 (k.1 : Int), .agg #[.string ⟨k.2.1.toArray⟩, .string ⟨k.2.2.toArray⟩]]
def LKp (F : Nat → Prop) (vs : Array Value) (X Y : World) : Prop := X.heap.size ≤ Y.heap.size ∧ ∀ k, F k → Y.heap[k]? = X.heap[k]?
/-- A line's box. -/
def BoxL (bx at_ : Nat) (W : World) : Prop := W.cell? ⟨bx, 0, none⟩ = some (.int .i64 (at_ : Int))

set_option maxRecDepth 100000 in
set_option maxHeartbeats 1000000 in
theorem lines_iter (n : Nat) (W : World) (B g : Nat) (a nv tv gv : Value) (op sp lo pl : Value) (dv : Value) (ds : List Ld) (hk : Blk W g 70 #[a, nv, tv, gv, op, sp, lo, pl, dv]) (hd : DnOk B W dv ds) (hN : ds.length ≤ 1000) :
    Iter Fence.wide n Tryd.prog 41 #[.pointer (some ⟨g, 0, none⟩)] (LAt (ds.map Ld.key)) (LKp (DnF dv ds)) (fun X Y => Below X.heap.size X Y) (ds.map Ld.key).length W := by
  intro l J Jx hJ hJx hY h0
  obtain ⟨A3, c3, e3, -⟩ := own_formS hd.dn
  subst e3
  have hlen : (ds.map Ld.key).length = ds.length := by simp
  rw [hlen] at hY ⊢
  obtain ⟨N, hNN⟩ : ∃ N, ds.length = N := ⟨_, rfl⟩
  have hN0 : (N : Int) ≤ 1000 := by omega
  have HNN := Lib.hid hNN
  have c8 : W.cell? ⟨g, 8, none⟩ = some (.slice A3 ds.length c3) := hk.cell 8
  rw [hNN] at c8 hY ⊢
  have HJ := Lib.hid hJ
  have HY := Lib.hid hY
  have HD := Lib.hid hd
  have H0 := Lib.hid h0
  clear hJ hJx hY hk hd h0 hN hNN hlen
  refine callsIn_of_wp Tryd.func41 rfl trivial ?_ rfl
  simp only [Tryd.ntmps41, List.size_toArray, List.length_cons, List.length_nil, Nat.reduceAdd, Nat.reduceSub, Array.replicate_succ, Array.replicate_zero, List.push_toArray, List.append_toArray, List.nil_append, List.cons_append]
  gi_wp2_with fail
  gi_loopw [8] (fun q wr => ∃ (i : Nat), (i : Int) ≤ N ∧ q = .int .i64 i ∧ Hid (J i wr) ∧ Hid (DnOk B wr (.slice A3 ds.length c3) ds)) (fun q _ => N - (intOf q).toNat)
  case atStart => exact ⟨0, by omega, rfl, H0, HD⟩
  clear H0 HD c8
  case round =>
    obtain ⟨i, hi, rfl, HJi, HD⟩ := hrel
    have hi0 : (0 : Int) ≤ i := by omega
    by_cases hlt : (i : Int) < N
    · have hil : i < ds.length := by rw [HNN.out]; omega
      obtain ⟨b, c, e3, hat⟩ := HD.out.at (by omega)
      cases e3
      obtain ⟨f0, f1, f2, f3, f4, f5⟩ := hat i hil
      have hmem := List.getElem_mem hil
      have hdo := HD.out.dr _ hmem
      obtain ⟨Ag, ng, cg, eg⟩ := hdo.gf
      have hkey : (ds.map Ld.key)[i]? = some ds[i].key := by rw [List.getElem?_map, List.getElem?_eq_getElem hil]; rfl
      have HX := Lib.hid hkey
      generalize ds[i] = d at *
      obtain ⟨dat, dnv, dtv, dgv, dop, dsp, dn, dt⟩ := d
      simp only at f0 f1 f2 f3 f4 f5 eg
      obtain ⟨A5, c5, e5, -⟩ := own_form hdo.nm
      obtain ⟨A6, c6, e6, -⟩ := own_form hdo.tx
      simp only at e5 e6
      subst e5 e6 eg
      have hr5 := own_RB3 hdo.nm
      have hr6 := own_RB3 hdo.tx
      simp only at hr5 hr6
      obtain ⟨n5, hn5⟩ : ∃ n5, dn.length = n5 := ⟨_, rfl⟩
      obtain ⟨n6, hn6⟩ : ∃ n6, dt.length = n6 := ⟨_, rfl⟩
      rw [hn5] at f1 hr5
      rw [hn6] at f2 hr6
      obtain ⟨W1, hW1⟩ : ∃ W1, wr.alloc (.cells #[.int .i64 (dat : Int), .slice A5 n5 c5, .slice A6 n6 c6, .slice Ag ng cg, .bool dop, .bool dsp] 67) = W1 := ⟨_, rfl⟩
      have hb1 : Below wr.heap.size wr W1 := hW1 ▸ (Below.refl _ wr).alloc (Nat.le_refl _) _
      have hbx : Blk W1 wr.heap.size 67 #[.int .i64 (dat : Int), .slice A5 n5 c5, .slice A6 n6 c6, .slice Ag ng cg, .bool dop, .bool dsp] := hW1 ▸ Blk.new wr 67 _
      have C42 := Lib.hid (header_any (dat : Int) A5 A6 n5 n6 c5 c6 (.slice Ag ng cg) dop dsp dn dt W1.drew (hr5.below (below_drew hb1)) (hr6.below (below_drew hb1)))
      have HB1 := Lib.hid hb1
      have HW1 := Lib.hid hW1
      have HBX := Lib.hid hbx
      obtain ⟨bx, hbx2⟩ : ∃ bx, wr.heap.size = bx := ⟨_, rfl⟩
      have HBX2 := Lib.hid hbx2
      rw [hbx2] at HBX
      have HIL := Lib.hid hil
      have hx0 : BoxL bx dat W1.drew := HBX.out.cell 0
      have HX0 := Lib.hid hx0
      clear hat hmem hdo hr5 hr6 hn5 hn6 hW1 hb1 hbx hbx2 hx0 hkey hil
      refine wpIn_wide.2 ?_
      go_upto_region 3 with fail
      refine (wpIn_wide (n := n)).1 ?_
      rw [HW1.out, HBX2.out]
      refine wpIn_region_G (n := n) (S0 := (BoxL bx dat)) (S1 := (fun _ : World => True)) (c := 5) (by kernel_rfl) ?_
      have hHeld := HX0.out
      have h01 := (fun (W : World) (h : (BoxL bx dat) W) => trivial)
      refine wpGI_takeA (i := 0) (oi := ⟨some 12, _, _, _, _, _⟩) (v := .func (.yield l) #[] #[]) rfl (by kernel_rfl) (by kernel_rfl) (by kernel_rfl) (by decide) (fun _ _ _ h => h) h01 rfl hHeld (Or.inl ⟨by rfl, ?_⟩) ?_
      · (intro W9 hSw; go_simp; (try (first | with_reducible rfl | rfl | (simp; done))))
      try simp only [Act.put, List.setIfInBounds_toArray, List.set_cons_zero, List.set_cons_succ]
      refine wpGI_takeA (i := 1) (oi := ⟨some 13, _, _, _, _, _⟩) (v := .pointer (some ⟨bx, 0, none⟩)) rfl (by kernel_rfl) (by kernel_rfl) (by kernel_rfl) (by decide) (fun _ _ _ h => h) h01 rfl hHeld (Or.inl ⟨by rfl, ?_⟩) ?_
      · (intro W9 hSw; go_simp; (try (first | with_reducible rfl | rfl | (simp; done))))
      try simp only [Act.put, List.setIfInBounds_toArray, List.set_cons_zero, List.set_cons_succ]
      refine wpGI_take0 (i := 2) (oi := ⟨some 14, _, _, _, _, _⟩) (v := .int .i64 (dat : Int)) rfl (by kernel_rfl) (by kernel_rfl) (by kernel_rfl) (by decide) (by kernel_rfl) (fun _ _ _ h => h) rfl hHeld (Or.inl ⟨by rfl, ?_⟩) ?_
      · (intro W9 hSw; have v1 : _ = _ := hSw; go_simp; (try (first | with_reducible rfl | rfl | (simp; done))))
      try simp only [Act.put, List.setIfInBounds_toArray, List.set_cons_zero, List.set_cons_succ]
      refine wpGI_oneA (i := 3) (o := ⟨some 15, _, _, _, _, _⟩) (by kernel_rfl) rfl rfl (fun K hK => ?_)
      obtain ⟨x0, x1, x2, x3, x4, x5⟩ : W1.drew.cell? ⟨bx, 0, none⟩ = some (.int .i64 (dat : Int)) ∧ W1.drew.cell? ⟨bx, 1, none⟩ = some (.slice A5 n5 c5) ∧ W1.drew.cell? ⟨bx, 2, none⟩ = some (.slice A6 n6 c6) ∧ W1.drew.cell? ⟨bx, 3, none⟩ = some (.slice Ag ng cg) ∧ W1.drew.cell? ⟨bx, 4, none⟩ = some (.bool dop) ∧ W1.drew.cell? ⟨bx, 5, none⟩ = some (.bool dsp) := ⟨HBX.out.cell 0, HBX.out.cell 1, HBX.out.cell 2, HBX.out.cell 3, HBX.out.cell 4, HBX.out.cell 5⟩
      go_simp
      clear x0 x1 x2 x3 x4 x5
      refine hK.out _ _ HX0.out (fun hHeld => ?_)
      clear hK K
      try simp only [Act.put, List.setIfInBounds_toArray, List.set_cons_zero, List.set_cons_succ]
      refine wpGI_oneA (i := 4) (o := ⟨some 16, _, _, _, _, _⟩) (by kernel_rfl) rfl rfl (fun K hK => ?_)
      go_simp
      (with_reducible refine (callsIn_wide.2 C42.out).mono ?_)
      rintro e w2 ⟨rfl, hb2⟩
      have HX2 := Lib.hid (show BoxL bx dat w2 from (hb2.cell (World.block_lt_of_cell? _ _ HX0.out)).trans HX0.out)
      have HB2 := Lib.hid ((below_drew HB1.out).trans (hb2.mono HB1.out.size))
      clear hb2
      refine hK.out _ _ HX2.out (fun hHeld => ?_)
      clear hK K
      try simp only [Act.put, List.setIfInBounds_toArray, List.set_cons_zero, List.set_cons_succ]
      refine wpGI_oneB (i := 5) (o := ⟨some 17, _, _, _, _, _⟩) (by kernel_rfl) rfl rfl (fun K hK => ?_)
      obtain ⟨fn, tm, asg, bod, hy, hR⟩ := HY.out i (by have := HIL.out; have := HNN.out; omega) #[.int .i64 (dat : Int), .agg #[.string ⟨dn.toArray⟩, .string ⟨dt.toArray⟩]] w2 (HJ.out _ _ _ HJi.out HB2.out) ⟨_, HX.out, rfl⟩
      have HR9 := Lib.hid hR
      clear hR
      go_simp
      clear hy
      refine HR9.out.mono ?_
      rintro e w3 ⟨-, hcase⟩
      have HC := Lib.hid hcase
      clear hcase
      have hbq : ∃ bq : Bool, e = .returned (.bool bq) ∧ ((bq = true ∧ J (i + 1) w3 ∧ LKp (DnF (Value.slice (some { block := b, off := 0 }) N c3) ds) #[.int .i64 (dat : Int), .agg #[.string ⟨dn.toArray⟩, .string ⟨dt.toArray⟩]] w2 w3) ∨ (bq = false ∧ Jx (i + 1) w3)) := by
        rcases HC.out with ⟨h1, h2⟩ | ⟨h1, h2⟩
        · exact ⟨true, h1, .inl ⟨rfl, h2⟩⟩
        · exact ⟨false, h1, .inr ⟨rfl, h2⟩⟩
      obtain ⟨bq, rfl, hcase⟩ := hbq
      have HC2 := Lib.hid hcase
      clear hcase HC
      refine hK.out _ _ trivial (fun hHeld => ?_)
      clear hK K
      try simp only [Act.put, List.setIfInBounds_toArray, List.set_cons_zero, List.set_cons_succ]
      refine wpGI_takeB (i := 6) (oi := ⟨some 18, _, _, _, _, _⟩) (v := .bool (!bq)) rfl (by kernel_rfl) (by kernel_rfl) (by kernel_rfl) (by decide) (fun _ _ _ h => h) h01 rfl hHeld (Or.inl ⟨by rfl, ?_⟩) ?_
      · (intro W9 hSw; go_simp; (try (first | with_reducible rfl | rfl | (simp; done))))
      try simp only [Act.put, List.setIfInBounds_toArray, List.set_cons_zero, List.set_cons_succ]
      refine wpGI_done (by kernel_rfl) ?_ _
      clear hHeld h01
      cases bq with
      | true =>
        have hJK : J (i + 1) w3 ∧ LKp (DnF (Value.slice (some { block := b, off := 0 }) N c3) ds) #[.int .i64 (dat : Int), .agg #[.string ⟨dn.toArray⟩, .string ⟨dt.toArray⟩]] w2 w3 := by
          rcases HC2.out with ⟨-, h⟩ | ⟨h, -⟩
          · exact h
          · cases h
        have HJ3 := Lib.hid hJK.1
        have HD3 := Lib.hid ((HD.out.below HB2.out).keep fun k hk => hJK.2.2 k hk)
        clear hJK
        go_wp2_with fail
        refine ⟨⟨i + 1, by omega, by go_num, HJ3, HD3⟩, by simp [intOf]; omega⟩
      | false =>
        have hJx3 : Jx (i + 1) w3 := by
          rcases HC2.out with ⟨h, -⟩ | ⟨-, h⟩
          · cases h
          · exact h
        have HJ3 := Lib.hid hJx3
        have HI2 := Lib.hid (show i < N by omega)
        clear hJx3
        go_wp2_with fail
        refine bodyPost_ret (results_none rfl _ _ _) rfl ?_
        exact ⟨⟨_, rfl⟩, .inr ⟨i, HI2.out, HJ3.out⟩⟩
    · have hiN : i = N := by omega
      subst hiN
      gi_wp2_with fail
      go_end0
      exact ⟨⟨_, rfl⟩, .inl HJi.out⟩
end Go.Proofs.YtkalllenggmgoaaDoor
