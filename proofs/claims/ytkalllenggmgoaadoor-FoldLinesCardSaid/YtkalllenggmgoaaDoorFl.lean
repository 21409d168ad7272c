/- The steps of the scanner: put. -/
import Derived.Test.YtkalllenggmgoaaDoorFk
import Derived.Deep.CutRange
namespace Go.Proofs.YtkalllenggmgoaaDoor
open Go.RowKit
set_option linter.unusedVariables false
set_option linter.unusedSimpArgs false

variable {B g : Nat} {W W2 : World} {s s' : Sc} {q q' : ScV} {v2 : Value} {x : Int} {ys : List UInt8} {o : Obj}
theorem put_niltrue {at_ : Nat} {n t p : List UInt8} {op : Bool} {c : UInt8} (h : t.isEmpty = true) : Ln.put ⟨at_, n, t, p, op, true⟩ c = ⟨at_, n, t ++ [c], [], op, false⟩ := by
  have : t = [] := by simpa using h
  subst this; rfl
theorem put_nilfalse {at_ : Nat} {n t p : List UInt8} {op : Bool} {c : UInt8} (h : t.isEmpty = true) : Ln.put ⟨at_, n, t, p, op, false⟩ c = ⟨at_, n, t ++ [c], [], op, false⟩ := by
  have : t = [] := by simpa using h
  subst this; rfl
theorem put_netrue {at_ : Nat} {n t p : List UInt8} {op : Bool} {c : UInt8} (h : t.isEmpty = false) : Ln.put ⟨at_, n, t, p, op, true⟩ c = ⟨at_, n, (t ++ [32]) ++ [c], [], op, false⟩ := by unfold Ln.put Ln.eff; simp [h]
theorem put_nefalse {at_ : Nat} {n t p : List UInt8} {op : Bool} {c : UInt8} (h : t.isEmpty = false) : Ln.put ⟨at_, n, t, p, op, false⟩ c = ⟨at_, n, (t ++ p) ++ [c], [], op, false⟩ := by unfold Ln.put Ln.eff; simp [h]
def C23 (g : Nat) (tv gv : Value) (W : World) : Prop := W.cell? ⟨g, 2, none⟩ = some tv ∧ W.cell? ⟨g, 3, none⟩ = some gv ∧ W.frozen? ⟨g, 2, none⟩ = false
theorem C23.of {g : Nat} {W : World} {a nv tv gv op sp lo pl dv : Value} (h : Blk W g 70 #[a, nv, tv, gv, op, sp, lo, pl, dv]) : C23 g tv gv W := ⟨h.cell 2, h.cell 3, h.frozen 2⟩
theorem Rows.src {B : Nat} {W : World} {v : Nat → Value} {l : Nat → List UInt8} {dv : Value} {ds : List Ld} (h : Rows B W v l dv ds) {i : Nat} (hi : i < 3) {A : Option Addr} {n c : Nat} (hv : v i = .slice A n c) (hn : (l i).length = n) : Holds W A n ((l i).map u8) := by
  have := h.cur i hi
  rw [hv, hn] at this
  exact holds_own this

set_option maxRecDepth 100000 in
set_option maxHeartbeats 1000000 in
theorem put_any (h : ScW B W g s q) (hs : ScSz s 10000000) (c : UInt8) :
    Calls Tryd.prog 74 #[.pointer (some ⟨g, 0, none⟩), .int .u8 (c.toNat : Int)] W fun e w' => e = .returned (.int .i64 4) ∧ ScX B g { s with ln := s.ln.put c } W w' := by
  obtain ⟨⟨at_, n, t, p, op, sp⟩, lo, pl, dn⟩ := s
  have hu : ([c] : List UInt8).map Go.Proofs.YtkalllenggmgoaaDoor.u8 = [.int .u8 (c.toNat : Int)] := rfl
  have HU := Lib.hid hu
  have H := Lib.hid h
  have HSZ : Hid (t.length + p.length ≤ 10000000) := Lib.hid hs.tx
  obtain ⟨x, hx⟩ : ∃ x : Int, (c.toNat : Int) = x := ⟨_, rfl⟩
  rw [hx] at HU ⊢
  clear h hs hu hx
  cases sp with
  | true =>
    cases htz : t.isEmpty with
    | true =>
      have HPUT : Hid (Ln.put ⟨at_, n, t, p, op, true⟩ c = ⟨at_, n, t ++ [c], [], op, false⟩) := Lib.hid (put_niltrue htz)
      obtain rfl : t = [] := by simpa using htz
      clear htz
      obtain ⟨⟨A10, c10, e0⟩, ⟨A11, c11, e1⟩, ⟨A12, c12, e2⟩, A13, c13, e3⟩ := H.out.forms
      obtain ⟨nv1, tv1, gv1, dv1, ds1⟩ := q
      simp only at e0 e1 e2 e3
      subst e0 e1 e2 e3
      have hb1 := cells_of H.out.blk
      have k5 := hb1.cell 5
      have k5' : W.cell? ⟨g, 5, none⟩ = some (.bool true) := k5
      clear k5
      have hal := hb1.alloc (.cells #[.int .u8 32] 5)
      have k3 : (W.alloc (.cells #[.int .u8 32] 5)).cell? ⟨g, 3, none⟩ = some (.slice A12 p.length c12) := hal.cell 3
      have k3f := hal.frozen 3
      obtain ⟨⟨q1, hq1⟩, hbl1⟩ := H.out.gapOne 32
      have e32 : ((UInt8.toNat 32 : Nat) : Int) = 32 := rfl
      rw [e32] at hq1 hbl1
      have HQ1 := Lib.hid hq1
      have HBL1 := Lib.hid hbl1
      clear hal hb1 hq1 hbl1 e32
      go_enter Tryd.func74, Tryd.ntmps74
      go_upto_region 3 with fail
      obtain ⟨w1, hw1⟩ : ∃ w1, (W.alloc (.cells #[.int .u8 32] 5)).setCell ⟨g, 3, none⟩ (.slice (some ⟨W.heap.size, 0, none⟩) 1 1) = w1 := ⟨_, rfl⟩
      rw [hw1] at HQ1 HBL1
      rw [hw1]
      clear k3 k3f k5' hw1
      obtain ⟨⟨A20, c20, e0⟩, ⟨A21, c21, e1⟩, ⟨A22, c22, e2⟩, A23, c23, e3⟩ := HQ1.out.forms
      obtain ⟨nv2, tv2, gv2, dv2, ds2⟩ := q1
      simp only at e0 e1 e2 e3
      subst e0 e1 e2 e3
      have hb2 := cells_of HQ1.out.blk
      have k2 : w1.cell? ⟨g, 2, none⟩ = some (.slice A21 0 c21) := hb2.cell 2
      have HT5 : Hid (w1.ownsRow B 5 1 (.slice A21 ([] : List UInt8).length c21) ([] : List UInt8).length (([] : List UInt8).map Go.Proofs.YtkalllenggmgoaaDoor.u8)) := Lib.hid (HQ1.out.rows.cur 1 (by decide))
      obtain ⟨m, hm⟩ : ∃ m, ([] : List UInt8).length = m := ⟨_, rfl⟩
      rw [hm] at HT5
      have HM : Hid (m ≤ 10000020) := Lib.hid (by rw [← hm]; simp)
      have HMM := Lib.hid hm
      clear hb2 hm
      obtain rfl : m = 0 := HMM.out.symm
      go_wp2_with (at_builtin; go_must (refine wpList_app_own (base := B) (n := 0) (m := 1) (xs := ([] : List UInt8).map Go.Proofs.YtkalllenggmgoaaDoor.u8) (news := [.int .u8 x]) rfl (.tmp 35) (.tmp 37) 26 rfl el22 rfl (own_alloc HT5.out) rfl (Holds.one _ _ _) (by simp [Value.oneCell']) (by have := HM.out; unfold maxLen; omega) (by have := HM.out; omega) (by have := HQ1.out.size; simp; omega) ?_; intro v6 w6 hown hg hat; refine Hid.out ?_))
      obtain ⟨A66, c66, e66, -⟩ := own_form hown
      subst e66
      rw [← HU.out, ← HMM.out] at hown
      obtain ⟨hb6, hx6⟩ := HQ1.out.appText (ys := [c]) hown (Only.app (HMM.out ▸ hg)) (Hat.app (HMM.out ▸ hat))
      obtain ⟨⟨q6, hq6⟩, hbl6⟩ := hx6
      have hb6 := cells_of hb6
      have j2 : w6.cell? ⟨g, 2, none⟩ = some (.slice A21 ([] : List UInt8).length c21) := hb6.cell 2
      have j2f := hb6.frozen 2
      have j2 : w6.cell? ⟨g, 2, none⟩ = some (.slice A21 0 c21) := j2
      have HQ6 := Lib.hid hq6
      have HBL6 := Lib.hid (HBL1.out.trans hbl6)
      clear hown hg hat hb6 hq6 hbl6 k2
      refine Lib.hid ?_
      go_upto_region 6 with fail
      obtain ⟨w7, hw7⟩ : ∃ w7, w6.setCell ⟨g, 2, none⟩ (.slice A66 (0 + 1) c66) = w7 := ⟨_, rfl⟩
      have e1 : Value.slice A66 (([] : List UInt8).length + 1) c66 = .slice A66 1 c66 := rfl
      rw [e1] at HQ6 HBL6
      clear e1
      have e1 : Value.slice A66 (0 + 1) c66 = .slice A66 1 c66 := rfl
      rw [e1] at hw7
      clear e1
      rw [hw7] at HQ6 HBL6
      rw [hw7]
      clear j2 j2f hw7
      obtain ⟨⟨A70, c70, e0⟩, ⟨A71, c71, e1⟩, ⟨A72, c72, e2⟩, A73, c73, e3⟩ := HQ6.out.forms
      obtain ⟨nv7, tv7, gv7, dv7, ds7⟩ := q6
      simp only at e0 e1 e2 e3
      subst e0 e1 e2 e3
      have hb7 := cells_of HQ6.out.blk
      have i3 := hb7.cell 3
      have i3f := hb7.frozen 3
      have i3' : w7.cell? ⟨g, 3, none⟩ = some (.slice A72 ([32] : List UInt8).length c72) := i3
      have HQ8 := Lib.hid HQ6.out.gapNil
      have hb8 := cells_of HQ8.out.blk
      have i5 : (w7.setCell ⟨g, 3, none⟩ (.slice none 0 0)).cell? ⟨g, 5, none⟩ = some (.bool true) := hb8.cell 5
      have i5f := hb8.frozen 5
      have HQ9 := Lib.hid (HQ8.out.spr false)
      have HBL9 := Lib.hid ((HBL6.out.trans (below_set H.out.hB HQ6.out.size 3 (.slice none 0 0))).trans (below_set H.out.hB HQ8.out.size 5 (.bool false)))
      have HR : Hid (ScX B g { (⟨⟨at_, n, ([] : List UInt8), p, op, true⟩, lo, pl, dn⟩ : Sc) with ln := Ln.put ⟨at_, n, ([] : List UInt8), p, op, true⟩ c } W _) := Lib.hid (by rw [HPUT.out]; exact ⟨⟨_, HQ9.out⟩, HBL9.out⟩)
      clear hb7 hb8 i3 HBL9 HPUT
      go_wp2_with fail
      go_ret
      exact ⟨rfl, HR.out⟩
    | false =>
      have HPUT : Hid (Ln.put ⟨at_, n, t, p, op, true⟩ c = ⟨at_, n, (t ++ [32]) ++ [c], [], op, false⟩) := Lib.hid (put_netrue htz)
      have hlt : 0 < t.length := by cases t with
        | nil => cases htz
        | cons => simp
      clear htz
      obtain ⟨⟨A10, c10, e0⟩, ⟨A11, c11, e1⟩, ⟨A12, c12, e2⟩, A13, c13, e3⟩ := H.out.forms
      obtain ⟨nv1, tv1, gv1, dv1, ds1⟩ := q
      simp only at e0 e1 e2 e3
      subst e0 e1 e2 e3
      have hb1 := cells_of H.out.blk
      have k5 := hb1.cell 5
      have k5' : W.cell? ⟨g, 5, none⟩ = some (.bool true) := k5
      clear k5
      have hal := hb1.alloc (.cells #[.int .u8 32] 5)
      have k3 : (W.alloc (.cells #[.int .u8 32] 5)).cell? ⟨g, 3, none⟩ = some (.slice A12 p.length c12) := hal.cell 3
      have k3f := hal.frozen 3
      obtain ⟨⟨q1, hq1⟩, hbl1⟩ := H.out.gapOne 32
      have e32 : ((UInt8.toNat 32 : Nat) : Int) = 32 := rfl
      rw [e32] at hq1 hbl1
      have HQ1 := Lib.hid hq1
      have HBL1 := Lib.hid hbl1
      clear hal hb1 hq1 hbl1 e32
      go_enter Tryd.func74, Tryd.ntmps74
      go_upto_region 3 with fail
      obtain ⟨w1, hw1⟩ : ∃ w1, (W.alloc (.cells #[.int .u8 32] 5)).setCell ⟨g, 3, none⟩ (.slice (some ⟨W.heap.size, 0, none⟩) 1 1) = w1 := ⟨_, rfl⟩
      rw [hw1] at HQ1 HBL1
      rw [hw1]
      clear k3 k3f k5' hw1
      obtain ⟨⟨A20, c20, e0⟩, ⟨A21, c21, e1⟩, ⟨A22, c22, e2⟩, A23, c23, e3⟩ := HQ1.out.forms
      obtain ⟨nv2, tv2, gv2, dv2, ds2⟩ := q1
      simp only at e0 e1 e2 e3
      subst e0 e1 e2 e3
      have hb2 := cells_of HQ1.out.blk
      have k2 : w1.cell? ⟨g, 2, none⟩ = some (.slice A21 t.length c21) := hb2.cell 2
      have HX := Lib.hid (C23.of hb2)
      have HT : Hid (w1.ownsRow B 5 1 (.slice A21 t.length c21) t.length (t.map Go.Proofs.YtkalllenggmgoaaDoor.u8)) := Lib.hid (HQ1.out.rows.cur 1 (by decide))
      have HGS : Hid (Holds w1 A22 ([32] : List UInt8).length (([32] : List UInt8).map Go.Proofs.YtkalllenggmgoaaDoor.u8)) := Lib.hid (HQ1.out.rows.src (i := 2) (by decide) rfl rfl)
      have HSZ3 : Hid (t.length + ([32] : List UInt8).length ≤ 10000010) := Lib.hid (by have := HSZ.out; simp; omega)
      clear hb2
      go_upto_region 4 with fail
      clear k2 hlt
      refine wp_region_G (S0 := (fun W : World => C23 g (.slice A21 t.length c21) (.slice A22 ([32] : List UInt8).length c22) W)) (S1 := (fun _ : World => True)) (c := 12) (by kernel_rfl) ?_
      have hHeld := HX.out
      have h01 := (fun (W : World) (h : (fun W : World => C23 g (.slice A21 t.length c21) (.slice A22 ([32] : List UInt8).length c22) W) W) => trivial)
      refine wpG_take0 (i := 0) (oi := ⟨some 19, _, _, _, _, _⟩) (v := .pointer (some ⟨g, 0, none⟩)) rfl (by kernel_rfl) (by kernel_rfl) (by kernel_rfl) (by decide) (by kernel_rfl) (fun _ _ _ h => h) rfl hHeld (Or.inl ⟨by rfl, ?_⟩) ?_
      · (intro W9 hSw; obtain ⟨v1, v2, v3⟩ := hSw; go_simp; (try (first | with_reducible rfl | rfl | (simp; done))))
      try simp only [Act.put, List.setIfInBounds_toArray, List.set_cons_zero, List.set_cons_succ]
      refine wpG_take0 (i := 1) (oi := ⟨some 20, _, _, _, _, _⟩) (v := .pointer (some ⟨g, 0, none⟩)) rfl (by kernel_rfl) (by kernel_rfl) (by kernel_rfl) (by decide) (by kernel_rfl) (fun _ _ _ h => h) rfl hHeld (Or.inl ⟨by rfl, ?_⟩) ?_
      · (intro W9 hSw; obtain ⟨v1, v2, v3⟩ := hSw; go_simp; (try (first | with_reducible rfl | rfl | (simp; done))))
      try simp only [Act.put, List.setIfInBounds_toArray, List.set_cons_zero, List.set_cons_succ]
      refine wpG_take0 (i := 2) (oi := ⟨some 21, _, _, _, _, _⟩) (v := .pointer (some ⟨g, 0, none⟩)) rfl (by kernel_rfl) (by kernel_rfl) (by kernel_rfl) (by decide) (by kernel_rfl) (fun _ _ _ h => h) rfl hHeld (Or.inl ⟨by rfl, ?_⟩) ?_
      · (intro W9 hSw; obtain ⟨v1, v2, v3⟩ := hSw; go_simp; (try (first | with_reducible rfl | rfl | (simp; done))))
      try simp only [Act.put, List.setIfInBounds_toArray, List.set_cons_zero, List.set_cons_succ]
      refine wpG_take0 (i := 3) (oi := ⟨some 22, _, _, _, _, _⟩) (v := .pointer (some ⟨g, 2, none⟩)) rfl (by kernel_rfl) (by kernel_rfl) (by kernel_rfl) (by decide) (by kernel_rfl) (fun _ _ _ h => h) rfl hHeld (Or.inl ⟨by rfl, ?_⟩) ?_
      · (intro W9 hSw; obtain ⟨v1, v2, v3⟩ := hSw; go_simp; (try (first | with_reducible rfl | rfl | (simp; done))))
      try simp only [Act.put, List.setIfInBounds_toArray, List.set_cons_zero, List.set_cons_succ]
      refine wpG_take0 (i := 4) (oi := ⟨some 23, _, _, _, _, _⟩) (v := .slice A21 t.length c21) rfl (by kernel_rfl) (by kernel_rfl) (by kernel_rfl) (by decide) (by kernel_rfl) (fun _ _ _ h => h) rfl hHeld (Or.inl ⟨by rfl, ?_⟩) ?_
      · (intro W9 hSw; obtain ⟨v1, v2, v3⟩ := hSw; go_simp; (try (first | with_reducible rfl | rfl | (simp; done))))
      try simp only [Act.put, List.setIfInBounds_toArray, List.set_cons_zero, List.set_cons_succ]
      refine wpG_take0 (i := 5) (oi := ⟨some 24, _, _, _, _, _⟩) (v := .pointer (some ⟨g, 0, none⟩)) rfl (by kernel_rfl) (by kernel_rfl) (by kernel_rfl) (by decide) (by kernel_rfl) (fun _ _ _ h => h) rfl hHeld (Or.inl ⟨by rfl, ?_⟩) ?_
      · (intro W9 hSw; obtain ⟨v1, v2, v3⟩ := hSw; go_simp; (try (first | with_reducible rfl | rfl | (simp; done))))
      try simp only [Act.put, List.setIfInBounds_toArray, List.set_cons_zero, List.set_cons_succ]
      refine wpG_take0 (i := 6) (oi := ⟨some 25, _, _, _, _, _⟩) (v := .pointer (some ⟨g, 0, none⟩)) rfl (by kernel_rfl) (by kernel_rfl) (by kernel_rfl) (by decide) (by kernel_rfl) (fun _ _ _ h => h) rfl hHeld (Or.inl ⟨by rfl, ?_⟩) ?_
      · (intro W9 hSw; obtain ⟨v1, v2, v3⟩ := hSw; go_simp; (try (first | with_reducible rfl | rfl | (simp; done))))
      try simp only [Act.put, List.setIfInBounds_toArray, List.set_cons_zero, List.set_cons_succ]
      refine wpG_take0 (i := 7) (oi := ⟨some 26, _, _, _, _, _⟩) (v := .pointer (some ⟨g, 3, none⟩)) rfl (by kernel_rfl) (by kernel_rfl) (by kernel_rfl) (by decide) (by kernel_rfl) (fun _ _ _ h => h) rfl hHeld (Or.inl ⟨by rfl, ?_⟩) ?_
      · (intro W9 hSw; obtain ⟨v1, v2, v3⟩ := hSw; go_simp; (try (first | with_reducible rfl | rfl | (simp; done))))
      try simp only [Act.put, List.setIfInBounds_toArray, List.set_cons_zero, List.set_cons_succ]
      refine wpG_take0 (i := 8) (oi := ⟨some 27, _, _, _, _, _⟩) (v := .slice A22 ([32] : List UInt8).length c22) rfl (by kernel_rfl) (by kernel_rfl) (by kernel_rfl) (by decide) (by kernel_rfl) (fun _ _ _ h => h) rfl hHeld (Or.inl ⟨by rfl, ?_⟩) ?_
      · (intro W9 hSw; obtain ⟨v1, v2, v3⟩ := hSw; go_simp; (try (first | with_reducible rfl | rfl | (simp; done))))
      try simp only [Act.put, List.setIfInBounds_toArray, List.set_cons_zero, List.set_cons_succ]
      refine wpG_oneA (i := 9) (o := ⟨some 28, _, _, _, _, _⟩) (by kernel_rfl) rfl rfl (fun K hK => ?_)
      refine step_app_own (base := B) (n := t.length) (m := ([32] : List UInt8).length) (xs := t.map Go.Proofs.YtkalllenggmgoaaDoor.u8) (news := ([32] : List UInt8).map Go.Proofs.YtkalllenggmgoaaDoor.u8) rfl (.tmp 23) (.tmp 27) 26 rfl el22 rfl (own_drew HT.out) rfl (Holds.drew HGS.out) (u8_one _) (by have := HSZ3.out; unfold maxLen; omega) (by have := HSZ3.out; omega) HQ1.out.size ?_
      intro v4 w4 hown hg hat
      obtain ⟨A44, c44, e44, -⟩ := own_form hown
      subst e44
      have hgg : w1.grownBy w4 (Value.slice A21 t.length c21).ownBlock := ⟨hg.os, hg.tape, hg.output, hg.size, hg.block⟩
      obtain ⟨hb4, hx4⟩ := HQ1.out.appText (ys := [32]) hown (Only.app0 hgg) (Hat.app0 hat)
      obtain ⟨⟨q4, hq4⟩, hbl4⟩ := hx4
      have HX4 := Lib.hid (C23.of (cells_of hb4))
      have HQ4 := Lib.hid hq4
      have HBL4 := Lib.hid (HBL1.out.trans hbl4)
      clear hown hg hat hgg hb4 hq4 hbl4
      refine hK.out _ _ HX4.out (fun hHeld => ?_)
      clear hK K
      try simp only [Act.put, List.setIfInBounds_toArray, List.set_cons_zero, List.set_cons_succ]
      refine wpG_takeA (i := 10) (oi := ⟨some 29, _, _, _, _, _⟩) (v := .pointer (some ⟨g, 0, none⟩)) rfl (by kernel_rfl) (by kernel_rfl) (by kernel_rfl) (by decide) (fun _ _ _ h => h) h01 rfl hHeld (Or.inl ⟨by rfl, ?_⟩) ?_
      · (intro W9 hSw; go_simp; (try (first | with_reducible rfl | rfl | (simp; done))))
      try simp only [Act.put, List.setIfInBounds_toArray, List.set_cons_zero, List.set_cons_succ]
      refine wpG_takeA (i := 11) (oi := ⟨some 30, _, _, _, _, _⟩) (v := .pointer (some ⟨g, 2, none⟩)) rfl (by kernel_rfl) (by kernel_rfl) (by kernel_rfl) (by decide) (fun _ _ _ h => h) h01 rfl hHeld (Or.inl ⟨by rfl, ?_⟩) ?_
      · (intro W9 hSw; go_simp; (try (first | with_reducible rfl | rfl | (simp; done))))
      try simp only [Act.put, List.setIfInBounds_toArray, List.set_cons_zero, List.set_cons_succ]
      refine wpG_oneB (i := 12) (o := ⟨none, _, _, _, _, _⟩) (by kernel_rfl) rfl rfl (fun K hK => ?_)
      obtain ⟨u1, u2, u3⟩ := HX4.out
      go_simp
      clear u1 u2 u3
      obtain ⟨w5, hw5⟩ : ∃ w5, w4.setCell ⟨g, 2, none⟩ (.slice A44 (t.length + ([32] : List UInt8).length) c44) = w5 := ⟨_, rfl⟩
      have HW5 := Lib.hid hw5
      rw [hw5] at HQ4 HBL4
      (try rw [List.length_cons, List.length_nil, Nat.zero_add] at hw5)
      rw [hw5]
      clear hw5
      have HX5 := Lib.hid (HQ4.out.blk)
      refine hK.out _ _ trivial (fun hHeld => ?_)
      clear hK K
      try simp only [Act.put, List.setIfInBounds_toArray, List.set_cons_zero, List.set_cons_succ]
      refine wpG_done (by kernel_rfl) ?_ _
      clear hHeld h01
      obtain ⟨⟨A40, c40, e0⟩, ⟨A41, c41, e1⟩, ⟨A42, c42, e2⟩, A43, c43, e3⟩ := HQ4.out.forms
      obtain ⟨nv4, tv4, gv4, dv4, ds4⟩ := q4
      simp only at e0 e1 e2 e3
      subst e0 e1 e2 e3
      have hb2 := cells_of HQ4.out.blk
      have k2 : w5.cell? ⟨g, 2, none⟩ = some (.slice A41 (t ++ [32]).length c41) := hb2.cell 2
      have HT5 : Hid (w5.ownsRow B 5 1 (.slice A41 (t ++ [32]).length c41) (t ++ [32]).length ((t ++ [32]).map Go.Proofs.YtkalllenggmgoaaDoor.u8)) := Lib.hid (HQ4.out.rows.cur 1 (by decide))
      obtain ⟨m, hm⟩ : ∃ m, (t ++ [32]).length = m := ⟨_, rfl⟩
      rw [hm] at HT5 k2
      have HM : Hid (m ≤ 10000020) := Lib.hid (by have := HSZ.out; rw [← hm]; simp; omega)
      have HMM := Lib.hid hm
      clear hb2 hm
      go_wp2_with (at_builtin; go_must (refine wpList_app_own (base := B) (n := m) (m := 1) (xs := (t ++ [32]).map Go.Proofs.YtkalllenggmgoaaDoor.u8) (news := [.int .u8 x]) rfl (.tmp 35) (.tmp 37) 26 rfl el22 rfl (own_alloc HT5.out) rfl (Holds.one _ _ _) (by simp [Value.oneCell']) (by have := HM.out; unfold maxLen; omega) (by have := HM.out; omega) (by have := HQ4.out.size; simp; omega) ?_; intro v6 w6 hown hg hat; refine Hid.out ?_))
      obtain ⟨A66, c66, e66, -⟩ := own_form hown
      subst e66
      rw [← HU.out, ← HMM.out] at hown
      obtain ⟨hb6, hx6⟩ := HQ4.out.appText (ys := [c]) hown (Only.app (HMM.out ▸ hg)) (Hat.app (HMM.out ▸ hat))
      obtain ⟨⟨q6, hq6⟩, hbl6⟩ := hx6
      have hb6 := cells_of hb6
      have j2 : w6.cell? ⟨g, 2, none⟩ = some (.slice A41 (t ++ [32]).length c41) := hb6.cell 2
      have j2f := hb6.frozen 2
      rw [HMM.out] at j2
      have HQ6 := Lib.hid hq6
      have HBL6 := Lib.hid (HBL4.out.trans hbl6)
      clear hown hg hat hb6 hq6 hbl6 k2
      refine Lib.hid ?_
      go_upto_region 6 with fail
      obtain ⟨w7, hw7⟩ : ∃ w7, w6.setCell ⟨g, 2, none⟩ (.slice A66 (m + 1) c66) = w7 := ⟨_, rfl⟩
      have e1 : Value.slice A66 ((t ++ [32]).length + 1) c66 = .slice A66 (m + 1) c66 := by rw [HMM.out]
      rw [e1] at HQ6 HBL6
      clear e1
      rw [hw7] at HQ6 HBL6
      rw [hw7]
      clear j2 j2f hw7
      obtain ⟨⟨A70, c70, e0⟩, ⟨A71, c71, e1⟩, ⟨A72, c72, e2⟩, A73, c73, e3⟩ := HQ6.out.forms
      obtain ⟨nv7, tv7, gv7, dv7, ds7⟩ := q6
      simp only at e0 e1 e2 e3
      subst e0 e1 e2 e3
      have hb7 := cells_of HQ6.out.blk
      have i3 := hb7.cell 3
      have i3f := hb7.frozen 3
      have i3' : w7.cell? ⟨g, 3, none⟩ = some (.slice A72 ([32] : List UInt8).length c72) := i3
      have HQ8 := Lib.hid HQ6.out.gapNil
      have hb8 := cells_of HQ8.out.blk
      have i5 : (w7.setCell ⟨g, 3, none⟩ (.slice none 0 0)).cell? ⟨g, 5, none⟩ = some (.bool true) := hb8.cell 5
      have i5f := hb8.frozen 5
      have HQ9 := Lib.hid (HQ8.out.spr false)
      have HBL9 := Lib.hid ((HBL6.out.trans (below_set H.out.hB HQ6.out.size 3 (.slice none 0 0))).trans (below_set H.out.hB HQ8.out.size 5 (.bool false)))
      have HR : Hid (ScX B g { (⟨⟨at_, n, t, p, op, true⟩, lo, pl, dn⟩ : Sc) with ln := Ln.put ⟨at_, n, t, p, op, true⟩ c } W _) := Lib.hid (by rw [HPUT.out]; exact ⟨⟨_, HQ9.out⟩, HBL9.out⟩)
      clear hb7 hb8 i3 HBL9 HPUT
      go_wp2_with fail
      go_ret
      exact ⟨rfl, HR.out⟩
  | false =>
    cases htz : t.isEmpty with
    | true =>
      have HPUT : Hid (Ln.put ⟨at_, n, t, p, op, false⟩ c = ⟨at_, n, t ++ [c], [], op, false⟩) := Lib.hid (put_nilfalse htz)
      obtain rfl : t = [] := by simpa using htz
      clear htz
      obtain ⟨⟨A10, c10, e0⟩, ⟨A11, c11, e1⟩, ⟨A12, c12, e2⟩, A13, c13, e3⟩ := H.out.forms
      obtain ⟨nv1, tv1, gv1, dv1, ds1⟩ := q
      simp only at e0 e1 e2 e3
      subst e0 e1 e2 e3
      have hb1 := cells_of H.out.blk
      have k5 := hb1.cell 5
      have k5' : W.cell? ⟨g, 5, none⟩ = some (.bool false) := k5
      clear k5
      clear hb1
      have HBL1 := Lib.hid (Fp.refl B g W)
      go_enter Tryd.func74, Tryd.ntmps74
      go_upto_region 3 with fail
      clear k5'
      have hb2 := cells_of H.out.blk
      have k2 : W.cell? ⟨g, 2, none⟩ = some (.slice A11 0 c11) := hb2.cell 2
      have HT5 : Hid (W.ownsRow B 5 1 (.slice A11 ([] : List UInt8).length c11) ([] : List UInt8).length (([] : List UInt8).map Go.Proofs.YtkalllenggmgoaaDoor.u8)) := Lib.hid (H.out.rows.cur 1 (by decide))
      obtain ⟨m, hm⟩ : ∃ m, ([] : List UInt8).length = m := ⟨_, rfl⟩
      rw [hm] at HT5
      have HM : Hid (m ≤ 10000020) := Lib.hid (by rw [← hm]; simp)
      have HMM := Lib.hid hm
      clear hb2 hm
      obtain rfl : m = 0 := HMM.out.symm
      go_wp2_with (at_builtin; go_must (refine wpList_app_own (base := B) (n := 0) (m := 1) (xs := ([] : List UInt8).map Go.Proofs.YtkalllenggmgoaaDoor.u8) (news := [.int .u8 x]) rfl (.tmp 35) (.tmp 37) 26 rfl el22 rfl (own_alloc HT5.out) rfl (Holds.one _ _ _) (by simp [Value.oneCell']) (by have := HM.out; unfold maxLen; omega) (by have := HM.out; omega) (by have := H.out.size; simp; omega) ?_; intro v6 w6 hown hg hat; refine Hid.out ?_))
      obtain ⟨A66, c66, e66, -⟩ := own_form hown
      subst e66
      rw [← HU.out, ← HMM.out] at hown
      obtain ⟨hb6, hx6⟩ := H.out.appText (ys := [c]) hown (Only.app (HMM.out ▸ hg)) (Hat.app (HMM.out ▸ hat))
      obtain ⟨⟨q6, hq6⟩, hbl6⟩ := hx6
      have hb6 := cells_of hb6
      have j2 : w6.cell? ⟨g, 2, none⟩ = some (.slice A11 ([] : List UInt8).length c11) := hb6.cell 2
      have j2f := hb6.frozen 2
      have j2 : w6.cell? ⟨g, 2, none⟩ = some (.slice A11 0 c11) := j2
      have HQ6 := Lib.hid hq6
      have HBL6 := Lib.hid (HBL1.out.trans hbl6)
      clear hown hg hat hb6 hq6 hbl6 k2
      refine Lib.hid ?_
      go_upto_region 6 with fail
      obtain ⟨w7, hw7⟩ : ∃ w7, w6.setCell ⟨g, 2, none⟩ (.slice A66 (0 + 1) c66) = w7 := ⟨_, rfl⟩
      have e1 : Value.slice A66 (([] : List UInt8).length + 1) c66 = .slice A66 1 c66 := rfl
      rw [e1] at HQ6 HBL6
      clear e1
      have e1 : Value.slice A66 (0 + 1) c66 = .slice A66 1 c66 := rfl
      rw [e1] at hw7
      clear e1
      rw [hw7] at HQ6 HBL6
      rw [hw7]
      clear j2 j2f hw7
      obtain ⟨⟨A70, c70, e0⟩, ⟨A71, c71, e1⟩, ⟨A72, c72, e2⟩, A73, c73, e3⟩ := HQ6.out.forms
      obtain ⟨nv7, tv7, gv7, dv7, ds7⟩ := q6
      simp only at e0 e1 e2 e3
      subst e0 e1 e2 e3
      have hb7 := cells_of HQ6.out.blk
      have i3 := hb7.cell 3
      have i3f := hb7.frozen 3
      have i3' : w7.cell? ⟨g, 3, none⟩ = some (.slice A72 (p : List UInt8).length c72) := i3
      have HQ8 := Lib.hid HQ6.out.gapNil
      have hb8 := cells_of HQ8.out.blk
      have i5 : (w7.setCell ⟨g, 3, none⟩ (.slice none 0 0)).cell? ⟨g, 5, none⟩ = some (.bool false) := hb8.cell 5
      have i5f := hb8.frozen 5
      have HQ9 := Lib.hid (HQ8.out.spr false)
      have HBL9 := Lib.hid ((HBL6.out.trans (below_set H.out.hB HQ6.out.size 3 (.slice none 0 0))).trans (below_set H.out.hB HQ8.out.size 5 (.bool false)))
      have HR : Hid (ScX B g { (⟨⟨at_, n, ([] : List UInt8), p, op, false⟩, lo, pl, dn⟩ : Sc) with ln := Ln.put ⟨at_, n, ([] : List UInt8), p, op, false⟩ c } W _) := Lib.hid (by rw [HPUT.out]; exact ⟨⟨_, HQ9.out⟩, HBL9.out⟩)
      clear hb7 hb8 i3 HBL9 HPUT
      go_wp2_with fail
      go_ret
      exact ⟨rfl, HR.out⟩
    | false =>
      have HPUT : Hid (Ln.put ⟨at_, n, t, p, op, false⟩ c = ⟨at_, n, (t ++ p) ++ [c], [], op, false⟩) := Lib.hid (put_nefalse htz)
      have hlt : 0 < t.length := by cases t with
        | nil => cases htz
        | cons => simp
      clear htz
      obtain ⟨⟨A10, c10, e0⟩, ⟨A11, c11, e1⟩, ⟨A12, c12, e2⟩, A13, c13, e3⟩ := H.out.forms
      obtain ⟨nv1, tv1, gv1, dv1, ds1⟩ := q
      simp only at e0 e1 e2 e3
      subst e0 e1 e2 e3
      have hb1 := cells_of H.out.blk
      have k5 := hb1.cell 5
      have k5' : W.cell? ⟨g, 5, none⟩ = some (.bool false) := k5
      clear k5
      clear hb1
      have HBL1 := Lib.hid (Fp.refl B g W)
      go_enter Tryd.func74, Tryd.ntmps74
      go_upto_region 3 with fail
      clear k5'
      have hb2 := cells_of H.out.blk
      have k2 : W.cell? ⟨g, 2, none⟩ = some (.slice A11 t.length c11) := hb2.cell 2
      have HX := Lib.hid (C23.of hb2)
      have HT : Hid (W.ownsRow B 5 1 (.slice A11 t.length c11) t.length (t.map Go.Proofs.YtkalllenggmgoaaDoor.u8)) := Lib.hid (H.out.rows.cur 1 (by decide))
      have HGS : Hid (Holds W A12 (p : List UInt8).length ((p : List UInt8).map Go.Proofs.YtkalllenggmgoaaDoor.u8)) := Lib.hid (H.out.rows.src (i := 2) (by decide) rfl rfl)
      have HSZ3 : Hid (t.length + (p : List UInt8).length ≤ 10000010) := Lib.hid (by have := HSZ.out; simp; omega)
      clear hb2
      go_upto_region 4 with fail
      clear k2 hlt
      refine wp_region_G (S0 := (fun W : World => C23 g (.slice A11 t.length c11) (.slice A12 (p : List UInt8).length c12) W)) (S1 := (fun _ : World => True)) (c := 12) (by kernel_rfl) ?_
      have hHeld := HX.out
      have h01 := (fun (W : World) (h : (fun W : World => C23 g (.slice A11 t.length c11) (.slice A12 (p : List UInt8).length c12) W) W) => trivial)
      refine wpG_take0 (i := 0) (oi := ⟨some 19, _, _, _, _, _⟩) (v := .pointer (some ⟨g, 0, none⟩)) rfl (by kernel_rfl) (by kernel_rfl) (by kernel_rfl) (by decide) (by kernel_rfl) (fun _ _ _ h => h) rfl hHeld (Or.inl ⟨by rfl, ?_⟩) ?_
      · (intro W9 hSw; obtain ⟨v1, v2, v3⟩ := hSw; go_simp; (try (first | with_reducible rfl | rfl | (simp; done))))
      try simp only [Act.put, List.setIfInBounds_toArray, List.set_cons_zero, List.set_cons_succ]
      refine wpG_take0 (i := 1) (oi := ⟨some 20, _, _, _, _, _⟩) (v := .pointer (some ⟨g, 0, none⟩)) rfl (by kernel_rfl) (by kernel_rfl) (by kernel_rfl) (by decide) (by kernel_rfl) (fun _ _ _ h => h) rfl hHeld (Or.inl ⟨by rfl, ?_⟩) ?_
      · (intro W9 hSw; obtain ⟨v1, v2, v3⟩ := hSw; go_simp; (try (first | with_reducible rfl | rfl | (simp; done))))
      try simp only [Act.put, List.setIfInBounds_toArray, List.set_cons_zero, List.set_cons_succ]
      refine wpG_take0 (i := 2) (oi := ⟨some 21, _, _, _, _, _⟩) (v := .pointer (some ⟨g, 0, none⟩)) rfl (by kernel_rfl) (by kernel_rfl) (by kernel_rfl) (by decide) (by kernel_rfl) (fun _ _ _ h => h) rfl hHeld (Or.inl ⟨by rfl, ?_⟩) ?_
      · (intro W9 hSw; obtain ⟨v1, v2, v3⟩ := hSw; go_simp; (try (first | with_reducible rfl | rfl | (simp; done))))
      try simp only [Act.put, List.setIfInBounds_toArray, List.set_cons_zero, List.set_cons_succ]
      refine wpG_take0 (i := 3) (oi := ⟨some 22, _, _, _, _, _⟩) (v := .pointer (some ⟨g, 2, none⟩)) rfl (by kernel_rfl) (by kernel_rfl) (by kernel_rfl) (by decide) (by kernel_rfl) (fun _ _ _ h => h) rfl hHeld (Or.inl ⟨by rfl, ?_⟩) ?_
      · (intro W9 hSw; obtain ⟨v1, v2, v3⟩ := hSw; go_simp; (try (first | with_reducible rfl | rfl | (simp; done))))
      try simp only [Act.put, List.setIfInBounds_toArray, List.set_cons_zero, List.set_cons_succ]
      refine wpG_take0 (i := 4) (oi := ⟨some 23, _, _, _, _, _⟩) (v := .slice A11 t.length c11) rfl (by kernel_rfl) (by kernel_rfl) (by kernel_rfl) (by decide) (by kernel_rfl) (fun _ _ _ h => h) rfl hHeld (Or.inl ⟨by rfl, ?_⟩) ?_
      · (intro W9 hSw; obtain ⟨v1, v2, v3⟩ := hSw; go_simp; (try (first | with_reducible rfl | rfl | (simp; done))))
      try simp only [Act.put, List.setIfInBounds_toArray, List.set_cons_zero, List.set_cons_succ]
      refine wpG_take0 (i := 5) (oi := ⟨some 24, _, _, _, _, _⟩) (v := .pointer (some ⟨g, 0, none⟩)) rfl (by kernel_rfl) (by kernel_rfl) (by kernel_rfl) (by decide) (by kernel_rfl) (fun _ _ _ h => h) rfl hHeld (Or.inl ⟨by rfl, ?_⟩) ?_
      · (intro W9 hSw; obtain ⟨v1, v2, v3⟩ := hSw; go_simp; (try (first | with_reducible rfl | rfl | (simp; done))))
      try simp only [Act.put, List.setIfInBounds_toArray, List.set_cons_zero, List.set_cons_succ]
      refine wpG_take0 (i := 6) (oi := ⟨some 25, _, _, _, _, _⟩) (v := .pointer (some ⟨g, 0, none⟩)) rfl (by kernel_rfl) (by kernel_rfl) (by kernel_rfl) (by decide) (by kernel_rfl) (fun _ _ _ h => h) rfl hHeld (Or.inl ⟨by rfl, ?_⟩) ?_
      · (intro W9 hSw; obtain ⟨v1, v2, v3⟩ := hSw; go_simp; (try (first | with_reducible rfl | rfl | (simp; done))))
      try simp only [Act.put, List.setIfInBounds_toArray, List.set_cons_zero, List.set_cons_succ]
      refine wpG_take0 (i := 7) (oi := ⟨some 26, _, _, _, _, _⟩) (v := .pointer (some ⟨g, 3, none⟩)) rfl (by kernel_rfl) (by kernel_rfl) (by kernel_rfl) (by decide) (by kernel_rfl) (fun _ _ _ h => h) rfl hHeld (Or.inl ⟨by rfl, ?_⟩) ?_
      · (intro W9 hSw; obtain ⟨v1, v2, v3⟩ := hSw; go_simp; (try (first | with_reducible rfl | rfl | (simp; done))))
      try simp only [Act.put, List.setIfInBounds_toArray, List.set_cons_zero, List.set_cons_succ]
      refine wpG_take0 (i := 8) (oi := ⟨some 27, _, _, _, _, _⟩) (v := .slice A12 (p : List UInt8).length c12) rfl (by kernel_rfl) (by kernel_rfl) (by kernel_rfl) (by decide) (by kernel_rfl) (fun _ _ _ h => h) rfl hHeld (Or.inl ⟨by rfl, ?_⟩) ?_
      · (intro W9 hSw; obtain ⟨v1, v2, v3⟩ := hSw; go_simp; (try (first | with_reducible rfl | rfl | (simp; done))))
      try simp only [Act.put, List.setIfInBounds_toArray, List.set_cons_zero, List.set_cons_succ]
      refine wpG_oneA (i := 9) (o := ⟨some 28, _, _, _, _, _⟩) (by kernel_rfl) rfl rfl (fun K hK => ?_)
      refine step_app_own (base := B) (n := t.length) (m := (p : List UInt8).length) (xs := t.map Go.Proofs.YtkalllenggmgoaaDoor.u8) (news := (p : List UInt8).map Go.Proofs.YtkalllenggmgoaaDoor.u8) rfl (.tmp 23) (.tmp 27) 26 rfl el22 rfl (own_drew HT.out) rfl (Holds.drew HGS.out) (u8_one _) (by have := HSZ3.out; unfold maxLen; omega) (by have := HSZ3.out; omega) H.out.size ?_
      intro v4 w4 hown hg hat
      obtain ⟨A44, c44, e44, -⟩ := own_form hown
      subst e44
      have hgg : W.grownBy w4 (Value.slice A11 t.length c11).ownBlock := ⟨hg.os, hg.tape, hg.output, hg.size, hg.block⟩
      obtain ⟨hb4, hx4⟩ := H.out.appText (ys := p) hown (Only.app0 hgg) (Hat.app0 hat)
      obtain ⟨⟨q4, hq4⟩, hbl4⟩ := hx4
      have HX4 := Lib.hid (C23.of (cells_of hb4))
      have HQ4 := Lib.hid hq4
      have HBL4 := Lib.hid (HBL1.out.trans hbl4)
      clear hown hg hat hgg hb4 hq4 hbl4
      refine hK.out _ _ HX4.out (fun hHeld => ?_)
      clear hK K
      try simp only [Act.put, List.setIfInBounds_toArray, List.set_cons_zero, List.set_cons_succ]
      refine wpG_takeA (i := 10) (oi := ⟨some 29, _, _, _, _, _⟩) (v := .pointer (some ⟨g, 0, none⟩)) rfl (by kernel_rfl) (by kernel_rfl) (by kernel_rfl) (by decide) (fun _ _ _ h => h) h01 rfl hHeld (Or.inl ⟨by rfl, ?_⟩) ?_
      · (intro W9 hSw; go_simp; (try (first | with_reducible rfl | rfl | (simp; done))))
      try simp only [Act.put, List.setIfInBounds_toArray, List.set_cons_zero, List.set_cons_succ]
      refine wpG_takeA (i := 11) (oi := ⟨some 30, _, _, _, _, _⟩) (v := .pointer (some ⟨g, 2, none⟩)) rfl (by kernel_rfl) (by kernel_rfl) (by kernel_rfl) (by decide) (fun _ _ _ h => h) h01 rfl hHeld (Or.inl ⟨by rfl, ?_⟩) ?_
      · (intro W9 hSw; go_simp; (try (first | with_reducible rfl | rfl | (simp; done))))
      try simp only [Act.put, List.setIfInBounds_toArray, List.set_cons_zero, List.set_cons_succ]
      refine wpG_oneB (i := 12) (o := ⟨none, _, _, _, _, _⟩) (by kernel_rfl) rfl rfl (fun K hK => ?_)
      obtain ⟨u1, u2, u3⟩ := HX4.out
      go_simp
      clear u1 u2 u3
      obtain ⟨w5, hw5⟩ : ∃ w5, w4.setCell ⟨g, 2, none⟩ (.slice A44 (t.length + (p : List UInt8).length) c44) = w5 := ⟨_, rfl⟩
      have HW5 := Lib.hid hw5
      rw [hw5] at HQ4 HBL4
      (try rw [List.length_cons, List.length_nil, Nat.zero_add] at hw5)
      rw [hw5]
      clear hw5
      have HX5 := Lib.hid (HQ4.out.blk)
      refine hK.out _ _ trivial (fun hHeld => ?_)
      clear hK K
      try simp only [Act.put, List.setIfInBounds_toArray, List.set_cons_zero, List.set_cons_succ]
      refine wpG_done (by kernel_rfl) ?_ _
      clear hHeld h01
      obtain ⟨⟨A40, c40, e0⟩, ⟨A41, c41, e1⟩, ⟨A42, c42, e2⟩, A43, c43, e3⟩ := HQ4.out.forms
      obtain ⟨nv4, tv4, gv4, dv4, ds4⟩ := q4
      simp only at e0 e1 e2 e3
      subst e0 e1 e2 e3
      have hb2 := cells_of HQ4.out.blk
      have k2 : w5.cell? ⟨g, 2, none⟩ = some (.slice A41 (t ++ p).length c41) := hb2.cell 2
      have HT5 : Hid (w5.ownsRow B 5 1 (.slice A41 (t ++ p).length c41) (t ++ p).length ((t ++ p).map Go.Proofs.YtkalllenggmgoaaDoor.u8)) := Lib.hid (HQ4.out.rows.cur 1 (by decide))
      obtain ⟨m, hm⟩ : ∃ m, (t ++ p).length = m := ⟨_, rfl⟩
      rw [hm] at HT5 k2
      have HM : Hid (m ≤ 10000020) := Lib.hid (by have := HSZ.out; rw [← hm]; simp; omega)
      have HMM := Lib.hid hm
      clear hb2 hm
      go_wp2_with (at_builtin; go_must (refine wpList_app_own (base := B) (n := m) (m := 1) (xs := (t ++ p).map Go.Proofs.YtkalllenggmgoaaDoor.u8) (news := [.int .u8 x]) rfl (.tmp 35) (.tmp 37) 26 rfl el22 rfl (own_alloc HT5.out) rfl (Holds.one _ _ _) (by simp [Value.oneCell']) (by have := HM.out; unfold maxLen; omega) (by have := HM.out; omega) (by have := HQ4.out.size; simp; omega) ?_; intro v6 w6 hown hg hat; refine Hid.out ?_))
      obtain ⟨A66, c66, e66, -⟩ := own_form hown
      subst e66
      rw [← HU.out, ← HMM.out] at hown
      obtain ⟨hb6, hx6⟩ := HQ4.out.appText (ys := [c]) hown (Only.app (HMM.out ▸ hg)) (Hat.app (HMM.out ▸ hat))
      obtain ⟨⟨q6, hq6⟩, hbl6⟩ := hx6
      have hb6 := cells_of hb6
      have j2 : w6.cell? ⟨g, 2, none⟩ = some (.slice A41 (t ++ p).length c41) := hb6.cell 2
      have j2f := hb6.frozen 2
      rw [HMM.out] at j2
      have HQ6 := Lib.hid hq6
      have HBL6 := Lib.hid (HBL4.out.trans hbl6)
      clear hown hg hat hb6 hq6 hbl6 k2
      refine Lib.hid ?_
      go_upto_region 6 with fail
      obtain ⟨w7, hw7⟩ : ∃ w7, w6.setCell ⟨g, 2, none⟩ (.slice A66 (m + 1) c66) = w7 := ⟨_, rfl⟩
      have e1 : Value.slice A66 ((t ++ p).length + 1) c66 = .slice A66 (m + 1) c66 := by rw [HMM.out]
      rw [e1] at HQ6 HBL6
      clear e1
      rw [hw7] at HQ6 HBL6
      rw [hw7]
      clear j2 j2f hw7
      obtain ⟨⟨A70, c70, e0⟩, ⟨A71, c71, e1⟩, ⟨A72, c72, e2⟩, A73, c73, e3⟩ := HQ6.out.forms
      obtain ⟨nv7, tv7, gv7, dv7, ds7⟩ := q6
      simp only at e0 e1 e2 e3
      subst e0 e1 e2 e3
      have hb7 := cells_of HQ6.out.blk
      have i3 := hb7.cell 3
      have i3f := hb7.frozen 3
      have i3' : w7.cell? ⟨g, 3, none⟩ = some (.slice A72 (p : List UInt8).length c72) := i3
      have HQ8 := Lib.hid HQ6.out.gapNil
      have hb8 := cells_of HQ8.out.blk
      have i5 : (w7.setCell ⟨g, 3, none⟩ (.slice none 0 0)).cell? ⟨g, 5, none⟩ = some (.bool false) := hb8.cell 5
      have i5f := hb8.frozen 5
      have HQ9 := Lib.hid (HQ8.out.spr false)
      have HBL9 := Lib.hid ((HBL6.out.trans (below_set H.out.hB HQ6.out.size 3 (.slice none 0 0))).trans (below_set H.out.hB HQ8.out.size 5 (.bool false)))
      have HR : Hid (ScX B g { (⟨⟨at_, n, t, p, op, false⟩, lo, pl, dn⟩ : Sc) with ln := Ln.put ⟨at_, n, t, p, op, false⟩ c } W _) := Lib.hid (by rw [HPUT.out]; exact ⟨⟨_, HQ9.out⟩, HBL9.out⟩)
      clear hb7 hb8 i3 HBL9 HPUT
      go_wp2_with fail
      go_ret
      exact ⟨rfl, HR.out⟩
end Go.Proofs.YtkalllenggmgoaaDoor
