/- The first step of the scanner. -/
import Derived.Test.YtkalllenggmgoaaDoorFm
namespace Go.Proofs.YtkalllenggmgoaaDoor
open Go.RowKit
set_option linter.unusedVariables false
set_option linter.unusedSimpArgs false

variable {B g : Nat} {W W2 : World} {s s' : Sc} {q q' : ScV} {v2 : Value} {x : Int} {ys : List UInt8} {o : Obj}
theorem step_app_sz {P : Program} {ops : Array Oper} {o : Oper} {a : Act} {w : World} {Q : Exit → Act → World → Prop} {K : Act → World → Prop} {E : Prop} (hgd : o.guard = none) (s x : Operand) (t : TypeId) (hop : o.op = Op.call { callee := Callee.builtin Builtin.append, args := #[s, x], argTypes := #[t, t] }) {e : TypeId} {size bytes : Nat} (hE : ElS P t e size bytes) {base n m c : Nat} {v : Value} {xs news : List Value} {A : Option Addr} (hs : a.eval s = v) (hown : w.ownsRow base e size v n xs) (hx : a.eval x = .slice A m c) (hsrc : HoldsS w size A m news) (h1 : ∀ u ∈ news, u.oneCell' = true) (h63 : n + m ≤ maxLen) (hby : (n + m) * bytes ≤ 140737488355328) (hbase : base ≤ w.heap.size) (hA : A ≠ none)
    (hK : ∀ v' w', w'.ownsRow base e size v' (n + m) (xs ++ news) → w.grownBy w' v.ownBlock → K (a.put o.dst v') w') : if Region.wanted o (yielded ops a.tmps) = true then Oper.wp P o a w K Q else E := by
  obtain ⟨v', w', hrun, p1, p2⟩ := run_app_sz (ty := o.type) hE hown hsrc h1 h63 hby hbase hA
  exact step_run hgd s x t hop hs hx hrun (hK v' w' p1 p2)

set_option maxRecDepth 100000 in
theorem elL : ElS Tryd.prog 68 67 6 88 := ElS.mk' (z := .agg #[.int .i64 0, .slice none 0 0, .slice none 0 0, .slice none 0 0, .bool false, .bool false]) Tryd.underlying68 (by kernel_rfl) rfl (by decide)
/-- The cells of the line, and of the list. -/
def CL (g : Nat) (at_ : Nat) (nv tv gv dv : Value) (op sp : Bool) (W : World) : Prop := W.cell? ⟨g, 0, none⟩ = some (.int .i64 (at_ : Int)) ∧ W.cell? ⟨g, 1, none⟩ = some nv ∧ W.cell? ⟨g, 2, none⟩ = some tv ∧ W.cell? ⟨g, 3, none⟩ = some gv ∧ W.cell? ⟨g, 4, none⟩ = some (.bool op) ∧ W.cell? ⟨g, 5, none⟩ = some (.bool sp) ∧ W.cell? ⟨g, 8, none⟩ = some dv ∧ W.frozen? ⟨g, 8, none⟩ = false
theorem CL.of {g at_ : Nat} {W : World} {nv tv gv dv lo pl : Value} {op sp : Bool} (h : Blk W g 70 #[.int .i64 (at_ : Int), nv, tv, gv, .bool op, .bool sp, lo, pl, dv]) : CL g at_ nv tv gv dv op sp W := ⟨h.cell 0, h.cell 1, h.cell 2, h.cell 3, h.cell 4, h.cell 5, h.cell 8, h.frozen 8⟩
/-- Ahead of a new line: what was done is done. -/
structure Mid (B : Nat) (W : World) (g : Nat) (at_ : Nat) (nv tv gv : Value) (op sp lo : Bool) (pl : Nat) (dn : List Ln) (dv : Value) (ds : List Ld) : Prop where
  hB : B ≤ W.heap.size
  blk : Blk W g 70 #[.int .i64 (at_ : Int), nv, tv, gv, .bool op, .bool sp, .bool lo, .int .i64 (pl : Int), dv]
  rows : Rows B W (tri (.slice none 0 0) (.slice none 0 0) (.slice none 0 0)) (tri [] [] []) dv ds
  keys : ds.map Ld.key = dn.map Ln.key
def newLine (W : World) (g : Nat) (pl : Nat) : World := (((((W.setCell ⟨g, 0, none⟩ (.int .i64 (pl : Int))).setCell ⟨g, 1, none⟩ (.slice none 0 0)).setCell ⟨g, 2, none⟩ (.slice none 0 0)).setCell ⟨g, 3, none⟩ (.slice none 0 0)).setCell ⟨g, 4, none⟩ (.bool false)).setCell ⟨g, 5, none⟩ (.bool false)
theorem Mid.line {at_ pl : Nat} {nv tv gv dv : Value} {op sp lo : Bool} {dn : List Ln} {ds : List Ld} (h : Mid B W g at_ nv tv gv op sp lo pl dn dv ds) : ScX B g ⟨Ln.new pl, lo, pl, dn⟩ W (newLine W g pl) := by
  have hon : Only (fun b => b = g) W (newLine W g pl) := Only.set (p := fun b => b = g) (Only.set (p := fun b => b = g) (Only.set (p := fun b => b = g) (Only.set (p := fun b => b = g) (Only.set (p := fun b => b = g) (Only.set (p := fun b => b = g) (Only.refl _ W) (fun _ => rfl) 0 _) (fun _ => rfl) 1 _) (fun _ => rfl) 2 _) (fun _ => rfl) 3 _) (fun _ => rfl) 4 _) (fun _ => rfl) 5 _
  have hk := (((((h.blk.set_ 0 (.int .i64 (pl : Int))).set_ 1 (.slice none 0 0)).set_ 2 (.slice none 0 0)).set_ 3 (.slice none 0 0)).set_ 4 (.bool false)).set_ 5 (.bool false)
  simp only [List.setIfInBounds_toArray, List.set_cons_zero, List.set_cons_succ] at hk
  obtain ⟨h1, h2, h3⟩ := h.rows.ne h.blk
  exact ⟨⟨⟨.slice none 0 0, .slice none 0 0, .slice none 0 0, dv, ds⟩, Nat.le_trans h.hB hon.size, hk, h.rows.only hon h1 h2 h3, h.keys⟩, hon.mono fun b _ e => .inl e⟩
theorem keys_snoc {ds : List Ld} {dn : List Ln} (h : ds.map Ld.key = dn.map Ln.key) {d : Ld} {l : Ln} (hd : d.key = l.key) : (ds ++ [d]).map Ld.key = (dn ++ [l]).map Ln.key := by simp [h, hd]

set_option maxRecDepth 100000 in
set_option maxHeartbeats 1000000 in
theorem begin_any : StepC 56 0 := by
  intro B g W s q h hs c
  obtain ⟨b1, b2, b3, b4, b5, b6, b7⟩ := byteF c
  have CW := Lib.hid (wait_any h hs c)
  have H := Lib.hid h
  have k13 : (((({ data := #[13, 10] } : ByteArray)[0]'(by decide)).toNat : Nat) : Int) = 13 := rfl
  have k10 : (((({ data := #[13, 10] } : ByteArray)[1]'(by decide)).toNat : Nat) : Int) = 10 := rfl
  have e0 : stepF 0 s c = sBegin s c := rfl
  rw [e0]
  obtain ⟨⟨A0, c0, e0⟩, ⟨A1, c1, e1⟩, ⟨A2, c2, e2⟩, A3, c3, e3⟩ := h.forms
  have hlen := h.ds_len
  obtain ⟨nv, tv, gv, dv, ds⟩ := q
  obtain ⟨⟨at_, n, t, p, op, sp⟩, lo, pl, dn⟩ := s
  simp only at e0 e1 e2 e3 hlen
  subst e0 e1 e2 e3
  have HBLK := Lib.hid (cells_of h.blk)
  have HROW := Lib.hid h.rows
  have HKEYS := Lib.hid h.keys
  have HLEN := Lib.hid hlen
  have hdn0 := h.rows.dn
  simp only at hdn0
  rw [hlen] at hdn0
  have HDN := Lib.hid hdn0
  have HB := Lib.hid h.size
  have HHB := Lib.hid h.hB
  have HSZ : Hid (dn.length ≤ 100) := Lib.hid hs.dn
  obtain ⟨x, hx⟩ : ∃ x : Int, (c.toNat : Int) = x := ⟨_, rfl⟩
  have HXX := Lib.hid hx
  rw [hx] at b1 b3 b4 CW ⊢
  obtain ⟨d4, n4⟩ := of_dec b4
  clear h hs hx b2 b4 b5 b6 b7 hlen hdn0
  cases op with
  | false =>
    have hnA : ¬ (lo && (false && blank c)) = true := by simp
    have HMID : Hid (Mid B W g at_ (.slice A0 n.length c0) (.slice A1 t.length c1) (.slice A2 p.length c2) false sp lo pl dn (.slice A3 dn.length c3) ds) := Lib.hid ⟨HHB.out, HBLK.out, HROW.out.fresh, HKEYS.out⟩
    have HBL5 := Lib.hid (Fp.refl B g W)
    have hx4 : W.cell? ⟨g, 4, none⟩ = some (.bool false) := HBLK.out.cell 4
    have hx6 : W.cell? ⟨g, 6, none⟩ = some (.bool lo) := HBLK.out.cell 6
    clear b3
    cases lo with
    | true =>
      go_enter Tryd.func56, Tryd.ntmps56
      go_upto_region 7 with fail
      clear hx4 hx6
      have hm7 := HMID.out.blk
      have i0 := hm7.cell 0; have i1 := hm7.cell 1; have i2 := hm7.cell 2; have i3 := hm7.cell 3; have i4 := hm7.cell 4; have i5 := hm7.cell 5
      have r0 := hm7.frozen 0; have r1 := hm7.frozen 1; have r2 := hm7.frozen 2; have r3 := hm7.frozen 3; have r4 := hm7.frozen 4; have r5 := hm7.frozen 5
      have i7 : W.cell? ⟨g, 7, none⟩ = some (.int .i64 (pl : Int)) := hm7.cell 7
      have HL7 := Lib.hid HMID.out.line
      clear hm7
      go_upto_region 8 with fail
      obtain ⟨w7, hw7⟩ : ∃ w7, newLine W g pl = w7 := ⟨_, rfl⟩
      have hw8 := hw7
      unfold newLine at hw8
      rw [hw7] at HL7
      rw [hw8]
      clear hw7 hw8 i0 i1 i2 i3 i4 i5 r0 r1 r2 r3 r4 r5 i7
      obtain ⟨⟨q7, hq7⟩, hbl7⟩ := HL7.out
      have HQ7 := Lib.hid hq7
      have HBL7 := Lib.hid (HBL5.out.trans hbl7)
      clear hq7 hbl7
      cases h13 : (x == 13) with
      | true =>
        have HR := Lib.hid (show sBegin ⟨⟨at_, n, t, p, false, sp⟩, true, pl, dn⟩ c = (7, ⟨Ln.new pl, true, pl, dn⟩) by unfold sBegin; rw [if_neg hnA, if_pos (d4 h13)]; rfl)
        clear d4 n4 b1
        go_wp2_with fail
        go_ret
        rw [HR.out]
        exact ⟨rfl, ⟨_, HQ7.out⟩, HBL7.out⟩
      | false =>
        cases hn : namedI x with
        | false =>
          have HR := Lib.hid (show sBegin ⟨⟨at_, n, t, p, false, sp⟩, true, pl, dn⟩ c = (9, ⟨Ln.new pl, true, pl, dn⟩) by unfold sBegin; rw [if_neg hnA, if_neg (n4 h13), b1, hn]; rfl)
          clear d4 n4 b1
          go_wp2_with (go_at_call 32; (with_reducible refine (named_any _ _).mono ?_); rintro e w8 ⟨rfl, rfl⟩)
          go_ret
          rw [HR.out]
          exact ⟨rfl, ⟨_, HQ7.out⟩, HBL7.out⟩
        | true =>
          obtain ⟨⟨E0, f0, z0⟩, ⟨E1, f1, z1⟩, ⟨E2, f2, z2⟩, E3, f3, z3⟩ := HQ7.out.forms
          obtain ⟨nv7, tv7, gv7, dv7, ds7⟩ := q7
          simp only at z0 z1 z2 z3
          subst z0 z1 z2 z3
          have m8 : w7.cell? ⟨g, 8, none⟩ = some (.slice E3 (dn : List Ln).length f3) := HQ7.out.blk.cell 8
          obtain ⟨m, hm⟩ : ∃ m, (dn : List Ln).length = m := ⟨_, rfl⟩
          rw [hm] at m8
          have hdm : (Sc.dn ⟨⟨at_, n, t, p, false, sp⟩, true, pl, dn⟩).length = m := by rw [← hm]; rfl
          cases hl : decide ((m : Int) < 100) with
          | false =>
            have hl2 : decide (m < 100) = false := by simp at hl ⊢; omega
            have HR := Lib.hid (show sBegin ⟨⟨at_, n, t, p, false, sp⟩, true, pl, dn⟩ c = (9, ⟨Ln.new pl, true, pl, dn⟩) by unfold sBegin; rw [if_neg hnA, if_neg (n4 h13), b1, hn, hdm, hl2]; rfl)
            clear d4 n4 b1 hm hdm hl2
            go_wp2_with (go_at_call 32; (with_reducible refine (named_any _ _).mono ?_); rintro e w8 ⟨rfl, rfl⟩)
            go_ret
            rw [HR.out]
            exact ⟨rfl, ⟨_, HQ7.out⟩, HBL7.out⟩
          | true =>
            have hl2 : decide (m < 100) = true := by simp at hl ⊢; omega
            have hl3 : m < 100 := by simpa using hl2
            have HR := Lib.hid (show sBegin ⟨⟨at_, n, t, p, false, sp⟩, true, pl, dn⟩ c = (1, ⟨{ Ln.new pl with name := [c], opn := true }, true, pl, dn⟩) by unfold sBegin; rw [if_neg hnA, if_neg (n4 h13), b1, hn, hdm, hl2]; rfl)
            have hx9 := HQ7.out.nameOne c
            rw [HXX.out] at hx9
            have hal := HQ7.out.blk.alloc (.cells #[.int .u8 x] 5)
            have m1 : (w7.alloc (.cells #[.int .u8 x] 5)).cell? ⟨g, 1, none⟩ = some (.slice E0 0 f0) := hal.cell 1
            have m1f := hal.frozen 1
            obtain ⟨⟨q9, hq9⟩, hbl9⟩ := hx9
            have m4 : ((w7.alloc (.cells #[.int .u8 x] 5)).setCell ⟨g, 1, none⟩ (.slice (some ⟨w7.heap.size, 0, none⟩) 1 1)).cell? ⟨g, 4, none⟩ = some (.bool false) := hq9.blk.cell 4
            have m4f := hq9.blk.frozen 4
            have HQ9 := Lib.hid (hq9.opn true)
            have HBL9 := Lib.hid ((HBL7.out.trans hbl9).trans (below_set HHB.out (Nat.le_trans HB.out ((HBL7.out.trans hbl9).size)) 4 (.bool true)))
            clear d4 n4 b1 hm hdm hl2 hal hq9 hbl9 hl
            go_wp2_with (go_at_call 32; (with_reducible refine (named_any _ _).mono ?_); rintro e w8 ⟨rfl, rfl⟩)
            go_ret
            rw [HR.out]
            exact ⟨rfl, ⟨_, HQ9.out⟩, HBL9.out⟩
    | false =>
      go_enter Tryd.func56, Tryd.ntmps56
      go_upto_region 7 with fail
      clear hx4 hx6
      have hm7 := HMID.out.blk
      have i0 := hm7.cell 0; have i1 := hm7.cell 1; have i2 := hm7.cell 2; have i3 := hm7.cell 3; have i4 := hm7.cell 4; have i5 := hm7.cell 5
      have r0 := hm7.frozen 0; have r1 := hm7.frozen 1; have r2 := hm7.frozen 2; have r3 := hm7.frozen 3; have r4 := hm7.frozen 4; have r5 := hm7.frozen 5
      have i7 : W.cell? ⟨g, 7, none⟩ = some (.int .i64 (pl : Int)) := hm7.cell 7
      have HL7 := Lib.hid HMID.out.line
      clear hm7
      go_upto_region 8 with fail
      obtain ⟨w7, hw7⟩ : ∃ w7, newLine W g pl = w7 := ⟨_, rfl⟩
      have hw8 := hw7
      unfold newLine at hw8
      rw [hw7] at HL7
      rw [hw8]
      clear hw7 hw8 i0 i1 i2 i3 i4 i5 r0 r1 r2 r3 r4 r5 i7
      obtain ⟨⟨q7, hq7⟩, hbl7⟩ := HL7.out
      have HQ7 := Lib.hid hq7
      have HBL7 := Lib.hid (HBL5.out.trans hbl7)
      clear hq7 hbl7
      cases h13 : (x == 13) with
      | true =>
        have HR := Lib.hid (show sBegin ⟨⟨at_, n, t, p, false, sp⟩, false, pl, dn⟩ c = (7, ⟨Ln.new pl, false, pl, dn⟩) by unfold sBegin; rw [if_neg hnA, if_pos (d4 h13)]; rfl)
        clear d4 n4 b1
        go_wp2_with fail
        go_ret
        rw [HR.out]
        exact ⟨rfl, ⟨_, HQ7.out⟩, HBL7.out⟩
      | false =>
        cases hn : namedI x with
        | false =>
          have HR := Lib.hid (show sBegin ⟨⟨at_, n, t, p, false, sp⟩, false, pl, dn⟩ c = (9, ⟨Ln.new pl, false, pl, dn⟩) by unfold sBegin; rw [if_neg hnA, if_neg (n4 h13), b1, hn]; rfl)
          clear d4 n4 b1
          go_wp2_with (go_at_call 32; (with_reducible refine (named_any _ _).mono ?_); rintro e w8 ⟨rfl, rfl⟩)
          go_ret
          rw [HR.out]
          exact ⟨rfl, ⟨_, HQ7.out⟩, HBL7.out⟩
        | true =>
          obtain ⟨⟨E0, f0, z0⟩, ⟨E1, f1, z1⟩, ⟨E2, f2, z2⟩, E3, f3, z3⟩ := HQ7.out.forms
          obtain ⟨nv7, tv7, gv7, dv7, ds7⟩ := q7
          simp only at z0 z1 z2 z3
          subst z0 z1 z2 z3
          have m8 : w7.cell? ⟨g, 8, none⟩ = some (.slice E3 (dn : List Ln).length f3) := HQ7.out.blk.cell 8
          obtain ⟨m, hm⟩ : ∃ m, (dn : List Ln).length = m := ⟨_, rfl⟩
          rw [hm] at m8
          have hdm : (Sc.dn ⟨⟨at_, n, t, p, false, sp⟩, false, pl, dn⟩).length = m := by rw [← hm]; rfl
          cases hl : decide ((m : Int) < 100) with
          | false =>
            have hl2 : decide (m < 100) = false := by simp at hl ⊢; omega
            have HR := Lib.hid (show sBegin ⟨⟨at_, n, t, p, false, sp⟩, false, pl, dn⟩ c = (9, ⟨Ln.new pl, false, pl, dn⟩) by unfold sBegin; rw [if_neg hnA, if_neg (n4 h13), b1, hn, hdm, hl2]; rfl)
            clear d4 n4 b1 hm hdm hl2
            go_wp2_with (go_at_call 32; (with_reducible refine (named_any _ _).mono ?_); rintro e w8 ⟨rfl, rfl⟩)
            go_ret
            rw [HR.out]
            exact ⟨rfl, ⟨_, HQ7.out⟩, HBL7.out⟩
          | true =>
            have hl2 : decide (m < 100) = true := by simp at hl ⊢; omega
            have hl3 : m < 100 := by simpa using hl2
            have HR := Lib.hid (show sBegin ⟨⟨at_, n, t, p, false, sp⟩, false, pl, dn⟩ c = (1, ⟨{ Ln.new pl with name := [c], opn := true }, false, pl, dn⟩) by unfold sBegin; rw [if_neg hnA, if_neg (n4 h13), b1, hn, hdm, hl2]; rfl)
            have hx9 := HQ7.out.nameOne c
            rw [HXX.out] at hx9
            have hal := HQ7.out.blk.alloc (.cells #[.int .u8 x] 5)
            have m1 : (w7.alloc (.cells #[.int .u8 x] 5)).cell? ⟨g, 1, none⟩ = some (.slice E0 0 f0) := hal.cell 1
            have m1f := hal.frozen 1
            obtain ⟨⟨q9, hq9⟩, hbl9⟩ := hx9
            have m4 : ((w7.alloc (.cells #[.int .u8 x] 5)).setCell ⟨g, 1, none⟩ (.slice (some ⟨w7.heap.size, 0, none⟩) 1 1)).cell? ⟨g, 4, none⟩ = some (.bool false) := hq9.blk.cell 4
            have m4f := hq9.blk.frozen 4
            have HQ9 := Lib.hid (hq9.opn true)
            have HBL9 := Lib.hid ((HBL7.out.trans hbl9).trans (below_set HHB.out (Nat.le_trans HB.out ((HBL7.out.trans hbl9).size)) 4 (.bool true)))
            clear d4 n4 b1 hm hdm hl2 hal hq9 hbl9 hl
            go_wp2_with (go_at_call 32; (with_reducible refine (named_any _ _).mono ?_); rintro e w8 ⟨rfl, rfl⟩)
            go_ret
            rw [HR.out]
            exact ⟨rfl, ⟨_, HQ9.out⟩, HBL9.out⟩
  | true =>
    have hx4 : W.cell? ⟨g, 4, none⟩ = some (.bool true) := HBLK.out.cell 4
    have hx6 : W.cell? ⟨g, 6, none⟩ = some (.bool lo) := HBLK.out.cell 6
    have HX := Lib.hid (show CL g at_ (.slice A0 n.length c0) (.slice A1 t.length c1) (.slice A2 p.length c2) (.slice A3 dn.length c3) true sp W.drew from CL.of HBLK.out)
    have HXA := Lib.hid (show CL g at_ (.slice A0 n.length c0) (.slice A1 t.length c1) (.slice A2 p.length c2) (.slice A3 dn.length c3) true sp (W.alloc (.cells #[.int .i64 (at_ : Int), .slice A0 n.length c0, .slice A1 t.length c1, .slice A2 p.length c2, .bool true, .bool sp] 67)).drew from CL.of (HBLK.out.alloc (.cells #[.int .i64 (at_ : Int), .slice A0 n.length c0, .slice A1 t.length c1, .slice A2 p.length c2, .bool true, .bool sp] 67)))
    cases lo with
    | false =>
      have hnA : ¬ (false && (true && blank c)) = true := by simp
      clear b3
      go_enter Tryd.func56, Tryd.ntmps56
      go_upto_region 6 with fail
      clear hx4 hx6
      refine wp_region_G (S0 := (CL g at_ (.slice A0 n.length c0) (.slice A1 t.length c1) (.slice A2 p.length c2) (.slice A3 dn.length c3) true sp)) (S1 := (fun _ : World => True)) (c := 13) (by kernel_rfl) ?_
      have hHeld := HX.out
      have h01 := (fun (W : World) (h : (CL g at_ (.slice A0 n.length c0) (.slice A1 t.length c1) (.slice A2 p.length c2) (.slice A3 dn.length c3) true sp) W) => trivial)
      refine wpG_take0 (i := 0) (oi := ⟨some 34, _, _, _, _, _⟩) (v := .pointer (some ⟨g, 0, none⟩)) rfl (by kernel_rfl) (by kernel_rfl) (by kernel_rfl) (by decide) (by kernel_rfl) (fun _ _ _ h => h) rfl hHeld (Or.inl ⟨by rfl, ?_⟩) ?_
      · (intro W9 hSw; obtain ⟨v1, v2, v3, v4, v5, v6, v7, v8⟩ := hSw; go_simp; (try (first | with_reducible rfl | rfl | (simp; done))))
      try simp only [Act.put, List.setIfInBounds_toArray, List.set_cons_zero, List.set_cons_succ]
      refine wpG_take0 (i := 1) (oi := ⟨some 35, _, _, _, _, _⟩) (v := .pointer (some ⟨g, 0, none⟩)) rfl (by kernel_rfl) (by kernel_rfl) (by kernel_rfl) (by decide) (by kernel_rfl) (fun _ _ _ h => h) rfl hHeld (Or.inl ⟨by rfl, ?_⟩) ?_
      · (intro W9 hSw; obtain ⟨v1, v2, v3, v4, v5, v6, v7, v8⟩ := hSw; go_simp; (try (first | with_reducible rfl | rfl | (simp; done))))
      try simp only [Act.put, List.setIfInBounds_toArray, List.set_cons_zero, List.set_cons_succ]
      refine wpG_take0 (i := 2) (oi := ⟨some 36, _, _, _, _, _⟩) (v := .pointer (some ⟨g, 0, none⟩)) rfl (by kernel_rfl) (by kernel_rfl) (by kernel_rfl) (by decide) (by kernel_rfl) (fun _ _ _ h => h) rfl hHeld (Or.inl ⟨by rfl, ?_⟩) ?_
      · (intro W9 hSw; obtain ⟨v1, v2, v3, v4, v5, v6, v7, v8⟩ := hSw; go_simp; (try (first | with_reducible rfl | rfl | (simp; done))))
      try simp only [Act.put, List.setIfInBounds_toArray, List.set_cons_zero, List.set_cons_succ]
      refine wpG_take0 (i := 3) (oi := ⟨some 37, _, _, _, _, _⟩) (v := .pointer (some ⟨g, 8, none⟩)) rfl (by kernel_rfl) (by kernel_rfl) (by kernel_rfl) (by decide) (by kernel_rfl) (fun _ _ _ h => h) rfl hHeld (Or.inl ⟨by rfl, ?_⟩) ?_
      · (intro W9 hSw; obtain ⟨v1, v2, v3, v4, v5, v6, v7, v8⟩ := hSw; go_simp; (try (first | with_reducible rfl | rfl | (simp; done))))
      try simp only [Act.put, List.setIfInBounds_toArray, List.set_cons_zero, List.set_cons_succ]
      refine wpG_take0 (i := 4) (oi := ⟨some 38, _, _, _, _, _⟩) (v := .slice A3 dn.length c3) rfl (by kernel_rfl) (by kernel_rfl) (by kernel_rfl) (by decide) (by kernel_rfl) (fun _ _ _ h => h) rfl hHeld (Or.inl ⟨by rfl, ?_⟩) ?_
      · (intro W9 hSw; obtain ⟨v1, v2, v3, v4, v5, v6, v7, v8⟩ := hSw; go_simp; (try (first | with_reducible rfl | rfl | (simp; done))))
      try simp only [Act.put, List.setIfInBounds_toArray, List.set_cons_zero, List.set_cons_succ]
      refine wpG_take0 (i := 5) (oi := ⟨some 39, _, _, _, _, _⟩) (v := .pointer (some ⟨g, 0, none⟩)) rfl (by kernel_rfl) (by kernel_rfl) (by kernel_rfl) (by decide) (by kernel_rfl) (fun _ _ _ h => h) rfl hHeld (Or.inl ⟨by rfl, ?_⟩) ?_
      · (intro W9 hSw; obtain ⟨v1, v2, v3, v4, v5, v6, v7, v8⟩ := hSw; go_simp; (try (first | with_reducible rfl | rfl | (simp; done))))
      try simp only [Act.put, List.setIfInBounds_toArray, List.set_cons_zero, List.set_cons_succ]
      refine wpG_take0 (i := 6) (oi := ⟨some 40, _, _, _, _, _⟩) (v := .pointer (some ⟨g, 0, none⟩)) rfl (by kernel_rfl) (by kernel_rfl) (by kernel_rfl) (by decide) (by kernel_rfl) (fun _ _ _ h => h) rfl hHeld (Or.inl ⟨by rfl, ?_⟩) ?_
      · (intro W9 hSw; obtain ⟨v1, v2, v3, v4, v5, v6, v7, v8⟩ := hSw; go_simp; (try (first | with_reducible rfl | rfl | (simp; done))))
      try simp only [Act.put, List.setIfInBounds_toArray, List.set_cons_zero, List.set_cons_succ]
      refine wpG_take0 (i := 7) (oi := ⟨some 41, _, _, _, _, _⟩) (v := .pointer (some ⟨g, 0, none⟩)) rfl (by kernel_rfl) (by kernel_rfl) (by kernel_rfl) (by decide) (by kernel_rfl) (fun _ _ _ h => h) rfl hHeld (Or.inl ⟨by rfl, ?_⟩) ?_
      · (intro W9 hSw; obtain ⟨v1, v2, v3, v4, v5, v6, v7, v8⟩ := hSw; go_simp; (try (first | with_reducible rfl | rfl | (simp; done))))
      try simp only [Act.put, List.setIfInBounds_toArray, List.set_cons_zero, List.set_cons_succ]
      refine wpG_take0 (i := 8) (oi := ⟨some 42, _, _, _, _, _⟩) (v := .agg #[.int .i64 (at_ : Int), .slice A0 n.length c0, .slice A1 t.length c1, .slice A2 p.length c2, .bool true, .bool sp]) rfl (by kernel_rfl) (by kernel_rfl) (by kernel_rfl) (by decide) (by kernel_rfl) (fun _ _ _ h => h) rfl hHeld (Or.inl ⟨by rfl, ?_⟩) ?_
      · (intro W9 hSw; obtain ⟨v1, v2, v3, v4, v5, v6, v7, v8⟩ := hSw; go_simp; (try (first | with_reducible rfl | rfl | (simp; done))))
      try simp only [Act.put, List.setIfInBounds_toArray, List.set_cons_zero, List.set_cons_succ]
      refine wpG_oneA (i := 9) (o := ⟨some 43, _, _, _, _, _⟩) (by kernel_rfl) rfl rfl (fun K hK => ?_)
      obtain ⟨u1, u2, u3, u4, u5, u6, u7, u8⟩ := HX.out
      go_simp
      clear u1 u2 u3 u4 u5 u6 u7 u8
      refine hK.out _ _ HXA.out (fun hHeld => ?_)
      clear hK K
      try simp only [Act.put, List.setIfInBounds_toArray, List.set_cons_zero, List.set_cons_succ]
      refine wpG_oneA (i := 10) (o := ⟨some 44, _, _, _, _, _⟩) (by kernel_rfl) rfl rfl (fun K hK => ?_)
      refine step_app_sz (base := B) (n := dn.length) (m := 1) (xs := ds.flatMap Ld.cells) (news := [.int .i64 (at_ : Int), .slice A0 n.length c0, .slice A1 t.length c1, .slice A2 p.length c2, .bool true, .bool sp]) rfl (.tmp 38) (.tmp 43) 68 rfl elL rfl (own_drew (own_alloc HDN.out)) rfl (HoldsS.new W 6 1 [.int .i64 (at_ : Int), .slice A0 n.length c0, .slice A1 t.length c1, .slice A2 p.length c2, .bool true, .bool sp] 67 rfl) (by simp [Value.oneCell']) (by have := HSZ.out; unfold maxLen; omega) (by have := HSZ.out; omega) (by have := HB.out; show B ≤ (W.alloc _).heap.size; simp; omega) (by simp) ?_
      intro v9 w9 hown hg
      obtain ⟨A9, c9, e9, -⟩ := own_formS hown
      subst e9
      have hgg : (W.alloc (.cells #[.int .i64 (at_ : Int), .slice A0 n.length c0, .slice A1 t.length c1, .slice A2 p.length c2, .bool true, .bool sp] 67)).grownBy w9 (Value.slice A3 dn.length c3).ownBlock := ⟨hg.os, hg.tape, hg.output, hg.size, hg.block⟩
      have ho9 := Only.app hgg
      have hrw := HROW.out.push (o := true) (s := sp) (at_ := at_) (v2 := .slice A9 (dn.length + 1) c9) ho9 (by have h1 := HLEN.out; simp only [List.length_append, List.flatMap_append, List.flatMap_cons, List.flatMap_nil, List.append_nil, h1]; exact hown)
      have hbk : Blk w9 g 70 _ := HBLK.out.only ho9 (fun e => (HROW.out.ne HBLK.out).2.1 g e rfl)
      have hbl : Fp B g W w9 := only_below HB.out (fun k hk => (HDN.out.lt k hk).1) ho9
      have HX9 := Lib.hid (CL.of hbk)
      have HRW := Lib.hid hrw
      have HBK := Lib.hid hbk
      have HBL := Lib.hid hbl
      clear hown hg hgg ho9 hrw hbk hbl
      refine hK.out _ _ HX9.out (fun hHeld => ?_)
      clear hK K
      try simp only [Act.put, List.setIfInBounds_toArray, List.set_cons_zero, List.set_cons_succ]
      refine wpG_takeA (i := 11) (oi := ⟨some 45, _, _, _, _, _⟩) (v := .pointer (some ⟨g, 0, none⟩)) rfl (by kernel_rfl) (by kernel_rfl) (by kernel_rfl) (by decide) (fun _ _ _ h => h) h01 rfl hHeld (Or.inl ⟨by rfl, ?_⟩) ?_
      · (intro W9 hSw; go_simp; (try (first | with_reducible rfl | rfl | (simp; done))))
      try simp only [Act.put, List.setIfInBounds_toArray, List.set_cons_zero, List.set_cons_succ]
      refine wpG_takeA (i := 12) (oi := ⟨some 46, _, _, _, _, _⟩) (v := .pointer (some ⟨g, 8, none⟩)) rfl (by kernel_rfl) (by kernel_rfl) (by kernel_rfl) (by decide) (fun _ _ _ h => h) h01 rfl hHeld (Or.inl ⟨by rfl, ?_⟩) ?_
      · (intro W9 hSw; go_simp; (try (first | with_reducible rfl | rfl | (simp; done))))
      try simp only [Act.put, List.setIfInBounds_toArray, List.set_cons_zero, List.set_cons_succ]
      refine wpG_oneB (i := 13) (o := ⟨none, _, _, _, _, _⟩) (by kernel_rfl) rfl rfl (fun K hK => ?_)
      obtain ⟨u1, u2, u3, u4, u5, u6, u7, u8⟩ := HX9.out
      go_simp
      clear u1 u2 u3 u4 u5 u6 u7 u8
      obtain ⟨w5, hw5⟩ : ∃ w5, w9.setCell ⟨g, 8, none⟩ (.slice A9 (dn.length + 1) c9) = w5 := ⟨_, rfl⟩
      have hbk2 := HBK.out.set_ 8 (.slice A9 (dn.length + 1) c9)
      simp only [List.setIfInBounds_toArray, List.set_cons_zero, List.set_cons_succ] at hbk2
      have hrw2 := HRW.out.set HBK.out 8 (.slice A9 (dn.length + 1) c9)
      have hbl2 := HBL.out.trans (below_set HHB.out (Nat.le_trans HB.out HBL.out.size) 8 (.slice A9 (dn.length + 1) c9))
      rw [hw5] at hbk2 hrw2 hbl2
      rw [hw5]
      have HMID := Lib.hid (show Mid B w5 g at_ _ _ _ _ _ false pl (dn ++ [⟨at_, n, t, p, true, sp⟩]) _ _ from ⟨Nat.le_trans HB.out hbl2.size, hbk2, hrw2, keys_snoc HKEYS.out rfl⟩)
      have HBL5 := Lib.hid hbl2
      clear hbk2 hrw2 hbl2 hw5
      refine hK.out _ _ trivial (fun hHeld => ?_)
      clear hK K
      try simp only [Act.put, List.setIfInBounds_toArray, List.set_cons_zero, List.set_cons_succ]
      refine wpG_done (by kernel_rfl) ?_ _
      clear hHeld h01
      have hm7 := HMID.out.blk
      have i0 := hm7.cell 0; have i1 := hm7.cell 1; have i2 := hm7.cell 2; have i3 := hm7.cell 3; have i4 := hm7.cell 4; have i5 := hm7.cell 5
      have r0 := hm7.frozen 0; have r1 := hm7.frozen 1; have r2 := hm7.frozen 2; have r3 := hm7.frozen 3; have r4 := hm7.frozen 4; have r5 := hm7.frozen 5
      have i7 : w5.cell? ⟨g, 7, none⟩ = some (.int .i64 (pl : Int)) := hm7.cell 7
      have HL7 := Lib.hid HMID.out.line
      clear hm7
      go_upto_region 8 with fail
      obtain ⟨w7, hw7⟩ : ∃ w7, newLine w5 g pl = w7 := ⟨_, rfl⟩
      have hw8 := hw7
      unfold newLine at hw8
      rw [hw7] at HL7
      rw [hw8]
      clear hw7 hw8 i0 i1 i2 i3 i4 i5 r0 r1 r2 r3 r4 r5 i7
      obtain ⟨⟨q7, hq7⟩, hbl7⟩ := HL7.out
      have HQ7 := Lib.hid hq7
      have HBL7 := Lib.hid (HBL5.out.trans hbl7)
      clear hq7 hbl7
      cases h13 : (x == 13) with
      | true =>
        have HR := Lib.hid (show sBegin ⟨⟨at_, n, t, p, true, sp⟩, false, pl, dn⟩ c = (7, ⟨Ln.new pl, false, pl, (dn ++ [⟨at_, n, t, p, true, sp⟩])⟩) by unfold sBegin; rw [if_neg hnA, if_pos (d4 h13)]; rfl)
        clear d4 n4 b1
        go_wp2_with fail
        go_ret
        rw [HR.out]
        exact ⟨rfl, ⟨_, HQ7.out⟩, HBL7.out⟩
      | false =>
        cases hn : namedI x with
        | false =>
          have HR := Lib.hid (show sBegin ⟨⟨at_, n, t, p, true, sp⟩, false, pl, dn⟩ c = (9, ⟨Ln.new pl, false, pl, (dn ++ [⟨at_, n, t, p, true, sp⟩])⟩) by unfold sBegin; rw [if_neg hnA, if_neg (n4 h13), b1, hn]; rfl)
          clear d4 n4 b1
          go_wp2_with (go_at_call 32; (with_reducible refine (named_any _ _).mono ?_); rintro e w8 ⟨rfl, rfl⟩)
          go_ret
          rw [HR.out]
          exact ⟨rfl, ⟨_, HQ7.out⟩, HBL7.out⟩
        | true =>
          obtain ⟨⟨E0, f0, z0⟩, ⟨E1, f1, z1⟩, ⟨E2, f2, z2⟩, E3, f3, z3⟩ := HQ7.out.forms
          obtain ⟨nv7, tv7, gv7, dv7, ds7⟩ := q7
          simp only at z0 z1 z2 z3
          subst z0 z1 z2 z3
          have m8 : w7.cell? ⟨g, 8, none⟩ = some (.slice E3 ((dn ++ [⟨at_, n, t, p, true, sp⟩]) : List Ln).length f3) := HQ7.out.blk.cell 8
          obtain ⟨m, hm⟩ : ∃ m, ((dn ++ [⟨at_, n, t, p, true, sp⟩]) : List Ln).length = m := ⟨_, rfl⟩
          rw [hm] at m8
          have hdm : (Sc.dn ⟨⟨at_, n, t, p, true, sp⟩, false, pl, dn⟩).length = m := by rw [← hm]; rfl
          cases hl : decide ((m : Int) < 100) with
          | false =>
            have hl2 : decide (m < 100) = false := by simp at hl ⊢; omega
            have HR := Lib.hid (show sBegin ⟨⟨at_, n, t, p, true, sp⟩, false, pl, dn⟩ c = (9, ⟨Ln.new pl, false, pl, (dn ++ [⟨at_, n, t, p, true, sp⟩])⟩) by unfold sBegin; rw [if_neg hnA, if_neg (n4 h13), b1, hn, hdm, hl2]; rfl)
            clear d4 n4 b1 hm hdm hl2
            go_wp2_with (go_at_call 32; (with_reducible refine (named_any _ _).mono ?_); rintro e w8 ⟨rfl, rfl⟩)
            go_ret
            rw [HR.out]
            exact ⟨rfl, ⟨_, HQ7.out⟩, HBL7.out⟩
          | true =>
            have hl2 : decide (m < 100) = true := by simp at hl ⊢; omega
            have hl3 : m < 100 := by simpa using hl2
            have HR := Lib.hid (show sBegin ⟨⟨at_, n, t, p, true, sp⟩, false, pl, dn⟩ c = (1, ⟨{ Ln.new pl with name := [c], opn := true }, false, pl, (dn ++ [⟨at_, n, t, p, true, sp⟩])⟩) by unfold sBegin; rw [if_neg hnA, if_neg (n4 h13), b1, hn, hdm, hl2]; rfl)
            have hx9 := HQ7.out.nameOne c
            rw [HXX.out] at hx9
            have hal := HQ7.out.blk.alloc (.cells #[.int .u8 x] 5)
            have m1 : (w7.alloc (.cells #[.int .u8 x] 5)).cell? ⟨g, 1, none⟩ = some (.slice E0 0 f0) := hal.cell 1
            have m1f := hal.frozen 1
            obtain ⟨⟨q9, hq9⟩, hbl9⟩ := hx9
            have m4 : ((w7.alloc (.cells #[.int .u8 x] 5)).setCell ⟨g, 1, none⟩ (.slice (some ⟨w7.heap.size, 0, none⟩) 1 1)).cell? ⟨g, 4, none⟩ = some (.bool false) := hq9.blk.cell 4
            have m4f := hq9.blk.frozen 4
            have HQ9 := Lib.hid (hq9.opn true)
            have HBL9 := Lib.hid ((HBL7.out.trans hbl9).trans (below_set HHB.out (Nat.le_trans HB.out ((HBL7.out.trans hbl9).size)) 4 (.bool true)))
            clear d4 n4 b1 hm hdm hl2 hal hq9 hbl9 hl
            go_wp2_with (go_at_call 32; (with_reducible refine (named_any _ _).mono ?_); rintro e w8 ⟨rfl, rfl⟩)
            go_ret
            rw [HR.out]
            exact ⟨rfl, ⟨_, HQ9.out⟩, HBL9.out⟩
    | true =>
      cases hb : blankI x with
      | true =>
        have HR := Lib.hid (show sBegin ⟨⟨at_, n, t, p, true, sp⟩, true, pl, dn⟩ c = (4, ⟨{ Ln.wait ⟨at_, n, t, p, true, sp⟩ c with spr := true }, true, pl, dn⟩) by unfold sBegin; rw [if_pos (by rw [b3, hb]; rfl)])
        clear b3 d4 n4 b1
        go_enter Tryd.func56, Tryd.ntmps56
        go_upto_region 3 with (first | (go_at_call 72; (with_reducible refine (blank_any _ _).mono ?_); rintro e w1 ⟨rfl, rfl⟩) | (go_at_call 73; (with_reducible refine CW.out.mono ?_); rintro e w1 ⟨rfl, hx1⟩; have HX1 := Lib.hid hx1; clear hx1))
        clear hx4 hx6
        obtain ⟨⟨q1, hq1⟩, hbl1⟩ := HX1.out
        have m5 := hq1.blk.cell 5
        have m5f := hq1.blk.frozen 5
        have m5' : w1.cell? ⟨g, 5, none⟩ = some (.bool (Ln.wait ⟨at_, n, t, p, true, sp⟩ c).spr) := m5
        have HQ9 := Lib.hid (hq1.spr true)
        have HBL9 := Lib.hid (hbl1.trans (below_set HHB.out hq1.size 5 (.bool true)))
        clear m5 hq1 hbl1
        generalize (Ln.wait ⟨at_, n, t, p, true, sp⟩ c).spr = sq at m5'
        go_wp2_with fail
        go_ret
        rw [HR.out]
        exact ⟨rfl, ⟨_, HQ9.out⟩, HBL9.out⟩
      | false =>
        have hnA : ¬ (true && (true && blank c)) = true := by rw [b3, hb]; decide
        clear b3
        go_enter Tryd.func56, Tryd.ntmps56
        go_upto_region 6 with (go_at_call 72; (with_reducible refine (blank_any _ _).mono ?_); rintro e W ⟨rfl, rfl⟩)
        clear hx4 hx6
        refine wp_region_G (S0 := (CL g at_ (.slice A0 n.length c0) (.slice A1 t.length c1) (.slice A2 p.length c2) (.slice A3 dn.length c3) true sp)) (S1 := (fun _ : World => True)) (c := 13) (by kernel_rfl) ?_
        have hHeld := HX.out
        have h01 := (fun (W : World) (h : (CL g at_ (.slice A0 n.length c0) (.slice A1 t.length c1) (.slice A2 p.length c2) (.slice A3 dn.length c3) true sp) W) => trivial)
        refine wpG_take0 (i := 0) (oi := ⟨some 34, _, _, _, _, _⟩) (v := .pointer (some ⟨g, 0, none⟩)) rfl (by kernel_rfl) (by kernel_rfl) (by kernel_rfl) (by decide) (by kernel_rfl) (fun _ _ _ h => h) rfl hHeld (Or.inl ⟨by rfl, ?_⟩) ?_
        · (intro W9 hSw; obtain ⟨v1, v2, v3, v4, v5, v6, v7, v8⟩ := hSw; go_simp; (try (first | with_reducible rfl | rfl | (simp; done))))
        try simp only [Act.put, List.setIfInBounds_toArray, List.set_cons_zero, List.set_cons_succ]
        refine wpG_take0 (i := 1) (oi := ⟨some 35, _, _, _, _, _⟩) (v := .pointer (some ⟨g, 0, none⟩)) rfl (by kernel_rfl) (by kernel_rfl) (by kernel_rfl) (by decide) (by kernel_rfl) (fun _ _ _ h => h) rfl hHeld (Or.inl ⟨by rfl, ?_⟩) ?_
        · (intro W9 hSw; obtain ⟨v1, v2, v3, v4, v5, v6, v7, v8⟩ := hSw; go_simp; (try (first | with_reducible rfl | rfl | (simp; done))))
        try simp only [Act.put, List.setIfInBounds_toArray, List.set_cons_zero, List.set_cons_succ]
        refine wpG_take0 (i := 2) (oi := ⟨some 36, _, _, _, _, _⟩) (v := .pointer (some ⟨g, 0, none⟩)) rfl (by kernel_rfl) (by kernel_rfl) (by kernel_rfl) (by decide) (by kernel_rfl) (fun _ _ _ h => h) rfl hHeld (Or.inl ⟨by rfl, ?_⟩) ?_
        · (intro W9 hSw; obtain ⟨v1, v2, v3, v4, v5, v6, v7, v8⟩ := hSw; go_simp; (try (first | with_reducible rfl | rfl | (simp; done))))
        try simp only [Act.put, List.setIfInBounds_toArray, List.set_cons_zero, List.set_cons_succ]
        refine wpG_take0 (i := 3) (oi := ⟨some 37, _, _, _, _, _⟩) (v := .pointer (some ⟨g, 8, none⟩)) rfl (by kernel_rfl) (by kernel_rfl) (by kernel_rfl) (by decide) (by kernel_rfl) (fun _ _ _ h => h) rfl hHeld (Or.inl ⟨by rfl, ?_⟩) ?_
        · (intro W9 hSw; obtain ⟨v1, v2, v3, v4, v5, v6, v7, v8⟩ := hSw; go_simp; (try (first | with_reducible rfl | rfl | (simp; done))))
        try simp only [Act.put, List.setIfInBounds_toArray, List.set_cons_zero, List.set_cons_succ]
        refine wpG_take0 (i := 4) (oi := ⟨some 38, _, _, _, _, _⟩) (v := .slice A3 dn.length c3) rfl (by kernel_rfl) (by kernel_rfl) (by kernel_rfl) (by decide) (by kernel_rfl) (fun _ _ _ h => h) rfl hHeld (Or.inl ⟨by rfl, ?_⟩) ?_
        · (intro W9 hSw; obtain ⟨v1, v2, v3, v4, v5, v6, v7, v8⟩ := hSw; go_simp; (try (first | with_reducible rfl | rfl | (simp; done))))
        try simp only [Act.put, List.setIfInBounds_toArray, List.set_cons_zero, List.set_cons_succ]
        refine wpG_take0 (i := 5) (oi := ⟨some 39, _, _, _, _, _⟩) (v := .pointer (some ⟨g, 0, none⟩)) rfl (by kernel_rfl) (by kernel_rfl) (by kernel_rfl) (by decide) (by kernel_rfl) (fun _ _ _ h => h) rfl hHeld (Or.inl ⟨by rfl, ?_⟩) ?_
        · (intro W9 hSw; obtain ⟨v1, v2, v3, v4, v5, v6, v7, v8⟩ := hSw; go_simp; (try (first | with_reducible rfl | rfl | (simp; done))))
        try simp only [Act.put, List.setIfInBounds_toArray, List.set_cons_zero, List.set_cons_succ]
        refine wpG_take0 (i := 6) (oi := ⟨some 40, _, _, _, _, _⟩) (v := .pointer (some ⟨g, 0, none⟩)) rfl (by kernel_rfl) (by kernel_rfl) (by kernel_rfl) (by decide) (by kernel_rfl) (fun _ _ _ h => h) rfl hHeld (Or.inl ⟨by rfl, ?_⟩) ?_
        · (intro W9 hSw; obtain ⟨v1, v2, v3, v4, v5, v6, v7, v8⟩ := hSw; go_simp; (try (first | with_reducible rfl | rfl | (simp; done))))
        try simp only [Act.put, List.setIfInBounds_toArray, List.set_cons_zero, List.set_cons_succ]
        refine wpG_take0 (i := 7) (oi := ⟨some 41, _, _, _, _, _⟩) (v := .pointer (some ⟨g, 0, none⟩)) rfl (by kernel_rfl) (by kernel_rfl) (by kernel_rfl) (by decide) (by kernel_rfl) (fun _ _ _ h => h) rfl hHeld (Or.inl ⟨by rfl, ?_⟩) ?_
        · (intro W9 hSw; obtain ⟨v1, v2, v3, v4, v5, v6, v7, v8⟩ := hSw; go_simp; (try (first | with_reducible rfl | rfl | (simp; done))))
        try simp only [Act.put, List.setIfInBounds_toArray, List.set_cons_zero, List.set_cons_succ]
        refine wpG_take0 (i := 8) (oi := ⟨some 42, _, _, _, _, _⟩) (v := .agg #[.int .i64 (at_ : Int), .slice A0 n.length c0, .slice A1 t.length c1, .slice A2 p.length c2, .bool true, .bool sp]) rfl (by kernel_rfl) (by kernel_rfl) (by kernel_rfl) (by decide) (by kernel_rfl) (fun _ _ _ h => h) rfl hHeld (Or.inl ⟨by rfl, ?_⟩) ?_
        · (intro W9 hSw; obtain ⟨v1, v2, v3, v4, v5, v6, v7, v8⟩ := hSw; go_simp; (try (first | with_reducible rfl | rfl | (simp; done))))
        try simp only [Act.put, List.setIfInBounds_toArray, List.set_cons_zero, List.set_cons_succ]
        refine wpG_oneA (i := 9) (o := ⟨some 43, _, _, _, _, _⟩) (by kernel_rfl) rfl rfl (fun K hK => ?_)
        obtain ⟨u1, u2, u3, u4, u5, u6, u7, u8⟩ := HX.out
        go_simp
        clear u1 u2 u3 u4 u5 u6 u7 u8
        refine hK.out _ _ HXA.out (fun hHeld => ?_)
        clear hK K
        try simp only [Act.put, List.setIfInBounds_toArray, List.set_cons_zero, List.set_cons_succ]
        refine wpG_oneA (i := 10) (o := ⟨some 44, _, _, _, _, _⟩) (by kernel_rfl) rfl rfl (fun K hK => ?_)
        refine step_app_sz (base := B) (n := dn.length) (m := 1) (xs := ds.flatMap Ld.cells) (news := [.int .i64 (at_ : Int), .slice A0 n.length c0, .slice A1 t.length c1, .slice A2 p.length c2, .bool true, .bool sp]) rfl (.tmp 38) (.tmp 43) 68 rfl elL rfl (own_drew (own_alloc HDN.out)) rfl (HoldsS.new W 6 1 [.int .i64 (at_ : Int), .slice A0 n.length c0, .slice A1 t.length c1, .slice A2 p.length c2, .bool true, .bool sp] 67 rfl) (by simp [Value.oneCell']) (by have := HSZ.out; unfold maxLen; omega) (by have := HSZ.out; omega) (by have := HB.out; show B ≤ (W.alloc _).heap.size; simp; omega) (by simp) ?_
        intro v9 w9 hown hg
        obtain ⟨A9, c9, e9, -⟩ := own_formS hown
        subst e9
        have hgg : (W.alloc (.cells #[.int .i64 (at_ : Int), .slice A0 n.length c0, .slice A1 t.length c1, .slice A2 p.length c2, .bool true, .bool sp] 67)).grownBy w9 (Value.slice A3 dn.length c3).ownBlock := ⟨hg.os, hg.tape, hg.output, hg.size, hg.block⟩
        have ho9 := Only.app hgg
        have hrw := HROW.out.push (o := true) (s := sp) (at_ := at_) (v2 := .slice A9 (dn.length + 1) c9) ho9 (by have h1 := HLEN.out; simp only [List.length_append, List.flatMap_append, List.flatMap_cons, List.flatMap_nil, List.append_nil, h1]; exact hown)
        have hbk : Blk w9 g 70 _ := HBLK.out.only ho9 (fun e => (HROW.out.ne HBLK.out).2.1 g e rfl)
        have hbl : Fp B g W w9 := only_below HB.out (fun k hk => (HDN.out.lt k hk).1) ho9
        have HX9 := Lib.hid (CL.of hbk)
        have HRW := Lib.hid hrw
        have HBK := Lib.hid hbk
        have HBL := Lib.hid hbl
        clear hown hg hgg ho9 hrw hbk hbl
        refine hK.out _ _ HX9.out (fun hHeld => ?_)
        clear hK K
        try simp only [Act.put, List.setIfInBounds_toArray, List.set_cons_zero, List.set_cons_succ]
        refine wpG_takeA (i := 11) (oi := ⟨some 45, _, _, _, _, _⟩) (v := .pointer (some ⟨g, 0, none⟩)) rfl (by kernel_rfl) (by kernel_rfl) (by kernel_rfl) (by decide) (fun _ _ _ h => h) h01 rfl hHeld (Or.inl ⟨by rfl, ?_⟩) ?_
        · (intro W9 hSw; go_simp; (try (first | with_reducible rfl | rfl | (simp; done))))
        try simp only [Act.put, List.setIfInBounds_toArray, List.set_cons_zero, List.set_cons_succ]
        refine wpG_takeA (i := 12) (oi := ⟨some 46, _, _, _, _, _⟩) (v := .pointer (some ⟨g, 8, none⟩)) rfl (by kernel_rfl) (by kernel_rfl) (by kernel_rfl) (by decide) (fun _ _ _ h => h) h01 rfl hHeld (Or.inl ⟨by rfl, ?_⟩) ?_
        · (intro W9 hSw; go_simp; (try (first | with_reducible rfl | rfl | (simp; done))))
        try simp only [Act.put, List.setIfInBounds_toArray, List.set_cons_zero, List.set_cons_succ]
        refine wpG_oneB (i := 13) (o := ⟨none, _, _, _, _, _⟩) (by kernel_rfl) rfl rfl (fun K hK => ?_)
        obtain ⟨u1, u2, u3, u4, u5, u6, u7, u8⟩ := HX9.out
        go_simp
        clear u1 u2 u3 u4 u5 u6 u7 u8
        obtain ⟨w5, hw5⟩ : ∃ w5, w9.setCell ⟨g, 8, none⟩ (.slice A9 (dn.length + 1) c9) = w5 := ⟨_, rfl⟩
        have hbk2 := HBK.out.set_ 8 (.slice A9 (dn.length + 1) c9)
        simp only [List.setIfInBounds_toArray, List.set_cons_zero, List.set_cons_succ] at hbk2
        have hrw2 := HRW.out.set HBK.out 8 (.slice A9 (dn.length + 1) c9)
        have hbl2 := HBL.out.trans (below_set HHB.out (Nat.le_trans HB.out HBL.out.size) 8 (.slice A9 (dn.length + 1) c9))
        rw [hw5] at hbk2 hrw2 hbl2
        rw [hw5]
        have HMID := Lib.hid (show Mid B w5 g at_ _ _ _ _ _ true pl (dn ++ [⟨at_, n, t, p, true, sp⟩]) _ _ from ⟨Nat.le_trans HB.out hbl2.size, hbk2, hrw2, keys_snoc HKEYS.out rfl⟩)
        have HBL5 := Lib.hid hbl2
        clear hbk2 hrw2 hbl2 hw5
        refine hK.out _ _ trivial (fun hHeld => ?_)
        clear hK K
        try simp only [Act.put, List.setIfInBounds_toArray, List.set_cons_zero, List.set_cons_succ]
        refine wpG_done (by kernel_rfl) ?_ _
        clear hHeld h01
        have hm7 := HMID.out.blk
        have i0 := hm7.cell 0; have i1 := hm7.cell 1; have i2 := hm7.cell 2; have i3 := hm7.cell 3; have i4 := hm7.cell 4; have i5 := hm7.cell 5
        have r0 := hm7.frozen 0; have r1 := hm7.frozen 1; have r2 := hm7.frozen 2; have r3 := hm7.frozen 3; have r4 := hm7.frozen 4; have r5 := hm7.frozen 5
        have i7 : w5.cell? ⟨g, 7, none⟩ = some (.int .i64 (pl : Int)) := hm7.cell 7
        have HL7 := Lib.hid HMID.out.line
        clear hm7
        go_upto_region 8 with fail
        obtain ⟨w7, hw7⟩ : ∃ w7, newLine w5 g pl = w7 := ⟨_, rfl⟩
        have hw8 := hw7
        unfold newLine at hw8
        rw [hw7] at HL7
        rw [hw8]
        clear hw7 hw8 i0 i1 i2 i3 i4 i5 r0 r1 r2 r3 r4 r5 i7
        obtain ⟨⟨q7, hq7⟩, hbl7⟩ := HL7.out
        have HQ7 := Lib.hid hq7
        have HBL7 := Lib.hid (HBL5.out.trans hbl7)
        clear hq7 hbl7
        cases h13 : (x == 13) with
        | true =>
          have HR := Lib.hid (show sBegin ⟨⟨at_, n, t, p, true, sp⟩, true, pl, dn⟩ c = (7, ⟨Ln.new pl, true, pl, (dn ++ [⟨at_, n, t, p, true, sp⟩])⟩) by unfold sBegin; rw [if_neg hnA, if_pos (d4 h13)]; rfl)
          clear d4 n4 b1
          go_wp2_with fail
          go_ret
          rw [HR.out]
          exact ⟨rfl, ⟨_, HQ7.out⟩, HBL7.out⟩
        | false =>
          cases hn : namedI x with
          | false =>
            have HR := Lib.hid (show sBegin ⟨⟨at_, n, t, p, true, sp⟩, true, pl, dn⟩ c = (9, ⟨Ln.new pl, true, pl, (dn ++ [⟨at_, n, t, p, true, sp⟩])⟩) by unfold sBegin; rw [if_neg hnA, if_neg (n4 h13), b1, hn]; rfl)
            clear d4 n4 b1
            go_wp2_with (go_at_call 32; (with_reducible refine (named_any _ _).mono ?_); rintro e w8 ⟨rfl, rfl⟩)
            go_ret
            rw [HR.out]
            exact ⟨rfl, ⟨_, HQ7.out⟩, HBL7.out⟩
          | true =>
            obtain ⟨⟨E0, f0, z0⟩, ⟨E1, f1, z1⟩, ⟨E2, f2, z2⟩, E3, f3, z3⟩ := HQ7.out.forms
            obtain ⟨nv7, tv7, gv7, dv7, ds7⟩ := q7
            simp only at z0 z1 z2 z3
            subst z0 z1 z2 z3
            have m8 : w7.cell? ⟨g, 8, none⟩ = some (.slice E3 ((dn ++ [⟨at_, n, t, p, true, sp⟩]) : List Ln).length f3) := HQ7.out.blk.cell 8
            obtain ⟨m, hm⟩ : ∃ m, ((dn ++ [⟨at_, n, t, p, true, sp⟩]) : List Ln).length = m := ⟨_, rfl⟩
            rw [hm] at m8
            have hdm : (Sc.dn ⟨⟨at_, n, t, p, true, sp⟩, true, pl, dn⟩).length = m := by rw [← hm]; rfl
            cases hl : decide ((m : Int) < 100) with
            | false =>
              have hl2 : decide (m < 100) = false := by simp at hl ⊢; omega
              have HR := Lib.hid (show sBegin ⟨⟨at_, n, t, p, true, sp⟩, true, pl, dn⟩ c = (9, ⟨Ln.new pl, true, pl, (dn ++ [⟨at_, n, t, p, true, sp⟩])⟩) by unfold sBegin; rw [if_neg hnA, if_neg (n4 h13), b1, hn, hdm, hl2]; rfl)
              clear d4 n4 b1 hm hdm hl2
              go_wp2_with (go_at_call 32; (with_reducible refine (named_any _ _).mono ?_); rintro e w8 ⟨rfl, rfl⟩)
              go_ret
              rw [HR.out]
              exact ⟨rfl, ⟨_, HQ7.out⟩, HBL7.out⟩
            | true =>
              have hl2 : decide (m < 100) = true := by simp at hl ⊢; omega
              have hl3 : m < 100 := by simpa using hl2
              have HR := Lib.hid (show sBegin ⟨⟨at_, n, t, p, true, sp⟩, true, pl, dn⟩ c = (1, ⟨{ Ln.new pl with name := [c], opn := true }, true, pl, (dn ++ [⟨at_, n, t, p, true, sp⟩])⟩) by unfold sBegin; rw [if_neg hnA, if_neg (n4 h13), b1, hn, hdm, hl2]; rfl)
              have hx9 := HQ7.out.nameOne c
              rw [HXX.out] at hx9
              have hal := HQ7.out.blk.alloc (.cells #[.int .u8 x] 5)
              have m1 : (w7.alloc (.cells #[.int .u8 x] 5)).cell? ⟨g, 1, none⟩ = some (.slice E0 0 f0) := hal.cell 1
              have m1f := hal.frozen 1
              obtain ⟨⟨q9, hq9⟩, hbl9⟩ := hx9
              have m4 : ((w7.alloc (.cells #[.int .u8 x] 5)).setCell ⟨g, 1, none⟩ (.slice (some ⟨w7.heap.size, 0, none⟩) 1 1)).cell? ⟨g, 4, none⟩ = some (.bool false) := hq9.blk.cell 4
              have m4f := hq9.blk.frozen 4
              have HQ9 := Lib.hid (hq9.opn true)
              have HBL9 := Lib.hid ((HBL7.out.trans hbl9).trans (below_set HHB.out (Nat.le_trans HB.out ((HBL7.out.trans hbl9).size)) 4 (.bool true)))
              clear d4 n4 b1 hm hdm hl2 hal hq9 hbl9 hl
              go_wp2_with (go_at_call 32; (with_reducible refine (named_any _ _).mono ?_); rintro e w8 ⟨rfl, rfl⟩)
              go_ret
              rw [HR.out]
              exact ⟨rfl, ⟨_, HQ9.out⟩, HBL9.out⟩
end Go.Proofs.YtkalllenggmgoaaDoor
