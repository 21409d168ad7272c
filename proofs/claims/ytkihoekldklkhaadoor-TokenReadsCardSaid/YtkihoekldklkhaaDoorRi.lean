/- Rest of a reader; the iterator over its tokens. -/
import Derived.Test.YtkihoekldklkhaaDoorRh
import Derived.Test.YtkihoekldklkhaaDoorMk
namespace Go.Proofs.YtkihoekldklkhaaDoor
open Go.RowKit
attribute [local go_sem] wide_fn wide_depth wide_fn_in wide_depth_in Oper.semAt_some
set_option linter.unusedVariables false
set_option linter.unusedSimpArgs false

theorem own_none00S (w : World) (e : TypeId) (size : Nat) : (w.alloc (.cells #[] e)).ownsRow w.heap.size e size (.slice (some ⟨w.heap.size, 0, none⟩) 0 0) 0 [] := World.ownsRow_made w #[] 0 (Nat.le_refl _) (by decide) (by simp)
theorem HoldsS.alloc {w : World} {size m : Nat} {A : Option Addr} {xs : List Value} (h : HoldsS w size A m xs) (o : Obj) : HoldsS (w.alloc o) size A m xs := h.keep ((Below.refl _ w).alloc (Nat.le_refl _) o)
theorem keeps_below {w w' : World} (hb : Below w.heap.size w w') (B : Nat) : KeepsFrom B w w' := ⟨hb.size, fun k o _ hk _ => (hb.block k (Array.getElem?_eq_some_iff.1 hk).1).trans hk⟩
def LKp (F : Nat → Prop) (vs : Array Value) (X Y : World) : Prop := X.heap.size ≤ Y.heap.size ∧ ∀ k, F k → Y.heap[k]? = X.heap[k]?
theorem lkp_calm (B : Nat) (F : Nat → Prop) (hF : ∀ k, F k → k < B) (vs : Array Value) (X : World) : Calm B (LKp F vs X) := fun Y k o o' hk hY ho h =>
  ⟨by rw [size_putObj]; exact h.1, fun j hj => (World.putObj_heap_other (by have := hF j hj; omega)).trans (h.2 j hj)⟩
theorem tkc_one (L : List UInt8) (us : List Tk) : ∀ u ∈ us.flatMap (TkC L), u.oneCell' = true := by
  intro u hu
  obtain ⟨t, _, ht⟩ := List.mem_flatMap.1 hu
  simp [TkC] at ht
  rcases ht with rfl | rfl | rfl | rfl | rfl <;> rfl
set_option maxRecDepth 100000 in
set_option maxHeartbeats 1000000 in
theorem clone_any (A : Option Addr) (n c : Nat) (xs : List Value) (w : World) (h : TS 5 w A n c xs) (h1 : ∀ u ∈ xs, u.oneCell' = true) (hn : n ≤ 100000) :
    Calls Tryd.prog 33 #[.slice A n c] w fun e w' => ∃ A' c', e = .returned (.slice A' n c') ∧ w'.ownsRow w.heap.size 32 5 (.slice A' n c') n xs ∧ Below w.heap.size w w' := by
  have hc := h.z
  have hl := h.h.1
  cases A with
  | none =>
    have h0 : n = 0 := h.h.2.1 rfl
    subst h0
    obtain rfl : xs = [] := List.eq_nil_of_length_eq_zero (by omega)
    obtain rfl := hc rfl
    refine (clone_nil w).mono fun e w' hh => ⟨none, 0, hh.1, ?_, ?_⟩
    · rw [hh.2]; exact World.ownsRow_nil _ _ 32 5
    · rw [hh.2]; exact Below.refl _ _
  | some a =>
    have HS := Lib.hid h.h
    have H1 := Lib.hid h1
    have HN := Lib.hid hn
    have hnil := Lib.run_eql_slice_nil (P := Tryd.prog) w 24 32 (some a) n c 0 0 Tryd.underlying24
    simp at hnil
    clear h hn hc hl h1
    go_enter Tryd.func33, Tryd.ntmps33
    go_wp2_with (at_builtin; go_must (refine wpList_app_sz (base := w.heap.size) (n := 0) (m := n) (xs := []) (news := xs) rfl (.tmp 5) (.tmp 6) 24 rfl elT rfl (own_none00S w 32 5) rfl (HS.out.alloc _) H1.out (by have := HN.out; unfold maxLen; omega) (by have := HN.out; omega) (by simp) (by simp) ?_; intro v1 w1 hown hg; rw [Nat.zero_add, List.nil_append] at hown; obtain ⟨A9, c9, e9, -⟩ := own_formS hown; subst e9; have HO := Lib.hid hown; have HB := Lib.hid (below_own ((Below.refl w.heap.size w).alloc (Nat.le_refl _) _) (by simp) (own_none00S w 32 5) hg); clear hown hg))
    go_ret
    exact ⟨A9, c9, rfl, HO.out, HB.out⟩
set_option maxRecDepth 100000 in
set_option maxHeartbeats 1000000 in
theorem rest_any {g : Nat} {A : Option Addr} {n c : Nat} {xe ye : Int} {xs : List Value} (w : World) (h : RdS w g A n c xe ye xs) (h1 : ∀ u ∈ xs, u.oneCell' = true) (hn : n ≤ 100000) : Calls Tryd.prog 13 #[.pointer (some ⟨g, 0, none⟩)] w fun e w' => ∃ gs A' c', e = .returned (fn47 gs) ∧ w.heap.size ≤ gs ∧ Blk w' gs 24 #[.slice A' n c'] ∧ w'.ownsRow w.heap.size 32 5 (.slice A' n c') n xs ∧ Below w.heap.size w w' := by
  have C27 := Lib.hid (is_some w h)
  have C33 := Lib.hid (fun W (hb : Below w.heap.size w W) => clone_any A n c xs W (h.t.below hb) h1 hn)
  have C32 := Lib.hid (fun A' c' => values_any (.slice A' n c') rfl A' n c' rfl)
  have c0 := h.b.cell 0
  simp only [List.getElem?_toArray, List.getElem?_cons_zero, List.getElem?_cons_succ] at c0
  clear h h1 hn
  go_enter Tryd.func13, Tryd.ntmps13
  go_wp2_with (first | (go_at_call 27; (with_reducible refine C27.out.mono ?_); rintro e w2 ⟨rfl, hw2⟩; rw [hw2]) | (go_at_call 33; (with_reducible refine (C33.out _ (Below.refl _ _)).mono ?_); rintro e w3 ⟨A3, c3, rfl, hown3, hb3⟩; have HO3 := Lib.hid hown3; have HB3 := Lib.hid hb3; clear hown3 hb3) | (go_at_call 32; (with_reducible refine (C32.out _ _ _).mono ?_); rintro e w4 ⟨rfl, hw4⟩; have HW4 := Lib.hid hw4; clear hw4; unfold fn47))
  go_ret
  exact ⟨_, A3, c3, rfl, HB3.out.size, HW4.out ▸ Blk.new w3 24 _, HW4.out ▸ own_alloc HO3.out, HW4.out ▸ HB3.out.alloc HB3.out.size _⟩
/-- What the iterator yields. -/
def TAt (L : List UInt8) (us : List Tk) (i : Nat) (vs : Array Value) (W : World) : Prop := ∃ t, us[i]? = some t ∧ vs = #[.agg (TkC L t).toArray]
/-- The blocks that a round must keep. -/
def RowF (A : Option Addr) (n c : Nat) (k : Nat) : Prop := (Value.slice A n c).ownBlock = some k
set_option maxRecDepth 100000 in
set_option maxHeartbeats 1000000 in
theorem tok_iter (n : Nat) (W : World) (B g : Nat) (L : List UInt8) (us : List Tk) (A : Option Addr) (N c : Nat) (hk : Blk W g 24 #[.slice A N c]) (ho : W.ownsRow B 32 5 (.slice A N c) N (us.flatMap (TkC L))) (hl : us.length = N) (hN : N ≤ 1000) :
    Iter Fence.wide n Tryd.prog 47 #[.pointer (some ⟨g, 0, none⟩)] (TAt L us) (LKp (RowF A N c)) (fun X Y => Below X.heap.size X Y) N W := by
  intro l J Jx hJ hJx hY h0
  have c8 := hk.cell 0
  simp only [List.getElem?_toArray, List.getElem?_cons_zero, List.getElem?_cons_succ] at c8
  have hN0 : (N : Int) ≤ 1000 := by omega
  have HJ := Lib.hid hJ
  have HY := Lib.hid hY
  have HO := Lib.hid ho
  have H0 := Lib.hid h0
  have HL := Lib.hid hl
  clear hJ hJx hY hk ho h0 hN hl
  refine callsIn_of_wp Tryd.func47 rfl trivial ?_ rfl
  simp only [Tryd.ntmps47, List.size_toArray, List.length_cons, List.length_nil, Nat.reduceAdd, Nat.reduceSub, Array.replicate_succ, Array.replicate_zero, List.push_toArray, List.append_toArray, List.nil_append, List.cons_append]
  gi_wp2_with fail
  gi_loopw [7] (fun q wr => ∃ (i : Nat), (i : Int) ≤ N ∧ q = .int .i64 i ∧ Hid (J i wr) ∧ Hid (wr.ownsRow B 32 5 (.slice A N c) N (us.flatMap (TkC L)))) (fun q _ => N - (intOf q).toNat)
  case atStart => exact ⟨0, by omega, rfl, H0, HO⟩
  clear H0 HO c8
  case round =>
    obtain ⟨i, hi, rfl, HJi, HO⟩ := hrel
    have hi0 : (0 : Int) ≤ i := by omega
    by_cases hlt : (i : Int) < N
    · have hil : i < us.length := by rw [HL.out]; omega
      have HIN := Lib.hid (show i < N by omega)
      obtain ⟨ga, rfl, hcell⟩ := own_at HO.out (by omega) (Below.refl _ _)
      obtain ⟨l0, l1, l2, l3, l4⟩ := tk_get L us i hil
      have f0 := hcell _ _ l0
      have f1 := hcell _ _ l1
      have f2 := hcell _ _ l2
      have f3 := hcell _ _ l3
      have f4 := hcell _ _ l4
      have hut : us[i]? = some us[i] := List.getElem?_eq_getElem hil
      have hTC : (TkC L us[i]).toArray = #[.int .i64 ((us[i]).k : Int), .string ⟨(us[i]).t.toArray⟩, .int .i64 (us[i]).v, .int .i64 ((lcOf L (us[i]).a).1 : Int), .int .i64 ((lcOf L (us[i]).a).2 : Int)] := rfl
      have hAT : ∀ X : World, TAt L us i #[.agg #[.int .i64 ((us[i]).k : Int), .string ⟨(us[i]).t.toArray⟩, .int .i64 (us[i]).v, .int .i64 ((lcOf L (us[i]).a).1 : Int), .int .i64 ((lcOf L (us[i]).a).2 : Int)]] X := fun X => ⟨us[i], hut, by rw [hTC]⟩
      have HAT := Lib.hid hAT
      generalize ((us[i]).k : Int) = k at *
      generalize (us[i]).v = v at *
      generalize (⟨(us[i]).t.toArray⟩ : ByteArray) = s at *
      generalize ((lcOf L (us[i]).a).1 : Int) = ln at *
      generalize ((lcOf L (us[i]).a).2 : Int) = cl at *
      clear hTC hAT hut l0 l1 l2 l3 l4 hcell hil
      have hbx := (Below.refl wr.heap.size wr).alloc (Nat.le_refl _) (.cells #[.int .i64 k, .string s, .int .i64 v, .int .i64 ln, .int .i64 cl] 32)
      have HBX := Lib.hid hbx
      obtain ⟨fn, tm, asg, bod, hy, hR⟩ := HY.out i HIN.out _ _ (HJ.out _ _ _ HJi.out hbx) (HAT.out (wr.alloc (.cells #[.int .i64 k, .string s, .int .i64 v, .int .i64 ln, .int .i64 cl] 32)))
      have HR9 := Lib.hid hR
      clear hR hbx
      gi_wp2_with fail
      refine HR9.out.mono ?_
      rintro e w3 ⟨-, ⟨rfl, hJ3, hK3⟩ | ⟨rfl, hJx3⟩⟩
      · have HJ3 := Lib.hid hJ3
        have HO3 := Lib.hid (own_keeps HO.out fun q hq => (hK3.2 q hq).trans (HBX.out.block q (own_lt HO.out q hq)))
        clear hJ3 hK3
        gi_wp2_with fail
        refine ⟨⟨i + 1, by have := HIN.out; omega, by go_num, HJ3, HO3⟩, by have := HIN.out; simp [intOf]; omega⟩
      · have HJ3 := Lib.hid hJx3
        clear hJx3
        gi_wp2_with fail
        refine bodyPost_ret (results_none rfl _ _ _) rfl ?_
        exact ⟨⟨_, rfl⟩, .inr ⟨i, HIN.out, HJ3.out⟩⟩
    · have hiN : i = N := by omega
      subst hiN
      gi_wp2_with fail
      go_end0
      exact ⟨⟨_, rfl⟩, .inl HJi.out⟩

end Go.Proofs.YtkihoekldklkhaaDoor
