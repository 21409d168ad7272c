/- The reference's sealed and Encode. -/
import Derived.Test.YtibkhjpjneoabaaFc
import Derived.Test.YtibkhjpjneoabaaVrRefF
namespace Go.Proofs.Ytibkhjpjneoabaa
open Go.RowKit
set_option linter.unusedVariables false
set_option linter.unusedSimpArgs false

set_option maxRecDepth 100000 in
set_option maxHeartbeats 1000000 in
theorem sealed_any (k m c : Int) (h0 : 0 ≤ c) (h3 : c ≤ 3) (A : Option Addr) (n cap : Nat) (l : List UInt8) (w : World) (hr : RB w A n cap l) (hn : n ≤ 50000) :
    Calls Try.prog 30 #[FV k m c, .slice A n cap] w (Bytes1 w (n + tailN c) (l ++ sumB c l)) := by
  unfold FV
  obtain ⟨w1, hw1⟩ : ∃ w1, w.alloc (.cells #[.int .i64 k, .int .i64 m, .int .i64 c] 24) = w1 := ⟨_, rfl⟩
  have hb1 : Below w.heap.size w w1 := hw1 ▸ (Below.refl _ w).alloc (Nat.le_refl _) _
  have kf : Blk w1 w.heap.size 24 #[.int .i64 k, .int .i64 m, .int .i64 c] := hw1 ▸ Blk.new w 24 _
  have f2 := kf.cell 2
  simp only [List.getElem?_toArray, List.getElem?_cons_zero, List.getElem?_cons_succ] at f2
  have HB1 := Lib.hid hb1
  have KF := Lib.hid kf
  have HR := Lib.hid (hr.below hb1)
  have HN := Lib.hid hn
  have HW1 := Lib.hid hw1
  clear hb1 kf hr hn hw1
  go_enter Try.func30, Try.ntmps30
  go_upto_region 1 with fail
  rw [HW1.out]
  clear HW1
  go_wp2_with (at_builtin; go_must (refine wpList_app_own (base := w1.heap.size) (n := 0) (m := n) (xs := []) (news := l.map u8) rfl (.tmp 10) (.tmp 11) 28 rfl el22 rfl (own_none00 w1 5) rfl (HR.out.h.alloc _) (u8_one l) (by have := HN.out; unfold maxLen; omega) (by have := HN.out; omega) (by simp) ?_; intro v2 w2 hown hg _; refine Hid.out ?_))
  refine Lib.hid ?_
  rw [Nat.zero_add, List.nil_append] at hown
  obtain ⟨A2, c2, rfl, -⟩ := own_form hown
  have hb2 := below_own ((Below.refl w1.heap.size w1).alloc (Nat.le_refl _) _) (by simp) (own_none00 w1 5) hg
  have HO2 := Lib.hid hown
  have HB2 := Lib.hid hb2
  have KF2 := Lib.hid (KF.out.below hb2 KF.out.lt)
  have HR2 := Lib.hid (HR.out.below hb2)
  clear hown hg hb2 f2
  have f2 := KF2.out.cell 2
  simp only [List.getElem?_toArray, List.getElem?_cons_zero, List.getElem?_cons_succ] at f2
  by_cases hc : c = 0
  · subst hc
    have HL := Lib.hid HR2.out.len
    go_wp2_with fail
    go_ret
    refine ⟨A2, c2, rfl, ?_, HB1.out.trans (HB2.out.mono HB1.out.size)⟩
    simp only [tailN, if_true, Nat.add_zero, sumB, List.append_nil]
    exact own_base HO2.out HB1.out.size
  · have q : decide (0 < c) = true := by simp; omega
    have hrg := chk_range (k := c) (by omega) h3 l
    have C43 := Lib.hid (fun W (hb : Below w2.heap.size w2 W) => Ck.rsum_any c A n cap l W (HR2.out.below hb).len (by have := HN.out; omega) (HR2.out.below hb).bs)
    have e2 : Ck.valS c l = Ck.chkS c l := by unfold Ck.valS; rw [if_pos ⟨by omega, h3⟩]
    have e3 : Ck.noS c = 0 := by unfold Ck.noS; rw [if_pos ⟨by omega, h3⟩]
    rw [e2, e3] at C43
    have C44 := Lib.hid (fun W => rbytes_of_sum c (Ck.chkS c l) (by omega) h3 hrg.1 hrg.2 W)
    have e1 : sumB c l = Ck.bytS c (Ck.chkS c l) := by unfold sumB; rw [if_neg hc]
    have HE := Lib.hid e1
    generalize Ck.chkS c l = v at *
    clear hc hrg e1 e2 e3 h0 h3
    go_wp2_with (first
      | (go_at_call 43; (with_reducible refine (C43.out _ (Below.refl _ _)).mono ?_); rintro e w3 ⟨rfl, rfl⟩)
      | (go_at_call 44; (with_reducible refine (C44.out _).mono ?_); rintro e w4 ⟨A4, c4, rfl, ho, b4⟩; have HO4 := Lib.hid ho; have HB4 := Lib.hid b4; have HO24 := Lib.hid (own_keeps HO2.out fun g hg => b4.block g (own_lt HO2.out g hg)); clear ho b4)
      | (at_builtin; go_must (refine wpList_app_own (base := w1.heap.size) (n := n) (m := tailN c) (xs := l.map u8) (news := (Ck.bytS c v).map u8) rfl (.tmp 30) (.tmp 31) 28 rfl el22 rfl HO24.out rfl (holds_own HO4.out) (u8_one _) (by have := HN.out; have := tailN_le c; unfold maxLen; omega) (by have := HN.out; have := tailN_le c; omega) (Nat.le_trans HB2.out.size HB4.out.size) ?_; intro v6 w6 hown hg _; obtain ⟨A6, c6, rfl, -⟩ := own_form hown; have HO6 := Lib.hid hown; have HB6 := Lib.hid (below_own (HB2.out.trans (HB4.out.mono HB2.out.size)) (Nat.le_trans HB2.out.size HB4.out.size) HO24.out hg); clear hown hg)))
    go_ret
    refine ⟨A6, c6, rfl, ?_, HB1.out.trans (HB6.out.mono HB1.out.size)⟩
    rw [List.map_append, HE.out]
    exact own_base HO6.out HB1.out.size
end Go.Proofs.Ytibkhjpjneoabaa
