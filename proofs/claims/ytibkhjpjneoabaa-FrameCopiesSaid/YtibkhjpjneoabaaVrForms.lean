/- The contract of the iterator that varint.Forms returns. -/
import Derived.Test.YtibkhjpjneoabaaRows
import Derived.Test.YtibkhjpjneoabaaVrGen
import Derived.Test.YtibkhjpjneoabaaVrRd
import Derived.Shelf.Abstract
import Derived.Shelf.RegionOpen
import Derived.TacticsInMore
import Derived.LoopNIn
import Derived.LoopIn
import Derived.Maps.AppendAt
import Derived.Deep.DeepMust
namespace Go.Proofs.Ytibkhjpjneoabaa.Vr
open Go.RowKit
attribute [local go_sem] wide_fn wide_depth wide_fn_in wide_depth_in

theorem info5 : (Try.prog.info? 5).map (fun i => (i.zero, i.size, i.bytes)) = some (some (.int .u8 0), 1, 1) := by kernel_rfl

set_option maxHeartbeats 400000 in
theorem allowed_yes (v : Int) (w : World) (h1 : 0 ≤ v) (h2 : v < 34359738368) :
    Calls Try.prog 57 #[.int .i64 v] w fun e w' => e = .returned (.bool true) ∧ w = w' := by
  go_enter Try.func57, Try.ntmps57
  go_wp2
  go_ret
  exact ⟨by simp, rfl⟩
set_option maxHeartbeats 400000 in
theorem allowed_no (v : Int) (w : World) (h : v < 0 ∨ 34359738368 ≤ v) :
    Calls Try.prog 57 #[.int .i64 v] w fun e w' => e = .returned (.bool false) ∧ w = w' := by
  rcases h with h1 | h1
  · go_enter Try.func57, Try.ntmps57
    go_wp2
    go_ret
    exact ⟨by simp, rfl⟩
  · have h0 : 0 ≤ v := by omega
    go_enter Try.func57, Try.ntmps57
    go_wp2
    go_ret
    exact ⟨by simp; omega, rfl⟩

def FAt (B v : Nat) (i : Nat) (vs : Array Value) (W : World) : Prop := ∃ val, vs = #[val] ∧ W.ownsRow B 5 1 val (k0 v + i + 1) ((formB v (k0 v + i)).map u8)
def FKp (Bv B : Nat) (vs : Array Value) (X Y : World) : Prop := X.heap.size ≤ Y.heap.size ∧ Y.heap[Bv]? = X.heap[Bv]? ∧ ∀ k, B ≤ k → k < X.heap.size → (∀ val, vs = #[val] → val.ownBlock ≠ some k) → Y.heap[k]? = X.heap[k]?

def lenOf : Value → Nat
  | .slice _ n _ => n
  | _ => 0

theorem form_at (v k B : Nat) (q : Int) {v1 : Value} {w w1 : World} {o : Obj} (hk : k0 v ≤ k) (hq : q = ((v / 128 ^ k : Nat) : Int)) (hB : B ≤ w.heap.size) (h : w1.ownsRow (w.alloc o).heap.size 5 1 v1 (k + 1) ((moreB v k).map u8 ++ [.int .u8 (q % 128)])) : FAt B v (k - k0 v) #[v1] w1 := by
  refine ⟨v1, rfl, ?_⟩
  rw [show k0 v + (k - k0 v) + 1 = k + 1 by omega, show k0 v + (k - k0 v) = k by omega, ← form_cells v k q hq]
  exact own_base h (by simp; omega)

theorem round_end {v k B Bv : Nat} {q : Int} {A : Option Addr} {cap : Nat} {J : Nat → World → Prop} {wz w2 : World} {v2 : Value} {o : Obj} (hBv : Bv < B) (hBz : B ≤ wz.heap.size)
    (hJ : ∀ i X Y, J i X → Below B X Y → J i Y) (hk : k < 5) (hq : q = ((v / 128 ^ k : Nat) : Int))
    (hown : wz.ownsRow B 5 1 (.slice A k cap) k ((moreB v k).map u8)) (hbox : wz.heap[Bv]? = some (.cells #[.int .i64 v] 3 (0, 0)))
    (hown2 : w2.ownsRow B 5 1 v2 (k + 1) ((moreB v k).map u8 ++ [.int .u8 (q % 128 + 128)])) (hg : (wz.alloc o).grownBy w2 (Value.slice A k cap).ownBlock) (hj : J (k + 1 - k0 v) wz) :
    (∃ (k : Nat) (q_1 : Int), k ≤ 5 ∧ Value.int .i64 (q / 128) = .int .i64 q_1 ∧ Hid (q_1 = ((v / 128 ^ k : Nat) : Int)) ∧ w2.ownsRow B 5 1 v2 k ((moreB v k).map u8) ∧ J (k - k0 v) w2 ∧ Hid (w2.heap[Bv]? = some (.cells #[.int .i64 v] 3)) ∧ B ≤ w2.heap.size) ∧
      5 - lenOf v2 < 5 - lenOf (.slice A k cap) := by
  have hb : Below B wz w2 := below_own ((Below.refl _ _).alloc hBz _) (by simp; omega) (hown.alloc o) hg
  obtain ⟨A2, cap2, rfl, _⟩ := own_form hown2
  refine ⟨⟨k + 1, q / 128, by omega, rfl, ?_, ?_, hJ _ _ _ hj hb, (hb.block Bv hBv).trans hbox, Nat.le_trans hBz hb.size⟩, by simp [lenOf]; omega⟩
  · show q / 128 = ((v / 128 ^ (k + 1) : Nat) : Int)
    rw [← div128, hq]; simp
  · rw [← more_cells v k q hq]; exact hown2

set_option maxRecDepth 100000 in
set_option maxHeartbeats 1000000 in
theorem forms_iter (n : Nat) (W : World) (Bv v : Nat) (hv : v < 34359738368) (hbox : W.heap[Bv]? = some (.cells #[.int .i64 v] 3 (0, 0))) :
    Iter Fence.wide n Try.prog 56 #[.pointer (some ⟨Bv, 0, none⟩)] (FAt W.heap.size v) (FKp Bv W.heap.size) (Below W.heap.size) (5 - k0 v) W := by
  intro l J Jx hJ hY h0
  obtain ⟨B, hB⟩ : ∃ B, W.heap.size = B := ⟨_, rfl⟩
  rw [hB] at hJ hY
  have hBW : B ≤ W.heap.size := by omega
  have HB := Lib.hid hB
  clear hB
  have hBv : Bv < B := by have := (Array.getElem?_eq_some_iff.1 hbox).1; have := HB.out; omega
  have HBOX := Lib.hid hbox
  have HJ := Lib.hid hJ
  have HY := Lib.hid hY
  clear hbox hJ hY
  refine callsIn_of_wp Try.func56 rfl trivial ?_ rfl
  simp only [Try.ntmps56, List.size_toArray, List.length_cons, List.length_nil, Nat.reduceAdd, Nat.reduceSub, Array.replicate_succ, Array.replicate_zero, List.push_toArray, List.append_toArray, List.nil_append, List.cons_append]
  have hc0 : W.cell? ⟨Bv, 0, none⟩ = some (.int .i64 v) := by rw [cell_of_row W Bv 0 _ 3 (0, 0) HBOX.out]; rfl
  obtain ⟨i0, hi, hz0, hz1, hz2⟩ := info_parts info5
  gi_wp2_with fail
  gi_loopw [3, 4, 5] (fun b r _ wr => ∃ (k : Nat) (q : Int), k ≤ 5 ∧ r = .int .i64 q ∧ Hid (q = ((v / 128 ^ k : Nat) : Int)) ∧ wr.ownsRow B 5 1 b k ((moreB v k).map u8) ∧ J (k - k0 v) wr ∧ Hid (wr.heap[Bv]? = some (.cells #[.int .i64 v] 3 (0, 0))) ∧ B ≤ wr.heap.size) (fun b _ _ _ => 5 - lenOf b)
  case atStart => exact ⟨0, v, by omega, rfl, by show (v : Int) = ((v / 1 : Nat) : Int); rw [Nat.div_one], World.ownsRow_nil _ _ _ _, by simpa using h0, HBOX, hBW⟩
  case round =>
    obtain ⟨k, q, hk, rfl, HQ, hown, hJk, HBX, hBr⟩ := hrel
    have hc1 : wr.cell? ⟨Bv, 0, none⟩ = some (.int .i64 v) := by rw [cell_of_row wr Bv 0 _ 3 (0, 0) HBX.out]; rfl
    obtain ⟨A, cap, rfl, hkc, hcm, hnone, hcells⟩ := own_form hown
    clear hcm
    have HN := Lib.hid hnone
    have HC := Lib.hid hcells
    clear hnone hcells
    have h0v : (0 : Int) ≤ v := by omega
    have hva : (v : Int) < 34359738368 := by omega
    by_cases h5 : (k : Int) < 5
    · have hqv : q < 34359738368 := by have := Nat.div_le_self v (128 ^ k); have := HQ.out; omega
      have hq0 : 0 ≤ q := by rw [HQ.out]; exact Int.natCast_nonneg _
      have HV := Lib.hid hv
      clear hv
      have hA1 : A = none → k = 0 ∧ k = 0 := fun h => ⟨(HN.out h).1, (HN.out h).1⟩
      have hml : ((moreB v k).map Ytibkhjpjneoabaa.Vr.u8).length = k * 1 := by rw [List.length_map, moreB_length, Nat.mul_one]
      have hcA : ∀ (o : Obj) b, A = some b → ∀ j u, ((moreB v k).map Ytibkhjpjneoabaa.Vr.u8)[j]? = some u → (wr.alloc o).cell? (b.add j) = some u := fun o b hb j u hu => by
        have h1 := HC.out b hb j u hu
        rw [World.cell?_alloc_lt _ _ _ (World.block_lt_of_cell? _ _ h1)]
        exact h1
      have h1A : ∀ u ∈ [Value.int IntKind.u8 (q % 128)], u.oneCell' = true := by simp [Value.oneCell']
      have hfl : k < k + 1 := by omega
      have hml2 : k + 1 ≤ maxLen := by unfold maxLen; omega
      have hbt : (k + 1) * 1 ≤ 140737488355328 := by omega
      have HA1 := Lib.hid hA1
      have HML := Lib.hid hml
      have HCA := Lib.hid hcA
      have H1A := Lib.hid h1A
      have HF := Lib.hid (And.intro hfl (And.intro hml2 hbt))
      clear hA1 hml hcA h1A hfl hml2 hbt
      have tok := trivial
      have HOWN := Lib.hid hown
      clear hown
      have h1B : ∀ u ∈ [Value.int IntKind.u8 (q % 128 + 128)], u.oneCell' = true := by simp [Value.oneCell']
      have H1B := Lib.hid h1B
      clear h1B
      by_cases hq : q < 128
      · have hd : decide (q < 128) = true := by simp; omega
        have hkk : k0 v ≤ k := (k0_iff v k HV.out (by omega)).1 (by have := HQ.out; omega)
        have hik : k - k0 v < 5 - k0 v := by omega
        have HK := Lib.hid (And.intro hkk hik)
        clear hq hkk hik
        have HJK := Lib.hid hJk
        clear hJk
        gi_wp2_with (first
          | (gi_at_call 57; (with_reducible refine (callsIn_wide.2 (allowed_yes _ _ h0v hva)).mono ?_); rintro e w' ⟨rfl, rfl⟩)
          | (gi_at_builtin; have _t := tok; go_must (refine wpListIn_append_grows _ rfl (.tmp 21) (.tmp 25) 28 rfl 5 i0 (.int .u8 0) 1 1 Try.underlying28 hi hz0 hz1 hz2 rfl (by decide) A k k _ rfl HA1.out HML.out (HCA.out _) ⟨wr.heap.size, 0, none⟩ 1 1 [.int .u8 (q % 128)] rfl rfl (cell_one_new _ _ _) H1A.out HF.out.1 HF.out.2.1 HF.out.2.2 ?_; intro v1 w1 hown1 hg1; clear tok; have HG1 := Lib.hid hg1; have HV1 := Lib.hid hown1; clear hg1 hown1; have HOWN1 := Lib.hid (own_none (HOWN.out.alloc _) HG1.out); obtain ⟨fn, tm, asg, bod, hy, hR⟩ := HY.out (k - k0 v) HK.out.2 #[v1] w1 (HJ.out _ _ _ HJK.out (((Below.refl _ _).alloc hBr _).grown HG1.out (by simp; omega) (by simp))) (form_at v k B q HK.out.1 HQ.out hBr HV1.out); have HR := Lib.hid hR; clear hR)))
        refine HR.out.mono ?_
        have hs1 : wr.heap.size + 1 ≤ w1.heap.size := by have := HG1.out.size; simpa using this
        rintro e w3 (⟨rfl, hJ3, hK3⟩ | ⟨rfl, hJx3⟩)
        · have HOWN3 := Lib.hid (own_keeps HOWN1.out fun g hg => by
            have hgB := HOWN.out.lt g hg
            exact hK3.2.2 g hgB.1 (by omega) (fun val hval => by
              have hval : v1 = val := by simpa using hval
              subst hval
              intro he
              have := (HV1.out.lt g he).1
              simp at this
              omega))
          have HB3 := Lib.hid (hK3.2.1.trans (((HG1.out.block Bv (by simp; omega) (by simp)).trans (Below.heap_alloc _ _ _ (by omega))).trans HBX.out))
          have HS3 := Lib.hid (show B ≤ w3.heap.size from by have := hK3.1; omega)
          have HJ3 := Lib.hid hJ3
          clear hJ3 hK3
          gi_wp2_with (first
            | (gi_at_builtin; go_must (refine wpListIn_append_own _ rfl (.tmp 35) (.tmp 40) 28 rfl B 5 i0 (.int .u8 0) 1 1 Try.underlying28 hi hz0 hz1 hz2 rfl (by decide) (.slice A k cap) k _ rfl (HOWN3.out.alloc _) ⟨w3.heap.size, 0, none⟩ 1 1 [.int .u8 (q % 128 + 128)] rfl rfl (cell_one_new _ _ _) H1B.out HF.out.2.1 HF.out.2.2 (by have := HS3.out; simp at this ⊢; omega) ?_; intro v2 w2 hown2 hg2 _; have HG2 := Lib.hid hg2; have HOWN2 := Lib.hid hown2; clear hg2 hown2)))
          exact round_end hBv (HS3.out) (HJ.out) (by have := h5; omega) HQ.out (HOWN3.out) HB3.out HOWN2.out HG2.out (by rw [show k + 1 - k0 v = k - k0 v + 1 by have := HK.out.1; omega]; exact HJ3.out)
        · gi_wp2
          refine bodyPost_ret (results_none rfl _ _ _) rfl ?_
          exact ⟨⟨_, rfl⟩, .inr ⟨k - k0 v, HK.out.2, hJx3⟩⟩
      · have hd : decide (q < 128) = false := by simp; omega
        have hkk : k < k0 v := by
          rcases Nat.lt_or_ge k (k0 v) with h | h
          · exact h
          · exact absurd ((k0_iff v k HV.out (by omega)).2 h) (by have := HQ.out; omega)
        have HK := Lib.hid hkk
        clear hq hkk
        have HJK := Lib.hid hJk
        clear hJk
        gi_wp2_with (first
          | (gi_at_call 57; (with_reducible refine (callsIn_wide.2 (allowed_yes _ _ h0v hva)).mono ?_); rintro e w' ⟨rfl, rfl⟩)
          | (gi_at_builtin; have _t := tok; go_must (refine wpListIn_append_grows _ rfl (.tmp 21) (.tmp 25) 28 rfl 5 i0 (.int .u8 0) 1 1 Try.underlying28 hi hz0 hz1 hz2 rfl (by decide) A k k _ rfl HA1.out HML.out (HCA.out _) ⟨wr.heap.size, 0, none⟩ 1 1 [.int .u8 (q % 128)] rfl rfl (cell_one_new _ _ _) H1A.out HF.out.1 HF.out.2.1 HF.out.2.2 ?_; intro v1 w1 hown1 hg1; clear tok; have HG1 := Lib.hid hg1; have HV1 := Lib.hid hown1; clear hg1 hown1; have HOWN1 := Lib.hid (own_none (HOWN.out.alloc _) HG1.out); have HS1 := Lib.hid (show B ≤ w1.heap.size from by have := HG1.out.size; simp at this; omega)))
          | (gi_at_builtin; go_must (refine wpListIn_append_own _ rfl (.tmp 35) (.tmp 40) 28 rfl B 5 i0 (.int .u8 0) 1 1 Try.underlying28 hi hz0 hz1 hz2 rfl (by decide) (.slice A k cap) k _ rfl (HOWN1.out.alloc _) ⟨w1.heap.size, 0, none⟩ 1 1 [.int .u8 (q % 128 + 128)] rfl rfl (cell_one_new _ _ _) H1B.out HF.out.2.1 HF.out.2.2 (by have := HS1.out; simp at this ⊢; omega) ?_; intro v2 w2 hown2 hg2 _; have HG2 := Lib.hid hg2; have HOWN2 := Lib.hid hown2; clear hg2 hown2)))
        refine round_end hBv HS1.out (HJ.out) (by have := h5; omega) HQ.out HOWN1.out ((HG1.out.block Bv (by simp; omega) (by simp)).trans ((Below.heap_alloc _ _ _ (by omega)).trans HBX.out)) HOWN2.out HG2.out ?_
        rw [show k + 1 - k0 v = k - k0 v by have := HK.out; omega]
        exact HJ.out _ _ _ HJK.out (((Below.refl _ _).alloc hBr _).grown HG1.out (by simp; omega) (by simp))
    · obtain rfl : k = 5 := by omega
      gi_wp2_with (first
          | (gi_at_call 57; (with_reducible refine (callsIn_wide.2 (allowed_yes _ _ h0v hva)).mono ?_); rintro e w' ⟨rfl, rfl⟩))
      go_end0
      exact ⟨⟨_, rfl⟩, .inl hJk⟩
end Go.Proofs.Ytibkhjpjneoabaa.Vr
