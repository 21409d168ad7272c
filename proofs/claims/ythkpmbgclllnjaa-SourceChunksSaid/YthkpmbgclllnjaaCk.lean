/- Chunks, and the iterator over the buffer's pieces. -/
import Derived.Test.YthkpmbgclllnjaaKn
import Derived.Test.YthkpmbgclllnjaaIter
import Derived.Shelf.Abstract
import Derived.Shelf.RegionOpen
import Derived.TacticsInMore
import Derived.LoopNIn
import Derived.LoopIn
import Derived.Deep.DeepMust
namespace Go.Proofs.Ythkpmbgclllnjaa
open Go.RowKit
attribute [local go_sem] wide_fn wide_depth wide_fn_in wide_depth_in
set_option linter.unusedVariables false
set_option linter.unusedSimpArgs false

/-- What Chunks returns: two boxes and a copy of the bytes. -/
structure Chk (w w' : World) (L : List UInt8) (S : Int) (a b : Nat) (A : Option Addr) (c : Nat) : Prop where
  ka : Blk w' a 22 #[.slice A L.length c]
  kb : Blk w' b 3 #[.int .i64 S]
  rb : RB w' A L.length c L
  na : w.heap.size ≤ a
  nb : w.heap.size ≤ b
  below : Below w.heap.size w w'
  nA : ∀ ad, A = some ad → 0 < L.length → w.heap.size ≤ ad.block
def fn40 (a b : Nat) : Value := .func (.func 40) #[] #[.pointer (some ⟨a, 0, none⟩), .pointer (some ⟨b, 0, none⟩)]

set_option maxRecDepth 100000 in
set_option maxHeartbeats 1000000 in
theorem chunks_none (p : Option Addr) (S : Int) (w : World) (h : NoSrc p w) :
    Calls Try.prog 20 #[.pointer p, .int .i64 S] w fun e w' => ∃ a b, e = .returned (fn40 a b) ∧ Chk w w' [] S a b none 0 := by
  have C := Lib.hid (fun W hb => h W hb)
  clear h
  go_enter Try.func20, Try.ntmps20
  go_wp2_with (go_at_call 38; (with_reducible refine (C.out _ (((Below.refl _ w).alloc (Nat.le_refl _) _).alloc (by simp) _)).mono ?_); rintro e w1 ⟨rfl, rfl⟩)
  go_ret
  refine ⟨w.heap.size + 1, w.heap.size, rfl, ?_, ?_, RB.nil _, by omega, Nat.le_refl _, ((Below.refl _ w).alloc (Nat.le_refl _) _).alloc (by simp) _, fun ad hA => by cases hA⟩
  · have := Blk.new (w.alloc (.cells #[.int .i64 S] 3)) 22 #[.slice none 0 0]; rw [World.size_alloc] at this; exact this
  · exact (Blk.new w 3 _).alloc _

theorem RB.heap {W W' : World} {A : Option Addr} {m c : Nat} {l : List UInt8} (h : RB W A m c l) (hk : ∀ a, A = some a → W'.heap[a.block]? = W.heap[a.block]?) : RB W' A m c l :=
  h.cells fun a hA j hj => by
    have hbk : (a.add j).block = a.block := by unfold Addr.add; split <;> rfl
    unfold World.cell?
    rw [hbk, hk a hA]

section
variable {w : World} {B bs bt bb : Nat} {v : Value} {lim : Nat} {l : List UInt8} {tk : Nat} {cl : Bool}
set_option maxRecDepth 100000 in
set_option maxHeartbeats 1000000 in
theorem chunks_no (h : SS w B bs bt bb v lim l tk cl) (S : Int) (hS : S ≤ 0) :
    Calls Try.prog 20 #[.pointer (some ⟨bs, 0, none⟩), .int .i64 S] w fun e w' => ∃ a b, e = .returned (fn40 a b) ∧ Chk w w' [] S a b none 0 := by
  have C := Lib.hid (fun W hb => none_some bs bt W (h.below hb).src)
  have q : decide (0 < S) = false := by simp; omega
  clear h
  go_enter Try.func20, Try.ntmps20
  go_wp2_with (go_at_call 38; (with_reducible refine (C.out _ (((Below.refl _ w).alloc (Nat.le_refl _) _).alloc (by simp) _)).mono ?_); rintro e w1 ⟨rfl, rfl⟩)
  go_ret
  refine ⟨w.heap.size + 1, w.heap.size, rfl, ?_, ?_, RB.nil _, by omega, Nat.le_refl _, ((Below.refl _ w).alloc (Nat.le_refl _) _).alloc (by simp) _, fun ad hA => by cases hA⟩
  · have := Blk.new (w.alloc (.cells #[.int .i64 S] 3)) 22 #[.slice none 0 0]; rw [World.size_alloc] at this; exact this
  · exact (Blk.new w 3 _).alloc _
set_option maxRecDepth 100000 in
set_option maxHeartbeats 1000000 in
theorem chunks_some (h : SS w B bs bt bb v lim l tk cl) (S : Int) (hS : 0 < S) :
    Calls Try.prog 20 #[.pointer (some ⟨bs, 0, none⟩), .int .i64 S] w fun e w' => ∃ a b A c, e = .returned (fn40 a b) ∧ Chk w w' l S a b A c := by
  obtain ⟨w1, hw1⟩ : ∃ w1, (w.alloc (.cells #[.int .i64 S] 3)).alloc (.cells #[.slice none 0 0] 22) = w1 := ⟨_, rfl⟩
  have hb1 : Below w.heap.size w w1 := hw1 ▸ ((Below.refl _ w).alloc (Nat.le_refl _) _).alloc (by simp) _
  have k1 : Blk w1 w.heap.size 3 #[.int .i64 S] := hw1 ▸ (Blk.new w 3 _).alloc _
  have k2 : Blk w1 (w.heap.size + 1) 22 #[.slice none 0 0] := by have := Blk.new (w.alloc (.cells #[.int .i64 S] 3)) 22 #[.slice none 0 0]; rw [World.size_alloc, hw1] at this; exact this
  have HS1 := Lib.hid (h.below hb1)
  have HB1 := Lib.hid hb1
  have HK1 := Lib.hid k1
  have HK2 := Lib.hid k2
  obtain ⟨A0, c0, rfl, hr⟩ := HS1.out.form
  have HR := Lib.hid hr
  have HW1 := Lib.hid hw1
  have C := Lib.hid (none_some bs bt w1 HS1.out.src)
  have HL := Lib.hid (show l.length ≤ 2000000 by have := h.lenB; have := h.limB; omega)
  have C39 := Lib.hid (clone_any A0 l.length c0 l w1 HL.out hr)
  have e0 := HS1.out.src.cell 0
  have f0 := HS1.out.st.cell 0
  have b0 := HS1.out.buf.cell 0
  simp at e0 f0 b0
  have s0 := k1.cell 0
  simp at s0
  have q : decide (0 < S) = true := by simpa using hS
  clear h hb1 k1 k2 hr hw1 hS
  go_enter Try.func20, Try.ntmps20
  go_wp2_with (go_at_call 38; refine Hid.out ?_)
  refine Lib.hid ?_
  rw [HW1.out]
  clear HW1
  (with_reducible refine C.out.mono ?_); rintro e w2 ⟨rfl, rfl⟩
  go_wp2_with (go_at_call 39; (with_reducible refine C39.out.mono ?_); rintro e w3 ⟨v3, rfl, ho, hb⟩; obtain ⟨A3, c3, rfl, -⟩ := own_form ho; have HO := Lib.hid ho; have HB := Lib.hid hb; have k2 := HK2.out.below hb HK2.out.lt; have t0 := k2.cell 0; have z0 := k2.frozen 0; simp at t0; have K2 := Lib.hid k2; clear ho hb k2)
  go_ret
  have hset := K2.out.set_ 0 (.slice A3 l.length c3)
  simp at hset
  have hon : Only (fun k => k = w.heap.size + 1) w3 (w3.setCell ⟨w.heap.size + 1, 0, none⟩ (.slice A3 l.length c3)) := Only.set (p := fun k => k = w.heap.size + 1) (Only.refl _ _) (fun _ => rfl) 0 _
  refine ⟨w.heap.size + 1, w.heap.size, A3, c3, rfl, hset, (HK1.out.below HB.out HK1.out.lt).only hon (by simp), (own_RB3 HO.out).only hon fun a hA h0 => RB.ne (own_RB3 HO.out) h0 hA K2.out (fun j x => by match j with | 0 => simp | _ + 1 => simp), by omega, Nat.le_refl _, ?_, fun ad hA h0 => ?_⟩
  rotate_left
  · obtain ⟨g, cap, e, hg, -⟩ := own_holds HO.out h0
    injection e with e1 e2 e3
    rw [e1] at hA
    cases hA
    have := HB1.out.size
    simp
    omega
  exact (HB1.out.trans (HB.out.mono HB1.out.size)).trans (hon.to_below (by have := HB.out.size; have := HB1.out.size; omega) fun b hb (e : b = w.heap.size + 1) => by omega)
end

def CAt (B : Nat) (L : List UInt8) (s : Nat) (i : Nat) (vs : Array Value) (W : World) : Prop := ∃ val, vs = #[val] ∧ W.ownsRow B 5 1 val (min s (L.length - i * s)) (((L.drop (i * s)).take s).map u8)
def CKp (a b : Nat) (A : Option Addr) (vs : Array Value) (X Y : World) : Prop := X.heap.size ≤ Y.heap.size ∧ ∀ k, (k = a ∨ k = b ∨ ∃ ad, A = some ad ∧ k = ad.block) → Y.heap[k]? = X.heap[k]?
def lenOf : Value → Nat
  | .slice _ n _ => n
  | _ => 0

set_option maxRecDepth 100000 in
set_option maxHeartbeats 1000000 in
theorem chunks_iter_no (n : Nat) (W : World) (a b : Nat) (A0 : Option Addr) (c0 : Nat) (ha : Blk W a 22 #[.slice A0 0 c0]) (At : Nat → Array Value → World → Prop) (Kp : Array Value → World → World → Prop) (Step : World → World → Prop) :
    Iter Fence.wide n Try.prog 40 #[.pointer (some ⟨a, 0, none⟩), .pointer (some ⟨b, 0, none⟩)] At Kp Step 0 W := by
  intro l J Jx hJ hY h0
  have H0 := Lib.hid h0
  have k0 := ha.cell 0
  simp at k0
  clear hJ hY h0 ha
  refine callsIn_of_wp Try.func40 rfl trivial ?_ rfl
  simp only [Try.ntmps40, List.size_toArray, List.length_cons, List.length_nil, Nat.reduceAdd, Nat.reduceSub, Array.replicate_succ, Array.replicate_zero, List.push_toArray, List.append_toArray, List.nil_append, List.cons_append]
  gi_wp2_with fail
  gi_loopw [4, 5] (fun r _ wr => r = .slice A0 0 c0 ∧ wr = W) (fun r _ _ => lenOf r)
  case atStart => exact ⟨rfl, rfl⟩
  case round =>
    obtain ⟨rfl, rfl⟩ := hrel
    gi_wp2_with fail
    go_end0
    exact ⟨⟨_, rfl⟩, .inl H0.out⟩

theorem cat_of {B i s m k : Nat} {L : List UInt8} {w w1 : World} {v : Value} (h : w1.ownsRow w.heap.size 5 1 v k (((L.drop (i * s)).take k).map u8)) (hB : B ≤ w.heap.size) (hl : (L.drop (i * s)).length = m) (hm : m = L.length - i * s) (hk : (k = s ∧ k ≤ m) ∨ (k = m ∧ m ≤ s)) : CAt B L s i #[v] w1 := by
  refine ⟨v, rfl, ?_⟩
  have h1 := own_base h hB
  rcases hk with ⟨rfl, h2⟩ | ⟨rfl, h2⟩
  · rw [Nat.min_eq_left (by omega)]; exact h1
  · rw [Nat.min_eq_right (by omega), ← hm]
    rw [List.take_of_length_le (by omega)] at h1
    rw [List.take_of_length_le (by omega)]
    exact h1

set_option maxRecDepth 100000 in
set_option maxHeartbeats 2000000 in
theorem chunks_iter (n : Nat) (W : World) (L : List UInt8) (s N a b : Nat) (A : Option Addr) (c : Nat) (hka : Blk W a 22 #[.slice A L.length c]) (hkb : Blk W b 3 #[.int .i64 (s : Int)]) (hr : RB W A L.length c L) (hs : 1 ≤ s) (hN : ∀ i, i < N ↔ i * s < L.length) (hL : L.length ≤ 1048576) :
    Iter Fence.wide n Try.prog 40 #[.pointer (some ⟨a, 0, none⟩), .pointer (some ⟨b, 0, none⟩)] (CAt W.heap.size L s) (CKp a b A) (Below W.heap.size) N W := by
  intro l J Jx hJ hY h0
  obtain ⟨B, hB⟩ : ∃ B, W.heap.size = B := ⟨_, rfl⟩
  rw [hB] at hJ hY
  have hBW : B ≤ W.heap.size := by omega
  have HJ := Lib.hid hJ
  have HY := Lib.hid hY
  have HBb := Lib.hid (show b < B by have := hkb.lt; omega)
  have HAB := Lib.hid (show 0 < L.length → ∀ ad, A = some ad → ad.block < B from fun h1 ad hA => by have := hr.lt h1 hA; omega)
  have HN := Lib.hid hN
  have HLL := Lib.hid hL
  have HS := Lib.hid hs
  have e0 := hka.cell 0
  simp at e0
  have HB0 := Lib.hid hkb
  have HR0 := Lib.hid hr
  clear hJ hY hka hkb hr hN hL hs hB
  refine callsIn_of_wp Try.func40 rfl trivial ?_ rfl
  simp only [Try.ntmps40, List.size_toArray, List.length_cons, List.length_nil, Nat.reduceAdd, Nat.reduceSub, Array.replicate_succ, Array.replicate_zero, List.push_toArray, List.append_toArray, List.nil_append, List.cons_append]
  gi_wp2_with fail
  gi_loopw [4, 5] (fun r _ wr => ∃ (i m : Nat) (A' : Option Addr) (c' : Nat), r = .slice A' m c' ∧ J i wr ∧ Hid (i ≤ N ∧ m = L.length - i * s ∧ RB wr A' m c' (L.drop (i * s)) ∧ Within A A' ∧ Blk wr b 3 #[.int .i64 (s : Int)] ∧ B ≤ wr.heap.size)) (fun r _ _ => lenOf r)
  case atStart => exact ⟨0, L.length, A, c, rfl, h0, Lib.hid ⟨Nat.zero_le _, by omega, by simpa using HR0.out, fun a h => ⟨a, h, rfl, fun h => h⟩, HB0.out, hBW⟩⟩
  clear h0 HR0 HB0 hBW e0
  case round =>
    obtain ⟨i, m, A', c', rfl, hJi, HH⟩ := hrel
    have HJi := Lib.hid hJi
    clear hJi
    have hm0 : (0 : Int) ≤ m := by omega
    by_cases hm : 0 < (m : Int)
    · have hiN : i < N := (HN.out i).2 (by have := HH.out.2.1; omega)
      have hcb := HH.out.2.2.2.2.1.cell 0
      simp at hcb
      obtain ⟨hi1, hi2, hi3, hi4, hi5, hi6⟩ := HH.out
      by_cases hsm : (s : Int) ≤ m
      ·
        have HLD := Lib.hid (show (L.drop (i * s)).length = m by rw [List.length_drop]; omega)
        have HM := Lib.hid hi2
        have HW := Lib.hid hi4
        have HB5 := Lib.hid hi5
        have HB6 := Lib.hid hi6
        have HI1 := Lib.hid hi1
        have HR := Lib.hid hi3
        obtain ⟨A1, c1, hsl, hr1, -⟩ := slice_to2 wr A' m c' s (L.drop (i * s)) hi3 (by omega)
        have C39 := Lib.hid (clone_any A1 s c1 _ wr (by have := HLL.out; omega) hr1)
        have HLK := Lib.hid hr1.len
        have HKM := Lib.hid (show s ≤ m by omega)
        have HSM := Lib.hid hsm
        have HIN := Lib.hid hiN
        clear hi1 hi2 hi3 hi4 hi5 hi6 hr1 hiN HH
        gi_wp2_with (first
          | (gi_at_call 39; (with_reducible refine (callsIn_wide.2 C39.out).mono ?_); rintro e w1 ⟨v1, rfl, ho, hb⟩; rw [HLK.out] at ho; have HO := Lib.hid ho; have HBB := Lib.hid hb; clear ho hb; obtain ⟨fn, tm, asg, bod, hy, hR⟩ := HY.out i HIN.out #[v1] w1 (HJ.out _ _ _ HJi.out (HBB.out.mono HB6.out)) (cat_of HO.out HB6.out HLD.out HM.out (Or.inl ⟨rfl, HKM.out⟩)); have HR9 := Lib.hid hR; clear hR))
        refine HR9.out.mono ?_
        rintro e w3 (⟨rfl, hJ3, hK3⟩ | ⟨rfl, hJx3⟩)
        · have HRW := Lib.hid ((HR.out.below HBB.out).heap (W' := w3) fun ad hA => by
            obtain ⟨a0, h0, h1, -⟩ := HW.out ad hA
            rw [h1]
            exact hK3.2 _ (.inr (.inr ⟨a0, h0, rfl⟩)))
          have HB3 := Lib.hid (show Blk w3 b 3 #[.int .i64 (s : Int)] from (hK3.2 b (.inr (.inl rfl))).trans (HB5.out.below HBB.out HB5.out.lt))
          have HZ3 := Lib.hid (show B ≤ w3.heap.size from Nat.le_trans HB6.out (Nat.le_trans HBB.out.size hK3.1))
          have HJ3 := Lib.hid hJ3
          obtain ⟨A2, c2, hsf, hr2, hw2⟩ := slice_from w3 A' m c' s (L.drop (i * s)) HRW.out HKM.out
          have HR2 := Lib.hid hr2
          have HW2 := Lib.hid hw2
          clear hJ3 hK3 hr2 hw2
          gi_wp2_with fail
          refine ⟨⟨i + 1, m - s, A2, c2, (by first | with_reducible rfl | simp), HJ3.out, Lib.hid ⟨HIN.out, ?_, ?_, fun ad hA => ?_, HB3.out, HZ3.out⟩⟩, by have := HKM.out; have := HS.out; simp [lenOf]; omega⟩
          · have := HM.out; have := HKM.out; have := HSM.out; rw [Nat.add_mul]; omega
          · have := HR2.out
            rw [List.drop_drop] at this
            rw [Nat.add_mul, Nat.one_mul]; exact this
          · obtain ⟨a1, h0, h1, h2⟩ := HW2.out ad hA
            obtain ⟨a0, g0, g1, g2⟩ := HW.out a1 h0
            exact ⟨a0, g0, h1.trans g1, fun e => h2 (g2 e)⟩
        · gi_wp2_with fail
          refine bodyPost_ret (results_none rfl _ _ _) rfl ?_
          exact ⟨⟨_, rfl⟩, .inr ⟨i, HIN.out, hJx3⟩⟩
      ·
        have HLD := Lib.hid (show (L.drop (i * s)).length = m by rw [List.length_drop]; omega)
        have HM := Lib.hid hi2
        have HW := Lib.hid hi4
        have HB5 := Lib.hid hi5
        have HB6 := Lib.hid hi6
        have HI1 := Lib.hid hi1
        have HR := Lib.hid hi3
        obtain ⟨A1, c1, hsl, hr1, -⟩ := slice_to2 wr A' m c' m (L.drop (i * s)) hi3 (by omega)
        have C39 := Lib.hid (clone_any A1 m c1 _ wr (by have := HLL.out; omega) hr1)
        have HLK := Lib.hid hr1.len
        have HKM := Lib.hid (show m ≤ m by omega)
        have hsm2 : (m : Int) < s := by omega
        have HSM := Lib.hid hsm2
        have HIN := Lib.hid hiN
        clear hi1 hi2 hi3 hi4 hi5 hi6 hr1 hiN HH hsm
        gi_wp2_with (first
          | (gi_at_call 39; (with_reducible refine (callsIn_wide.2 C39.out).mono ?_); rintro e w1 ⟨v1, rfl, ho, hb⟩; rw [HLK.out] at ho; have HO := Lib.hid ho; have HBB := Lib.hid hb; clear ho hb; obtain ⟨fn, tm, asg, bod, hy, hR⟩ := HY.out i HIN.out #[v1] w1 (HJ.out _ _ _ HJi.out (HBB.out.mono HB6.out)) (cat_of HO.out HB6.out HLD.out HM.out (Or.inr ⟨rfl, by have := HSM.out; omega⟩)); have HR9 := Lib.hid hR; clear hR))
        refine HR9.out.mono ?_
        rintro e w3 (⟨rfl, hJ3, hK3⟩ | ⟨rfl, hJx3⟩)
        · have HRW := Lib.hid ((HR.out.below HBB.out).heap (W' := w3) fun ad hA => by
            obtain ⟨a0, h0, h1, -⟩ := HW.out ad hA
            rw [h1]
            exact hK3.2 _ (.inr (.inr ⟨a0, h0, rfl⟩)))
          have HB3 := Lib.hid (show Blk w3 b 3 #[.int .i64 (s : Int)] from (hK3.2 b (.inr (.inl rfl))).trans (HB5.out.below HBB.out HB5.out.lt))
          have HZ3 := Lib.hid (show B ≤ w3.heap.size from Nat.le_trans HB6.out (Nat.le_trans HBB.out.size hK3.1))
          have HJ3 := Lib.hid hJ3
          obtain ⟨A2, c2, hsf, hr2, hw2⟩ := slice_from w3 A' m c' m (L.drop (i * s)) HRW.out HKM.out
          have HR2 := Lib.hid hr2
          have HW2 := Lib.hid hw2
          clear hJ3 hK3 hr2 hw2
          gi_wp2_with fail
          refine ⟨⟨i + 1, m - m, A2, c2, (by first | with_reducible rfl | simp), HJ3.out, Lib.hid ⟨HIN.out, ?_, ?_, fun ad hA => ?_, HB3.out, HZ3.out⟩⟩, by have := HKM.out; have := HS.out; simp [lenOf]; omega⟩
          · have := HM.out; have := HKM.out; have := HSM.out; rw [Nat.add_mul]; omega
          · have := HR2.out
            rw [List.drop_drop] at this
            have e1 : L.drop (i * s + m) = L.drop ((i + 1) * s) := by
              have := HM.out; have := HSM.out; have := HLD.out
              have hA : L.length ≤ i * s + m := by omega
              have hB : L.length ≤ (i + 1) * s := by rw [Nat.add_mul]; omega
              rw [List.drop_of_length_le hA, List.drop_of_length_le hB]
            rw [e1] at this; exact this
          · obtain ⟨a1, h0, h1, h2⟩ := HW2.out ad hA
            obtain ⟨a0, g0, g1, g2⟩ := HW.out a1 h0
            exact ⟨a0, g0, h1.trans g1, fun e => h2 (g2 e)⟩
        · gi_wp2_with fail
          refine bodyPost_ret (results_none rfl _ _ _) rfl ?_
          exact ⟨⟨_, rfl⟩, .inr ⟨i, HIN.out, hJx3⟩⟩
    · have hiN : i = N := by
        have h1 := HH.out.1
        by_cases h : i < N
        · have := (HN.out i).1 h; have := HH.out.2.1; omega
        · omega
      subst hiN
      gi_wp2_with fail
      go_end0
      exact ⟨⟨_, rfl⟩, .inl HJi.out⟩
end Go.Proofs.Ythkpmbgclllnjaa
