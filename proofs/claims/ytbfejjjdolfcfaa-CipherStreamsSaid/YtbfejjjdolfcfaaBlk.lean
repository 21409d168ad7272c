/- The contract of (state).block. -/
import Derived.Test.YtbfejjjdolfcfaaDbl
import Derived.Test.YtbfejjjdolfcfaaCat
import Derived.Deep.MidRow
namespace Go.Proofs.Ytbfejjjdolfcfaa
open Go.RowKit
set_option linter.unusedVariables false
set_option linter.unusedSimpArgs false

def dbls : Nat → List Nat → List Nat
  | 0, s => s
  | k + 1, s => dbls k (dbl s)
def le4 (v : Nat) : List UInt8 := [UInt8.ofNat (v % 256), UInt8.ofNat (v / 256 % 256), UInt8.ofNat (v / 65536 % 256), UInt8.ofNat (v / 16777216 % 256)]
/-- The bytes of the first k words. -/
def outW (s t : List Nat) (k : Nat) : List UInt8 := (List.range k).flatMap fun i => le4 ((t.getD i 0 + s.getD i 0) % 4294967296)
theorem outW_succ (s t : List Nat) (k : Nat) : outW s t (k + 1) = outW s t k ++ le4 ((t.getD k 0 + s.getD k 0) % 4294967296) := by
  unfold outW
  rw [List.range_succ, List.flatMap_append]
  simp
theorem outW_length (s t : List Nat) (k : Nat) : (outW s t k).length = 4 * k := by
  induction k with
  | zero => rfl
  | succ k ih => rw [outW_succ, List.length_append, ih]; simp [le4]; omega

theorem St16.step {s : List Nat} (h : St16 s) (i : Four) (hi : i.1 < 16 ∧ i.2.1 < 16 ∧ i.2.2.1 < 16 ∧ i.2.2.2 < 16) : St16 (qstep s i) := by
  unfold qstep
  exact (((h.set _ (qA_lt _ _ _ _)).set _ (qB_lt (cw_get h hi.2.1).2)).set _ (qC_lt _ _ _ _)).set _ (qD_lt (cw_get h hi.2.2.2).2)
theorem St16.dbl {s : List Nat} (h : St16 s) : St16 (dbl s) := by
  unfold Ytbfejjjdolfcfaa.dbl q8
  simp only [List.foldl_cons, List.foldl_nil]
  exact (((((((h.step _ (by decide)).step _ (by decide)).step _ (by decide)).step _ (by decide)).step _ (by decide)).step _ (by decide)).step _ (by decide)).step _ (by decide)
theorem St16.dbls : ∀ (k : Nat) {s : List Nat}, St16 s → St16 (dbls k s)
  | 0, _, h => h
  | k + 1, _, h => St16.dbls k h.dbl

theorem Blk.setCells {g : Nat} {t : TypeId} : ∀ (vs : List Value) (o : Nat) (w : World) (cs : Array Value), Blk w g t cs → o + vs.length ≤ cs.size → Blk (w.setCells g o vs) g t (cs.toList.take o ++ vs ++ cs.toList.drop (o + vs.length)).toArray
  | [], o, w, cs, h, _ => by
    simp only [List.append_nil, List.length_nil, Nat.add_zero, List.take_append_drop]
    exact h
  | v :: vs, o, w, cs, h, hl => by
    have hl' : o + 1 + vs.length ≤ cs.size := by simp at hl; omega
    have ih := Blk.setCells vs (o + 1) (w.setCell ⟨g, o, none⟩ v) (cs.setIfInBounds o v) (h.set_ o v) (by simpa using hl')
    rw [World.setCells]
    have e : (cs.setIfInBounds o v).toList.take (o + 1) ++ vs ++ (cs.setIfInBounds o v).toList.drop (o + 1 + vs.length) = cs.toList.take o ++ (v :: vs) ++ cs.toList.drop (o + (v :: vs).length) := by
      rw [Array.toList_setIfInBounds, List.drop_set, if_pos (by omega), List.take_set, List.take_succ_eq_append_getElem (by simp at hl ⊢; omega), List.set_append_right _ _ (by simp at hl ⊢; omega)]
      have hlen : (cs.toList.take o).length = o := by simp at hl ⊢; omega
      rw [hlen, Nat.sub_self]
      simp [Nat.add_comm, Nat.add_left_comm]
    rw [e] at ih
    exact ih
theorem Blk.setAll {w : World} {g : Nat} {t : TypeId} {cs : Array Value} (h : Blk w g t cs) (vs : Array Value) (hl : vs.size = cs.size) : Blk (w.setCells g 0 vs.toList) g t vs := by
  have := Blk.setCells vs.toList 0 w cs h (by simp; omega)
  simpa [hl, List.drop_of_length_le] using this
theorem Blk.farAll {g g' : Nat} {t : TypeId} {cs : Array Value} (hne : g ≠ g') : ∀ (vs : List Value) (o : Nat) (w : World), Blk w g t cs → Blk (w.setCells g' o vs) g t cs
  | [], _, _, h => h
  | v :: vs, o, w, h => Blk.farAll hne vs (o + 1) _ (h.far (p := ⟨g', o, none⟩) hne v)
theorem Below.setAll {B g : Nat} {a : World} (hg : B ≤ g) : ∀ (vs : List Value) (o : Nat) (w : World), Below B a w → Below B a (w.setCells g o vs)
  | [], _, _, h => h
  | v :: vs, o, w, h => Below.setAll hg vs (o + 1) _ (h.setCell (p := ⟨g, o, none⟩) hg v)

theorem cw_size {s : List Nat} (h : St16 s) : (cw s).size = 16 := by simp [cw, h.1]
theorem cw_one {s : List Nat} : (cw s).all (·.oneCell') = true := by
  rw [Array.all_eq_true_iff_forall_mem]
  intro v hv
  simp [cw] at hv
  obtain ⟨x, _, rfl⟩ := hv
  rfl
theorem blk_new1 (w : World) (o : Obj) (t : TypeId) (cs : Array Value) : Blk ((w.alloc o).alloc (.cells cs t)) (w.heap.size + 1) t cs := by
  have h := Blk.new (w.alloc o) t cs
  simpa using h
theorem there_blk {w : World} {g : Nat} {t : TypeId} {cs : Array Value} (h : Blk w g t cs) {n : Nat} (hn : n ≤ cs.size) : w.there g 0 n := fun j hj => by
  rw [Nat.zero_add, h.cell]
  exact ⟨by simp; omega, h.frozen j⟩
theorem zero66 (w : World) : (zeroValue 66).run Try.prog w = .ok (.agg (cw (List.replicate 16 0))) w := by kernel_rfl

theorem cw_index {s : List Nat} (h : St16 s) {k : Nat} (hk : k < 16) (W : World) : (Instr.index 66 (.agg (cw s)) (.int .i64 k)).run Try.prog W = .ok (.int .u32 (s.getD k 0 : Nat)) W := by
  have hg := (cw_get h hk).1
  have h22 : (sizeOf 22).run Try.prog W = .ok 1 W := by kernel_rfl
  simp [Instr.index, asIntOf, run_underlying Try.underlying66, go_sem, hg, h22]
  intro h1
  omega

def zeros64 : Array Value := Array.replicate 64 (.int .u8 0)
theorem make64 (w : World) : (Instr.makeSlice 30 (.int .i64 0) (.int .i64 64)).run Try.prog w = .ok (.slice (some ⟨w.heap.size, 0, none⟩) 0 64) (w.alloc (.cells zeros64 5)) := by kernel_rfl
theorem holds_new (w : World) (t : TypeId) (x y : Value) (l : List Value) : Holds (w.alloc (.cells (x :: y :: l).toArray t)) (some ⟨w.heap.size, 0, none⟩) (l.length + 2) (x :: y :: l) :=
  ⟨by simp, fun h => (by cases h), fun b hb j u hu => by
    cases hb
    rw [Addr.add_lit, Nat.zero_add]
    have := (Blk.new w t (x :: y :: l).toArray).cell j
    rw [this]
    simpa using hu⟩
theorem one4 (a b c d : Int) : ∀ u ∈ [Value.int .u8 a, .int .u8 b, .int .u8 c, .int .u8 d], u.oneCell' = true := by
  intro u hu
  simp at hu
  rcases hu with rfl | rfl | rfl | rfl <;> rfl
theorem u8_of {x : Nat} (h : x < 256) : u8 (UInt8.ofNat x) = .int .u8 (x : Int) := by
  unfold u8
  rw [UInt8.toNat_ofNat']
  congr 1
  omega

set_option maxRecDepth 100000 in
set_option maxHeartbeats 1000000 in
theorem block_any (s : List Nat) (w : World) (hs : St16 s) : Calls Try.prog 28 #[.agg (cw s)] w fun e w' => Rowed w 5 64 ((outW s (dbls 10 s) 16).map u8) (fun v => v) e w' := by
  have hu := Try.underlying66
  have HI := Lib.hid (show (Try.prog.info? 66).map (·.size) = some (cw s).size by rw [cw_size hs]; kernel_rfl)
  have HBX := Lib.hid (Blk.new w 66 (cw s))
  have HS := Lib.hid hs
  clear hs
  obtain ⟨T, hT⟩ : ∃ T, dbls 10 s = T := ⟨_, rfl⟩
  rw [hT]
  have HT10 := Lib.hid hT
  have HST := Lib.hid (show St16 T by rw [← hT]; exact HS.out.dbls 10)
  clear hT
  go_enter Try.func28, Try.ntmps28
  have HI' := Lib.hid (show (Try.prog.info? 66).map (·.size) = some (cw s).size from HI.out)
  have hz := blk_new1 w (.cells (cw s) 66) 66 #[.int .u32 0, .int .u32 0, .int .u32 0, .int .u32 0, .int .u32 0, .int .u32 0, .int .u32 0, .int .u32 0, .int .u32 0, .int .u32 0, .int .u32 0, .int .u32 0, .int .u32 0, .int .u32 0, .int .u32 0, .int .u32 0]
  have HT := Lib.hid (there_blk hz (n := (cw s).size) (by rw [cw_size HS.out]; decide))
  have HB3 := Lib.hid (hz.setAll (cw s) (by rw [cw_size HS.out]; rfl))
  have HB3' := Lib.hid (Blk.farAll (g' := w.heap.size + 1) (by omega) (cw s).toList 0 _ ((Blk.new w 66 (cw s)).alloc (.cells #[.int .u32 0, .int .u32 0, .int .u32 0, .int .u32 0, .int .u32 0, .int .u32 0, .int .u32 0, .int .u32 0, .int .u32 0, .int .u32 0, .int .u32 0, .int .u32 0, .int .u32 0, .int .u32 0, .int .u32 0, .int .u32 0] 66)))
  have HBW := Lib.hid (Below.setAll (g := w.heap.size + 1) (B := w.heap.size) (by omega) (cw s).toList 0 _ (((Below.refl _ w).alloc (Nat.le_refl _) (.cells (cw s) 66)).alloc (by simp) (.cells #[.int .u32 0, .int .u32 0, .int .u32 0, .int .u32 0, .int .u32 0, .int .u32 0, .int .u32 0, .int .u32 0, .int .u32 0, .int .u32 0, .int .u32 0, .int .u32 0, .int .u32 0, .int .u32 0, .int .u32 0, .int .u32 0] 66)))
  clear hz
  go_wp2_with (first
    | (refine wpList_load_row (o := ⟨some 7, _, _, _, _, _⟩) rfl 66 (.tmp 1) rfl w.heap.size rfl 66 (cw s) (0, 0) _ HBX.out hu rfl HI.out ?_)
    | (refine wpList_store_mid (op := ⟨none, Op.store 66 (.tmp 3) (.tmp 7), _, _, _, _⟩) rfl 66 (.tmp 3) (.tmp 7) rfl (w.heap.size + 1) 0 (cw s) rfl rfl HT.out HI.out cw_one ?_; refine Hid.out ?_))
  refine Lib.hid ?_
  generalize World.setCells ((w.alloc (.cells (cw s) 66)).alloc (.cells #[.int .u32 0, .int .u32 0, .int .u32 0, .int .u32 0, .int .u32 0, .int .u32 0, .int .u32 0, .int .u32 0, .int .u32 0, .int .u32 0, .int .u32 0, .int .u32 0, .int .u32 0, .int .u32 0, .int .u32 0, .int .u32 0] 66)) (w.heap.size + 1) 0 (cw s).toList = W at HB3 HB3' HBW ⊢
  clear HT HI' HBX
  obtain ⟨h, hh⟩ : ∃ h, w.heap.size = h := ⟨_, rfl⟩
  have HH := Lib.hid hh
  rw [hh] at HB3 HB3' HBW ⊢
  clear hh
  go_wp2_with fail
  go_loopw [8] (fun i wr => ∃ (k : Nat) (ys : List Nat), k ≤ 10 ∧ i = .int .i64 k ∧ Hid (St16 ys) ∧ Hid (dbls (10 - k) ys = T) ∧ Blk wr (h + 1) 66 (cw ys) ∧ Blk wr h 66 (cw s) ∧ Below h w wr) (fun i _ => 10 - (intOf i).toNat)
  case atStart => exact ⟨0, s, by omega, rfl, HS, HT10, HB3.out, HB3'.out, HBW.out⟩
  case round =>
    obtain ⟨k, ys, hk, rfl, HY, HYT, hb1, hb2, hbw⟩ := hrel
    have HB1 := Lib.hid hb1
    have HB2 := Lib.hid hb2
    have HBW2 := Lib.hid hbw
    clear hb1 hb2 hbw
    by_cases hlt : (k : Int) < 10
    · go_wp2_with fail
      (with_reducible refine (double_any (h + 1) 66 ys _ HY.out HB1.out).mono ?_); rintro e w3 ⟨⟨rfl, hb⟩, hgr⟩
      have HB4 := Lib.hid hb
      have HB5 := Lib.hid (HB2.out.grown hgr (by simp))
      have HBW5 := Lib.hid (below_grown HBW2.out (by have := HB2.out.lt; omega) (show h ≤ h + 1 by omega) hgr)
      clear hb hgr
      go_wp2_with fail
      go_roundw
      case rel => exact ⟨k + 1, dbl ys, by omega, by go_num, Lib.hid HY.out.dbl, Lib.hid (by have := HYT.out; rw [show 10 - k = (10 - (k + 1)) + 1 by omega] at this; exact this), HB4.out, HB5.out, HBW5.out⟩
      case measure => simp [intOf]; omega
    · obtain rfl : k = 10 := by omega
      have hyt := HYT.out
      rw [show 10 - 10 = 0 from rfl, dbls] at hyt
      subst hyt
      clear hlt HYT
      have HIy := Lib.hid (show (Try.prog.info? 66).map (·.size) = some (cw ys).size by rw [cw_size HY.out]; kernel_rfl)
      have hmk := make64 wr
      have HB6 := Lib.hid (HB1.out.alloc (.cells zeros64 5))
      have HOW := Lib.hid (World.ownsRow_made (e := 5) (size := 1) wr zeros64 64 (show h ≤ wr.heap.size by have := HB2.out.lt; omega) (by decide) (by decide))
      have HB7 := Lib.hid (HB2.out.alloc (.cells zeros64 5))
      have HBW7 := Lib.hid (HBW2.out.alloc (show h ≤ wr.heap.size by have := HB2.out.lt; omega) (.cells zeros64 5))
      go_wp2_with (first
        | (refine wpList_load_row (o := ⟨some 13, _, _, _, _, _⟩) rfl 66 (.tmp 3) rfl (h + 1) rfl 66 (cw ys) (0, 0) _ HB6.out hu rfl HIy.out ?_))
      clear hmk
      go_loopw [4, 5, 6, 14] (fun out _ _ i wr => ∃ k : Nat, k ≤ 16 ∧ i = .int .i64 k ∧ wr.ownsRow h 5 1 out (4 * k) ((outW s ys k).map Ytbfejjjdolfcfaa.u8) ∧ Blk wr h 66 (cw s) ∧ Below h w wr) (fun _ _ _ i _ => 16 - (intOf i).toNat)
      case atStart => exact ⟨0, by omega, rfl, HOW.out, HB7.out, HBW7.out⟩
      case round =>
        obtain ⟨k, hk, rfl, hown, hb2, hbw⟩ := hrel
        obtain ⟨A8, cap8, rfl, -⟩ := own_form hown
        have HO8 := Lib.hid hown
        have HB8 := Lib.hid hb2
        have HBW8 := Lib.hid hbw
        clear hown hb2 hbw
        by_cases hlt : (k : Int) < 16
        · have hkn : k < 16 := by omega
          have hix := cw_index HY.out hkn wr
          obtain ⟨g1, g2⟩ := cw_get HY.out hkn
          obtain ⟨g3, g4⟩ := cw_get HS.out hkn
          have hcell := (HB8.out.cell k).trans g3
          have hos := outW_succ s ys k
          obtain ⟨v, hv⟩ : ∃ v : Nat, (ys.getD k 0 + s.getD k 0) % 4294967296 = v := ⟨_, rfl⟩
          rw [hv] at hos
          have hs2 : ((ys.getD k 0 : Nat) + (s.getD k 0 : Nat) : Int) % 4294967296 = (v : Nat) := by omega
          have hv2 : (v : Int) < 4294967296 := by omega
          have hnews : [Value.int .u8 ((v : Int) % 256), .int .u8 ((v : Int) / 256 % 256), .int .u8 ((v : Int) / 65536 % 256), .int .u8 ((v : Int) / 16777216)] = (le4 v).map Ytbfejjjdolfcfaa.u8 := by
            simp only [le4, List.map_cons, List.map_nil]
            rw [u8_of (by omega), u8_of (by omega), u8_of (by omega), u8_of (by omega)]
            simp
            omega
          have HN := Lib.hid hnews
          have HOS := Lib.hid hos
          generalize ys.getD k 0 = x at *
          generalize s.getD k 0 = y at *
          have hx : (x : Int) < 4294967296 := by omega
          have hy : (y : Int) < 4294967296 := by omega
          clear g1 g3 hnews hos hv
          go_wp2_with (at_builtin; go_must (refine wpList_app_own (base := h) (n := 4 * k) (m := 4) (xs := (outW s ys k).map Ytbfejjjdolfcfaa.u8) (news := [.int .u8 ((v : Int) % 256), .int .u8 ((v : Int) / 256 % 256), .int .u8 ((v : Int) / 65536 % 256), .int .u8 ((v : Int) / 16777216)]) rfl (.tmp 23) (.tmp 35) 30 rfl el30 rfl (own_alloc HO8.out) rfl (holds_new _ _ _ _ _) (one4 _ _ _ _) (by unfold maxLen; omega) (by omega) (by have := HBW8.out.size; have := HB8.out.lt; simp; omega) ?_; intro v9 w9 hown hg _; refine Hid.out ?_))
          refine Lib.hid ?_
          rw [HN.out, ← List.map_append, ← HOS.out] at hown
          have HO9 := Lib.hid hown
          have HB9 := Lib.hid (blk_far (HB8.out.alloc _) (own_alloc HO8.out) (by decide) hg)
          have HBW9 := Lib.hid (below_own (HBW8.out.alloc (by have := HB8.out.lt; omega) _) (by have := HB8.out.lt; simp; omega) (own_alloc HO8.out) hg)
          clear hown hg
          go_wp2_with fail
          go_roundw
          case rel => exact ⟨k + 1, by omega, by go_num, HO9.out, HB9.out, HBW9.out⟩
          case measure => simp [intOf]; omega
        · obtain rfl : k = 16 := by omega
          go_wp2_with fail
          go_ret
          refine ⟨_, rfl, ?_, ?_⟩
          · rw [HH.out]; exact HO8.out
          · rw [HH.out]; exact HBW8.out
end Go.Proofs.Ytbfejjjdolfcfaa
