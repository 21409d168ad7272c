/- The walk of BitsNone. -/
import Derived.Test.YthgbnpafhkhjpaaAct
import Derived.Test.YthgbnpafhkhjpaaLrd
import Derived.Test.YthgbnpafhkhjpaaNit
import Derived.Test.YthgbnpafhkhjpaaLit
import Derived.Test.YthgbnpafhkhjpaaKn
namespace Go.Proofs.Ythgbnpafhkhjpaa
open Go.RowKit
set_option linter.unusedVariables false
set_option linter.unusedSimpArgs false

theorem leaves_marks2 {F : Fence} {n b : Nat} {P : Program} {fn : Func} {tmps : Array Value} {R : Ending → World → Prop} {v : Value} :
    ∀ (Ds : List Nat) (w : World), Marks b Ds w → (∀ w', Still b w w' → (results fn tmps).run P w' = .ok v w' ∧ R (.returned v) w') → LeavesInM F n P fn tmps R (Ds.map mark) .returning w
  | [], w, _, hR => by
    have := hR w (Still.refl _ _)
    exact ⟨v, this.1, this.2⟩
  | D :: Ds, w, h, hR => by
    have hD := h.there D (by simp)
    refine ⟨by simp, .inl ⟨D, _, rfl, run_takeDeferred hD.2, ?_⟩⟩
    have hnd := List.nodup_cons.1 h.nodup
    exact leaves_marks2 Ds _ (Marks.put ⟨hnd.2, fun E hE => h.there E (by simp [hE])⟩ hnd.1 _) fun w' hs => hR w' ((Still.put hD.2 rfl hD.1).trans hs)
/-- A frame of known size, spelled out. -/
theorem arr_lit (t : Array Value) (n : Nat) (h : t.size = n) : t = ((List.range n).map (fun k => t.getD k undef)).toArray := by
  subst h
  apply Array.ext
  · simp
  · intro i h1 h2
    simp [Array.getElem?_eq_getElem h1]
theorem Still.to_below {b : Nat} {X Y : World} (h : Still b X Y) : Below b X Y := ⟨h.os, h.tape, h.output, h.size, h.low⟩

theorem wis_at (p : Option Addr) (g : Nat) (W0 : World) (hp : p = none ∨ (p = some ⟨g, 0, none⟩ ∧ Blk W0 g 63 #[.slice none 0 0, .int .i64 0, .bool false])) : ∀ W, Below W0.heap.size W0 W → Calls Try.prog 36 #[.pointer p] W fun e w' => e = .returned (.bool false) ∧ W = w' := by
  intro W hb
  rcases hp with rfl | ⟨rfl, hg⟩
  · exact wis_nil W
  · exact wis_some g _ _ _ W (hg.below hb hg.lt)
theorem ris_at (p : Option Addr) (g : Nat) (W0 : World) (hp : p = none ∨ (p = some ⟨g, 0, none⟩ ∧ Blk W0 g 66 #[.slice none 0 0, .int .i64 0, .int .i64 0, .bool false])) : ∀ W, Below W0.heap.size W0 W → Calls Try.prog 49 #[.pointer p] W fun e w' => e = .returned (.bool false) ∧ W = w' := by
  intro W hb
  rcases hp with rfl | ⟨rfl, hg⟩
  · exact ris_nil W
  · exact ris_some g _ _ _ _ W (hg.below hb hg.lt)

set_option maxRecDepth 100000 in
set_option maxHeartbeats 4000000 in
theorem none_any (X : ActV) (w : World) (hX : ActG w X) :
    Calls Try.prog 8 #[.agg #[.int .u8 X.k, .int .i64 X.v, .int .i64 X.n, .slice X.A X.m X.c]] w fun e w' => e = .returned (.bool true) ∧ Below w.heap.size w w' := by
  obtain ⟨K, V, N, A, m, c, l⟩ := X
  have k0 := hX.k0
  have k1 := hX.k1
  clear hX
  dsimp only at k0 k1 ⊢
  refine (callsIn_wide (n := 100)).1 ?_
  refine callsIn_of_wp_marks Try.func8 rfl trivial ?_ rfl
  refine wpIn_wide.2 ?_
  simp only [Try.ntmps8, List.size_toArray, List.length_cons, List.length_nil, Nat.reduceAdd, Nat.reduceSub, Array.replicate_succ, Array.replicate_zero, List.push_toArray, List.append_toArray, List.nil_append, List.cons_append]
  have hba : Below w.heap.size w ((w.alloc (.cells #[.int .u8 K, .int .i64 V, .int .i64 N, .slice A m c] 41)).alloc (.cells #[.bool false] 4)) := ((Below.refl _ w).alloc (Nat.le_refl _) _).alloc (by simp) _
  have kA : Blk ((w.alloc (.cells #[.int .u8 K, .int .i64 V, .int .i64 N, .slice A m c] 41)).alloc (.cells #[.bool false] 4)) w.heap.size 41 #[.int .u8 K, .int .i64 V, .int .i64 N, .slice A m c] := (Blk.new w 41 _).alloc _
  have kB : Blk ((w.alloc (.cells #[.int .u8 K, .int .i64 V, .int .i64 N, .slice A m c] 41)).alloc (.cells #[.bool false] 4)) (w.heap.size + 1) 4 #[.bool false] := by have := Blk.new (w.alloc (.cells #[.int .u8 K, .int .i64 V, .int .i64 N, .slice A m c] 41)) 4 #[.bool false]; rw [World.size_alloc] at this; exact this
  have HBA := Lib.hid hba
  have HKA := Lib.hid kA
  have HKB := Lib.hid kB
  have HZ := Lib.hid (show ((w.alloc (.cells #[.int .u8 K, .int .i64 V, .int .i64 N, .slice A m c] 41)).alloc (.cells #[.bool false] 4)).heap.size = w.heap.size + 2 by simp)
  have ending : ∀ (nn : Nat) (tm : Array Value) (W : World) (Ds : List Nat), tm.getD 2 undef = .pointer (some ⟨w.heap.size + 1, 0, none⟩) → Marks (w.heap.size + 2) Ds W → Below w.heap.size w W → Blk W (w.heap.size + 1) 4 #[.bool true] → LeavesInM Fence.wide nn Try.prog Try.f8 tm (fun e w' => e = .returned (.bool true) ∧ Below w.heap.size w w') (Ds.map mark) .returning W := by
    intro nn tm W Ds ht hM hb hk
    refine leaves_marks2 (v := .bool true) Ds W hM fun w' hs => ⟨?_, rfl, hb.trans (hs.to_below.mono (by omega))⟩
    have hk' := (hk.below hs.to_below (by omega)).cell 0
    simp at hk'
    have ht' : tm[2]?.getD undef = .pointer (some ⟨w.heap.size + 1, 0, none⟩) := by simpa using ht
    simp [results, Try.results8, go_sem, ht', hk']
  have HEND := Lib.hid ending
  have hnf : ∀ W : World, (binOp .eql 57 (.func (.func 61) #[] #[]) .nilFunc).run Try.prog W = .ok (.bool false) W := fun W => by kernel_rfl
  clear hba kA kB ending
  by_cases h50 : 50 < (m : Int)
  · have q0 : decide (50 < (m : Int)) = true := by simpa using h50
    clear h50
    have f1 := HKB.out.frozen 0
    have C9 := Lib.hid (known_any ((w.alloc (.cells #[.int .u8 K, .int .i64 V, .int .i64 N, .slice A m c] 41)).alloc (.cells #[.bool false] 4)))
    go_wp2_with (go_at_call 9; (with_reducible refine C9.out.mono ?_); rintro e w9 ⟨rfl, b9⟩; have k9 := HKB.out.below b9 HKB.out.lt; have e9 := k9.cell 0; have f9 := k9.frozen 0; simp at e9; have K9 := Lib.hid k9; have B9 := Lib.hid (HBA.out.trans (b9.mono HBA.out.size)); clear b9 k9)
    refine HEND.out _ _ _ [] (by simp) ⟨List.nodup_nil, fun D hD => by cases hD⟩ ?_ ?_
    · exact Below.setCell B9.out (by simp) _
    · have := K9.out.set_ 0 (.bool true)
      simpa using this
  · have q0 : decide (50 < (m : Int)) = false := by simpa using h50
    have hm50 : m ≤ 50 := by omega
    clear h50
    go_wp2_with fail
    obtain ⟨W2, hW2⟩ : ∃ W2, (((w.alloc (.cells #[.int .u8 K, .int .i64 V, .int .i64 N, .slice A m c] 41)).alloc (.cells #[.bool false] 4)).alloc (.cells #[.slice none 0 0, .int .i64 0, .bool false] 63)).alloc (.cells #[.pointer none, .pointer (some ⟨w.heap.size + 1 + 1, 0, none⟩)] 23) = W2 := ⟨_, rfl⟩
    have hB2 : Below (w.heap.size + 2) ((w.alloc (.cells #[.int .u8 K, .int .i64 V, .int .i64 N, .slice A m c] 41)).alloc (.cells #[.bool false] 4)) W2 := by
      rw [← hW2]; exact ((Below.refl _ _).alloc (by simp) _).alloc (by simp) _
    have kA2 := HKA.out.below hB2 (by omega)
    have kB2 := HKB.out.below hB2 (by omega)
    have b2 := HBA.out.trans (hB2.mono (by omega))
    have k63 : Blk W2 (w.heap.size + 1 + 1) 63 #[.slice none 0 0, .int .i64 0, .bool false] := by
      rw [← hW2]
      have := Blk.new ((w.alloc (.cells #[.int .u8 K, .int .i64 V, .int .i64 N, .slice A m c] 41)).alloc (.cells #[.bool false] 4)) 63 #[.slice none 0 0, .int .i64 0, .bool false]
      rw [World.size_alloc, World.size_alloc] at this
      exact this.alloc _
    have k23 : Blk W2 (w.heap.size + 1 + 1 + 1) 23 #[.pointer none, .pointer (some ⟨w.heap.size + 1 + 1, 0, none⟩)] := by
      rw [← hW2]
      have := Blk.new (((w.alloc (.cells #[.int .u8 K, .int .i64 V, .int .i64 N, .slice A m c] 41)).alloc (.cells #[.bool false] 4)).alloc (.cells #[.slice none 0 0, .int .i64 0, .bool false] 63)) 23 #[.pointer none, .pointer (some ⟨w.heap.size + 1 + 1, 0, none⟩)]
      rw [World.size_alloc, World.size_alloc, World.size_alloc] at this
      exact this
    rw [hW2]
    have KA2 := Lib.hid kA2
    have KB2 := Lib.hid kB2
    have B2 := Lib.hid b2
    have K63 := Lib.hid k63
    have K23 := Lib.hid k23
    have HS2 := Lib.hid (show w.heap.size + 4 ≤ W2.heap.size from k23.lt)
    clear hW2 hB2 kA2 kB2 b2 k63 k23
    go_loopw [23] (fun ii wr => ∃ i : Nat, (i : Int) ≤ 2 ∧ ii = .int .i64 i ∧ Hid (Below W2.heap.size W2 wr)) (fun ii _ => 2 - (intOf ii).toNat)
    case atStart => exact ⟨0, by omega, rfl, Lib.hid (Below.refl _ _)⟩
    case round =>
      obtain ⟨i, hi, rfl, HB⟩ := hrel
      have hi0 : (0 : Int) ≤ i := by omega
      by_cases hlt : (i : Int) < 2
      · obtain ⟨p, hp, hc⟩ : ∃ p : Option Addr, (p = none ∨ (p = some ⟨w.heap.size + 1 + 1, 0, none⟩ ∧ Blk wr (w.heap.size + 1 + 1) 63 #[.slice none 0 0, .int .i64 0, .bool false])) ∧ wr.cell? ⟨w.heap.size + 1 + 1 + 1, i, none⟩ = some (.pointer p) := by
          have kk := K23.out.below HB.out K23.out.lt
          rcases (show i = 0 ∨ i = 1 by omega) with rfl | rfl
          · exact ⟨none, .inl rfl, by rw [kk.cell]; rfl⟩
          · exact ⟨_, .inr ⟨rfl, K63.out.below HB.out K63.out.lt⟩, by rw [kk.cell]; rfl⟩
        have ka := KA2.out.below HB.out KA2.out.lt
        have c0 := ka.cell 0
        have c1 := ka.cell 1
        have c2 := ka.cell 2
        have c3 := ka.cell 3
        simp only [List.getElem?_toArray, List.getElem?_cons_zero, List.getElem?_cons_succ] at c0 c1 c2 c3
        have C36 := Lib.hid (wis_at p _ wr hp)
        have C19 := Lib.hid (lwrite_none p A K V N m c wr k0 k1 (by omega) C36.out)
        clear ka hp
        go_wp2_with (first
          | (go_at_call 19; (with_reducible refine C19.out.mono ?_); rintro e w3 ⟨x, rfl, rfl, b3⟩; have D36 := Lib.hid (C36.out _ b3); have HB3 := Lib.hid (HB.out.trans (b3.mono HB.out.size)); clear b3)
          | (go_at_call 13; (with_reducible refine (wlen_none _ _ D36.out).mono ?_); rintro e w4 ⟨rfl, rfl⟩)
          | (go_at_call 12; (with_reducible refine (out_none _ _ D36.out).mono ?_); rintro e w4 ⟨rfl, rfl⟩)
          | (go_at_call 29; (with_reducible refine (wcopy_none _ _ D36.out).mono ?_); rintro e w4 ⟨rfl, rfl⟩))
        go_roundw
        case rel => exact ⟨i + 1, by omega, by go_num, HB3⟩
        case measure => simp [intOf]; omega
      · clear hi hi0
        go_wp2_with fail
        obtain ⟨W3, hW3⟩ : ∃ W3, (wr.alloc (.cells #[.slice none 0 0, .int .i64 0, .int .i64 0, .bool false] 66)).alloc (.cells #[.pointer none, .pointer (some ⟨wr.heap.size, 0, none⟩)] 30) = W3 := ⟨_, rfl⟩
        have hB3 : Below wr.heap.size wr W3 := by
          rw [← hW3]; exact ((Below.refl _ _).alloc (Nat.le_refl _) _).alloc (by simp) _
        have hB4 := HB.out.trans (hB3.mono HB.out.size)
        have kA3 := KA2.out.below hB4 KA2.out.lt
        have kB3 := KB2.out.below hB4 KB2.out.lt
        have b3 := B2.out.trans (hB4.mono B2.out.size)
        have k66 : Blk W3 wr.heap.size 66 #[.slice none 0 0, .int .i64 0, .int .i64 0, .bool false] := by
          rw [← hW3]
          exact (Blk.new wr 66 _).alloc _
        have k30 : Blk W3 (wr.heap.size + 1) 30 #[.pointer none, .pointer (some ⟨wr.heap.size, 0, none⟩)] := by
          rw [← hW3]
          have := Blk.new (wr.alloc (.cells #[.slice none 0 0, .int .i64 0, .int .i64 0, .bool false] 66)) 30 #[.pointer none, .pointer (some ⟨wr.heap.size, 0, none⟩)]
          rw [World.size_alloc] at this
          exact this
        rw [hW3]
        have KA3 := Lib.hid kA3
        have KB3 := Lib.hid kB3
        have B3 := Lib.hid b3
        have K66 := Lib.hid k66
        have K30 := Lib.hid k30
        have HS3 := Lib.hid (show w.heap.size + 2 ≤ W3.heap.size from Nat.le_trans (by have := HS2.out; omega) hB4.size)
        clear hW3 hB3 hB4 kA3 kB3 b3 k66 k30
        obtain ⟨G2, hG2⟩ : ∃ G, wr.heap.size + 1 = G := ⟨_, rfl⟩
        rw [hG2] at K30 ⊢
        clear hG2
        refine (wpIn_wide (n := 99)).1 ?_
        refine wpIn_loop (fun a W => ∃ (i : Nat) (Ds : List Nat), a.tmps.size = 100 ∧ a.tmps.getD 1 undef = .pointer (some ⟨w.heap.size, 0, none⟩) ∧ a.tmps.getD 2 undef = .pointer (some ⟨w.heap.size + 1, 0, none⟩) ∧ a.tmps.getD 51 undef = .slice (some ⟨G2, 0, none⟩) 2 2 ∧ a.tmps.getD 52 undef = .int .i64 2 ∧ a.tmps.getD 53 undef = .int .i64 (i : Int) ∧ a.defers = Ds.map mark ∧ i ≤ 2 ∧ Below W3.heap.size W3 W ∧ Marks W3.heap.size Ds W)
          (fun a _ => 2 - (intOf (a.tmps.getD 53 undef)).toNat) ⟨0, [], rfl, rfl, rfl, rfl, rfl, rfl, rfl, Nat.zero_le _, Below.refl _ _, List.nodup_nil, fun D hD => by cases hD⟩ ?_
        rintro ⟨tm, df⟩ W ⟨i, Ds, hsz, h1, h2, h51, h52, h53, hdf, hi, hb, hM⟩
        dsimp only at hsz h1 h2 h51 h52 h53 hdf ⊢
        obtain ⟨x, hx⟩ : ∃ x : Nat → Value, (fun k => tm.getD k undef) = x := ⟨_, rfl⟩
        have e : tm = #[x 0, x 1, x 2, x 3, x 4, x 5, x 6, x 7, x 8, x 9, x 10, x 11, x 12, x 13, x 14, x 15, x 16, x 17, x 18, x 19, x 20, x 21, x 22, x 23, x 24, x 25, x 26, x 27, x 28, x 29, x 30, x 31, x 32, x 33, x 34, x 35, x 36, x 37, x 38, x 39, x 40, x 41, x 42, x 43, x 44, x 45, x 46, x 47, x 48, x 49, x 50, x 51, x 52, x 53, x 54, x 55, x 56, x 57, x 58, x 59, x 60, x 61, x 62, x 63, x 64, x 65, x 66, x 67, x 68, x 69, x 70, x 71, x 72, x 73, x 74, x 75, x 76, x 77, x 78, x 79, x 80, x 81, x 82, x 83, x 84, x 85, x 86, x 87, x 88, x 89, x 90, x 91, x 92, x 93, x 94, x 95, x 96, x 97, x 98, x 99] := (arr_lit tm 100 hsz).trans (by rw [hx]; rfl)
        have y1 := (congrFun hx 1).symm.trans h1
        have y2 := (congrFun hx 2).symm.trans h2
        have y51 := (congrFun hx 51).symm.trans h51
        have y52 := (congrFun hx 52).symm.trans h52
        have y53 := (congrFun hx 53).symm.trans h53
        rw [y1, y2, y51, y52, y53] at e
        clear y1 y2 y51 y52 y53 h1 h2 h51 h52 h53 hsz hx
        subst e hdf
        have hi0 : (0 : Int) ≤ i := by omega
        have HM := Lib.hid hM
        have HBb := Lib.hid hb
        clear hM hb
        refine wpIn_wide.2 ?_
        by_cases hlt : (i : Int) < 2
        · obtain ⟨p, hp, hc⟩ : ∃ p : Option Addr, (p = none ∨ (p = some ⟨wr.heap.size, 0, none⟩ ∧ Blk W wr.heap.size 66 #[.slice none 0 0, .int .i64 0, .int .i64 0, .bool false])) ∧ W.cell? ⟨G2, i, none⟩ = some (.pointer p) := by
            have kk := K30.out.below HBb.out K30.out.lt
            rcases (show i = 0 ∨ i = 1 by omega) with rfl | rfl
            · exact ⟨none, .inl rfl, by rw [kk.cell]; rfl⟩
            · exact ⟨_, .inr ⟨rfl, K66.out.below HBb.out K66.out.lt⟩, by rw [kk.cell]; rfl⟩
          have ka := KA3.out.below HBb.out KA3.out.lt
          have c0 := ka.cell 0
          have c1 := ka.cell 1
          have c2 := ka.cell 2
          have c3 := ka.cell 3
          simp only [List.getElem?_toArray, List.getElem?_cons_zero, List.getElem?_cons_succ] at c0 c1 c2 c3
          have C49 := Lib.hid (ris_at p _ W hp)
          have C27 := Lib.hid (lread_none p A K V N m c W k0 k1 C49.out)
          clear ka hp
          go_wp2_with (first
            | (go_at_call 27; (with_reducible refine C27.out.mono ?_); rintro e w3 ⟨x9, u9, E9, rfl, rfl, ⟨B9, d9, rfl⟩, rfl, b3⟩; have D49 := Lib.hid (C49.out _ b3); have HB3 := Lib.hid (HBb.out.trans (b3.mono HBb.out.size)); have HB9 := Lib.hid b3; clear b3)
            | (go_at_call 32; (with_reducible refine (rbits_none _ _ D49.out).mono ?_); rintro e w4 ⟨rfl, rfl⟩)
            | (go_at_call 24; (with_reducible refine (rleft_none _ _ D49.out).mono ?_); rintro e w4 ⟨rfl, rfl⟩)
            | (go_at_call 23; (with_reducible refine (rplace_none _ _ D49.out).mono ?_); rintro e w4 ⟨rfl, rfl⟩)
            | (go_at_call 26; (with_reducible refine (rcopy_none _ _ D49.out).mono ?_); rintro e w4 ⟨rfl, rfl⟩))
          have hM3 : Marks W3.heap.size Ds w3 := ⟨HM.out.nodup, fun D hD => ⟨(HM.out.there D hD).1, (HB9.out.block D (HM.out.lt D hD)).trans (HM.out.there D hD).2⟩⟩
          have hDlt := hM3.lt
          refine (wpIn_wide (n := 99)).1 ?_
          refine wpIn_iter (N := 0) (At := fun _ vs _ => vs = #[.bool false]) (Kp := fun _ _ _ => True) (Step := fun X Y => X = Y) rfl (by omega) (gf := 61) (lb := #[]) rfl trivial (enters_of Try.func61 (by kernel_rfl) rfl)
            (fun W1 hb1 hz1 => none_iter 98 W1 _ _ _) (fun X Y h k _ _ => by rw [h]) (fun vs X Z k o o' hk hZ ho h => trivial)
            (fun j vs X h => by rw [h]; rfl)
            (fun j X => Below W3.heap.size W3 X ∧ Marks W3.heap.size Ds X ∧ w3.heap.size ≤ X.heap.size) (fun cd j X => False)
            ?hI (fun cd j X k o o' hk hX ho h => h) (fun j X Z h hs => hs ▸ h) (fun cd j X Z h hs => h) ?h0
            (fun j vs X a' Wx => True) (fun j vs X0 a' X k o o' hk hX ho h => trivial) (fun l j vs X K hl hj => absurd hj (Nat.not_lt_zero j)) (fun l j vs X a' Wx hl hj => absurd hj (Nat.not_lt_zero j)) ?done (fun D cd j X hD hj => absurd hj (Nat.not_lt_zero j))
          case hI => exact fun j X k o o' hk hX ho ⟨h1, h2, h3⟩ => ⟨below_calm h1 (by have := HB3.out.size; omega) hX, h2.put (fun hD => by have := hDlt k hD; omega) _, by rw [size_putObj]; exact h3⟩
          case h0 => exact fun W1 hb1 hz1 => ⟨HB3.out.trans (hb1.mono HB3.out.size), ⟨hM3.nodup, fun D hD => ⟨(hM3.there D hD).1, (hb1.block D (hDlt D hD)).trans (hM3.there D hD).2⟩⟩, hb1.size⟩
          case done =>
            rintro D X hD ⟨h1, h2, h3⟩ hK
            simp only [Exit.inBlock, Exit.then]
            go_at_K
            have H1 := Lib.hid h1
            have H2 := Lib.hid h2
            have HK := Lib.hid hK
            have hDs : D ∉ Ds := fun hD2 => by have := hDlt D hD2; omega
            clear h1 h2 hK
            go_wp2_with fail
            exact ⟨⟨i + 1, D :: Ds, rfl, rfl, rfl, rfl, rfl, by simp, rfl, by omega, H1.out, ⟨List.nodup_cons.2 ⟨hDs, H2.out.nodup⟩, fun E hE => by
              rcases List.mem_cons.1 hE with rfl | hE
              · exact ⟨by have := HB3.out.size; omega, HK.out⟩
              · exact H2.out.there E hE⟩⟩, by simp [intOf]; omega⟩
        · have C9 := Lib.hid (known_any W)
          have kb := KB3.out.below HBb.out KB3.out.lt
          have f1 := kb.frozen 0
          have KB4 := Lib.hid kb
          clear kb hi hi0
          go_wp2_with (go_at_call 9; (with_reducible refine C9.out.mono ?_); rintro e w9 ⟨rfl, b9⟩; have k9 := KB4.out.below b9 KB4.out.lt; have e9 := k9.cell 0; have f9 := k9.frozen 0; simp at e9; have K9 := Lib.hid k9; have B9 := Lib.hid b9; clear b9 k9)
          refine HEND.out _ _ _ Ds ?_ ⟨HM.out.nodup, fun D hD => ?_⟩ ?_ ?_
          · rfl
          · have := HM.out.there D hD
            have hlt := HM.out.lt D hD
            refine ⟨by have := HS3.out; omega, ?_⟩
            rw [Below.heap_setCell _ _ _ _ (by simp; have := HS3.out; omega)]
            exact (B9.out.block D hlt).trans this.2
          · exact Below.setCell (B3.out.trans ((HBb.out.trans (B9.out.mono HBb.out.size)).mono B3.out.size)) (by simp) _
          · have := K9.out.set_ 0 (.bool true)
            simpa using this
end Go.Proofs.Ythgbnpafhkhjpaa
