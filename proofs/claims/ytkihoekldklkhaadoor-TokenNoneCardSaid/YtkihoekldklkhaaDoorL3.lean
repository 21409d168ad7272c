/- The walk of TokenNone. -/
import Derived.Test.YtkihoekldklkhaaDoorRa
import Derived.Test.YtkihoekldklkhaaDoorTs
import Derived.Test.YtkihoekldklkhaaDoorMk
import Derived.Test.YtkihoekldklkhaaDoorOi
import Derived.Test.YtkihoekldklkhaaDoorRg
namespace Go.Proofs.YtkihoekldklkhaaDoor
open Go.RowKit
attribute [local go_sem] wide_fn wide_depth wide_fn_in wide_depth_in Oper.semAt_some
set_option linter.unusedVariables false
set_option linter.unusedSimpArgs false

set_option maxRecDepth 100000 in
set_option maxHeartbeats 1000000 in
theorem nil_iter (n : Nat) (W : World) (g : Nat) (hg : Blk W g 24 #[.slice none 0 0]) (At : Nat → Array Value → World → Prop) (Kp : Array Value → World → World → Prop) (Step : World → World → Prop) :
    Iter Fence.wide n Tryd.prog 47 #[.pointer (some ⟨g, 0, none⟩)] At Kp Step 0 W := by
  intro l J Jx hJ hJx hY h0
  have H0 := Lib.hid h0
  have c0 := hg.cell 0
  simp only [List.getElem?_toArray, List.getElem?_cons_zero] at c0
  clear hJ hJx hY h0 hg
  refine callsIn_of_wp Tryd.func47 rfl trivial ?_ rfl
  simp only [Tryd.ntmps47, List.size_toArray, List.length_cons, List.length_nil, Nat.reduceAdd, Nat.reduceSub, Array.replicate_succ, Array.replicate_zero, List.push_toArray, List.append_toArray, List.nil_append, List.cons_append]
  gi_wp2_with fail
  refine wpIn_loop_rounds 1 ?_
  simp only [Code.roundsIn]
  gi_wp2_with fail
  go_end0
  exact ⟨⟨_, rfl⟩, .inl H0.out⟩
def NLoop (n0 gA : Nat) (s : ByteArray) (W2 : World) (a : Act) (W : World) : Prop := ∃ (i : Nat) (Ds : List Nat), a.tmps.size = 106 ∧ a.tmps.getD 0 undef = .string s ∧ a.tmps.getD 2 undef = .pointer (some ⟨n0, 0, none⟩) ∧ a.tmps.getD 22 undef = .slice (some ⟨gA, 0, none⟩) 2 2 ∧ a.tmps.getD 23 undef = .int .i64 2 ∧ a.tmps.getD 24 undef = .int .i64 (i : Int) ∧ a.defers = Ds.map mark ∧ i ≤ 2 ∧ Below W2.heap.size W2 W ∧ Marks W2.heap.size Ds W
set_option maxRecDepth 100000 in
set_option maxHeartbeats 1000000 in
theorem none_law (s : ByteArray) (w : World) (hs : s.size ≤ maxLen) : Calls Tryd.prog 3 #[.string s] w fun e w' => e = .returned (.bool true) ∧ Below w.heap.size w w' := by
  refine (callsIn_wide (n := 100)).1 ?_
  refine callsIn_of_wp_marks Tryd.func3 rfl trivial ?_ rfl
  refine wpIn_wide.2 ?_
  simp only [Tryd.ntmps3, List.size_toArray, List.length_cons, List.length_nil, Nat.reduceAdd, Nat.reduceSub, Array.replicate_succ, Array.replicate_zero, List.push_toArray, List.append_toArray, List.nil_append, List.cons_append]
  obtain ⟨W0, hW0⟩ : ∃ W0, w.alloc (.cells #[.bool false] 4) = W0 := ⟨_, rfl⟩
  have hba : Below w.heap.size w W0 := hW0 ▸ (Below.refl _ w).alloc (Nat.le_refl _) _
  have kR : Blk W0 w.heap.size 4 #[.bool false] := hW0 ▸ Blk.new w 4 _
  have HBA := Lib.hid hba
  have KR := Lib.hid kR
  have ending : ∀ (nn : Nat) (tm : Array Value) (W : World) (Ds : List Nat), tm.getD 2 undef = .pointer (some ⟨w.heap.size, 0, none⟩) → Marks (w.heap.size + 1) Ds W → Below w.heap.size w W → Blk W w.heap.size 4 #[.bool true] → LeavesInM Fence.wide nn Tryd.prog Tryd.f3 tm (fun e w' => e = .returned (.bool true) ∧ Below w.heap.size w w') (Ds.map mark) .returning W := by
    intro nn tm W Ds ht hM hb hk
    refine leaves_marks2 (v := .bool true) Ds W hM fun w' hs => ⟨?_, rfl, hb.trans (hs.to_below.mono (by omega))⟩
    have hk' := (hk.below hs.to_below (by omega)).cell 0
    simp at hk'
    have ht' : tm[2]?.getD undef = .pointer (some ⟨w.heap.size, 0, none⟩) := by simpa using ht
    simp [results, Tryd.results3, go_sem, ht', hk']
  have HEND := Lib.hid ending
  have HW0 := Lib.hid hW0
  have hnf : ∀ (a : Nat) (W : World), (binOp .eql 41 (fn47 a) .nilFunc).run Tryd.prog W = .ok (.bool false) W := fun a W => by unfold fn47; kernel_rfl
  unfold fn47 at hnf
  clear hba kR ending hW0 hs
  by_cases hbig : (50 : Int) < s.size
  · have C9 := Lib.hid (known_any W0)
    have f1 := KR.out.frozen 0
    go_upto_region 1 with fail
    rw [HW0.out]
    go_wp2_with (go_at_call 8; (with_reducible refine C9.out.mono ?_); rintro e w9 ⟨rfl, b9⟩; have k9 := KR.out.below b9 KR.out.lt; have e9 := k9.cell 0; have f9 := k9.frozen 0; simp at e9; have K9 := Lib.hid k9; have B9 := Lib.hid (HBA.out.trans (b9.mono HBA.out.size)); clear b9 k9)
    refine HEND.out _ _ _ [] (by simp) ⟨List.nodup_nil, fun D hD => by cases hD⟩ ?_ ?_
    · exact Below.setCell B9.out (by simp) _
    · have := K9.out.set_ 0 (.bool true)
      simpa using this
  have q0 : decide ((50 : Int) < (s.size : Int)) = false := by simp; omega
  clear hbig
  go_upto_region 1 with fail
  rw [HW0.out]
  go_upto_region 4 with fail
  go_wp2_with fail
  obtain ⟨W2, hW2⟩ : ∃ W2, (W0.alloc (.cells #[.slice none 0 0, .int .i64 0, .int .i64 0] 28)).alloc (.cells #[.pointer none, .pointer (some ⟨W0.heap.size, 0, none⟩)] 23) = W2 := ⟨_, rfl⟩
  have hB2 : Below W0.heap.size W0 W2 := hW2 ▸ ((Below.refl _ W0).alloc (Nat.le_refl _) _).alloc (by simp) _
  have k28 : Blk W2 W0.heap.size 28 #[.slice none 0 0, .int .i64 0, .int .i64 0] := hW2 ▸ (Blk.new W0 28 _).alloc _
  have k23 : Blk W2 (W0.heap.size + 1) 23 #[.pointer none, .pointer (some ⟨W0.heap.size, 0, none⟩)] := by
    rw [← hW2]
    have := Blk.new (W0.alloc (.cells #[.slice none 0 0, .int .i64 0, .int .i64 0] 28)) 23 #[.pointer none, .pointer (some ⟨W0.heap.size, 0, none⟩)]
    rw [World.size_alloc] at this
    exact this
  rw [hW2]
  have K2R := Lib.hid (KR.out.below hB2 KR.out.lt)
  have B2w := Lib.hid (HBA.out.trans (hB2.mono HBA.out.size))
  have K28 := Lib.hid k28
  have K23 := Lib.hid k23
  have HS2 := Lib.hid (show w.heap.size + 1 ≤ W2.heap.size by have := K2R.out.lt; omega)
  clear hW2 hB2 k28 k23 HBA KR q0
  obtain ⟨gZ, hgZ⟩ : ∃ g, W0.heap.size = g := ⟨_, rfl⟩
  rw [hgZ] at K28 K23 ⊢
  clear hgZ
  refine (wpIn_wide (n := 99)).1 ?_
  refine wpIn_loop (NLoop w.heap.size (gZ + 1) s W2)
    (fun a W => 2 - (intOf (a.tmps.getD 24 undef)).toNat) ⟨0, [], rfl, rfl, rfl, rfl, rfl, rfl, rfl, by omega, Below.refl _ _, List.nodup_nil, fun D hD => by cases hD⟩ ?_
  rintro ⟨tm, df⟩ W ⟨i, Ds, hsz, h0, h2, h22, h23, h24, hdf, hi, hb, hM⟩
  dsimp only at hsz h0 h2 h22 h23 h24 hdf ⊢
  obtain ⟨x, hx⟩ : ∃ x : Nat → Value, (fun k => tm.getD k undef) = x := ⟨_, rfl⟩
  have e : tm = #[x 0, x 1, x 2, x 3, x 4, x 5, x 6, x 7, x 8, x 9, x 10, x 11, x 12, x 13, x 14, x 15, x 16, x 17, x 18, x 19, x 20, x 21, x 22, x 23, x 24, x 25, x 26, x 27, x 28, x 29, x 30, x 31, x 32, x 33, x 34, x 35, x 36, x 37, x 38, x 39, x 40, x 41, x 42, x 43, x 44, x 45, x 46, x 47, x 48, x 49, x 50, x 51, x 52, x 53, x 54, x 55, x 56, x 57, x 58, x 59, x 60, x 61, x 62, x 63, x 64, x 65, x 66, x 67, x 68, x 69, x 70, x 71, x 72, x 73, x 74, x 75, x 76, x 77, x 78, x 79, x 80, x 81, x 82, x 83, x 84, x 85, x 86, x 87, x 88, x 89, x 90, x 91, x 92, x 93, x 94, x 95, x 96, x 97, x 98, x 99, x 100, x 101, x 102, x 103, x 104, x 105] := (arr_lit tm 106 hsz).trans (by rw [hx]; rfl)
  have y0 := (congrFun hx 0).symm.trans h0
  have y2 := (congrFun hx 2).symm.trans h2
  have y22 := (congrFun hx 22).symm.trans h22
  have y23 := (congrFun hx 23).symm.trans h23
  have y24 := (congrFun hx 24).symm.trans h24
  rw [y0, y2, y22, y23, y24] at e
  clear y0 y2 y22 y23 y24 h0 h2 h22 h23 h24 hsz hx
  subst e hdf
  have HB := Lib.hid hb
  have HMk := Lib.hid hM
  clear hb hM
  refine wpIn_wide.2 ?_
  by_cases hlt : (i : Int) < 2
  · obtain ⟨p, hp, hc⟩ : ∃ p : Option Addr, NoR p W ∧ W.cell? ⟨gZ + 1, i, none⟩ = some (.pointer p) := by
      have kk := K23.out.below HB.out K23.out.lt
      rcases (show i = 0 ∨ i = 1 by omega) with rfl | rfl
      · exact ⟨none, .inl rfl, by rw [kk.cell]; rfl⟩
      · exact ⟨_, .inr ⟨_, rfl, K28.out.below HB.out K28.out.lt⟩, by rw [kk.cell]; rfl⟩
    have HP := Lib.hid hp
    clear hp
    go_upto_region 8 with (go_at_call 9; (with_reducible refine (peek_none p W HP.out).mono ?_); rintro e w3 ⟨rfl, hb3⟩; have HB3 := Lib.hid hb3; clear hb3)
    obtain ⟨W4, hW4⟩ : ∃ W4, w3.alloc (.cells #[.int .i64 0, .string ⟨#[]⟩, .int .i64 0, .int .i64 0, .int .i64 0] 32) = W4 := ⟨_, rfl⟩
    have k6 : Blk W4 w3.heap.size 32 #[.int .i64 0, .string ⟨#[]⟩, .int .i64 0, .int .i64 0, .int .i64 0] := hW4 ▸ Blk.new w3 32 _
    have HB4 := Lib.hid (hW4 ▸ HB3.out.alloc HB3.out.size (.cells #[.int .i64 0, .string ⟨#[]⟩, .int .i64 0, .int .i64 0, .int .i64 0] 32))
    have K6 := Lib.hid k6
    rw [hW4]
    obtain ⟨g6, hg6⟩ : ∃ g, w3.heap.size = g := ⟨_, rfl⟩
    rw [hg6] at K6 ⊢
    clear hW4 k6 hg6 hc
    go_upto_region 9 with (go_at_call 10; (with_reducible refine (next_none p W4 (HP.out.below HB4.out)).mono ?_); rintro e w5 ⟨rfl, hb5⟩; have HB5 := Lib.hid hb5; clear hb5)
    obtain ⟨W6, hW6⟩ : ∃ W6, w5.alloc (.cells #[.int .i64 0, .string ⟨#[]⟩, .int .i64 0, .int .i64 0, .int .i64 0] 32) = W6 := ⟨_, rfl⟩
    have k8 : Blk W6 w5.heap.size 32 #[.int .i64 0, .string ⟨#[]⟩, .int .i64 0, .int .i64 0, .int .i64 0] := hW6 ▸ Blk.new w5 32 _
    have hb6 : Below W4.heap.size W4 W6 := hW6 ▸ HB5.out.alloc HB5.out.size (.cells #[.int .i64 0, .string ⟨#[]⟩, .int .i64 0, .int .i64 0, .int .i64 0] 32)
    have HB6 := Lib.hid (HB4.out.trans (hb6.mono HB4.out.size))
    have K8 := Lib.hid k8
    have K66 := Lib.hid (K6.out.below hb6 K6.out.lt)
    rw [hW6]
    obtain ⟨g8, hg8⟩ : ∃ g, w5.heap.size = g := ⟨_, rfl⟩
    rw [hg8] at K8 ⊢
    clear hW6 k8 hg8 hb6 K6
    go_upto_region 10 with (go_at_call 11; (with_reducible refine (word_none p W6 (HP.out.below HB6.out)).mono ?_); rintro e w7 ⟨rfl, hb7⟩; have HB7 := Lib.hid hb7; clear hb7)
    have HB7w := Lib.hid (HB6.out.trans (HB7.out.mono HB6.out.size))
    go_upto_region 11 with (go_at_call 12; (with_reducible refine (number_none p w7 (HP.out.below HB7w.out)).mono ?_); rintro e w8 ⟨rfl, hb8⟩; have HB8 := Lib.hid hb8; clear hb8)
    have HB8w := Lib.hid (HB7w.out.trans (HB8.out.mono HB7w.out.size))
    go_upto_region 12 with (go_at_call 13; (with_reducible refine (rest_none p w8 (HP.out.below HB8w.out)).mono ?_); rintro e w9 ⟨gr, rfl, kg, hb9⟩; have KG := Lib.hid kg; have HB9 := Lib.hid hb9; clear hb9 kg; unfold fn47)
    have HB69 := Lib.hid (HB7.out.trans ((HB8.out.trans (HB9.out.mono HB8.out.size)).mono HB7.out.size))
    have HB9w := Lib.hid (HB6.out.trans (HB69.out.mono HB6.out.size))
    have k6 := K66.out.below HB69.out K66.out.lt
    have k8 := K8.out.below HB69.out K8.out.lt
    have c60 := k6.cell 0
    have c61 := k6.cell 1
    have c62 := k6.cell 2
    have c63 := k6.cell 3
    have c64 := k6.cell 4
    have c80 := k8.cell 0
    have c81 := k8.cell 1
    have c82 := k8.cell 2
    have c83 := k8.cell 3
    have c84 := k8.cell 4
    simp only [List.getElem?_toArray, List.getElem?_cons_zero, List.getElem?_cons_succ] at c60 c61 c62 c63 c64 c80 c81 c82 c83 c84
    clear k6 k8 K66 K8
    have hq32 : ∀ W : World, (binOp .neq 32 (.agg #[.int .i64 0, .string ⟨#[]⟩, .int .i64 0, .int .i64 0, .int .i64 0]) (.agg #[.int .i64 0, .string ⟨#[]⟩, .int .i64 0, .int .i64 0, .int .i64 0])).run Tryd.prog W = .ok (.bool false) W := fun W => by kernel_rfl
    have hq26 : ∀ W : World, (binOp .neq 26 (.agg #[.int .i64 0, .int .i64 0]) (.agg #[.int .i64 0, .int .i64 0])).run Tryd.prog W = .ok (.bool false) W := fun W => by kernel_rfl
    go_upto_region 14 with (first | (go_at_call 14; (with_reducible refine (take_none p s w9 (HP.out.below HB9w.out)).mono ?_); rintro e w10 ⟨rfl, hb10⟩; have HB10 := Lib.hid hb10; have HB10w := Lib.hid (HB9w.out.trans (hb10.mono HB9w.out.size)); clear hb10) | (go_at_call 15; (with_reducible refine (place_none p w10 (HP.out.below HB10w.out)).mono ?_); rintro e w11 ⟨rfl, hb11⟩; have HB11 := Lib.hid hb11; clear hb11))
    have HBq := Lib.hid (HB10w.out.trans (HB11.out.mono HB10w.out.size))
    have KGq := Lib.hid ((KG.out.below HB10.out KG.out.lt).below HB11.out (Nat.lt_of_lt_of_le KG.out.lt HB10.out.size))
    clear c60 c61 c62 c63 c64 c80 c81 c82 c83 c84 hq32 hq26
    go_wp2_with fail
    refine (wpIn_wide (n := 99)).1 ?_
    refine wpIn_iter (N := 0) (At := fun _ _ _ => False) (Kp := fun _ _ _ => True) (Step := fun X Y => X = Y) rfl (by omega) (gf := 47) (lb := #[.pointer (some ⟨gr, 0, none⟩)]) rfl trivial (enters_of Tryd.func47 (by kernel_rfl) rfl)
      (fun W1 hb1 hz1 => nil_iter 98 W1 gr (KGq.out.below hb1 KGq.out.lt) _ _ _)
      (fun X Y h k hk hkX => by rw [h]) (fun _ _ _ _ _ _ _ _ _ _ => trivial) (fun i vs X h => h.elim)
      (fun _ X => Below w11.heap.size w11 X) (fun _ _ _ => False) ?hI ?hIx ?hIS ?hIxS ?h0 (fun _ _ _ _ _ => False) ?hAx ?assign ?body ?done ?stop
    case hI => exact fun j X k o o' hk hX ho h => below_calm h (by omega) hX
    case hIx => exact fun cd j X k o o' hk hX ho h => h.elim
    case hIS => exact fun j X Y h hs => hs ▸ h
    case hIxS => exact fun cd j X Y h hs => h.elim
    case h0 => exact fun W1 hb1 hz1 => hb1
    case hAx => exact fun j vs X0 a' X k o o' hk hX ho h => h.elim
    case assign => exact fun l i vs W K hl hi => absurd hi (Nat.not_lt_zero _)
    case body => exact fun l i vs W0 a' W hl hi => absurd hi (Nat.not_lt_zero _)
    case stop => exact fun D c i W hD hi => absurd hi (Nat.not_lt_zero _)
    case done =>
      intro D X hD h hK
      have HX := Lib.hid (HBq.out.trans (h.mono HBq.out.size))
      have HD := Lib.hid hD
      have HK := Lib.hid hK
      have hDs : D ∉ Ds := fun hD2 => by have := HMk.out.lt D hD2; have := HBq.out.size; omega
      have HDs := Lib.hid hDs
      clear hD h hK hDs
      simp only [Exit.inBlock, Exit.then]
      go_at_K
      go_wp2_with fail
      refine ⟨⟨i + 1, D :: Ds, rfl, rfl, rfl, rfl, rfl, ?_, rfl, by omega, HB.out.trans (HX.out.mono HB.out.size), List.nodup_cons.2 ⟨HDs.out, HMk.out.nodup⟩, fun E hE => ?_⟩, ?_⟩
      · show Value.int .i64 ((i : Int) + 1) = _
        go_num
      · rcases List.mem_cons.1 hE with rfl | hE
        · exact ⟨by have := HD.out; have := HBq.out.size; have := HB.out.size; omega, HK.out⟩
        · exact ⟨(HMk.out.there E hE).1, (HX.out.block E (HMk.out.lt E hE)).trans (HMk.out.there E hE).2⟩
      · show 2 - (intOf (.int .i64 ((i : Int) + 1))).toNat < 2 - (intOf (.int .i64 (i : Int))).toNat
        simp [intOf]
        omega
  · have C10 := Lib.hid (known_any W)
    have kb := K2R.out.below HB.out K2R.out.lt
    have f1 := kb.frozen 0
    have KB4 := Lib.hid kb
    clear kb
    go_wp2_with (go_at_call 8; (with_reducible refine C10.out.mono ?_); rintro e w9 ⟨rfl, b9⟩; have k9 := KB4.out.below b9 KB4.out.lt; have e9 := k9.cell 0; have f9 := k9.frozen 0; simp at e9; have K9 := Lib.hid k9; have B9 := Lib.hid b9; clear b9 k9)
    refine HEND.out _ _ _ Ds ?_ ⟨HMk.out.nodup, fun D hD => ?_⟩ ?_ ?_
    · rfl
    · have := HMk.out.there D hD
      have hlt := HMk.out.lt D hD
      refine ⟨by have := HS2.out; omega, ?_⟩
      rw [Below.heap_setCell _ _ _ _ (by simp; have := HS2.out; omega)]
      exact (B9.out.block D hlt).trans this.2
    · exact Below.setCell (B2w.out.trans ((HB.out.trans (B9.out.mono HB.out.size)).mono B2w.out.size)) (by simp) _
    · have := K9.out.set_ 0 (.bool true)
      simpa using this

end Go.Proofs.YtkihoekldklkhaaDoor
