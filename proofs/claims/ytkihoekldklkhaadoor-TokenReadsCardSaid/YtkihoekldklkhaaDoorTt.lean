/- as, One, the reference's Join, Equal. -/
import Derived.Test.YtkihoekldklkhaaDoorTs
import Derived.Test.YtkihoekldklkhaaDoorL5
namespace Go.Proofs.YtkihoekldklkhaaDoor
open Go.RowKit
set_option linter.unusedVariables false
set_option linter.unusedSimpArgs false

def oneK (k : Int) (t : List UInt8) (v : Int) : Bool := oneT ⟨k, t, v, 0, 0⟩
theorem oneT_K (x : Td) : oneT x = oneK x.k x.t x.v := rfl
theorem res21 (tmps : Array Value) (W : World) (gp : Nat) (a b c d : Value) (h4 : tmps.getD 2 undef = .pointer (some ⟨gp, 0, none⟩)) (hp : Blk W gp 56 #[a, b, c, d]) : (results Tryd.f21 tmps).run Tryd.prog W = .ok (.agg #[a, b, c, d]) W := by
  have k0 := hp.cell 0
  have k1 := hp.cell 1
  have k2 := hp.cell 2
  have k3 := hp.cell 3
  simp at k0 k1 k2 k3 h4
  simp [results, Tryd.results21, go_sem, h4, k0, k1, k2, k3]
set_option maxRecDepth 100000 in
set_option maxHeartbeats 1000000 in
theorem as_any (k v ln cl : Int) (t : ByteArray) (w : World) : Calls Tryd.prog 21 #[.agg #[.int .i64 k, .string t, .int .i64 v, .int .i64 ln, .int .i64 cl]] w fun e w' => e = .returned (.agg #[.int .i64 k, .string t, .int .i64 v, .int .i64 0]) ∧ Below w.heap.size w w' := by
  have hb := (Below.refl w.heap.size w).alloc (Nat.le_refl _) (.cells #[.int .i64 k, .string t, .int .i64 v, .int .i64 ln, .int .i64 cl] 32)
  have HB := Lib.hid (fun o => hb.alloc hb.size o)
  have HG := Lib.hid (Blk.new (w.alloc (.cells #[.int .i64 k, .string t, .int .i64 v, .int .i64 ln, .int .i64 cl] 32)) 56 #[.int .i64 k, .string t, .int .i64 v, .int .i64 0])
  clear hb
  go_enter Tryd.func21, Tryd.ntmps21
  go_wp2_with fail
  rw [World.size_alloc] at HG
  refine bodyPost_ret (res21 _ _ _ _ _ _ _ rfl HG.out) rfl ⟨rfl, HB.out _⟩
set_option maxRecDepth 100000 in
set_option maxHeartbeats 1000000 in
theorem one_any (k v a : Int) (t : List UInt8) (w : World) (hn : t.length ≤ 100000) : Calls Tryd.prog 45 #[.agg #[.int .i64 k, .string ⟨t.toArray⟩, .int .i64 v, .int .i64 a]] w fun e w' => e = .returned (.bool (oneK k t v)) ∧ Below w.heap.size w w' := by
  obtain ⟨x, hx⟩ : ∃ x : Td, x = ⟨k, t, v, 0, 0⟩ := ⟨_, rfl⟩
  have hxk : x.k = k := by rw [hx]
  have hxt : x.t = t := by rw [hx]
  have hxv : x.v = v := by rw [hx]
  have hwx : wholeL k t = x.wh := by rw [hx]; rfl
  have hwl := wh_len x
  have hwn : x.wh.length ≤ 1000000 := by rw [hxt] at hwl; omega
  have C46 := Lib.hid (rwhole_any k t v a (w.alloc (.cells #[.int .i64 k, .string ⟨t.toArray⟩, .int .i64 v, .int .i64 a] 56)) (by omega))
  have C17 := Lib.hid (fun (W : World) => rscan_any x.wh W hwn)
  unfold RScanE at C17
  have HONE := Lib.hid (fun (y : Tk) (hy : scanL 0 x.wh = ([y], none)) => oneT_one hy)
  have HON2 := Lib.hid (fun (b : Nat) (hy : (scanL 0 x.wh).2 = some b) => oneT_no hy)
  have HON3 := Lib.hid (fun (hy : (scanL 0 x.wh).1.length ≠ 1) => oneT_len hy)
  rw [hwx] at C46
  have HBX : Hid (Below w.heap.size w (w.alloc (.cells #[.int .i64 k, .string ⟨t.toArray⟩, .int .i64 v, .int .i64 a] 56))) := Lib.hid ((Below.refl _ w).alloc (Nat.le_refl _) _)
  have HXB : Hid (Blk (w.alloc (.cells #[.int .i64 k, .string ⟨t.toArray⟩, .int .i64 v, .int .i64 a] 56)) w.heap.size 56 #[.int .i64 k, .string ⟨t.toArray⟩, .int .i64 v, .int .i64 a]) := Lib.hid (Blk.new w 56 _)
  obtain ⟨W0, hW0⟩ : ∃ W0, w.alloc (.cells #[.int .i64 k, .string ⟨t.toArray⟩, .int .i64 v, .int .i64 a] 56) = W0 := ⟨_, rfl⟩
  rw [hW0] at C46 HBX HXB
  have HW0 := Lib.hid hW0
  have HTT := Lib.hid (fun (y : Tk) => byte_list y.t t)
  obtain ⟨ox, hox⟩ : ∃ ox, oneK k t v = ox := ⟨_, rfl⟩
  have HOX : Hid (oneT x = ox) := Lib.hid (by rw [hx]; exact hox)
  rw [hox]
  have HKV := Lib.hid (And.intro hxk (And.intro hxt hxv))
  obtain ⟨Sw, hSw⟩ : ∃ Sw, (⟨x.wh.toArray⟩ : ByteArray) = Sw := ⟨_, rfl⟩
  rw [hSw] at C46 C17
  obtain ⟨St, hSt⟩ : ∃ St, (⟨t.toArray⟩ : ByteArray) = St := ⟨_, rfl⟩
  rw [hSt] at HXB HW0 C46 ⊢
  rw [hSt] at HTT
  obtain ⟨xb, hxb⟩ : ∃ xb, w.heap.size = xb := ⟨_, rfl⟩
  rw [hxb] at HXB
  have HXX := Lib.hid hxb
  clear hx hxk hxt hxv hwx hwl hwn hW0 hox hSw hSt hn hxb
  cases hR : scanL 0 x.wh with
  | mk ts bo =>
  rw [hR] at C17
  cases bo with
  | some b =>
    simp only [] at C17
    have HNO : Hid (ox = false) := Lib.hid (by rw [← HOX.out]; exact HON2.out b (by rw [hR]))
    have q0 : (errN x.wh b == 0) = false := by rcases errN_cases x.wh b with h | h <;> rw [h] <;> rfl
    generalize errN x.wh b = en at *
    clear hR
    go_enter Tryd.func45, Tryd.ntmps45
    go_upto_region 1 with fail
    rw [HW0.out, HXX.out]
    have b0 := HXB.out.cell 0
    have b1 := HXB.out.cell 1
    have b2 := HXB.out.cell 2
    have b3 := HXB.out.cell 3
    simp only [List.getElem?_toArray, List.getElem?_cons_zero, List.getElem?_cons_succ] at b0 b1 b2 b3
    go_upto_region 2 with (first | (go_at_call 46; (with_reducible refine C46.out.mono ?_); rintro e w1 ⟨rfl, hb1⟩; have HB1 := Lib.hid hb1; clear hb1) | (go_at_call 17; (with_reducible refine (C17.out w1).mono ?_); rintro e w2 ⟨hb2, rfl⟩; have HB2 := Lib.hid hb2; clear hb2))
    go_quiet (fail)
    have HBA := Lib.hid (fun (q : Nat) => below_drewN ((HBX.out.trans (HB1.out.mono HBX.out.size)).trans (HB2.out.mono (Nat.le_trans HBX.out.size HB1.out.size))) q)
    go_wp2_with fail
    go_ret
    refine ⟨?_, HBA.out _⟩
    rw [HNO.out]
    rfl
  | none =>
    simp only [] at C17
    by_cases h1 : ts.length = 1
    · obtain ⟨y, rfl⟩ := List.length_eq_one_iff.1 h1
      have ho := HONE.out y hR
      rw [List.length_singleton, List.flatMap_singleton] at C17
      have HO := Lib.hid ho
      clear hR ho h1
      go_enter Tryd.func45, Tryd.ntmps45
      go_upto_region 1 with fail
      rw [HW0.out, HXX.out]
      have b0 := HXB.out.cell 0
      have b1 := HXB.out.cell 1
      have b2 := HXB.out.cell 2
      have b3 := HXB.out.cell 3
      simp only [List.getElem?_toArray, List.getElem?_cons_zero, List.getElem?_cons_succ] at b0 b1 b2 b3
      go_upto_region 2 with (first | (go_at_call 46; (with_reducible refine C46.out.mono ?_); rintro e w1 ⟨rfl, hb1⟩; have HB1 := Lib.hid hb1; clear hb1) | (go_at_call 17; (with_reducible refine (C17.out w1).mono ?_); rintro e w2 ⟨hb2, A2, c2, rfl, hown⟩; have HB2 := Lib.hid hb2; have HW2 := Lib.hid hown; clear hb2 hown))
      clear b0 b1 b2 b3
      have HBA := Lib.hid (fun (q : Nat) => below_drewN ((HBX.out.trans (HB1.out.mono HBX.out.size)).trans (HB2.out.mono (Nat.le_trans HBX.out.size HB1.out.size))) q)
      have hxb2 : Blk w2 xb 56 #[.int .i64 k, .string St, .int .i64 v, .int .i64 a] := (HXB.out.below HB1.out HXB.out.lt).below HB2.out (HXB.out.below HB1.out HXB.out.lt).lt
      have b0 := hxb2.cell 0
      have b1 := hxb2.cell 1
      have b2 := hxb2.cell 2
      simp only [List.getElem?_toArray, List.getElem?_cons_zero, List.getElem?_cons_succ] at b0 b1 b2
      obtain ⟨g2, e2, hc2⟩ := own_at HW2.out (by omega) (Below.refl _ _)
      subst e2
      have y0 := hc2 0 _ (by rfl)
      have y1 := hc2 1 _ (by rfl)
      have y2 := hc2 2 _ (by rfl)
      have HTY := Lib.hid (HTT.out y)
      obtain ⟨Sy, hSy⟩ : ∃ Sy, (⟨y.t.toArray⟩ : ByteArray) = Sy := ⟨_, rfl⟩
      obtain ⟨yk, hyk⟩ : ∃ yk : Int, (y.k : Int) = yk := ⟨_, rfl⟩
      obtain ⟨yv, hyv⟩ : ∃ yv : Int, y.v = yv := ⟨_, rfl⟩
      rw [hyk] at y0 HO
      rw [hSy] at y1 HTY
      rw [hyv] at y2 HO
      clear hxb2 hc2 hSy hyk hyv
      by_cases g1 : yk = k
      · have q1 : (yk == k) = true := by simpa using g1
        by_cases g2' : Sy.toList = St.toList
        · have q2 : (Sy.toList == St.toList) = true := by simpa using g2'
          by_cases g3 : yv = v
          · have q3 : (yv == v) = true := by simpa using g3
            have HNO : Hid (ox = true) := Lib.hid (by rw [← HOX.out, HO.out]; rw [HTY.out] at g2'; rw [g1, g2', g3, HKV.out.1, HKV.out.2.1, HKV.out.2.2]; simp)
            clear g1 g2' g3
            go_quiet (fail)
            go_wp2_with fail
            go_ret
            refine ⟨?_, HBA.out _⟩
            rw [HNO.out]
            rfl
          · have q3 : (yv == v) = false := by simpa using g3
            have HNO : Hid (ox = false) := Lib.hid (by rw [← HOX.out, HO.out, HKV.out.2.2, q3]; simp)
            clear g1 g2' g3
            go_quiet (fail)
            go_wp2_with fail
            go_ret
            refine ⟨?_, HBA.out _⟩
            rw [HNO.out]
            rfl
        · have q2 : (Sy.toList == St.toList) = false := by simpa using g2'
          have HNO : Hid (ox = false) := Lib.hid (by rw [HTY.out] at g2'; have q9 : (y.t == t) = false := by simpa using g2'
                                                     rw [← HOX.out, HO.out, HKV.out.2.1, q9]; simp)
          clear g1 g2'
          go_quiet (fail)
          go_wp2_with fail
          go_ret
          refine ⟨?_, HBA.out _⟩
          rw [HNO.out]
          rfl
      · have q1 : (yk == k) = false := by simpa using g1
        have HNO : Hid (ox = false) := Lib.hid (by rw [← HOX.out, HO.out, HKV.out.1, q1]; rfl)
        clear g1
        go_quiet (fail)
        go_wp2_with fail
        go_ret
        refine ⟨?_, HBA.out _⟩
        rw [HNO.out]
        rfl
    · have HNO : Hid (ox = false) := Lib.hid (by rw [← HOX.out]; exact HON3.out (by rw [hR]; exact h1))
      have q0 : ((ts.length : Int) == 1) = false := by simp; omega
      clear hR h1
      go_enter Tryd.func45, Tryd.ntmps45
      go_upto_region 1 with fail
      rw [HW0.out, HXX.out]
      have b0 := HXB.out.cell 0
      have b1 := HXB.out.cell 1
      have b2 := HXB.out.cell 2
      have b3 := HXB.out.cell 3
      simp only [List.getElem?_toArray, List.getElem?_cons_zero, List.getElem?_cons_succ] at b0 b1 b2 b3
      go_upto_region 2 with (first | (go_at_call 46; (with_reducible refine C46.out.mono ?_); rintro e w1 ⟨rfl, hb1⟩; have HB1 := Lib.hid hb1; clear hb1) | (go_at_call 17; (with_reducible refine (C17.out w1).mono ?_); rintro e w2 ⟨hb2, A2, c2, rfl, hown⟩; have HB2 := Lib.hid hb2; have HW2 := Lib.hid hown; clear hb2 hown))
      go_quiet (fail)
      have HBA := Lib.hid (fun (q : Nat) => below_drewN ((HBX.out.trans (HB1.out.mono HBX.out.size)).trans (HB2.out.mono (Nat.le_trans HBX.out.size HB1.out.size))) q)
      go_wp2_with fail
      go_ret
      refine ⟨?_, HBA.out _⟩
      rw [HNO.out]
      rfl

end Go.Proofs.YtkihoekldklkhaaDoor
