/- The walk of SourceNone. -/
import Derived.Test.YthkpmbgclllnjaaMk
import Derived.Test.YthkpmbgclllnjaaAc
namespace Go.Proofs.Ythkpmbgclllnjaa
open Go.RowKit
set_option linter.unusedVariables false
set_option linter.unusedSimpArgs false

theorem play_no (X : ActV) (w : World) (h0 : 0 ≤ X.k) (h1 : X.k < 256) (p : Option Addr) (h : NoSrc p w) :
    Calls Try.prog 23 #[.pointer p, .agg #[.int .u8 X.k, .slice X.A X.m X.c, .int .i64 X.n, .int .u8 (X.x.toNat : Int)]] w fun e w' => ∃ E, e = .returned (.tuple #[.slice none 0 0, .int .i64 E]) ∧ (X.k % 7 = 5 ∨ E = 1) ∧ Below w.heap.size w w' := by
  obtain ⟨K, A, m, c, l, N, x⟩ := X
  simp only at h0 h1 ⊢
  have key : ∀ W, Below w.heap.size w W → NoSrc p W := fun W hb => h.below hb
  rcases (show K % 7 = 0 ∨ K % 7 = 1 ∨ K % 7 = 2 ∨ K % 7 = 3 ∨ K % 7 = 4 ∨ K % 7 = 5 ∨ K % 7 = 6 by omega) with hk | hk | hk | hk | hk | hk | hk
  · refine (play_feed p h0 h1 hk (fun E w' => E = 1 ∧ Below w.heap.size w w') (fun W hb => (feed_none p A m c W (key W hb)).mono fun e w' ⟨he, hb'⟩ => ⟨1, he, rfl, hb.trans (hb'.mono hb.size)⟩)).mono ?_
    rintro e w' ⟨E, rfl, rfl, hb⟩
    exact ⟨1, rfl, .inr rfl, hb⟩
  · refine (play_peek p h0 h1 hk (fun A k c E w' => A = none ∧ k = 0 ∧ c = 0 ∧ E = 1 ∧ Below w.heap.size w w') (fun W hb => (peek_none p N W (key W hb)).mono fun e w' ⟨he, hb'⟩ => ⟨none, 0, 0, 1, he, rfl, rfl, rfl, rfl, hb.trans (hb'.mono hb.size)⟩)).mono ?_
    rintro e w' ⟨A, k, c, E, rfl, rfl, rfl, rfl, rfl, hb⟩
    exact ⟨1, rfl, .inr rfl, hb⟩
  · refine (play_take p h0 h1 hk (fun A k c E w' => A = none ∧ k = 0 ∧ c = 0 ∧ E = 1 ∧ Below w.heap.size w w') (fun W hb => (take_none p N W (key W hb)).mono fun e w' ⟨he, hb'⟩ => ⟨none, 0, 0, 1, he, rfl, rfl, rfl, rfl, hb.trans (hb'.mono hb.size)⟩)).mono ?_
    rintro e w' ⟨A, k, c, E, rfl, rfl, rfl, rfl, rfl, hb⟩
    exact ⟨1, rfl, .inr rfl, hb⟩
  · refine (play_skip p h0 h1 hk (fun E w' => E = 1 ∧ Below w.heap.size w w') (fun W hb => (skip_of p N W (fun e w' => e = .returned (.int .i64 1) ∧ Below w.heap.size w w') ((take_none p N W (key W hb)).mono fun e w' ⟨he, hb'⟩ => ⟨none, 0, 0, 1, he, rfl, hb.trans (hb'.mono hb.size)⟩)).mono fun e w' ⟨he, hb'⟩ => ⟨1, he, rfl, hb'⟩)).mono ?_
    rintro e w' ⟨E, rfl, rfl, hb⟩
    exact ⟨1, rfl, .inr rfl, hb⟩
  · refine (play_until p h0 h1 hk (fun A k c E w' => A = none ∧ k = 0 ∧ c = 0 ∧ E = 1 ∧ Below w.heap.size w w') (fun W hb => (until_none p _ N W (key W hb)).mono fun e w' ⟨he, hb'⟩ => ⟨none, 0, 0, 1, he, rfl, rfl, rfl, rfl, hb.trans (hb'.mono hb.size)⟩)).mono ?_
    rintro e w' ⟨A, k, c, E, rfl, rfl, rfl, rfl, rfl, hb⟩
    exact ⟨1, rfl, .inr rfl, hb⟩
  · refine (play_alone p h0 h1 hk).mono ?_
    rintro e w' ⟨rfl, hb⟩
    exact ⟨0, rfl, .inl hk, hb⟩
  · refine (play_close p h0 h1 hk (fun E w' => E = 1 ∧ Below w.heap.size w w') (fun W hb => (close_none p W (key W hb)).mono fun e w' ⟨he, hb'⟩ => ⟨1, he, rfl, hb.trans (hb'.mono hb.size)⟩)).mono ?_
    rintro e w' ⟨E, rfl, rfl, hb⟩
    exact ⟨1, rfl, .inr rfl, hb⟩

set_option maxRecDepth 100000 in
set_option maxHeartbeats 4000000 in
theorem none_any (X : ActV) (w : World) (hX : ActG w X) :
    Calls Try.prog 7 #[.agg #[.int .u8 X.k, .slice X.A X.m X.c, .int .i64 X.n, .int .u8 (X.x.toNat : Int)]] w fun e w' => e = .returned (.bool true) ∧ Below w.heap.size w w' := by
  have k0 := hX.k0
  have k1 := hX.k1
  clear hX
  refine (callsIn_wide (n := 100)).1 ?_
  refine callsIn_of_wp_marks Try.func7 rfl trivial ?_ rfl
  refine wpIn_wide.2 ?_
  simp only [Try.ntmps7, List.size_toArray, List.length_cons, List.length_nil, Nat.reduceAdd, Nat.reduceSub, Array.replicate_succ, Array.replicate_zero, List.push_toArray, List.append_toArray, List.nil_append, List.cons_append]
  have hba : Below w.heap.size w ((w.alloc (.cells #[.int .u8 X.k, .slice X.A X.m X.c, .int .i64 X.n, .int .u8 (X.x.toNat : Int)] 53)).alloc (.cells #[.bool false] 4)) := ((Below.refl _ w).alloc (Nat.le_refl _) _).alloc (by simp) _
  have kA : Blk ((w.alloc (.cells #[.int .u8 X.k, .slice X.A X.m X.c, .int .i64 X.n, .int .u8 (X.x.toNat : Int)] 53)).alloc (.cells #[.bool false] 4)) w.heap.size 53 #[.int .u8 X.k, .slice X.A X.m X.c, .int .i64 X.n, .int .u8 (X.x.toNat : Int)] := (Blk.new w 53 _).alloc _
  have kB : Blk ((w.alloc (.cells #[.int .u8 X.k, .slice X.A X.m X.c, .int .i64 X.n, .int .u8 (X.x.toNat : Int)] 53)).alloc (.cells #[.bool false] 4)) (w.heap.size + 1) 4 #[.bool false] := by have := Blk.new (w.alloc (.cells #[.int .u8 X.k, .slice X.A X.m X.c, .int .i64 X.n, .int .u8 (X.x.toNat : Int)] 53)) 4 #[.bool false]; rw [World.size_alloc] at this; exact this
  have HBA := Lib.hid hba
  have HKA := Lib.hid kA
  have HKB := Lib.hid kB
  have ending : ∀ (nn : Nat) (tm : Array Value) (W : World) (Ds : List Nat), tm.getD 2 undef = .pointer (some ⟨w.heap.size + 1, 0, none⟩) → Marks (w.heap.size + 2) Ds W → Below w.heap.size w W → Blk W (w.heap.size + 1) 4 #[.bool true] → LeavesInM Fence.wide nn Try.prog Try.f7 tm (fun e w' => e = .returned (.bool true) ∧ Below w.heap.size w w') (Ds.map mark) .returning W := by
    intro nn tm W Ds ht hM hb hk
    refine leaves_marks2 (v := .bool true) Ds W hM fun w' hs => ⟨?_, rfl, hb.trans (hs.to_below.mono (by omega))⟩
    have hk' := (hk.below hs.to_below (by omega)).cell 0
    simp at hk'
    have ht' : tm[2]?.getD undef = .pointer (some ⟨w.heap.size + 1, 0, none⟩) := by simpa using ht
    simp [results, Try.results7, go_sem, ht', hk']
  have HEND := Lib.hid ending
  have hnf : ∀ (a b : Nat) (W : World), (binOp .eql 47 (.func (.func 40) #[] #[.pointer (some ⟨a, 0, none⟩), .pointer (some ⟨b, 0, none⟩)]) .nilFunc).run Try.prog W = .ok (.bool false) W := fun a b W => by kernel_rfl
  clear hba kA kB ending
  go_wp2_with fail
  obtain ⟨W3, hW3⟩ : ∃ W3, (((w.alloc (.cells #[.int .u8 X.k, .slice X.A X.m X.c, .int .i64 X.n, .int .u8 (X.x.toNat : Int)] 53)).alloc (.cells #[.bool false] 4)).alloc (.cells #[.pointer none] 56)).alloc (.cells #[.pointer none, .pointer (some ⟨w.heap.size + 1 + 1, 0, none⟩)] 24) = W3 := ⟨_, rfl⟩
  have hB3 : Below (w.heap.size + 2) ((w.alloc (.cells #[.int .u8 X.k, .slice X.A X.m X.c, .int .i64 X.n, .int .u8 (X.x.toNat : Int)] 53)).alloc (.cells #[.bool false] 4)) W3 := by
    rw [← hW3]; exact ((Below.refl _ _).alloc (by simp) _).alloc (by simp) _
  have KA3 := Lib.hid (HKA.out.below hB3 (by omega))
  have KB3 := Lib.hid (HKB.out.below hB3 (by omega))
  have B3 := Lib.hid (HBA.out.trans (hB3.mono (by omega)))
  have K66 : Blk W3 (w.heap.size + 1 + 1) 56 #[.pointer none] := by
    rw [← hW3]
    have := Blk.new ((w.alloc (.cells #[.int .u8 X.k, .slice X.A X.m X.c, .int .i64 X.n, .int .u8 (X.x.toNat : Int)] 53)).alloc (.cells #[.bool false] 4)) 56 #[.pointer none]
    rw [World.size_alloc, World.size_alloc] at this
    exact this.alloc _
  have K30 : Blk W3 (w.heap.size + 1 + 1 + 1) 24 #[.pointer none, .pointer (some ⟨w.heap.size + 1 + 1, 0, none⟩)] := by
    rw [← hW3]
    have := Blk.new (((w.alloc (.cells #[.int .u8 X.k, .slice X.A X.m X.c, .int .i64 X.n, .int .u8 (X.x.toNat : Int)] 53)).alloc (.cells #[.bool false] 4)).alloc (.cells #[.pointer none] 56)) 24 #[.pointer none, .pointer (some ⟨w.heap.size + 1 + 1, 0, none⟩)]
    rw [World.size_alloc, World.size_alloc, World.size_alloc] at this
    exact this
  rw [hW3]
  have HS3 := Lib.hid (show w.heap.size + 4 ≤ W3.heap.size from K30.lt)
  have K66 := Lib.hid K66
  have K30 := Lib.hid K30
  clear hW3 hB3
  obtain ⟨G1, hG1⟩ : ∃ G, w.heap.size + 1 + 1 = G := ⟨_, rfl⟩
  obtain ⟨G2, hG2⟩ : ∃ G, w.heap.size + 1 + 1 + 1 = G := ⟨_, rfl⟩
  rw [hG2] at K30 ⊢
  rw [hG1] at K30 K66
  clear hG2 hG1
  refine (wpIn_wide (n := 99)).1 ?_
  refine wpIn_loop (fun a W => ∃ (i : Nat) (Ds : List Nat), a.tmps.size = 70 ∧ a.tmps.getD 1 undef = .pointer (some ⟨w.heap.size, 0, none⟩) ∧ a.tmps.getD 2 undef = .pointer (some ⟨w.heap.size + 1, 0, none⟩) ∧ a.tmps.getD 12 undef = .slice (some ⟨G2, 0, none⟩) 2 2 ∧ a.tmps.getD 13 undef = .int .i64 2 ∧ a.tmps.getD 14 undef = .int .i64 (i : Int) ∧ a.defers = Ds.map mark ∧ i ≤ 2 ∧ Below W3.heap.size W3 W ∧ Marks W3.heap.size Ds W)
    (fun a _ => 2 - (intOf (a.tmps.getD 14 undef)).toNat) ⟨0, [], rfl, rfl, rfl, rfl, rfl, rfl, rfl, Nat.zero_le _, Below.refl _ _, List.nodup_nil, fun D hD => by cases hD⟩ ?_
  rintro ⟨tm, df⟩ W ⟨i, Ds, hsz, h1, h2, h51, h52, h53, hdf, hi, hb, hM⟩
  dsimp only at hsz h1 h2 h51 h52 h53 hdf ⊢
  obtain ⟨x, hx⟩ : ∃ x : Nat → Value, (fun k => tm.getD k undef) = x := ⟨_, rfl⟩
  have e : tm = #[x 0, x 1, x 2, x 3, x 4, x 5, x 6, x 7, x 8, x 9, x 10, x 11, x 12, x 13, x 14, x 15, x 16, x 17, x 18, x 19, x 20, x 21, x 22, x 23, x 24, x 25, x 26, x 27, x 28, x 29, x 30, x 31, x 32, x 33, x 34, x 35, x 36, x 37, x 38, x 39, x 40, x 41, x 42, x 43, x 44, x 45, x 46, x 47, x 48, x 49, x 50, x 51, x 52, x 53, x 54, x 55, x 56, x 57, x 58, x 59, x 60, x 61, x 62, x 63, x 64, x 65, x 66, x 67, x 68, x 69] := (arr_lit tm 70 hsz).trans (by rw [hx]; rfl)
  have y1 := (congrFun hx 1).symm.trans h1
  have y2 := (congrFun hx 2).symm.trans h2
  have y51 := (congrFun hx 12).symm.trans h51
  have y52 := (congrFun hx 13).symm.trans h52
  have y53 := (congrFun hx 14).symm.trans h53
  rw [y1, y2, y51, y52, y53] at e
  clear y1 y2 y51 y52 y53 h1 h2 h51 h52 h53 hsz hx
  subst e hdf
  have hi0 : (0 : Int) ≤ i := by omega
  have HM := Lib.hid hM
  have HBb := Lib.hid hb
  clear hM hb
  refine wpIn_wide.2 ?_
  by_cases hlt : (i : Int) < 2
  · obtain ⟨p, hp, hc⟩ : ∃ p : Option Addr, NoSrc p W ∧ W.cell? ⟨G2, i, none⟩ = some (.pointer p) := by
      have kk := K30.out.below HBb.out K30.out.lt
      rcases (show i = 0 ∨ i = 1 by omega) with rfl | rfl
      · exact ⟨none, NoSrc.nil W, by rw [kk.cell]; rfl⟩
      · exact ⟨_, NoSrc.zero (K66.out.below HBb.out K66.out.lt), by rw [kk.cell]; rfl⟩
    have ka := KA3.out.below HBb.out KA3.out.lt
    have c0 := ka.cell 0
    have c1 := ka.cell 1
    have c2 := ka.cell 2
    have c3 := ka.cell 3
    simp only [List.getElem?_toArray, List.getElem?_cons_zero, List.getElem?_cons_succ] at c0 c1 c2 c3
    have KAW := Lib.hid ka
    have HP := Lib.hid hp
    have C23 := Lib.hid (play_no X W k0 k1 p hp)
    clear ka hp
    go_wp2_with (go_at_call 23; (with_reducible refine C23.out.mono ?_); rintro e w3 ⟨E, rfl, hE, b3⟩; refine Hid.out ?_)
    refine Lib.hid ?_
    have HB3 := Lib.hid b3
    have HP3 := Lib.hid (HP.out.below b3)
    have KA4 := Lib.hid (KAW.out.below b3 KAW.out.lt)
    have C24 := Lib.hid (kind_any (X := X.A) (mx := X.m) (cx := X.c) (N := X.n) (y := (X.x.toNat : Int)) X.k k0 k1 (X.k % 7) rfl w3)
    obtain ⟨K, hK⟩ : ∃ K, X.k % 7 = K := ⟨_, rfl⟩
    rw [hK] at C24 hE
    have HE := Lib.hid hE
    obtain ⟨c0, c1, c2, c3⟩ := foura _ _ _ _ _ _ _ KA4.out
    clear b3 hE hK C23
    have HBw := Lib.hid HB3.out
    have key : (∃ z : Bool, (K != 5) = z ∧ (z = true → E = 1)) := ⟨_, rfl, fun h => by
      rcases HE.out with h1 | h1
      · rw [h1] at h; cases h
      · exact h1⟩
    obtain ⟨z, hz, hzE⟩ := key
    have HN := Lib.hid (show ∀ W', Below w3.heap.size w3 W' → NoSrc p W' from fun W' hb => HP3.out.below hb)
    clear HE
    cases z
    · clear hzE
      go_wp2_with (first
        | (go_at_call 24; (with_reducible refine C24.out.mono ?_); rintro e w4 ⟨rfl, hb⟩; have B4 := Lib.hid hb; clear hb)
        | (go_at_call 14; (with_reducible refine (left_none (HN.out _ B4.out)).mono ?_); rintro e w5 ⟨rfl, hb⟩; have B5 := Lib.hid (B4.out.trans (hb.mono B4.out.size)); clear hb)
        | (go_at_call 25; (with_reducible refine (room_none (HN.out _ B5.out)).mono ?_); rintro e w6 ⟨rfl, hb⟩; have B6 := Lib.hid (B5.out.trans (hb.mono B5.out.size)); clear hb)
        | (go_at_call 13; (with_reducible refine (off_none (HN.out _ B6.out)).mono ?_); rintro e w7 ⟨rfl, hb⟩; have B7 := Lib.hid (B6.out.trans (hb.mono B6.out.size)); clear hb)
        | (go_at_call 26; (with_reducible refine (ended_none (HN.out _ B7.out)).mono ?_); rintro e w8 ⟨rfl, hb⟩; have B8 := Lib.hid (B7.out.trans (hb.mono B7.out.size)); clear hb)
        | (go_at_call 18; (with_reducible refine (copy_none _ _ (HN.out _ B8.out)).mono ?_); rintro e w9 ⟨rfl, hb⟩; have B9 := Lib.hid (B8.out.trans (hb.mono B8.out.size)); clear hb; refine Hid.out ?_))
      refine Lib.hid ?_
      have KA9 := Lib.hid (KA4.out.below B9.out KA4.out.lt)
      clear c0 c1 c2 c3
      obtain ⟨c0, c1, c2, c3⟩ := foura _ _ _ _ _ _ _ KA9.out
      go_wp2_with (go_at_call 20; (with_reducible refine (chunks_none _ _ _ (HN.out _ B9.out)).mono ?_); rintro e w10 ⟨qa, qb, rfl, hq⟩; have HQ := Lib.hid hq; clear hq; unfold fn40; refine Hid.out ?_)
      refine Lib.hid ?_
      go_wp2_with fail
      have BW := Lib.hid (show Below W.heap.size W w10 from HBw.out.trans ((B9.out.trans (HQ.out.below.mono B9.out.size)).mono HBw.out.size))
      have HB10 := Lib.hid (HBb.out.trans (BW.out.mono HBb.out.size))
      have hM3 : Marks W3.heap.size Ds w10 := ⟨HM.out.nodup, fun D hD => ⟨(HM.out.there D hD).1, (BW.out.block D (HM.out.lt D hD)).trans (HM.out.there D hD).2⟩⟩
      have hDlt := hM3.lt
      refine (wpIn_wide (n := 99)).1 ?_
      refine wpIn_iter (N := 0) (At := fun _ vs _ => vs = #[.bool false]) (Kp := fun _ _ _ => True) (Step := fun X Y => X = Y) rfl (by omega) (gf := 40) (lb := #[.pointer (some ⟨qa, 0, none⟩), .pointer (some ⟨qb, 0, none⟩)]) rfl trivial (enters_of Try.func40 (by kernel_rfl) rfl)
        (fun W1 hb1 hz1 => chunks_iter_no 98 W1 qa qb (HQ.out.ka.below hb1 HQ.out.ka.lt) _ _ _) (fun X Y h k _ _ => by rw [h]) (fun vs X k o o' hk hZ ho h h2 => trivial)
        (fun j vs X h => by rw [h]; rfl)
        (fun j X => Below W3.heap.size W3 X ∧ Marks W3.heap.size Ds X ∧ w10.heap.size ≤ X.heap.size) (fun cd j X => False)
        ?hI (fun cd j X k o o' hk hX ho h => h) (fun j X Z h hs => hs ▸ h) ?h0
        (fun j vs X a' Wx => True) (fun j vs X0 a' X k o o' hk hX ho h => trivial) (fun l j vs X K hl hj => absurd hj (Nat.not_lt_zero j)) (fun l j vs X a' Wx hl hj => absurd hj (Nat.not_lt_zero j)) ?done (fun D cd j X hD hj => absurd hj (Nat.not_lt_zero j))
      case hI => exact fun j X k o o' hk hX ho ⟨h1, h2, h3⟩ => ⟨below_calm h1 (by have := HB10.out.size; omega) hX, h2.put (fun hD => by have := hDlt k hD; omega) _, by rw [size_putObj]; exact h3⟩
      case h0 => exact fun W1 hb1 hz1 => ⟨HB10.out.trans (hb1.mono HB10.out.size), ⟨hM3.nodup, fun D hD => ⟨(hM3.there D hD).1, (hb1.block D (hDlt D hD)).trans (hM3.there D hD).2⟩⟩, hb1.size⟩
      case done =>
        rintro D X' hD ⟨h1, h2, h3⟩ hK
        simp only [Exit.inBlock, Exit.then]
        go_at_K
        have H1 := Lib.hid h1
        have H2 := Lib.hid h2
        have HK := Lib.hid hK
        have hDs : D ∉ Ds := fun hD2 => by have := hDlt D hD2; omega
        clear h1 h2 hK
        go_wp2_with fail
        exact ⟨⟨i + 1, D :: Ds, rfl, rfl, rfl, rfl, rfl, by simp, rfl, by omega, H1.out, ⟨List.nodup_cons.2 ⟨hDs, H2.out.nodup⟩, fun E hE => by
          rcases List.mem_cons.1 hE with rfl | hE
          · exact ⟨by have := HB10.out.size; omega, HK.out⟩
          · exact H2.out.there E hE⟩⟩, by simp [intOf]; omega⟩
    · obtain rfl := hzE rfl
      go_wp2_with (first
        | (go_at_call 24; (with_reducible refine C24.out.mono ?_); rintro e w4 ⟨rfl, hb⟩; have B4 := Lib.hid hb; clear hb)
        | (go_at_call 14; (with_reducible refine (left_none (HN.out _ B4.out)).mono ?_); rintro e w5 ⟨rfl, hb⟩; have B5 := Lib.hid (B4.out.trans (hb.mono B4.out.size)); clear hb)
        | (go_at_call 25; (with_reducible refine (room_none (HN.out _ B5.out)).mono ?_); rintro e w6 ⟨rfl, hb⟩; have B6 := Lib.hid (B5.out.trans (hb.mono B5.out.size)); clear hb)
        | (go_at_call 13; (with_reducible refine (off_none (HN.out _ B6.out)).mono ?_); rintro e w7 ⟨rfl, hb⟩; have B7 := Lib.hid (B6.out.trans (hb.mono B6.out.size)); clear hb)
        | (go_at_call 26; (with_reducible refine (ended_none (HN.out _ B7.out)).mono ?_); rintro e w8 ⟨rfl, hb⟩; have B8 := Lib.hid (B7.out.trans (hb.mono B7.out.size)); clear hb)
        | (go_at_call 18; (with_reducible refine (copy_none _ _ (HN.out _ B8.out)).mono ?_); rintro e w9 ⟨rfl, hb⟩; have B9 := Lib.hid (B8.out.trans (hb.mono B8.out.size)); clear hb; refine Hid.out ?_))
      refine Lib.hid ?_
      have KA9 := Lib.hid (KA4.out.below B9.out KA4.out.lt)
      clear c0 c1 c2 c3
      obtain ⟨c0, c1, c2, c3⟩ := foura _ _ _ _ _ _ _ KA9.out
      go_wp2_with (go_at_call 20; (with_reducible refine (chunks_none _ _ _ (HN.out _ B9.out)).mono ?_); rintro e w10 ⟨qa, qb, rfl, hq⟩; have HQ := Lib.hid hq; clear hq; unfold fn40; refine Hid.out ?_)
      refine Lib.hid ?_
      go_wp2_with fail
      have BW := Lib.hid (show Below W.heap.size W w10 from HBw.out.trans ((B9.out.trans (HQ.out.below.mono B9.out.size)).mono HBw.out.size))
      have HB10 := Lib.hid (HBb.out.trans (BW.out.mono HBb.out.size))
      have hM3 : Marks W3.heap.size Ds w10 := ⟨HM.out.nodup, fun D hD => ⟨(HM.out.there D hD).1, (BW.out.block D (HM.out.lt D hD)).trans (HM.out.there D hD).2⟩⟩
      have hDlt := hM3.lt
      refine (wpIn_wide (n := 99)).1 ?_
      refine wpIn_iter (N := 0) (At := fun _ vs _ => vs = #[.bool false]) (Kp := fun _ _ _ => True) (Step := fun X Y => X = Y) rfl (by omega) (gf := 40) (lb := #[.pointer (some ⟨qa, 0, none⟩), .pointer (some ⟨qb, 0, none⟩)]) rfl trivial (enters_of Try.func40 (by kernel_rfl) rfl)
        (fun W1 hb1 hz1 => chunks_iter_no 98 W1 qa qb (HQ.out.ka.below hb1 HQ.out.ka.lt) _ _ _) (fun X Y h k _ _ => by rw [h]) (fun vs X k o o' hk hZ ho h h2 => trivial)
        (fun j vs X h => by rw [h]; rfl)
        (fun j X => Below W3.heap.size W3 X ∧ Marks W3.heap.size Ds X ∧ w10.heap.size ≤ X.heap.size) (fun cd j X => False)
        ?hI (fun cd j X k o o' hk hX ho h => h) (fun j X Z h hs => hs ▸ h) ?h0
        (fun j vs X a' Wx => True) (fun j vs X0 a' X k o o' hk hX ho h => trivial) (fun l j vs X K hl hj => absurd hj (Nat.not_lt_zero j)) (fun l j vs X a' Wx hl hj => absurd hj (Nat.not_lt_zero j)) ?done (fun D cd j X hD hj => absurd hj (Nat.not_lt_zero j))
      case hI => exact fun j X k o o' hk hX ho ⟨h1, h2, h3⟩ => ⟨below_calm h1 (by have := HB10.out.size; omega) hX, h2.put (fun hD => by have := hDlt k hD; omega) _, by rw [size_putObj]; exact h3⟩
      case h0 => exact fun W1 hb1 hz1 => ⟨HB10.out.trans (hb1.mono HB10.out.size), ⟨hM3.nodup, fun D hD => ⟨(hM3.there D hD).1, (hb1.block D (hDlt D hD)).trans (hM3.there D hD).2⟩⟩, hb1.size⟩
      case done =>
        rintro D X' hD ⟨h1, h2, h3⟩ hK
        simp only [Exit.inBlock, Exit.then]
        go_at_K
        have H1 := Lib.hid h1
        have H2 := Lib.hid h2
        have HK := Lib.hid hK
        have hDs : D ∉ Ds := fun hD2 => by have := hDlt D hD2; omega
        clear h1 h2 hK
        go_wp2_with fail
        exact ⟨⟨i + 1, D :: Ds, rfl, rfl, rfl, rfl, rfl, by simp, rfl, by omega, H1.out, ⟨List.nodup_cons.2 ⟨hDs, H2.out.nodup⟩, fun E hE => by
          rcases List.mem_cons.1 hE with rfl | hE
          · exact ⟨by have := HB10.out.size; omega, HK.out⟩
          · exact H2.out.there E hE⟩⟩, by simp [intOf]; omega⟩
  · have C9 := Lib.hid (known_any W)
    have kb := KB3.out.below HBb.out KB3.out.lt
    have f1 := kb.frozen 0
    have KB4 := Lib.hid kb
    clear kb hi hi0
    go_wp2_with (go_at_call 8; (with_reducible refine C9.out.mono ?_); rintro e w9 ⟨rfl, b9⟩; have k9 := KB4.out.below b9 KB4.out.lt; have e9 := k9.cell 0; have f9 := k9.frozen 0; simp at e9; have K9 := Lib.hid k9; have B9 := Lib.hid b9; clear b9 k9)
    refine HEND.out _ _ _ Ds ?_ ⟨HM.out.nodup, fun D hD => ?_⟩ ?_ ?_
    · rfl
    · have := HM.out.there D hD
      have hlt := HM.out.lt D hD
      refine ⟨by have := HS3.out; omega, ?_⟩
      rw [Below.heap_setCell _ _ _ _ (by simp; have := HS3.out; omega)]
      exact (B9.out.block D hlt).trans this.2
    · exact Below.setCell (B3.out.trans ((HBb.out.trans (B9.out.mono HBb.out.size)).mono B3.out.size)) (by simp) _
    · have := K9.out.set_ 0 (.bool true)
      simpa using this
end Go.Proofs.Ythkpmbgclllnjaa
