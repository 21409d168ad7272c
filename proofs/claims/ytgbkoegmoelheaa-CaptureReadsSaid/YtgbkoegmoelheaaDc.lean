/- The law's blocks: its contract. -/
import Derived.Test.YtgbkoegmoelheaaDa
import Derived.Test.YtgbkoegmoelheaaCs
import Derived.Test.YtgbkoegmoelheaaCz
namespace Go.Proofs.Ytgbkoegmoelheaa
open Go.RowKit
attribute [local go_sem] wide_fn wide_depth wide_fn_in wide_depth_in Oper.semAt_some
set_option linter.unusedVariables false
set_option linter.unusedSimpArgs false

theorem bkp_calm (B a n : Nat) (A : Option Addr) (ha : a < B) (hA : ∀ ad, A = some ad → 0 < n → ad.block < B) (vs : Array Value) (X : World) : Calm B (BKp (B + 2) a A n vs X) := fun Y k o o' hk hY ho h =>
  ⟨by rw [size_putObj]; exact h.1, fun j hj hc => (World.putObj_heap_other (by
    rcases hc with h1 | rfl | ⟨ad, hA2, h0, rfl⟩
    · omega
    · omega
    · have := hA ad hA2 h0; omega)).trans (h.2 j hj hc)⟩
theorem ag_get (xs : List Fd) (i : Nat) (x : Fd) (h : xs[i]? = some x) : (xs.flatMap acells)[i * 2]? = some (.int .i64 (x.at_ : Int)) ∧ (xs.flatMap acells)[i * 2 + 1]? = some (.int .i64 (x.l.length : Int)) := by
  have e : xs.flatMap acells = (xs.map (fun x => (x.at_, x.l.length))).flatMap gcells := by
    rw [List.flatMap_map]
    rfl
  obtain ⟨hi, hx⟩ := List.getElem?_eq_some_iff.1 h
  have := gp_get (xs.map (fun x => (x.at_, x.l.length))) i (by simpa using hi)
  rw [e]
  simpa [hx] using this
/-- The list of the places and numbers. -/
theorem ag_at {W : World} {A : Option Addr} {xs : List Fd} (h : HoldsS W 2 A xs.length (xs.flatMap acells)) {i : Nat} {x : Fd} (hx : xs[i]? = some x) : ∃ b o, A = some ⟨b, o, none⟩ ∧ W.cell? ⟨b, o + i * 2, none⟩ = some (.int .i64 (x.at_ : Int)) ∧ W.cell? ⟨b, o + i * 2 + 1, none⟩ = some (.int .i64 (x.l.length : Int)) := by
  have hi := (List.getElem?_eq_some_iff.1 hx).1
  have h0 : A ≠ none := fun hA => by have := h.2.1 hA; omega
  obtain ⟨a, rfl⟩ := Option.ne_none_iff_exists'.1 h0
  obtain ⟨q1, q2⟩ := ag_get xs i x hx
  have k1 := h.2.2 _ rfl _ _ q1
  have k2 := h.2.2 _ rfl _ _ q2
  have hs : a.spot = none := by
    have hl : 0 < xs.length := by omega
    have k0 := h.2.2 _ rfl _ _ (ag_get xs 0 xs[0] (by rw [List.getElem?_eq_getElem hl])).1
    have := World.cell?_spot k0
    simpa [Addr.add] using this
  obtain ⟨b, o, sp⟩ := a
  simp at hs
  subst hs
  rw [Addr.add_lit] at k1 k2
  exact ⟨b, o, rfl, k1, by rw [Nat.add_assoc]; exact k2⟩
/-- The range's invariant, and how it is left. -/
structure BSI (W7 : World) (Bk Bt : Nat) (Ds : List Nat) (sz t j : Nat) (X : World) : Prop where
  k : Blk X Bk 3 #[.int .i64 j]
  bt : Blk X Bt 3 #[.int .i64 t]
  below : Below W7.heap.size W7 X
  marks : Marks W7.heap.size Ds X
  size : sz ≤ X.heap.size
structure BSX (W7 : World) (Bk Bt : Nat) (Ds : List Nat) (sz t : Nat) (cd : Code) (j : Nat) (X : World) : Prop where
  cd : cd = .exit 4
  t0 : t = 0
  k : Blk X Bk 3 #[.int .i64 j]
  bt : Blk X Bt 3 #[.int .i64 t]
  below : Below W7.heap.size W7 X
  marks : Marks W7.heap.size Ds X
  size : sz ≤ X.heap.size
/-- The loop's invariant. -/
def BLoop (n0 a : Nat) (W7 : World) (ac : Act) (W : World) : Prop := ∃ (t Bt : Nat) (Ds : List Nat), ac.tmps.size = 76 ∧ ac.tmps.getD 4 undef = .pointer (some ⟨n0, 0, none⟩) ∧ ac.tmps.getD 5 undef = .pointer (some ⟨n0 + 1, 0, none⟩) ∧ ac.tmps.getD 6 undef = .pointer (some ⟨n0 + 1 + 1, 0, none⟩) ∧ ac.tmps.getD 8 undef = .func (.func 58) #[] #[.pointer (some ⟨a, 0, none⟩)] ∧ ac.tmps.getD 10 undef = .pointer (some ⟨Bt, 0, none⟩) ∧ ac.defers = Ds.map mark ∧ t ≤ 2 ∧ Blk W Bt 3 #[.int .i64 t] ∧ W7.heap.size ≤ Bt ∧ Below W7.heap.size W7 W ∧ Marks W7.heap.size Ds W

set_option maxRecDepth 100000 in
set_option maxHeartbeats 16000000 in
theorem lblocks_any (A : Option Addr) (n c : Nat) (L : List UInt8) (many : Int) (Aw : Option Addr) (cw : Nat) (xs : List Fd) (w : World) (h : RB w A n c L) (hn : n ≤ 9000) (hm1 : -9223372036854775808 ≤ many) (hm2 : many < 9223372036854775808) (hxs : xs = blks L 0) (hw : HoldsS w 2 Aw xs.length (xs.flatMap acells)) :
    Calls Try.prog 29 #[.slice A n c, .int .i64 many, .slice Aw xs.length cw] w fun e w' => e = .returned (.bool true) ∧ Below w.heap.size w w' := by
  have HR := Lib.hid h
  have HN := Lib.hid hn
  have HW := Lib.hid hw
  have HXL := Lib.hid hxs
  have HNX := Lib.hid (show xs.length ≤ 9000 by have h1 := (blks_spec L).1; rw [← hxs] at h1; have := h.len; omega)
  have HMANY := Lib.hid (And.intro hm1 hm2)
  have hn0 : (n : Int) ≤ 9000 := by omega
  refine (callsIn_wide (n := 101)).1 ?_
  refine callsIn_of_wp_marks Try.func29 rfl trivial ?_ rfl
  refine wpIn_wide.2 ?_
  simp only [Try.ntmps29, List.size_toArray, List.length_cons, List.length_nil, Nat.reduceAdd, Nat.reduceSub, Array.replicate_succ, Array.replicate_zero, List.push_toArray, List.append_toArray, List.nil_append, List.cons_append]
  obtain ⟨W0, hW0⟩ : ∃ W0, (((w.alloc (.cells #[.int .i64 many] 3)).alloc (.cells #[.slice Aw xs.length cw] 69)).alloc (.cells #[.bool false] 4)) = W0 := ⟨_, rfl⟩
  have hba : Below w.heap.size w W0 := hW0 ▸ (((Below.refl _ w).alloc (Nat.le_refl _) _).alloc (by simp) _).alloc (by simp; omega) _
  have kM : Blk W0 w.heap.size 3 #[.int .i64 many] := hW0 ▸ ((Blk.new w 3 _).alloc _).alloc _
  have kW : Blk W0 (w.heap.size + 1) 69 #[.slice Aw xs.length cw] := by have := (Blk.new (w.alloc (.cells #[.int .i64 many] 3)) 69 #[.slice Aw xs.length cw]).alloc (.cells #[.bool false] 4); rw [World.size_alloc, hW0] at this; exact this
  have kR : Blk W0 (w.heap.size + 1 + 1) 4 #[.bool false] := by have := Blk.new ((w.alloc (.cells #[.int .i64 many] 3)).alloc (.cells #[.slice Aw xs.length cw] 69)) 4 #[.bool false]; rw [World.size_alloc, World.size_alloc, hW0] at this; exact this
  have HBA := Lib.hid hba
  have KM := Lib.hid kM
  have KW := Lib.hid kW
  have KR := Lib.hid kR
  have ending : ∀ (nn : Nat) (tm : Array Value) (W : World) (Ds : List Nat), tm.getD 6 undef = .pointer (some ⟨w.heap.size + 1 + 1, 0, none⟩) → Marks (w.heap.size + 3) Ds W → Below w.heap.size w W → Blk W (w.heap.size + 1 + 1) 4 #[.bool true] → LeavesInM Fence.wide nn Try.prog Try.f29 tm (fun e w' => e = .returned (.bool true) ∧ Below w.heap.size w w') (Ds.map mark) .returning W := by
    intro nn tm W Ds ht hM hb hk
    refine leaves_marks2 (v := .bool true) Ds W hM fun w' hs => ⟨?_, rfl, hb.trans (hs.to_below.mono (by omega))⟩
    have hk' := (hk.below hs.to_below (by omega)).cell 0
    simp at hk'
    have ht' : tm[6]?.getD undef = .pointer (some ⟨w.heap.size + 1 + 1, 0, none⟩) := by simpa using ht
    simp [results, Try.results29, go_sem, ht', hk']
  have HEND := Lib.hid ending
  have HW0 := Lib.hid hW0
  have HZ0 := Lib.hid (show W0.heap.size = w.heap.size + 3 by rw [← hW0]; simp)
  have hnf : ∀ (a : Nat) (W : World), (binOp .eql 98 (.func (.func 58) #[] #[.pointer (some ⟨a, 0, none⟩)]) .nilFunc).run Try.prog W = .ok (.bool false) W := fun a W => by kernel_rfl
  clear hba kM kW kR ending hW0 h hn hw hxs hm1 hm2
  go_upto_region 1 with fail
  try rw [HW0.out]
  clear HW0
  have HLN := Lib.hid HR.out.len
  go_upto_region 2 with (at_builtin; go_must (refine wpList_app_own (base := W0.heap.size) (n := 0) (m := n) (xs := []) (news := L.map Go.Proofs.Ytgbkoegmoelheaa.u8) rfl (.const (.slice none 0 0)) (.tmp 14) 23 rfl el22 rfl (World.ownsRow_nil _ _ 5 1) rfl (HR.out.below HBA.out).h (u8_one _) (by have := HN.out; unfold maxLen; omega) (by have := HN.out; omega) (Nat.le_refl _) ?_; intro v3 w1 hown hg hat; rw [Nat.zero_add, List.nil_append] at hown; have HOW := Lib.hid hown; have HGR := Lib.hid (below_own (Below.refl _ _) (Nat.le_refl _) (World.ownsRow_nil _ _ 5 1) hg); clear hown hg hat))
  obtain ⟨A3, c3, e3, -⟩ := own_form HOW.out
  subst e3
  have HB1 := Lib.hid (HBA.out.trans (HGR.out.mono HBA.out.size))
  have C52 := Lib.hid (blocks52_any A3 n c3 L w1 (own_RB3 HOW.out) (by have := HN.out; omega))
  go_upto_region 5 with (go_at_call 52; (with_reducible refine C52.out.mono ?_); rintro e w2 ⟨a, A2, c2, rfl, hka, ho, hsa, hb⟩; unfold fn58; have KA := Lib.hid hka; have HO := Lib.hid ho; have HSA := Lib.hid hsa; have B12 := Lib.hid hb; clear hka ho hsa hb)
  clear C52 hnf
  have HB2 := Lib.hid (HB1.out.trans (B12.out.mono HB1.out.size))
  have HBR := Lib.hid (ByteRow.of (own_keeps HOW.out fun k hk => B12.out.block k (own_lt HOW.out k hk)))
  have HOB := Lib.hid (show ∀ j, (Value.slice A3 n c3).ownBlock = some j → W0.heap.size ≤ j ∧ j < w1.heap.size from fun j hj => ⟨(HOW.out.lt j hj).1, own_lt HOW.out j hj⟩)
  go_wp2_with fail
  go_loopw [9] (fun x wr => ∃ i : Nat, (i : Int) ≤ n ∧ x = .int .i64 (i : Int) ∧ Hid (ByteRow wr W0.heap.size (.slice A3 n c3) n) ∧ Hid (Only (fun k => W0.heap.size ≤ k ∧ k < w1.heap.size) w2 wr)) (fun x _ => n - (intOf x).toNat)
  case atStart => exact ⟨0, by omega, rfl, HBR, Lib.hid (Only.refl _ _)⟩
  case round =>
  clear HBR
  obtain ⟨i, hi, rfl, HBR, HON⟩ := hrel
  have hi0 : (0 : Int) ≤ i := by omega
  by_cases hlt : (i : Int) < n
  case pos =>
    obtain ⟨g, cap, z, e1, hcz, hz0, hz1, hfz⟩ := HBR.out.cell (k := i) (by omega)
    injection e1 with e3 e4 e5
    subst e3 e5
    have HBR2 := Lib.hid (HBR.out.store (k := i) (z := 0) (by omega) (by omega))
    have HON2 := Lib.hid (HON.out.set (g := g) (fun _ => HOB.out g rfl) i (.int .u8 0))
    go_wp2_with fail
    go_roundw
    case rel => exact ⟨i + 1, by omega, by go_num, HBR2, HON2⟩
    case measure => simp [intOf]; omega
  case neg =>
  obtain ⟨W7, rfl⟩ : ∃ W7 : World, W7 = wr := ⟨_, rfl⟩
  have HGS := Lib.hid HGR.out.size
  have B02 := Lib.hid (HGR.out.trans (B12.out.mono HGR.out.size))
  have B07 := Lib.hid (B02.out.trans (HON.out.to_below B02.out.size fun b hb e => by omega))
  have HB7 := Lib.hid (HBA.out.trans (B07.out.mono HBA.out.size))
  have K7M := Lib.hid (KM.out.below B07.out KM.out.lt)
  have K7W := Lib.hid (KW.out.below B07.out KW.out.lt)
  have K7R := Lib.hid (KR.out.below B07.out KR.out.lt)
  have K7A := Lib.hid (KA.out.only HON.out fun e => by have := HSA.out; omega)
  have HA7 := Lib.hid (own_RB3 (own_only HO.out HON.out fun k hk e => by have := (HO.out.lt k hk).1; omega))
  have HS7 := Lib.hid (show w.heap.size + 3 ≤ W7.heap.size by have := B07.out.size; have := HZ0.out; omega)
  clear HBR HON KA HO HSA B12 HB2 HOW HGR HOB HB1 B02 KM KW KR
  have HXI := Lib.hid (show (0 : Int) ≤ (xs.length : Int) ∧ (xs.length : Int) ≤ 9000 by have := HNX.out; omega)
  go_wp2_with fail
  have KT := Lib.hid (Blk.new W7 3 #[.int .i64 ((0 : Nat) : Int)])
  have BT := Lib.hid ((Below.refl W7.heap.size W7).alloc (Nat.le_refl _) (.cells #[.int .i64 0] 3))
  refine (wpIn_wide (n := 100)).1 ?_
  refine wpIn_loop (BLoop w.heap.size a W7)
    (fun a W => 2 - turnOf (a.tmps.getD 10 undef) W) ⟨0, W7.heap.size, [], rfl, rfl, rfl, rfl, rfl, rfl, rfl, by omega, KT.out, Nat.le_refl _, BT.out, List.nodup_nil, fun D hD => by cases hD⟩ ?_
  rintro ⟨tm, df⟩ W ⟨t, Bt, Ds, hsz, h4, h5, h6, h8, h10, hdf, ht, hkt, hbt, hb, hM⟩
  dsimp only at hsz h4 h5 h6 h8 h10 hdf ⊢
  obtain ⟨x, hx⟩ : ∃ x : Nat → Value, (fun k => tm.getD k undef) = x := ⟨_, rfl⟩
  have e : tm = #[x 0, x 1, x 2, x 3, x 4, x 5, x 6, x 7, x 8, x 9, x 10, x 11, x 12, x 13, x 14, x 15, x 16, x 17, x 18, x 19, x 20, x 21, x 22, x 23, x 24, x 25, x 26, x 27, x 28, x 29, x 30, x 31, x 32, x 33, x 34, x 35, x 36, x 37, x 38, x 39, x 40, x 41, x 42, x 43, x 44, x 45, x 46, x 47, x 48, x 49, x 50, x 51, x 52, x 53, x 54, x 55, x 56, x 57, x 58, x 59, x 60, x 61, x 62, x 63, x 64, x 65, x 66, x 67, x 68, x 69, x 70, x 71, x 72, x 73, x 74, x 75] := (arr_lit tm 76 hsz).trans (by rw [hx]; rfl)
  have y4 := (congrFun hx 4).symm.trans h4
  have y5 := (congrFun hx 5).symm.trans h5
  have y6 := (congrFun hx 6).symm.trans h6
  have y8 := (congrFun hx 8).symm.trans h8
  have y10 := (congrFun hx 10).symm.trans h10
  rw [y4, y5, y6, y8, y10] at e
  clear y4 y5 y6 y8 y10 h4 h5 h6 h8 h10 hsz hx
  subst e hdf
  have HT := Lib.hid hkt
  have HBb := Lib.hid hb
  have HMk := Lib.hid hM
  have ct := hkt.cell 0
  simp at ct
  clear hkt hb hM
  refine wpIn_wide.2 ?_
  by_cases hlt : (t : Int) < 2
  · have ht2 : t < 2 := by omega
    go_wp2_with fail
    obtain ⟨Wk, hWk⟩ : ∃ Wk, W.alloc (.cells #[.int .i64 0] 3) = Wk := ⟨_, rfl⟩
    have hbk : Below W.heap.size W Wk := hWk ▸ (Below.refl _ _).alloc (Nat.le_refl _) _
    have hzk : Wk.heap.size = W.heap.size + 1 := by rw [← hWk]; simp
    have kk : Blk Wk W.heap.size 3 #[.int .i64 ((0 : Nat) : Int)] := hWk ▸ Blk.new W 3 _
    have hb7k := HBb.out.trans (hbk.mono HBb.out.size)
    have htk := HT.out.below hbk HT.out.lt
    have hMk : Marks W7.heap.size Ds Wk := ⟨HMk.out.nodup, fun D hD => ⟨(HMk.out.there D hD).1, (hbk.block D (HMk.out.lt D hD)).trans (HMk.out.there D hD).2⟩⟩
    have hDlt := HMk.out.lt
    have hBt := HT.out.lt
    rw [hWk]
    obtain ⟨Bk, hBk⟩ : ∃ b, W.heap.size = b := ⟨_, rfl⟩
    have h7k : W7.heap.size ≤ Bk := hBk ▸ HBb.out.size
    rw [hBk] at hzk kk hDlt hBt ⊢
    have hlA := K7A.out.lt
    have hlM := K7M.out.lt
    have hlW := K7W.out.lt
    have hAD : ∀ ad, A2 = some ad → 0 < n → ad.block < W7.heap.size := fun ad hA h0 => HA7.out.lt h0 hA
    clear hWk hbk hBk ct
    refine (wpIn_wide (n := 100)).1 ?_
    refine wpIn_iter (N := xs.length) (At := BAt xs) (Kp := BKp (Wk.heap.size + 2) a A2 n) (Step := Still (Wk.heap.size + 2)) rfl (by omega) (gf := 58) (lb := #[.pointer (some ⟨a, 0, none⟩)]) rfl trivial (enters_of Try.func58 (by kernel_rfl) rfl)
      (fun W1 hb1 hz1 => by
        have := bl_iter W1 L a n A2 c2 (K7A.out.below (hb7k.trans (hb1.mono hb7k.size)) hlA) (HA7.out.below (hb7k.trans (hb1.mono hb7k.size))) (by have := HN.out; omega)
        rw [← HXL.out, hz1] at this
        exact this)
      (fun X Y hXY k hk hkX => hXY.low k (by omega))
      (fun vs X => bkp_calm Wk.heap.size a n A2 (by omega) (fun ad hA h0 => by have := hAD ad hA h0; omega) vs X)
      (fun i vs X ⟨x, _, h⟩ => by rw [h]; rfl)
      (fun j X => BSI W7 Bk Bt Ds Wk.heap.size t j X)
      (fun cd j X => BSX W7 Bk Bt Ds Wk.heap.size t cd j X)
      ?hI ?hIx ?hIS ?hIxS ?h0
      (fun j vs X a' Wx => (a'.tmps.size = 76 ∧ a'.tmps.getD 4 undef = .pointer (some ⟨w.heap.size, 0, none⟩) ∧ a'.tmps.getD 5 undef = .pointer (some ⟨w.heap.size + 1, 0, none⟩) ∧ a'.tmps.getD 6 undef = .pointer (some ⟨w.heap.size + 1 + 1, 0, none⟩) ∧ a'.tmps.getD 10 undef = .pointer (some ⟨Bt, 0, none⟩) ∧ a'.tmps.getD 11 undef = .pointer (some ⟨Bk, 0, none⟩) ∧ a'.defers = []) ∧ BKp (Wk.heap.size + 2) a A2 n vs X Wx ∧ BSI W7 Bk Bt Ds Wk.heap.size t j Wx ∧ ∃ x, xs[j]? = some x ∧ a'.tmps.getD 12 undef = .int .i64 (x.at_ : Int) ∧ a'.tmps.getD 13 undef = .int .i64 (x.l.length : Int))
      ?hAx ?assign ?body ?done ?stop
    case hI => exact fun j X k o o' hk hX ho ⟨h1, h2, h3, h4, h5⟩ => ⟨h1.calm hX ho, h2.calm hX ho, below_calm h3 (by omega) hX, h4.put (fun hD => by have := hDlt k hD; omega) _, by rw [size_putObj]; exact h5⟩
    case hIx => exact fun cd j X k o o' hk hX ho ⟨h0, h9, h1, h2, h3, h4, h5⟩ => ⟨h0, h9, h1.calm hX ho, h2.calm hX ho, below_calm h3 (by omega) hX, h4.put (fun hD => by have := hDlt k hD; omega) _, by rw [size_putObj]; exact h5⟩
    case hIS => exact fun j X Y ⟨h1, h2, h3, h4, h5⟩ hs => ⟨hs.cells _ _ _ h1, hs.cells _ _ _ h2, h3.trans (hs.to_below.mono (by omega)), ⟨h4.nodup, fun D hD => ⟨(h4.there D hD).1, (hs.low D (by have := hDlt D hD; omega)).trans (h4.there D hD).2⟩⟩, Nat.le_trans h5 hs.size⟩
    case hIxS => exact fun cd j X Y ⟨h0, h9, h1, h2, h3, h4, h5⟩ hs => ⟨h0, h9, hs.cells _ _ _ h1, hs.cells _ _ _ h2, h3.trans (hs.to_below.mono (by omega)), ⟨h4.nodup, fun D hD => ⟨(h4.there D hD).1, (hs.low D (by have := hDlt D hD; omega)).trans (h4.there D hD).2⟩⟩, Nat.le_trans h5 hs.size⟩
    case h0 => exact fun W1 hb1 hz1 => ⟨kk.below hb1 kk.lt, htk.below hb1 htk.lt, hb7k.trans (hb1.mono hb7k.size), ⟨hMk.nodup, fun D hD => ⟨(hMk.there D hD).1, (hb1.block D (hMk.lt D hD)).trans (hMk.there D hD).2⟩⟩, hb1.size⟩
    case hAx => exact fun j vs X0 a' X k o o' hk hX ho ⟨ha, hf, ⟨h1, h2, h3, h4, h5⟩, hv⟩ => ⟨ha, bkp_calm Wk.heap.size a n A2 (by omega) (fun ad hA h0 => by have := hAD ad hA h0; omega) vs X0 X k o o' hk hX ho hf, ⟨h1.calm hX ho, h2.calm hX ho, below_calm h3 (by omega) hX, h4.put (fun hD => by have := hDlt k hD; omega) _, by rw [size_putObj]; exact h5⟩, hv⟩
    case assign =>
      rintro l' j vs X K hl hj hI ⟨x, hx, rfl⟩ hlt2 hK
      gi_wp2
      exact hK _ _ (KeepsFrom.refl _ _) ⟨⟨rfl, rfl, rfl, rfl, rfl, rfl, rfl⟩, ⟨Nat.le_refl _, fun _ _ _ => rfl⟩, hI, x, hx, by first | rfl | simp, by first | rfl | simp⟩
    case body =>
      rintro l' j vs X ⟨tm, df⟩ Wx hl hj hr ⟨⟨hsz, h4, h5, h6, h10, h11, hdf⟩, hf, ⟨i1, i2, i3, i4, i5⟩, xx, hxx, h12, h13⟩
      have HZK := Lib.hid hzk
      clear hzk
      dsimp only at hsz h4 h5 h6 h10 h11 h12 h13 hdf ⊢
      obtain ⟨z, hz⟩ : ∃ z : Nat → Value, (fun k => tm.getD k undef) = z := ⟨_, rfl⟩
      have e : tm = #[z 0, z 1, z 2, z 3, z 4, z 5, z 6, z 7, z 8, z 9, z 10, z 11, z 12, z 13, z 14, z 15, z 16, z 17, z 18, z 19, z 20, z 21, z 22, z 23, z 24, z 25, z 26, z 27, z 28, z 29, z 30, z 31, z 32, z 33, z 34, z 35, z 36, z 37, z 38, z 39, z 40, z 41, z 42, z 43, z 44, z 45, z 46, z 47, z 48, z 49, z 50, z 51, z 52, z 53, z 54, z 55, z 56, z 57, z 58, z 59, z 60, z 61, z 62, z 63, z 64, z 65, z 66, z 67, z 68, z 69, z 70, z 71, z 72, z 73, z 74, z 75] := (arr_lit tm 76 hsz).trans (by rw [hz]; rfl)
      have y4 := (congrFun hz 4).symm.trans h4
      have y5 := (congrFun hz 5).symm.trans h5
      have y6 := (congrFun hz 6).symm.trans h6
      have y10 := (congrFun hz 10).symm.trans h10
      have y11 := (congrFun hz 11).symm.trans h11
      have y12 := (congrFun hz 12).symm.trans h12
      have y13 := (congrFun hz 13).symm.trans h13
      rw [y4, y5, y6, y10, y11, y12, y13] at e
      clear y4 y5 y6 y10 y11 y12 y13 h4 h5 h6 h10 h11 h12 h13 hsz hz
      subst e hdf
      obtain ⟨bw, ow, eA, c0, c1⟩ := ag_at (HW.out.keep (HB7.out.trans (i3.mono HB7.out.size))) hxx
      subst eA
      have ek := i1.cell 0
      have fk := i1.frozen 0
      have et := i2.cell 0
      have ew := (K7W.out.below i3 hlW).cell 0
      have em := (K7M.out.below i3 hlM).cell 0
      simp only [List.getElem?_toArray, List.getElem?_cons_zero] at ek et ew em
      have q1 : decide (xs.length ≤ j) = false := by simp; omega
      have hj0 : (0 : Int) ≤ j := by omega
      have hj1 : (j : Int) ≤ 9000 := by have := HNX.out; omega
      have hjI : (j : Int) < xs.length := by omega
      generalize xx.at_ = px at *
      generalize xx.l.length = qx at *
      have qp : ((px : Int) != (px : Int)) = false := by simp
      have qq : ((qx : Int) != (qx : Int)) = false := by simp
      have H1 := Lib.hid i1
      have HF := Lib.hid hf
      have HI := Lib.hid (show BSI W7 Bk Bt Ds Wk.heap.size t (j + 1) (Wx.setCell ⟨Bk, 0, none⟩ (.int .i64 ((j : Int) + 1))) from
        ⟨by have := i1.set_ 0 (.int .i64 ((j : Int) + 1)); simpa using this, i2.far (by simp; omega) _, Below.setCell i3 (by simp; omega) _, ⟨i4.nodup, fun D hD => ⟨(i4.there D hD).1, (Below.heap_setCell _ _ _ _ (by have := hDlt D hD; simp; omega)).trans (i4.there D hD).2⟩⟩, by rw [World.size_setCell]; exact i5⟩)
      have HF2 := Lib.hid (show BKp (Wk.heap.size + 2) a A2 n vs X (Wx.setCell ⟨Bk, 0, none⟩ (.int .i64 ((j : Int) + 1))) from ⟨by rw [World.size_setCell]; exact hf.1, fun k hk hc => (Below.heap_setCell _ _ _ _ (by
        have := HZK.out
        rcases hc with h1 | rfl | ⟨ad, hA, h0, rfl⟩
        · simp; omega
        · simp; omega
        · have := hAD ad hA h0; simp; omega)).trans (hf.2 k hk hc)⟩)
      clear i1 i2 i3 i4 i5 hf hxx
      by_cases h0 : t = 0
      · have q2 : ((t : Int) == 0) = true := by simp; omega
        have H0 := Lib.hid h0
        clear h0
        by_cases hmn : many ≤ (j : Int) + 1
        · have q3 : decide (many ≤ (j : Int) + 1) = true := by simpa using hmn
          gi_wp2_with fail
          exact ⟨(KeepsOthers.setCell _ _ _).from _, rfl, H0.out, HI.out.k, HI.out.bt, HI.out.below, HI.out.marks, HI.out.size⟩
        · have q3 : decide (many ≤ (j : Int) + 1) = false := by simpa using hmn
          gi_wp2_with fail
          exact ⟨(KeepsOthers.setCell _ _ _).from _, HF2.out, HI.out⟩
      · have q2 : ((t : Int) == 0) = false := by simp; omega
        gi_wp2_with fail
        exact ⟨(KeepsOthers.setCell _ _ _).from _, HF2.out, HI.out⟩
    case done =>
      rintro D X hD h hK
      simp only [Exit.inBlock, Exit.then]
      go_at_K
      have hDs : D ∉ Ds := fun hD2 => by have := hDlt D hD2; omega
      have ek := h.k.cell 0
      have et := h.bt.cell 0
      have ew := (K7W.out.below h.below hlW).cell 0
      simp only [List.getElem?_toArray, List.getElem?_cons_zero] at ek et ew
      have HH := Lib.hid h
      have HK := Lib.hid hK
      have HD := Lib.hid hD
      have HZK := Lib.hid hzk
      clear h hK hzk hD
      by_cases h0 : t = 0
      · have q1 : ((t : Int) == 1) = false := by simp; omega
        have H0 := Lib.hid h0
        clear h0
        go_wp2_with fail
        have kn : Blk (X.alloc (.cells #[.int .i64 ((t : Int) + 1)] 3)) X.heap.size 3 #[.int .i64 ((t + 1 : Nat) : Int)] := by have := Blk.new X 3 #[.int .i64 ((t : Int) + 1)]; simpa using this
        exact ⟨⟨t + 1, X.heap.size, D :: Ds, rfl, rfl, rfl, rfl, rfl, rfl, rfl, by omega, kn, HH.out.below.size, HH.out.below.alloc HH.out.below.size _, List.nodup_cons.2 ⟨hDs, HH.out.marks.nodup⟩, fun E hE => by
          rcases List.mem_cons.1 hE with rfl | hE
          · exact ⟨by have := HZK.out; have := HD.out; omega, (Below.heap_alloc _ _ _ (Array.getElem?_eq_some_iff.1 HK.out).1).trans HK.out⟩
          · exact ⟨(HH.out.marks.there E hE).1, (Below.heap_alloc _ _ _ (HH.out.marks.lt E hE)).trans (HH.out.marks.there E hE).2⟩⟩, by
          show 2 - turnOf (.pointer (some ⟨X.heap.size, 0, none⟩)) _ < 2 - turnOf (.pointer (some ⟨Bt, 0, none⟩)) W
          rw [turnOf_blk kn, turnOf_blk HT.out]
          omega⟩
      · have q1 : ((t : Int) == 1) = true := by simp; omega
        have qn : ((xs.length : Int) != (xs.length : Int)) = false := by simp
        go_wp2_with fail
        have kn : Blk (X.alloc (.cells #[.int .i64 ((t : Int) + 1)] 3)) X.heap.size 3 #[.int .i64 ((t + 1 : Nat) : Int)] := by have := Blk.new X 3 #[.int .i64 ((t : Int) + 1)]; simpa using this
        exact ⟨⟨t + 1, X.heap.size, D :: Ds, rfl, rfl, rfl, rfl, rfl, rfl, rfl, by omega, kn, HH.out.below.size, HH.out.below.alloc HH.out.below.size _, List.nodup_cons.2 ⟨hDs, HH.out.marks.nodup⟩, fun E hE => by
          rcases List.mem_cons.1 hE with rfl | hE
          · exact ⟨by have := HZK.out; have := HD.out; omega, (Below.heap_alloc _ _ _ (Array.getElem?_eq_some_iff.1 HK.out).1).trans HK.out⟩
          · exact ⟨(HH.out.marks.there E hE).1, (Below.heap_alloc _ _ _ (HH.out.marks.lt E hE)).trans (HH.out.marks.there E hE).2⟩⟩, by
          show 2 - turnOf (.pointer (some ⟨X.heap.size, 0, none⟩)) _ < 2 - turnOf (.pointer (some ⟨Bt, 0, none⟩)) W
          rw [turnOf_blk kn, turnOf_blk HT.out]
          omega⟩
    case stop =>
      rintro D cd j X hD hj ⟨rfl, h0, h1, h2, h3, h4, h5'⟩ hK
      have hDs : D ∉ Ds := fun hD2 => by have := hDlt D hD2; omega
      have ek := h1.cell 0
      have et := h2.cell 0
      have ew := (K7W.out.below h3 hlW).cell 0
      simp only [List.getElem?_toArray, List.getElem?_cons_zero] at ek et ew
      have HH := Lib.hid (show BSI W7 Bk Bt Ds Wk.heap.size t (j + 1) X from ⟨h1, h2, h3, h4, h5'⟩)
      have HK := Lib.hid hK
      have HD := Lib.hid hD
      have HZK := Lib.hid hzk
      have q1 : ((t : Int) == 1) = false := by simp; omega
      clear h1 h2 h3 h4 h5' hK hD hzk h0
      refine wpIn_wide.2 ?_
      go_wp2_with fail
      have kn : Blk (X.alloc (.cells #[.int .i64 ((t : Int) + 1)] 3)) X.heap.size 3 #[.int .i64 ((t + 1 : Nat) : Int)] := by have := Blk.new X 3 #[.int .i64 ((t : Int) + 1)]; simpa using this
      exact ⟨⟨t + 1, X.heap.size, D :: Ds, rfl, rfl, rfl, rfl, rfl, rfl, rfl, by omega, kn, HH.out.below.size, HH.out.below.alloc HH.out.below.size _, List.nodup_cons.2 ⟨hDs, HH.out.marks.nodup⟩, fun E hE => by
        rcases List.mem_cons.1 hE with rfl | hE
        · exact ⟨by have := HZK.out; have := HD.out; omega, (Below.heap_alloc _ _ _ (Array.getElem?_eq_some_iff.1 HK.out).1).trans HK.out⟩
        · exact ⟨(HH.out.marks.there E hE).1, (Below.heap_alloc _ _ _ (HH.out.marks.lt E hE)).trans (HH.out.marks.there E hE).2⟩⟩, by
        show 2 - turnOf (.pointer (some ⟨X.heap.size, 0, none⟩)) _ < 2 - turnOf (.pointer (some ⟨Bt, 0, none⟩)) W
        rw [turnOf_blk kn, turnOf_blk HT.out]
        omega⟩
  · have kb := K7R.out.below HBb.out K7R.out.lt
    have f1 := kb.frozen 0
    have e1 := kb.cell 0
    simp at e1
    have KB4 := Lib.hid kb
    have q1 : decide (t < 2) = false := by simp; omega
    clear kb
    go_wp2_with fail
    refine HEND.out _ _ _ Ds ?_ ⟨HMk.out.nodup, fun D hD => ?_⟩ ?_ ?_
    · rfl
    · have := HMk.out.there D hD
      have hlt := HMk.out.lt D hD
      refine ⟨by have := HS7.out; omega, ?_⟩
      rw [Below.heap_setCell _ _ _ _ (by simp; have := HS7.out; omega)]
      exact this.2
    · exact Below.setCell (HB7.out.trans (HBb.out.mono HB7.out.size)) (by simp; omega) _
    · have := KB4.out.set_ 0 (.bool true)
      simpa using this
end Go.Proofs.Ytgbkoegmoelheaa
