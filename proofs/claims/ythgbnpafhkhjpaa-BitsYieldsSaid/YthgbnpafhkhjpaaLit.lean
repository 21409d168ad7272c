/- The iterator of a little number's bits: one iterator within another. -/
import Derived.Test.YthgbnpafhkhjpaaAl2
import Derived.Scope
namespace Go.Proofs.Ythgbnpafhkhjpaa
open Go.RowKit
attribute [local go_sem] wide_fn wide_depth wide_fn_in wide_depth_in Oper.semAt_some
set_option linter.unusedVariables false
set_option linter.unusedSimpArgs false

theorem round_wide {m m' l : Nat} {P : Program} {l' : Nat} {f : FuncId} {tmps : Array Value} {assign body : Code} {w : World} {R : Ending → World → Prop}
    (h : RoundIn Fence.wide m P l f tmps assign body w R) : RoundIn (Fence.wide.inRound l') m' P l f tmps assign body w R := ⟨trivial, fun c cs _ => h.2 c cs (room_wide _)⟩

/-- Marks of loops that are behind. -/
def mark (D : Nat) : Deferred := { target := .collected D, args := #[] }
structure Marks (b : Nat) (Ds : List Nat) (w : World) : Prop where
  nodup : Ds.Nodup
  there : ∀ D ∈ Ds, b ≤ D ∧ w.heap[D]? = some (.deferred (some []))
theorem Marks.lt {b : Nat} {Ds : List Nat} {w : World} (h : Marks b Ds w) : ∀ D ∈ Ds, D < w.heap.size := fun D hD => (Array.getElem?_eq_some_iff.1 (h.there D hD).2).1
theorem Marks.keeps {b : Nat} {Ds : List Nat} {w w' : World} (h : Marks b Ds w) (hk : KeepsFrom b w w') : Marks b Ds w' := ⟨h.nodup, fun D hD => ⟨(h.there D hD).1, hk.same D _ (h.there D hD).1 (h.there D hD).2 rfl⟩⟩
theorem Marks.put {b k : Nat} {Ds : List Nat} {w : World} (h : Marks b Ds w) (hk : k ∉ Ds) (o : Obj) : Marks b Ds (w.putObj k o) := ⟨h.nodup, fun D hD => ⟨(h.there D hD).1, (World.putObj_heap_other (by rintro rfl; exact hk hD)).trans (h.there D hD).2⟩⟩
theorem leaves_marks {F : Fence} {n b : Nat} {P : Program} {fn : Func} {tmps : Array Value} {R : Ending → World → Prop} {v : Value} (hres : ∀ w, (results fn tmps).run P w = .ok v w) :
    ∀ (Ds : List Nat) (w : World), Marks b Ds w → (∀ w', Still b w w' → R (.returned v) w') → LeavesInM F n P fn tmps R (Ds.map mark) .returning w
  | [], w, _, hR => by
    refine ⟨v, hres w, hR w (Still.refl _ _)⟩
  | D :: Ds, w, h, hR => by
    have hD := h.there D (by simp)
    refine ⟨by simp, .inl ⟨D, _, rfl, run_takeDeferred hD.2, ?_⟩⟩
    have hnd := List.nodup_cons.1 h.nodup
    exact leaves_marks hres Ds _ (Marks.put ⟨hnd.2, fun E hE => h.there E (by simp [hE])⟩ hnd.1 _) fun w' hs => hR w' ((Still.put hD.2 rfl hD.1).trans hs)

/-- Bit i of a little number. -/
def lbit (v i : Nat) : Bool := nbit (v / 2 ^ (8 * (i / 8))) 8 (i % 8)
/-- What a little number's iterator wants of a round. -/
structure LKp (b : Nat) (X Y : World) : Prop where
  keeps : KeepsFrom b X Y
  kept : ∀ k t cs, Blk X k t cs → t = 3 ∨ t = 79 → Blk Y k t cs

set_option maxRecDepth 100000 in
set_option maxHeartbeats 2000000 in
theorem little_iter (W : World) (Bb Bv v bytes : Nat) (hv : v < 4294967296) (hb1 : 1 ≤ bytes) (hb4 : bytes ≤ 4) (hB : Blk W Bb 3 #[.int .i64 bytes]) (hV : Blk W Bv 3 #[.int .i64 v]) :
    Iter Fence.wide 99 Try.prog 41 #[.pointer (some ⟨Bb, 0, none⟩), .pointer (some ⟨Bv, 0, none⟩)] (fun i vs _ => vs = #[.bool (lbit v i)]) (fun _ X Y => LKp W.heap.size X Y) (Still W.heap.size) (8 * bytes) W := by
  intro l J Jx hJ hJx hY h0
  have HJ := Lib.hid hJ
  have HJx := Lib.hid hJx
  have HY := Lib.hid hY
  have HB := Lib.hid hB
  have HBV := Lib.hid hv
  have c1 := (hB.alloc (.cells #[.func (.yield l) #[] #[]] 79)).cell 0
  simp at c1
  have HS0 := Lib.hid (show J 0 (W.alloc (.cells #[.func (.yield l) #[] #[]] 79)) ∧ Blk (W.alloc (.cells #[.func (.yield l) #[] #[]] 79)) Bv 3 #[.int .i64 v] ∧ Blk (W.alloc (.cells #[.func (.yield l) #[] #[]] 79)) W.heap.size 79 #[.func (.yield l) #[] #[]] ∧ W.heap.size ≤ (W.alloc (.cells #[.func (.yield l) #[] #[]] 79)).heap.size from
    ⟨hJ 0 W _ h0 (Still.below ((Below.refl _ W).alloc (Nat.le_refl _) _) (Nat.le_refl _)), hV.alloc _, Blk.new W 79 _, by simp⟩)
  have hB4 : (bytes : Int) ≤ 4 := by omega
  have HVb := Lib.hid hV.lt
  clear hJ hJx hY h0 hB hV hv
  refine callsIn_of_wp_marks Try.func41 rfl trivial ?_ rfl
  simp only [Try.ntmps41, List.size_toArray, List.length_cons, List.length_nil, Nat.reduceAdd, Nat.reduceSub, Array.replicate_succ, Array.replicate_zero, List.push_toArray, List.append_toArray, List.nil_append, List.cons_append]
  gi_wp2_with fail
  refine wpIn_wide.2 (wp_scope_straight ((wpIn_wide (n := 99)).1 ?_))
  gi_wp2_with fail
  refine wpIn_label ?_
  simp only [Exit.then]
  go_at_K
  gi_wp2_with fail
  refine wpIn_loop (fun a wr => ∃ (i : Nat) (x4 x5 x8 x9 x10 x11 x12 x13 x14 x15 x16 x17 x18 x19 x20 : Value) (Ds : List Nat), a = { tmps := #[.func (.yield l) #[] #[], .pointer (some ⟨Bb, 0, none⟩), .pointer (some ⟨Bv, 0, none⟩), .pointer (some ⟨W.heap.size, 0, none⟩), x4, x5, .int .i64 bytes, .int .i64 i, x8, x9, x10, x11, x12, x13, x14, x15, x16, x17, x18, x19, x20], defers := Ds.map mark } ∧ i ≤ bytes ∧ (J (8 * i) wr ∧ Blk wr Bv 3 #[.int .i64 v] ∧ Blk wr W.heap.size 79 #[.func (.yield l) #[] #[]] ∧ W.heap.size ≤ wr.heap.size) ∧ Marks W.heap.size Ds wr)
    (fun a _ => bytes - (intOf (a.tmps.getD 7 undef)).toNat) ⟨0, _, _, _, _, _, _, _, _, _, _, _, _, _, _, _, [], rfl, Nat.zero_le _, HS0.out, ⟨List.nodup_nil, fun D hD => by cases hD⟩⟩ ?_
  rintro a wr ⟨i, x4, x5, x8, x9, x10, x11, x12, x13, x14, x15, x16, x17, x18, x19, x20, Ds, rfl, hi, ⟨hJi, hBv, hYb, hbs⟩, hM⟩
  have hi0 : (0 : Int) ≤ i := by omega
  by_cases hlt : (i : Int) < bytes
  · have hil : i < bytes := by omega
    obtain ⟨V, hV1⟩ : ∃ V : Nat, v / 2 ^ (8 * i) = V := ⟨_, rfl⟩
    have hVi : (v : Int) / 2 ^ (8 * i) = V := by rw [← hV1]; simp
    have hVlt : V < 4294967296 := by rw [← hV1]; exact Nat.lt_of_le_of_lt (Nat.div_le_self _ _) HBV.out
    have hbit : ∀ j, j < 8 → lbit v (8 * i + j) = nbit V 8 j := fun j hj => by
      unfold lbit
      rw [show (8 * i + j) / 8 = i by omega, show (8 * i + j) % 8 = j by omega, hV1]
    have c2 := hBv.cell 0
    simp at c2
    have HBIT := Lib.hid hbit
    have HHBv := Lib.hid hBv
    have HYb := Lib.hid hYb
    have HM := Lib.hid hM
    have HJi := Lib.hid hJi
    have htn : ((8 : Int) * i).toNat = 8 * i := by omega
    have hi8 : (8 : Int) * i < 64 := by omega
    clear hbit hBv hYb hM hJi hV1
    gi_wp2_with (gi_at_call 35; (with_reducible refine (callsIn_wide.2 (of_any _ _ _)).mono ?_); rintro e w1 ⟨rfl, rfl⟩)
    have hbel : Below wr.heap.size wr ((wr.alloc (.cells #[.int .i64 V] 3)).alloc (.cells #[.int .i64 8] 3)) := ((Below.refl _ wr).alloc (Nat.le_refl _) _).alloc (by simp) _
    have hsz : ((wr.alloc (.cells #[.int .i64 V] 3)).alloc (.cells #[.int .i64 8] 3)).heap.size = wr.heap.size + 2 := by simp
    have kV : Blk ((wr.alloc (.cells #[.int .i64 V] 3)).alloc (.cells #[.int .i64 8] 3)) wr.heap.size 3 #[.int .i64 V] := (Blk.new wr 3 #[.int .i64 V]).alloc _
    have k8 : Blk ((wr.alloc (.cells #[.int .i64 V] 3)).alloc (.cells #[.int .i64 8] 3)) (wr.heap.size + 1) 3 #[.int .i64 ((8 : Nat) : Int)] := by have := Blk.new (wr.alloc (.cells #[.int .i64 V] 3)) 3 #[.int .i64 8]; rw [World.size_alloc] at this; exact this
    generalize ((wr.alloc (.cells #[.int .i64 V] 3)).alloc (.cells #[.int .i64 8] 3)) = w2 at hbel hsz kV k8 ⊢
    have hMlt := HM.out.lt
    have hJ2 : J (8 * i) w2 := HJ.out _ _ _ HJi.out (Still.below hbel hbs)
    have hBv2 := HHBv.out.below hbel HHBv.out.lt
    have hYb2 := HYb.out.below hbel HYb.out.lt
    have hM2 : Marks W.heap.size Ds w2 := ⟨HM.out.nodup, fun D hD => ⟨(HM.out.there D hD).1, (hbel.block D (hMlt D hD)).trans (HM.out.there D hD).2⟩⟩
    clear c2
    refine wpIn_iter (N := 8) (At := fun j vs _ => vs = #[.bool (nbit V 8 j)]) (Kp := fun _ X Y => Y.heap[wr.heap.size]? = X.heap[wr.heap.size]?) (Step := fun X Y => X = Y) rfl (by omega) (gf := 64) (lb := #[.pointer (some ⟨wr.heap.size + 1, 0, none⟩), .pointer (some ⟨wr.heap.size, 0, none⟩)]) rfl trivial (enters_of Try.func64 (by kernel_rfl) rfl)
      (fun W1 hb1 hz1 => of_iter 98 W1 (wr.heap.size + 1) wr.heap.size V 8 hVlt (by omega) (k8.below hb1 k8.lt) (kV.below hb1 kV.lt))
      (fun X Y h k _ _ => by rw [h])
      (fun vs X Z k o o' hk hZ ho h => (World.putObj_heap_other (by omega)).trans h)
      (fun j vs X h => by rw [h]; rfl)
      (fun j X => J (8 * i + j) X ∧ Blk X Bv 3 #[.int .i64 v] ∧ Blk X W.heap.size 79 #[.func (.yield l) #[] #[]] ∧ Blk X wr.heap.size 3 #[.int .i64 V] ∧ Marks W.heap.size Ds X ∧ w2.heap.size ≤ X.heap.size)
      (fun c j X => c = .exit 0 ∧ (∃ q, q < 8 * bytes ∧ Jx (q + 1) X) ∧ Marks W.heap.size Ds X ∧ w2.heap.size ≤ X.heap.size)
      ?hI ?hIx (fun j X Z h hs => hs ▸ h) (fun c j X Z h hs => hs ▸ h) ?h0
      (fun j vs X a' Wx => (∃ y0 y1 y2 y4 y6 y7 y8 y9 y10 y11 y12 y13 y14 y15 y16 y17 y18 y19 y20 : Value, a' = { tmps := #[y0, y1, y2, .pointer (some ⟨W.heap.size, 0, none⟩), y4, .bool (nbit V 8 j), y6, y7, y8, y9, y10, y11, y12, y13, y14, y15, y16, y17, y18, y19, y20], defers := [] }) ∧ Blk X wr.heap.size 3 #[.int .i64 V] ∧ J (8 * i + j) Wx ∧ Blk Wx Bv 3 #[.int .i64 v] ∧ Blk Wx W.heap.size 79 #[.func (.yield l) #[] #[]] ∧ Blk Wx wr.heap.size 3 #[.int .i64 V] ∧ Marks W.heap.size Ds Wx ∧ w2.heap.size ≤ Wx.heap.size)
      ?hAx ?assign ?body ?done ?stop
    case hI => exact fun j X k o o' hk hX ho ⟨h1, h2, h3, h4, h5, h6⟩ => ⟨HJ.out _ _ _ h1 (Still.put hX ho (by omega)), h2.calm hX ho, h3.calm hX ho, h4.calm hX ho, h5.put (fun hD => by have := hMlt k hD; omega) _, by rw [size_putObj]; exact h6⟩
    case hIx => exact fun c j X k o o' hk hX ho ⟨h1, ⟨q, h2, h3⟩, h4, h5⟩ => ⟨h1, ⟨q, h2, HJx.out _ _ _ h3 (Still.put hX ho (by omega))⟩, h4.put (fun hD => by have := hMlt k hD; omega) _, by rw [size_putObj]; exact h5⟩
    case h0 => exact fun W1 hb1 hz1 => ⟨HJ.out _ _ _ hJ2 (Still.below hb1 (by omega)), hBv2.below hb1 hBv2.lt, hYb2.below hb1 hYb2.lt, kV.below hb1 kV.lt, ⟨hM2.nodup, fun D hD => ⟨(hM2.there D hD).1, (hb1.block D (hM2.lt D hD)).trans (hM2.there D hD).2⟩⟩, hb1.size⟩
    case hAx => exact fun j vs X0 a' X k o o' hk hX ho ⟨ha, h0, h1, h2, h3, h4, h5, h6⟩ => ⟨ha, h0, HJ.out _ _ _ h1 (Still.put hX ho (by omega)), h2.calm hX ho, h3.calm hX ho, h4.calm hX ho, h5.put (fun hD => by have := hMlt k hD; omega) _, by rw [size_putObj]; exact h6⟩
    case assign =>
      rintro l' j vs X K hl hj hI rfl hlt2 hK
      gi_wp2
      exact hK _ _ (KeepsFrom.refl _ _) ⟨⟨_, _, _, _, _, _, _, _, _, _, _, _, _, _, _, _, _, _, _, rfl⟩, hI.2.2.2.1, hI⟩
    case body =>
      rintro l' j vs X a' Wx hl hj hr ⟨⟨y0, y1, y2, y4, y6, y7, y8, y9, y10, y11, y12, y13, y14, y15, y16, y17, y18, y19, y20, rfl⟩, hX, h1, h2, h3, h4, h5, h6⟩
      have e3 := h3.cell 0
      simp at e3
      obtain ⟨fn, tm, asg, bod, hyr, hR⟩ := HY.out (8 * i + j) (by omega) #[.bool (nbit V 8 j)] Wx h1 (by rw [HBIT.out j hj])
      have HR := Lib.hid (fun m' => round_wide (m' := m') (l' := l') hR)
      have H2 := Lib.hid h2
      have H3 := Lib.hid h3
      have H4 := Lib.hid h4
      have H5 := Lib.hid h5
      clear hR h1 h2 h3 h4 h5
      gi_wp2_with fail
      refine (HR.out _).mono ?_
      clear hyr
      rintro e w3 ⟨hkf, (⟨rfl, hJ3, hK3⟩ | ⟨rfl, hJx3⟩)⟩
      · have hk2 : KeepsFrom w2.heap.size Wx w3 := ⟨hkf.size, fun k o hk hX hc => hkf.same k o (by omega) hX hc⟩
        have k4 := hK3.kept _ _ _ H4.out (.inl rfl)
        gi_wp2_with fail
        exact ⟨hk2, k4.trans hX.symm, hJ3, hK3.kept _ _ _ H2.out (.inl rfl), hK3.kept _ _ _ H3.out (.inr rfl), k4, H5.out.keeps hkf, Nat.le_trans h6 hkf.size⟩
      · have hk2 : KeepsFrom w2.heap.size Wx w3 := ⟨hkf.size, fun k o hk hX hc => hkf.same k o (by omega) hX hc⟩
        gi_wp2_with fail
        exact ⟨hk2, rfl, ⟨8 * i + j, by omega, hJx3⟩, H5.out.keeps hkf, Nat.le_trans h6 hkf.size⟩
    case done =>
      rintro D X hD ⟨h1, h2, h3, h4, h5, h6⟩ hK
      simp only [Exit.inBlock, Exit.then]
      go_at_K
      gi_wp2_with fail
      have hDs : D ∉ Ds := fun hD2 => by have := hMlt D hD2; omega
      exact ⟨⟨i + 1, _, _, _, _, _, _, _, _, _, _, _, _, _, _, _, D :: Ds, rfl, by omega, ⟨h1, h2, h3, by omega⟩, ⟨List.nodup_cons.2 ⟨hDs, h5.nodup⟩, fun E hE => by
        rcases List.mem_cons.1 hE with rfl | hE
        · exact ⟨by omega, hK⟩
        · exact h5.there E hE⟩⟩, by simp [intOf]; omega⟩
    case stop =>
      rintro D c j X hD hj ⟨rfl, ⟨q, hq, hJq⟩, h4, h5⟩ hK
      gi_wp2_with fail
      simp only [Exit.noGoto]
      gi_wp2_with fail
      have hDs : D ∉ Ds := fun hD2 => by have := hMlt D hD2; omega
      exact leaves_marks (v := .tuple #[]) (fun w => by simp [results, Try.results41]) (D :: Ds) X ⟨List.nodup_cons.2 ⟨hDs, h4.nodup⟩, fun E hE => by
        rcases List.mem_cons.1 hE with rfl | hE
        · exact ⟨by omega, hK⟩
        · exact h4.there E hE⟩ fun w' hs => ⟨⟨_, rfl⟩, .inr ⟨q, hq, HJx.out _ _ _ hJq hs⟩⟩
  · obtain rfl : i = bytes := by omega
    gi_wp2_with fail
    exact leaves_marks (v := .tuple #[]) (fun w => by simp [results, Try.results41]) Ds wr hM fun w' hs => ⟨⟨_, rfl⟩, .inl (HJ.out _ _ _ hJi hs)⟩
end Go.Proofs.Ythgbnpafhkhjpaa
