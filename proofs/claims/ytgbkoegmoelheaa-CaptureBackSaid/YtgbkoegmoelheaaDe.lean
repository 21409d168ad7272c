/- do: its contract. -/
import Derived.Test.YtgbkoegmoelheaaDa
import Derived.Test.YtgbkoegmoelheaaCy
import Derived.Test.YtgbkoegmoelheaaCp
import Derived.Deep.CutRange
namespace Go.Proofs.Ytgbkoegmoelheaa
open Go.RowKit
set_option linter.unusedVariables false
set_option linter.unusedSimpArgs false

theorem add_block (a : Addr) (j : Nat) : (a.add j).block = a.block := by by_cases h0 : j = 0 <;> simp [Addr.add, h0]
theorem PL.only {p : Nat → Prop} {W W' : World} {A : Option Addr} {n c : Nat} {ds : List Pd} (h : PL W A n c ds) (ho : Only p W W') (h1 : ∀ a, A = some a → 0 < n → ¬ p a.block) (h2 : ∀ q ∈ ds, ∀ a, q.A = some a → 0 < q.n → ¬ p a.block) : PL W' A n c ds :=
  ⟨h.len, ⟨h.h.1, h.h.2.1, fun b hb j u hu => cell_only (h.h.2.2 b hb j u hu) ho (by
    rw [add_block]
    have := (List.getElem?_eq_some_iff.1 hu).1
    have h3 := h.h.1
    exact h1 b hb (by omega))⟩, h.mc, h.cm, h.z, fun q hq => ⟨(h.r q hq).t1, (h.r q hq).t2, (h.r q hq).f1, (h.r q hq).f2, (h.r q hq).r.only ho (h2 q hq)⟩⟩
theorem PL.lt {W : World} {A : Option Addr} {n c : Nat} {ds : List Pd} (h : PL W A n c ds) (h0 : 0 < n) {a : Addr} (hA : A = some a) : a.block < W.heap.size := by
  have hl : 0 < ds.length := by rw [h.len]; exact h0
  have h1 := h.h.2.2 a hA 0 _ (pd_get ds 0 hl).1
  have := World.block_lt_of_cell? _ _ h1
  rwa [add_block] at this
theorem RS.only {p F : Nat → Prop} {W W' : World} {Ab : Option Addr} {nb cb : Nat} {Al : Option Addr} {nl cl : Nat} {ds : List Pd} {s : StP} (h : RS W Ab nb cb Al nl cl ds s) (hf : FP F Ab nb Al nl ds) (ho : Only p W W') (hp : ∀ k, p k → k < W.heap.size → F k) : RS W' Ab nb cb Al nl cl ds s :=
  ⟨h.b.only ho fun a hA h0 hk => hf.1 a hA h0 (hp _ hk (h.b.lt h0 hA)), h.l.only ho (fun a hA h0 hk => hf.2.1 a hA h0 (hp _ hk (h.l.lt h0 hA))) (fun q hq a hA h0 hk => hf.2.2 q hq a hA h0 (hp _ hk ((h.l.r q hq).r.lt h0 hA))), h.eq, h.ok⟩
theorem FP.imp {F F2 : Nat → Prop} {W : World} {Ab : Option Addr} {nb cb : Nat} {Al : Option Addr} {nl cl : Nat} {ds : List Pd} {s : StP} (hf : FP F Ab nb Al nl ds) (h : RS W Ab nb cb Al nl cl ds s) (hi : ∀ k, k < W.heap.size → F2 k → F k) : FP F2 Ab nb Al nl ds :=
  ⟨fun a hA h0 hk => hf.1 a hA h0 (hi _ (h.b.lt h0 hA) hk), fun a hA h0 hk => hf.2.1 a hA h0 (hi _ (h.l.lt h0 hA) hk), fun q hq a hA h0 hk => hf.2.2 q hq a hA h0 (hi _ ((h.l.r q hq).r.lt h0 hA) hk)⟩
/-- What the regions that compare read. -/
def DoS (k : Nat) (Ab : Option Addr) (nb cb : Nat) (Al : Option Addr) (nl cl : Nat) (last : Int) (St : ByteArray) (W : World) : Prop := W.cell? ⟨k, 0, none⟩ = some (.slice Ab nb cb) ∧ W.cell? ⟨k, 1, none⟩ = some (.slice Al nl cl) ∧ W.cell? ⟨k, 2, none⟩ = some (.int .i64 last) ∧ (convert 23 9 (.slice Ab nb cb)).run Try.prog W = .ok (.string St) W
theorem DoS.of {k : Nat} {Ab : Option Addr} {nb cb : Nat} {Al : Option Addr} {nl cl : Nat} {last : Int} {W : World} {l : List UInt8} (hk : Blk W k 48 #[.slice Ab nb cb, .slice Al nl cl, .int .i64 last]) (hr : RB W Ab nb cb l) : DoS k Ab nb cb Al nl cl last ⟨l.toArray⟩ W := by
  have k0 := hk.cell 0
  have k1 := hk.cell 1
  have k2 := hk.cell 2
  simp at k0 k1 k2
  exact ⟨k0, k1, k2, conv_RB hr⟩
def WG (g : Nat) (vb : Value) (G : Nat → Prop) (k : Nat) : Prop := WF g vb k ∨ G k
/-- What do leaves. -/
def DoR (w : World) (B g : Nat) (vb vl : Value) (ds : List Pd) (G : Nat → Prop) (s2 : StP) (e : Ending) (w' : World) : Prop := ∃ v vb2 vl2 ds2, e = .returned (.tuple #[v, .bool true]) ∧ WS w' B g vb2 vl2 ds2 s2 ∧ RefR (WG g vb2 G) w' v s2 ∧ Only (WF g vb) w w' ∧ Hat vb vb2 w ∧ ∀ k, k < w.heap.size → WK g vb2 vl2 ds2 k → WK g vb vl ds k

set_option maxRecDepth 100000 in
set_option maxHeartbeats 8000000 in
theorem do_close (w : World) (B g : Nat) (vb vl : Value) (dsw : List Pd) (s : StP) (G : Nat → Prop) (Ab : Option Addr) (nb cb : Nat) (Al : Option Addr) (nl cl : Nat) (ds : List Pd) (t f : Int) (A : Option Addr) (n c : Nat) (hs : WS w B g vb vl dsw s) (hr : RS w Ab nb cb Al nl cl ds s) (hf : FP (WG g vb G) Ab nb Al nl ds) (hG : ∀ k, G k → k < w.heap.size) (hl : s.b.length ≤ 1990000) :
    Calls Try.prog 20 #[.pointer (some ⟨g, 0, none⟩), .agg #[.slice Ab nb cb, .slice Al nl cl, .int .i64 s.last], .agg #[.bool true, .int .i64 t, .int .i64 f, .slice A n c]] w (DoR w B g vb vl dsw G (closeP s)) := by
  obtain ⟨W0, hW0⟩ : ∃ W0, (((w.alloc (.cells #[.slice Ab nb cb, .slice Al nl cl, .int .i64 s.last] 48)).alloc (.cells #[.bool true, .int .i64 t, .int .i64 f, .slice A n c] 53)).alloc (.cells #[.slice none 0 0, .slice none 0 0, .int .i64 0] 48)) = W0 := ⟨_, rfl⟩
  have hb0 : Below w.heap.size w W0 := hW0 ▸ (((Below.refl _ w).alloc (Nat.le_refl _) _).alloc (by simp) _).alloc (by simp; omega) _
  have hz0 : W0.heap.size = w.heap.size + 3 := by rw [← hW0]; simp
  have k4 : Blk W0 w.heap.size 48 #[.slice Ab nb cb, .slice Al nl cl, .int .i64 s.last] := hW0 ▸ ((Blk.new w 48 _).alloc _).alloc _
  have k6 : Blk W0 (w.heap.size + 1 + 1) 48 #[.slice none 0 0, .slice none 0 0, .int .i64 0] := by have := Blk.new ((w.alloc (.cells #[.slice Ab nb cb, .slice Al nl cl, .int .i64 s.last] 48)).alloc (.cells #[.bool true, .int .i64 t, .int .i64 f, .slice A n c] 53)) 48 #[.slice none 0 0, .slice none 0 0, .int .i64 0]; rw [World.size_alloc, World.size_alloc, hW0] at this; exact this
  have hwlt := hs.lt
  have HK4 := Lib.hid k4
  have HK6 := Lib.hid k6
  have HW0 := Lib.hid hW0
  have HB0 := Lib.hid hb0
  have HZ0 := Lib.hid hz0
  have HWS := Lib.hid hs
  have HGG := Lib.hid hG
  obtain ⟨F, hF⟩ : ∃ F : Nat → Prop, F = fun k => WG g vb G k ∨ k = w.heap.size ∨ k = w.heap.size + 1 + 1 := ⟨_, rfl⟩
  have HF := Lib.hid hF
  have hf0 : FP F Ab nb Al nl ds := hf.imp hr fun k hk h => by
    rw [hF] at h
    rcases h with h | rfl | rfl
    · exact h
    · omega
    · omega
  have hFlt : ∀ k, F k → k < W0.heap.size := fun k hk => by
    rw [hF] at hk
    rcases hk with (h | h) | rfl | rfl
    · have := hwlt k (.inl h); omega
    · have := hG k h; omega
    · omega
    · omega
  have hcl := closeP_len hs.ok
  have C46 := rclose_any F Ab nb cb Al nl cl ds s W0 (hr.below hb0) (by have := hr.b.len; omega) hFlt hf0
  unfold refV at C46
  obtain ⟨s2, hs2⟩ : ∃ s2, closeP s = s2 := ⟨_, rfl⟩
  have HS2 := Lib.hid hs2
  rw [hs2] at C46 hcl
  have HL2 := Lib.hid (show s2.b.length ≤ 2000000 by omega)
  have HL1 := Lib.hid (show s.b.length ≤ 3000000 by omega)
  obtain ⟨last2, hlast2⟩ : ∃ last2, s2.last = last2 := ⟨_, rfl⟩
  have HLA := Lib.hid hlast2
  have C46 := Lib.hid (C46.mono (R' := fun e w' => ∃ (Ab2 : Option Addr) (nb2 cb2 : Nat) (Al2 : Option Addr) (nl2 cl2 : Nat) (ds2 : List Pd), e = .returned (.agg #[.slice Ab2 nb2 cb2, .slice Al2 nl2 cl2, .int .i64 last2]) ∧ RS w' Ab2 nb2 cb2 Al2 nl2 cl2 ds2 s2 ∧ FP F Ab2 nb2 Al2 nl2 ds2 ∧ Below W0.heap.size W0 w') fun e w' h => by
    obtain ⟨v, h1, ⟨Ab2, nb2, cb2, Al2, nl2, cl2, ds2, h2, h3, h6⟩, h4⟩ := h
    exact ⟨Ab2, nb2, cb2, Al2, nl2, cl2, ds2, by rw [h1, h2, hlast2]; rfl, h3, h6, h4⟩)
  rw [HS2.out]
  clear hs hr hf hG hl hb0 hz0 k4 k6 hW0 hF hf0 hFlt hwlt hcl hs2 hlast2
  go_enter Try.func20, Try.ntmps20
  go_upto_region 2 with fail
  rw [HW0.out]
  have k0 := HK4.out.cell 0
  have k1 := HK4.out.cell 1
  have k2 := HK4.out.cell 2
  simp at k0 k1 k2
  go_upto_region 3 with (go_at_call 46; (with_reducible refine C46.out.mono ?_); rintro e w1 ⟨Ab2, nb2, cb2, Al2, nl2, cl2, ds2, rfl, hrs, hfp, b1⟩; have HRS := Lib.hid hrs; have HFc := Lib.hid hfp; have HB1 := Lib.hid b1; have HK1 := Lib.hid (HK4.out.below b1 HK4.out.lt); have HZ1 := Lib.hid (HK6.out.below b1 HK6.out.lt); clear hrs hfp b1 k0 k1 k2; have k0 := HK1.out.cell 0; have k1 := HK1.out.cell 1; have k2 := HK1.out.cell 2; simp at k0 k1 k2; have f0 := HK1.out.frozen 0; have f1 := HK1.out.frozen 1; have f2 := HK1.out.frozen 2)
  obtain ⟨hk2, ho2⟩ := st3 (x := .slice Ab2 nb2 cb2) (y := .slice Al2 nl2 cl2) (z := .int .i64 last2) HK1.out
  obtain ⟨W2, hW2⟩ : ∃ W2, ((w1.setCell ⟨w.heap.size, 0, none⟩ (.slice Ab2 nb2 cb2)).setCell ⟨w.heap.size, 1, none⟩ (.slice Al2 nl2 cl2)).setCell ⟨w.heap.size, 2, none⟩ (.int .i64 last2) = W2 := ⟨_, rfl⟩
  rw [hW2] at hk2 ho2 ⊢
  clear k0 k1 k2 f0 f1 f2 C46 hW2
  have hd2 : Below W2.heap.size W2 W2.drew := below_drew (Below.refl _ _)
  have HBw1 := Lib.hid (HB0.out.trans (HB1.out.mono HB0.out.size))
  have HKc := Lib.hid (hk2.below hd2 hk2.lt)
  have hz2 := HZ1.out.only ho2 (by omega)
  have HZc := Lib.hid (hz2.below hd2 hz2.lt)
  have HRc := Lib.hid ((HRS.out.only HFc.out ho2 fun k hk _ => by rw [HF.out]; exact .inr (.inl hk)).below hd2)
  have HOc := Lib.hid (show Only (WF g vb) w W2.drew from ((Only.of_below (p := WF g vb) HBw1.out).trans ho2 fun b hb e => by omega).below hd2)
  have HWc := Lib.hid (((HWS.out.below HBw1.out).only ho2 fun k hk e => by have := HWS.out.lt k hk; omega).below hd2)
  have HBz := Lib.hid (show W0.heap.size ≤ W2.drew.heap.size from Nat.le_trans HB1.out.size (Nat.le_trans ho2.size hd2.size))
  have HSZ3 := Lib.hid (show w.heap.size ≤ W2.drew.heap.size by have := HBz.out; have := HZ0.out; omega)
  have HN4 := Lib.hid (show ¬ WF g vb w.heap.size from fun h => by have := HWS.out.lt _ (.inl h); omega)
  have HN6 := Lib.hid (show ¬ WF g vb (w.heap.size + 1 + 1) from fun h => by have := HWS.out.lt _ (.inl h); omega)
  have HNL := Lib.hid (show (s2.l.length : Int) = (nl2 : Int) by rw [← HRS.out.l.len, ← HRS.out.eq]; simp [pks])
  have HNB := Lib.hid (show s2.b.length = nb2 from HRS.out.b.len)
  obtain ⟨St, hSt⟩ : ∃ St : ByteArray, (⟨s2.b.toArray⟩ : ByteArray) = St := ⟨_, rfl⟩
  have HST := Lib.hid hSt
  have HDS := Lib.hid (show ∀ W : World, Blk W w.heap.size 48 #[.slice Ab2 nb2 cb2, .slice Al2 nl2 cl2, .int .i64 last2] → RB W Ab2 nb2 cb2 s2.b → DoS w.heap.size Ab2 nb2 cb2 Al2 nl2 cl2 last2 St W from fun W hk hr => hSt ▸ DoS.of hk hr)
  have HFF := HFc
  have HRz := HRc
  have HWlt := Lib.hid (show ∀ k, WK g vb vl dsw k → k < w.heap.size from HWS.out.lt)
  rw [HF.out] at HFc
  clear hk2 ho2 hz2 hd2 hSt
  refine wp_region_G (S0 := (DoS w.heap.size Ab2 nb2 cb2 Al2 nl2 cl2 last2 St)) (S1 := (DoS w.heap.size Ab2 nb2 cb2 Al2 nl2 cl2 last2 St)) (c := 99) (by kernel_rfl) ?_
  have hHeld := (HDS.out _ HKc.out HRc.out.b)
  have h01 := (fun (W : World) (h : (DoS w.heap.size Ab2 nb2 cb2 Al2 nl2 cl2 last2 St) W) => h)
  refine wpG_takeB (i := 0) (oi := ⟨some 16, _, _, _, _, _⟩) (v := .agg #[.slice Ab2 nb2 cb2, .slice Al2 nl2 cl2, .int .i64 last2]) rfl (by kernel_rfl) (by kernel_rfl) (by kernel_rfl) (by decide) (fun _ _ _ h => h) h01 rfl hHeld (Or.inl ⟨by rfl, ?_⟩) ?_
  · (intro W9 hSw; obtain ⟨v1, v2, v3, v4⟩ := hSw; go_simp; (try (first | with_reducible rfl | rfl | (simp; done))))
  try simp only [Act.put, List.setIfInBounds_toArray, List.set_cons_zero, List.set_cons_succ]
  refine wpG_takeB (i := 1) (oi := ⟨some 17, _, _, _, _, _⟩) (v := .pointer (some ⟨g, 0, none⟩)) rfl (by kernel_rfl) (by kernel_rfl) (by kernel_rfl) (by decide) (fun _ _ _ h => h) h01 rfl hHeld (Or.inl ⟨by rfl, ?_⟩) ?_
  · (intro W9 hSw; obtain ⟨v1, v2, v3, v4⟩ := hSw; go_simp; (try (first | with_reducible rfl | rfl | (simp; done))))
  try simp only [Act.put, List.setIfInBounds_toArray, List.set_cons_zero, List.set_cons_succ]
  refine wpG_oneB (i := 2) (o := ⟨some 18, _, _, _, _, _⟩) (by kernel_rfl) rfl rfl (fun K hK => ?_)
  go_simp
  (with_reducible refine (close_any _ _ _ _ _ _ _ HWc.out HL1.out).mono ?_); rintro e w4 ⟨rfl, vb2, vl2, dsw2, hw4, ho4, hat4, hwk4⟩
  rw [HS2.out] at hw4
  have HKc := Lib.hid (HKc.out.only ho4 HN4.out)
  have HZc := Lib.hid (HZc.out.only ho4 HN6.out)
  have HRc := Lib.hid (HRc.out.only HFc.out ho4 fun k hk _ => .inl (.inl hk))
  have HOc := Lib.hid (HOc.out.trans ho4 fun k _ hk => hk)
  have HAT := Lib.hid (show Hat vb vb2 w from hat4.imp_right fun h j hj => Nat.le_trans HSZ3.out (h j hj))
  have HATz := Lib.hid hat4
  have HWKb := Lib.hid (show ∀ k, k < w.heap.size + 3 → WK g vb2 vl2 dsw2 k → WK g vb vl dsw k from fun k hk => hwk4 k (by have := HBz.out; have := HZ0.out; omega))
  have HWc := Lib.hid hw4
  have HBz := Lib.hid (Nat.le_trans HBz.out ho4.size)
  have HSZ4 := Lib.hid ho4.size
  clear hw4 ho4 hat4 hwk4
  have HFN := Lib.hid (show FP (WG g vb2 G) Ab2 nb2 Al2 nl2 ds2 from HFF.out.imp HRz.out fun k hk h => by
    rw [HF.out]
    rcases h with (h | h) | h
    · exact .inl (.inl (.inl h))
    · rcases HATz.out with h2 | h2
      · exact .inl (.inl (.inr (h2 ▸ h)))
      · have := h2 k h; omega
    · exact .inl (.inr h))
  refine hK.out _ _ (HDS.out _ HKc.out HRc.out.b) (fun hHeld => ?_)
  clear hK K
  try simp only [Act.put, List.setIfInBounds_toArray, List.set_cons_zero, List.set_cons_succ]
  refine wpG_takeB (i := 3) (oi := ⟨some 19, _, _, _, _, _⟩) (v := .bool true) rfl (by kernel_rfl) (by kernel_rfl) (by kernel_rfl) (by decide) (fun _ _ _ h => h) h01 rfl hHeld (Or.inl ⟨by rfl, ?_⟩) ?_
  · (intro W9 hSw; obtain ⟨v1, v2, v3, v4⟩ := hSw; go_simp; (try (first | with_reducible rfl | rfl | (simp; done))))
  try simp only [Act.put, List.setIfInBounds_toArray, List.set_cons_zero, List.set_cons_succ]
  refine wpG_takeB (i := 4) (oi := ⟨some 20, _, _, _, _, _⟩) (v := .bool true) rfl (by kernel_rfl) (by kernel_rfl) (by kernel_rfl) (by decide) (fun _ _ _ h => h) h01 rfl hHeld (Or.inl ⟨by rfl, ?_⟩) ?_
  · (intro W9 hSw; obtain ⟨v1, v2, v3, v4⟩ := hSw; go_simp; (try (first | with_reducible rfl | rfl | (simp; done))))
  try simp only [Act.put, List.setIfInBounds_toArray, List.set_cons_zero, List.set_cons_succ]
  refine wpG_takeB (i := 5) (oi := ⟨some 21, _, _, _, _, _⟩) (v := .pointer (some ⟨g, 0, none⟩)) rfl (by kernel_rfl) (by kernel_rfl) (by kernel_rfl) (by decide) (fun _ _ _ h => h) h01 rfl hHeld (Or.inl ⟨by rfl, ?_⟩) ?_
  · (intro W9 hSw; obtain ⟨v1, v2, v3, v4⟩ := hSw; go_simp; (try (first | with_reducible rfl | rfl | (simp; done))))
  try simp only [Act.put, List.setIfInBounds_toArray, List.set_cons_zero, List.set_cons_succ]
  refine wpG_takeB (i := 7) (oi := ⟨some 23, _, _, _, _, _⟩) (v := .pointer (some ⟨w.heap.size, 1, none⟩)) rfl (by kernel_rfl) (by kernel_rfl) (by kernel_rfl) (by decide) (fun _ _ _ h => h) h01 rfl hHeld (Or.inl ⟨by rfl, ?_⟩) ?_
  · (intro W9 hSw; obtain ⟨v1, v2, v3, v4⟩ := hSw; go_simp; (try (first | with_reducible rfl | rfl | (simp; done))))
  try simp only [Act.put, List.setIfInBounds_toArray, List.set_cons_zero, List.set_cons_succ]
  refine wpG_takeB (i := 8) (oi := ⟨some 24, _, _, _, _, _⟩) (v := .slice Al2 nl2 cl2) rfl (by kernel_rfl) (by kernel_rfl) (by kernel_rfl) (by decide) (fun _ _ _ h => h) h01 rfl hHeld (Or.inl ⟨by rfl, ?_⟩) ?_
  · (intro W9 hSw; obtain ⟨v1, v2, v3, v4⟩ := hSw; go_simp; (try (first | with_reducible rfl | rfl | (simp; done))))
  try simp only [Act.put, List.setIfInBounds_toArray, List.set_cons_zero, List.set_cons_succ]
  refine wpG_takeB (i := 9) (oi := ⟨some 25, _, _, _, _, _⟩) (v := .int .i64 (nl2 : Int)) rfl (by kernel_rfl) (by kernel_rfl) (by kernel_rfl) (by decide) (fun _ _ _ h => h) h01 rfl hHeld (Or.inl ⟨by rfl, ?_⟩) ?_
  · (intro W9 hSw; obtain ⟨v1, v2, v3, v4⟩ := hSw; go_simp; (try (first | with_reducible rfl | rfl | (simp; done))))
  try simp only [Act.put, List.setIfInBounds_toArray, List.set_cons_zero, List.set_cons_succ]
  refine wpG_oneB (i := 6) (o := ⟨some 22, _, _, _, _, _⟩) (by kernel_rfl) rfl rfl (fun K hK => ?_)
  go_simp
  (with_reducible refine (waiting_any _ _ _ _ _ _ _ HWc.out).mono ?_); rintro e w5 ⟨rfl, b5⟩
  have HKc := Lib.hid (HKc.out.below b5 HKc.out.lt)
  have HZc := Lib.hid (HZc.out.below b5 HZc.out.lt)
  have HRc := Lib.hid (HRc.out.below b5)
  have HOc := Lib.hid (HOc.out.below b5)
  have HWc := Lib.hid (HWc.out.below b5)
  have HBz := Lib.hid (Nat.le_trans HBz.out b5.size)
  clear b5
  rw [HNL.out]
  refine hK.out _ _ (HDS.out _ HKc.out HRc.out.b) (fun hHeld => ?_)
  clear hK K
  try simp only [Act.put, List.setIfInBounds_toArray, List.set_cons_zero, List.set_cons_succ]
  refine wpG_takeB (i := 10) (oi := ⟨some 26, _, _, _, _, _⟩) (v := .bool true) rfl (by kernel_rfl) (by kernel_rfl) (by kernel_rfl) (by decide) (fun _ _ _ h => h) h01 rfl hHeld (Or.inl ⟨by rfl, ?_⟩) ?_
  · (intro W9 hSw; obtain ⟨v1, v2, v3, v4⟩ := hSw; go_simp; (try (first | with_reducible rfl | rfl | (simp; done))))
  try simp only [Act.put, List.setIfInBounds_toArray, List.set_cons_zero, List.set_cons_succ]
  refine wpG_takeB (i := 11) (oi := ⟨some 27, _, _, _, _, _⟩) (v := .bool true) rfl (by kernel_rfl) (by kernel_rfl) (by kernel_rfl) (by decide) (fun _ _ _ h => h) h01 rfl hHeld (Or.inl ⟨by rfl, ?_⟩) ?_
  · (intro W9 hSw; obtain ⟨v1, v2, v3, v4⟩ := hSw; go_simp; (try (first | with_reducible rfl | rfl | (simp; done))))
  try simp only [Act.put, List.setIfInBounds_toArray, List.set_cons_zero, List.set_cons_succ]
  refine wpG_takeB (i := 12) (oi := ⟨some 28, _, _, _, _, _⟩) (v := .bool true) rfl (by kernel_rfl) (by kernel_rfl) (by kernel_rfl) (by decide) (fun _ _ _ h => h) h01 rfl hHeld (Or.inl ⟨by rfl, ?_⟩) ?_
  · (intro W9 hSw; obtain ⟨v1, v2, v3, v4⟩ := hSw; go_simp; (try (first | with_reducible rfl | rfl | (simp; done))))
  try simp only [Act.put, List.setIfInBounds_toArray, List.set_cons_zero, List.set_cons_succ]
  refine wpG_takeB (i := 13) (oi := ⟨some 29, _, _, _, _, _⟩) (v := .pointer (some ⟨g, 0, none⟩)) rfl (by kernel_rfl) (by kernel_rfl) (by kernel_rfl) (by decide) (fun _ _ _ h => h) h01 rfl hHeld (Or.inl ⟨by rfl, ?_⟩) ?_
  · (intro W9 hSw; obtain ⟨v1, v2, v3, v4⟩ := hSw; go_simp; (try (first | with_reducible rfl | rfl | (simp; done))))
  try simp only [Act.put, List.setIfInBounds_toArray, List.set_cons_zero, List.set_cons_succ]
  refine wpG_takeB (i := 16) (oi := ⟨some 32, _, _, _, _, _⟩) (v := .pointer (some ⟨w.heap.size, 0, none⟩)) rfl (by kernel_rfl) (by kernel_rfl) (by kernel_rfl) (by decide) (fun _ _ _ h => h) h01 rfl hHeld (Or.inl ⟨by rfl, ?_⟩) ?_
  · (intro W9 hSw; obtain ⟨v1, v2, v3, v4⟩ := hSw; go_simp; (try (first | with_reducible rfl | rfl | (simp; done))))
  try simp only [Act.put, List.setIfInBounds_toArray, List.set_cons_zero, List.set_cons_succ]
  refine wpG_takeB (i := 17) (oi := ⟨some 33, _, _, _, _, _⟩) (v := .slice Ab2 nb2 cb2) rfl (by kernel_rfl) (by kernel_rfl) (by kernel_rfl) (by decide) (fun _ _ _ h => h) h01 rfl hHeld (Or.inl ⟨by rfl, ?_⟩) ?_
  · (intro W9 hSw; obtain ⟨v1, v2, v3, v4⟩ := hSw; go_simp; (try (first | with_reducible rfl | rfl | (simp; done))))
  try simp only [Act.put, List.setIfInBounds_toArray, List.set_cons_zero, List.set_cons_succ]
  refine wpG_takeB (i := 18) (oi := ⟨some 34, _, _, _, _, _⟩) (v := .string St) rfl (by kernel_rfl) (by kernel_rfl) (by kernel_rfl) (by decide) (fun _ _ _ h => h) h01 rfl hHeld (Or.inl ⟨by rfl, ?_⟩) ?_
  · (intro W9 hSw; obtain ⟨v1, v2, v3, v4⟩ := hSw; go_simp; (try (first | with_reducible rfl | rfl | (simp; done))))
  try simp only [Act.put, List.setIfInBounds_toArray, List.set_cons_zero, List.set_cons_succ]
  refine wpG_oneB (i := 14) (o := ⟨some 30, _, _, _, _, _⟩) (by kernel_rfl) rfl rfl (fun K hK => ?_)
  go_simp
  (with_reducible refine (bytes_any _ _ _ _ _ _ _ HWc.out HL2.out).mono ?_); rintro e w6 ⟨v6, rfl, ho6, b6⟩
  obtain ⟨A6, c6, rfl, -⟩ := own_form ho6
  have HO6 := Lib.hid ho6
  have HKc := Lib.hid (HKc.out.below b6 HKc.out.lt)
  have HZc := Lib.hid (HZc.out.below b6 HZc.out.lt)
  have HRc := Lib.hid (HRc.out.below b6)
  have HOc := Lib.hid (HOc.out.below b6)
  have HWc := Lib.hid (HWc.out.below b6)
  have HBz := Lib.hid (Nat.le_trans HBz.out b6.size)
  clear ho6 b6
  refine hK.out _ _ (HDS.out _ HKc.out HRc.out.b) (fun hHeld => ?_)
  clear hK K
  try simp only [Act.put, List.setIfInBounds_toArray, List.set_cons_zero, List.set_cons_succ]
  refine wpG_twoB (i := 15) (j := 21) (oi := ⟨some 31, _, _, _, _, _⟩) (oj := ⟨none, _, _, _, _, _⟩) (by kernel_rfl) rfl rfl rfl rfl (fun K hK => ?_) (fun K hK => ?_)
  · have s7 := conv_RB (own_RB3 HO6.out)
    rw [HST.out] at s7
    go_simp
    clear s7
    refine hK.out _ _ (HDS.out _ HKc.out HRc.out.b) (fun hHeld => ?_)
    clear hK K
    try simp only [Act.put, List.setIfInBounds_toArray, List.set_cons_zero, List.set_cons_succ]
    refine wpG_takeB (i := 19) (oi := ⟨some 35, _, _, _, _, _⟩) (v := .bool true) rfl (by kernel_rfl) (by kernel_rfl) (by kernel_rfl) (by decide) (fun _ _ _ h => h) h01 rfl hHeld (Or.inl ⟨by rfl, ?_⟩) ?_
    · (intro W9 hSw; obtain ⟨v1, v2, v3, v4⟩ := hSw; go_simp; (try (first | with_reducible rfl | rfl | (simp; done))))
    try simp only [Act.put, List.setIfInBounds_toArray, List.set_cons_zero, List.set_cons_succ]
    refine wpG_takeB (i := 20) (oi := ⟨some 36, _, _, _, _, _⟩) (v := .bool true) rfl (by kernel_rfl) (by kernel_rfl) (by kernel_rfl) (by decide) (fun _ _ _ h => h) h01 rfl hHeld (Or.inl ⟨by rfl, ?_⟩) ?_
    · (intro W9 hSw; obtain ⟨v1, v2, v3, v4⟩ := hSw; go_simp; (try (first | with_reducible rfl | rfl | (simp; done))))
    try simp only [Act.put, List.setIfInBounds_toArray, List.set_cons_zero, List.set_cons_succ]
    refine wpG_oneB (i := 21) (o := ⟨none, _, _, _, _, _⟩) (by kernel_rfl) rfl rfl (fun K hK => ?_)
    have z0 := HZc.out.cell 0
    have z1 := HZc.out.cell 1
    have z2 := HZc.out.cell 2
    simp at z0 z1 z2
    have f0 := HZc.out.frozen 0
    have f1 := HZc.out.frozen 1
    have f2 := HZc.out.frozen 2
    go_simp
    obtain ⟨hz9, ho9⟩ := st3 (x := .slice Ab2 nb2 cb2) (y := .slice Al2 nl2 cl2) (z := .int .i64 last2) HZc.out
    have HKc := Lib.hid (HKc.out.only ho9 (by omega))
    have HRc := Lib.hid (HRc.out.only HFF.out ho9 fun k hk _ => by rw [HF.out]; exact .inr (.inr hk))
    have HO6 := Lib.hid (own_only HO6.out ho9 fun k hk e => own_neP HO6.out HZc.out (by decide) (e ▸ hk))
    have HOc := Lib.hid (HOc.out.trans ho9 fun b hb e => by omega)
    have HWc := Lib.hid (HWc.out.only ho9 fun k hk e => by have h1 := HWKb.out k (by omega) hk; have := HWlt.out k h1; omega)
    have HZ9 := Lib.hid hz9
    clear z0 z1 z2 f0 f1 f2 hz9 ho9
    refine hK.out _ _ (HDS.out _ HKc.out HRc.out.b) (fun hHeld => ?_)
    clear hK K
    try simp only [Act.put, List.setIfInBounds_toArray, List.set_cons_zero, List.set_cons_succ]
    refine wpG_takeB (i := 22) (oi := ⟨some 7, _, _, _, _, _⟩) (v := .bool true) rfl (by kernel_rfl) (by kernel_rfl) (by kernel_rfl) (by decide) (fun _ _ _ h => h) h01 rfl hHeld (Or.inl ⟨by rfl, ?_⟩) ?_
    · (intro W9 hSw; obtain ⟨v1, v2, v3, v4⟩ := hSw; go_simp; (try (first | with_reducible rfl | rfl | (simp; done))))
    try simp only [Act.put, List.setIfInBounds_toArray, List.set_cons_zero, List.set_cons_succ]
    refine wpG_done (by kernel_rfl) ?_ _
    go_wp2_with fail
    refine bodyPost_ret (v := .tuple #[refV Ab2 nb2 cb2 Al2 nl2 cl2 last2, .bool true]) (results_row_tmp (p := 6) (u := 7) (ty := 48) rfl _ _ (w.heap.size + 1 + 1) 48 _ _ rfl HZ9.out Try.underlying48 rfl (by kernel_rfl)) rfl ?_
    exact ⟨_, vb2, vl2, dsw2, rfl, HWc.out, ⟨Ab2, nb2, cb2, Al2, nl2, cl2, ds2, by rw [HLA.out], HRc.out, HFN.out⟩, HOc.out, HAT.out, fun k hk h => HWKb.out k (by omega) h⟩
  · have z0 := HZc.out.cell 0
    have z1 := HZc.out.cell 1
    have z2 := HZc.out.cell 2
    simp at z0 z1 z2
    have f0 := HZc.out.frozen 0
    have f1 := HZc.out.frozen 1
    have f2 := HZc.out.frozen 2
    go_simp
    obtain ⟨hz9, ho9⟩ := st3 (x := .slice Ab2 nb2 cb2) (y := .slice Al2 nl2 cl2) (z := .int .i64 last2) HZc.out
    have HKc := Lib.hid (HKc.out.only ho9 (by omega))
    have HRc := Lib.hid (HRc.out.only HFF.out ho9 fun k hk _ => by rw [HF.out]; exact .inr (.inr hk))
    have HO6 := Lib.hid (own_only HO6.out ho9 fun k hk e => own_neP HO6.out HZc.out (by decide) (e ▸ hk))
    have HOc := Lib.hid (HOc.out.trans ho9 fun b hb e => by omega)
    have HWc := Lib.hid (HWc.out.only ho9 fun k hk e => by have h1 := HWKb.out k (by omega) hk; have := HWlt.out k h1; omega)
    have HZ9 := Lib.hid hz9
    clear z0 z1 z2 f0 f1 f2 hz9 ho9
    refine hK.out _ _ (HDS.out _ HKc.out HRc.out.b) (fun hHeld => ?_)
    clear hK K
    try simp only [Act.put, List.setIfInBounds_toArray, List.set_cons_zero, List.set_cons_succ]
    refine wpG_oneB (i := 15) (o := ⟨some 31, _, _, _, _, _⟩) (by kernel_rfl) rfl rfl (fun K hK => ?_)
    have s7 := conv_RB (own_RB3 HO6.out)
    rw [HST.out] at s7
    go_simp
    clear s7
    refine hK.out _ _ (HDS.out _ HKc.out HRc.out.b) (fun hHeld => ?_)
    clear hK K
    try simp only [Act.put, List.setIfInBounds_toArray, List.set_cons_zero, List.set_cons_succ]
    refine wpG_takeB (i := 19) (oi := ⟨some 35, _, _, _, _, _⟩) (v := .bool true) rfl (by kernel_rfl) (by kernel_rfl) (by kernel_rfl) (by decide) (fun _ _ _ h => h) h01 rfl hHeld (Or.inl ⟨by rfl, ?_⟩) ?_
    · (intro W9 hSw; obtain ⟨v1, v2, v3, v4⟩ := hSw; go_simp; (try (first | with_reducible rfl | rfl | (simp; done))))
    try simp only [Act.put, List.setIfInBounds_toArray, List.set_cons_zero, List.set_cons_succ]
    refine wpG_takeB (i := 20) (oi := ⟨some 36, _, _, _, _, _⟩) (v := .bool true) rfl (by kernel_rfl) (by kernel_rfl) (by kernel_rfl) (by decide) (fun _ _ _ h => h) h01 rfl hHeld (Or.inl ⟨by rfl, ?_⟩) ?_
    · (intro W9 hSw; obtain ⟨v1, v2, v3, v4⟩ := hSw; go_simp; (try (first | with_reducible rfl | rfl | (simp; done))))
    try simp only [Act.put, List.setIfInBounds_toArray, List.set_cons_zero, List.set_cons_succ]
    refine wpG_takeB (i := 22) (oi := ⟨some 7, _, _, _, _, _⟩) (v := .bool true) rfl (by kernel_rfl) (by kernel_rfl) (by kernel_rfl) (by decide) (fun _ _ _ h => h) h01 rfl hHeld (Or.inl ⟨by rfl, ?_⟩) ?_
    · (intro W9 hSw; obtain ⟨v1, v2, v3, v4⟩ := hSw; go_simp; (try (first | with_reducible rfl | rfl | (simp; done))))
    try simp only [Act.put, List.setIfInBounds_toArray, List.set_cons_zero, List.set_cons_succ]
    refine wpG_done (by kernel_rfl) ?_ _
    go_wp2_with fail
    refine bodyPost_ret (v := .tuple #[refV Ab2 nb2 cb2 Al2 nl2 cl2 last2, .bool true]) (results_row_tmp (p := 6) (u := 7) (ty := 48) rfl _ _ (w.heap.size + 1 + 1) 48 _ _ rfl HZ9.out Try.underlying48 rfl (by kernel_rfl)) rfl ?_
    exact ⟨_, vb2, vl2, dsw2, rfl, HWc.out, ⟨Ab2, nb2, cb2, Al2, nl2, cl2, ds2, by rw [HLA.out], HRc.out, HFN.out⟩, HOc.out, HAT.out, fun k hk h => HWKb.out k (by omega) h⟩
set_option maxRecDepth 100000 in
set_option maxHeartbeats 8000000 in
theorem do_add (w : World) (B g : Nat) (vb vl : Value) (dsw : List Pd) (s : StP) (G : Nat → Prop) (Ab : Option Addr) (nb cb : Nat) (Al : Option Addr) (nl cl : Nat) (ds : List Pd) (t f : Int) (A : Option Addr) (n c : Nat) (d : List UInt8) (hs : WS w B g vb vl dsw s) (hr : RS w Ab nb cb Al nl cl ds s) (hf : FP (WG g vb G) Ab nb Al nl ds) (hG : ∀ k, G k → k < w.heap.size) (hl : s.b.length ≤ 1990000) (hp : PdR w ⟨t, f, A, n, c, d⟩) (hpF : ∀ a, A = some a → 0 < n → ¬ WG g vb G a.block) (hn : n ≤ 30000) :
    Calls Try.prog 20 #[.pointer (some ⟨g, 0, none⟩), .agg #[.slice Ab nb cb, .slice Al nl cl, .int .i64 s.last], .agg #[.bool false, .int .i64 t, .int .i64 f, .slice A n c]] w (DoR w B g vb vl dsw G (addP s ⟨t, f, d⟩).1) := by
  obtain ⟨W0, hW0⟩ : ∃ W0, (((w.alloc (.cells #[.slice Ab nb cb, .slice Al nl cl, .int .i64 s.last] 48)).alloc (.cells #[.bool false, .int .i64 t, .int .i64 f, .slice A n c] 53)).alloc (.cells #[.slice none 0 0, .slice none 0 0, .int .i64 0] 48)) = W0 := ⟨_, rfl⟩
  have hb0 : Below w.heap.size w W0 := hW0 ▸ (((Below.refl _ w).alloc (Nat.le_refl _) _).alloc (by simp) _).alloc (by simp; omega) _
  have hz0 : W0.heap.size = w.heap.size + 3 := by rw [← hW0]; simp
  have k4 : Blk W0 w.heap.size 48 #[.slice Ab nb cb, .slice Al nl cl, .int .i64 s.last] := hW0 ▸ ((Blk.new w 48 _).alloc _).alloc _
  have k5 : Blk W0 (w.heap.size + 1) 53 #[.bool false, .int .i64 t, .int .i64 f, .slice A n c] := by have := (Blk.new (w.alloc (.cells #[.slice Ab nb cb, .slice Al nl cl, .int .i64 s.last] 48)) 53 #[.bool false, .int .i64 t, .int .i64 f, .slice A n c]).alloc (.cells #[.slice none 0 0, .slice none 0 0, .int .i64 0] 48); rw [World.size_alloc, hW0] at this; exact this
  have k6 : Blk W0 (w.heap.size + 1 + 1) 48 #[.slice none 0 0, .slice none 0 0, .int .i64 0] := by have := Blk.new ((w.alloc (.cells #[.slice Ab nb cb, .slice Al nl cl, .int .i64 s.last] 48)).alloc (.cells #[.bool false, .int .i64 t, .int .i64 f, .slice A n c] 53)) 48 #[.slice none 0 0, .slice none 0 0, .int .i64 0]; rw [World.size_alloc, World.size_alloc, hW0] at this; exact this
  have HK4 := Lib.hid k4
  have HK5 := Lib.hid k5
  have HK6 := Lib.hid k6
  have HW0 := Lib.hid hW0
  have HB0 := Lib.hid hb0
  have HZ0 := Lib.hid hz0
  have HWS := Lib.hid hs
  have HRS0 := Lib.hid hr
  have HFP0 := Lib.hid hf
  have HGG := Lib.hid hG
  have HPP := Lib.hid hp
  have HPB := Lib.hid (show RB w A n c d from hp.r)
  have HPF := Lib.hid hpF
  have HLS := Lib.hid hl
  have HN := Lib.hid hn
  have hn0 : (n : Int) ≤ 30000 := by omega
  have HWlt := Lib.hid (show ∀ k, WK g vb vl dsw k → k < w.heap.size from hs.lt)
  obtain ⟨ee, hee⟩ : ∃ ee, (addP s ⟨t, f, d⟩).2 = ee := ⟨_, rfl⟩
  obtain ⟨s2, hs2⟩ : ∃ s2, (addP s ⟨t, f, d⟩).1 = s2 := ⟨_, rfl⟩
  have HEE := Lib.hid hee
  have HS2 := Lib.hid hs2
  have HL2 := Lib.hid (show s2.b.length ≤ 2000000 by have := addP_len hs.ok ⟨t, f, d⟩; rw [hs2] at this; omega)
  rw [hs2]
  obtain ⟨last, hlast⟩ : ∃ last, s.last = last := ⟨_, rfl⟩
  have HLO := Lib.hid hlast
  rw [hlast] at HK4 HW0 ⊢
  obtain ⟨last2, hlast2⟩ : ∃ last2, s2.last = last2 := ⟨_, rfl⟩
  have HLA := Lib.hid hlast2
  have HN4 := Lib.hid (show ¬ WF g vb w.heap.size from fun h => by have := HWlt.out _ (.inl h); omega)
  have HN5 := Lib.hid (show ¬ WF g vb (w.heap.size + 1) from fun h => by have := HWlt.out _ (.inl h); omega)
  have HN6 := Lib.hid (show ¬ WF g vb (w.heap.size + 1 + 1) from fun h => by have := HWlt.out _ (.inl h); omega)
  clear hs hr hf hG hl hp hpF hn hb0 hz0 k4 k5 k6 hW0 hs2 hee hlast hlast2
  go_enter Try.func20, Try.ntmps20
  go_upto_region 4 with fail
  rw [HW0.out]
  clear HW0
  have k0 := HK5.out.cell 1
  have k1 := HK5.out.cell 2
  have k2 := HK5.out.cell 3
  simp at k0 k1 k2
  go_upto_region 5 with fail
  obtain ⟨W1, hW1⟩ : ∃ W1, W0.alloc (.cells #[.int .i64 t, .int .i64 f, .slice A n c] 31) = W1 := ⟨_, rfl⟩
  have hb1 : Below W0.heap.size W0 W1 := hW1 ▸ (Below.refl _ W0).alloc (Nat.le_refl _) _
  have K8 := Lib.hid (show Blk W1 W0.heap.size 31 #[.int .i64 t, .int .i64 f, .slice A n c] from hW1 ▸ Blk.new W0 31 _)
  obtain ⟨b8, hb8⟩ : ∃ b8, W0.heap.size = b8 := ⟨_, rfl⟩
  have HB8 := Lib.hid (show b8 = w.heap.size + 3 by rw [← hb8]; exact HZ0.out)
  have HB1 := Lib.hid (HB0.out.trans (hb1.mono HB0.out.size))
  have K4a := Lib.hid (HK4.out.below hb1 HK4.out.lt)
  have K5a := Lib.hid (HK5.out.below hb1 HK5.out.lt)
  have K6a := Lib.hid (HK6.out.below hb1 HK6.out.lt)
  have HZ1 := Lib.hid (show w.heap.size + 4 ≤ W1.heap.size by have := HZ0.out; rw [← hW1, World.size_alloc]; omega)
  rw [hW1]
  rw [hb8] at K8 ⊢
  clear k0 k1 k2 hW1 hb1 hb8 HK4 HK5 HK6 HZ0
  have k2 := K5a.out.cell 3
  simp at k2
  have e2 := K8.out.cell 2
  have f2 := K8.out.frozen 2
  simp at e2
  have HMX := Lib.hid (show 0 + n ≤ maxLen ∧ (0 + n) * 1 ≤ 140737488355328 by have := HN.out; unfold maxLen; omega)
  go_upto_region 6 with (at_builtin; go_must (refine wpList_app_own (base := W1.heap.size) (n := 0) (m := n) (xs := []) (news := d.map Go.Proofs.Ytgbkoegmoelheaa.u8) rfl (.const (.slice none 0 0)) (.tmp 41) 23 rfl el22 rfl (World.ownsRow_nil _ _ 5 1) rfl (HPB.out.below HB1.out).h (u8_one _) HMX.out.1 HMX.out.2 (Nat.le_refl _) ?_; intro v3 w3 hown hg hat; rw [Nat.zero_add, List.nil_append] at hown; have HOW := Lib.hid hown; have HGR := Lib.hid (below_own (Below.refl _ _) (Nat.le_refl _) (World.ownsRow_nil _ _ 5 1) hg); have K8b := Lib.hid (K8.out.below HGR.out K8.out.lt); clear hown hg hat; refine Hid.out ?_))
  obtain ⟨A5, c5, e3, -⟩ := own_form HOW.out
  subst e3
  refine Lib.hid ?_
  clear e2 f2 k2
  have e2 := K8b.out.cell 2
  have f2 := K8b.out.frozen 2
  simp at e2
  go_upto_region 6 with fail
  obtain ⟨W4, hW4⟩ : ∃ W4, w3.setCell ⟨b8, 2, none⟩ (.slice A5 n c5) = W4 := ⟨_, rfl⟩
  have ho4 : Only (fun k => k = b8) w3 W4 := hW4 ▸ Only.set (p := fun k => k = b8) (Only.refl _ _) (fun _ => rfl) 2 _
  have K8c := Lib.hid (show Blk W4 b8 31 #[.int .i64 t, .int .i64 f, .slice A5 n c5] from by have := K8b.out.set_ 2 (.slice A5 n c5); rw [hW4] at this; simpa using this)
  rw [hW4]
  clear e2 f2 hW4
  have h14 := HB1.out.trans (HGR.out.mono HB1.out.size)
  have HOc := Lib.hid (show Only (WF g vb) w W4 from ((Only.of_below (p := WF g vb) h14)).trans ho4 fun b hb e => by have := HB8.out; omega)
  have HB4 := Lib.hid (h14.trans (ho4.to_below h14.size fun b hb e => by have := HB8.out; omega))
  have K4c := Lib.hid ((K4a.out.below HGR.out K4a.out.lt).only ho4 (by have := HB8.out; omega))
  have K5c := Lib.hid ((K5a.out.below HGR.out K5a.out.lt).only ho4 (by have := HB8.out; omega))
  have K6c := Lib.hid ((K6a.out.below HGR.out K6a.out.lt).only ho4 (by have := HB8.out; omega))
  have HOWc := Lib.hid (own_only HOW.out ho4 fun k hk e => by have := (HOW.out.lt k hk).1; have := HZ1.out; have := HB8.out; omega)
  have HOQ := Lib.hid (show ∀ q, (Value.slice A5 n c5).ownBlock = some q → W1.heap.size ≤ q ∧ q < W4.heap.size from fun q hq => ⟨(HOWc.out.lt q hq).1, own_lt HOWc.out q hq⟩)
  have HZ4 := Lib.hid (show W1.heap.size ≤ W4.heap.size from Nat.le_trans HGR.out.size ho4.size)
  have hpd : PdR W4 ⟨t, f, A5, n, c5, d⟩ := ⟨HPP.out.t1, HPP.out.t2, HPP.out.f1, HPP.out.f2, own_RB3 HOWc.out⟩
  have C22 := add_any W4 B g vb vl dsw s t f A5 n c5 d (HWS.out.below HB4.out) hpd HN.out (by have := HLS.out; omega)
  rw [HEE.out, HS2.out] at C22
  have C22 := Lib.hid C22
  clear ho4 h14 hpd HOW K8b K8 K4a K5a K6a HGR
  have e0 := K8c.out.cell 0
  have e1 := K8c.out.cell 1
  have e2 := K8c.out.cell 2
  simp at e0 e1 e2
  go_upto_region 7 with (go_at_call 22; (with_reducible refine C22.out.mono ?_); rintro e w5 ⟨rfl, vb2, vl2, dsw2, hw5, ho5, hat5, hwk5⟩; have HWd := Lib.hid hw5; have HO5 := Lib.hid ho5; have HATz := Lib.hid hat5; have HWK5 := Lib.hid hwk5; clear hw5 ho5 hat5 hwk5 e0 e1 e2)
  clear C22
  have HN8 := Lib.hid (show ¬ WF g vb b8 from fun h => by have := HWlt.out _ (.inl h); have := HB8.out; omega)
  have K4d := Lib.hid (K4c.out.only HO5.out HN4.out)
  have K5d := Lib.hid (K5c.out.only HO5.out HN5.out)
  have K6d := Lib.hid (K6c.out.only HO5.out HN6.out)
  have K8d := Lib.hid (K8c.out.only HO5.out HN8.out)
  have HOWd := Lib.hid (own_only HOWc.out HO5.out fun k hk e => by have := (HOQ.out k hk).1; have := HWlt.out k (.inl e); have := HZ1.out; omega)
  have HOd := Lib.hid (HOc.out.trans HO5.out fun k _ hk => hk)
  have HBR := Lib.hid (ByteRow.of HOWd.out)
  have HQ4 := Lib.hid (show ∀ k, (Value.slice A5 n c5).ownBlock = some k → k ≠ w.heap.size ∧ k ≠ w.heap.size + 1 ∧ k ≠ w.heap.size + 1 + 1 ∧ k ≠ b8 ∧ w.heap.size ≤ k from fun k hk => by have := (HOQ.out k hk).1; have := HZ1.out; have := HB8.out; omega)
  clear K4c K5c K6c K8c HOWc HOc
  go_wp2_with fail
  go_loopw [10] (fun ii wr => ∃ i : Nat, (i : Int) ≤ n ∧ ii = .int .i64 (i : Int) ∧ Hid (ByteRow wr W1.heap.size (.slice A5 n c5) n) ∧ Hid (Only (fun k => (Value.slice A5 n c5).ownBlock = some k) w5 wr)) (fun ii _ => n - (intOf ii).toNat)
  case atStart => exact ⟨0, by omega, rfl, HBR, Lib.hid (Only.refl _ _)⟩
  case round =>
  clear HBR
  obtain ⟨i, hi, rfl, HBR, HON⟩ := hrel
  have hi0 : (0 : Int) ≤ i := by omega
  have K8r := Lib.hid (K8d.out.only HON.out fun hk => (HQ4.out _ hk).2.2.2.1 rfl)
  have e2 := K8r.out.cell 2
  simp at e2
  by_cases hlt : (i : Int) < n
  case pos =>
    obtain ⟨gq, cap, z, e1, hcz, hz0, hz1, hfz⟩ := HBR.out.cell (k := i) (by omega)
    injection e1 with e3 e4 e5
    subst e3 e5
    have HBR2 := Lib.hid (fun (y : Int) (h0 : 0 ≤ y) (h1 : y < 256) => HBR.out.store (k := i) (z := y) h0 h1)
    have HON2 := Lib.hid (fun (y : Int) => HON.out.set (g := gq) (fun _ => rfl) i (.int .u8 y))
    have hw9 : 0 ≤ (z + 1) % 256 ∧ (z + 1) % 256 < 256 := by omega
    have HW9 := Lib.hid hw9
    clear hw9
    go_wp2_with fail
    go_roundw
    case rel => exact ⟨i + 1, by omega, by go_num, Lib.hid (HBR2.out _ HW9.out.1 HW9.out.2), Lib.hid (HON2.out _)⟩
    case measure => simp [intOf]; omega
  case neg =>
  obtain ⟨w6, rfl⟩ : ∃ w6 : World, w6 = wr := ⟨_, rfl⟩
  have K4e := Lib.hid (K4d.out.only HON.out fun hk => (HQ4.out _ hk).1 rfl)
  have K5e := Lib.hid (K5d.out.only HON.out fun hk => (HQ4.out _ hk).2.1 rfl)
  have K6e := Lib.hid (K6d.out.only HON.out fun hk => (HQ4.out _ hk).2.2.1 rfl)
  have HOe := Lib.hid (HOd.out.trans HON.out fun b hb hk => by have := (HQ4.out b hk).2.2.2.2; omega)
  have HWKb := Lib.hid (show ∀ k, k < w.heap.size + 3 → WK g vb2 vl2 dsw2 k → WK g vb vl dsw k from fun k hk => HWK5.out k (by have := HZ4.out; have := HZ1.out; omega))
  have HWe := Lib.hid (HWd.out.only HON.out fun k hk e => by
    have h1 := HOQ.out k e
    have h2 := HWlt.out k (HWK5.out k h1.2 hk)
    have := HZ1.out
    omega)
  have HSZ6 := Lib.hid (show w.heap.size + 3 ≤ w6.heap.size by have := K6e.out.lt; omega)
  have HPD6 := Lib.hid (show PdR w6 ⟨t, f, A, n, c, d⟩ from ⟨HPP.out.t1, HPP.out.t2, HPP.out.f1, HPP.out.f2, HPP.out.r.only HOe.out fun a hA h0 hk => HPF.out a hA h0 (.inl hk)⟩)
  have HRS6 := Lib.hid (HRS0.out.only HFP0.out HOe.out fun k hk _ => .inl hk)
  have HAT := Lib.hid (show Hat vb vb2 w from HATz.out.imp_right fun h j hj => Nat.le_trans (by have := HZ4.out; have := HZ1.out; omega) (h j hj))
  obtain ⟨F, hF⟩ : ∃ F : Nat → Prop, F = fun k => WG g vb2 G k ∨ k = w.heap.size ∨ k = w.heap.size + 1 + 1 := ⟨_, rfl⟩
  have HF := Lib.hid hF
  have hFw : ∀ k, k < w.heap.size → F k → WG g vb G k := fun k hk h => by
    rw [hF] at h
    rcases h with ((h | h) | h) | rfl | rfl
    · exact .inl (.inl h)
    · rcases HAT.out with h2 | h2
      · exact .inl (.inr (h2 ▸ h))
      · have := h2 k h; omega
    · exact .inr h
    · omega
    · omega
  have hFlt : ∀ k, F k → k < w6.heap.size := fun k hk => by
    rw [hF] at hk
    have := HSZ6.out
    rcases hk with (h | h) | rfl | rfl
    · exact HWe.out.lt k (.inl h)
    · have := HGG.out k h; omega
    · omega
    · omega
  have C47 := radd_any F Ab nb cb Al nl cl ds s t f A n c d w6 HRS6.out HPD6.out HN.out (by have := HRS6.out.b.len; have := HLS.out; omega) hFlt (HFP0.out.imp HRS0.out hFw) (fun a hA h0 hk => HPF.out a hA h0 (hFw _ (HPP.out.r.lt h0 hA) hk))
  rw [HEE.out, HS2.out] at C47
  unfold refV at C47
  rw [HLO.out] at C47
  have C47 := Lib.hid (C47.mono (R' := fun e w' => ∃ (Ab2 : Option Addr) (nb2 cb2 : Nat) (Al2 : Option Addr) (nl2 cl2 : Nat) (ds2 : List Pd), e = .returned (.tuple #[.agg #[.slice Ab2 nb2 cb2, .slice Al2 nl2 cl2, .int .i64 last2], .int .i64 ee]) ∧ RS w' Ab2 nb2 cb2 Al2 nl2 cl2 ds2 s2 ∧ FP F Ab2 nb2 Al2 nl2 ds2 ∧ Below w6.heap.size w6 w') fun e w' h => by
    obtain ⟨v, h1, ⟨Ab2, nb2, cb2, Al2, nl2, cl2, ds2, h2, h3, h6⟩, h4⟩ := h
    exact ⟨Ab2, nb2, cb2, Al2, nl2, cl2, ds2, by rw [h1, h2, HLA.out]; rfl, h3, h6, h4⟩)
  clear hF hFw hFlt K4d K5d K6d K8d HOWd HOd HWd HBR
  have k0 := K4e.out.cell 0
  have k1 := K4e.out.cell 1
  have k2 := K4e.out.cell 2
  simp at k0 k1 k2
  have p0 := K5e.out.cell 1
  have p1 := K5e.out.cell 2
  have p2 := K5e.out.cell 3
  simp at p0 p1 p2
  go_upto_region 12 with (go_at_call 47; (with_reducible refine C47.out.mono ?_); rintro e w7 ⟨Ab2, nb2, cb2, Al2, nl2, cl2, ds2, rfl, hrs, hfp, b7⟩; have HRS := Lib.hid hrs; have HFc := Lib.hid hfp; have HB7 := Lib.hid b7; have HK1 := Lib.hid (K4e.out.below b7 K4e.out.lt); have HZ7 := Lib.hid (K6e.out.below b7 K6e.out.lt); clear hrs hfp b7 k0 k1 k2 p0 p1 p2 e2; have k0 := HK1.out.cell 0; have k1 := HK1.out.cell 1; have k2 := HK1.out.cell 2; simp at k0 k1 k2; have f0 := HK1.out.frozen 0; have f1 := HK1.out.frozen 1; have f2 := HK1.out.frozen 2)
  obtain ⟨hk2, ho2⟩ := st3 (x := .slice Ab2 nb2 cb2) (y := .slice Al2 nl2 cl2) (z := .int .i64 last2) HK1.out
  obtain ⟨W2, hW2⟩ : ∃ W2, ((w7.setCell ⟨w.heap.size, 0, none⟩ (.slice Ab2 nb2 cb2)).setCell ⟨w.heap.size, 1, none⟩ (.slice Al2 nl2 cl2)).setCell ⟨w.heap.size, 2, none⟩ (.int .i64 last2) = W2 := ⟨_, rfl⟩
  rw [hW2] at hk2 ho2 ⊢
  clear k0 k1 k2 f0 f1 f2 C47 hW2
  have hd2 : Below W2.heap.size W2 W2.drew := below_drew (Below.refl _ _)
  have HKc := Lib.hid (hk2.below hd2 hk2.lt)
  have hz2 := HZ7.out.only ho2 (by omega)
  have HZc := Lib.hid (hz2.below hd2 hz2.lt)
  have HRc := Lib.hid ((HRS.out.only HFc.out ho2 fun k hk _ => by rw [HF.out]; exact .inr (.inl hk)).below hd2)
  have HOc := Lib.hid (show Only (WF g vb) w W2.drew from ((HOe.out.below HB7.out).trans ho2 fun b hb e => by omega).below hd2)
  have HWc := Lib.hid (((HWe.out.below HB7.out).only ho2 fun k hk e => by have := HWlt.out k (HWKb.out k (by omega) hk); omega).below hd2)
  have HBz := Lib.hid (show w.heap.size + 3 ≤ W2.drew.heap.size from Nat.le_trans HSZ6.out (Nat.le_trans HB7.out.size (Nat.le_trans ho2.size hd2.size)))
  have HNL := Lib.hid (show (s2.l.length : Int) = (nl2 : Int) by rw [← HRS.out.l.len, ← HRS.out.eq]; simp [pks])
  have HNB := Lib.hid (show s2.b.length = nb2 from HRS.out.b.len)
  obtain ⟨St, hSt⟩ : ∃ St : ByteArray, (⟨s2.b.toArray⟩ : ByteArray) = St := ⟨_, rfl⟩
  have HST := Lib.hid hSt
  have HDS := Lib.hid (show ∀ W : World, Blk W w.heap.size 48 #[.slice Ab2 nb2 cb2, .slice Al2 nl2 cl2, .int .i64 last2] → RB W Ab2 nb2 cb2 s2.b → DoS w.heap.size Ab2 nb2 cb2 Al2 nl2 cl2 last2 St W from fun W hk hr => hSt ▸ DoS.of hk hr)
  have HFF := HFc
  have HRz := HRc
  have HFN := Lib.hid (show FP (WG g vb2 G) Ab2 nb2 Al2 nl2 ds2 from HFF.out.imp HRz.out fun k hk h => by rw [HF.out]; exact .inl h)
  clear hk2 ho2 hz2 hd2 hSt
  refine wp_region_G (S0 := (DoS w.heap.size Ab2 nb2 cb2 Al2 nl2 cl2 last2 St)) (S1 := (DoS w.heap.size Ab2 nb2 cb2 Al2 nl2 cl2 last2 St)) (c := 99) (by kernel_rfl) ?_
  have hHeld := (HDS.out _ HKc.out HRc.out.b)
  have h01 := (fun (W : World) (h : (DoS w.heap.size Ab2 nb2 cb2 Al2 nl2 cl2 last2 St) W) => h)
  refine wpG_takeB (i := 0) (oi := ⟨some 68, _, _, _, _, _⟩) (v := .agg #[.slice Ab2 nb2 cb2, .slice Al2 nl2 cl2, .int .i64 last2]) rfl (by kernel_rfl) (by kernel_rfl) (by kernel_rfl) (by decide) (fun _ _ _ h => h) h01 rfl hHeld (Or.inl ⟨by rfl, ?_⟩) ?_
  · (intro W9 hSw; obtain ⟨v1, v2, v3, v4⟩ := hSw; go_simp; (try (first | with_reducible rfl | rfl | (simp; done))))
  try simp only [Act.put, List.setIfInBounds_toArray, List.set_cons_zero, List.set_cons_succ]
  refine wpG_takeB (i := 1) (oi := ⟨some 69, _, _, _, _, _⟩) (v := .int .i64 ee) rfl (by kernel_rfl) (by kernel_rfl) (by kernel_rfl) (by decide) (fun _ _ _ h => h) h01 rfl hHeld (Or.inl ⟨by rfl, ?_⟩) ?_
  · (intro W9 hSw; obtain ⟨v1, v2, v3, v4⟩ := hSw; go_simp; (try (first | with_reducible rfl | rfl | (simp; done))))
  try simp only [Act.put, List.setIfInBounds_toArray, List.set_cons_zero, List.set_cons_succ]
  refine wpG_takeB (i := 2) (oi := ⟨some 70, _, _, _, _, _⟩) (v := .int .i64 ee) rfl (by kernel_rfl) (by kernel_rfl) (by kernel_rfl) (by decide) (fun _ _ _ h => h) h01 rfl hHeld (Or.inl ⟨by rfl, ?_⟩) ?_
  · (intro W9 hSw; obtain ⟨v1, v2, v3, v4⟩ := hSw; go_simp; (try (first | with_reducible rfl | rfl | (simp; done))))
  try simp only [Act.put, List.setIfInBounds_toArray, List.set_cons_zero, List.set_cons_succ]
  refine wpG_takeB (i := 3) (oi := ⟨some 71, _, _, _, _, _⟩) (v := .bool true) rfl (by kernel_rfl) (by kernel_rfl) (by kernel_rfl) (by decide) (fun _ _ _ h => h) h01 rfl hHeld (Or.inl ⟨by rfl, ?_⟩) ?_
  · (intro W9 hSw; obtain ⟨v1, v2, v3, v4⟩ := hSw; go_simp; (try (first | with_reducible rfl | rfl | (simp; done))))
  try simp only [Act.put, List.setIfInBounds_toArray, List.set_cons_zero, List.set_cons_succ]
  refine wpG_takeB (i := 4) (oi := ⟨some 72, _, _, _, _, _⟩) (v := .bool true) rfl (by kernel_rfl) (by kernel_rfl) (by kernel_rfl) (by decide) (fun _ _ _ h => h) h01 rfl hHeld (Or.inl ⟨by rfl, ?_⟩) ?_
  · (intro W9 hSw; obtain ⟨v1, v2, v3, v4⟩ := hSw; go_simp; (try (first | with_reducible rfl | rfl | (simp; done))))
  try simp only [Act.put, List.setIfInBounds_toArray, List.set_cons_zero, List.set_cons_succ]
  refine wpG_takeB (i := 5) (oi := ⟨some 73, _, _, _, _, _⟩) (v := .pointer (some ⟨g, 0, none⟩)) rfl (by kernel_rfl) (by kernel_rfl) (by kernel_rfl) (by decide) (fun _ _ _ h => h) h01 rfl hHeld (Or.inl ⟨by rfl, ?_⟩) ?_
  · (intro W9 hSw; obtain ⟨v1, v2, v3, v4⟩ := hSw; go_simp; (try (first | with_reducible rfl | rfl | (simp; done))))
  try simp only [Act.put, List.setIfInBounds_toArray, List.set_cons_zero, List.set_cons_succ]
  refine wpG_takeB (i := 7) (oi := ⟨some 75, _, _, _, _, _⟩) (v := .pointer (some ⟨w.heap.size, 1, none⟩)) rfl (by kernel_rfl) (by kernel_rfl) (by kernel_rfl) (by decide) (fun _ _ _ h => h) h01 rfl hHeld (Or.inl ⟨by rfl, ?_⟩) ?_
  · (intro W9 hSw; obtain ⟨v1, v2, v3, v4⟩ := hSw; go_simp; (try (first | with_reducible rfl | rfl | (simp; done))))
  try simp only [Act.put, List.setIfInBounds_toArray, List.set_cons_zero, List.set_cons_succ]
  refine wpG_takeB (i := 8) (oi := ⟨some 76, _, _, _, _, _⟩) (v := .slice Al2 nl2 cl2) rfl (by kernel_rfl) (by kernel_rfl) (by kernel_rfl) (by decide) (fun _ _ _ h => h) h01 rfl hHeld (Or.inl ⟨by rfl, ?_⟩) ?_
  · (intro W9 hSw; obtain ⟨v1, v2, v3, v4⟩ := hSw; go_simp; (try (first | with_reducible rfl | rfl | (simp; done))))
  try simp only [Act.put, List.setIfInBounds_toArray, List.set_cons_zero, List.set_cons_succ]
  refine wpG_takeB (i := 9) (oi := ⟨some 77, _, _, _, _, _⟩) (v := .int .i64 (nl2 : Int)) rfl (by kernel_rfl) (by kernel_rfl) (by kernel_rfl) (by decide) (fun _ _ _ h => h) h01 rfl hHeld (Or.inl ⟨by rfl, ?_⟩) ?_
  · (intro W9 hSw; obtain ⟨v1, v2, v3, v4⟩ := hSw; go_simp; (try (first | with_reducible rfl | rfl | (simp; done))))
  try simp only [Act.put, List.setIfInBounds_toArray, List.set_cons_zero, List.set_cons_succ]
  refine wpG_oneB (i := 6) (o := ⟨some 74, _, _, _, _, _⟩) (by kernel_rfl) rfl rfl (fun K hK => ?_)
  go_simp
  (with_reducible refine (waiting_any _ _ _ _ _ _ _ HWc.out).mono ?_); rintro e w5 ⟨rfl, b5⟩
  have HKc := Lib.hid (HKc.out.below b5 HKc.out.lt)
  have HZc := Lib.hid (HZc.out.below b5 HZc.out.lt)
  have HRc := Lib.hid (HRc.out.below b5)
  have HOc := Lib.hid (HOc.out.below b5)
  have HWc := Lib.hid (HWc.out.below b5)
  have HBz := Lib.hid (Nat.le_trans HBz.out b5.size)
  clear b5
  rw [HNL.out]
  refine hK.out _ _ (HDS.out _ HKc.out HRc.out.b) (fun hHeld => ?_)
  clear hK K
  try simp only [Act.put, List.setIfInBounds_toArray, List.set_cons_zero, List.set_cons_succ]
  refine wpG_takeB (i := 10) (oi := ⟨some 78, _, _, _, _, _⟩) (v := .bool true) rfl (by kernel_rfl) (by kernel_rfl) (by kernel_rfl) (by decide) (fun _ _ _ h => h) h01 rfl hHeld (Or.inl ⟨by rfl, ?_⟩) ?_
  · (intro W9 hSw; obtain ⟨v1, v2, v3, v4⟩ := hSw; go_simp; (try (first | with_reducible rfl | rfl | (simp; done))))
  try simp only [Act.put, List.setIfInBounds_toArray, List.set_cons_zero, List.set_cons_succ]
  refine wpG_takeB (i := 11) (oi := ⟨some 79, _, _, _, _, _⟩) (v := .bool true) rfl (by kernel_rfl) (by kernel_rfl) (by kernel_rfl) (by decide) (fun _ _ _ h => h) h01 rfl hHeld (Or.inl ⟨by rfl, ?_⟩) ?_
  · (intro W9 hSw; obtain ⟨v1, v2, v3, v4⟩ := hSw; go_simp; (try (first | with_reducible rfl | rfl | (simp; done))))
  try simp only [Act.put, List.setIfInBounds_toArray, List.set_cons_zero, List.set_cons_succ]
  refine wpG_takeB (i := 12) (oi := ⟨some 80, _, _, _, _, _⟩) (v := .bool true) rfl (by kernel_rfl) (by kernel_rfl) (by kernel_rfl) (by decide) (fun _ _ _ h => h) h01 rfl hHeld (Or.inl ⟨by rfl, ?_⟩) ?_
  · (intro W9 hSw; obtain ⟨v1, v2, v3, v4⟩ := hSw; go_simp; (try (first | with_reducible rfl | rfl | (simp; done))))
  try simp only [Act.put, List.setIfInBounds_toArray, List.set_cons_zero, List.set_cons_succ]
  refine wpG_takeB (i := 13) (oi := ⟨some 81, _, _, _, _, _⟩) (v := .pointer (some ⟨g, 0, none⟩)) rfl (by kernel_rfl) (by kernel_rfl) (by kernel_rfl) (by decide) (fun _ _ _ h => h) h01 rfl hHeld (Or.inl ⟨by rfl, ?_⟩) ?_
  · (intro W9 hSw; obtain ⟨v1, v2, v3, v4⟩ := hSw; go_simp; (try (first | with_reducible rfl | rfl | (simp; done))))
  try simp only [Act.put, List.setIfInBounds_toArray, List.set_cons_zero, List.set_cons_succ]
  refine wpG_takeB (i := 16) (oi := ⟨some 84, _, _, _, _, _⟩) (v := .pointer (some ⟨w.heap.size, 0, none⟩)) rfl (by kernel_rfl) (by kernel_rfl) (by kernel_rfl) (by decide) (fun _ _ _ h => h) h01 rfl hHeld (Or.inl ⟨by rfl, ?_⟩) ?_
  · (intro W9 hSw; obtain ⟨v1, v2, v3, v4⟩ := hSw; go_simp; (try (first | with_reducible rfl | rfl | (simp; done))))
  try simp only [Act.put, List.setIfInBounds_toArray, List.set_cons_zero, List.set_cons_succ]
  refine wpG_takeB (i := 17) (oi := ⟨some 85, _, _, _, _, _⟩) (v := .slice Ab2 nb2 cb2) rfl (by kernel_rfl) (by kernel_rfl) (by kernel_rfl) (by decide) (fun _ _ _ h => h) h01 rfl hHeld (Or.inl ⟨by rfl, ?_⟩) ?_
  · (intro W9 hSw; obtain ⟨v1, v2, v3, v4⟩ := hSw; go_simp; (try (first | with_reducible rfl | rfl | (simp; done))))
  try simp only [Act.put, List.setIfInBounds_toArray, List.set_cons_zero, List.set_cons_succ]
  refine wpG_takeB (i := 18) (oi := ⟨some 86, _, _, _, _, _⟩) (v := .string St) rfl (by kernel_rfl) (by kernel_rfl) (by kernel_rfl) (by decide) (fun _ _ _ h => h) h01 rfl hHeld (Or.inl ⟨by rfl, ?_⟩) ?_
  · (intro W9 hSw; obtain ⟨v1, v2, v3, v4⟩ := hSw; go_simp; (try (first | with_reducible rfl | rfl | (simp; done))))
  try simp only [Act.put, List.setIfInBounds_toArray, List.set_cons_zero, List.set_cons_succ]
  refine wpG_oneB (i := 14) (o := ⟨some 82, _, _, _, _, _⟩) (by kernel_rfl) rfl rfl (fun K hK => ?_)
  go_simp
  (with_reducible refine (bytes_any _ _ _ _ _ _ _ HWc.out HL2.out).mono ?_); rintro e w6 ⟨v6, rfl, ho6, b6⟩
  obtain ⟨A6, c6, rfl, -⟩ := own_form ho6
  have HO6 := Lib.hid ho6
  have HKc := Lib.hid (HKc.out.below b6 HKc.out.lt)
  have HZc := Lib.hid (HZc.out.below b6 HZc.out.lt)
  have HRc := Lib.hid (HRc.out.below b6)
  have HOc := Lib.hid (HOc.out.below b6)
  have HWc := Lib.hid (HWc.out.below b6)
  have HBz := Lib.hid (Nat.le_trans HBz.out b6.size)
  clear ho6 b6
  refine hK.out _ _ (HDS.out _ HKc.out HRc.out.b) (fun hHeld => ?_)
  clear hK K
  try simp only [Act.put, List.setIfInBounds_toArray, List.set_cons_zero, List.set_cons_succ]
  refine wpG_twoB (i := 15) (j := 21) (oi := ⟨some 83, _, _, _, _, _⟩) (oj := ⟨none, _, _, _, _, _⟩) (by kernel_rfl) rfl rfl rfl rfl (fun K hK => ?_) (fun K hK => ?_)
  · have s7 := conv_RB (own_RB3 HO6.out)
    rw [HST.out] at s7
    go_simp
    clear s7
    refine hK.out _ _ (HDS.out _ HKc.out HRc.out.b) (fun hHeld => ?_)
    clear hK K
    try simp only [Act.put, List.setIfInBounds_toArray, List.set_cons_zero, List.set_cons_succ]
    refine wpG_takeB (i := 19) (oi := ⟨some 87, _, _, _, _, _⟩) (v := .bool true) rfl (by kernel_rfl) (by kernel_rfl) (by kernel_rfl) (by decide) (fun _ _ _ h => h) h01 rfl hHeld (Or.inl ⟨by rfl, ?_⟩) ?_
    · (intro W9 hSw; obtain ⟨v1, v2, v3, v4⟩ := hSw; go_simp; (try (first | with_reducible rfl | rfl | (simp; done))))
    try simp only [Act.put, List.setIfInBounds_toArray, List.set_cons_zero, List.set_cons_succ]
    refine wpG_takeB (i := 20) (oi := ⟨some 88, _, _, _, _, _⟩) (v := .bool true) rfl (by kernel_rfl) (by kernel_rfl) (by kernel_rfl) (by decide) (fun _ _ _ h => h) h01 rfl hHeld (Or.inl ⟨by rfl, ?_⟩) ?_
    · (intro W9 hSw; obtain ⟨v1, v2, v3, v4⟩ := hSw; go_simp; (try (first | with_reducible rfl | rfl | (simp; done))))
    try simp only [Act.put, List.setIfInBounds_toArray, List.set_cons_zero, List.set_cons_succ]
    refine wpG_oneB (i := 21) (o := ⟨none, _, _, _, _, _⟩) (by kernel_rfl) rfl rfl (fun K hK => ?_)
    have z0 := HZc.out.cell 0
    have z1 := HZc.out.cell 1
    have z2 := HZc.out.cell 2
    simp at z0 z1 z2
    have f0 := HZc.out.frozen 0
    have f1 := HZc.out.frozen 1
    have f2 := HZc.out.frozen 2
    go_simp
    obtain ⟨hz9, ho9⟩ := st3 (x := .slice Ab2 nb2 cb2) (y := .slice Al2 nl2 cl2) (z := .int .i64 last2) HZc.out
    have HKc := Lib.hid (HKc.out.only ho9 (by omega))
    have HRc := Lib.hid (HRc.out.only HFF.out ho9 fun k hk _ => by rw [HF.out]; exact .inr (.inr hk))
    have HO6 := Lib.hid (own_only HO6.out ho9 fun k hk e => own_neP HO6.out HZc.out (by decide) (e ▸ hk))
    have HOc := Lib.hid (HOc.out.trans ho9 fun b hb e => by omega)
    have HWc := Lib.hid (HWc.out.only ho9 fun k hk e => by have h1 := HWKb.out k (by omega) hk; have := HWlt.out k h1; omega)
    have HZ9 := Lib.hid hz9
    clear z0 z1 z2 f0 f1 f2 hz9 ho9
    refine hK.out _ _ (HDS.out _ HKc.out HRc.out.b) (fun hHeld => ?_)
    clear hK K
    try simp only [Act.put, List.setIfInBounds_toArray, List.set_cons_zero, List.set_cons_succ]
    refine wpG_takeB (i := 22) (oi := ⟨some 7, _, _, _, _, _⟩) (v := .bool true) rfl (by kernel_rfl) (by kernel_rfl) (by kernel_rfl) (by decide) (fun _ _ _ h => h) h01 rfl hHeld (Or.inl ⟨by rfl, ?_⟩) ?_
    · (intro W9 hSw; obtain ⟨v1, v2, v3, v4⟩ := hSw; go_simp; (try (first | with_reducible rfl | rfl | (simp; done))))
    try simp only [Act.put, List.setIfInBounds_toArray, List.set_cons_zero, List.set_cons_succ]
    refine wpG_done (by kernel_rfl) ?_ _
    go_wp2_with fail
    refine bodyPost_ret (v := .tuple #[refV Ab2 nb2 cb2 Al2 nl2 cl2 last2, .bool true]) (results_row_tmp (p := 6) (u := 7) (ty := 48) rfl _ _ (w.heap.size + 1 + 1) 48 _ _ rfl HZ9.out Try.underlying48 rfl (by kernel_rfl)) rfl ?_
    exact ⟨_, vb2, vl2, dsw2, rfl, HWc.out, ⟨Ab2, nb2, cb2, Al2, nl2, cl2, ds2, by rw [HLA.out], HRc.out, HFN.out⟩, HOc.out, HAT.out, fun k hk h => HWKb.out k (by omega) h⟩
  · have z0 := HZc.out.cell 0
    have z1 := HZc.out.cell 1
    have z2 := HZc.out.cell 2
    simp at z0 z1 z2
    have f0 := HZc.out.frozen 0
    have f1 := HZc.out.frozen 1
    have f2 := HZc.out.frozen 2
    go_simp
    obtain ⟨hz9, ho9⟩ := st3 (x := .slice Ab2 nb2 cb2) (y := .slice Al2 nl2 cl2) (z := .int .i64 last2) HZc.out
    have HKc := Lib.hid (HKc.out.only ho9 (by omega))
    have HRc := Lib.hid (HRc.out.only HFF.out ho9 fun k hk _ => by rw [HF.out]; exact .inr (.inr hk))
    have HO6 := Lib.hid (own_only HO6.out ho9 fun k hk e => own_neP HO6.out HZc.out (by decide) (e ▸ hk))
    have HOc := Lib.hid (HOc.out.trans ho9 fun b hb e => by omega)
    have HWc := Lib.hid (HWc.out.only ho9 fun k hk e => by have h1 := HWKb.out k (by omega) hk; have := HWlt.out k h1; omega)
    have HZ9 := Lib.hid hz9
    clear z0 z1 z2 f0 f1 f2 hz9 ho9
    refine hK.out _ _ (HDS.out _ HKc.out HRc.out.b) (fun hHeld => ?_)
    clear hK K
    try simp only [Act.put, List.setIfInBounds_toArray, List.set_cons_zero, List.set_cons_succ]
    refine wpG_oneB (i := 15) (o := ⟨some 83, _, _, _, _, _⟩) (by kernel_rfl) rfl rfl (fun K hK => ?_)
    have s7 := conv_RB (own_RB3 HO6.out)
    rw [HST.out] at s7
    go_simp
    clear s7
    refine hK.out _ _ (HDS.out _ HKc.out HRc.out.b) (fun hHeld => ?_)
    clear hK K
    try simp only [Act.put, List.setIfInBounds_toArray, List.set_cons_zero, List.set_cons_succ]
    refine wpG_takeB (i := 19) (oi := ⟨some 87, _, _, _, _, _⟩) (v := .bool true) rfl (by kernel_rfl) (by kernel_rfl) (by kernel_rfl) (by decide) (fun _ _ _ h => h) h01 rfl hHeld (Or.inl ⟨by rfl, ?_⟩) ?_
    · (intro W9 hSw; obtain ⟨v1, v2, v3, v4⟩ := hSw; go_simp; (try (first | with_reducible rfl | rfl | (simp; done))))
    try simp only [Act.put, List.setIfInBounds_toArray, List.set_cons_zero, List.set_cons_succ]
    refine wpG_takeB (i := 20) (oi := ⟨some 88, _, _, _, _, _⟩) (v := .bool true) rfl (by kernel_rfl) (by kernel_rfl) (by kernel_rfl) (by decide) (fun _ _ _ h => h) h01 rfl hHeld (Or.inl ⟨by rfl, ?_⟩) ?_
    · (intro W9 hSw; obtain ⟨v1, v2, v3, v4⟩ := hSw; go_simp; (try (first | with_reducible rfl | rfl | (simp; done))))
    try simp only [Act.put, List.setIfInBounds_toArray, List.set_cons_zero, List.set_cons_succ]
    refine wpG_takeB (i := 22) (oi := ⟨some 7, _, _, _, _, _⟩) (v := .bool true) rfl (by kernel_rfl) (by kernel_rfl) (by kernel_rfl) (by decide) (fun _ _ _ h => h) h01 rfl hHeld (Or.inl ⟨by rfl, ?_⟩) ?_
    · (intro W9 hSw; obtain ⟨v1, v2, v3, v4⟩ := hSw; go_simp; (try (first | with_reducible rfl | rfl | (simp; done))))
    try simp only [Act.put, List.setIfInBounds_toArray, List.set_cons_zero, List.set_cons_succ]
    refine wpG_done (by kernel_rfl) ?_ _
    go_wp2_with fail
    refine bodyPost_ret (v := .tuple #[refV Ab2 nb2 cb2 Al2 nl2 cl2 last2, .bool true]) (results_row_tmp (p := 6) (u := 7) (ty := 48) rfl _ _ (w.heap.size + 1 + 1) 48 _ _ rfl HZ9.out Try.underlying48 rfl (by kernel_rfl)) rfl ?_
    exact ⟨_, vb2, vl2, dsw2, rfl, HWc.out, ⟨Ab2, nb2, cb2, Al2, nl2, cl2, ds2, by rw [HLA.out], HRc.out, HFN.out⟩, HOc.out, HAT.out, fun k hk h => HWKb.out k (by omega) h⟩
end Go.Proofs.Ytgbkoegmoelheaa
