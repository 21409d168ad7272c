/- A writer's state; clones of packets; write, Close, Bytes, Waiting. -/
import Derived.Test.YtgbkoegmoelheaaCm
namespace Go.Proofs.Ytgbkoegmoelheaa
open Go.RowKit
set_option linter.unusedVariables false
set_option linter.unusedSimpArgs false

theorem cells_one (ds : List Pd) : ∀ u ∈ ds.flatMap Pd.cells, u.oneCell' = true := by
  intro u hu
  obtain ⟨p, _, hp⟩ := List.mem_flatMap.1 hu
  simp only [Pd.cells, List.mem_cons, List.not_mem_nil, or_false] at hp
  rcases hp with rfl | rfl | rfl <;> rfl
theorem own_none00S (w : World) (e : TypeId) (size : Nat) : (w.alloc (.cells #[] e)).ownsRow w.heap.size e size (.slice (some ⟨w.heap.size, 0, none⟩) 0 0) 0 [] := World.ownsRow_made w #[] 0 (Nat.le_refl _) (by decide) (by simp)
theorem HoldsS.alloc {w : World} {size m : Nat} {A : Option Addr} {xs : List Value} (h : HoldsS w size A m xs) (o : Obj) : HoldsS (w.alloc o) size A m xs := h.keep ((Below.refl _ w).alloc (Nat.le_refl _) o)

set_option maxRecDepth 100000 in
set_option maxHeartbeats 1000000 in
theorem clonep_any (A : Option Addr) (n c : Nat) (ds : List Pd) (w : World) (h : PL w A n c ds) (hn : n ≤ 100000) :
    Calls Try.prog 50 #[.slice A n c] w fun e w' => ∃ v, e = .returned v ∧ w'.ownsRow w.heap.size 31 3 v ds.length (ds.flatMap Pd.cells) ∧ Below w.heap.size w w' := by
  have hc := h.z
  have hl := h.len
  cases A with
  | none =>
    have h0 : n = 0 := h.h.2.1 rfl
    subst h0
    obtain rfl : ds = [] := List.eq_nil_of_length_eq_zero hl
    obtain rfl := hc rfl
    have hnil : ∀ W : World, (binOp .eql 22 (.slice none 0 0) (.slice none 0 0)).run Try.prog W = .ok (.bool true) W := fun W => by kernel_rfl
    clear h hc hl
    go_enter Try.func50, Try.ntmps50
    go_wp2_with fail
    go_ret
    exact ⟨_, rfl, World.ownsRow_nil _ _ 31 3, Below.refl _ _⟩
  | some a =>
    have HS := Lib.hid h.h
    have HL := Lib.hid hl
    have H1 := Lib.hid (cells_one ds)
    have HN := Lib.hid hn
    have hnil := Lib.run_eql_slice_nil (P := Try.prog) w 22 31 (some a) n c 0 0 Try.underlying22
    simp at hnil
    clear h hn hc hl
    go_enter Try.func50, Try.ntmps50
    go_wp2_with (at_builtin; go_must (refine wpList_app_sz (base := w.heap.size) (n := 0) (m := n) (xs := []) (news := ds.flatMap Pd.cells) rfl (.tmp 5) (.tmp 6) 22 rfl elP rfl (own_none00S w 31 3) rfl (HS.out.alloc _) H1.out (by have := HN.out; unfold maxLen; omega) (by have := HN.out; omega) (by simp) (by simp) ?_; intro v1 w1 hown hg; rw [Nat.zero_add, List.nil_append] at hown; have HO := Lib.hid hown; have HB := Lib.hid (below_own ((Below.refl w.heap.size w).alloc (Nat.le_refl _) _) (by simp) (own_none00S w 31 3) hg); clear hown hg))
    go_ret
    exact ⟨v1, rfl, HL.out ▸ HO.out, HB.out⟩

/-- A writer as the document has it. -/
structure StP where
  b : List UInt8
  l : List Pk
  last : Int
def closeP (s : StP) : StP := if s.l = [] then s else ⟨s.b ++ encB s.l, [], s.last⟩
def addP (s : StP) (p : Pk) : StP × Int :=
  if validP p = true then
    if p.t < s.last then (s, 8)
    else if fitsP (s.l ++ [p]) = true then (⟨s.b, s.l ++ [p], p.t⟩, 0) else (⟨(closeP s).b, [p], p.t⟩, 0)
  else (s, 2)
structure OkP (s : StP) : Prop where
  v : ∀ p ∈ s.l, validP p = true
  f : s.l ≠ [] → fitsP s.l = true
  t0 : 0 ≤ s.last
  t1 : s.last ≤ 1099511627776
theorem encB_length (l : List Pk) : (encB l).length = padN (7 + sizeP l) + 4 := by
  have h0 : (headP l).length = 7 + sizeP l := by simp [headP, magicB, be_length, bodyP_length]; omega
  have h1 : 7 + sizeP l ≤ padN (7 + sizeP l) := by unfold padN; omega
  simp only [encB, preP, List.length_append, List.length_replicate, be_length, h0]
  omega
theorem fitsP_iff {l : List Pk} : fitsP l = true ↔ 1 ≤ l.length ∧ l.length ≤ 64 ∧ sizeP l ≤ 8192 ∧ ordP l = true := by simp [fitsP]
theorem encB_le {l : List Pk} (h : fitsP l = true) : (encB l).length ≤ 8206 := by
  have := fitsP_iff.1 h
  rw [encB_length]
  unfold padN
  omega
theorem closeP_ok {s : StP} (h : OkP s) : OkP (closeP s) := by
  unfold closeP
  split
  · exact h
  · exact ⟨fun p hp => by simp at hp, fun h => absurd rfl h, h.t0, h.t1⟩
theorem closeP_l (s : StP) : (closeP s).l = [] := by
  unfold closeP
  split
  · assumption
  · rfl
theorem closeP_last (s : StP) : (closeP s).last = s.last := by unfold closeP; split <;> rfl
theorem closeP_len {s : StP} (h : OkP s) : (closeP s).b.length ≤ s.b.length + 8206 := by
  unfold closeP
  split
  · omega
  · rename_i hl
    have := encB_le (h.f hl)
    simp only [List.length_append]
    omega
theorem fits_one {p : Pk} (h : validP p = true) : fitsP [p] = true := by
  have := validP_iff.1 h
  rw [fitsP_iff]
  refine ⟨by simp, by simp, ?_, rfl⟩
  simp [sizeP]
  omega
theorem addP_ok {s : StP} (h : OkP s) (p : Pk) : OkP (addP s p).1 := by
  unfold addP
  split
  · rename_i hv
    have hv2 := validP_iff.1 hv
    split
    · exact h
    · split
      · rename_i hf
        refine ⟨fun q hq => ?_, fun _ => hf, hv2.1, hv2.2.1⟩
        rcases List.mem_append.1 hq with h1 | h1
        · exact h.v q h1
        · rw [List.mem_singleton.1 h1]; exact hv
      · exact ⟨fun q hq => by rw [List.mem_singleton.1 hq]; exact hv, fun _ => fits_one hv, hv2.1, hv2.2.1⟩
  · exact h
theorem addP_len {s : StP} (h : OkP s) (p : Pk) : (addP s p).1.b.length ≤ s.b.length + 8206 := by
  unfold addP
  split
  · split
    · simp
    · split
      · simp
      · exact closeP_len h
  · simp

/-- A writer's state. -/
structure WS (w : World) (B g : Nat) (vb vl : Value) (ds : List Pd) (s : StP) : Prop where
  blk : Blk w g 46 #[vb, vl, .int .i64 s.last]
  own : w.ownsRow B 5 1 vb s.b.length (s.b.map u8)
  po : PO B w vl ds
  eq : pks ds = s.l
  base : B ≤ w.heap.size
  gB : B ≤ g
  sep : ∀ p ∈ ds, ∀ j, vb.ownBlock = some j → p.data.ownBlock ≠ some j
  ok : OkP s
/-- What a call may turn. -/
def WF (g : Nat) (vb : Value) (k : Nat) : Prop := k = g ∨ vb.ownBlock = some k
/-- What it owns. -/
def WK (g : Nat) (vb vl : Value) (ds : List Pd) (k : Nat) : Prop := WF g vb k ∨ vl.ownBlock = some k ∨ ∃ p ∈ ds, p.data.ownBlock = some k
section
variable {w w' : World} {B g : Nat} {vb vl : Value} {ds : List Pd} {s : StP}
theorem WS.only {p : Nat → Prop} (h : WS w B g vb vl ds s) (ho : Only p w w') (hp : ∀ k, WK g vb vl ds k → ¬ p k) : WS w' B g vb vl ds s :=
  ⟨h.blk.only ho (hp _ (.inl (.inl rfl))), own_only h.own ho fun k hk => hp _ (.inl (.inr hk)), ⟨own_only h.po.own ho fun k hk => hp _ (.inr (.inl hk)), fun q hq => own_only (h.po.data q hq) ho fun k hk => hp _ (.inr (.inr ⟨q, hq, hk⟩)), h.po.rng⟩, h.eq, Nat.le_trans h.base ho.size, h.gB, h.sep, h.ok⟩
theorem WS.below (h : WS w B g vb vl ds s) (hb : Below w.heap.size w w') : WS w' B g vb vl ds s := h.only (Only.of_below (p := fun _ => False) hb) fun _ _ x => x
theorem WS.lt (h : WS w B g vb vl ds s) : ∀ k, WK g vb vl ds k → k < w.heap.size := fun k hk => by
  rcases hk with (rfl | hk) | hk | ⟨q, hq, hk⟩
  · exact h.blk.lt
  · exact own_lt h.own k hk
  · exact own_lt h.po.own k hk
  · exact own_lt (h.po.data q hq) k hk
theorem WS.ge (h : WS w B g vb vl ds s) : ∀ k, WK g vb vl ds k → B ≤ k := fun k hk => by
  rcases hk with (rfl | hk) | hk | ⟨q, hq, hk⟩
  · exact h.gB
  · exact (h.own.lt k hk).1
  · exact (h.po.own.lt k hk).1
  · exact ((h.po.data q hq).lt k hk).1
theorem WS.len (h : WS w B g vb vl ds s) : ds.length = s.l.length := by rw [← h.eq]; simp [pks]
theorem WS.valid (h : WS w B g vb vl ds s) : badAt ds = false := by
  unfold badAt
  rw [List.any_eq_false]
  intro p hp
  have := h.ok.v p.pk (by rw [← h.eq]; exact List.mem_map.2 ⟨p, hp, rfl⟩)
  simp [this]
theorem WS.n64 (h : WS w B g vb vl ds s) : ds.length ≤ 64 := by
  rw [h.len]
  by_cases h0 : s.l = []
  · rw [h0]; simp
  · exact (fitsP_iff.1 (h.ok.f h0)).2.1
end
/-- A row of packets does not lie in a block of other cells. -/
theorem own_neP {w : World} {B n g sz : Nat} {e t : TypeId} {v : Value} {xs : List Value} {cs : Array Value} (h : w.ownsRow B e sz v n xs) (hg : Blk w g t cs) (ht : t ≠ e) : v.ownBlock ≠ some g := by
  rcases h.2 with ⟨rfl, _⟩ | ⟨g', cap, cur, rfl, _, hh, _⟩
  · simp [Value.ownBlock]
  · intro he
    have hgg : g' = g := by simpa [Value.ownBlock] using he
    subst hgg
    have hq : Blk w g' e cur := hh
    unfold Blk at hq hg
    rw [hq] at hg
    injection hg with hg
    injection hg with _ ht2
    exact ht ht2.symm
/-- What write leaves. -/
structure WrR (w w' : World) (B g : Nat) (vb x y : Value) (bs : List UInt8) (vb2 : Value) : Prop where
  blk : Blk w' g 46 #[vb2, x, y]
  own : w'.ownsRow B 5 1 vb2 bs.length (bs.map u8)
  only : Only (WF g vb) w w'
  hat : Hat vb vb2 w

set_option maxRecDepth 100000 in
set_option maxHeartbeats 1000000 in
theorem write_any (A : Option Addr) (n c : Nat) (ds : List Pd) (w : World) (B g : Nat) (vb x y : Value) (bs : List UInt8) (h : PL w A n c ds) (hbad : badAt ds = false) (hfit : fitsP (pks ds) = true) (hg : Blk w g 46 #[vb, x, y]) (ho : w.ownsRow B 5 1 vb bs.length (bs.map u8)) (hB : B ≤ w.heap.size) (hl : bs.length ≤ 3000000) :
    Calls Try.prog 48 #[.pointer (some ⟨g, 0, none⟩), .slice A n c] w fun e w' => ∃ vb2, e = .returned (.tuple #[]) ∧ WrR w w' B g vb x y (bs ++ encB (pks ds)) vb2 := by
  have C11 := Lib.hid (blockB_yes A n c ds w h hbad hfit)
  have HEL := Lib.hid (encB_le hfit)
  obtain ⟨E, hE⟩ : ∃ E, encB (pks ds) = E := ⟨_, rfl⟩
  rw [hE] at C11 HEL ⊢
  have HG := Lib.hid hg
  have HO := Lib.hid ho
  have HB0 := Lib.hid hB
  have HL := Lib.hid hl
  clear h hbad hfit hg ho hB hl hE
  go_enter Try.func48, Try.ntmps48
  go_wp2_with (go_at_call 11; (with_reducible refine C11.out.mono ?_); rintro e w1 ⟨v1, rfl, o1, b1⟩; have HO1 := Lib.hid o1; have HB1 := Lib.hid b1; clear o1 b1; refine Hid.out ?_)
  refine Lib.hid ?_
  obtain ⟨A1, c1, rfl, h1m, h1c, h1z, h1h⟩ := own_form HO1.out
  have HG1 := Lib.hid (HG.out.below HB1.out HG.out.lt)
  have HOV := Lib.hid (own_keeps HO.out fun k hk => HB1.out.block k (own_lt HO.out k hk))
  have kq := HG1.out.cell 0
  simp at kq
  have kz := HG1.out.frozen 0
  clear h1m h1c h1z h1h
  have HS1 := Lib.hid (holds_own HO1.out)
  go_wp2_with (at_builtin; go_must (refine wpList_app_own (base := B) (n := bs.length) (m := E.length) (xs := bs.map Go.Proofs.Ytgbkoegmoelheaa.u8) (news := E.map Go.Proofs.Ytgbkoegmoelheaa.u8) rfl (.tmp 15) (.tmp 16) 23 rfl el22 rfl HOV.out rfl HS1.out (u8_one _) (by have := HL.out; have := HEL.out; unfold maxLen; omega) (by have := HL.out; have := HEL.out; omega) (by have := HB1.out.size; have := HB0.out; omega) ?_; intro v2 w2 hown hg hat; obtain ⟨A2, c2, rfl, -⟩ := own_form hown; have HO2 := Lib.hid hown; have HGR := Lib.hid hg; have HAT := Lib.hid hat; have HG2 := Lib.hid (HG1.out.grown hg (fun e => own_ne HOV.out HG1.out (by decide) e.symm)); clear hown hg hat; clear kq kz; have kq := HG2.out.cell 0; simp at kq; have kz := HG2.out.frozen 0))
  obtain ⟨V2, hV2⟩ : ∃ V2, Value.slice A2 (bs.length + E.length) c2 = V2 := ⟨_, rfl⟩
  rw [hV2] at HO2 HAT ⊢
  have hon2 : Only (WF g vb) w1 w2 := (Only.refl (WF g vb) w1).grown HGR.out fun k hk _ => .inr hk
  have hon : Only (WF g vb) w (w2.setCell ⟨g, 0, none⟩ V2) := Only.set (Only.after HB1.out hon2) (fun _ => .inl rfl) 0 V2
  have hbk := HG2.out.set_ 0 V2
  simp only [List.setIfInBounds_toArray, List.set_cons_zero] at hbk
  have hne : V2.ownBlock ≠ some g := own_ne HO2.out HG2.out (by decide)
  have hfin : WrR w (w2.setCell ⟨g, 0, none⟩ V2) B g vb x y (bs ++ E) V2 := ⟨hbk, own_setCell (by simpa using HO2.out) hne V2, hon, by
    rcases HAT.out with e | e
    · exact .inl e
    · exact .inr fun j hj => by rw [e] at hj; cases hj; exact HB1.out.size⟩
  first | (go_end0; exact ⟨V2, rfl, hfin⟩) | exact ⟨V2, rfl, hfin⟩

/-- What Close and Add leave. -/
def StepW (w w' : World) (B g : Nat) (vb vl : Value) (ds : List Pd) (s2 : StP) : Prop :=
  ∃ vb2 vl2 ds2, WS w' B g vb2 vl2 ds2 s2 ∧ Only (WF g vb) w w' ∧ Hat vb vb2 w ∧ ∀ k, k < w.heap.size → WK g vb2 vl2 ds2 k → WK g vb vl ds k
/-- Three cells of a writer. -/
def WCel (g : Nat) (vb vl : Value) (last : Int) (W : World) : Prop := (∃ u, W.cell? ⟨g, 0, none⟩ = some u) ∧ W.cell? ⟨g, 1, none⟩ = some vl ∧ W.cell? ⟨g, 2, none⟩ = some (.int .i64 last)

set_option maxRecDepth 100000 in
theorem close_nil (w : World) : Calls Try.prog 21 #[.pointer none] w fun e w' => e = .returned (.int .i64 1) ∧ Below w.heap.size w w' := by
  go_enter Try.func21, Try.ntmps21
  go_wp2_with fail
  go_ret
  exact ⟨rfl, Below.refl _ _⟩

set_option maxRecDepth 100000 in
set_option maxHeartbeats 1000000 in
theorem close_any (w : World) (B g : Nat) (vb vl : Value) (ds : List Pd) (s : StP) (h : WS w B g vb vl ds s) (hl : s.b.length ≤ 3000000) :
    Calls Try.prog 21 #[.pointer (some ⟨g, 0, none⟩)] w fun e w' => e = .returned (.int .i64 0) ∧ StepW w w' B g vb vl ds (closeP s) := by
  have H := Lib.hid h
  obtain ⟨A, c, hv⟩ := h.po.form
  obtain ⟨n, hnn⟩ : ∃ n, ds.length = n := ⟨_, rfl⟩
  rw [hnn] at hv
  subst hv
  have kq := h.blk.cell 1
  simp at kq
  have kz := h.blk.frozen 1
  by_cases hd : ds = []
  · obtain rfl : n = 0 := by rw [← hnn, hd]; rfl
    subst hd
    have hs : s.l = [] := h.eq.symm
    clear h hl
    have q0 : decide ((0 : Int) < ((0 : Nat) : Int)) = false := rfl
    go_enter Try.func21, Try.ntmps21
    go_wp2_with fail
    go_ret
    have h := H.out
    have hon : Only (fun k => k = g) w (w.setCell ⟨g, 1, none⟩ (.slice none 0 0)) := Only.set (p := fun k => k = g) (Only.refl _ w) (fun _ => rfl) 1 _
    have hbk := h.blk.set_ 1 (.slice none 0 0)
    simp only [List.setIfInBounds_toArray, List.set_cons_zero, List.set_cons_succ] at hbk
    have hcl : closeP s = s := by unfold closeP; rw [if_pos hs]
    rw [hcl]
    refine ⟨rfl, vb, _, [], ⟨hbk, own_only h.own hon fun k hk e => own_ne h.own h.blk (by decide) (e ▸ hk), PO.nil _ _, h.eq, Nat.le_trans h.base hon.size, h.gB, (fun p hp => by cases hp), h.ok⟩, hon.mono fun k _ e => .inl e, Hat.refl _ _, fun k _ hk => ?_⟩
    rcases hk with hk | hk | ⟨p, hp, _⟩
    · exact .inl hk
    · cases hk
    · cases hp
  · have hs : s.l ≠ [] := fun e => hd (by have := h.len; rw [e] at this; exact List.eq_nil_of_length_eq_zero this)
    have hn1 : (0 : Int) < (n : Int) := by have : ds.length ≠ 0 := fun e => hd (List.eq_nil_of_length_eq_zero e); omega
    have hfit : fitsP (pks ds) = true := by rw [h.eq]; exact h.ok.f hs
    have HPO := Lib.hid h.po
    have C48 := write_any A n c ds w.drew B g vb (.slice A n c) (.int .i64 s.last) s.b (h.po.pl.below (below_drew (Below.refl _ w))) h.valid hfit h.blk h.own h.base hl
    rw [h.eq] at C48
    have C48 := Lib.hid C48
    have HCL := Lib.hid (show closeP s = ⟨s.b ++ encB s.l, [], s.last⟩ by unfold closeP; rw [if_neg hs])
    have HCEL : WCel g vb (.slice A n c) s.last w.drew := by
      have k0 := h.blk.cell 0
      have k1 := h.blk.cell 1
      have k2 := h.blk.cell 2
      simp at k0 k1 k2
      exact ⟨⟨_, k0⟩, k1, k2⟩
    have HOK := Lib.hid (closeP_ok h.ok)
    have q0 : decide ((0 : Int) < (n : Int)) = true := decide_eq_true hn1
    clear h hl hd hs hfit hnn
    go_enter Try.func21, Try.ntmps21
    go_upto_region 4 with fail
    clear kq kz
    clear hn1 q0
    refine wp_region_G (S0 := (WCel g vb (.slice A n c) s.last)) (S1 := (WCel g vb (.slice A n c) s.last)) (c := 99) (by kernel_rfl) ?_
    have hHeld := HCEL
    have h01 := (fun (W : World) (h : (WCel g vb (.slice A n c) s.last) W) => h)
    refine wpG_takeB (i := 0) (oi := ⟨some 11, _, _, _, _, _⟩) (v := .pointer (some ⟨g, 0, none⟩)) rfl (by kernel_rfl) (by kernel_rfl) (by kernel_rfl) (by decide) (fun _ _ _ h => h) h01 rfl hHeld (Or.inl ⟨by rfl, ?_⟩) ?_
    · (intro W9 hSw; obtain ⟨-, v1, v2⟩ := hSw; go_simp; (try (first | with_reducible rfl | rfl | (simp; done))))
    try simp only [Act.put, List.setIfInBounds_toArray, List.set_cons_zero, List.set_cons_succ]
    refine wpG_takeB (i := 1) (oi := ⟨some 12, _, _, _, _, _⟩) (v := .pointer (some ⟨g, 0, none⟩)) rfl (by kernel_rfl) (by kernel_rfl) (by kernel_rfl) (by decide) (fun _ _ _ h => h) h01 rfl hHeld (Or.inl ⟨by rfl, ?_⟩) ?_
    · (intro W9 hSw; obtain ⟨-, v1, v2⟩ := hSw; go_simp; (try (first | with_reducible rfl | rfl | (simp; done))))
    try simp only [Act.put, List.setIfInBounds_toArray, List.set_cons_zero, List.set_cons_succ]
    refine wpG_takeB (i := 2) (oi := ⟨some 13, _, _, _, _, _⟩) (v := .pointer (some ⟨g, 0, none⟩)) rfl (by kernel_rfl) (by kernel_rfl) (by kernel_rfl) (by decide) (fun _ _ _ h => h) h01 rfl hHeld (Or.inl ⟨by rfl, ?_⟩) ?_
    · (intro W9 hSw; obtain ⟨-, v1, v2⟩ := hSw; go_simp; (try (first | with_reducible rfl | rfl | (simp; done))))
    try simp only [Act.put, List.setIfInBounds_toArray, List.set_cons_zero, List.set_cons_succ]
    refine wpG_takeB (i := 3) (oi := ⟨some 14, _, _, _, _, _⟩) (v := .pointer (some ⟨g, 0, none⟩)) rfl (by kernel_rfl) (by kernel_rfl) (by kernel_rfl) (by decide) (fun _ _ _ h => h) h01 rfl hHeld (Or.inl ⟨by rfl, ?_⟩) ?_
    · (intro W9 hSw; obtain ⟨-, v1, v2⟩ := hSw; go_simp; (try (first | with_reducible rfl | rfl | (simp; done))))
    try simp only [Act.put, List.setIfInBounds_toArray, List.set_cons_zero, List.set_cons_succ]
    refine wpG_takeB (i := 4) (oi := ⟨some 15, _, _, _, _, _⟩) (v := .pointer (some ⟨g, 0, none⟩)) rfl (by kernel_rfl) (by kernel_rfl) (by kernel_rfl) (by decide) (fun _ _ _ h => h) h01 rfl hHeld (Or.inl ⟨by rfl, ?_⟩) ?_
    · (intro W9 hSw; obtain ⟨-, v1, v2⟩ := hSw; go_simp; (try (first | with_reducible rfl | rfl | (simp; done))))
    try simp only [Act.put, List.setIfInBounds_toArray, List.set_cons_zero, List.set_cons_succ]
    refine wpG_takeB (i := 5) (oi := ⟨some 16, _, _, _, _, _⟩) (v := .pointer (some ⟨g, 1, none⟩)) rfl (by kernel_rfl) (by kernel_rfl) (by kernel_rfl) (by decide) (fun _ _ _ h => h) h01 rfl hHeld (Or.inl ⟨by rfl, ?_⟩) ?_
    · (intro W9 hSw; obtain ⟨-, v1, v2⟩ := hSw; go_simp; (try (first | with_reducible rfl | rfl | (simp; done))))
    try simp only [Act.put, List.setIfInBounds_toArray, List.set_cons_zero, List.set_cons_succ]
    refine wpG_takeB (i := 6) (oi := ⟨some 17, _, _, _, _, _⟩) (v := .slice A n c) rfl (by kernel_rfl) (by kernel_rfl) (by kernel_rfl) (by decide) (fun _ _ _ h => h) h01 rfl hHeld (Or.inl ⟨by rfl, ?_⟩) ?_
    · (intro W9 hSw; obtain ⟨-, v1, v2⟩ := hSw; go_simp; (try (first | with_reducible rfl | rfl | (simp; done))))
    try simp only [Act.put, List.setIfInBounds_toArray, List.set_cons_zero, List.set_cons_succ]
    refine wpG_oneB (i := 7) (o := ⟨some 18, _, _, _, _, _⟩) (by kernel_rfl) rfl rfl (fun K hK => ?_)
    go_simp
    (with_reducible refine C48.out.mono ?_); rintro e w2 ⟨vb2, rfl, hw2⟩
    have HW2 := Lib.hid hw2
    have hq := hw2.blk.cell 0
    have hq1 := hw2.blk.cell 1
    have hq2 := hw2.blk.cell 2
    simp at hq hq1 hq2
    refine hK.out _ _ ⟨⟨_, hq⟩, hq1, hq2⟩ (fun hHeld => ?_)
    clear hw2 hq hq1 hq2
    clear hK K
    try simp only [Act.put, List.setIfInBounds_toArray, List.set_cons_zero, List.set_cons_succ]
    refine wpG_done (by kernel_rfl) ?_ _
    clear hHeld h01
    have kq := HW2.out.blk.cell 1
    simp at kq
    have kz := HW2.out.blk.frozen 1
    go_wp2_with fail
    go_ret
    have h := H.out
    have h2 := HW2.out
    have hon : Only (WF g vb) w w2 := ⟨h2.only.os, h2.only.tape, h2.only.output, h2.only.size, h2.only.block⟩
    have hbk := h2.blk.set_ 1 (.slice none 0 0)
    simp only [List.setIfInBounds_toArray, List.set_cons_zero, List.set_cons_succ] at hbk
    refine ⟨rfl, vb2, _, [], ⟨?_, ?_, PO.nil _ _, ?_, ?_, h.gB, (fun p hp => by cases hp), HOK.out⟩, Only.set hon (fun _ => .inl rfl) 1 _, h2.hat, fun k hlt hk => ?_⟩
    · rw [HCL.out]; exact hbk
    · rw [HCL.out]; exact own_setCell h2.own (own_ne h2.own h2.blk (by decide)) _
    · rw [HCL.out]; rfl
    · rw [World.size_setCell]; exact Nat.le_trans h.base hon.size
    · rcases hk with (hk | hk) | hk | ⟨p, hp, _⟩
      · exact .inl (.inl hk)
      · rcases h2.hat with e | e
        · exact .inl (.inr (e ▸ hk))
        · have := e k hk
          have : w.drew.heap.size = w.heap.size := rfl
          omega
      · cases hk
      · cases hp

set_option maxRecDepth 100000 in
theorem bytes_nil (w : World) : Calls Try.prog 23 #[.pointer none] w fun e w' => e = .returned (.slice none 0 0) ∧ Below w.heap.size w w' := by
  go_enter Try.func23, Try.ntmps23
  go_wp2_with fail
  go_ret
  exact ⟨rfl, Below.refl _ _⟩
set_option maxRecDepth 100000 in
theorem bytes_any (w : World) (B g : Nat) (vb vl : Value) (ds : List Pd) (s : StP) (h : WS w B g vb vl ds s) (hl : s.b.length ≤ 2000000) :
    Calls Try.prog 23 #[.pointer (some ⟨g, 0, none⟩)] w fun e w' => Fresh w s.b (fun v => v) e w' := by
  obtain ⟨A, c, rfl, hr⟩ := own_RB h.own
  have kq := h.blk.cell 0
  simp at kq
  have C49 := Lib.hid (clone_any A s.b.length c s.b w hl hr)
  clear h hl hr
  go_enter Try.func23, Try.ntmps23
  go_wp2_with (go_at_call 49; (with_reducible refine C49.out.mono ?_); rintro e w1 ⟨v1, rfl, o1, b1⟩; have HO1 := Lib.hid o1; have HB1 := Lib.hid b1; clear o1 b1)
  go_ret
  exact ⟨v1, rfl, HO1.out, HB1.out⟩
set_option maxRecDepth 100000 in
theorem waiting_nil (w : World) : Calls Try.prog 26 #[.pointer none] w fun e w' => e = .returned (.int .i64 0) ∧ Below w.heap.size w w' := by
  go_enter Try.func26, Try.ntmps26
  go_wp2_with fail
  go_ret
  exact ⟨rfl, Below.refl _ _⟩
set_option maxRecDepth 100000 in
theorem waiting_any (w : World) (B g : Nat) (vb vl : Value) (ds : List Pd) (s : StP) (h : WS w B g vb vl ds s) :
    Calls Try.prog 26 #[.pointer (some ⟨g, 0, none⟩)] w fun e w' => e = .returned (.int .i64 (s.l.length : Int)) ∧ Below w.heap.size w w' := by
  obtain ⟨A, c, rfl⟩ := h.po.form
  have kq := h.blk.cell 1
  simp at kq
  have hlen := h.len
  rw [← hlen]
  clear h hlen
  go_enter Try.func26, Try.ntmps26
  go_wp2_with fail
  go_ret
  exact ⟨rfl, Below.refl _ _⟩
end Go.Proofs.Ytgbkoegmoelheaa
