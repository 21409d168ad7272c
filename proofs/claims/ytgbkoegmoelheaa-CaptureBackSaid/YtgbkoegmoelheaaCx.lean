/- The reference's writer. -/
import Derived.Test.YtgbkoegmoelheaaCw
import Derived.Laws.ResultCell
namespace Go.Proofs.Ytgbkoegmoelheaa
open Go.RowKit
set_option linter.unusedVariables false
set_option linter.unusedSimpArgs false

def refV (Ab : Option Addr) (nb cb : Nat) (Al : Option Addr) (nl cl : Nat) (last : Int) : Value := .agg #[.slice Ab nb cb, .slice Al nl cl, .int .i64 last]
/-- The reference's writer as it lies in memory. -/
structure RS (W : World) (Ab : Option Addr) (nb cb : Nat) (Al : Option Addr) (nl cl : Nat) (ds : List Pd) (s : StP) : Prop where
  b : RB W Ab nb cb s.b
  l : PL W Al nl cl ds
  eq : pks ds = s.l
  ok : OkP s
/-- Blocks in which the reference's writer does not lie. -/
def FP (F : Nat → Prop) (Ab : Option Addr) (nb : Nat) (Al : Option Addr) (nl : Nat) (ds : List Pd) : Prop := (∀ a, Ab = some a → 0 < nb → ¬ F a.block) ∧ (∀ a, Al = some a → 0 < nl → ¬ F a.block) ∧ ∀ p ∈ ds, ∀ a, p.A = some a → 0 < p.n → ¬ F a.block
def RefR (F : Nat → Prop) (W : World) (v : Value) (s : StP) : Prop := ∃ Ab nb cb Al nl cl ds, v = refV Ab nb cb Al nl cl s.last ∧ RS W Ab nb cb Al nl cl ds s ∧ FP F Ab nb Al nl ds
theorem own_F {F : Nat → Prop} {W : World} {B sz n c : Nat} {e : TypeId} {A : Option Addr} {xs : List Value} (h : W.ownsRow B e sz (.slice A n c) n xs) (hF : ∀ k, F k → k < B) : ∀ a, A = some a → 0 < n → ¬ F a.block := fun a ha _ hk => by
  have h1 := (h.lt a.block (by rw [ha]; rfl)).1
  have h2 := hF _ hk
  omega
theorem RS.below {W W2 : World} {Ab Al : Option Addr} {nb cb nl cl : Nat} {ds : List Pd} {s : StP} (h : RS W Ab nb cb Al nl cl ds s) (hb : Below W.heap.size W W2) : RS W2 Ab nb cb Al nl cl ds s := ⟨h.b.below hb, h.l.below hb, h.eq, h.ok⟩
theorem RefR.below {W W2 : World} {v : Value} {s : StP} {F : Nat → Prop} (h : RefR F W v s) (hb : Below W.heap.size W W2) : RefR F W2 v s := by
  obtain ⟨Ab, nb, cb, Al, nl, cl, ds, h1, h2, h3⟩ := h
  exact ⟨Ab, nb, cb, Al, nl, cl, ds, h1, h2.below hb, h3⟩
theorem RS.bad {W : World} {Ab Al : Option Addr} {nb cb nl cl : Nat} {ds : List Pd} {s : StP} (h : RS W Ab nb cb Al nl cl ds s) : badAt ds = false := by
  unfold badAt
  rw [List.any_eq_false]
  intro p hp
  have := h.ok.v p.pk (by rw [← h.eq]; exact List.mem_map.2 ⟨p, hp, rfl⟩)
  simp [this]
theorem RS.n64 {W : World} {Ab Al : Option Addr} {nb cb nl cl : Nat} {ds : List Pd} {s : StP} (h : RS W Ab nb cb Al nl cl ds s) : nl ≤ 64 := by
  have e : ds.length = s.l.length := by rw [← h.eq]; simp [pks]
  rw [← h.l.len, e]
  by_cases h0 : s.l = []
  · rw [h0]; simp
  · exact (fitsP_iff.1 (h.ok.f h0)).2.1
theorem blk_row {W : World} {g : Nat} {cs : Array Value} {t : TypeId} {P : Program} {fn : Func} {p : Tmp} {ty : TypeId} (h : fn.results = #[.cell p ty]) (tmps : Array Value) (d : TypeDesc)
    (hp : tmps.getD p undef = .pointer (some ⟨g, 0, none⟩)) (hg : Blk W g t cs) (hu : P.underlying ty = some d) (hd : (match d with | .struct _ | .array _ _ => true | _ => false) = true) (hi : (P.info? ty).map (·.size) = some cs.size) :
    (results fn tmps).run P W = .ok (.agg cs) W := results_cell_row h tmps W g t cs (0, 0) d hp hg hu hd hi
theorem results_row_tmp {P : Program} {fn : Func} {p u : Tmp} {ty : TypeId} (h : fn.results = #[.cell p ty, .tmp u]) (tmps : Array Value) (w : World) (g : Nat) (t : TypeId) (cs : Array Value) (d : TypeDesc)
    (hp : tmps.getD p undef = .pointer (some ⟨g, 0, none⟩)) (hg : Blk w g t cs) (hu : P.underlying ty = some d) (hd : (match d with | .struct _ | .array _ _ => true | _ => false) = true) (hi : (P.info? ty).map (·.size) = some cs.size) :
    (results fn tmps).run P w = .ok (.tuple #[.agg cs, tmps.getD u undef]) w := by
  rw [results_cell_tmp h, hp]
  simp [asAddr, Result.andThen, run_loadVar_row w g t ty cs (0, 0) d hg hu hd hi]
def Two46 (g : Nat) (vb vl : Value) (W : World) : Prop := W.cell? ⟨g, 0, none⟩ = some vb ∧ W.cell? ⟨g, 1, none⟩ = some vl
theorem Two46.of {W : World} {g : Nat} {vb vl x : Value} (h : Blk W g 48 #[vb, vl, x]) : Two46 g vb vl W := by
  have k0 := h.cell 0
  have k1 := h.cell 1
  simp at k0 k1
  exact ⟨k0, k1⟩
theorem own_PL {W : World} {B n : Nat} {A : Option Addr} {c : Nat} {ds : List Pd} (h : W.ownsRow B 31 3 (.slice A n c) n (ds.flatMap Pd.cells)) (hr : ∀ p ∈ ds, PdR W p) (hl : ds.length = n) : PL W A n c ds := by
  obtain ⟨A', c', e, h1, h2, h3, -⟩ := own_formS h
  injection e with e1 e2 e3
  subst e1 e3
  exact ⟨hl, HoldsS.own h, h1, h2, fun e => (h3 e).2, hr⟩

set_option maxRecDepth 100000 in
set_option maxHeartbeats 4000000 in
theorem rclose_any (F : Nat → Prop) (Ab : Option Addr) (nb cb : Nat) (Al : Option Addr) (nl cl : Nat) (ds : List Pd) (s : StP) (w : World) (h : RS w Ab nb cb Al nl cl ds s) (hl : nb ≤ 3000000) (hF : ∀ k, F k → k < w.heap.size) (hf : FP F Ab nb Al nl ds) :
    Calls Try.prog 46 #[refV Ab nb cb Al nl cl s.last] w fun e w' => ∃ v, e = .returned v ∧ RefR F w' v (closeP s) ∧ Below w.heap.size w w' := by
  have HRS := Lib.hid h
  have HFP := Lib.hid hf
  have HFF := Lib.hid hF
  have hn := h.n64
  unfold refV
  obtain ⟨last, hlast⟩ : ∃ last, s.last = last := ⟨_, rfl⟩
  have HLA := Lib.hid hlast
  rw [hlast]
  by_cases hd : ds = []
  · obtain rfl : nl = 0 := by rw [← h.l.len, hd]; rfl
    have hs : s.l = [] := by rw [← h.eq, hd]; rfl
    have hcl : closeP s = s := by unfold closeP; rw [if_pos hs]
    rw [hcl]
    clear h hl hF hf hn hd hs hcl hlast
    go_enter Try.func46, Try.ntmps46
    go_wp2_with fail
    have hb : Below w.heap.size w ((w.alloc (.cells #[.slice Ab nb cb, .slice Al 0 cl, .int .i64 last] 48)).alloc (.cells #[.slice Ab nb cb, .slice Al 0 cl, .int .i64 last] 48)) := ((Below.refl _ w).alloc (Nat.le_refl _) _).alloc (by simp) _
    have hz := Blk.new (w.alloc (.cells #[.slice Ab nb cb, .slice Al 0 cl, .int .i64 last] 48)) 48 #[.slice Ab nb cb, .slice Al 0 cl, .int .i64 last]
    rw [World.size_alloc] at hz
    refine bodyPost_ret (v := .agg #[.slice Ab nb cb, .slice Al 0 cl, .int .i64 last]) (blk_row (p := 2) (ty := 48) rfl _ _ rfl hz Try.underlying48 rfl (by kernel_rfl)) rfl ⟨_, rfl, ⟨Ab, nb, cb, Al, 0, cl, ds, by rw [HLA.out]; rfl, HRS.out.below hb, HFP.out⟩, hb⟩
  · have hs : s.l ≠ [] := fun e => hd (by have := h.eq; rw [e] at this; exact List.map_eq_nil_iff.1 this)
    have hn1 : (0 : Int) < (nl : Int) := by have := h.l.len; have : ds.length ≠ 0 := fun e => hd (List.eq_nil_of_length_eq_zero e); omega
    have hfit : fitsP (pks ds) = true := by rw [h.eq]; exact h.ok.f hs
    have C15 := fun (W : World) (hb : Below w.heap.size w W) => rblock_any Al nl cl ds W (h.l.below hb) h.bad hfit
    have hel := encB_le hfit
    have hcl : closeP s = ⟨s.b ++ encB (pks ds), [], s.last⟩ := by unfold closeP; rw [if_neg hs, h.eq]
    have HOK := Lib.hid (closeP_ok h.ok)
    obtain ⟨E, hE⟩ : ∃ E, encB (pks ds) = E := ⟨_, rfl⟩
    rw [hE] at C15 hel hcl
    have C15 := Lib.hid C15
    have HCL := Lib.hid hcl
    have HRB := Lib.hid h.b
    have HNB := Lib.hid h.b.len
    have HMX := Lib.hid (show 0 + nb ≤ maxLen ∧ (0 + nb) * 1 ≤ 140737488355328 by unfold maxLen; omega)
    have HME := Lib.hid (show nb + E.length ≤ maxLen ∧ (nb + E.length) * 1 ≤ 140737488355328 by unfold maxLen; omega)
    obtain ⟨W0, hW0⟩ : ∃ W0, (w.alloc (.cells #[.slice Ab nb cb, .slice Al nl cl, .int .i64 last] 48)).alloc (.cells #[.slice none 0 0, .slice none 0 0, .int .i64 0] 48) = W0 := ⟨_, rfl⟩
    have HW0 := Lib.hid hW0
    have hb0 : Below w.heap.size w W0 := hW0 ▸ ((Below.refl _ w).alloc (Nat.le_refl _) _).alloc (by simp) _
    have HBW := Lib.hid (show Below w.heap.size w W0.drew from below_drew hb0)
    have HK0 := Lib.hid (show Blk W0.drew w.heap.size 48 #[.slice Ab nb cb, .slice Al nl cl, .int .i64 last] from hW0 ▸ (Blk.new w 48 _).alloc _)
    have HZ0 := Lib.hid (show Blk W0.drew (w.heap.size + 1) 48 #[.slice none 0 0, .slice none 0 0, .int .i64 0] from by
      have hz := Blk.new (w.alloc (.cells #[.slice Ab nb cb, .slice Al nl cl, .int .i64 last] 48)) 48 #[.slice none 0 0, .slice none 0 0, .int .i64 0]
      rw [World.size_alloc, hW0] at hz
      exact hz)
    have HT := Lib.hid (Two46.of HK0.out)
    have q0 : decide ((0 : Int) < (nl : Int)) = true := decide_eq_true hn1
    clear h hl hF hf hn hd hs hfit hel hcl hE hW0 hb0 hlast
    go_enter Try.func46, Try.ntmps46
    go_upto_region 2 with fail
    rw [HW0.out]
    clear hn1 q0
    refine wp_region_G (S0 := (Two46 w.heap.size (.slice Ab nb cb) (.slice Al nl cl))) (S1 := (fun _ => True)) (c := 8) (by kernel_rfl) ?_
    have hHeld := HT.out
    have h01 := (fun (W : World) (h : (Two46 w.heap.size (.slice Ab nb cb) (.slice Al nl cl)) W) => trivial)
    refine wpG_takeA (i := 0) (oi := ⟨some 7, _, _, _, _, _⟩) (v := .pointer (some ⟨w.heap.size, 0, none⟩)) rfl (by kernel_rfl) (by kernel_rfl) (by kernel_rfl) (by decide) (fun _ _ _ h => h) h01 rfl hHeld (Or.inl ⟨by rfl, ?_⟩) ?_
    · (intro W9 hSw; go_simp; (try (first | with_reducible rfl | rfl | (simp; done))))
    try simp only [Act.put, List.setIfInBounds_toArray, List.set_cons_zero, List.set_cons_succ]
    refine wpG_take0 (i := 1) (oi := ⟨some 8, _, _, _, _, _⟩) (v := .slice Ab nb cb) rfl (by kernel_rfl) (by kernel_rfl) (by kernel_rfl) (by decide) (by kernel_rfl) (fun _ _ _ h => h) rfl hHeld (Or.inl ⟨by rfl, ?_⟩) ?_
    · (intro W9 hSw; obtain ⟨v1, v2⟩ := hSw; go_simp; (try (first | with_reducible rfl | rfl | (simp; done))))
    try simp only [Act.put, List.setIfInBounds_toArray, List.set_cons_zero, List.set_cons_succ]
    refine wpG_takeA (i := 3) (oi := ⟨some 10, _, _, _, _, _⟩) (v := .pointer (some ⟨w.heap.size, 1, none⟩)) rfl (by kernel_rfl) (by kernel_rfl) (by kernel_rfl) (by decide) (fun _ _ _ h => h) h01 rfl hHeld (Or.inl ⟨by rfl, ?_⟩) ?_
    · (intro W9 hSw; go_simp; (try (first | with_reducible rfl | rfl | (simp; done))))
    try simp only [Act.put, List.setIfInBounds_toArray, List.set_cons_zero, List.set_cons_succ]
    refine wpG_take0 (i := 4) (oi := ⟨some 11, _, _, _, _, _⟩) (v := .slice Al nl cl) rfl (by kernel_rfl) (by kernel_rfl) (by kernel_rfl) (by decide) (by kernel_rfl) (fun _ _ _ h => h) rfl hHeld (Or.inl ⟨by rfl, ?_⟩) ?_
    · (intro W9 hSw; obtain ⟨v1, v2⟩ := hSw; go_simp; (try (first | with_reducible rfl | rfl | (simp; done))))
    try simp only [Act.put, List.setIfInBounds_toArray, List.set_cons_zero, List.set_cons_succ]
    refine wpG_oneA (i := 2) (o := ⟨some 9, _, _, _, _, _⟩) (by kernel_rfl) rfl rfl (fun K hK => ?_)
    refine step_app_own (base := w.heap.size) (n := 0) (m := nb) (xs := []) (news := s.b.map Go.Proofs.Ytgbkoegmoelheaa.u8) rfl (.const (.slice none 0 0)) (.tmp 8) 23 rfl el22 rfl (World.ownsRow_nil _ _ 5 1) rfl (HRB.out.below HBW.out).h (u8_one _) HMX.out.1 HMX.out.2 HBW.out.size ?_
    rintro v5 w5 hown hg -
    rw [Nat.zero_add, List.nil_append] at hown
    have HB5 := Lib.hid (below_own HBW.out HBW.out.size (World.ownsRow_nil _ _ 5 1) hg)
    have HO5 := Lib.hid hown
    have hk := HK0.out.grown hg (show some w.heap.size ≠ (Value.slice none 0 0).ownBlock by simp [Value.ownBlock])
    have HK5 := Lib.hid hk
    have HZ5 := Lib.hid (HZ0.out.grown hg (show some (w.heap.size + 1) ≠ (Value.slice none 0 0).ownBlock by simp [Value.ownBlock]))
    obtain ⟨A5, c5, rfl, -⟩ := own_form hown
    clear hown hg
    refine hK.out _ _ (Two46.of HK5.out) (fun hHeld => ?_)
    clear hk
    clear hK K
    try simp only [Act.put, List.setIfInBounds_toArray, List.set_cons_zero, List.set_cons_succ]
    refine wpG_oneA (i := 5) (o := ⟨some 12, _, _, _, _, _⟩) (by kernel_rfl) rfl rfl (fun K hK => ?_)
    go_simp
    (with_reducible refine (C15.out _ HB5.out).mono ?_); rintro e w6 ⟨v6, rfl, o6, b6⟩
    obtain ⟨A6, c6, rfl, -⟩ := own_form o6
    have HO6 := Lib.hid (holds_own o6)
    have HO56 := Lib.hid (own_keeps HO5.out fun k hk => b6.block k (own_lt HO5.out k hk))
    have HB6 := Lib.hid (HB5.out.trans (b6.mono HB5.out.size))
    have HK6 := Lib.hid (HK5.out.below b6 HK5.out.lt)
    have HZ6 := Lib.hid (HZ5.out.below b6 HZ5.out.lt)
    clear o6 b6
    refine hK.out _ _ (Two46.of HK6.out) (fun hHeld => ?_)
    clear hK K
    try simp only [Act.put, List.setIfInBounds_toArray, List.set_cons_zero, List.set_cons_succ]
    refine wpG_oneA (i := 6) (o := ⟨some 13, _, _, _, _, _⟩) (by kernel_rfl) rfl rfl (fun K hK => ?_)
    refine step_app_own (base := w.heap.size) (n := nb) (m := E.length) (xs := s.b.map Go.Proofs.Ytgbkoegmoelheaa.u8) (news := E.map Go.Proofs.Ytgbkoegmoelheaa.u8) rfl (.tmp 9) (.tmp 12) 23 rfl el22 rfl HO56.out rfl HO6.out (u8_one _) HME.out.1 HME.out.2 HB6.out.size ?_
    rintro v7 w7 hown hg -
    have HB7 := Lib.hid (below_own HB6.out HB6.out.size HO56.out hg)
    have HK7 := Lib.hid (HK6.out.grown hg (fun e => own_ne HO56.out HK6.out (by decide) e.symm))
    have HZ7 := Lib.hid (HZ6.out.grown hg (fun e => own_ne HO56.out HZ6.out (by decide) e.symm))
    obtain ⟨A7, c7, rfl, -⟩ := own_form hown
    have HO7 := Lib.hid hown
    clear hown hg
    refine hK.out _ _ (Two46.of HK7.out) (fun hHeld => ?_)
    clear hK K
    try simp only [Act.put, List.setIfInBounds_toArray, List.set_cons_zero, List.set_cons_succ]
    refine wpG_takeA (i := 7) (oi := ⟨some 14, _, _, _, _, _⟩) (v := .pointer (some ⟨w.heap.size, 0, none⟩)) rfl (by kernel_rfl) (by kernel_rfl) (by kernel_rfl) (by decide) (fun _ _ _ h => h) h01 rfl hHeld (Or.inl ⟨by rfl, ?_⟩) ?_
    · (intro W9 hSw; go_simp; (try (first | with_reducible rfl | rfl | (simp; done))))
    try simp only [Act.put, List.setIfInBounds_toArray, List.set_cons_zero, List.set_cons_succ]
    refine wpG_oneB (i := 8) (o := ⟨none, _, _, _, _, _⟩) (by kernel_rfl) rfl rfl (fun K hK => ?_)
    have kq := HK7.out.cell 0
    simp at kq
    have kz := HK7.out.frozen 0
    go_simp
    have HK8 := Lib.hid (show Blk (w7.setCell ⟨w.heap.size, 0, none⟩ (.slice A7 (nb + E.length) c7)) w.heap.size 48 #[.slice A7 (nb + E.length) c7, .slice Al nl cl, .int .i64 last] from by have := HK7.out.set_ 0 (.slice A7 (nb + E.length) c7); simpa using this)
    refine hK.out _ _ trivial (fun hHeld => ?_)
    clear kq kz
    clear hK K
    try simp only [Act.put, List.setIfInBounds_toArray, List.set_cons_zero, List.set_cons_succ]
    refine wpG_done (by kernel_rfl) ?_ _
    clear hHeld h01
    have k1 := HK8.out.cell 1
    simp at k1
    have f1 := HK8.out.frozen 1
    have hz8 : Blk (w7.setCell ⟨w.heap.size, 0, none⟩ (.slice A7 (nb + E.length) c7)) (w.heap.size + 1) 48 #[.slice none 0 0, .slice none 0 0, .int .i64 0] := HZ7.out.far (by simp) _
    obtain ⟨W8, hW8⟩ : ∃ W8, w7.setCell ⟨w.heap.size, 0, none⟩ (.slice A7 (nb + E.length) c7) = W8 := ⟨_, rfl⟩
    have HB8 := Lib.hid (show Below w.heap.size w W8 from hW8 ▸ Below.setCell HB7.out (Nat.le_refl _) _)
    have HO8 := Lib.hid (show W8.ownsRow w.heap.size 5 1 (.slice A7 (nb + E.length) c7) (nb + E.length) (s.b.map Go.Proofs.Ytgbkoegmoelheaa.u8 ++ E.map Go.Proofs.Ytgbkoegmoelheaa.u8) from hW8 ▸ own_setCell HO7.out (own_ne HO7.out HK7.out (by decide)) _)
    rw [hW8] at HK8 hz8 k1 f1 ⊢
    have HZ8 := Lib.hid hz8
    obtain ⟨W9, hW9⟩ : ∃ W9, W8.setCell ⟨w.heap.size, 1, none⟩ (.slice none 0 0) = W9 := ⟨_, rfl⟩
    have hk9 := HK8.out.set_ 1 (.slice none 0 0)
    simp only [List.setIfInBounds_toArray, List.set_cons_zero, List.set_cons_succ] at hk9
    have hz9 := HZ8.out.far (show w.heap.size + 1 ≠ (⟨w.heap.size, 1, none⟩ : Addr).block by simp) (.slice none 0 0)
    have hb9 := HB8.out.setCell (p := ⟨w.heap.size, 1, none⟩) (Nat.le_refl _) (.slice none 0 0)
    have ho9 := own_setCell (a := ⟨w.heap.size, 1, none⟩) HO8.out (own_ne HO8.out HK8.out (by decide)) (.slice none 0 0)
    rw [hW9] at hk9 hz9 hb9 ho9
    have HW9 := Lib.hid hW9
    clear hW8 hz8 hW9
    go_upto_region 4 with fail
    rw [HW9.out]
    have HK9 := Lib.hid hk9
    have HZ9 := Lib.hid hz9
    have HB9 := Lib.hid hb9
    have HO9 := Lib.hid ho9
    clear k1 f1 hk9 hz9 hb9 ho9
    have k0 := HK9.out.cell 0
    have k1 := HK9.out.cell 1
    have k2 := HK9.out.cell 2
    have z0 := HZ9.out.cell 0
    have z1 := HZ9.out.cell 1
    have z2 := HZ9.out.cell 2
    simp at k0 k1 k2 z0 z1 z2
    have f0 := HZ9.out.frozen 0
    have f1 := HZ9.out.frozen 1
    have f2 := HZ9.out.frozen 2
    go_wp2_with fail
    have hon : Only (fun k => k = w.heap.size + 1) W9 (((W9.setCell ⟨w.heap.size + 1, 0, none⟩ (.slice A7 (nb + E.length) c7)).setCell ⟨w.heap.size + 1, 1, none⟩ (.slice none 0 0)).setCell ⟨w.heap.size + 1, 2, none⟩ (.int .i64 last)) := Only.set (p := fun k => k = w.heap.size + 1) (Only.set (p := fun k => k = w.heap.size + 1) (Only.set (p := fun k => k = w.heap.size + 1) (Only.refl _ W9) (fun _ => rfl) 0 _) (fun _ => rfl) 1 _) (fun _ => rfl) 2 _
    have hfz := ((HZ9.out.set_ 0 (.slice A7 (nb + E.length) c7)).set_ 1 (.slice none 0 0)).set_ 2 (.int .i64 last)
    simp only [List.setIfInBounds_toArray, List.set_cons_zero, List.set_cons_succ] at hfz
    have hfb := HB9.out.trans ((hon.to_below HB9.out.size fun b hb e => by omega).mono (Nat.le_refl _))
    have hfo := own_only HO9.out hon fun k hk e => own_ne HO9.out HZ9.out (by decide) (e ▸ hk)
    refine bodyPost_ret (v := .agg #[.slice A7 (nb + E.length) c7, .slice none 0 0, .int .i64 last]) (blk_row (p := 2) (ty := 48) rfl _ _ rfl hfz Try.underlying48 rfl (by kernel_rfl)) rfl ⟨_, rfl, ⟨A7, nb + E.length, c7, none, 0, 0, [], by rw [HCL.out, HLA.out]; rfl, ⟨?_, PL.nil _, ?_, HOK.out⟩, ⟨own_F hfo HFF.out, (fun a ha => by cases ha), fun p hp => by cases hp⟩⟩, hfb⟩
    · rw [HCL.out]
      exact own_RB3 (by rw [List.map_append]; exact hfo)
    · rw [HCL.out]; rfl
end Go.Proofs.Ytgbkoegmoelheaa
