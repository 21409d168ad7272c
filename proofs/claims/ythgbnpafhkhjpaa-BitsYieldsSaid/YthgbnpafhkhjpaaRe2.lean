/- The contract of (*Reader).read where all conditions hold. -/
import Derived.Test.YthgbnpafhkhjpaaRe1
import Derived.Deep.RegionHeld3
namespace Go.Proofs.Ythgbnpafhkhjpaa
open Go.RowKit
attribute [local go_sem] wide_fn wide_depth wide_fn_in wide_depth_in Oper.semAt_some
set_option linter.unusedVariables false
set_option linter.unusedSimpArgs false

/-- The c bits from place p on. -/
def cut (l : List UInt8) (p c : Nat) : List Bool := (List.range c).map fun i => bbit l (p + i)
theorem cut_length (l : List UInt8) (p c : Nat) : (cut l p c).length = c := by simp [cut]
theorem cut_snoc (l : List UInt8) (p c : Nat) : cut l p (c + 1) = cut l p c ++ [bbit l (p + c)] := range_snoc _ c
theorem firstE_ends (cs : List (Bool × Int)) (h : firstE cs = 0) : firstE ([(true, 1)] ++ cs ++ [(true, 4)]) = 0 := by
  show firstE (cs ++ [(true, 4)]) = 0
  induction cs with
  | nil => rfl
  | cons c cs ih =>
    obtain ⟨t, e⟩ := c
    cases t
    · exact h
    · exact ih h

set_option maxRecDepth 100000 in
set_option maxHeartbeats 4000000 in
theorem read_ok (B g : Nat) (v : Value) (l : List UInt8) (p c : Nat) (b n : Nat) (cs : List (Bool × Int)) (w : World) (hr : RS w B g v l p) (hcs : CS w b 0 cs) (hn : cs.length = n) (h0 : 0 < n) (h1 : n ≤ 100) (hE0 : firstE cs = 0) (hc : p + c ≤ 8 * l.length) :
    Calls Try.prog 46 #[.pointer (some ⟨g, 0, none⟩), .int .i64 c, .slice (some ⟨b, 0, none⟩) n n] w fun e w' => ∃ v', e = .returned (.tuple #[.agg #[v', .int .i64 c], .int .i64 0]) ∧ w'.ownsRow w.heap.size 5 1 v' ((c + 7) / 8) ((pack (cut l p c)).map u8) ∧ Below w.heap.size w w' := by
  have hsm := hr.small
  have h49 : ∀ W, Below w.heap.size w W → Calls Try.prog 49 #[.pointer (some ⟨g, 0, none⟩)] W fun e w' => e = .returned (.bool true) ∧ W = w' := fun W hb => ris_some g _ _ _ _ W (hr.below hb (Nat.le_refl _)).blk
  have h24 : ∀ W, Below w.heap.size w W → Calls Try.prog 24 #[.pointer (some ⟨g, 0, none⟩)] W fun e w' => e = .returned (.int .i64 (((8 * l.length : Nat) : Int) - p)) ∧ Below W.heap.size W w' := fun W hb => rleft_some g v _ p W (by omega) hr.place (hr.below hb (Nat.le_refl _)).blk
  obtain ⟨count, hcount⟩ : ∃ count : Int, (c : Int) = count := ⟨_, rfl⟩
  obtain ⟨left, hleft⟩ : ∃ left : Int, ((8 * l.length : Nat) : Int) - p = left := ⟨_, rfl⟩
  have hcl : decide (count ≤ left) = true := by simp; omega
  have hE : firstE ([(true, 1)] ++ cs ++ [(decide (count ≤ left), 4)]) = 0 := by rw [hcl]; exact firstE_ends cs hE0
  rw [hleft] at h24
  rw [hcount]
  obtain ⟨there, hth⟩ : ∃ there, true = there := ⟨_, rfl⟩
  rw [hth] at h49 hE
  obtain ⟨w0, hW0⟩ : ∃ w0, ((w.alloc (.cells #[.int .i64 count] 3)).alloc (.cells #[.slice none 0 0, .int .i64 0] 61)).alloc (.cells #[.slice none 0 0, .int .i64 0] 61) = w0 := ⟨_, rfl⟩
  have HW0 := Lib.hid hW0
  have HBW := Lib.hid (show Below w.heap.size w w0 from hW0 ▸ (((Below.refl _ w).alloc (Nat.le_refl _) _).alloc (by simp) _).alloc (by simp; omega) _)
  have hk0 : Blk w0 w.heap.size 3 #[.int .i64 count] := hW0 ▸ ((Blk.new w 3 #[.int .i64 count]).alloc _).alloc _
  have HK1 := Lib.hid (show Blk w0 (w.heap.size + 1) 61 #[.slice none 0 0, .int .i64 0] by have := (Blk.new (w.alloc (.cells #[.int .i64 count] 3)) 61 #[.slice none 0 0, .int .i64 0]).alloc (.cells #[.slice none 0 0, .int .i64 0] 61); rw [World.size_alloc, hW0] at this; exact this)
  have HK2 := Lib.hid (show Blk w0 (w.heap.size + 1 + 1) 61 #[.slice none 0 0, .int .i64 0] by have := Blk.new ((w.alloc (.cells #[.int .i64 count] 3)).alloc (.cells #[.slice none 0 0, .int .i64 0] 61)) 61 #[.slice none 0 0, .int .i64 0]; rw [World.size_alloc, World.size_alloc, hW0] at this; exact this)
  have HLT := Lib.hid hk0.lt
  have HS0 := Lib.hid (show w0.cell? ⟨w.heap.size, 0, none⟩ = some (.int .i64 count) from hk0.cell 0)
  have H49 := Lib.hid (h49 w0.drew (below_drew HBW.out))
  have H24 := Lib.hid h24
  obtain ⟨w1, hW1⟩ : ∃ w1, (w0.alloc (.cells #[.bool there, .int .i64 1] 72)).drew = w1 := ⟨_, rfl⟩
  have HW1 := Lib.hid hW1
  have HB1 := Lib.hid (show Below w0.heap.size w0 w1 from hW1 ▸ below_drew ((Below.refl _ w0).alloc (Nat.le_refl _) _))
  have HS1 := Lib.hid ((HB1.out.cell HLT.out).trans HS0.out)
  have HO1 := Lib.hid (show w1.ownsRow w0.heap.size 72 2 (.slice (some ⟨w0.heap.size, 0, none⟩) 1 1) 1 (flatC [(there, 1)]) from hW1 ▸ own_drew (World.ownsRow_lit w0 #[.bool there, .int .i64 1] 1 (Nat.le_refl _) (by decide) rfl))
  have HC1 := Lib.hid ((hcs.keep HBW.out).keep HB1.out)
  have HN := Lib.hid hn
  have HM1 := Lib.hid (show 1 + n ≤ 1000 by omega)
  have HM2 := Lib.hid (show 1 + n + 1 ≤ 1000 by omega)
  have HM3 := Lib.hid (show 1 + n + 1 ≤ 1000 by omega)
  have HZ1 := Lib.hid HB1.out.size
  have HE := Lib.hid hE
  have HR := Lib.hid hr
  have HK0 := Lib.hid hk0
  have HCC := Lib.hid hc
  have HCO := Lib.hid hcount
  clear hW0 hW1 hk0 h49 h24 hcs hn h0 h1 hE hE0 hr hc hcount hleft hth hcl hsm
  refine (callsIn_wide (n := 100)).1 ?_
  refine callsIn_of_wp_marks Try.func46 rfl trivial ?_ rfl
  refine wpIn_wide.2 ?_
  simp only [Try.ntmps46, List.size_toArray, List.length_cons, List.length_nil, Nat.reduceAdd, Nat.reduceSub, Array.replicate_succ, Array.replicate_zero, List.push_toArray, List.append_toArray, List.nil_append, List.cons_append]
  go_wp2_with fail
  rw [HW0.out]
  refine wp_region_noPanic ?_
  refine wp_region_G (S0 := (fun (w' : World) => w'.cell? ⟨w.heap.size, 0, none⟩ = some (.int .i64 count))) (S1 := (fun (w' : World) => w'.cell? ⟨w.heap.size, 0, none⟩ = some (.int .i64 count))) (c := 13) (by kernel_rfl) ?_
  have hHeld := (show w0.drew.cell? ⟨w.heap.size, 0, none⟩ = some (.int .i64 count) from HS0.out)
  have h01 := (fun (w' : World) (h : w'.cell? ⟨w.heap.size, 0, none⟩ = some (.int .i64 count)) => h)
  refine wpG_takeA (i := 0) (oi := ⟨some 11, _, _, _, _, _⟩) (v := ?_) rfl (by kernel_rfl) (by kernel_rfl) (by kernel_rfl) (by decide) (fun _ _ _ h => h) h01 rfl hHeld (Or.inl ⟨by rfl, ?_⟩) ?_
  rotate_left
  · (intro w hSw; (try dsimp only at hSw); go_simp; (try with_reducible rfl))
  try simp only [Act.put, List.setIfInBounds_toArray, List.set_cons_zero, List.set_cons_succ]
  refine wpG_takeA (i := 4) (oi := ⟨some 15, _, _, _, _, _⟩) (v := ?_) rfl (by kernel_rfl) (by kernel_rfl) (by kernel_rfl) (by decide) (fun _ _ _ h => h) h01 rfl hHeld (Or.inl ⟨by rfl, ?_⟩) ?_
  rotate_left
  · (intro w hSw; (try dsimp only at hSw); go_simp; (try with_reducible rfl))
  try simp only [Act.put, List.setIfInBounds_toArray, List.set_cons_zero, List.set_cons_succ]
  refine wpG_takeA (i := 6) (oi := ⟨some 17, _, _, _, _, _⟩) (v := ?_) rfl (by kernel_rfl) (by kernel_rfl) (by kernel_rfl) (by decide) (fun _ _ _ h => h) h01 rfl hHeld (Or.inl ⟨by rfl, ?_⟩) ?_
  rotate_left
  · (intro w hSw; (try dsimp only at hSw); go_simp; (try with_reducible rfl))
  try simp only [Act.put, List.setIfInBounds_toArray, List.set_cons_zero, List.set_cons_succ]
  refine wpG_takeA (i := 7) (oi := ⟨some 18, _, _, _, _, _⟩) (v := ?_) rfl (by kernel_rfl) (by kernel_rfl) (by kernel_rfl) (by decide) (fun _ _ _ h => h) h01 rfl hHeld (Or.inl ⟨by rfl, ?_⟩) ?_
  rotate_left
  · (intro w hSw; (try dsimp only at hSw); go_simp; (try with_reducible rfl))
  try simp only [Act.put, List.setIfInBounds_toArray, List.set_cons_zero, List.set_cons_succ]
  refine wpG_oneA (i := 1) (o := ⟨some 12, _, _, _, _, _⟩) (by kernel_rfl) rfl rfl (fun K hK => ?_)
  go_simp
  (with_reducible refine H49.out.mono ?_); rintro e w1 ⟨rfl, rfl⟩
  refine hK.out _ _ hHeld (fun hHeld => ?_)
  clear hK K
  try simp only [Act.put, List.setIfInBounds_toArray, List.set_cons_zero, List.set_cons_succ]
  refine wpG_takeA (i := 2) (oi := ⟨some 13, _, _, _, _, _⟩) (v := ?_) rfl (by kernel_rfl) (by kernel_rfl) (by kernel_rfl) (by decide) (fun _ _ _ h => h) h01 rfl hHeld (Or.inl ⟨by rfl, ?_⟩) ?_
  rotate_left
  · (intro w hSw; (try dsimp only at hSw); go_simp; (try with_reducible rfl))
  try simp only [Act.put, List.setIfInBounds_toArray, List.set_cons_zero, List.set_cons_succ]
  refine wpG_oneA (i := 3) (o := ⟨some 14, _, _, _, _, _⟩) (by kernel_rfl) rfl rfl (fun K hK => ?_)
  go_simp
  rw [HW1.out]
  refine hK.out _ _ HS1.out (fun hHeld => ?_)
  clear hK K
  try simp only [Act.put, List.setIfInBounds_toArray, List.set_cons_zero, List.set_cons_succ]
  refine wpG_oneA (i := 5) (o := ⟨some 16, _, _, _, _, _⟩) (by kernel_rfl) rfl rfl (fun K hK => ?_)
  refine step_app2 (base := w0.heap.size) rfl (.tmp 14) (.tmp 15) 95 rfl (n := 1) (m := n) (cs := [(there, 1)]) (ds := cs) rfl HO1.out rfl HC1.out HN.out HM1.out HZ1.out ?_
  intro v2 w2 hown2 hgr2
  have HO2 := Lib.hid hown2
  have HB2 := Lib.hid (HB1.out.grown hgr2 HZ1.out (fun k hk => (HO1.out.lt k hk).1))
  have HS2 := Lib.hid ((HB2.out.cell HLT.out).trans HS0.out)
  clear hown2 hgr2
  refine hK.out _ _ HS2.out (fun hHeld => ?_)
  clear hK K
  try simp only [Act.put, List.setIfInBounds_toArray, List.set_cons_zero, List.set_cons_succ]
  refine wpG_oneA (i := 8) (o := ⟨some 19, _, _, _, _, _⟩) (by kernel_rfl) rfl rfl (fun K hK => ?_)
  go_simp
  (refine (H24.out w2 (HBW.out.trans (HB2.out.mono HBW.out.size))).mono ?_); rintro e w3 ⟨rfl, b3⟩
  have HO3 := Lib.hid (own_keeps HO2.out fun k hk => b3.block k (own_lt HO2.out k hk))
  have HB3 := Lib.hid (HB2.out.trans (b3.mono HB2.out.size))
  have HS3 := Lib.hid ((HB3.out.cell HLT.out).trans HS0.out)
  clear b3
  refine hK.out _ _ HS3.out (fun hHeld => ?_)
  clear hK K
  try simp only [Act.put, List.setIfInBounds_toArray, List.set_cons_zero, List.set_cons_succ]
  refine wpG_takeA (i := 9) (oi := ⟨some 20, _, _, _, _, _⟩) (v := ?_) rfl (by kernel_rfl) (by kernel_rfl) (by kernel_rfl) (by decide) (fun _ _ _ h => h) h01 rfl hHeld (Or.inl ⟨by rfl, ?_⟩) ?_
  rotate_left
  · (intro w hSw; (try dsimp only at hSw); go_simp; (try with_reducible rfl))
  try simp only [Act.put, List.setIfInBounds_toArray, List.set_cons_zero, List.set_cons_succ]
  refine wpG_takeA (i := 10) (oi := ⟨some 21, _, _, _, _, _⟩) (v := ?_) rfl (by kernel_rfl) (by kernel_rfl) (by kernel_rfl) (by decide) (fun _ _ _ h => h) h01 rfl hHeld (Or.inl ⟨by rfl, ?_⟩) ?_
  rotate_left
  · (intro w hSw; (try dsimp only at hSw); go_simp; (try with_reducible rfl))
  try simp only [Act.put, List.setIfInBounds_toArray, List.set_cons_zero, List.set_cons_succ]
  refine wpG_oneA (i := 11) (o := ⟨some 22, _, _, _, _, _⟩) (by kernel_rfl) rfl rfl (fun K hK => ?_)
  go_simp
  obtain ⟨w4, hw4⟩ : ∃ w4, w3.alloc (.cells #[.bool (decide (count ≤ left)), .int .i64 4] 72) = w4 := ⟨_, rfl⟩
  rw [hw4]
  have HB4 := Lib.hid (show Below w0.heap.size w0 w4 from hw4 ▸ HB3.out.alloc HB3.out.size _)
  have HO4 := Lib.hid (show w4.ownsRow w0.heap.size 72 2 v2 (1 + n) (flatC ([(there, 1)] ++ cs)) from hw4 ▸ own_alloc HO3.out)
  have HC4 := Lib.hid (show CS w4 w3.heap.size 0 [(decide (count ≤ left), 4)] from hw4 ▸ cs_new w3 [(decide (count ≤ left), 4)])
  have HS4 := Lib.hid ((HB4.out.cell HLT.out).trans HS0.out)
  clear hw4
  refine hK.out _ _ HS4.out (fun hHeld => ?_)
  clear hK K
  try simp only [Act.put, List.setIfInBounds_toArray, List.set_cons_zero, List.set_cons_succ]
  refine wpG_oneA (i := 12) (o := ⟨some 23, _, _, _, _, _⟩) (by kernel_rfl) rfl rfl (fun K hK => ?_)
  refine step_app2 (base := w0.heap.size) rfl (.tmp 16) (.tmp 22) 95 rfl (n := 1 + n) (m := 1) (cs := [(there, 1)] ++ cs) (ds := [(decide (count ≤ left), 4)]) rfl HO4.out rfl HC4.out rfl HM2.out HB4.out.size ?_
  intro v5 w5 hown5 hgr5
  obtain ⟨g5, cap5, rfl, hcs5⟩ := cs_of_own (n := 1 + n + 1) hown5 (by simp [HN.out]; omega) (by omega)
  have HC5 := Lib.hid (show Calls Try.prog 62 #[.slice (some ⟨g5, 0, none⟩) (1 + n + 1) cap5] w5 (fun e w7 => e = .returned (.int .i64 0) ∧ Below w5.heap.size w5 w7) from HE.out ▸ first_any g5 0 (1 + n + 1) cap5 ([(there, 1)] ++ cs ++ [(decide (count ≤ left), 4)]) w5 (by simp [HN.out]; omega) hcs5 HM3.out)
  have HB5 := Lib.hid (HB4.out.grown hgr5 HB4.out.size (fun k hk => (HO4.out.lt k hk).1))
  have HS5 := Lib.hid ((HB5.out.cell HLT.out).trans HS0.out)
  clear hown5 hgr5 hcs5
  refine hK.out _ _ HS5.out (fun hHeld => ?_)
  clear hK K
  try simp only [Act.put, List.setIfInBounds_toArray, List.set_cons_zero, List.set_cons_succ]
  refine wpG_oneB (i := 13) (o := ⟨some 24, _, _, _, _, _⟩) (by kernel_rfl) rfl rfl (fun K hK => ?_)
  go_simp
  (with_reducible refine HC5.out.mono ?_); rintro e w6 ⟨rfl, b6⟩
  have HB6 := Lib.hid (HB5.out.trans (b6.mono HB5.out.size))
  have HS6 := Lib.hid ((HB6.out.cell HLT.out).trans HS0.out)
  clear b6
  refine hK.out _ _ HS6.out (fun hHeld => ?_)
  clear hK K
  try simp only [Act.put, List.setIfInBounds_toArray, List.set_cons_zero, List.set_cons_succ]
  refine wpG_takeB (i := 14) (oi := ⟨some 9, _, _, _, _, _⟩) (v := ?_) rfl (by kernel_rfl) (by kernel_rfl) (by kernel_rfl) (by decide) (fun _ _ _ h => h) h01 rfl hHeld (Or.inl ⟨by rfl, ?_⟩) ?_
  rotate_left
  · (intro w hSw; (try dsimp only at hSw); go_simp; (try with_reducible rfl))
  try simp only [Act.put, List.setIfInBounds_toArray, List.set_cons_zero, List.set_cons_succ]
  refine wpG_done (by kernel_rfl) ?_ _
  refine NoPanic.normal ?_
  have hr6 := HR.out.below (HBW.out.trans (HB6.out.mono HBW.out.size)) (Nat.le_refl _)
  have hc2 := hr6.blk.cell 2
  have HG1 := Lib.hid (HK1.out.below HB6.out HK1.out.lt)
  have HG2 := Lib.hid (HK2.out.below HB6.out HK2.out.lt)
  simp at hc2
  have HR6 := Lib.hid hr6
  clear hr6
  go_wp2_with fail
  go_region_held3 (fun W : World => W.cell? ⟨g, 2, none⟩ = some (.int .i64 p)) (first | exact hc2 | exact cell_drew hc2 | exact cell_drew (cell_keep (cell_keep hc2 _) _))
    (first
      | (go_at_call 40; (with_reducible refine (from_any _ _ _).mono ?_); rintro e w7 ⟨rfl, rfl⟩))
  go_wp2_with fail
  obtain ⟨w8, hw8⟩ : ∃ w8, ((w6.alloc (.cells #[.pointer (some ⟨g, 0, none⟩)] 98)).alloc (.cells #[.int .i64 p] 3)).drew = w8 := ⟨_, rfl⟩
  rw [hw8]
  have hB68 : Below w6.heap.size w6 w8 := hw8 ▸ below_drew (((Below.refl _ w6).alloc (Nat.le_refl _) _).alloc (by simp) _)
  have hz8 : w8.heap.size = w6.heap.size + 2 := by rw [← hw8]; show ((w6.alloc _).alloc _).heap.size = _; simp
  have kS : Blk w8 w6.heap.size 98 #[.pointer (some ⟨g, 0, none⟩)] := hw8 ▸ ((Blk.new w6 98 #[.pointer (some ⟨g, 0, none⟩)]).alloc _).drew
  have kP : Blk w8 (w6.heap.size + 1) 3 #[.int .i64 p] := by have := Blk.new (w6.alloc (.cells #[.pointer (some ⟨g, 0, none⟩)] 98)) 3 #[.int .i64 p]; rw [World.size_alloc] at this; exact hw8 ▸ this.drew
  clear hw8
  have hB8 : Below w.heap.size w w8 := (HBW.out.trans (HB6.out.mono HBW.out.size)).trans (hB68.mono (Nat.le_trans HBW.out.size HB6.out.size))
  have hr8 := HR.out.below hB8 (Nat.le_refl _)
  have k0 : Blk w8 w.heap.size 3 #[.int .i64 count] := (HK0.out.below HB6.out HK0.out.lt).below hB68 (HK0.out.below HB6.out HK0.out.lt).lt
  have k1 : Blk w8 (w.heap.size + 1) 61 #[.slice none 0 0, .int .i64 0] := HG1.out.below hB68 HG1.out.lt
  have k2 : Blk w8 (w.heap.size + 1 + 1) 61 #[.slice none 0 0, .int .i64 0] := HG2.out.below hB68 HG2.out.lt
  have hgs := HR.out.blk.lt
  have h62 : w.heap.size + 2 < w8.heap.size := k2.lt
  obtain ⟨A, cap, hv, -, -, hA0, -⟩ := own_form hr8.own
  have hho : Holds w8 A l.length (l.map u8) := by subst hv; exact holds_own hr8.own
  have hAl : ∀ q, A = some q → v.ownBlock = some q.block := fun q hq => by rw [hv, hq]; rfl
  have hcc := HCC.out
  have hcnt := HCO.out
  have hsm := HR.out.small
  refine (wpIn_wide (n := 99)).1 ?_
  refine wpIn_iter (N := 8 * l.length - p) (At := fun i vs _ => vs = #[.bool (bbit l (p + i))]) (Kp := fun _ X Y => FromS w6.heap.size g A X Y) (Step := fun X Y => X = Y) rfl (by omega) (gf := 65) (lb := #[.pointer (some ⟨w6.heap.size + 1, 0, none⟩), .pointer (some ⟨w6.heap.size, 0, none⟩)]) rfl trivial (enters_of Try.func65 (by kernel_rfl) rfl)
    (fun W1 hb1 hz1 => from_iter 98 W1 (w6.heap.size + 1) w6.heap.size g 66 _ p (8 * l.length) l.length cap A l (kP.below hb1 kP.lt) (kS.below hb1 kS.lt) (hr8.blk.below hb1 hr8.blk.lt) (by rw [hv]; rfl) rfl (hho.keep hb1) (Nat.le_refl _) (by omega))
    (fun X Y h k _ _ => by rw [h])
    (fun vs X Z k o o' hk hZ ho h => ⟨(World.putObj_heap_other (by omega)).trans h.box, (World.putObj_heap_other (by omega)).trans h.own, fun q hq => (World.putObj_heap_other (by have := own_lt hr8.own _ (hAl q hq); omega)).trans (h.row q hq)⟩)
    (fun i vs X h => by rw [h]; rfl)
    (fun j X => j ≤ c ∧ ∃ v', WS X w.heap.size (w.heap.size + 1 + 1) 61 [] v' (cut l p j) ∧ Hat (.slice none 0 0) v' w8 ∧ Blk X w.heap.size 3 #[.int .i64 count] ∧ Blk X (w.heap.size + 1) 61 #[.slice none 0 0, .int .i64 0] ∧ Blk X w6.heap.size 98 #[.pointer (some ⟨g, 0, none⟩)] ∧ Two (w.heap.size + 1 + 1) (.slice none 0 0) w8 X)
    (fun cd j X => cd = .exit 0 ∧ ∃ v', WS X w.heap.size (w.heap.size + 1 + 1) 61 [] v' (cut l p c) ∧ Blk X (w.heap.size + 1) 61 #[.slice none 0 0, .int .i64 0] ∧ Two (w.heap.size + 1 + 1) (.slice none 0 0) w8 X)
    ?hI ?hIx (fun j X Z h hs => hs ▸ h) (fun cd j X Z h hs => hs ▸ h) ?h0
    (fun j vs X a' Wx => (∃ y0 y1 y2 y3 y5 y6 y7 y9 y11 y12 y13 y14 y15 y16 y17 y18 y19 y20 y21 y22 y23 y24 y25 y26 y27 y28 y29 y30 y31 y32 y33 y34 y35 y36 y37 y38 y39 y40 y41 y42 y43 y44 : Value, a' = { tmps := #[y0, y1, y2, y3, .pointer (some ⟨w.heap.size, 0, none⟩), y5, y6, y7, .pointer (some ⟨w.heap.size + 1 + 1, 0, none⟩), y9, .bool (bbit l (p + j)), y11, y12, y13, y14, y15, y16, y17, y18, y19, y20, y21, y22, y23, y24, y25, y26, y27, y28, y29, y30, y31, y32, y33, y34, y35, y36, y37, y38, y39, y40, y41, y42, y43, y44], defers := [] }) ∧ FromS w6.heap.size g A X Wx ∧ j ≤ c ∧ ∃ v', WS Wx w.heap.size (w.heap.size + 1 + 1) 61 [] v' (cut l p j) ∧ Hat (.slice none 0 0) v' w8 ∧ Blk Wx w.heap.size 3 #[.int .i64 count] ∧ Blk Wx (w.heap.size + 1) 61 #[.slice none 0 0, .int .i64 0] ∧ Blk Wx w6.heap.size 98 #[.pointer (some ⟨g, 0, none⟩)] ∧ Two (w.heap.size + 1 + 1) (.slice none 0 0) w8 Wx)
    ?hAx ?assign ?body ?done ?stop
  case hI => exact fun j X k o o' hk hX ho ⟨h1, v', h2, h3, h4, h5, h6, h7⟩ => ⟨h1, v', h2.calm hX ho, h3, h4.calm hX ho, h5.calm hX ho, h6.calm hX ho, h7.calm (by omega) _⟩
  case hIx => exact fun cd j X k o o' hk hX ho ⟨h1, v', h2, h3, h4⟩ => ⟨h1, v', h2.calm hX ho, h3.calm hX ho, h4.calm (by omega) _⟩
  case h0 => exact fun W1 hb1 hz1 => ⟨Nat.zero_le _, .slice none 0 0, ⟨k2.below hb1 k2.lt, (by rw [show cut l p 0 = [] from rfl, pack_nil]; exact World.ownsRow_nil _ _ 5 1), by have := hb1.size; omega⟩, Hat.refl _ _, k0.below hb1 k0.lt, k1.below hb1 k1.lt, kS.below hb1 kS.lt, (Two.refl _ _ _).below hb1⟩
  case hAx => exact fun j vs X0 a' X k o o' hk hX ho ⟨ha, hf, h1, v', h2, h3, h4, h5, h6, h7⟩ => ⟨ha, ⟨(World.putObj_heap_other (by omega)).trans hf.box, (World.putObj_heap_other (by omega)).trans hf.own, fun q hq => (World.putObj_heap_other (by have := own_lt hr8.own _ (hAl q hq); omega)).trans (hf.row q hq)⟩, h1, v', h2.calm hX ho, h3, h4.calm hX ho, h5.calm hX ho, h6.calm hX ho, h7.calm (by omega) _⟩
  case assign =>
    rintro l' j vs X K hl hj hI rfl hlt2 hK
    gi_wp2
    exact hK _ _ (KeepsFrom.refl _ _) ⟨⟨_, _, _, _, _, _, _, _, _, _, _, _, _, _, _, _, _, _, _, _, _, _, _, _, _, _, _, _, _, _, _, _, _, _, _, _, _, _, _, _, _, _, rfl⟩, FromS.refl _ _ _ _, hI⟩
  case body =>
    rintro l' j vs X a' Wx hl hj hr ⟨⟨y0, y1, y2, y3, y5, y6, y7, y9, y11, y12, y13, y14, y15, y16, y17, y18, y19, y20, y21, y22, y23, y24, y25, y26, y27, y28, y29, y30, y31, y32, y33, y34, y35, y36, y37, y38, y39, y40, y41, y42, y43, y44, rfl⟩, hf, hjc, v', h2, h3, h4, h5, h6, h7⟩
    have e1 := h2.blk.cell 1
    have e0 := h4.cell 0
    simp [cut_length] at e0 e1
    have C63 := Lib.hid (add_ws w.heap.size (w.heap.size + 1 + 1) 61 v' [] _ (bbit l (p + j)) Wx h2 (by decide) (by rw [cut_length]; omega))
    by_cases hjj : j = c
    · have hq : ((j : Int) == count) = true := by simp; omega
      have H2 := Lib.hid h2
      have H5 := Lib.hid h5
      have H7 := Lib.hid h7
      clear h2 h3 h4 h5 h6 h7 hf
      gi_wp2_with fail
      exact ⟨KeepsFrom.refl _ _, rfl, v', hjj ▸ H2.out, H5.out, H7.out⟩
    · have hq : ((j : Int) == count) = false := by simp; omega
      have H2 := Lib.hid h2
      have H3 := Lib.hid h3
      have H4 := Lib.hid h4
      have H5 := Lib.hid h5
      have H6 := Lib.hid h6
      have H7 := Lib.hid h7
      have HF := Lib.hid hf
      clear h2 h3 h4 h5 h6 h7 hf
      gi_wp2_with (first | (gi_at_call 63; (with_reducible refine (CallsIn.inRound _ (callsIn_wide.2 C63.out)).mono ?_); rintro e W5 ⟨r5, v5, rfl, k3, k4, k5⟩))
      have hsz := H7.out.size
      have hnb : ∀ {q t : Nat} {cs : Array Value}, Blk Wx q t cs → 5 ≠ t → q ≠ w.heap.size + 1 + 1 → Blk W5 q t cs := fun hq ht hne => (k4.block _ hq.lt hne (own_not_blk H2.out.own hq ht)).trans hq
      have hgq : Wx.heap[g]? = w8.heap[g]? := H7.out.block g hr8.blk.lt (by omega) (by simp [Value.ownBlock])
      have hkg : Blk Wx g 66 _ := hgq.trans hr8.blk
      refine ⟨k4.keeps H2.out.blk H2.out.own _, HF.out.trans ⟨(hnb H6.out (by decide) (by have := kS.lt; have := HG2.out.lt; omega)).trans H6.out.symm, (hnb hkg (by decide) (by omega)).trans hkg.symm, fun q hq => ?_⟩, by omega, v5, by rw [cut_snoc]; exact k3, H3.out.trans hsz k5, hnb H4.out (by decide) (by omega), hnb H5.out (by decide) (by omega), hnb H6.out (by decide) (by have := HG2.out.lt; omega), H7.out.trans H3.out k4⟩
      have hql := own_lt HR.out.own _ (hAl q hq)
      refine k4.block _ (by omega) (by omega) ?_
      rcases H3.out with hh | hh
      · rw [hh]; simp [Value.ownBlock]
      · intro e; have := hh _ e; omega
  case done =>
    rintro D X hD ⟨h1, v', h2, h3, h4, h5, h6, h7⟩ hK
    have hNc : 8 * l.length - p = c := by omega
    rw [hNc] at h2
    have hown := h2.own
    have hblk := h2.blk
    rw [cut_length] at hown hblk
    obtain ⟨A2, cap2, rfl, -⟩ := own_form hown
    have e0 := hblk.cell 0
    have e1 := hblk.cell 1
    have e2 := h5.cell 0
    have e3 := h5.cell 1
    have f0 := h5.frozen 0
    have f1 := h5.frozen 1
    simp at e0 e1 e2 e3
    have HOW := Lib.hid hown
    have H5 := Lib.hid h5
    have hBX : Below w.heap.size w X := hB8.trans ⟨h7.os, h7.tape, h7.output, h7.size, fun k hk => h7.block k (by omega) (by omega) (by simp [Value.ownBlock])⟩
    have HBX := Lib.hid hBX
    have HK := Lib.hid hK
    clear h2 h5 h7 hown hblk hBX hK
    simp only [Exit.inBlock, Exit.then]
    go_at_K
    go_wp2_with fail
    have hKs : ∀ (u u' : Value), ((X.setCell ⟨w.heap.size + 1, 0, none⟩ u).setCell ⟨w.heap.size + 1, 1, none⟩ u').heap[D]? = some (.deferred (some [])) := fun u u' => by
      rw [Below.heap_setCell _ _ _ _ (by simp; omega), Below.heap_setCell _ _ _ _ (by simp; omega)]; exact HK.out
    refine ⟨by simp, .inl ⟨_, _, rfl, run_takeDeferred (hKs _ _), ?_⟩⟩
    have hne := own_not_blk HOW.out H5.out (by decide)
    refine ⟨.tuple #[.agg #[.slice A2 ((c + 7) / 8) cap2, .int .i64 count], .int .i64 0], ?_, .slice A2 ((c + 7) / 8) cap2, rfl, own_calm (own_setCell (own_setCell HOW.out hne _) hne _) (hKs _ _) rfl, below_calm ((HBX.out.setCell (by simp) _).setCell (by simp) _) (by omega) (hKs _ _)⟩
    exact results_row_tmp (p := 6) (u := 7) (ty := 61) rfl _ _ (w.heap.size + 1) 61 #[.slice A2 ((c + 7) / 8) cap2, .int .i64 count] _ rfl (((H5.out.set_ 0 (.slice A2 ((c + 7) / 8) cap2)).set_ 1 (.int .i64 count)).calm (hKs _ _) rfl) Try.underlying61 rfl (by kernel_rfl)
  case stop =>
    rintro D cd j X hD hj ⟨rfl, v', h2, h5, h7⟩ hK
    have hown := h2.own
    have hblk := h2.blk
    rw [cut_length] at hown hblk
    obtain ⟨A2, cap2, rfl, -⟩ := own_form hown
    have e0 := hblk.cell 0
    have e1 := hblk.cell 1
    have e2 := h5.cell 0
    have e3 := h5.cell 1
    have f0 := h5.frozen 0
    have f1 := h5.frozen 1
    simp at e0 e1 e2 e3
    have HOW := Lib.hid hown
    have H5 := Lib.hid h5
    have hBX : Below w.heap.size w X := hB8.trans ⟨h7.os, h7.tape, h7.output, h7.size, fun k hk => h7.block k (by omega) (by omega) (by simp [Value.ownBlock])⟩
    have HBX := Lib.hid hBX
    have HK := Lib.hid hK
    clear h2 h5 h7 hown hblk hBX hK
    gi_wp2_with fail
    go_wp2_with fail
    have hKs : ∀ (u u' : Value), ((X.setCell ⟨w.heap.size + 1, 0, none⟩ u).setCell ⟨w.heap.size + 1, 1, none⟩ u').heap[D]? = some (.deferred (some [])) := fun u u' => by
      rw [Below.heap_setCell _ _ _ _ (by simp; omega), Below.heap_setCell _ _ _ _ (by simp; omega)]; exact HK.out
    refine ⟨by simp, .inl ⟨_, _, rfl, run_takeDeferred (hKs _ _), ?_⟩⟩
    have hne := own_not_blk HOW.out H5.out (by decide)
    refine ⟨.tuple #[.agg #[.slice A2 ((c + 7) / 8) cap2, .int .i64 count], .int .i64 0], ?_, .slice A2 ((c + 7) / 8) cap2, rfl, own_calm (own_setCell (own_setCell HOW.out hne _) hne _) (hKs _ _) rfl, below_calm ((HBX.out.setCell (by simp) _).setCell (by simp) _) (by omega) (hKs _ _)⟩
    exact results_row_tmp (p := 6) (u := 7) (ty := 61) rfl _ _ (w.heap.size + 1) 61 #[.slice A2 ((c + 7) / 8) cap2, .int .i64 count] _ rfl (((H5.out.set_ 0 (.slice A2 ((c + 7) / 8) cap2)).set_ 1 (.int .i64 count)).calm (hKs _ _) rfl) Try.underlying61 rfl (by kernel_rfl)
end Go.Proofs.Ythgbnpafhkhjpaa
