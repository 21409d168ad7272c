/- The contract of (*Reader).read where a condition does not hold. -/
import Derived.Test.YthgbnpafhkhjpaaRd
import Derived.Test.YthgbnpafhkhjpaaOrd
import Derived.Laws.ResultCell
namespace Go.Proofs.Ythgbnpafhkhjpaa
open Go.RowKit
set_option linter.unusedVariables false
set_option linter.unusedSimpArgs false

theorem results_row_tmp {P : Program} {fn : Func} {p u : Tmp} {ty : TypeId} (h : fn.results = #[.cell p ty, .tmp u]) (tmps : Array Value) (w : World) (g : Nat) (t : TypeId) (cs : Array Value) (d : TypeDesc)
    (hp : tmps.getD p undef = .pointer (some ⟨g, 0, none⟩)) (hg : Blk w g t cs) (hu : P.underlying ty = some d) (hd : (match d with | .struct _ | .array _ _ => true | _ => false) = true) (hi : (P.info? ty).map (·.size) = some cs.size) :
    (results fn tmps).run P w = .ok (.tuple #[.agg cs, tmps.getD u undef]) w := by
  rw [results_cell_tmp h, hp]
  simp [asAddr, Result.andThen, run_loadVar_row w g t ty cs (0, 0) d hg hu hd hi]
section
variable {P : Program} {o : Oper} {a : Act} {ops : Array Oper} {w : World} {Q : Exit → Act → World → Prop}
theorem flatC_one : ∀ (cs : List (Bool × Int)), ∀ u ∈ flatC cs, u.oneCell' = true
  | [], u, hu => by cases hu
  | c :: cs, u, hu => by
    simp [flatC] at hu
    rcases hu with rfl | rfl | hu
    · rfl
    · rfl
    · exact flatC_one cs u hu
theorem run_app2 {base n m c : Nat} {v : Value} {ad : Addr} {cs ds : List (Bool × Int)} (ty : TypeId) (hown : w.ownsRow base 72 2 v n (flatC cs)) (hd : CS w ad.block ad.off ds) (had : ad.spot = none) (hdm : ds.length = m) (hm : n + m ≤ 1000) (hb : base ≤ w.heap.size) :
    ∃ v' w', (Builtin.append_ #[95, 95] ty #[v, .slice (some ad) m c]).run Try.prog w = .ok v' w' ∧ w'.ownsRow base 72 2 v' (n + m) (flatC (cs ++ ds)) ∧ w.grownBy w' v.ownBlock := by
  obtain ⟨i0, hi0, hz0, hz1, hz2⟩ := info_parts' info72
  obtain ⟨b, o, sp⟩ := ad
  cases had
  obtain ⟨v', w', h1, h2, h3, _⟩ := run_append_own (P := Try.prog) (w := w) base 95 ty 72 i0 (.agg #[.bool false, .int .i64 0]) 2 16 Try.underlying95 hi0 hz0 hz1 hz2 rfl (by decide) v n (flatC cs) hown ⟨b, o, none⟩ m c (flatC ds) (by rw [flatC_length, hdm]) (flatC_cells hd _ rfl) (flatC_one ds) (by unfold maxLen; omega) (by omega) hb
  exact ⟨v', w', h1, by rw [flatC_append]; exact h2, h3⟩
theorem step_app2 {K : Act → World → Prop} {E : Prop} {base : Nat} (hgd : o.guard = none) (s x : Operand) (t : TypeId) (hop : o.op = Op.call { callee := Callee.builtin Builtin.append, args := #[s, x], argTypes := #[95, 95] }) {n m c : Nat} {v : Value} {b off : Nat} {cs ds : List (Bool × Int)}
    (hs : a.eval s = v) (hown : w.ownsRow base 72 2 v n (flatC cs)) (hx : a.eval x = .slice (some ⟨b, off, none⟩) m c) (hd : CS w b off ds) (hdm : ds.length = m) (hm : n + m ≤ 1000) (hb : base ≤ w.heap.size)
    (hK : ∀ v' w', w'.ownsRow base 72 2 v' (n + m) (flatC (cs ++ ds)) → w.grownBy w' v.ownBlock → K (a.put o.dst v') w') : if Region.wanted o (yielded ops a.tmps) = true then Oper.wp Try.prog o a w K Q else E := by
  obtain ⟨v', w', hrun, p1, p2⟩ := run_app2 (c := c) (ad := ⟨b, off, none⟩) o.type hown hd rfl hdm hm hb
  exact step_run hgd s x 95 hop hs hx hrun (hK v' w' p1 p2)
end

set_option maxRecDepth 100000 in
set_option maxHeartbeats 4000000 in
theorem read_err (p : Option Addr) (count left E : Int) (there : Bool) (b n : Nat) (cs : List (Bool × Int)) (w : World) (hcs : CS w b 0 cs) (hn : cs.length = n) (h0 : 0 < n) (h1 : n ≤ 100)
    (h49 : ∀ W, Below w.heap.size w W → Calls Try.prog 49 #[.pointer p] W fun e w' => e = .returned (.bool there) ∧ W = w') (h24 : ∀ W, Below w.heap.size w W → Calls Try.prog 24 #[.pointer p] W fun e w' => e = .returned (.int .i64 left) ∧ Below W.heap.size W w')
    (hE : firstE ([(there, 1)] ++ cs ++ [(decide (count ≤ left), 4)]) = E) (hne : (E == 0) = false) :
    Calls Try.prog 46 #[.pointer p, .int .i64 count, .slice (some ⟨b, 0, none⟩) n n] w fun e w' => e = .returned (.tuple #[.agg #[.slice none 0 0, .int .i64 0], .int .i64 E]) ∧ Below w.heap.size w w' := by
  obtain ⟨w0, hW0⟩ : ∃ w0, ((w.alloc (.cells #[.int .i64 count] 3)).alloc (.cells #[.slice none 0 0, .int .i64 0] 61)).alloc (.cells #[.slice none 0 0, .int .i64 0] 61) = w0 := ⟨_, rfl⟩
  have HW0 := Lib.hid hW0
  have HBW := Lib.hid (show Below w.heap.size w w0 from hW0 ▸ (((Below.refl _ w).alloc (Nat.le_refl _) _).alloc (by simp) _).alloc (by simp; omega) _)
  have hk0 : Blk w0 w.heap.size 3 #[.int .i64 count] := hW0 ▸ ((Blk.new w 3 #[.int .i64 count]).alloc _).alloc _
  have HK1 := Lib.hid (show Blk w0 (w.heap.size + 1) 61 #[.slice none 0 0, .int .i64 0] by have := (Blk.new (w.alloc (.cells #[.int .i64 count] 3)) 61 #[.slice none 0 0, .int .i64 0]).alloc (.cells #[.slice none 0 0, .int .i64 0] 61); rw [World.size_alloc, hW0] at this; exact this)
  have HK2 := Lib.hid (show Blk w0 (w.heap.size + 1 + 1) 61 #[.slice none 0 0, .int .i64 0] by have := Blk.new ((w.alloc (.cells #[.int .i64 count] 3)).alloc (.cells #[.slice none 0 0, .int .i64 0] 61)) 61 #[.slice none 0 0, .int .i64 0]; rw [World.size_alloc, World.size_alloc, hW0] at this; exact this)
  have HLT := Lib.hid hk0.lt
  have HS0 := Lib.hid (show w0.cell? ⟨w.heap.size, 0, none⟩ = some (.int .i64 count) from hk0.cell 0)
  have H49 := Lib.hid (h49 w0.drew (below_drew HBW.out))
  have H24 := Lib.hid h24
  obtain ⟨w1, hW1⟩ : ∃ w1, (w0.alloc (.cells #[.bool there, .int .i64 1] 72)).drew = w1 := ⟨_, rfl⟩
  have HW1 := Lib.hid hW1
  have HB1 := Lib.hid (show Below w0.heap.size w0 w1 from hW1 ▸ below_drew ((Below.refl _ w0).alloc (Nat.le_refl _) _))
  have HS1 := Lib.hid ((HB1.out.cell HLT.out).trans HS0.out)
  have HO1 := Lib.hid (show w1.ownsRow w0.heap.size 72 2 (.slice (some ⟨w0.heap.size, 0, none⟩) 1 1) 1 (flatC [(there, 1)]) from hW1 ▸ own_drew (World.ownsRow_lit w0 #[.bool there, .int .i64 1] 1 (Nat.le_refl _) (by decide) rfl))
  have HC1 := Lib.hid ((hcs.keep HBW.out).keep HB1.out)
  have HN := Lib.hid hn
  have HM1 := Lib.hid (show 1 + n ≤ 1000 by omega)
  have HM2 := Lib.hid (show 1 + n + 1 ≤ 1000 by omega)
  have HM3 := Lib.hid (show 1 + n + 1 ≤ 1000 by omega)
  have HZ1 := Lib.hid HB1.out.size
  have HE := Lib.hid hE
  clear hW0 hW1 hk0 h49 h24 hcs hn h0 h1 hE
  go_enter Try.func46, Try.ntmps46
  go_wp2_with fail
  rw [HW0.out]
  refine wp_region_G (S0 := (fun (w' : World) => w'.cell? ⟨w.heap.size, 0, none⟩ = some (.int .i64 count))) (S1 := (fun (w' : World) => w'.cell? ⟨w.heap.size, 0, none⟩ = some (.int .i64 count))) (c := 13) (by kernel_rfl) ?_
  have hHeld := (show w0.drew.cell? ⟨w.heap.size, 0, none⟩ = some (.int .i64 count) from HS0.out)
  have h01 := (fun (w' : World) (h : w'.cell? ⟨w.heap.size, 0, none⟩ = some (.int .i64 count)) => h)
  refine wpG_takeA (i := 0) (oi := ⟨some 11, _, _, _, _, _⟩) (v := ?_) rfl (by kernel_rfl) (by kernel_rfl) (by kernel_rfl) (by decide) (fun _ _ _ h => h) h01 rfl hHeld (Or.inl ⟨by rfl, ?_⟩) ?_
  rotate_left
  · (intro w hSw; (try dsimp only at hSw); go_simp; (try with_reducible rfl))
  try simp only [Act.put, List.setIfInBounds_toArray, List.set_cons_zero, List.set_cons_succ]
  refine wpG_takeA (i := 4) (oi := ⟨some 15, _, _, _, _, _⟩) (v := ?_) rfl (by kernel_rfl) (by kernel_rfl) (by kernel_rfl) (by decide) (fun _ _ _ h => h) h01 rfl hHeld (Or.inl ⟨by rfl, ?_⟩) ?_
  rotate_left
  · (intro w hSw; (try dsimp only at hSw); go_simp; (try with_reducible rfl))
  try simp only [Act.put, List.setIfInBounds_toArray, List.set_cons_zero, List.set_cons_succ]
  refine wpG_takeA (i := 6) (oi := ⟨some 17, _, _, _, _, _⟩) (v := ?_) rfl (by kernel_rfl) (by kernel_rfl) (by kernel_rfl) (by decide) (fun _ _ _ h => h) h01 rfl hHeld (Or.inl ⟨by rfl, ?_⟩) ?_
  rotate_left
  · (intro w hSw; (try dsimp only at hSw); go_simp; (try with_reducible rfl))
  try simp only [Act.put, List.setIfInBounds_toArray, List.set_cons_zero, List.set_cons_succ]
  refine wpG_takeA (i := 7) (oi := ⟨some 18, _, _, _, _, _⟩) (v := ?_) rfl (by kernel_rfl) (by kernel_rfl) (by kernel_rfl) (by decide) (fun _ _ _ h => h) h01 rfl hHeld (Or.inl ⟨by rfl, ?_⟩) ?_
  rotate_left
  · (intro w hSw; (try dsimp only at hSw); go_simp; (try with_reducible rfl))
  try simp only [Act.put, List.setIfInBounds_toArray, List.set_cons_zero, List.set_cons_succ]
  refine wpG_oneA (i := 1) (o := ⟨some 12, _, _, _, _, _⟩) (by kernel_rfl) rfl rfl (fun K hK => ?_)
  go_simp
  (with_reducible refine H49.out.mono ?_); rintro e w1 ⟨rfl, rfl⟩
  refine hK.out _ _ hHeld (fun hHeld => ?_)
  clear hK K
  try simp only [Act.put, List.setIfInBounds_toArray, List.set_cons_zero, List.set_cons_succ]
  refine wpG_takeA (i := 2) (oi := ⟨some 13, _, _, _, _, _⟩) (v := ?_) rfl (by kernel_rfl) (by kernel_rfl) (by kernel_rfl) (by decide) (fun _ _ _ h => h) h01 rfl hHeld (Or.inl ⟨by rfl, ?_⟩) ?_
  rotate_left
  · (intro w hSw; (try dsimp only at hSw); go_simp; (try with_reducible rfl))
  try simp only [Act.put, List.setIfInBounds_toArray, List.set_cons_zero, List.set_cons_succ]
  refine wpG_oneA (i := 3) (o := ⟨some 14, _, _, _, _, _⟩) (by kernel_rfl) rfl rfl (fun K hK => ?_)
  go_simp
  rw [HW1.out]
  refine hK.out _ _ HS1.out (fun hHeld => ?_)
  clear hK K
  try simp only [Act.put, List.setIfInBounds_toArray, List.set_cons_zero, List.set_cons_succ]
  refine wpG_oneA (i := 5) (o := ⟨some 16, _, _, _, _, _⟩) (by kernel_rfl) rfl rfl (fun K hK => ?_)
  refine step_app2 (base := w0.heap.size) rfl (.tmp 14) (.tmp 15) 95 rfl (n := 1) (m := n) (cs := [(there, 1)]) (ds := cs) rfl HO1.out rfl HC1.out HN.out HM1.out HZ1.out ?_
  intro v2 w2 hown2 hgr2
  have HO2 := Lib.hid hown2
  have HB2 := Lib.hid (HB1.out.grown hgr2 HZ1.out (fun k hk => (HO1.out.lt k hk).1))
  have HS2 := Lib.hid ((HB2.out.cell HLT.out).trans HS0.out)
  clear hown2 hgr2
  refine hK.out _ _ HS2.out (fun hHeld => ?_)
  clear hK K
  try simp only [Act.put, List.setIfInBounds_toArray, List.set_cons_zero, List.set_cons_succ]
  refine wpG_oneA (i := 8) (o := ⟨some 19, _, _, _, _, _⟩) (by kernel_rfl) rfl rfl (fun K hK => ?_)
  go_simp
  (refine (H24.out w2 (HBW.out.trans (HB2.out.mono HBW.out.size))).mono ?_); rintro e w3 ⟨rfl, b3⟩
  have HO3 := Lib.hid (own_keeps HO2.out fun k hk => b3.block k (own_lt HO2.out k hk))
  have HB3 := Lib.hid (HB2.out.trans (b3.mono HB2.out.size))
  have HS3 := Lib.hid ((HB3.out.cell HLT.out).trans HS0.out)
  clear b3
  refine hK.out _ _ HS3.out (fun hHeld => ?_)
  clear hK K
  try simp only [Act.put, List.setIfInBounds_toArray, List.set_cons_zero, List.set_cons_succ]
  refine wpG_takeA (i := 9) (oi := ⟨some 20, _, _, _, _, _⟩) (v := ?_) rfl (by kernel_rfl) (by kernel_rfl) (by kernel_rfl) (by decide) (fun _ _ _ h => h) h01 rfl hHeld (Or.inl ⟨by rfl, ?_⟩) ?_
  rotate_left
  · (intro w hSw; (try dsimp only at hSw); go_simp; (try with_reducible rfl))
  try simp only [Act.put, List.setIfInBounds_toArray, List.set_cons_zero, List.set_cons_succ]
  refine wpG_takeA (i := 10) (oi := ⟨some 21, _, _, _, _, _⟩) (v := ?_) rfl (by kernel_rfl) (by kernel_rfl) (by kernel_rfl) (by decide) (fun _ _ _ h => h) h01 rfl hHeld (Or.inl ⟨by rfl, ?_⟩) ?_
  rotate_left
  · (intro w hSw; (try dsimp only at hSw); go_simp; (try with_reducible rfl))
  try simp only [Act.put, List.setIfInBounds_toArray, List.set_cons_zero, List.set_cons_succ]
  refine wpG_oneA (i := 11) (o := ⟨some 22, _, _, _, _, _⟩) (by kernel_rfl) rfl rfl (fun K hK => ?_)
  go_simp
  obtain ⟨w4, hw4⟩ : ∃ w4, w3.alloc (.cells #[.bool (decide (count ≤ left)), .int .i64 4] 72) = w4 := ⟨_, rfl⟩
  rw [hw4]
  have HB4 := Lib.hid (show Below w0.heap.size w0 w4 from hw4 ▸ HB3.out.alloc HB3.out.size _)
  have HO4 := Lib.hid (show w4.ownsRow w0.heap.size 72 2 v2 (1 + n) (flatC ([(there, 1)] ++ cs)) from hw4 ▸ own_alloc HO3.out)
  have HC4 := Lib.hid (show CS w4 w3.heap.size 0 [(decide (count ≤ left), 4)] from hw4 ▸ cs_new w3 [(decide (count ≤ left), 4)])
  have HS4 := Lib.hid ((HB4.out.cell HLT.out).trans HS0.out)
  clear hw4
  refine hK.out _ _ HS4.out (fun hHeld => ?_)
  clear hK K
  try simp only [Act.put, List.setIfInBounds_toArray, List.set_cons_zero, List.set_cons_succ]
  refine wpG_oneA (i := 12) (o := ⟨some 23, _, _, _, _, _⟩) (by kernel_rfl) rfl rfl (fun K hK => ?_)
  refine step_app2 (base := w0.heap.size) rfl (.tmp 16) (.tmp 22) 95 rfl (n := 1 + n) (m := 1) (cs := [(there, 1)] ++ cs) (ds := [(decide (count ≤ left), 4)]) rfl HO4.out rfl HC4.out rfl HM2.out HB4.out.size ?_
  intro v5 w5 hown5 hgr5
  obtain ⟨g5, cap5, rfl, hcs5⟩ := cs_of_own (n := 1 + n + 1) hown5 (by simp [HN.out]; omega) (by omega)
  have HC5 := Lib.hid (show Calls Try.prog 62 #[.slice (some ⟨g5, 0, none⟩) (1 + n + 1) cap5] w5 (fun e w7 => e = .returned (.int .i64 E) ∧ Below w5.heap.size w5 w7) from HE.out ▸ first_any g5 0 (1 + n + 1) cap5 ([(there, 1)] ++ cs ++ [(decide (count ≤ left), 4)]) w5 (by simp [HN.out]; omega) hcs5 HM3.out)
  have HB5 := Lib.hid (HB4.out.grown hgr5 HB4.out.size (fun k hk => (HO4.out.lt k hk).1))
  have HS5 := Lib.hid ((HB5.out.cell HLT.out).trans HS0.out)
  clear hown5 hgr5 hcs5
  refine hK.out _ _ HS5.out (fun hHeld => ?_)
  clear hK K
  try simp only [Act.put, List.setIfInBounds_toArray, List.set_cons_zero, List.set_cons_succ]
  refine wpG_oneB (i := 13) (o := ⟨some 24, _, _, _, _, _⟩) (by kernel_rfl) rfl rfl (fun K hK => ?_)
  go_simp
  (with_reducible refine HC5.out.mono ?_); rintro e w6 ⟨rfl, b6⟩
  have HB6 := Lib.hid (HB5.out.trans (b6.mono HB5.out.size))
  have HS6 := Lib.hid ((HB6.out.cell HLT.out).trans HS0.out)
  clear b6
  refine hK.out _ _ HS6.out (fun hHeld => ?_)
  clear hK K
  try simp only [Act.put, List.setIfInBounds_toArray, List.set_cons_zero, List.set_cons_succ]
  refine wpG_takeB (i := 14) (oi := ⟨some 9, _, _, _, _, _⟩) (v := ?_) rfl (by kernel_rfl) (by kernel_rfl) (by kernel_rfl) (by decide) (fun _ _ _ h => h) h01 rfl hHeld (Or.inl ⟨by rfl, ?_⟩) ?_
  rotate_left
  · (intro w hSw; (try dsimp only at hSw); go_simp; (try with_reducible rfl))
  try simp only [Act.put, List.setIfInBounds_toArray, List.set_cons_zero, List.set_cons_succ]
  refine wpG_done (by kernel_rfl) ?_ _
  have hg1 := HK1.out.below HB6.out HK1.out.lt
  have hg2 := HK2.out.below HB6.out HK2.out.lt
  have q1 := hg1.cell 0
  have q2 := hg1.cell 1
  have q3 := hg2.cell 0
  have q4 := hg2.cell 1
  have f1 := hg1.frozen 0
  have f2 := hg1.frozen 1
  simp at q1 q2 q3 q4
  have HG1 := Lib.hid hg1
  have HG2 := Lib.hid hg2
  clear hg1 hg2
  have HB7 := Lib.hid (HBW.out.trans (HB6.out.mono HBW.out.size))
  go_wp2_with fail
  refine bodyPost_ret (v := .tuple #[.agg #[.slice none 0 0, .int .i64 0], .int .i64 E]) ?_ rfl ⟨rfl, ?_⟩
  · exact results_row_tmp (p := 6) (u := 7) (ty := 61) rfl _ _ (w.heap.size + 1) 61 #[.slice none 0 0, .int .i64 0] _ rfl ((HG1.out.set_ 0 (.slice none 0 0)).set_ 1 (.int .i64 0)) Try.underlying61 rfl (by kernel_rfl)
  · exact (HB7.out.setCell (by simp) _).setCell (by simp) _
end Go.Proofs.Ythgbnpafhkhjpaa
