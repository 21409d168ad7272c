/- The contract of (*Writer).write where a condition does not hold. -/
import Derived.Test.YthgbnpafhkhjpaaPk
import Derived.Test.YthgbnpafhkhjpaaFs2
namespace Go.Proofs.Ythgbnpafhkhjpaa
open Go.RowKit
attribute [local go_sem] wide_fn wide_depth wide_fn_in wide_depth_in Oper.semAt_some
set_option linter.unusedVariables false
set_option linter.unusedSimpArgs false

/-- Conditions as cells. -/
def flatC : List (Bool × Int) → List Value
  | [] => []
  | c :: cs => .bool c.1 :: .int .i64 c.2 :: flatC cs
theorem flatC_length : ∀ cs, (flatC cs).length = cs.length * 2
  | [] => rfl
  | c :: cs => by simp [flatC, flatC_length cs]; omega
theorem flatC_append : ∀ cs ds, flatC (cs ++ ds) = flatC cs ++ flatC ds
  | [], ds => rfl
  | c :: cs, ds => by simp [flatC, flatC_append cs ds]
theorem flatC_get : ∀ (cs : List (Bool × Int)) (i : Nat) (h : i < cs.length), (flatC cs)[i * 2]? = some (.bool cs[i].1) ∧ (flatC cs)[i * 2 + 1]? = some (.int .i64 cs[i].2)
  | c :: cs, 0, h => ⟨rfl, rfl⟩
  | c :: cs, i + 1, h => by
    have := flatC_get cs i (by simpa using h)
    rw [show (i + 1) * 2 = i * 2 + 2 by omega]
    exact this
theorem flatC_cells {w : World} {b o : Nat} {cs : List (Bool × Int)} (h : CS w b o cs) : ∀ a, some (⟨b, o, none⟩ : Addr) = some a → ∀ j u, (flatC cs)[j]? = some u → w.cell? (a.add j) = some u := by
  intro a ha j u hu
  cases ha
  rw [Addr.add_lit]
  have hj : j < cs.length * 2 := by
    rw [← flatC_length]
    exact (List.getElem?_eq_some_iff.1 hu).1
  obtain ⟨k1, k2⟩ := h (j / 2) (by omega)
  obtain ⟨g1, g2⟩ := flatC_get cs (j / 2) (by omega)
  by_cases hp : j % 2 = 0
  · have e : j / 2 * 2 = j := by omega
    rw [e] at k1 g1
    rw [g1] at hu; cases hu
    exact k1
  · have e : j / 2 * 2 + 1 = j := by omega
    rw [Nat.add_assoc, e] at k2
    rw [e] at g2
    rw [g2] at hu; cases hu
    exact k2
theorem cs_of_own {w : World} {B n : Nat} {v : Value} {cs : List (Bool × Int)} (h : w.ownsRow B 72 2 v n (flatC cs)) (hn : cs.length = n) (h0 : 0 < n) : ∃ g cap, v = .slice (some ⟨g, 0, none⟩) n cap ∧ CS w g 0 cs := by
  rcases h.2 with ⟨_, h1⟩ | ⟨g, cap, cur, rfl, hg, hh, hnc, hm, hs, ht⟩
  · omega
  · refine ⟨g, cap, rfl, fun i hi => ?_⟩
    have hb : Blk w g 72 cur := hh
    obtain ⟨g1, g2⟩ := flatC_get cs i hi
    rw [hb.cell, hb.cell]
    rw [← ht, List.getElem?_take] at g1 g2
    rw [if_pos (by omega)] at g1 g2
    simp only [Nat.zero_add]
    exact ⟨by simpa using g1, by simpa using g2⟩
theorem info_parts' {o : Option TypeInfo} {z : Option Value} {s b : Nat} (h : o.map (fun i => (i.zero, i.size, i.bytes)) = some (z, s, b)) : ∃ i, o = some i ∧ i.zero = z ∧ i.size = s ∧ i.bytes = b := by
  cases o with
  | none => cases h
  | some i => simp at h; exact ⟨i, rfl, h.1, h.2.1, h.2.2⟩
theorem info72 : (Try.prog.info? 72).map (fun i => (i.zero, i.size, i.bytes)) = some (some (.agg #[.bool false, .int .i64 0]), 2, 16) := by kernel_rfl

theorem two_cells (w : World) (x y : Value) (t : TypeId) : ∀ j u, ([x, y] : List Value)[j]? = some u → (w.alloc (.cells #[x, y] t)).cell? ((⟨w.heap.size, 0, none⟩ : Addr).add j) = some u := by
  intro j u hu
  rw [Addr.add_lit, (Blk.new w t #[x, y]).cell]
  simpa using hu
theorem two_cells1 (w : World) (o : Obj) (x y : Value) (t : TypeId) : ∀ j u, ([x, y] : List Value)[j]? = some u → ((w.alloc o).alloc (.cells #[x, y] t)).cell? ((⟨w.heap.size + 1, 0, none⟩ : Addr).add j) = some u := by
  have := two_cells (w.alloc o) x y t
  rwa [World.size_alloc] at this
theorem two_one (t : Bool) (E : Int) : ∀ u ∈ [Value.bool t, .int .i64 E], u.oneCell' = true := by
  intro u hu
  simp at hu
  rcases hu with rfl | rfl <;> rfl

set_option maxRecDepth 100000 in
set_option maxHeartbeats 1000000 in
theorem write_err (p : Option Addr) (f : Value) (count len E : Int) (b n : Nat) (cs : List (Bool × Int)) (w : World) (hcs : CS w b 0 cs) (hn : cs.length = n) (h0 : 0 < n) (h1 : n ≤ 100)
    (hL : ∀ W, Below w.heap.size w W → Calls Try.prog 13 #[.pointer p] W fun e w' => e = .returned (.int .i64 len) ∧ W = w') (hl0 : 0 ≤ len) (hl1 : len ≤ 8388608) (hE : firstE (cs ++ [(decide (count ≤ 8388608 - len), 7)]) = E) (hne : (E == 0) = false) :
    Calls Try.prog 34 #[.pointer p, f, .int .i64 count, .slice (some ⟨b, 0, none⟩) n n] w fun e w' => e = .returned (.int .i64 E) ∧ Below w.heap.size w w' := by
  have hb1 := Lib.hid (show Below w.heap.size w (w.alloc (.cells #[.pointer p] 23)) from (Below.refl _ w).alloc (Nat.le_refl _) _)
  have HL := Lib.hid (hL _ hb1.out)
  have HCS := Lib.hid hcs
  have HE := Lib.hid hE
  have HN := Lib.hid hn
  obtain ⟨i0, hi0, hz0, hz1, hz2⟩ := info_parts' info72
  have HB := Lib.hid (show n < n + 1 ∧ n + 1 ≤ maxLen ∧ (n + 1) * 16 ≤ 140737488355328 by unfold maxLen; omega)
  have HN2 := Lib.hid (show n + 1 ≤ 1000 by omega)
  have HLE := Lib.hid (show (flatC cs).length = n * 2 by rw [flatC_length, hn])
  clear hcs hE hL hn h1
  generalize hq : decide (count ≤ 8388608 - len) = q at *
  go_enter Try.func34, Try.ntmps34
  go_wp2_with (first
    | (go_at_call 13; (with_reducible refine HL.out.mono ?_); rintro e w' ⟨rfl, rfl⟩)
    | (at_builtin; go_must (refine wpList_append_grows _ rfl (.tmp 11) (.tmp 18) 95 rfl 72 i0 (.agg #[.bool false, .int .i64 0]) 2 16 Try.underlying95 hi0 hz0 hz1 hz2 rfl (by decide) (some ⟨b, 0, none⟩) n n (flatC cs) rfl (by intro e; cases e) HLE.out (flatC_cells ((HCS.out.keep hb1.out).keep ((Below.refl _ _).alloc (Nat.le_refl _) _))) ⟨w.heap.size + 1, 0, none⟩ 1 1 [.bool q, .int .i64 7] rfl rfl (two_cells1 _ _ _ _ _) (two_one _ _) HB.out.1 HB.out.2.1 HB.out.2.2 ?_; intro v2 w2 hown hgr; refine Hid.out ?_)))
  refine Lib.hid ?_
  obtain ⟨g2, cap2, rfl, hcs2⟩ := cs_of_own (cs := cs ++ [(q, 7)]) (by rw [flatC_append]; exact hown) (by simp [HN.out]) (by omega)
  have C := Lib.hid (first_any g2 0 (n + 1) cap2 (cs ++ [(q, 7)]) w2 (by simp [HN.out]) hcs2 HN2.out)
  have hb2 : Below w.heap.size w w2 := by
    exact (hb1.out.alloc (by simp) _).grown hgr (by simp; omega) (by intro k hk; cases hk)
  have HB2 := Lib.hid hb2
  clear hgr hown hcs2 hb2
  rw [HE.out] at C
  clear HE
  go_wp2_with (first
    | (go_at_call 62; (with_reducible refine C.out.mono ?_); rintro e w' ⟨rfl, hb3⟩; have HB3 := Lib.hid (HB2.out.trans (hb3.mono HB2.out.size)); clear hb3))
  go_ret
  exact ⟨rfl, HB3.out⟩
end Go.Proofs.Ythgbnpafhkhjpaa
