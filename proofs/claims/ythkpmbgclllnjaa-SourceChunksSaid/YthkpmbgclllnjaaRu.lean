/- The reference: Until. -/
import Derived.Test.YthkpmbgclllnjaaRk
import Derived.Lib.IndexLaws
namespace Go.Proofs.Ythkpmbgclllnjaa
open Go.RowKit
set_option linter.unusedVariables false
set_option linter.unusedSimpArgs false

theorem atB_found {l : List UInt8} {x : UInt8} {n : Int} {i : Nat} (h : ∀ k, k < i → l[k]? ≠ some x) (hi : l[i]? = some x) (hin : (i : Int) ≤ n) : atB l x n = i := by
  unfold atB
  have hi2 : (l.take (n.toNat + 1))[i]? = some x := by rw [List.getElem?_take_of_lt (by omega)]; exact hi
  have hge := Lib.indexByte_ge (l.take (n.toNat + 1)) x
  by_cases hm : Lib.indexByte (l.take (n.toNat + 1)) x = -1
  · exact absurd hi2 (Lib.indexByte_none hm i)
  · obtain ⟨o, ho⟩ : ∃ o : Nat, Lib.indexByte (l.take (n.toNat + 1)) x = o := ⟨(Lib.indexByte (l.take (n.toNat + 1)) x).toNat, by omega⟩
    obtain ⟨h1, h2⟩ := Lib.indexByte_some ho
    rw [ho]
    have ho1 : ¬ o < i := fun hlt => by
      rw [List.getElem?_take_of_lt (by omega)] at h1
      exact h o hlt h1
    have ho2 : ¬ i < o := fun hlt => h2 i hlt hi2
    omega
theorem atB_miss {l : List UInt8} {x : UInt8} {n : Int} (h : ∀ k : Nat, (k : Int) ≤ n → l[k]? ≠ some x) (hn : 0 ≤ n) : atB l x n = -1 := by
  unfold atB
  have hge := Lib.indexByte_ge (l.take (n.toNat + 1)) x
  by_cases hm : Lib.indexByte (l.take (n.toNat + 1)) x = -1
  · exact hm
  · obtain ⟨o, ho⟩ : ∃ o : Nat, Lib.indexByte (l.take (n.toNat + 1)) x = o := ⟨(Lib.indexByte (l.take (n.toNat + 1)) x).toNat, by omega⟩
    obtain ⟨h1, h2⟩ := Lib.indexByte_some ho
    have hlt : o < n.toNat + 1 := by
      have := (List.getElem?_eq_some_iff.1 h1).1
      rw [List.length_take] at this
      omega
    rw [List.getElem?_take_of_lt hlt] at h1
    exact absurd h1 (h o (by omega))
theorem miss_all {l : List UInt8} {x : UInt8} {i : Nat} (h : ∀ k, k < i → l[k]? ≠ some x) (hi : l.length ≤ i) (k : Nat) : l[k]? ≠ some x := by
  by_cases hk : k < i
  · exact h k hk
  · rw [List.getElem?_eq_none (by omega)]; exact fun e => by cases e
theorem far4 {W : World} {g g2 : Nat} {cs : Array Value} (h : Blk W g 37 cs) (hne : g ≠ g2) (a b d e : Value) : Blk ((((W.setCell ⟨g2, 0, none⟩ a).setCell ⟨g2, 1, none⟩ b).setCell ⟨g2, 2, none⟩ d).setCell ⟨g2, 3, none⟩ e) g 37 cs := (((h.far hne _).far hne _).far hne _).far hne _
section
variable {lim : Nat} {A : Option Addr} {n c tk : Nat} {cl : Bool} {l : List UInt8} {w : World}
/-- No byte ahead of place i is x. -/
def NoX (l : List UInt8) (x : UInt8) (i : Nat) : Prop := ∀ k, k < i → l[k]? ≠ some x
theorem untilE_miss {m : List UInt8} {x : UInt8} {N : Nat} (hN : N < lim) (h : NoX m x (N + 1)) (hl : N < m.length) : untilE lim cl m x N = 5 := by
  unfold untilE
  rw [atB_miss (fun k hk => h k (by omega)) (by omega), if_neg (by omega), if_neg (by omega), if_pos (by omega), if_pos (by omega)]
theorem untilE_few {m : List UInt8} {x : UInt8} {N : Nat} (hN : N < lim) (h : NoX m x m.length) (hl : m.length ≤ N) : untilE lim cl m x N = if cl then 9 else 4 := by
  unfold untilE
  rw [atB_miss (fun k _ => miss_all h (Nat.le_refl _) k) (by omega), if_neg (by omega), if_neg (by omega), if_pos (by omega), if_neg (by omega)]
theorem untilE_found {m : List UInt8} {x : UInt8} {N i : Nat} (hN : N < lim) (h : NoX m x i) (hi : m[i]? = some x) (hl : i ≤ N) : untilE lim cl m x N = 0 := by
  unfold untilE
  rw [atB_found h hi (by omega), if_neg (by omega), if_neg (by omega), if_neg (by omega)]
/-- The four cells, with a place that is an integer. -/
def FI (g lim : Nat) (A : Option Addr) (n c : Nat) (ti : Int) (cl : Bool) (W : World) : Prop := W.cell? ⟨g, 0, none⟩ = some (.int .i64 (lim : Int)) ∧ W.cell? ⟨g, 1, none⟩ = some (.slice A n c) ∧ W.cell? ⟨g, 2, none⟩ = some (.int .i64 ti) ∧ W.cell? ⟨g, 3, none⟩ = some (.bool cl)
/-- What Until of the reference returns. -/
def RUn (w : World) (lim tk : Nat) (cl : Bool) (A : Option Addr) (n c : Nat) (m : List UInt8) (x : UInt8) (N : Int) (e : Ending) (w' : World) : Prop := RTk w lim tk cl A n c m (untilE lim cl m x N) (if untilE lim cl m x N = 0 then tk + (atB m x N).toNat + 1 else tk) (if untilE lim cl m x N = 0 then m.take (atB m x N).toNat else []) e w'
theorem RUn.bad {m : List UInt8} {x : UInt8} {N E : Int} {e : Ending} {w' : World} (hE : untilE lim cl m x N = E) (h0 : ¬ E = 0) (h : RTk w lim tk cl A n c m E tk [] e w') : RUn w lim tk cl A n c m x N e w' := by
  unfold RUn
  rw [hE, if_neg h0, if_neg h0]
  exact h
theorem RUn.good {m : List UInt8} {x : UInt8} {N : Int} {k : Nat} {e : Ending} {w' : World} (hE : untilE lim cl m x N = 0) (hat : atB m x N = k) (h : RTk w lim tk cl A n c m 0 (tk + k + 1) (m.take k) e w') : RUn w lim tk cl A n c m x N e w' := by
  unfold RUn
  rw [hE, if_pos rfl, if_pos rfl, hat, Int.toNat_natCast]
  exact h
set_option maxRecDepth 100000 in
set_option maxHeartbeats 2000000 in
theorem runtil_any (h : RB w A n c l) (hsp : ∀ a, A = some a → a.spot = none) (ht : tk ≤ n) (hn : n ≤ 2000000) (hlim : lim ≤ 1048576) (x : UInt8) (N : Int) :
    Calls Try.prog 46 #[.agg #[.int .i64 lim, .slice A n c, .int .i64 tk, .bool cl], .int .u8 (x.toNat : Int), .int .i64 N] w (RUn w lim tk cl A n c (l.drop tk) x N) := by
  obtain ⟨w0, hW0⟩ : ∃ w0, (w.alloc (.cells #[.int .i64 lim, .slice A n c, .int .i64 tk, .bool cl] 37)).alloc (.cells #[.int .i64 0, .slice none 0 0, .int .i64 0, .bool false] 37) = w0 := ⟨_, rfl⟩
  have hbw : Below w.heap.size w w0 := hW0 ▸ ((Below.refl _ w).alloc (Nat.le_refl _) _).alloc (by simp) _
  have k1 : Blk w0 w.heap.size 37 #[.int .i64 lim, .slice A n c, .int .i64 tk, .bool cl] := hW0 ▸ (Blk.new w 37 _).alloc _
  have k2 : Blk w0 (w.heap.size + 1) 37 #[.int .i64 0, .slice none 0 0, .int .i64 0, .bool false] := by have := Blk.new (w.alloc (.cells #[.int .i64 lim, .slice A n c, .int .i64 tk, .bool cl] 37)) 37 #[.int .i64 0, .slice none 0 0, .int .i64 0, .bool false]; rw [World.size_alloc, hW0] at this; exact this
  have C := Lib.hid (rleft_at lim cl h ht w0)
  have q0 : (0 : Int) ≤ tk := by omega
  have q1 : (tk : Int) ≤ 2000000 := by omega
  obtain ⟨d, hd⟩ : ∃ d, n - tk = d := ⟨_, rfl⟩
  rw [hd] at C
  have hld : (l.drop tk).length = d := by rw [List.length_drop, h.len, hd]
  have q2 : (d : Int) ≤ 2000000 := by omega
  have q3 : (0 : Int) ≤ d := by omega
  have H := Lib.hid h
  have HBW := Lib.hid hbw
  have HK1 := Lib.hid k1
  have HK2 := Lib.hid k2
  have HW0 := Lib.hid hW0
  have HLD := Lib.hid hld
  have HSP := Lib.hid hsp
  obtain ⟨m, hm⟩ : ∃ m, l.drop tk = m := ⟨_, rfl⟩
  rw [hm] at C HLD ⊢
  have q4 : (lim : Int) ≤ 1048576 := by omega
  have q5 : (0 : Int) ≤ lim := by omega
  clear h hbw k1 k2 hW0 hld ht hn hd hlim hm hsp
  by_cases h1 : N < 0
  · have hE : untilE lim cl m x N = 2 := by unfold untilE; rw [if_pos h1]
    have HE := Lib.hid hE
    have g1 : decide (N < 0) = true := by simpa using h1
    clear h1 hE
    go_enter Try.func46, Try.ntmps46
    go_wp2_with fail
    have hbf : Below w.heap.size w ((w.alloc (.cells #[.int .i64 lim, .slice A n c, .int .i64 tk, .bool cl] 37)).alloc (.cells #[.int .i64 lim, .slice A n c, .int .i64 tk, .bool cl] 37)) := ((Below.refl _ w).alloc (Nat.le_refl _) _).alloc (by simp) _
    exact bodyPost_ret (v := .tuple #[.agg #[.int .i64 lim, .slice A n c, .int .i64 tk, .bool cl], .slice none 0 0, .int .i64 2]) (by simp [results, Try.results46, go_sem]) rfl (RUn.bad HE.out (by omega) ⟨none, 0, 0, rfl, RB.nil _, Within.none _, hbf⟩)
  · by_cases h2 : (lim : Int) ≤ N
    · have hE : untilE lim cl m x N = 3 := by unfold untilE; rw [if_neg h1, if_pos (by omega)]
      have HE := Lib.hid hE
      have g1 : decide (N < 0) = false := by simpa using h1
      have g2 : decide ((lim : Int) ≤ N) = true := by simpa using h2
      clear h1 h2 hE
      go_enter Try.func46, Try.ntmps46
      go_wp2_with fail
      have hbf : Below w.heap.size w ((w.alloc (.cells #[.int .i64 lim, .slice A n c, .int .i64 tk, .bool cl] 37)).alloc (.cells #[.int .i64 lim, .slice A n c, .int .i64 tk, .bool cl] 37)) := ((Below.refl _ w).alloc (Nat.le_refl _) _).alloc (by simp) _
      exact bodyPost_ret (v := .tuple #[.agg #[.int .i64 lim, .slice A n c, .int .i64 tk, .bool cl], .slice none 0 0, .int .i64 3]) (by simp [results, Try.results46, go_sem]) rfl (RUn.bad HE.out (by omega) ⟨none, 0, 0, rfl, RB.nil _, Within.none _, hbf⟩)
    · obtain ⟨M, rfl⟩ : ∃ M : Nat, N = M := ⟨N.toNat, by omega⟩
      have hM : M < lim := by omega
      have q6 : (M : Int) ≤ 1048576 := by omega
      have g2 : decide ((lim : Int) ≤ M) = false := by simpa using h2
      have g2n : decide (lim ≤ M) = false := by simp; omega
      have g1 : decide ((M : Int) < 0) = false := by simp
      have HM := Lib.hid hM
      clear h1 h2 hM
      obtain ⟨y, hy⟩ : ∃ y : Int, (x.toNat : Int) = y := ⟨_, rfl⟩
      rw [hy]
      have HY := Lib.hid hy
      clear hy
      go_enter Try.func46, Try.ntmps46
      go_wp2_with (go_at_call 21; rw [HW0.out]; (with_reducible refine C.out.mono ?_); rintro e w1 ⟨A1, c1, rfl, r1, i1, b1⟩; have HB1 := Lib.hid b1; have HR := Lib.hid r1; have HI := Lib.hid i1; clear r1 i1 b1)
      obtain ⟨a0, a1, a2, a3⟩ := four _ _ _ _ _ _ (HK1.out.below HB1.out HK1.out.lt)
      obtain ⟨z0, z1, z2, z3⟩ := fourz _ _ _ _ _ _ (HK1.out.below HB1.out HK1.out.lt)
      obtain ⟨y0, y1, y2, y3⟩ := fourz _ _ _ _ _ _ (HK2.out.below HB1.out HK2.out.lt)
      obtain ⟨x0, x1, x2, x3⟩ := four _ _ _ _ _ _ (HK2.out.below HB1.out HK2.out.lt)
      go_loop [10] (fun i => ∃ k : Nat, k ≤ d ∧ k ≤ M + 1 ∧ i = .int .i64 k ∧ Hid (NoX m x k)) (fun i => M + 1 - (intOf i).toNat)
      case atStart => exact ⟨0, by omega, by omega, rfl, fun i h => absurd h (by omega)⟩
      case round =>
        obtain ⟨k, hk, hkM, rfl, HP⟩ := hrel
        by_cases hlt : k ≤ M
        · by_cases hkd : k = d
          · -- too few
            subst hkd
            obtain ⟨E, hE⟩ : ∃ E : Int, (if cl = true then 9 else 4) = E := ⟨_, rfl⟩
            have hE0 : ¬ E = 0 := by rw [← hE]; split <;> omega
            have hu : untilE lim cl m x M = E := by rw [← hE]; exact untilE_few HM.out (by rw [HLD.out]; exact HP.out) (by rw [HLD.out]; exact hlt)
            have HU := Lib.hid (And.intro hu hE0)
            have C48 := Lib.hid (few_any (lim := lim) (A := A) (n := n) (c := c) (tk := tk) (cl := cl) (w := w1.drew))
            rw [hE] at C48
            have HFR := Lib.hid (show ∀ W, Below w1.heap.size w1 W → FR w.heap.size lim A n c tk cl W from fun W hb => FR.of ((HK1.out.below HB1.out HK1.out.lt).below hb (HK1.out.below HB1.out HK1.out.lt).lt))
            have HS0 := Lib.hid (HFR.out w1.drew (below_drew (Below.refl _ _)))
            have gm : decide ((k : Int) ≤ M) = true := by simpa using hlt
            have gm2 : decide (k ≤ M) = true := by simpa using hlt
            clear hE hE0 hu hlt hk hkM
            go_wp2_with fail
            refine wp_region_G (S0 := (FR w.heap.size lim A n c tk cl)) (S1 := (FR w.heap.size lim A n c tk cl)) (c := 99) (by kernel_rfl) ?_
            have hHeld := HS0.out
            have h01 := (fun (W : World) (h : (FR w.heap.size lim A n c tk cl) W) => h)
            refine wpG_takeB (i := 0) (oi := ⟨some 30, _, _, _, _, _⟩) (v := .agg #[.int .i64 lim, .slice A n c, .int .i64 tk, .bool cl]) rfl (by kernel_rfl) (by kernel_rfl) (by kernel_rfl) (by decide) (fun _ _ _ h => h) h01 rfl hHeld (Or.inl ⟨by rfl, ?_⟩) ?_
            · (intro W9 hSw; obtain ⟨v1, v2, v3, v4⟩ := hSw; go_simp; (try (first | with_reducible rfl | rfl)))
            try simp only [Act.put, List.setIfInBounds_toArray, List.set_cons_zero, List.set_cons_succ]
            refine wpG_takeB (i := 1) (oi := ⟨some 31, _, _, _, _, _⟩) (v := .agg #[.int .i64 lim, .slice A n c, .int .i64 tk, .bool cl]) rfl (by kernel_rfl) (by kernel_rfl) (by kernel_rfl) (by decide) (fun _ _ _ h => h) h01 rfl hHeld (Or.inl ⟨by rfl, ?_⟩) ?_
            · (intro W9 hSw; obtain ⟨v1, v2, v3, v4⟩ := hSw; go_simp; (try (first | with_reducible rfl | rfl)))
            try simp only [Act.put, List.setIfInBounds_toArray, List.set_cons_zero, List.set_cons_succ]
            refine wpG_oneB (i := 2) (o := ⟨some 32, _, _, _, _, _⟩) (by kernel_rfl) rfl rfl (fun K hK => ?_)
            go_simp
            (with_reducible refine C48.out.mono ?_); rintro e w2 ⟨rfl, b2⟩
            have HB2 := Lib.hid (show Below w1.heap.size w1 w2 from (below_drew (Below.refl w1.heap.size w1)).trans b2)
            clear b2
            obtain ⟨u0, u1, u2, u3⟩ := fourz _ _ _ _ _ _ ((HK2.out.below HB1.out HK2.out.lt).below HB2.out (HK2.out.below HB1.out HK2.out.lt).lt)
            obtain ⟨t0, t1, t2, t3⟩ := four _ _ _ _ _ _ ((HK2.out.below HB1.out HK2.out.lt).below HB2.out (HK2.out.below HB1.out HK2.out.lt).lt)
            refine hK.out _ _ (HFR.out w2 HB2.out) (fun hHeld => ?_)
            clear hK K
            try simp only [Act.put, List.setIfInBounds_toArray, List.set_cons_zero, List.set_cons_succ]
            refine wpG_oneB (i := 3) (o := ⟨none, _, _, _, _, _⟩) (by kernel_rfl) rfl rfl (fun K hK => ?_)
            go_simp
            refine hK.out _ _ (FR.of (far4 ((HK1.out.below HB1.out HK1.out.lt).below HB2.out (HK1.out.below HB1.out HK1.out.lt).lt) (g2 := w.heap.size + 1) (by omega) _ _ _ _)) (fun hHeld => ?_)
            clear hK K
            try simp only [Act.put, List.setIfInBounds_toArray, List.set_cons_zero, List.set_cons_succ]
            refine wpG_takeB (i := 4) (oi := ⟨some 7, _, _, _, _, _⟩) (v := .slice none 0 0) rfl (by kernel_rfl) (by kernel_rfl) (by kernel_rfl) (by decide) (fun _ _ _ h => h) h01 rfl hHeld (Or.inl ⟨by rfl, ?_⟩) ?_
            · (intro W9 hSw; obtain ⟨v1, v2, v3, v4⟩ := hSw; go_simp; (try (first | with_reducible rfl | rfl)))
            try simp only [Act.put, List.setIfInBounds_toArray, List.set_cons_zero, List.set_cons_succ]
            refine wpG_takeB (i := 5) (oi := ⟨some 8, _, _, _, _, _⟩) (v := .int .i64 E) rfl (by kernel_rfl) (by kernel_rfl) (by kernel_rfl) (by decide) (fun _ _ _ h => h) h01 rfl hHeld (Or.inl ⟨by rfl, ?_⟩) ?_
            · (intro W9 hSw; obtain ⟨v1, v2, v3, v4⟩ := hSw; go_simp; (try (first | with_reducible rfl | rfl)))
            try simp only [Act.put, List.setIfInBounds_toArray, List.set_cons_zero, List.set_cons_succ]
            refine wpG_done (by kernel_rfl) ?_ _
            clear hHeld h01
            go_wp2_with fail
            refine bodyPost_ret (v := .tuple #[.agg #[.int .i64 lim, .slice A n c, .int .i64 tk, .bool cl], .slice none 0 0, .int .i64 E]) (by exact res3 (fn := Try.f46) (p := 6) (u := 7) (u2 := 8) rfl _ _ (w.heap.size + 1) _ rfl (set4 ((HK2.out.below HB1.out HK2.out.lt).below HB2.out (HK2.out.below HB1.out HK2.out.lt).lt) _ _ _ _) rfl) rfl (RUn.bad HU.out.1 HU.out.2 ⟨none, 0, 0, rfl, RB.nil _, Within.none _, ?_⟩)
            exact below4 (HBW.out.trans ((HB1.out.trans (HB2.out.mono HB1.out.size)).mono HBW.out.size)) (g := w.heap.size + 1) (by omega) _ _ _ _
          · have HKL := Lib.hid (show k < m.length by rw [HLD.out]; omega)
            have hkd' : k < d := by omega
            have gd : ((k : Int) == d) = false := by simp; omega
            have gm : decide ((k : Int) ≤ M) = true := by simpa using hlt
            have gm2 : decide (k ≤ M) = true := by simpa using hlt
            obtain ⟨b, hb⟩ : ∃ b, A1 = some b := by
              cases hA : A1 with
              | none => have := (HR.out.h.2.1 hA).1; omega
              | some b => exact ⟨b, rfl⟩
            subst hb
            obtain ⟨g, o, sp⟩ := b
            have hspn : sp = none := by
              obtain ⟨a9, h9, -, hs9⟩ := HI.out _ rfl
              exact hs9 (HSP.out _ h9)
            subst hspn
            have hck : w1.cell? ⟨g, o + k, none⟩ = some (.int .u8 ((m[k]'HKL.out).toNat : Int)) := by
              have h9 := ((HR.out.below HBW.out).below HB1.out).h.2.2 _ rfl k (.int .u8 ((m[k]'HKL.out).toNat : Int)) (by rw [List.getElem?_map, List.getElem?_eq_getElem HKL.out]; rfl)
              rw [Addr.add_lit] at h9
              exact h9
            obtain ⟨z, hz⟩ : ∃ z : Int, ((m[k]'HKL.out).toNat : Int) = z := ⟨_, rfl⟩
            have hz2 : z < 256 := by have := (m[k]'HKL.out).toNat_lt; omega
            have hz0 : 0 ≤ z := by omega
            rw [hz] at hck
            have HZ := Lib.hid hz
            have HKD := Lib.hid (And.intro HKL.out (And.intro hkd' hlt))
            clear hz hkd
            by_cases hzy : z = y
            · have hxk : m[k]? = some x := by
                rw [List.getElem?_eq_getElem HKD.out.1]
                congr 1
                apply UInt8.toNat_inj.1
                have := HZ.out
                have := HY.out
                omega
              have hu : untilE lim cl m x M = 0 := untilE_found HM.out HP.out hxk HKD.out.2.2
              have hat : atB m x M = k := atB_found HP.out hxk (by have := HKD.out.2.2; omega)
              have HU := Lib.hid (And.intro hu hat)
              have gz : (z == y) = true := by simpa using hzy
              obtain ⟨A3, c3, hs3, hr3, hi3⟩ := slice_to w (some ⟨g, o, none⟩) d c1 k m HR.out (by omega)
              have HSL := Lib.hid hs3
              have HR3 := Lib.hid (And.intro hr3 (HI.out.trans hi3))
              have HTK := Lib.hid (show ((tk + k + 1 : Nat) : Int) = (tk : Int) + k + 1 by omega)
              clear hu hat hxk hzy hr3 hi3 hlt hk hkM hs3
              go_wp2_with fail
              obtain ⟨w5, hw5⟩ : ∃ w5, w1.setCell ⟨w.heap.size, 2, none⟩ (.int .i64 ((tk : Int) + k + 1)) = w5 := ⟨_, rfl⟩
              have K1b : Blk w5 w.heap.size 37 #[.int .i64 lim, .slice A n c, .int .i64 ((tk : Int) + k + 1), .bool cl] := by
                have h9 := (HK1.out.below HB1.out HK1.out.lt).set_ 2 (.int .i64 ((tk : Int) + k + 1))
                rw [hw5] at h9
                simpa using h9
              have K2b : Blk w5 (w.heap.size + 1) 37 #[.int .i64 0, .slice none 0 0, .int .i64 0, .bool false] := hw5 ▸ (HK2.out.below HB1.out HK2.out.lt).far (by simp) _
              have hb5 : Below w.heap.size w w5 := hw5 ▸ Below.setCell (HBW.out.trans (HB1.out.mono HBW.out.size)) (Nat.le_refl _) _
              rw [hw5]
              have HK1b := Lib.hid K1b
              have HK2b := Lib.hid K2b
              have HB5 := Lib.hid hb5
              clear a0 a1 a2 a3 z0 z1 z2 z3 y0 y1 y2 y3 x0 x1 x2 x3 hw5 K1b K2b hb5
              have HS0 := Lib.hid (show FI w.heap.size lim A n c ((tk : Int) + k + 1) cl w5.drew from ⟨HK1b.out.cell 0, HK1b.out.cell 1, HK1b.out.cell 2, HK1b.out.cell 3⟩)
              obtain ⟨u0, u1, u2, u3⟩ := fourz _ _ _ _ _ _ HK2b.out
              obtain ⟨t0, t1, t2, t3⟩ := four _ _ _ _ _ _ HK2b.out
              refine wp_region_G (S0 := (FI w.heap.size lim A n c ((tk : Int) + k + 1) cl)) (S1 := (FI w.heap.size lim A n c ((tk : Int) + k + 1) cl)) (c := 99) (by kernel_rfl) ?_
              have hHeld := HS0.out
              have h01 := (fun (W : World) (h : (FI w.heap.size lim A n c ((tk : Int) + k + 1) cl) W) => h)
              refine wpG_takeB (i := 0) (oi := ⟨some 45, _, _, _, _, _⟩) (v := .agg #[.int .i64 lim, .slice A n c, .int .i64 ((tk : Int) + k + 1), .bool cl]) rfl (by kernel_rfl) (by kernel_rfl) (by kernel_rfl) (by decide) (fun _ _ _ h => h) h01 rfl hHeld (Or.inl ⟨by rfl, ?_⟩) ?_
              · (intro W9 hSw; obtain ⟨v1, v2, v3, v4⟩ := hSw; have hsl := HSL.out; go_simp; (try (first | with_reducible rfl | rfl)))
              try simp only [Act.put, List.setIfInBounds_toArray, List.set_cons_zero, List.set_cons_succ]
              refine wpG_takeB (i := 1) (oi := ⟨some 46, _, _, _, _, _⟩) (v := .slice (some ⟨g, o, none⟩) d c1) rfl (by kernel_rfl) (by kernel_rfl) (by kernel_rfl) (by decide) (fun _ _ _ h => h) h01 rfl hHeld (Or.inl ⟨by rfl, ?_⟩) ?_
              · (intro W9 hSw; obtain ⟨v1, v2, v3, v4⟩ := hSw; have hsl := HSL.out; go_simp; (try (first | with_reducible rfl | rfl)))
              try simp only [Act.put, List.setIfInBounds_toArray, List.set_cons_zero, List.set_cons_succ]
              refine wpG_takeB (i := 2) (oi := ⟨some 47, _, _, _, _, _⟩) (v := .int .i64 (k : Int)) rfl (by kernel_rfl) (by kernel_rfl) (by kernel_rfl) (by decide) (fun _ _ _ h => h) h01 rfl hHeld (Or.inl ⟨by rfl, ?_⟩) ?_
              · (intro W9 hSw; obtain ⟨v1, v2, v3, v4⟩ := hSw; have hsl := HSL.out; go_simp; (try (first | with_reducible rfl | rfl)))
              try simp only [Act.put, List.setIfInBounds_toArray, List.set_cons_zero, List.set_cons_succ]
              refine wpG_takeB (i := 3) (oi := ⟨some 48, _, _, _, _, _⟩) (v := .slice A3 k c3) rfl (by kernel_rfl) (by kernel_rfl) (by kernel_rfl) (by decide) (fun _ _ _ h => h) h01 rfl hHeld (Or.inl ⟨by rfl, ?_⟩) ?_
              · (intro W9 hSw; obtain ⟨v1, v2, v3, v4⟩ := hSw; have hsl := HSL.out; go_simp; (try (first | with_reducible rfl | rfl)))
              try simp only [Act.put, List.setIfInBounds_toArray, List.set_cons_zero, List.set_cons_succ]
              refine wpG_oneB (i := 4) (o := ⟨none, _, _, _, _, _⟩) (by kernel_rfl) rfl rfl (fun K hK => ?_)
              go_simp
              have HS1 := Lib.hid (far4 HK1b.out (g2 := w.heap.size + 1) (by omega) (.int .i64 lim) (.slice A n c) (.int .i64 ((tk : Int) + k + 1)) (.bool cl))
              refine hK.out _ _ ?_ (fun hHeld => ?_)
              · exact ⟨HS1.out.cell 0, HS1.out.cell 1, HS1.out.cell 2, HS1.out.cell 3⟩
              clear hK K
              try simp only [Act.put, List.setIfInBounds_toArray, List.set_cons_zero, List.set_cons_succ]
              refine wpG_takeB (i := 5) (oi := ⟨some 7, _, _, _, _, _⟩) (v := .slice A3 k c3) rfl (by kernel_rfl) (by kernel_rfl) (by kernel_rfl) (by decide) (fun _ _ _ h => h) h01 rfl hHeld (Or.inl ⟨by rfl, ?_⟩) ?_
              · (intro W9 hSw; obtain ⟨v1, v2, v3, v4⟩ := hSw; have hsl := HSL.out; go_simp; (try (first | with_reducible rfl | rfl)))
              try simp only [Act.put, List.setIfInBounds_toArray, List.set_cons_zero, List.set_cons_succ]
              refine wpG_takeB (i := 6) (oi := ⟨some 8, _, _, _, _, _⟩) (v := .int .i64 0) rfl (by kernel_rfl) (by kernel_rfl) (by kernel_rfl) (by decide) (fun _ _ _ h => h) h01 rfl hHeld (Or.inl ⟨by rfl, ?_⟩) ?_
              · (intro W9 hSw; obtain ⟨v1, v2, v3, v4⟩ := hSw; have hsl := HSL.out; go_simp; (try (first | with_reducible rfl | rfl)))
              try simp only [Act.put, List.setIfInBounds_toArray, List.set_cons_zero, List.set_cons_succ]
              refine wpG_done (by kernel_rfl) ?_ _
              clear hHeld h01
              go_wp2_with fail
              refine bodyPost_ret (v := .tuple #[.agg #[.int .i64 lim, .slice A n c, .int .i64 ((tk : Int) + k + 1), .bool cl], .slice A3 k c3, .int .i64 0]) (by exact res3 (fn := Try.f46) (p := 6) (u := 7) (u2 := 8) rfl _ _ (w.heap.size + 1) _ rfl (set4 HK2b.out _ _ _ _) rfl) rfl (RUn.good HU.out.1 HU.out.2 ⟨A3, k, c3, by rw [HTK.out], HR3.out.1, HR3.out.2, ?_⟩)
              exact below_drew (below4 HB5.out (g := w.heap.size + 1) (by omega) _ _ _ _)
            · have gz : (z == y) = false := by simpa using hzy
              clear hzy
              go_wp2_with fail
              go_round
              case rel =>
                refine ⟨k + 1, by have := HKD.out.2.1; omega, by omega, by go_num, fun i hi => ?_⟩
                rcases Nat.lt_or_ge i k with h | h
                · exact HP.out i h
                · obtain rfl : i = k := by omega
                  rw [List.getElem?_eq_getElem HKD.out.1]
                  intro e
                  have e2 := Option.some.inj e
                  have hz9 := HZ.out
                  have := HY.out
                  rw [e2] at hz9
                  simp at gz
                  omega
              case measure => simp [intOf]; omega
        · have hk1 : k = M + 1 := by omega
          have hu : untilE lim cl m x M = 5 := untilE_miss HM.out (hk1 ▸ HP.out) (by rw [HLD.out]; omega)
          have HU := Lib.hid hu
          have gm : decide ((k : Int) ≤ M) = false := by simp; omega
          have gm2 : decide (k ≤ M) = false := by simp; omega
          clear hu hlt hk1
          go_wp2_with fail
          refine bodyPost_ret (v := .tuple #[.agg #[.int .i64 lim, .slice A n c, .int .i64 tk, .bool cl], .slice none 0 0, .int .i64 5]) (by exact res3 (fn := Try.f46) (p := 6) (u := 7) (u2 := 8) rfl _ _ (w.heap.size + 1) _ rfl (set4 (HK2.out.below HB1.out HK2.out.lt) _ _ _ _) rfl) rfl (RUn.bad HU.out (by omega) ⟨none, 0, 0, rfl, RB.nil _, Within.none _, ?_⟩)
          exact below4 (HBW.out.trans (HB1.out.mono HBW.out.size)) (g := w.heap.size + 1) (by omega) _ _ _ _
end
end Go.Proofs.Ythkpmbgclllnjaa
