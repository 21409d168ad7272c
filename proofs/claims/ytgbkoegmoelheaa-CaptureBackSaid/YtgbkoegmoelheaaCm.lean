/- Decode: its contract. -/
import Derived.Test.YtgbkoegmoelheaaCl
import Derived.Deep.RegionHeld3
namespace Go.Proofs.Ytgbkoegmoelheaa
open Go.RowKit
set_option linter.unusedVariables false
set_option linter.unusedSimpArgs false

/-- What Decode returns. -/
def DecR (w : World) (o : Except Int (List Pk × Nat)) (e : Ending) (w' : World) : Prop :=
  Below w.heap.size w w' ∧ ((∃ k, o = .error k ∧ e = .returned (.tuple #[.slice none 0 0, .int .i64 0, .int .i64 k])) ∨ ∃ v ds m, o = .ok (pks ds, m) ∧ e = .returned (.tuple #[v, .int .i64 (m : Int), .int .i64 0]) ∧ PO w.heap.size w' v ds)
theorem DecR.err {w W w' : World} {o : Except Int (List Pk × Nat)} {gl gn ge : Nat} {x y z : Value} {k : Int} (ho : o = .error k) (hb : Below w.heap.size w W) (hg : w.heap.size ≤ gl ∧ w.heap.size ≤ gn ∧ w.heap.size ≤ ge) (h : Res3 W w' gl gn ge x y z) : DecR w o (.returned (.tuple #[.slice none 0 0, .int .i64 0, .int .i64 k])) w' :=
  ⟨hb.trans (h.only.to_below hb.size fun b hlt e => by omega), .inl ⟨k, ho, rfl⟩⟩
theorem dec_1 {l : List UInt8} (h : l.length < 7) : dec l = .error 4 := by unfold dec; rw [if_pos h]
theorem dec_2 {l : List UInt8} (h : ¬ l.length < 7) (h2 : ¬ (l.take 4 = magicB ∧ 1 ≤ (l.getD 4 0).toNat ∧ (l.getD 4 0).toNat ≤ 64 ∧ num ((l.take 7).drop 5) ≤ 8192)) : dec l = .error 6 := by unfold dec; rw [if_neg h]; simp only; rw [if_neg h2]
theorem dec_3 {l : List UInt8} {n s p : Nat} (h : ¬ l.length < 7) (hn : (l.getD 4 0).toNat = n) (hs : num ((l.take 7).drop 5) = s) (hp : padN (7 + s) = p) (h2 : l.take 4 = magicB ∧ 1 ≤ n ∧ n ≤ 64 ∧ s ≤ 8192) : dec l = if l.length < p + 4 then .error 4 else match packs ((l.take (7 + s)).drop 7) n with | none => .error 6 | some q => if fitsP q = true ∧ num ((l.take p).drop (7 + s)) = 0 then if be (adlN (l.take p)) 4 = (l.take (p + 4)).drop p then .ok (q, p + 4) else .error 10 else .error 6 := by
  subst hn hs hp
  unfold dec
  rw [if_neg h]
  simp only
  rw [if_pos h2]
  rfl
theorem packs_valid : ∀ (k : Nat) (b : List UInt8) (q : List Pk), packs b k = some q → ∀ p ∈ q, validP p = true
  | 0, b, q, h, p, hp => by
    rw [packs_zero] at h
    split at h
    · cases h; cases hp
    · cases h
  | k + 1, b, q, h, p, hp => by
    rw [packs_succ] at h
    split at h
    · cases h
    · split at h
      · cases h
      · split at h
        · rename_i hv
          cases hr : packs (b.drop (10 + num ((b.take 10).drop 8))) k with
          | none => rw [hr] at h; cases h
          | some q2 =>
            rw [hr] at h
            simp only [Option.map_some, Option.some.injEq] at h
            subst h
            rcases List.mem_cons.1 hp with rfl | h1
            · exact hv
            · exact packs_valid k _ _ hr p h1
        · cases h
theorem packs_length : ∀ (k : Nat) (b : List UInt8) (q : List Pk), packs b k = some q → q.length = k
  | 0, b, q, h => by
    rw [packs_zero] at h
    split at h
    · cases h; rfl
    · cases h
  | k + 1, b, q, h => by
    rw [packs_succ] at h
    split at h
    · cases h
    · split at h
      · cases h
      · split at h
        · cases hr : packs (b.drop (10 + num ((b.take 10).drop 8))) k with
          | none => rw [hr] at h; cases h
          | some q2 =>
            rw [hr] at h
            simp only [Option.map_some, Option.some.injEq] at h
            subst h
            rw [List.length_cons, packs_length k _ _ hr]
        · cases h
theorem must_yes2 (e : Int) (w : World) : Calls Try.prog 40 #[.bool true, .int .i64 e] w fun en w' => en = .returned (.tuple #[]) ∧ w = w' := (must_yes e w).mono fun en w' h => ⟨h.1, h.2.symm⟩
theorem must_no2 (e : Int) (w : World) : Calls Try.prog 40 #[.bool false, .int .i64 e] w fun en w' => en = .panicked [errV e] ∧ w = w' := (must_no e w).mono fun en w' h => ⟨h.1, h.2.symm⟩
theorem Res3.over {W W2 : World} {gl gn ge : Nat} {x y z : Value} (h : Res3 W W gl gn ge x y z) (hb : Below W.heap.size W W2) : Res3 W2 W2 gl gn ge x y z := ⟨h.l.below hb h.l.lt, h.n.below hb h.n.lt, h.e.below hb h.e.lt, Only.refl _ _⟩
theorem Res3.own {w W : World} {gl gn ge : Nat} {x y z : Value} (h : Res3 w W gl gn ge x y z) : Res3 W W gl gn ge x y z := ⟨h.l, h.n, h.e, Only.refl _ _⟩
theorem PO.only {B : Nat} {W W2 : World} {v : Value} {ds : List Pd} {p : Nat → Prop} (h : PO B W v ds) (ho : Only p W W2) (hp : ∀ b, B ≤ b → ¬ p b) : PO B W2 v ds :=
  ⟨own_only h.own ho fun k hk => hp k (h.own.lt k hk).1, fun q hq => own_only (h.data q hq) ho fun k hk => hp k ((h.data q hq).lt k hk).1, h.rng⟩
theorem getD4 {l : List UInt8} (h : 4 < l.length) : l.getD 4 0 = l[4] := by simp [List.getD, List.getElem?_eq_getElem h]

theorem below_drew0 {B : Nat} {w w' : World} (h : Below B w.drew w') : Below B w w' := ⟨h.os, h.tape, h.output, h.size, h.block⟩
set_option maxRecDepth 100000 in
set_option maxHeartbeats 8000000 in
theorem dec_any (A : Option Addr) (n c : Nat) (l : List UInt8) (w : World) (h : RB w A n c l) (hn : n ≤ 2000000) :
    Calls Try.prog 16 #[.slice A n c] w (DecR w (dec l)) := by
  have hmf : ∀ (fn : Fn) (first cap : Array Value) (w : World), (Instr.makeFunc fn first cap).run Try.prog w = .ok (.func fn first cap) w := fun _ _ _ _ => rfl
  obtain ⟨W0, hW0⟩ : ∃ W0, ((w.alloc (.cells #[.slice none 0 0] 22)).alloc (.cells #[.int .i64 0] 3)).alloc (.cells #[.int .i64 0] 26) = W0 := ⟨_, rfl⟩
  have hb0 : Below w.heap.size w W0 := hW0 ▸ (((Below.refl _ w).alloc (Nat.le_refl _) _).alloc (by simp) _).alloc (by simp; omega) _
  have HX0 := Lib.hid (show Res3 W0 W0 w.heap.size (w.heap.size + 1) (w.heap.size + 2) (.slice none 0 0) (.int .i64 0) (.int .i64 0) from by
    have k0 := ((Blk.new w 22 #[.slice none 0 0]).alloc (.cells #[.int .i64 0] 3)).alloc (.cells #[.int .i64 0] 26)
    have k1 := (Blk.new (w.alloc (.cells #[.slice none 0 0] 22)) 3 #[.int .i64 0]).alloc (.cells #[.int .i64 0] 26)
    have k2 := Blk.new ((w.alloc (.cells #[.slice none 0 0] 22)).alloc (.cells #[.int .i64 0] 3)) 26 #[.int .i64 0]
    rw [hW0] at k0 k1 k2
    simp only [World.size_alloc] at k1 k2
    exact ⟨k0, k1, k2, Only.refl _ _⟩)
  have HB0 := Lib.hid hb0
  have HR := Lib.hid h
  have HLN := Lib.hid h.len
  have HN := Lib.hid hn
  have hn0 : (n : Int) ≤ 2000000 := by omega
  have HW0 := Lib.hid hW0
  have M1 := Lib.hid must_yes2
  have M0 := Lib.hid must_no2
  obtain ⟨D, hD⟩ : ∃ D, dec l = D := ⟨_, rfl⟩
  have HD := Lib.hid hD
  rw [hD]
  clear h hn hb0 hW0 hD
  go_enter_defers Try.func16, Try.ntmps16
  go_upto_region 2 with fail
  rw [HW0.out]
  clear HW0
  by_cases h7 : (7 : Int) ≤ n
  case neg =>
    have q0 : decide ((7 : Int) ≤ n) = false := decide_eq_false h7
    have HF := Lib.hid (show D = .error 4 by rw [← HD.out]; exact dec_1 (by rw [HLN.out]; omega))
    clear h7
    go_wp2_with (go_at_call 40; (with_reducible refine (M0.out 4 _).mono ?_); rintro e w1 ⟨rfl, rfl⟩)
    exact dec_panic _ _ _ rfl rfl rfl rfl HX0.out fun w9 h9 => DecR.err HF.out HB0.out (by omega) h9
  case pos =>
  have q0 : decide ((7 : Int) ≤ n) = true := decide_eq_true h7
  obtain ⟨A1, c1, hs1, hr1, -⟩ := slice_in w A n c 5 7 l HR.out (by omega) (by omega)
  obtain ⟨A4, c4, hs4, hr4, -⟩ := slice_to w A n c 4 l HR.out (by omega)
  have C41 := Lib.hid (number_any A1 2 c1 _ W0.drew (hr1.below (below_drew HB0.out)) (by omega))
  obtain ⟨S, hS⟩ : ∃ S, num ((l.take 7).drop 5) = S := ⟨_, rfl⟩
  have hSl := num_lt ((l.take 7).drop 5)
  have hSl2 : ((l.take 7).drop 5).length = 2 := hr1.len
  rw [hSl2, hS] at hSl
  rw [hS] at C41
  obtain ⟨X, hX⟩ : ∃ X : Int, (S : Int) = X := ⟨_, rfl⟩
  rw [hX] at C41
  have HS := Lib.hid hS
  have HXS := Lib.hid (And.intro hX hSl)
  have HS1 : Hid (∀ W' : World, (Instr.slice 23 (.slice A n c) (some (.int .i64 5)) (some (.int .i64 7)) none).run Try.prog W' = .ok (.slice A1 2 c1) W') := Lib.hid hs1
  have HS4 : Hid (∀ W' : World, (Instr.slice 23 (.slice A n c) none (some (.int .i64 4)) none).run Try.prog W' = .ok (.slice A4 4 c4) W') := Lib.hid hs4
  have HR4 := Lib.hid hr4
  have h4l : 4 < l.length := by rw [HLN.out]; omega
  obtain ⟨Y, hY⟩ : ∃ Y, (l.getD 4 0).toNat = Y := ⟨_, rfl⟩
  have hYl : Y < 256 := by rw [← hY]; exact UInt8.toNat_lt _
  obtain ⟨y, hy⟩ : ∃ y : Int, (Y : Int) = y := ⟨_, rfl⟩
  have HY := Lib.hid (And.intro hY (And.intro hy hYl))
  obtain ⟨b, o, rfl, hat⟩ := HR.out.at (by omega)
  have K4 : Hid (W0.drew.cell? ⟨b, o + 4, none⟩ = some (.int .u8 y)) := Lib.hid (by
    have h1 := (HB0.out.cell (World.block_lt_of_cell? _ _ (hat 4 h4l))).trans (hat 4 h4l)
    rw [getD4 h4l] at hY
    rw [hY, hy] at h1
    exact h1)
  have HI4 := Lib.hid (show (0 : Int) ≤ 4 ∧ (4 : Int) < n by omega)
  have H7 := Lib.hid h7
  clear hs1 hr1 hs4 hr4 hS hSl hSl2 hX h4l hY hYl hy hat h7
  go_wp2_with (go_at_call 40; (with_reducible refine (M1.out _ _).mono ?_); rintro e w1 ⟨rfl, rfl⟩; refine Hid.out ?_)
  refine Lib.hid ?_
  clear q0 hn0
  go_upto_region 3 with fail
  refine wp_region_noPanic ?_
  refine wp_region_G (S0 := (fun W => W.cell? ⟨b, o + 4, none⟩ = some (.int .u8 y))) (S1 := (fun W => W.cell? ⟨b, o + 4, none⟩ = some (.int .u8 y))) (c := 99) (by kernel_rfl) ?_
  have hHeld := K4.out
  have h01 := (fun (W : World) (h : (fun W => W.cell? ⟨b, o + 4, none⟩ = some (.int .u8 y)) W) => h)
  refine wpG_takeB (i := 0) (oi := ⟨some 13, _, _, _, _, _⟩) (v := .slice (some ⟨b, o, none⟩) n c) rfl (by kernel_rfl) (by kernel_rfl) (by kernel_rfl) (by decide) (fun _ _ _ h => h) h01 rfl hHeld (Or.inl ⟨by rfl, ?_⟩) ?_
  · (intro W9 hSw; have g1 := HS1.out; have g2 := HI4.out; go_simp; (try (first | with_reducible rfl | rfl | exact hSw | (rw [IntKind.wrap_i64]; have := HY.out; omega) | (simp; done))))
  try simp only [Act.put, List.setIfInBounds_toArray, List.set_cons_zero, List.set_cons_succ]
  refine wpG_takeB (i := 1) (oi := ⟨some 14, _, _, _, _, _⟩) (v := .pointer (some ⟨b, o + 4, none⟩)) rfl (by kernel_rfl) (by kernel_rfl) (by kernel_rfl) (by decide) (fun _ _ _ h => h) h01 rfl hHeld (Or.inl ⟨by rfl, ?_⟩) ?_
  · (intro W9 hSw; have g1 := HS1.out; have g2 := HI4.out; go_simp; (try (first | with_reducible rfl | rfl | exact hSw | (rw [IntKind.wrap_i64]; have := HY.out; omega) | (simp; done))))
  try simp only [Act.put, List.setIfInBounds_toArray, List.set_cons_zero, List.set_cons_succ]
  refine wpG_takeB (i := 2) (oi := ⟨some 15, _, _, _, _, _⟩) (v := .int .u8 y) rfl (by kernel_rfl) (by kernel_rfl) (by kernel_rfl) (by decide) (fun _ _ _ h => h) h01 rfl hHeld (Or.inl ⟨by rfl, ?_⟩) ?_
  · (intro W9 hSw; have g1 := HS1.out; have g2 := HI4.out; go_simp; (try (first | with_reducible rfl | rfl | exact hSw | (rw [IntKind.wrap_i64]; have := HY.out; omega) | (simp; done))))
  try simp only [Act.put, List.setIfInBounds_toArray, List.set_cons_zero, List.set_cons_succ]
  refine wpG_takeB (i := 3) (oi := ⟨some 16, _, _, _, _, _⟩) (v := .int .i64 y) rfl (by kernel_rfl) (by kernel_rfl) (by kernel_rfl) (by decide) (fun _ _ _ h => h) h01 rfl hHeld (Or.inl ⟨by rfl, ?_⟩) ?_
  · (intro W9 hSw; have g1 := HS1.out; have g2 := HI4.out; go_simp; (try (first | with_reducible rfl | rfl | exact hSw | (rw [IntKind.wrap_i64]; have := HY.out; omega) | (simp; done))))
  try simp only [Act.put, List.setIfInBounds_toArray, List.set_cons_zero, List.set_cons_succ]
  refine wpG_takeB (i := 4) (oi := ⟨some 17, _, _, _, _, _⟩) (v := .slice (some ⟨b, o, none⟩) n c) rfl (by kernel_rfl) (by kernel_rfl) (by kernel_rfl) (by decide) (fun _ _ _ h => h) h01 rfl hHeld (Or.inl ⟨by rfl, ?_⟩) ?_
  · (intro W9 hSw; have g1 := HS1.out; have g2 := HI4.out; go_simp; (try (first | with_reducible rfl | rfl | exact hSw | (rw [IntKind.wrap_i64]; have := HY.out; omega) | (simp; done))))
  try simp only [Act.put, List.setIfInBounds_toArray, List.set_cons_zero, List.set_cons_succ]
  refine wpG_takeB (i := 5) (oi := ⟨some 18, _, _, _, _, _⟩) (v := .slice A1 2 c1) rfl (by kernel_rfl) (by kernel_rfl) (by kernel_rfl) (by decide) (fun _ _ _ h => h) h01 rfl hHeld (Or.inl ⟨by rfl, ?_⟩) ?_
  · (intro W9 hSw; have g1 := HS1.out; have g2 := HI4.out; go_simp; (try (first | with_reducible rfl | rfl | exact hSw | (rw [IntKind.wrap_i64]; have := HY.out; omega) | (simp; done))))
  try simp only [Act.put, List.setIfInBounds_toArray, List.set_cons_zero, List.set_cons_succ]
  refine wpG_oneB (i := 6) (o := ⟨some 19, _, _, _, _, _⟩) (by kernel_rfl) rfl rfl (fun K hK => ?_)
  go_simp
  (with_reducible refine C41.out.mono ?_); rintro e w2 ⟨rfl, b2⟩
  have HB2 := Lib.hid (HB0.out.trans (Below.mono (below_drew0 b2) HB0.out.size))
  have HX2 := Lib.hid (HX0.out.over (below_drew0 b2))
  refine hK.out _ _ ((b2.cell (World.block_lt_of_cell? _ _ K4.out)).trans K4.out) (fun hHeld => ?_)
  clear b2
  clear hK K
  try simp only [Act.put, List.setIfInBounds_toArray, List.set_cons_zero, List.set_cons_succ]
  refine wpG_takeB (i := 7) (oi := ⟨some 5, _, _, _, _, _⟩) (v := .int .i64 y) rfl (by kernel_rfl) (by kernel_rfl) (by kernel_rfl) (by decide) (fun _ _ _ h => h) h01 rfl hHeld (Or.inl ⟨by rfl, ?_⟩) ?_
  · (intro W9 hSw; have g1 := HS1.out; have g2 := HI4.out; go_simp; (try (first | with_reducible rfl | rfl | exact hSw | (rw [IntKind.wrap_i64]; have := HY.out; omega) | (simp; done))))
  try simp only [Act.put, List.setIfInBounds_toArray, List.set_cons_zero, List.set_cons_succ]
  refine wpG_takeB (i := 8) (oi := ⟨some 6, _, _, _, _, _⟩) (v := .int .i64 X) rfl (by kernel_rfl) (by kernel_rfl) (by kernel_rfl) (by decide) (fun _ _ _ h => h) h01 rfl hHeld (Or.inl ⟨by rfl, ?_⟩) ?_
  · (intro W9 hSw; have g1 := HS1.out; have g2 := HI4.out; go_simp; (try (first | with_reducible rfl | rfl | exact hSw | (rw [IntKind.wrap_i64]; have := HY.out; omega) | (simp; done))))
  try simp only [Act.put, List.setIfInBounds_toArray, List.set_cons_zero, List.set_cons_succ]
  refine wpG_done (by kernel_rfl) ?_ _
  clear hHeld h01
  refine NoPanic.normal ?_
  have hd2 := dec_2 (l := l) (by rw [HLN.out]; have := H7.out; omega)
  rw [HY.out.1, HS.out, HD.out] at hd2
  have HD2 := Lib.hid hd2
  clear hd2
  have hcv := conv_RB (HR4.out.below HB2.out)
  have hy0 : 0 ≤ y := by have := HY.out.2.1; omega
  have hX0 : 0 ≤ X := by have := HXS.out.1; omega
  have hy1 : y < 256 := by have := HY.out.2; omega
  have hX1 : X < 65536 := by have := HXS.out; omega
  have g4 := HS4.out
  by_cases hmag : l.take 4 = magicB
  case neg =>
    have HF := Lib.hid (HD2.out fun h => hmag h.1)
    have q1 : (l.take 4 == [80, 66, 75, 49]) = false := by simpa [magicB] using hmag
    go_wp2_with (go_at_call 40; (with_reducible refine (M0.out _ _).mono ?_); rintro e w1 ⟨rfl, rfl⟩)
    exact dec_panic _ _ _ rfl rfl rfl rfl HX2.out fun w9 h9 => DecR.err HF.out HB2.out (by omega) h9
  case pos =>
  have q1 : (l.take 4 == [80, 66, 75, 49]) = true := by simpa [magicB] using hmag
  by_cases hy2 : 1 ≤ y
  case neg =>
    have HF := Lib.hid (HD2.out fun h => hy2 (by have := HY.out.2.1; omega))
    have q2 : decide (1 ≤ y) = false := decide_eq_false hy2
    clear hy2
    go_wp2_with (go_at_call 40; (with_reducible refine (M0.out _ _).mono ?_); rintro e w1 ⟨rfl, rfl⟩)
    exact dec_panic _ _ _ rfl rfl rfl rfl HX2.out fun w9 h9 => DecR.err HF.out HB2.out (by omega) h9
  case pos =>
  have q2 : decide (1 ≤ y) = true := decide_eq_true hy2
  by_cases hy3 : y ≤ 64
  case neg =>
    have HF := Lib.hid (HD2.out fun h => hy3 (by have := HY.out.2.1; omega))
    have q3 : decide (y ≤ 64) = false := decide_eq_false hy3
    clear hy3
    go_wp2_with (go_at_call 40; (with_reducible refine (M0.out _ _).mono ?_); rintro e w1 ⟨rfl, rfl⟩)
    exact dec_panic _ _ _ rfl rfl rfl rfl HX2.out fun w9 h9 => DecR.err HF.out HB2.out (by omega) h9
  case pos =>
  have q3 : decide (y ≤ 64) = true := decide_eq_true hy3
  by_cases hx3 : X ≤ 8192
  case neg =>
    have HF := Lib.hid (HD2.out fun h => hx3 (by have := HXS.out.1; omega))
    have q4 : decide (X ≤ 8192) = false := decide_eq_false hx3
    clear hx3
    go_wp2_with (go_at_call 40; (with_reducible refine (M0.out _ _).mono ?_); rintro e w1 ⟨rfl, rfl⟩)
    exact dec_panic _ _ _ rfl rfl rfl rfl HX2.out fun w9 h9 => DecR.err HF.out HB2.out (by omega) h9
  case pos =>
  have q4 : decide (X ≤ 8192) = true := decide_eq_true hx3
  obtain ⟨p, hp⟩ : ∃ p, padN (7 + S) = p := ⟨_, rfl⟩
  have HD3 := Lib.hid (dec_3 (l := l) (by rw [HLN.out]; have := H7.out; omega) HY.out.1 HS.out hp ⟨hmag, by have := HY.out.2.1; omega, by have := HY.out.2.1; omega, by have := HXS.out.1; omega⟩)
  rw [HD.out] at HD3
  have hp2 : 7 + S ≤ p ∧ p ≤ 7 + S + 3 := by rw [← hp]; unfold padN; omega
  have e7 : ((7 + S : Nat) : Int) = 7 + X := by have := HXS.out.1; omega
  have C35 := Lib.hid (padded_any (7 + S) w2 (by have := HXS.out.1; omega))
  obtain ⟨P, hP⟩ : ∃ P : Int, (p : Int) = P := ⟨_, rfl⟩
  rw [e7, hp, hP] at C35
  have HP := Lib.hid (And.intro hP hp2)
  have hP0 : 0 ≤ P := by omega
  have hP1 : P ≤ 9000 := by have := HXS.out.1; omega
  have HXY := Lib.hid (And.intro hy0 (And.intro hy2 (And.intro hy3 (And.intro hX0 hx3))))
  clear hp hp2 hP HD2 hmag
  go_wp2_with (go_at_call 40; (with_reducible refine (M1.out _ _).mono ?_); rintro e w1 ⟨rfl, rfl⟩; refine Hid.out ?_)
  refine Lib.hid ?_
  clear q1 q2 q3 q4 hy1 hX1 hcv g4 hy2 hy3
  go_wp2_with (go_at_call 35; (with_reducible refine C35.out.mono ?_); rintro e w' ⟨rfl, hw⟩; have hw2 := hw.symm; clear hw; subst hw2; refine Hid.out ?_)
  refine Lib.hid ?_
  by_cases hE : P + 4 ≤ (n : Int)
  case neg =>
    have HF := Lib.hid (show D = .error 4 by rw [HD3.out, if_pos (by rw [HLN.out]; have := HP.out.1; omega)])
    have q5 : decide (P + 4 ≤ (n : Int)) = false := decide_eq_false hE
    clear hE
    go_wp2_with (go_at_call 40; (with_reducible refine (M0.out _ _).mono ?_); rintro e w1 ⟨rfl, rfl⟩)
    exact dec_panic _ _ _ rfl rfl rfl rfl HX2.out fun w9 h9 => DecR.err HF.out HB2.out (by omega) h9
  case pos =>
  have q5 : decide (P + 4 ≤ (n : Int)) = true := decide_eq_true hE
  have HD4 := Lib.hid HD3.out
  rw [if_neg (by rw [HLN.out]; have := HP.out.1; omega)] at HD4
  obtain ⟨A, hA⟩ : ∃ A : Option Addr, some ⟨b, o, none⟩ = A := ⟨_, rfl⟩
  rw [hA] at HR ⊢
  obtain ⟨A7, c7, hs7, hr7, -⟩ := slice_in3 w A n c 7 (7 + S) l HR.out (by omega) (by have := HP.out; omega)
  obtain ⟨A9, c9, hs9, hr9, -⟩ := slice_in w A n c (7 + S) p l HR.out (by have := HP.out; omega) (by have := HP.out; omega)
  obtain ⟨A10, c10, hs10, hr10, -⟩ := slice_to w A n c p l HR.out (by have := HP.out; omega)
  obtain ⟨A11, c11, hs11, hr11, -⟩ := slice_in w A n c p (p + 4) l HR.out (by omega) (by have := HP.out; omega)
  have eS : 7 + S - 7 = S := by omega
  have eP : ((p : Nat) : Int) = P := HP.out.1
  have eP4 : ((p + 4 : Nat) : Int) = P + 4 := by omega
  have e4 : p + 4 - p = 4 := by omega
  rw [eS] at hs7 hr7
  rw [e7] at hs7 hs9
  rw [eP] at hs9 hs10 hs11
  rw [eP4] at hs11
  rw [e4] at hs11 hr11
  obtain ⟨n9, hn9⟩ : ∃ n9, p - (7 + S) = n9 := ⟨_, rfl⟩
  rw [hn9] at hs9 hr9
  have HS7 : Hid (∀ W' : World, (Instr.slice 23 (.slice A n c) (some (.int .i64 7)) (some (.int .i64 (7 + X))) (some (.int .i64 (7 + X)))).run Try.prog W' = .ok (.slice A7 S c7) W') := Lib.hid hs7
  have HS9 : Hid (∀ W' : World, (Instr.slice 23 (.slice A n c) (some (.int .i64 (7 + X))) (some (.int .i64 P)) none).run Try.prog W' = .ok (.slice A9 n9 c9) W') := Lib.hid hs9
  have HS10 : Hid (∀ W' : World, (Instr.slice 23 (.slice A n c) none (some (.int .i64 P)) none).run Try.prog W' = .ok (.slice A10 p c10) W') := Lib.hid hs10
  have HS11 : Hid (∀ W' : World, (Instr.slice 23 (.slice A n c) (some (.int .i64 P)) (some (.int .i64 (P + 4))) none).run Try.prog W' = .ok (.slice A11 4 c11) W') := Lib.hid hs11
  have HR9 := Lib.hid hr9
  have HR10 := Lib.hid hr10
  have HR11 := Lib.hid hr11
  have HN9 := Lib.hid (show n9 ≤ 3 by have := HP.out; omega)
  have HPP := Lib.hid (show p ≤ 9000 by have := HP.out; omega)
  have HW4 : Hid (IntKind.i64.wrap (P + 4) = P + 4) := Lib.hid (by rw [IntKind.wrap_i64]; omega)
  have C42 := packets_any A7 S c7 _ Y w2 (hr7.below HB2.out) (by have := HP.out; omega) (by have := HY.out.2.1; have := HXY.out; omega)
  rw [HY.out.2.1] at C42
  obtain ⟨ph, hph⟩ : ∃ ph : List UInt8, (l.take (7 + S)).drop 7 = ph := ⟨_, rfl⟩
  rw [hph] at C42 HD4
  have hn02 : (n : Int) ≤ 2000000 := by have := HN.out; omega
  have g7 := HS7.out
  have g9 := HS9.out
  clear hs7 hs9 hs10 hs11 hr7 hr9 hr10 hr11 eS e7 eP eP4 e4 hn9 hA hph K4 HS1 HI4 HS4 HR4
  cases hpk : packs ph Y with
  | none =>
    rw [hpk] at C42 HD4
    have C42n := Lib.hid (C42.mono (R' := fun e w' => e = .panicked [errV 6] ∧ Below w2.heap.size w2 w') fun e w' h => by
      obtain ⟨hb, ⟨-, h⟩ | ⟨v, ds, -, -, h⟩⟩ := h
      · exact ⟨h, hb⟩
      · cases h)
    have HF := Lib.hid HD4.out
    clear C42 hpk
    go_wp2_with (go_at_call 40; (with_reducible refine (M1.out _ _).mono ?_); rintro e w1 ⟨rfl, rfl⟩; refine Hid.out ?_)
    refine Lib.hid ?_
    go_wp2_with (go_at_call 42; (with_reducible refine C42n.out.mono ?_); rintro e w4 ⟨rfl, b4⟩; have HB4 := Lib.hid (HB2.out.trans (b4.mono HB2.out.size)); have HX4 := Lib.hid (HX2.out.over b4); clear b4)
    exact dec_panic _ _ _ rfl rfl rfl rfl HX4.out fun w9 h9 => DecR.err HF.out HB4.out (by omega) h9
  | some q =>
  rw [hpk] at C42 HD4
  have C42s := Lib.hid (C42.mono (R' := fun e w' => Below w2.heap.size w2 w' ∧ ∃ v ds, e = .returned v ∧ PO w2.heap.size w' v ds ∧ q = pks ds) fun e w' h => by
    obtain ⟨hb, ⟨h, -⟩ | ⟨v, ds, h1, h2, h3⟩⟩ := h
    · cases h
    · exact ⟨hb, v, ds, h1, h2, by cases h3; rfl⟩)
  have HPV := Lib.hid (packs_valid Y ph q hpk)
  have HPL := Lib.hid (packs_length Y ph q hpk)
  simp only at HD4
  clear C42 hpk
  go_wp2_with (go_at_call 40; (with_reducible refine (M1.out _ _).mono ?_); rintro e w1 ⟨rfl, rfl⟩; refine Hid.out ?_)
  refine Lib.hid ?_
  go_wp2_with (go_at_call 42; (with_reducible refine C42s.out.mono ?_); rintro e w4 ⟨b4, v, ds, rfl, hpo, rfl⟩; have HB4 := Lib.hid (HB2.out.trans (b4.mono HB2.out.size)); have HX4 := Lib.hid (HX2.out.over b4); have HB24 := Lib.hid b4.size; have HPO4 := Lib.hid hpo; clear b4 hpo; refine Hid.out ?_)
  refine Lib.hid ?_
  obtain ⟨A8, c8, rfl⟩ := HPO4.out.form
  have hdl : ds.length ≤ 64 := by have := HPL.out; unfold pks at this; rw [List.length_map] at this; have := HY.out.2.1; have := HXY.out.2.2.1; omega
  obtain ⟨n8, hn8⟩ : ∃ n8, ds.length = n8 := ⟨_, rfl⟩
  rw [hn8] at HPO4 hdl ⊢
  have kq := HX4.out.l.cell 0
  simp at kq
  have kz := HX4.out.l.frozen 0
  have HDL := Lib.hid hdl
  clear hdl
  go_upto_region 8 with fail
  have HX5 := Lib.hid (HX4.out.set1 (.slice A8 n8 c8)).own
  have HPO5 := Lib.hid (HPO4.out.only (HX4.out.set1 (.slice A8 n8 c8)).only (fun b hb e => by have h1 := HX2.out.l.lt; have h2 := HX2.out.n.lt; have h3 := HX2.out.e.lt; omega))
  have HB5 := Lib.hid (HB4.out.trans ((HX4.out.set1 (.slice A8 n8 c8)).only.to_below HB4.out.size (fun b hlt e => by omega)))
  obtain ⟨w5, hw5⟩ : ∃ w5, w4.setCell ⟨w.heap.size, 0, none⟩ (.slice A8 n8 c8) = w5 := ⟨_, rfl⟩
  rw [hw5] at HX5 HPO5 HB5 ⊢
  clear hw5 kq kz
  have hvp : ∀ p ∈ ds, 0 ≤ p.t ∧ p.t ≤ 1099511627776 ∧ p.n ≤ 30000 := fun p hp => by
    have h1 := validP_iff.1 (HPV.out p.pk (List.mem_map.2 ⟨p, hp, rfl⟩))
    have h2 := (HPO5.out.data p hp)
    have h3 := h2.1
    have e : p.pk.d.length = p.n := by show p.d.length = p.n; simpa using h3
    rw [e] at h1
    have e2 : p.pk.t = p.t := rfl
    rw [e2] at h1
    omega
  have C32 := Lib.hid (block_any A8 n8 c8 ds w5 HPO5.out.pl (by have := HDL.out; omega) (fun p hp => ⟨(hvp p hp).1, (hvp p hp).2.1⟩) (fun p hp => (hvp p hp).2.2))
  have C41z := Lib.hid (fun (W : World) (hb : Below w.heap.size w W) => number_any A9 n9 c9 _ W (HR9.out.below hb) (by have := HN9.out; omega))
  obtain ⟨fits, hfits⟩ : ∃ fits, fitsP (pks ds) = fits := ⟨_, rfl⟩
  obtain ⟨zz, hzz⟩ : ∃ zz, num ((l.take p).drop (7 + S)) = zz := ⟨_, rfl⟩
  rw [hfits] at C32
  rw [hzz] at C41z
  rw [hfits, hzz] at HD4
  have hlq := HX5.out.l.cell 0
  simp at hlq
  clear hvp hfits hzz
  cases fits with
  | false =>
    have HF := Lib.hid (show D = .error 6 by rw [HD4.out, if_neg (by simp)])
    go_wp2_with (go_at_call 32; (with_reducible refine C32.out.mono ?_); rintro e w6 ⟨rfl, b6⟩; have HB6 := Lib.hid (HB5.out.trans (b6.mono HB5.out.size)); have HX6 := Lib.hid (HX5.out.over b6); clear b6; refine Hid.out ?_)
    refine Lib.hid ?_
    go_wp2_with (go_at_call 40; (with_reducible refine (M0.out _ _).mono ?_); rintro e w1 ⟨rfl, rfl⟩)
    exact dec_panic _ _ _ rfl rfl rfl rfl HX6.out fun w9 h9 => DecR.err HF.out HB6.out (by omega) h9
  | true =>
  go_wp2_with (go_at_call 32; (with_reducible refine C32.out.mono ?_); rintro e w6 ⟨rfl, b6⟩; have HB6 := Lib.hid (HB5.out.trans (b6.mono HB5.out.size)); have HX6 := Lib.hid (HX5.out.over b6); have HPO6 := Lib.hid (HPO5.out.below b6); clear b6; refine Hid.out ?_)
  refine Lib.hid ?_
  clear hlq
  go_wp2_with (go_at_call 41; (with_reducible refine (C41z.out _ HB6.out).mono ?_); rintro e w7 ⟨rfl, b7⟩; have HB7 := Lib.hid (HB6.out.trans (b7.mono HB6.out.size)); have HX7 := Lib.hid (HX6.out.over b7); have HPO7 := Lib.hid (HPO6.out.below b7); clear b7; refine Hid.out ?_)
  refine Lib.hid ?_
  by_cases hz0 : zz = 0
  case neg =>
    have q6 : ((zz : Int) == 0) = false := by simp; omega
    have HF := Lib.hid (show D = .error 6 by rw [HD4.out, if_neg (by simp [hz0])])
    clear hz0
    go_wp2_with (go_at_call 40; (with_reducible refine (M0.out _ _).mono ?_); rintro e w1 ⟨rfl, rfl⟩)
    exact dec_panic _ _ _ rfl rfl rfl rfl HX7.out fun w9 h9 => DecR.err HF.out HB7.out (by omega) h9
  case pos =>
  subst hz0
  have q6 : (((0 : Nat) : Int) == 0) = true := by decide
  have HD5 := Lib.hid (show D = (if be (adlN (l.take p)) 4 = (l.take (p + 4)).drop p then .ok (pks ds, p + 4) else .error 10) by rw [HD4.out, if_pos (by simp)])
  have C36 := Lib.hid (sum_any A10 p c10 _ w7.drew (HR10.out.below (below_drew HB7.out)) (by have := HPP.out; omega))
  clear g7 g9
  go_wp2_with (go_at_call 40; (with_reducible refine (M1.out _ _).mono ?_); rintro e w1 ⟨rfl, rfl⟩; refine Hid.out ?_)
  refine Lib.hid ?_
  clear q5 q6 hn02 hP0 hP1 hy0 hX0 hx3 hE
  go_upto_region 9 with fail
  by_cases heq : be (adlN (l.take p)) 4 = (l.take (p + 4)).drop p
  case neg =>
    have HEQ := Lib.hid heq
    have HF := Lib.hid (show D = .error 10 by rw [HD5.out, if_neg heq])
    clear heq
    refine wp_region_G (S0 := (fun _ => True)) (S1 := (fun _ => True)) (c := 99) (by kernel_rfl) ?_
    have hHeld := trivial
    have h01 := (fun (W : World) (h : (fun _ => True) W) => h)
    refine wpG_takeB (i := 0) (oi := ⟨some 66, _, _, _, _, _⟩) (v := .slice A n c) rfl (by kernel_rfl) (by kernel_rfl) (by kernel_rfl) (by decide) (fun _ _ _ h => dec_hQ (by decide) h) h01 rfl hHeld (Or.inl ⟨by rfl, ?_⟩) ?_
    · (intro W9 hSw; have g1 := HS10.out; have g2 := HS11.out; have g3 := HW4.out; go_simp; (try (first | with_reducible rfl | rfl)))
    try simp only [Act.put, List.setIfInBounds_toArray, List.set_cons_zero, List.set_cons_succ]
    refine wpG_takeB (i := 1) (oi := ⟨some 67, _, _, _, _, _⟩) (v := .int .i64 P) rfl (by kernel_rfl) (by kernel_rfl) (by kernel_rfl) (by decide) (fun _ _ _ h => dec_hQ (by decide) h) h01 rfl hHeld (Or.inl ⟨by rfl, ?_⟩) ?_
    · (intro W9 hSw; have g1 := HS10.out; have g2 := HS11.out; have g3 := HW4.out; go_simp; (try (first | with_reducible rfl | rfl)))
    try simp only [Act.put, List.setIfInBounds_toArray, List.set_cons_zero, List.set_cons_succ]
    refine wpG_takeB (i := 2) (oi := ⟨some 68, _, _, _, _, _⟩) (v := .slice A10 p c10) rfl (by kernel_rfl) (by kernel_rfl) (by kernel_rfl) (by decide) (fun _ _ _ h => dec_hQ (by decide) h) h01 rfl hHeld (Or.inl ⟨by rfl, ?_⟩) ?_
    · (intro W9 hSw; have g1 := HS10.out; have g2 := HS11.out; have g3 := HW4.out; go_simp; (try (first | with_reducible rfl | rfl)))
    try simp only [Act.put, List.setIfInBounds_toArray, List.set_cons_zero, List.set_cons_succ]
    refine wpG_takeB (i := 4) (oi := ⟨some 70, _, _, _, _, _⟩) (v := .slice A n c) rfl (by kernel_rfl) (by kernel_rfl) (by kernel_rfl) (by decide) (fun _ _ _ h => dec_hQ (by decide) h) h01 rfl hHeld (Or.inl ⟨by rfl, ?_⟩) ?_
    · (intro W9 hSw; have g1 := HS10.out; have g2 := HS11.out; have g3 := HW4.out; go_simp; (try (first | with_reducible rfl | rfl)))
    try simp only [Act.put, List.setIfInBounds_toArray, List.set_cons_zero, List.set_cons_succ]
    refine wpG_takeB (i := 5) (oi := ⟨some 71, _, _, _, _, _⟩) (v := .int .i64 P) rfl (by kernel_rfl) (by kernel_rfl) (by kernel_rfl) (by decide) (fun _ _ _ h => dec_hQ (by decide) h) h01 rfl hHeld (Or.inl ⟨by rfl, ?_⟩) ?_
    · (intro W9 hSw; have g1 := HS10.out; have g2 := HS11.out; have g3 := HW4.out; go_simp; (try (first | with_reducible rfl | rfl)))
    try simp only [Act.put, List.setIfInBounds_toArray, List.set_cons_zero, List.set_cons_succ]
    refine wpG_takeB (i := 6) (oi := ⟨some 72, _, _, _, _, _⟩) (v := .int .i64 P) rfl (by kernel_rfl) (by kernel_rfl) (by kernel_rfl) (by decide) (fun _ _ _ h => dec_hQ (by decide) h) h01 rfl hHeld (Or.inl ⟨by rfl, ?_⟩) ?_
    · (intro W9 hSw; have g1 := HS10.out; have g2 := HS11.out; have g3 := HW4.out; go_simp; (try (first | with_reducible rfl | rfl)))
    try simp only [Act.put, List.setIfInBounds_toArray, List.set_cons_zero, List.set_cons_succ]
    refine wpG_takeB (i := 7) (oi := ⟨some 73, _, _, _, _, _⟩) (v := .int .i64 (P + 4)) rfl (by kernel_rfl) (by kernel_rfl) (by kernel_rfl) (by decide) (fun _ _ _ h => dec_hQ (by decide) h) h01 rfl hHeld (Or.inl ⟨by rfl, ?_⟩) ?_
    · (intro W9 hSw; have g1 := HS10.out; have g2 := HS11.out; have g3 := HW4.out; go_simp; (try (first | with_reducible rfl | rfl)))
    try simp only [Act.put, List.setIfInBounds_toArray, List.set_cons_zero, List.set_cons_succ]
    refine wpG_takeB (i := 8) (oi := ⟨some 74, _, _, _, _, _⟩) (v := .slice A11 4 c11) rfl (by kernel_rfl) (by kernel_rfl) (by kernel_rfl) (by decide) (fun _ _ _ h => dec_hQ (by decide) h) h01 rfl hHeld (Or.inl ⟨by rfl, ?_⟩) ?_
    · (intro W9 hSw; have g1 := HS10.out; have g2 := HS11.out; have g3 := HW4.out; go_simp; (try (first | with_reducible rfl | rfl)))
    try simp only [Act.put, List.setIfInBounds_toArray, List.set_cons_zero, List.set_cons_succ]
    refine wpG_oneB (i := 3) (o := ⟨some 69, _, _, _, _, _⟩) (by kernel_rfl) rfl rfl (fun K hK => ?_)
    go_simp
    (with_reducible refine C36.out.mono ?_); rintro e w8 ⟨v12, rfl, o8, b8⟩
    rw [be_length] at o8
    obtain ⟨A12, c12, rfl, -⟩ := own_form o8
    have HB8 := Lib.hid (HB7.out.trans ((below_drew0 b8).mono HB7.out.size))
    have HX8 := Lib.hid (HX7.out.over (below_drew0 b8))
    have HPO8 := Lib.hid (HPO7.out.below (below_drew0 b8))
    have HR12 := Lib.hid (own_RB3 o8)
    clear o8 b8
    refine hK.out _ _ trivial (fun hHeld => ?_)
    clear hK K
    try simp only [Act.put, List.setIfInBounds_toArray, List.set_cons_zero, List.set_cons_succ]
    refine wpG_oneB (i := 9) (o := ⟨some 75, _, _, _, _, _⟩) (by kernel_rfl) rfl rfl (fun K hK => ?_)
    go_simp
    (with_reducible refine (equal_any A12 A11 4 c12 4 c11 _ _ w8 HR12.out (HR11.out.below HB8.out) (by decide)).mono ?_); rintro e w9 ⟨rfl, b9⟩
    rw [decide_eq_false HEQ.out]
    have HB9 := Lib.hid (HB8.out.trans (b9.mono HB8.out.size))
    have HX9 := Lib.hid (HX8.out.over b9)
    have HPO9 := Lib.hid (HPO8.out.below b9)
    clear b9
    refine hK.out _ _ trivial (fun hHeld => ?_)
    clear hK K
    try simp only [Act.put, List.setIfInBounds_toArray, List.set_cons_zero, List.set_cons_succ]
    refine wpG_oneB (i := 10) (o := ⟨some 76, _, _, _, _, _⟩) (by kernel_rfl) rfl rfl (fun K hK => ?_)
    go_simp
    (with_reducible refine (M0.out 10 _).mono ?_); rintro e w10 ⟨rfl, rfl⟩
    exact dec_panic _ _ _ rfl rfl rfl rfl HX9.out fun w9 h9 => DecR.err HF.out HB9.out (by omega) h9
  case pos =>
  have HEQ := Lib.hid heq
  have HF := Lib.hid (show D = .ok (pks ds, p + 4) by rw [HD5.out, if_pos heq])
  clear heq
  refine wp_region_G (S0 := (fun _ => True)) (S1 := (fun _ => True)) (c := 99) (by kernel_rfl) ?_
  have hHeld := trivial
  have h01 := (fun (W : World) (h : (fun _ => True) W) => h)
  refine wpG_takeB (i := 0) (oi := ⟨some 66, _, _, _, _, _⟩) (v := .slice A n c) rfl (by kernel_rfl) (by kernel_rfl) (by kernel_rfl) (by decide) (fun _ _ _ h => dec_hQ (by decide) h) h01 rfl hHeld (Or.inl ⟨by rfl, ?_⟩) ?_
  · (intro W9 hSw; have g1 := HS10.out; have g2 := HS11.out; have g3 := HW4.out; go_simp; (try (first | with_reducible rfl | rfl)))
  try simp only [Act.put, List.setIfInBounds_toArray, List.set_cons_zero, List.set_cons_succ]
  refine wpG_takeB (i := 1) (oi := ⟨some 67, _, _, _, _, _⟩) (v := .int .i64 P) rfl (by kernel_rfl) (by kernel_rfl) (by kernel_rfl) (by decide) (fun _ _ _ h => dec_hQ (by decide) h) h01 rfl hHeld (Or.inl ⟨by rfl, ?_⟩) ?_
  · (intro W9 hSw; have g1 := HS10.out; have g2 := HS11.out; have g3 := HW4.out; go_simp; (try (first | with_reducible rfl | rfl)))
  try simp only [Act.put, List.setIfInBounds_toArray, List.set_cons_zero, List.set_cons_succ]
  refine wpG_takeB (i := 2) (oi := ⟨some 68, _, _, _, _, _⟩) (v := .slice A10 p c10) rfl (by kernel_rfl) (by kernel_rfl) (by kernel_rfl) (by decide) (fun _ _ _ h => dec_hQ (by decide) h) h01 rfl hHeld (Or.inl ⟨by rfl, ?_⟩) ?_
  · (intro W9 hSw; have g1 := HS10.out; have g2 := HS11.out; have g3 := HW4.out; go_simp; (try (first | with_reducible rfl | rfl)))
  try simp only [Act.put, List.setIfInBounds_toArray, List.set_cons_zero, List.set_cons_succ]
  refine wpG_takeB (i := 4) (oi := ⟨some 70, _, _, _, _, _⟩) (v := .slice A n c) rfl (by kernel_rfl) (by kernel_rfl) (by kernel_rfl) (by decide) (fun _ _ _ h => dec_hQ (by decide) h) h01 rfl hHeld (Or.inl ⟨by rfl, ?_⟩) ?_
  · (intro W9 hSw; have g1 := HS10.out; have g2 := HS11.out; have g3 := HW4.out; go_simp; (try (first | with_reducible rfl | rfl)))
  try simp only [Act.put, List.setIfInBounds_toArray, List.set_cons_zero, List.set_cons_succ]
  refine wpG_takeB (i := 5) (oi := ⟨some 71, _, _, _, _, _⟩) (v := .int .i64 P) rfl (by kernel_rfl) (by kernel_rfl) (by kernel_rfl) (by decide) (fun _ _ _ h => dec_hQ (by decide) h) h01 rfl hHeld (Or.inl ⟨by rfl, ?_⟩) ?_
  · (intro W9 hSw; have g1 := HS10.out; have g2 := HS11.out; have g3 := HW4.out; go_simp; (try (first | with_reducible rfl | rfl)))
  try simp only [Act.put, List.setIfInBounds_toArray, List.set_cons_zero, List.set_cons_succ]
  refine wpG_takeB (i := 6) (oi := ⟨some 72, _, _, _, _, _⟩) (v := .int .i64 P) rfl (by kernel_rfl) (by kernel_rfl) (by kernel_rfl) (by decide) (fun _ _ _ h => dec_hQ (by decide) h) h01 rfl hHeld (Or.inl ⟨by rfl, ?_⟩) ?_
  · (intro W9 hSw; have g1 := HS10.out; have g2 := HS11.out; have g3 := HW4.out; go_simp; (try (first | with_reducible rfl | rfl)))
  try simp only [Act.put, List.setIfInBounds_toArray, List.set_cons_zero, List.set_cons_succ]
  refine wpG_takeB (i := 7) (oi := ⟨some 73, _, _, _, _, _⟩) (v := .int .i64 (P + 4)) rfl (by kernel_rfl) (by kernel_rfl) (by kernel_rfl) (by decide) (fun _ _ _ h => dec_hQ (by decide) h) h01 rfl hHeld (Or.inl ⟨by rfl, ?_⟩) ?_
  · (intro W9 hSw; have g1 := HS10.out; have g2 := HS11.out; have g3 := HW4.out; go_simp; (try (first | with_reducible rfl | rfl)))
  try simp only [Act.put, List.setIfInBounds_toArray, List.set_cons_zero, List.set_cons_succ]
  refine wpG_takeB (i := 8) (oi := ⟨some 74, _, _, _, _, _⟩) (v := .slice A11 4 c11) rfl (by kernel_rfl) (by kernel_rfl) (by kernel_rfl) (by decide) (fun _ _ _ h => dec_hQ (by decide) h) h01 rfl hHeld (Or.inl ⟨by rfl, ?_⟩) ?_
  · (intro W9 hSw; have g1 := HS10.out; have g2 := HS11.out; have g3 := HW4.out; go_simp; (try (first | with_reducible rfl | rfl)))
  try simp only [Act.put, List.setIfInBounds_toArray, List.set_cons_zero, List.set_cons_succ]
  refine wpG_oneB (i := 3) (o := ⟨some 69, _, _, _, _, _⟩) (by kernel_rfl) rfl rfl (fun K hK => ?_)
  go_simp
  (with_reducible refine C36.out.mono ?_); rintro e w8 ⟨v12, rfl, o8, b8⟩
  rw [be_length] at o8
  obtain ⟨A12, c12, rfl, -⟩ := own_form o8
  have HB8 := Lib.hid (HB7.out.trans ((below_drew0 b8).mono HB7.out.size))
  have HX8 := Lib.hid (HX7.out.over (below_drew0 b8))
  have HPO8 := Lib.hid (HPO7.out.below (below_drew0 b8))
  have HR12 := Lib.hid (own_RB3 o8)
  clear o8 b8
  refine hK.out _ _ trivial (fun hHeld => ?_)
  clear hK K
  try simp only [Act.put, List.setIfInBounds_toArray, List.set_cons_zero, List.set_cons_succ]
  refine wpG_oneB (i := 9) (o := ⟨some 75, _, _, _, _, _⟩) (by kernel_rfl) rfl rfl (fun K hK => ?_)
  go_simp
  (with_reducible refine (equal_any A12 A11 4 c12 4 c11 _ _ w8 HR12.out (HR11.out.below HB8.out) (by decide)).mono ?_); rintro e w9 ⟨rfl, b9⟩
  rw [decide_eq_true HEQ.out]
  have HB9 := Lib.hid (HB8.out.trans (b9.mono HB8.out.size))
  have HX9 := Lib.hid (HX8.out.over b9)
  have HPO9 := Lib.hid (HPO8.out.below b9)
  clear b9
  refine hK.out _ _ trivial (fun hHeld => ?_)
  clear hK K
  try simp only [Act.put, List.setIfInBounds_toArray, List.set_cons_zero, List.set_cons_succ]
  refine wpG_oneB (i := 10) (o := ⟨some 76, _, _, _, _, _⟩) (by kernel_rfl) rfl rfl (fun K hK => ?_)
  go_simp
  (with_reducible refine (M1.out 10 _).mono ?_); rintro e w10 ⟨rfl, rfl⟩
  refine hK.out _ _ trivial (fun hHeld => ?_)
  clear hK K
  try simp only [Act.put, List.setIfInBounds_toArray, List.set_cons_zero, List.set_cons_succ]
  refine wpG_done (by kernel_rfl) ?_ _
  clear hHeld h01
  have kq0 := HX9.out.l.cell 0
  have kq1 := HX9.out.n.cell 0
  have kq2 := HX9.out.e.cell 0
  simp at kq0 kq1 kq2
  have z0 := HX9.out.l.frozen 0
  have z1 := HX9.out.n.frozen 0
  have z2 := HX9.out.e.frozen 0
  have n01 : w.heap.size ≠ w.heap.size + 1 := by omega
  have hP9 : P ≤ 9000 := by have := HP.out; have := HPP.out; omega
  have hP8 : 0 ≤ P := by have := HP.out; omega
  have HXE := Lib.hid (((HX9.out.set1 (.slice A8 n8 c8)).set2 (.int .i64 (P + 4))).set3 (.int .i64 0))
  have HPOE := Lib.hid (HPO9.out.only HXE.out.only (fun b hb e => by have h1 := HX2.out.l.lt; have h2 := HX2.out.n.lt; have h3 := HX2.out.e.lt; omega))
  have HBE := Lib.hid (HB9.out.trans (HXE.out.only.to_below HB9.out.size (fun b hlt e => by omega)))
  go_wp2_with fail
  refine dec_ret _ _ rfl rfl rfl rfl HXE.out.l HXE.out.n HXE.out.e ⟨HBE.out, .inr ⟨_, ds, p + 4, HF.out, ?_, HPOE.out.base HB2.out.size⟩⟩
  have := HP.out.1
  rw [show ((p + 4 : Nat) : Int) = P + 4 by omega]
end Go.Proofs.Ytgbkoegmoelheaa
