/- Same, of equal lists. -/
import Derived.Test.YtibkhjpjneoabaaFo
namespace Go.Proofs.Ytibkhjpjneoabaa
open Go.RowKit
set_option linter.unusedVariables false
set_option linter.unusedSimpArgs false

/-- A list of results that can be read. -/
structure FrR (w : World) (A : Option Addr) (ds : List Fd) : Prop where
  cells : 0 < ds.length → ∃ b o, A = some ⟨b, o, none⟩ ∧ ∀ j u, (ds.flatMap Fd.cells)[j]? = some u → w.cell? ⟨b, o + j, none⟩ = some u
  rows : ∀ d ∈ ds, RB w d.A d.n d.cp d.fr.bytes
theorem fd_get (ds : List Fd) : ∀ (i : Nat) (hi : i < ds.length), (ds.flatMap Fd.cells)[i * 3]? = some (.int .i64 (ds[i].fr.at_ : Int)) ∧ (ds.flatMap Fd.cells)[i * 3 + 1]? = some ds[i].val ∧ (ds.flatMap Fd.cells)[i * 3 + 2]? = some (.int .i64 ds[i].fr.code) := by
  induction ds with
  | nil => intro i hi; simp at hi
  | cons d ds ih =>
    intro i hi
    cases i with
    | zero => simp [Fd.cells]
    | succ i =>
      have := ih i (by simpa using hi)
      have e : (i + 1) * 3 = 3 + i * 3 := by omega
      have h3 : d.cells.length = 3 := rfl
      simp only [List.flatMap_cons, List.getElem_cons_succ]
      rw [e, List.getElem?_append_right (by omega), List.getElem?_append_right (by omega), List.getElem?_append_right (by omega), h3]
      simpa [Nat.add_assoc] using this
theorem FrL.read {w : World} {B : Nat} {A : Option Addr} {n cp : Nat} {ds : List Fd} (h : FrL w B (.slice A n cp) ds) : FrR w A ds ∧ n = ds.length := by
  obtain ⟨A', cap, e, h1, h2, h3, h4⟩ := own_formS h.own
  injection e with e1 e2 e3
  subst e1 e3
  refine ⟨⟨fun h0 => ?_, fun d hd => own_RB3 (h.rows d hd)⟩, e2⟩
  obtain ⟨g, hg, -, -⟩ := h4 (by omega)
  subst hg
  refine ⟨g, 0, rfl, fun j u hu => ?_⟩
  have := h.own.cells rfl j u hu
  rw [Nat.zero_add]
  rw [Addr.add_lit, Nat.zero_add] at this
  exact this
def SmR (b1 p1 b2 p2 : Nat) (x y : Int) (d1 d2 : Fd) (l : List UInt8) (W : World) : Prop := W.cell? ⟨b1, p1, none⟩ = some (.int .i64 x) ∧ W.cell? ⟨b1, p1 + 1, none⟩ = some (.slice d1.A d1.n d1.cp) ∧ W.cell? ⟨b1, p1 + 2, none⟩ = some (.int .i64 y) ∧ W.cell? ⟨b2, p2, none⟩ = some (.int .i64 x) ∧ W.cell? ⟨b2, p2 + 1, none⟩ = some (.slice d2.A d2.n d2.cp) ∧ W.cell? ⟨b2, p2 + 2, none⟩ = some (.int .i64 y) ∧ RB W d1.A d1.n d1.cp l ∧ RB W d2.A d2.n d2.cp l

theorem SmR.below {w W : World} {b1 p1 b2 p2 : Nat} {x y : Int} {d1 d2 : Fd} {l : List UInt8} (h : SmR b1 p1 b2 p2 x y d1 d2 l w) (hb : Below w.heap.size w W) : SmR b1 p1 b2 p2 x y d1 d2 l W := by
  obtain ⟨h1, h2, h3, h4, h5, h6, h7, h8⟩ := h
  have key : ∀ {a : Addr} {u : Value}, w.cell? a = some u → W.cell? a = some u := fun h => (hb.cell (World.block_lt_of_cell? _ _ h)).trans h
  exact ⟨key h1, key h2, key h3, key h4, key h5, key h6, h7.below hb, h8.below hb⟩

set_option maxRecDepth 100000 in
set_option maxHeartbeats 4000000 in
theorem same_any (P1 P2 : Option Addr) (cp1 cp2 : Nat) (ds es : List Fd) (w : World) (h1 : FrR w P1 ds) (h2 : FrR w P2 es) (he : ds.map Fd.fr = es.map Fd.fr) (hn : ds.length ≤ 100000) :
    Calls Try.prog 21 #[.slice P1 ds.length cp1, .slice P2 es.length cp2] w fun e w' => e = .returned (.bool true) ∧ Below w.heap.size w w' := by
  have hlen : es.length = ds.length := by have := congrArg List.length he; simpa using this.symm
  rw [hlen]
  have H1 := Lib.hid h1
  have H2 := Lib.hid h2
  have HE := Lib.hid he
  have HN := Lib.hid hn
  have HLN := Lib.hid hlen
  have hnn : (ds.length : Int) ≤ 100000 := by omega
  obtain ⟨nn, hnl⟩ : ∃ nn, ds.length = nn := ⟨_, rfl⟩
  have HNL := Lib.hid hnl
  clear h1 h2 he hn hlen hnl
  go_enter Try.func21, Try.ntmps21
  go_wp2_with fail
  go_loopw [5] (fun ii wr => ∃ i : Nat, (i : Int) ≤ ds.length ∧ ii = .int .i64 i ∧ Hid (Below w.heap.size w wr)) (fun ii _ => ds.length - (intOf ii).toNat)
  case atStart => exact ⟨0, by omega, rfl, Lib.hid (Below.refl _ _)⟩
  case round =>
    obtain ⟨i, hi, rfl, HB⟩ := hrel
    have hi0 : (0 : Int) ≤ i := by omega
    obtain ⟨wo, rfl⟩ : ∃ wo : World, wo = wr := ⟨_, rfl⟩
    by_cases hlt : (i : Int) < ds.length
    · have hi1 : i < ds.length := by omega
      have hi2 : i < es.length := by rw [HLN.out]; omega
      obtain ⟨b1, o1, rfl, hc1⟩ := H1.out.cells (by omega)
      obtain ⟨b2, o2, rfl, hc2⟩ := H2.out.cells (by omega)
      have hf : (ds[i]).fr = (es[i]).fr := by
        have := congrArg (fun l => l[i]?) HE.out
        simpa [List.getElem?_eq_getElem hi1, List.getElem?_eq_getElem hi2] using this
      obtain ⟨q1, q2, q3⟩ := fd_get ds i hi1
      obtain ⟨r1, r2, r3⟩ := fd_get es i hi2
      have hm1 := H1.out.rows _ (List.getElem_mem hi1)
      have hm2 := H2.out.rows _ (List.getElem_mem hi2)
      rw [hf] at q1 q3 hm1
      generalize ds[i] = d1 at *
      generalize es[i] = d2 at *
      obtain ⟨x9, hx9⟩ : ∃ x9, (d2.fr.at_ : Int) = x9 := ⟨_, rfl⟩
      obtain ⟨y9, hy9⟩ : ∃ y9, d2.fr.code = y9 := ⟨_, rfl⟩
      obtain ⟨l9, hl9⟩ : ∃ l9, d2.fr.bytes = l9 := ⟨_, rfl⟩
      rw [hx9] at q1 r1
      rw [hy9] at q3 r3
      rw [hl9] at hm1 hm2
      have hS : SmR b1 (o1 + i * 3) b2 (o2 + i * 3) x9 y9 d1 d2 l9 w := ⟨hc1 _ _ q1, by rw [Nat.add_assoc]; exact hc1 _ _ q2, by rw [Nat.add_assoc]; exact hc1 _ _ q3, hc2 _ _ r1, by rw [Nat.add_assoc]; exact hc2 _ _ r2, by rw [Nat.add_assoc]; exact hc2 _ _ r3, hm1, hm2⟩
      obtain ⟨s9, hs9⟩ : ∃ s9 : ByteArray, ⟨l9.toArray⟩ = s9 := ⟨_, rfl⟩
      have HST := Lib.hid hs9
      have HS6 := Lib.hid (hS.below (HB.out.trans (below_drew (Below.refl _ wo) |>.mono HB.out.size)))
      have HLT := Lib.hid hlt
      have HIX := Lib.hid (And.intro hi0 hlt)
      clear q1 q2 q3 r1 r2 r3 hm1 hm2 hx9 hy9 hl9 hS hc1 hc2 hf hs9 hi1 hi2
      go_upto_region 6 with fail
      refine wp_region_G (S0 := (SmR b1 (o1 + i * 3) b2 (o2 + i * 3) x9 y9 d1 d2 l9)) (S1 := (SmR b1 (o1 + i * 3) b2 (o2 + i * 3) x9 y9 d1 d2 l9)) (c := 99) (by kernel_rfl) ?_
      have hHeld := HS6.out
      have h01 := (fun (W : World) (h : (SmR b1 (o1 + i * 3) b2 (o2 + i * 3) x9 y9 d1 d2 l9) W) => h)
      refine wpG_takeB (i := 0) (oi := ⟨some 17, _, _, _, _, _⟩) (v := .slice (some ⟨b1, o1, none⟩) ds.length cp1) rfl (by kernel_rfl) (by kernel_rfl) (by kernel_rfl) (by decide) (fun _ _ _ h => h) h01 rfl hHeld (Or.inl ⟨by rfl, ?_⟩) ?_
      · (intro W9 hSw; obtain ⟨v1, v2, v3, v4, v5, v6, v7, v8⟩ := hSw; have u1 := conv_RB v7; have u2 := conv_RB v8; rw [HST.out] at u1 u2; clear v7 v8; go_simp; (try (first | with_reducible rfl | rfl | (simp; done))))
      try simp only [Act.put, List.setIfInBounds_toArray, List.set_cons_zero, List.set_cons_succ]
      refine wpG_takeB (i := 1) (oi := ⟨some 18, _, _, _, _, _⟩) (v := .int .i64 (i : Int)) rfl (by kernel_rfl) (by kernel_rfl) (by kernel_rfl) (by decide) (fun _ _ _ h => h) h01 rfl hHeld (Or.inl ⟨by rfl, ?_⟩) ?_
      · (intro W9 hSw; obtain ⟨v1, v2, v3, v4, v5, v6, v7, v8⟩ := hSw; have u1 := conv_RB v7; have u2 := conv_RB v8; rw [HST.out] at u1 u2; clear v7 v8; go_simp; (try (first | with_reducible rfl | rfl | (simp; done))))
      try simp only [Act.put, List.setIfInBounds_toArray, List.set_cons_zero, List.set_cons_succ]
      refine wpG_takeB (i := 2) (oi := ⟨some 19, _, _, _, _, _⟩) (v := .pointer (some ⟨b1, o1 + i * 3, none⟩)) rfl (by kernel_rfl) (by kernel_rfl) (by kernel_rfl) (by decide) (fun _ _ _ h => h) h01 rfl hHeld (Or.inl ⟨by rfl, ?_⟩) ?_
      · (intro W9 hSw; obtain ⟨v1, v2, v3, v4, v5, v6, v7, v8⟩ := hSw; have u1 := conv_RB v7; have u2 := conv_RB v8; rw [HST.out] at u1 u2; clear v7 v8; go_simp; (try (first | with_reducible rfl | rfl | (simp; done))))
      try simp only [Act.put, List.setIfInBounds_toArray, List.set_cons_zero, List.set_cons_succ]
      refine wpG_takeB (i := 3) (oi := ⟨some 20, _, _, _, _, _⟩) (v := .pointer (some ⟨b1, o1 + i * 3, none⟩)) rfl (by kernel_rfl) (by kernel_rfl) (by kernel_rfl) (by decide) (fun _ _ _ h => h) h01 rfl hHeld (Or.inl ⟨by rfl, ?_⟩) ?_
      · (intro W9 hSw; obtain ⟨v1, v2, v3, v4, v5, v6, v7, v8⟩ := hSw; have u1 := conv_RB v7; have u2 := conv_RB v8; rw [HST.out] at u1 u2; clear v7 v8; go_simp; (try (first | with_reducible rfl | rfl | (simp; done))))
      try simp only [Act.put, List.setIfInBounds_toArray, List.set_cons_zero, List.set_cons_succ]
      refine wpG_takeB (i := 4) (oi := ⟨some 21, _, _, _, _, _⟩) (v := .int .i64 x9) rfl (by kernel_rfl) (by kernel_rfl) (by kernel_rfl) (by decide) (fun _ _ _ h => h) h01 rfl hHeld (Or.inl ⟨by rfl, ?_⟩) ?_
      · (intro W9 hSw; obtain ⟨v1, v2, v3, v4, v5, v6, v7, v8⟩ := hSw; have u1 := conv_RB v7; have u2 := conv_RB v8; rw [HST.out] at u1 u2; clear v7 v8; go_simp; (try (first | with_reducible rfl | rfl | (simp; done))))
      try simp only [Act.put, List.setIfInBounds_toArray, List.set_cons_zero, List.set_cons_succ]
      refine wpG_takeB (i := 5) (oi := ⟨some 22, _, _, _, _, _⟩) (v := .slice (some ⟨b2, o2, none⟩) ds.length cp2) rfl (by kernel_rfl) (by kernel_rfl) (by kernel_rfl) (by decide) (fun _ _ _ h => h) h01 rfl hHeld (Or.inl ⟨by rfl, ?_⟩) ?_
      · (intro W9 hSw; obtain ⟨v1, v2, v3, v4, v5, v6, v7, v8⟩ := hSw; have u1 := conv_RB v7; have u2 := conv_RB v8; rw [HST.out] at u1 u2; clear v7 v8; go_simp; (try (first | with_reducible rfl | rfl | (simp; done))))
      try simp only [Act.put, List.setIfInBounds_toArray, List.set_cons_zero, List.set_cons_succ]
      refine wpG_takeB (i := 6) (oi := ⟨some 23, _, _, _, _, _⟩) (v := .int .i64 (i : Int)) rfl (by kernel_rfl) (by kernel_rfl) (by kernel_rfl) (by decide) (fun _ _ _ h => h) h01 rfl hHeld (Or.inl ⟨by rfl, ?_⟩) ?_
      · (intro W9 hSw; obtain ⟨v1, v2, v3, v4, v5, v6, v7, v8⟩ := hSw; have u1 := conv_RB v7; have u2 := conv_RB v8; rw [HST.out] at u1 u2; clear v7 v8; go_simp; (try (first | with_reducible rfl | rfl | (simp; done))))
      try simp only [Act.put, List.setIfInBounds_toArray, List.set_cons_zero, List.set_cons_succ]
      refine wpG_takeB (i := 7) (oi := ⟨some 24, _, _, _, _, _⟩) (v := .pointer (some ⟨b2, o2 + i * 3, none⟩)) rfl (by kernel_rfl) (by kernel_rfl) (by kernel_rfl) (by decide) (fun _ _ _ h => h) h01 rfl hHeld (Or.inl ⟨by rfl, ?_⟩) ?_
      · (intro W9 hSw; obtain ⟨v1, v2, v3, v4, v5, v6, v7, v8⟩ := hSw; have u1 := conv_RB v7; have u2 := conv_RB v8; rw [HST.out] at u1 u2; clear v7 v8; go_simp; (try (first | with_reducible rfl | rfl | (simp; done))))
      try simp only [Act.put, List.setIfInBounds_toArray, List.set_cons_zero, List.set_cons_succ]
      refine wpG_takeB (i := 8) (oi := ⟨some 25, _, _, _, _, _⟩) (v := .pointer (some ⟨b2, o2 + i * 3, none⟩)) rfl (by kernel_rfl) (by kernel_rfl) (by kernel_rfl) (by decide) (fun _ _ _ h => h) h01 rfl hHeld (Or.inl ⟨by rfl, ?_⟩) ?_
      · (intro W9 hSw; obtain ⟨v1, v2, v3, v4, v5, v6, v7, v8⟩ := hSw; have u1 := conv_RB v7; have u2 := conv_RB v8; rw [HST.out] at u1 u2; clear v7 v8; go_simp; (try (first | with_reducible rfl | rfl | (simp; done))))
      try simp only [Act.put, List.setIfInBounds_toArray, List.set_cons_zero, List.set_cons_succ]
      refine wpG_takeB (i := 9) (oi := ⟨some 26, _, _, _, _, _⟩) (v := .int .i64 x9) rfl (by kernel_rfl) (by kernel_rfl) (by kernel_rfl) (by decide) (fun _ _ _ h => h) h01 rfl hHeld (Or.inl ⟨by rfl, ?_⟩) ?_
      · (intro W9 hSw; obtain ⟨v1, v2, v3, v4, v5, v6, v7, v8⟩ := hSw; have u1 := conv_RB v7; have u2 := conv_RB v8; rw [HST.out] at u1 u2; clear v7 v8; go_simp; (try (first | with_reducible rfl | rfl | (simp; done))))
      try simp only [Act.put, List.setIfInBounds_toArray, List.set_cons_zero, List.set_cons_succ]
      refine wpG_takeB (i := 10) (oi := ⟨some 27, _, _, _, _, _⟩) (v := .bool false) rfl (by kernel_rfl) (by kernel_rfl) (by kernel_rfl) (by decide) (fun _ _ _ h => h) h01 rfl hHeld (Or.inl ⟨by rfl, ?_⟩) ?_
      · (intro W9 hSw; obtain ⟨v1, v2, v3, v4, v5, v6, v7, v8⟩ := hSw; have u1 := conv_RB v7; have u2 := conv_RB v8; rw [HST.out] at u1 u2; clear v7 v8; go_simp; (try (first | with_reducible rfl | rfl | (simp; done))))
      try simp only [Act.put, List.setIfInBounds_toArray, List.set_cons_zero, List.set_cons_succ]
      refine wpG_takeB (i := 11) (oi := ⟨some 28, _, _, _, _, _⟩) (v := .bool false) rfl (by kernel_rfl) (by kernel_rfl) (by kernel_rfl) (by decide) (fun _ _ _ h => h) h01 rfl hHeld (Or.inl ⟨by rfl, ?_⟩) ?_
      · (intro W9 hSw; obtain ⟨v1, v2, v3, v4, v5, v6, v7, v8⟩ := hSw; have u1 := conv_RB v7; have u2 := conv_RB v8; rw [HST.out] at u1 u2; clear v7 v8; go_simp; (try (first | with_reducible rfl | rfl | (simp; done))))
      try simp only [Act.put, List.setIfInBounds_toArray, List.set_cons_zero, List.set_cons_succ]
      refine wpG_takeB (i := 12) (oi := ⟨some 29, _, _, _, _, _⟩) (v := .slice (some ⟨b1, o1, none⟩) ds.length cp1) rfl (by kernel_rfl) (by kernel_rfl) (by kernel_rfl) (by decide) (fun _ _ _ h => h) h01 rfl hHeld (Or.inl ⟨by rfl, ?_⟩) ?_
      · (intro W9 hSw; obtain ⟨v1, v2, v3, v4, v5, v6, v7, v8⟩ := hSw; have u1 := conv_RB v7; have u2 := conv_RB v8; rw [HST.out] at u1 u2; clear v7 v8; go_simp; (try (first | with_reducible rfl | rfl | (simp; done))))
      try simp only [Act.put, List.setIfInBounds_toArray, List.set_cons_zero, List.set_cons_succ]
      refine wpG_takeB (i := 13) (oi := ⟨some 30, _, _, _, _, _⟩) (v := .int .i64 (i : Int)) rfl (by kernel_rfl) (by kernel_rfl) (by kernel_rfl) (by decide) (fun _ _ _ h => h) h01 rfl hHeld (Or.inl ⟨by rfl, ?_⟩) ?_
      · (intro W9 hSw; obtain ⟨v1, v2, v3, v4, v5, v6, v7, v8⟩ := hSw; have u1 := conv_RB v7; have u2 := conv_RB v8; rw [HST.out] at u1 u2; clear v7 v8; go_simp; (try (first | with_reducible rfl | rfl | (simp; done))))
      try simp only [Act.put, List.setIfInBounds_toArray, List.set_cons_zero, List.set_cons_succ]
      refine wpG_takeB (i := 14) (oi := ⟨some 31, _, _, _, _, _⟩) (v := .pointer (some ⟨b1, o1 + i * 3, none⟩)) rfl (by kernel_rfl) (by kernel_rfl) (by kernel_rfl) (by decide) (fun _ _ _ h => h) h01 rfl hHeld (Or.inl ⟨by rfl, ?_⟩) ?_
      · (intro W9 hSw; obtain ⟨v1, v2, v3, v4, v5, v6, v7, v8⟩ := hSw; have u1 := conv_RB v7; have u2 := conv_RB v8; rw [HST.out] at u1 u2; clear v7 v8; go_simp; (try (first | with_reducible rfl | rfl | (simp; done))))
      try simp only [Act.put, List.setIfInBounds_toArray, List.set_cons_zero, List.set_cons_succ]
      refine wpG_takeB (i := 15) (oi := ⟨some 32, _, _, _, _, _⟩) (v := .pointer (some ⟨b1, o1 + i * 3 + 2, none⟩)) rfl (by kernel_rfl) (by kernel_rfl) (by kernel_rfl) (by decide) (fun _ _ _ h => h) h01 rfl hHeld (Or.inl ⟨by rfl, ?_⟩) ?_
      · (intro W9 hSw; obtain ⟨v1, v2, v3, v4, v5, v6, v7, v8⟩ := hSw; have u1 := conv_RB v7; have u2 := conv_RB v8; rw [HST.out] at u1 u2; clear v7 v8; go_simp; (try (first | with_reducible rfl | rfl | (simp; done))))
      try simp only [Act.put, List.setIfInBounds_toArray, List.set_cons_zero, List.set_cons_succ]
      refine wpG_takeB (i := 16) (oi := ⟨some 33, _, _, _, _, _⟩) (v := .int .i64 y9) rfl (by kernel_rfl) (by kernel_rfl) (by kernel_rfl) (by decide) (fun _ _ _ h => h) h01 rfl hHeld (Or.inl ⟨by rfl, ?_⟩) ?_
      · (intro W9 hSw; obtain ⟨v1, v2, v3, v4, v5, v6, v7, v8⟩ := hSw; have u1 := conv_RB v7; have u2 := conv_RB v8; rw [HST.out] at u1 u2; clear v7 v8; go_simp; (try (first | with_reducible rfl | rfl | (simp; done))))
      try simp only [Act.put, List.setIfInBounds_toArray, List.set_cons_zero, List.set_cons_succ]
      refine wpG_takeB (i := 17) (oi := ⟨some 34, _, _, _, _, _⟩) (v := .slice (some ⟨b2, o2, none⟩) ds.length cp2) rfl (by kernel_rfl) (by kernel_rfl) (by kernel_rfl) (by decide) (fun _ _ _ h => h) h01 rfl hHeld (Or.inl ⟨by rfl, ?_⟩) ?_
      · (intro W9 hSw; obtain ⟨v1, v2, v3, v4, v5, v6, v7, v8⟩ := hSw; have u1 := conv_RB v7; have u2 := conv_RB v8; rw [HST.out] at u1 u2; clear v7 v8; go_simp; (try (first | with_reducible rfl | rfl | (simp; done))))
      try simp only [Act.put, List.setIfInBounds_toArray, List.set_cons_zero, List.set_cons_succ]
      refine wpG_takeB (i := 18) (oi := ⟨some 35, _, _, _, _, _⟩) (v := .int .i64 (i : Int)) rfl (by kernel_rfl) (by kernel_rfl) (by kernel_rfl) (by decide) (fun _ _ _ h => h) h01 rfl hHeld (Or.inl ⟨by rfl, ?_⟩) ?_
      · (intro W9 hSw; obtain ⟨v1, v2, v3, v4, v5, v6, v7, v8⟩ := hSw; have u1 := conv_RB v7; have u2 := conv_RB v8; rw [HST.out] at u1 u2; clear v7 v8; go_simp; (try (first | with_reducible rfl | rfl | (simp; done))))
      try simp only [Act.put, List.setIfInBounds_toArray, List.set_cons_zero, List.set_cons_succ]
      refine wpG_takeB (i := 19) (oi := ⟨some 36, _, _, _, _, _⟩) (v := .pointer (some ⟨b2, o2 + i * 3, none⟩)) rfl (by kernel_rfl) (by kernel_rfl) (by kernel_rfl) (by decide) (fun _ _ _ h => h) h01 rfl hHeld (Or.inl ⟨by rfl, ?_⟩) ?_
      · (intro W9 hSw; obtain ⟨v1, v2, v3, v4, v5, v6, v7, v8⟩ := hSw; have u1 := conv_RB v7; have u2 := conv_RB v8; rw [HST.out] at u1 u2; clear v7 v8; go_simp; (try (first | with_reducible rfl | rfl | (simp; done))))
      try simp only [Act.put, List.setIfInBounds_toArray, List.set_cons_zero, List.set_cons_succ]
      refine wpG_takeB (i := 20) (oi := ⟨some 37, _, _, _, _, _⟩) (v := .pointer (some ⟨b2, o2 + i * 3 + 2, none⟩)) rfl (by kernel_rfl) (by kernel_rfl) (by kernel_rfl) (by decide) (fun _ _ _ h => h) h01 rfl hHeld (Or.inl ⟨by rfl, ?_⟩) ?_
      · (intro W9 hSw; obtain ⟨v1, v2, v3, v4, v5, v6, v7, v8⟩ := hSw; have u1 := conv_RB v7; have u2 := conv_RB v8; rw [HST.out] at u1 u2; clear v7 v8; go_simp; (try (first | with_reducible rfl | rfl | (simp; done))))
      try simp only [Act.put, List.setIfInBounds_toArray, List.set_cons_zero, List.set_cons_succ]
      refine wpG_takeB (i := 21) (oi := ⟨some 38, _, _, _, _, _⟩) (v := .int .i64 y9) rfl (by kernel_rfl) (by kernel_rfl) (by kernel_rfl) (by decide) (fun _ _ _ h => h) h01 rfl hHeld (Or.inl ⟨by rfl, ?_⟩) ?_
      · (intro W9 hSw; obtain ⟨v1, v2, v3, v4, v5, v6, v7, v8⟩ := hSw; have u1 := conv_RB v7; have u2 := conv_RB v8; rw [HST.out] at u1 u2; clear v7 v8; go_simp; (try (first | with_reducible rfl | rfl | (simp; done))))
      try simp only [Act.put, List.setIfInBounds_toArray, List.set_cons_zero, List.set_cons_succ]
      refine wpG_takeB (i := 22) (oi := ⟨some 39, _, _, _, _, _⟩) (v := .bool false) rfl (by kernel_rfl) (by kernel_rfl) (by kernel_rfl) (by decide) (fun _ _ _ h => h) h01 rfl hHeld (Or.inl ⟨by rfl, ?_⟩) ?_
      · (intro W9 hSw; obtain ⟨v1, v2, v3, v4, v5, v6, v7, v8⟩ := hSw; have u1 := conv_RB v7; have u2 := conv_RB v8; rw [HST.out] at u1 u2; clear v7 v8; go_simp; (try (first | with_reducible rfl | rfl | (simp; done))))
      try simp only [Act.put, List.setIfInBounds_toArray, List.set_cons_zero, List.set_cons_succ]
      refine wpG_takeB (i := 23) (oi := ⟨some 40, _, _, _, _, _⟩) (v := .bool false) rfl (by kernel_rfl) (by kernel_rfl) (by kernel_rfl) (by decide) (fun _ _ _ h => h) h01 rfl hHeld (Or.inl ⟨by rfl, ?_⟩) ?_
      · (intro W9 hSw; obtain ⟨v1, v2, v3, v4, v5, v6, v7, v8⟩ := hSw; have u1 := conv_RB v7; have u2 := conv_RB v8; rw [HST.out] at u1 u2; clear v7 v8; go_simp; (try (first | with_reducible rfl | rfl | (simp; done))))
      try simp only [Act.put, List.setIfInBounds_toArray, List.set_cons_zero, List.set_cons_succ]
      refine wpG_takeB (i := 24) (oi := ⟨some 41, _, _, _, _, _⟩) (v := .bool false) rfl (by kernel_rfl) (by kernel_rfl) (by kernel_rfl) (by decide) (fun _ _ _ h => h) h01 rfl hHeld (Or.inl ⟨by rfl, ?_⟩) ?_
      · (intro W9 hSw; obtain ⟨v1, v2, v3, v4, v5, v6, v7, v8⟩ := hSw; have u1 := conv_RB v7; have u2 := conv_RB v8; rw [HST.out] at u1 u2; clear v7 v8; go_simp; (try (first | with_reducible rfl | rfl | (simp; done))))
      try simp only [Act.put, List.setIfInBounds_toArray, List.set_cons_zero, List.set_cons_succ]
      refine wpG_takeB (i := 25) (oi := ⟨some 42, _, _, _, _, _⟩) (v := .slice (some ⟨b1, o1, none⟩) ds.length cp1) rfl (by kernel_rfl) (by kernel_rfl) (by kernel_rfl) (by decide) (fun _ _ _ h => h) h01 rfl hHeld (Or.inl ⟨by rfl, ?_⟩) ?_
      · (intro W9 hSw; obtain ⟨v1, v2, v3, v4, v5, v6, v7, v8⟩ := hSw; have u1 := conv_RB v7; have u2 := conv_RB v8; rw [HST.out] at u1 u2; clear v7 v8; go_simp; (try (first | with_reducible rfl | rfl | (simp; done))))
      try simp only [Act.put, List.setIfInBounds_toArray, List.set_cons_zero, List.set_cons_succ]
      refine wpG_takeB (i := 26) (oi := ⟨some 43, _, _, _, _, _⟩) (v := .int .i64 (i : Int)) rfl (by kernel_rfl) (by kernel_rfl) (by kernel_rfl) (by decide) (fun _ _ _ h => h) h01 rfl hHeld (Or.inl ⟨by rfl, ?_⟩) ?_
      · (intro W9 hSw; obtain ⟨v1, v2, v3, v4, v5, v6, v7, v8⟩ := hSw; have u1 := conv_RB v7; have u2 := conv_RB v8; rw [HST.out] at u1 u2; clear v7 v8; go_simp; (try (first | with_reducible rfl | rfl | (simp; done))))
      try simp only [Act.put, List.setIfInBounds_toArray, List.set_cons_zero, List.set_cons_succ]
      refine wpG_takeB (i := 27) (oi := ⟨some 44, _, _, _, _, _⟩) (v := .pointer (some ⟨b1, o1 + i * 3, none⟩)) rfl (by kernel_rfl) (by kernel_rfl) (by kernel_rfl) (by decide) (fun _ _ _ h => h) h01 rfl hHeld (Or.inl ⟨by rfl, ?_⟩) ?_
      · (intro W9 hSw; obtain ⟨v1, v2, v3, v4, v5, v6, v7, v8⟩ := hSw; have u1 := conv_RB v7; have u2 := conv_RB v8; rw [HST.out] at u1 u2; clear v7 v8; go_simp; (try (first | with_reducible rfl | rfl | (simp; done))))
      try simp only [Act.put, List.setIfInBounds_toArray, List.set_cons_zero, List.set_cons_succ]
      refine wpG_takeB (i := 28) (oi := ⟨some 45, _, _, _, _, _⟩) (v := .pointer (some ⟨b1, o1 + i * 3 + 1, none⟩)) rfl (by kernel_rfl) (by kernel_rfl) (by kernel_rfl) (by decide) (fun _ _ _ h => h) h01 rfl hHeld (Or.inl ⟨by rfl, ?_⟩) ?_
      · (intro W9 hSw; obtain ⟨v1, v2, v3, v4, v5, v6, v7, v8⟩ := hSw; have u1 := conv_RB v7; have u2 := conv_RB v8; rw [HST.out] at u1 u2; clear v7 v8; go_simp; (try (first | with_reducible rfl | rfl | (simp; done))))
      try simp only [Act.put, List.setIfInBounds_toArray, List.set_cons_zero, List.set_cons_succ]
      refine wpG_takeB (i := 29) (oi := ⟨some 46, _, _, _, _, _⟩) (v := .slice d1.A d1.n d1.cp) rfl (by kernel_rfl) (by kernel_rfl) (by kernel_rfl) (by decide) (fun _ _ _ h => h) h01 rfl hHeld (Or.inl ⟨by rfl, ?_⟩) ?_
      · (intro W9 hSw; obtain ⟨v1, v2, v3, v4, v5, v6, v7, v8⟩ := hSw; have u1 := conv_RB v7; have u2 := conv_RB v8; rw [HST.out] at u1 u2; clear v7 v8; go_simp; (try (first | with_reducible rfl | rfl | (simp; done))))
      try simp only [Act.put, List.setIfInBounds_toArray, List.set_cons_zero, List.set_cons_succ]
      refine wpG_takeB (i := 30) (oi := ⟨some 47, _, _, _, _, _⟩) (v := .string s9) rfl (by kernel_rfl) (by kernel_rfl) (by kernel_rfl) (by decide) (fun _ _ _ h => h) h01 rfl hHeld (Or.inl ⟨by rfl, ?_⟩) ?_
      · (intro W9 hSw; obtain ⟨v1, v2, v3, v4, v5, v6, v7, v8⟩ := hSw; have u1 := conv_RB v7; have u2 := conv_RB v8; rw [HST.out] at u1 u2; clear v7 v8; go_simp; (try (first | with_reducible rfl | rfl | (simp; done))))
      try simp only [Act.put, List.setIfInBounds_toArray, List.set_cons_zero, List.set_cons_succ]
      refine wpG_takeB (i := 31) (oi := ⟨some 48, _, _, _, _, _⟩) (v := .slice (some ⟨b2, o2, none⟩) ds.length cp2) rfl (by kernel_rfl) (by kernel_rfl) (by kernel_rfl) (by decide) (fun _ _ _ h => h) h01 rfl hHeld (Or.inl ⟨by rfl, ?_⟩) ?_
      · (intro W9 hSw; obtain ⟨v1, v2, v3, v4, v5, v6, v7, v8⟩ := hSw; have u1 := conv_RB v7; have u2 := conv_RB v8; rw [HST.out] at u1 u2; clear v7 v8; go_simp; (try (first | with_reducible rfl | rfl | (simp; done))))
      try simp only [Act.put, List.setIfInBounds_toArray, List.set_cons_zero, List.set_cons_succ]
      refine wpG_takeB (i := 32) (oi := ⟨some 49, _, _, _, _, _⟩) (v := .int .i64 (i : Int)) rfl (by kernel_rfl) (by kernel_rfl) (by kernel_rfl) (by decide) (fun _ _ _ h => h) h01 rfl hHeld (Or.inl ⟨by rfl, ?_⟩) ?_
      · (intro W9 hSw; obtain ⟨v1, v2, v3, v4, v5, v6, v7, v8⟩ := hSw; have u1 := conv_RB v7; have u2 := conv_RB v8; rw [HST.out] at u1 u2; clear v7 v8; go_simp; (try (first | with_reducible rfl | rfl | (simp; done))))
      try simp only [Act.put, List.setIfInBounds_toArray, List.set_cons_zero, List.set_cons_succ]
      refine wpG_takeB (i := 33) (oi := ⟨some 50, _, _, _, _, _⟩) (v := .pointer (some ⟨b2, o2 + i * 3, none⟩)) rfl (by kernel_rfl) (by kernel_rfl) (by kernel_rfl) (by decide) (fun _ _ _ h => h) h01 rfl hHeld (Or.inl ⟨by rfl, ?_⟩) ?_
      · (intro W9 hSw; obtain ⟨v1, v2, v3, v4, v5, v6, v7, v8⟩ := hSw; have u1 := conv_RB v7; have u2 := conv_RB v8; rw [HST.out] at u1 u2; clear v7 v8; go_simp; (try (first | with_reducible rfl | rfl | (simp; done))))
      try simp only [Act.put, List.setIfInBounds_toArray, List.set_cons_zero, List.set_cons_succ]
      refine wpG_takeB (i := 34) (oi := ⟨some 51, _, _, _, _, _⟩) (v := .pointer (some ⟨b2, o2 + i * 3 + 1, none⟩)) rfl (by kernel_rfl) (by kernel_rfl) (by kernel_rfl) (by decide) (fun _ _ _ h => h) h01 rfl hHeld (Or.inl ⟨by rfl, ?_⟩) ?_
      · (intro W9 hSw; obtain ⟨v1, v2, v3, v4, v5, v6, v7, v8⟩ := hSw; have u1 := conv_RB v7; have u2 := conv_RB v8; rw [HST.out] at u1 u2; clear v7 v8; go_simp; (try (first | with_reducible rfl | rfl | (simp; done))))
      try simp only [Act.put, List.setIfInBounds_toArray, List.set_cons_zero, List.set_cons_succ]
      refine wpG_takeB (i := 35) (oi := ⟨some 52, _, _, _, _, _⟩) (v := .slice d2.A d2.n d2.cp) rfl (by kernel_rfl) (by kernel_rfl) (by kernel_rfl) (by decide) (fun _ _ _ h => h) h01 rfl hHeld (Or.inl ⟨by rfl, ?_⟩) ?_
      · (intro W9 hSw; obtain ⟨v1, v2, v3, v4, v5, v6, v7, v8⟩ := hSw; have u1 := conv_RB v7; have u2 := conv_RB v8; rw [HST.out] at u1 u2; clear v7 v8; go_simp; (try (first | with_reducible rfl | rfl | (simp; done))))
      try simp only [Act.put, List.setIfInBounds_toArray, List.set_cons_zero, List.set_cons_succ]
      refine wpG_takeB (i := 36) (oi := ⟨some 53, _, _, _, _, _⟩) (v := .string s9) rfl (by kernel_rfl) (by kernel_rfl) (by kernel_rfl) (by decide) (fun _ _ _ h => h) h01 rfl hHeld (Or.inl ⟨by rfl, ?_⟩) ?_
      · (intro W9 hSw; obtain ⟨v1, v2, v3, v4, v5, v6, v7, v8⟩ := hSw; have u1 := conv_RB v7; have u2 := conv_RB v8; rw [HST.out] at u1 u2; clear v7 v8; go_simp; (try (first | with_reducible rfl | rfl | (simp; done))))
      try simp only [Act.put, List.setIfInBounds_toArray, List.set_cons_zero, List.set_cons_succ]
      refine wpG_takeB (i := 37) (oi := ⟨some 54, _, _, _, _, _⟩) (v := .bool false) rfl (by kernel_rfl) (by kernel_rfl) (by kernel_rfl) (by decide) (fun _ _ _ h => h) h01 rfl hHeld (Or.inl ⟨by rfl, ?_⟩) ?_
      · (intro W9 hSw; obtain ⟨v1, v2, v3, v4, v5, v6, v7, v8⟩ := hSw; have u1 := conv_RB v7; have u2 := conv_RB v8; rw [HST.out] at u1 u2; clear v7 v8; go_simp; (try (first | with_reducible rfl | rfl | (simp; done))))
      try simp only [Act.put, List.setIfInBounds_toArray, List.set_cons_zero, List.set_cons_succ]
      refine wpG_takeB (i := 38) (oi := ⟨some 55, _, _, _, _, _⟩) (v := .bool false) rfl (by kernel_rfl) (by kernel_rfl) (by kernel_rfl) (by decide) (fun _ _ _ h => h) h01 rfl hHeld (Or.inl ⟨by rfl, ?_⟩) ?_
      · (intro W9 hSw; obtain ⟨v1, v2, v3, v4, v5, v6, v7, v8⟩ := hSw; have u1 := conv_RB v7; have u2 := conv_RB v8; rw [HST.out] at u1 u2; clear v7 v8; go_simp; (try (first | with_reducible rfl | rfl | (simp; done))))
      try simp only [Act.put, List.setIfInBounds_toArray, List.set_cons_zero, List.set_cons_succ]
      refine wpG_done (by kernel_rfl) ?_ _
      clear hHeld h01
      have hi100 : (i : Int) ≤ 100000 := by have := HLT.out; omega
      go_wp2_with fail
      go_roundw
      case rel => exact ⟨i + 1, by have := HLT.out; omega, by go_num, Lib.hid (HB.out.trans (below_drew (Below.refl _ wo) |>.mono HB.out.size))⟩
      case measure => have := HLT.out; simp [intOf]; omega
    · have HLE := Lib.hid (show i = ds.length by omega)
      go_wp2_with fail
      go_ret
      exact ⟨rfl, HB.out⟩
end Go.Proofs.Ytibkhjpjneoabaa
