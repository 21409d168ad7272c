/- The reference: Lines. -/
import Derived.Test.YtkalllenggmgoaaDoorFu
import Derived.Test.YtkalllenggmgoaaDoorGb
namespace Go.Proofs.YtkalllenggmgoaaDoor
open Go.RowKit
set_option linter.unusedVariables false
set_option linter.unusedSimpArgs false

set_option maxRecDepth 100000 in
theorem elN : ElS Tryd.prog 50 53 3 40 := ElS.mk' (z := .agg #[.int .i64 0, .string { data := #[] }, .string { data := #[] }]) Tryd.underlying50 (by kernel_rfl) rfl (by decide)
def LnC (k : Nat × List UInt8 × List UInt8) : List Value := [.int .i64 (k.1 : Int), .string ⟨k.2.1.toArray⟩, .string ⟨k.2.2.toArray⟩]
theorem cell_of {W : World} {b0 o0 n c : Nat} {b : List UInt8} (h : RB W (some ⟨b0, o0, none⟩) n c b) {j : Nat} {x : UInt8} (hx : b[j]? = some x) : W.cell? ⟨b0, o0 + j, none⟩ = some (.int .u8 (x.toNat : Int)) := by
  obtain ⟨hj, e⟩ := List.getElem?_eq_some_iff.1 hx
  obtain ⟨b1, o1, e1, hc⟩ := h.at (by have := h.len; omega)
  cases e1
  have := hc j hj
  rw [e] at this
  exact this
theorem u8_ne {x : UInt8} {d : UInt8} {k : Int} (hk : (d.toNat : Int) = k) (h : x ≠ d) : ((x.toNat : Int) == k) = false := by
  rw [beq_eq_false_iff_ne]
  intro e
  apply h
  rw [u8_iff]
  omega
theorem u8_ne' {x : UInt8} {d : UInt8} {k : Int} (hk : (d.toNat : Int) = k) (h : x ≠ d) : ((x.toNat : Int) != k) = true := by
  rw [bne_iff_ne]
  intro e
  apply h
  rw [u8_iff]
  omega
theorem slice_nat {W : World} {A : Option Addr} {n c p q : Nat} {l : List UInt8} (h : RB W A n c l) (hp : p ≤ q) (hq : q ≤ n) : ∃ A' m' c', (∀ W' : World, (Instr.slice 26 (.slice A n c) (some (.int .i64 (p : Int))) (some (.int .i64 (q : Int))) none).run Tryd.prog W' = .ok (.slice A' m' c') W') ∧ RB W A' m' c' ((l.take q).drop p) ∧ m' ≤ n := by
  obtain ⟨A', c', h1, h2, -⟩ := slice_in W A n c p q l h hp hq
  exact ⟨A', _, c', h1, h2, by omega⟩
def RLn (L : List (Nat × List UInt8 × List UInt8)) (w : World) (e : Ending) (w' : World) : Prop := ∃ v, e = .returned v ∧ w'.ownsRow w.heap.size 53 3 v L.length (L.flatMap LnC) ∧ Below w.heap.size w w'
set_option maxRecDepth 100000 in
set_option maxHeartbeats 1000000 in
theorem rlines_blk (A : Option Addr) (n c : Nat) (b : List UInt8) (lo : Bool) (w : World) (h : RB w A n c b) (hn : n ≤ 1000000) (E : Nat) (rs : List Raw) (d : List Ln) (hb : Blok lo b E rs d) (hs : scanR b lo = ⟨E, 0, -1⟩) :
    Calls Tryd.prog 25 #[.slice A n c, .bool lo] w (RLn (linesAt 0 rs) w) := by
  have HP := Lib.hid h
  have HLEN := Lib.hid h.len
  have C23 := Lib.hid (rscan_any A n c b lo w h hn)
  unfold ScdV at C23
  rw [hs] at C23
  simp only [] at C23
  have hEl : E = (bytesOf rs).length + 2 := by
    have := congrArg List.length hb.bytes
    rw [List.length_take, List.length_append, Nat.min_eq_left hb.le] at this
    exact this
  have hEn : (E : Int) ≤ n := by have := hb.le; have := h.len; omega
  have hE2 : (2 : Int) ≤ E := by omega
  have hn0 : (n : Int) ≤ 1000000 := by omega
  have HBK := Lib.hid hb
  have HEL := Lib.hid hEl
  clear h hn hb hs hEl
  go_enter Tryd.func25, Tryd.ntmps25
  go_upto_region 4 with (go_at_call 23; (with_reducible refine C23.out.mono ?_); rintro e9 w1 ⟨rfl, hb9⟩; have HB1 := Lib.hid hb9; clear hb9)
  go_loopw [9, 8] (fun av ov wr => ∃ (rs1 rs2 : List Raw) (a : Nat), Hid (rs = rs1 ++ rs2) ∧ Hid ((bytesOf rs1).length = a) ∧ (a : Int) + 2 ≤ E ∧ av = .int .i64 a ∧ Hid (wr.ownsRow w.heap.size 53 3 ov rs1.length ((linesAt 0 rs1).flatMap LnC)) ∧ Hid (Below w.heap.size w wr)) (fun av _ _ => E - (intOf av).toNat)
  case atStart => exact ⟨[], rs, 0, Lib.hid rfl, Lib.hid rfl, by omega, rfl, Lib.hid (World.ownsRow_nil _ _ 53 3), HB1⟩
  case round =>
    obtain ⟨rs1, rs2, a, HRS, HA, haE, rfl, HO, HBR⟩ := hrel
    obtain ⟨Ao, co, eo, -⟩ := own_formS HO.out
    subst eo
    cases rs2 with
    | nil =>
      have e1 : rs = rs1 := by have := HRS.out; rwa [List.append_nil] at this
      have haE2 : (a : Int) = E - 2 := by have h1 := HEL.out; have h2 := HA.out; rw [e1] at h1; omega
      have hnl : ¬ (a : Int) < E - 2 := by omega
      have HE1 := Lib.hid e1
      clear e1 haE2
      go_wp2_with fail
      go_ret
      rw [HE1.out]
      exact ⟨_, rfl, by rw [linesAt_length]; exact HO.out, HBR.out⟩
    | cons r rest =>
      have hrs := HRS.out
      have hbk := HBK.out
      have hin : InB b a r := by
        have := inB (b := b) (E := E) (rs1 := rs1) (rest := rest) (r := r) (lo := lo) (by rw [hbk.bytes, hrs]) (fun q hq => hbk.ok q (by rw [hrs]; simp [hq]))
        rwa [HA.out] at this
      have hok : RawOk lo r := hbk.ok r (by rw [hrs]; simp)
      have hm1 : rs1.length + 1 ≤ 100 := by have := hbk.few; rw [hrs] at this; simp at this; omega
      have hnext : (bytesOf (rs1 ++ [r])).length = stopAt a r + 2 := by
        rw [bytesOf_append, List.length_append, HA.out]
        unfold bytesOf Raw.b stopAt
        simp
        omega
      have hle : stopAt a r + 4 ≤ E := by
        have h1 := HEL.out
        rw [hrs, show rs1 ++ r :: rest = (rs1 ++ [r]) ++ rest by simp, bytesOf_append, List.length_append, hnext] at h1
        omega
      have hsl := hin.len
      have hst : stopAt a r = a + r.name.length + 1 + r.raw.length := rfl
      obtain ⟨sg, hsg⟩ : ∃ sg, a + r.name.length = sg := ⟨_, rfl⟩
      obtain ⟨st, hst2⟩ : ∃ st, stopAt a r = st := ⟨_, rfl⟩
      have HSG := Lib.hid hsg
      have HST := Lib.hid hst2
      have HIN := Lib.hid hin
      have HOK := Lib.hid hok
      have HNX := Lib.hid hnext
      have hP := HP.out.below HBR.out
      obtain ⟨b0, o0, eA, -⟩ := HP.out.at (by have := HLEN.out; omega)
      subst eA
      have HCELL := Lib.hid (fun (j : Nat) (x : UInt8) (hx : b[j]? = some x) => cell_of hP hx)
      have hs1 : (sg : Int) < st := by omega
      have hs0 : (a : Int) ≤ sg := by omega
      have hs2 : (st : Int) + 4 ≤ E := by omega
      have hlt : (a : Int) < E - 2 := by omega
      have HLE := Lib.hid hle
      have HM : Hid (rs1.length + 1 ≤ 100) := Lib.hid hm1
      have HPW := Lib.hid hP
      clear hrs hbk hin hok hm1 hnext hle hsl hst hsg hst2 hP
      go_upto_region 6 with fail
      obtain ⟨wo, hwo⟩ : ∃ wo, wr = wo := ⟨_, rfl⟩
      go_loopw [10] (fun sv w2 => ∃ j : Nat, (a : Int) ≤ j ∧ (j : Int) ≤ st ∧ sv = .int .i64 j ∧ w2 = wo) (fun sv _ => st - (intOf sv).toNat)
      case atStart => exact ⟨a, by omega, by omega, rfl, hwo⟩
      case round =>
        obtain ⟨j, hj0, hj1, rfl, rfl⟩ := hrel
        subst hwo
        by_cases hj : (j : Int) < st
        · obtain ⟨x, hx, hx2⟩ := HIN.out.no HOK.out (j := j) (by omega) (by have := HST.out; omega)
          have c0 := HCELL.out j x hx
          by_cases h13 : x = 13
          · rcases hx2 with h9 | ⟨rfl, y, hy, hbl⟩
            · exact absurd h13 h9
            · subst h13
              have c2 := HCELL.out (j + 2) y hy
              have hby : blankI (y.toNat : Int) = true := hbl
              generalize ((y.toNat : Nat) : Int) = yy at *
              simp at c0
              have C43 := Lib.hid (fun W => rblank_any yy W)
              rw [hby] at C43
              clear hx hy hbl hby
              go_wp2_with (go_at_call 43; (with_reducible refine (C43.out _).mono ?_); rintro e9 w9 ⟨rfl, hw9⟩; replace hw9 := hw9.symm; subst hw9)
              go_roundw
              case rel => exact ⟨j + 1, by omega, by omega, by go_num, by first | trivial | rfl⟩
              case measure => simp [intOf]; omega
          · have q13 := u8_ne (k := 13) (d := 13) rfl h13
            generalize ((x.toNat : Nat) : Int) = xx at *
            clear hx hx2 h13
            go_wp2_with fail
            go_roundw
            case rel => exact ⟨j + 1, by omega, by omega, by go_num, by first | trivial | rfl⟩
            case measure => simp [intOf]; omega
        · obtain rfl : j = st := by omega
          obtain ⟨hx, y, hy, hbl⟩ := HIN.out.yes
          rw [HST.out] at hx hy
          have c0 := HCELL.out _ _ hx
          have c2 := HCELL.out _ _ hy
          have hby : blankI (y.toNat : Int) = false := hbl
          generalize ((y.toNat : Nat) : Int) = yy at *
          simp at c0
          have C43 := Lib.hid (fun W => rblank_any yy W)
          rw [hby] at C43
          clear hx hy hbl hby
          have c58 := HCELL.out _ _ (HSG.out ▸ HIN.out.colon)
          simp at c58
          have H58 := Lib.hid c58
          clear c58
          cases hlo : lo with
          | true =>
            subst hlo
            go_upto_region 9 with (go_at_call 43; (with_reducible refine (C43.out _).mono ?_); rintro e9 w9 ⟨rfl, hw9⟩; replace hw9 := hw9.symm; subst hw9)
            clear c0 c2 C43
            obtain ⟨wo, hwo⟩ : ∃ wo, wr = wo := ⟨_, rfl⟩
            go_loopw [11] (fun sv w2 => ∃ i : Nat, (a : Int) ≤ i ∧ (i : Int) ≤ sg ∧ sv = .int .i64 i ∧ w2 = wo) (fun sv _ => sg - (intOf sv).toNat)
            case atStart => exact ⟨a, by omega, by omega, rfl, hwo⟩
            case round =>
              obtain ⟨i, hi0, hi1, rfl, rfl⟩ := hrel
              subst hwo
              by_cases hi : (i : Int) < sg
              · obtain ⟨x, hx, h58⟩ := HIN.out.sign HOK.out (j := i) (by omega) (by have := HSG.out; omega)
                have c0 := HCELL.out i x hx
                have q58 := u8_ne' (k := 58) (d := 58) rfl h58
                generalize ((x.toNat : Nat) : Int) = xx at *
                clear hx h58
                go_wp2_with fail
                go_roundw
                case rel => exact ⟨i + 1, by omega, by omega, by go_num, by first | trivial | rfl⟩
                case measure => simp [intOf]; omega
              · obtain rfl : i = sg := by omega
                have c58 := H58.out
                obtain ⟨A1, m1, c1, hr1, rb1, hm1⟩ := slice_nat (p := a) (q := i) HP.out (by omega) (by omega)
                obtain ⟨A2, m2, c2, hr2, rb2, hm2⟩ := slice_nat (p := i + 1) (q := j) HP.out (by omega) (by omega)
                rw [← HSG.out, HIN.out.nameS] at rb1
                have e9 : (b.take j).drop (i + 1) = r.raw := by have := HIN.out.rawS; rw [HSG.out, HST.out] at this; exact this
                rw [e9] at rb2
                have hr1' : ∀ W' : World, (Instr.slice 26 (.slice (some ⟨b0, o0, none⟩) n c) (some (.int .i64 (a : Int))) (some (.int .i64 (i : Int))) none).run Tryd.prog W' = .ok (.slice A1 m1 c1) W' := hr1
                have hr2' : ∀ W' : World, (Instr.slice 26 (.slice (some ⟨b0, o0, none⟩) n c) (some (.int .i64 ((i : Int) + 1))) (some (.int .i64 (j : Int))) none).run Tryd.prog W' = .ok (.slice A2 m2 c2) W' := fun W' => hr2 W'
                obtain ⟨sn, hsn⟩ : ∃ sn, (⟨r.name.toArray⟩ : ByteArray) = sn := ⟨_, rfl⟩
                obtain ⟨sx, hsx⟩ : ∃ sx, (⟨(txF r.raw).text.toArray⟩ : ByteArray) = sx := ⟨_, rfl⟩
                have HSN := Lib.hid hsn
                have HSX := Lib.hid hsx
                have HR1 := Lib.hid hr1'
                have HR2 := Lib.hid hr2'
                have RB1 := Lib.hid rb1
                have RB2 := Lib.hid rb2
                have C44 := Lib.hid (fun W (h9 : RB W A2 m2 c2 r.raw) => texts_any A2 m2 c2 r.raw W h9 (by omega))
                rw [hsx] at C44
                obtain ⟨m, hm⟩ : ∃ m, rs1.length = m := ⟨_, rfl⟩
                obtain ⟨xs, hxs⟩ : ∃ xs, (linesAt 0 rs1).flatMap LnC = xs := ⟨_, rfl⟩
                rw [hm] at HM
                rw [hm, hxs] at HO
                rw [hm]
                have HMM := Lib.hid hm
                have HXS := Lib.hid hxs
                clear hr1 hr2 hr1' hr2' rb1 rb2 hm1 hm2 hsn hsx hm hxs e9
                go_upto_region 11 with fail
                refine wp_region_G (S0 := (fun W => Below w.heap.size w W)) (S1 := (fun W => Below w.heap.size w W)) (c := 99) (by kernel_rfl) ?_
                have hHeld := (show Below w.heap.size w wr.drew from below_drew HBR.out)
                have h01 := (fun (W : World) (h : (fun W => Below w.heap.size w W) W) => h)
                refine wpG_takeB (i := 0) (oi := ⟨some 52, _, _, _, _, _⟩) (v := .slice Ao m co) rfl (by kernel_rfl) (by kernel_rfl) (by kernel_rfl) (by decide) (fun _ _ _ h => h) h01 rfl hHeld (Or.inl ⟨by rfl, ?_⟩) ?_
                · (intro W9 hSw; have i1 := conv_RB (RB1.out.below hSw); rw [HSN.out] at i1; have i2 := HR1.out; have i3 := HR2.out; go_simp; (try (first | with_reducible rfl | rfl | (simp; done) | (exact IntWalk.i64_in _ ⟨by omega, by omega⟩) | omega)))
                try simp only [Act.put, List.setIfInBounds_toArray, List.set_cons_zero, List.set_cons_succ]
                refine wpG_takeB (i := 1) (oi := ⟨some 53, _, _, _, _, _⟩) (v := .int .i64 (a : Int)) rfl (by kernel_rfl) (by kernel_rfl) (by kernel_rfl) (by decide) (fun _ _ _ h => h) h01 rfl hHeld (Or.inl ⟨by rfl, ?_⟩) ?_
                · (intro W9 hSw; have i1 := conv_RB (RB1.out.below hSw); rw [HSN.out] at i1; have i2 := HR1.out; have i3 := HR2.out; go_simp; (try (first | with_reducible rfl | rfl | (simp; done) | (exact IntWalk.i64_in _ ⟨by omega, by omega⟩) | omega)))
                try simp only [Act.put, List.setIfInBounds_toArray, List.set_cons_zero, List.set_cons_succ]
                refine wpG_takeB (i := 2) (oi := ⟨some 54, _, _, _, _, _⟩) (v := .slice (some ⟨b0, o0, none⟩) n c) rfl (by kernel_rfl) (by kernel_rfl) (by kernel_rfl) (by decide) (fun _ _ _ h => h) h01 rfl hHeld (Or.inl ⟨by rfl, ?_⟩) ?_
                · (intro W9 hSw; have i1 := conv_RB (RB1.out.below hSw); rw [HSN.out] at i1; have i2 := HR1.out; have i3 := HR2.out; go_simp; (try (first | with_reducible rfl | rfl | (simp; done) | (exact IntWalk.i64_in _ ⟨by omega, by omega⟩) | omega)))
                try simp only [Act.put, List.setIfInBounds_toArray, List.set_cons_zero, List.set_cons_succ]
                refine wpG_takeB (i := 3) (oi := ⟨some 55, _, _, _, _, _⟩) (v := .int .i64 (a : Int)) rfl (by kernel_rfl) (by kernel_rfl) (by kernel_rfl) (by decide) (fun _ _ _ h => h) h01 rfl hHeld (Or.inl ⟨by rfl, ?_⟩) ?_
                · (intro W9 hSw; have i1 := conv_RB (RB1.out.below hSw); rw [HSN.out] at i1; have i2 := HR1.out; have i3 := HR2.out; go_simp; (try (first | with_reducible rfl | rfl | (simp; done) | (exact IntWalk.i64_in _ ⟨by omega, by omega⟩) | omega)))
                try simp only [Act.put, List.setIfInBounds_toArray, List.set_cons_zero, List.set_cons_succ]
                refine wpG_takeB (i := 4) (oi := ⟨some 56, _, _, _, _, _⟩) (v := .int .i64 (i : Int)) rfl (by kernel_rfl) (by kernel_rfl) (by kernel_rfl) (by decide) (fun _ _ _ h => h) h01 rfl hHeld (Or.inl ⟨by rfl, ?_⟩) ?_
                · (intro W9 hSw; have i1 := conv_RB (RB1.out.below hSw); rw [HSN.out] at i1; have i2 := HR1.out; have i3 := HR2.out; go_simp; (try (first | with_reducible rfl | rfl | (simp; done) | (exact IntWalk.i64_in _ ⟨by omega, by omega⟩) | omega)))
                try simp only [Act.put, List.setIfInBounds_toArray, List.set_cons_zero, List.set_cons_succ]
                refine wpG_takeB (i := 5) (oi := ⟨some 57, _, _, _, _, _⟩) (v := .slice A1 m1 c1) rfl (by kernel_rfl) (by kernel_rfl) (by kernel_rfl) (by decide) (fun _ _ _ h => h) h01 rfl hHeld (Or.inl ⟨by rfl, ?_⟩) ?_
                · (intro W9 hSw; have i1 := conv_RB (RB1.out.below hSw); rw [HSN.out] at i1; have i2 := HR1.out; have i3 := HR2.out; go_simp; (try (first | with_reducible rfl | rfl | (simp; done) | (exact IntWalk.i64_in _ ⟨by omega, by omega⟩) | omega)))
                try simp only [Act.put, List.setIfInBounds_toArray, List.set_cons_zero, List.set_cons_succ]
                refine wpG_takeB (i := 6) (oi := ⟨some 58, _, _, _, _, _⟩) (v := .string sn) rfl (by kernel_rfl) (by kernel_rfl) (by kernel_rfl) (by decide) (fun _ _ _ h => h) h01 rfl hHeld (Or.inl ⟨by rfl, ?_⟩) ?_
                · (intro W9 hSw; have i1 := conv_RB (RB1.out.below hSw); rw [HSN.out] at i1; have i2 := HR1.out; have i3 := HR2.out; go_simp; (try (first | with_reducible rfl | rfl | (simp; done) | (exact IntWalk.i64_in _ ⟨by omega, by omega⟩) | omega)))
                try simp only [Act.put, List.setIfInBounds_toArray, List.set_cons_zero, List.set_cons_succ]
                refine wpG_takeB (i := 7) (oi := ⟨some 59, _, _, _, _, _⟩) (v := .slice (some ⟨b0, o0, none⟩) n c) rfl (by kernel_rfl) (by kernel_rfl) (by kernel_rfl) (by decide) (fun _ _ _ h => h) h01 rfl hHeld (Or.inl ⟨by rfl, ?_⟩) ?_
                · (intro W9 hSw; have i1 := conv_RB (RB1.out.below hSw); rw [HSN.out] at i1; have i2 := HR1.out; have i3 := HR2.out; go_simp; (try (first | with_reducible rfl | rfl | (simp; done) | (exact IntWalk.i64_in _ ⟨by omega, by omega⟩) | omega)))
                try simp only [Act.put, List.setIfInBounds_toArray, List.set_cons_zero, List.set_cons_succ]
                refine wpG_takeB (i := 8) (oi := ⟨some 60, _, _, _, _, _⟩) (v := .int .i64 (i : Int)) rfl (by kernel_rfl) (by kernel_rfl) (by kernel_rfl) (by decide) (fun _ _ _ h => h) h01 rfl hHeld (Or.inl ⟨by rfl, ?_⟩) ?_
                · (intro W9 hSw; have i1 := conv_RB (RB1.out.below hSw); rw [HSN.out] at i1; have i2 := HR1.out; have i3 := HR2.out; go_simp; (try (first | with_reducible rfl | rfl | (simp; done) | (exact IntWalk.i64_in _ ⟨by omega, by omega⟩) | omega)))
                try simp only [Act.put, List.setIfInBounds_toArray, List.set_cons_zero, List.set_cons_succ]
                refine wpG_takeB (i := 9) (oi := ⟨some 61, _, _, _, _, _⟩) (v := .int .i64 ((i : Int) + 1)) rfl (by kernel_rfl) (by kernel_rfl) (by kernel_rfl) (by decide) (fun _ _ _ h => h) h01 rfl hHeld (Or.inl ⟨by rfl, ?_⟩) ?_
                · (intro W9 hSw; have i1 := conv_RB (RB1.out.below hSw); rw [HSN.out] at i1; have i2 := HR1.out; have i3 := HR2.out; go_simp; (try (first | with_reducible rfl | rfl | (simp; done) | (exact IntWalk.i64_in _ ⟨by omega, by omega⟩) | omega)))
                try simp only [Act.put, List.setIfInBounds_toArray, List.set_cons_zero, List.set_cons_succ]
                refine wpG_takeB (i := 10) (oi := ⟨some 62, _, _, _, _, _⟩) (v := .int .i64 (j : Int)) rfl (by kernel_rfl) (by kernel_rfl) (by kernel_rfl) (by decide) (fun _ _ _ h => h) h01 rfl hHeld (Or.inl ⟨by rfl, ?_⟩) ?_
                · (intro W9 hSw; have i1 := conv_RB (RB1.out.below hSw); rw [HSN.out] at i1; have i2 := HR1.out; have i3 := HR2.out; go_simp; (try (first | with_reducible rfl | rfl | (simp; done) | (exact IntWalk.i64_in _ ⟨by omega, by omega⟩) | omega)))
                try simp only [Act.put, List.setIfInBounds_toArray, List.set_cons_zero, List.set_cons_succ]
                refine wpG_takeB (i := 11) (oi := ⟨some 63, _, _, _, _, _⟩) (v := .slice A2 m2 c2) rfl (by kernel_rfl) (by kernel_rfl) (by kernel_rfl) (by decide) (fun _ _ _ h => h) h01 rfl hHeld (Or.inl ⟨by rfl, ?_⟩) ?_
                · (intro W9 hSw; have i1 := conv_RB (RB1.out.below hSw); rw [HSN.out] at i1; have i2 := HR1.out; have i3 := HR2.out; go_simp; (try (first | with_reducible rfl | rfl | (simp; done) | (exact IntWalk.i64_in _ ⟨by omega, by omega⟩) | omega)))
                try simp only [Act.put, List.setIfInBounds_toArray, List.set_cons_zero, List.set_cons_succ]
                refine wpG_oneB (i := 12) (o := ⟨some 64, _, _, _, _, _⟩) (by kernel_rfl) rfl rfl (fun K hK => ?_)
                go_simp
                (with_reducible refine (C44.out _ (RB2.out.below hHeld)).mono ?_); rintro e w9 ⟨rfl, hw9⟩
                replace hw9 := hw9.symm
                subst hw9
                refine hK.out _ _ hHeld (fun hHeld => ?_)
                clear hK K
                try simp only [Act.put, List.setIfInBounds_toArray, List.set_cons_zero, List.set_cons_succ]
                refine wpG_takeB (i := 13) (oi := ⟨some 65, _, _, _, _, _⟩) (v := .agg #[.string sn, .string sx]) rfl (by kernel_rfl) (by kernel_rfl) (by kernel_rfl) (by decide) (fun _ _ _ h => h) h01 rfl hHeld (Or.inl ⟨by rfl, ?_⟩) ?_
                · (intro W9 hSw; have i1 := conv_RB (RB1.out.below hSw); rw [HSN.out] at i1; have i2 := HR1.out; have i3 := HR2.out; go_simp; (try (first | with_reducible rfl | rfl | (simp; done) | (exact IntWalk.i64_in _ ⟨by omega, by omega⟩) | omega)))
                try simp only [Act.put, List.setIfInBounds_toArray, List.set_cons_zero, List.set_cons_succ]
                refine wpG_takeB (i := 14) (oi := ⟨some 66, _, _, _, _, _⟩) (v := .agg #[.int .i64 (a : Int), .string sn, .string sx]) rfl (by kernel_rfl) (by kernel_rfl) (by kernel_rfl) (by decide) (fun _ _ _ h => h) h01 rfl hHeld (Or.inl ⟨by rfl, ?_⟩) ?_
                · (intro W9 hSw; have i1 := conv_RB (RB1.out.below hSw); rw [HSN.out] at i1; have i2 := HR1.out; have i3 := HR2.out; go_simp; (try (first | with_reducible rfl | rfl | (simp; done) | (exact IntWalk.i64_in _ ⟨by omega, by omega⟩) | omega)))
                try simp only [Act.put, List.setIfInBounds_toArray, List.set_cons_zero, List.set_cons_succ]
                refine wpG_oneB (i := 15) (o := ⟨some 67, _, _, _, _, _⟩) (by kernel_rfl) rfl rfl (fun K hK => ?_)
                go_simp
                refine hK.out _ _ (show Below w.heap.size w (World.alloc _ _) from Below.alloc hHeld (Below.size hHeld) _) (fun hHeld => ?_)
                clear hK K
                try simp only [Act.put, List.setIfInBounds_toArray, List.set_cons_zero, List.set_cons_succ]
                refine wpG_oneB (i := 16) (o := ⟨some 68, _, _, _, _, _⟩) (by kernel_rfl) rfl rfl (fun K hK => ?_)
                refine step_app_sz (base := w.heap.size) (n := m) (m := 1) (xs := xs) (news := [.int .i64 (a : Int), .string sn, .string sx]) rfl (.tmp 52) (.tmp 67) 50 rfl elN rfl (own_alloc (own_drew HO.out)) rfl (HoldsS.new _ 3 1 [.int .i64 (a : Int), .string sn, .string sx] 53 rfl) (by simp [Value.oneCell']) (by have := HM.out; unfold maxLen; omega) (by have := HM.out; omega) (Below.size hHeld) (by simp) ?_
                intro v9 w9 hown hg
                obtain ⟨A9, c9, e9, -⟩ := own_formS hown
                subst e9
                have hb9 : Below w.heap.size w w9 := below_own hHeld (Below.size hHeld) (own_alloc (own_drew HO.out)) ⟨hg.os, hg.tape, hg.output, hg.size, hg.block⟩
                have HOWN := Lib.hid hown
                clear hown hg
                refine hK.out _ _ hb9 (fun hHeld => ?_)
                clear hK K
                try simp only [Act.put, List.setIfInBounds_toArray, List.set_cons_zero, List.set_cons_succ]
                refine wpG_takeB (i := 17) (oi := ⟨some 8, _, _, _, _, _⟩) (v := .slice A9 (m + 1) c9) rfl (by kernel_rfl) (by kernel_rfl) (by kernel_rfl) (by decide) (fun _ _ _ h => h) h01 rfl hHeld (Or.inl ⟨by rfl, ?_⟩) ?_
                · (intro W9 hSw; have i1 := conv_RB (RB1.out.below hSw); rw [HSN.out] at i1; have i2 := HR1.out; have i3 := HR2.out; go_simp; (try (first | with_reducible rfl | rfl | (simp; done) | (exact IntWalk.i64_in _ ⟨by omega, by omega⟩) | omega)))
                try simp only [Act.put, List.setIfInBounds_toArray, List.set_cons_zero, List.set_cons_succ]
                refine wpG_done (by kernel_rfl) ?_ _
                clear h01
                go_wp2_with fail
                go_roundw
                case rel => exact ⟨rs1 ++ [r], rest, j + 2, Lib.hid (by rw [HRS.out]; simp), Lib.hid (by rw [HNX.out, HST.out]), by push_cast; omega, by go_num, Lib.hid (by rw [linesAt_snoc, List.length_append, List.flatMap_append, HMM.out, HXS.out]; simp only [List.flatMap_cons, List.flatMap_nil, List.append_nil, LnC, HA.out, HSN.out, HSX.out, Nat.zero_add]; exact HOWN.out), Lib.hid hHeld⟩
                case measure => simp [intOf]; omega
          | false =>
            subst hlo
            go_upto_region 9 with (go_at_call 43; (with_reducible refine (C43.out _).mono ?_); rintro e9 w9 ⟨rfl, hw9⟩; replace hw9 := hw9.symm; subst hw9)
            clear c0 c2 C43
            obtain ⟨wo, hwo⟩ : ∃ wo, wr = wo := ⟨_, rfl⟩
            go_loopw [11] (fun sv w2 => ∃ i : Nat, (a : Int) ≤ i ∧ (i : Int) ≤ sg ∧ sv = .int .i64 i ∧ w2 = wo) (fun sv _ => sg - (intOf sv).toNat)
            case atStart => exact ⟨a, by omega, by omega, rfl, hwo⟩
            case round =>
              obtain ⟨i, hi0, hi1, rfl, rfl⟩ := hrel
              subst hwo
              by_cases hi : (i : Int) < sg
              · obtain ⟨x, hx, h58⟩ := HIN.out.sign HOK.out (j := i) (by omega) (by have := HSG.out; omega)
                have c0 := HCELL.out i x hx
                have q58 := u8_ne' (k := 58) (d := 58) rfl h58
                generalize ((x.toNat : Nat) : Int) = xx at *
                clear hx h58
                go_wp2_with fail
                go_roundw
                case rel => exact ⟨i + 1, by omega, by omega, by go_num, by first | trivial | rfl⟩
                case measure => simp [intOf]; omega
              · obtain rfl : i = sg := by omega
                have c58 := H58.out
                obtain ⟨A1, m1, c1, hr1, rb1, hm1⟩ := slice_nat (p := a) (q := i) HP.out (by omega) (by omega)
                obtain ⟨A2, m2, c2, hr2, rb2, hm2⟩ := slice_nat (p := i + 1) (q := j) HP.out (by omega) (by omega)
                rw [← HSG.out, HIN.out.nameS] at rb1
                have e9 : (b.take j).drop (i + 1) = r.raw := by have := HIN.out.rawS; rw [HSG.out, HST.out] at this; exact this
                rw [e9] at rb2
                have hr1' : ∀ W' : World, (Instr.slice 26 (.slice (some ⟨b0, o0, none⟩) n c) (some (.int .i64 (a : Int))) (some (.int .i64 (i : Int))) none).run Tryd.prog W' = .ok (.slice A1 m1 c1) W' := hr1
                have hr2' : ∀ W' : World, (Instr.slice 26 (.slice (some ⟨b0, o0, none⟩) n c) (some (.int .i64 ((i : Int) + 1))) (some (.int .i64 (j : Int))) none).run Tryd.prog W' = .ok (.slice A2 m2 c2) W' := fun W' => hr2 W'
                obtain ⟨sn, hsn⟩ : ∃ sn, (⟨r.name.toArray⟩ : ByteArray) = sn := ⟨_, rfl⟩
                obtain ⟨sx, hsx⟩ : ∃ sx, (⟨(txF r.raw).text.toArray⟩ : ByteArray) = sx := ⟨_, rfl⟩
                have HSN := Lib.hid hsn
                have HSX := Lib.hid hsx
                have HR1 := Lib.hid hr1'
                have HR2 := Lib.hid hr2'
                have RB1 := Lib.hid rb1
                have RB2 := Lib.hid rb2
                have C44 := Lib.hid (fun W (h9 : RB W A2 m2 c2 r.raw) => texts_any A2 m2 c2 r.raw W h9 (by omega))
                rw [hsx] at C44
                obtain ⟨m, hm⟩ : ∃ m, rs1.length = m := ⟨_, rfl⟩
                obtain ⟨xs, hxs⟩ : ∃ xs, (linesAt 0 rs1).flatMap LnC = xs := ⟨_, rfl⟩
                rw [hm] at HM
                rw [hm, hxs] at HO
                rw [hm]
                have HMM := Lib.hid hm
                have HXS := Lib.hid hxs
                clear hr1 hr2 hr1' hr2' rb1 rb2 hm1 hm2 hsn hsx hm hxs e9
                go_upto_region 11 with fail
                refine wp_region_G (S0 := (fun W => Below w.heap.size w W)) (S1 := (fun W => Below w.heap.size w W)) (c := 99) (by kernel_rfl) ?_
                have hHeld := (show Below w.heap.size w wr.drew from below_drew HBR.out)
                have h01 := (fun (W : World) (h : (fun W => Below w.heap.size w W) W) => h)
                refine wpG_takeB (i := 0) (oi := ⟨some 52, _, _, _, _, _⟩) (v := .slice Ao m co) rfl (by kernel_rfl) (by kernel_rfl) (by kernel_rfl) (by decide) (fun _ _ _ h => h) h01 rfl hHeld (Or.inl ⟨by rfl, ?_⟩) ?_
                · (intro W9 hSw; have i1 := conv_RB (RB1.out.below hSw); rw [HSN.out] at i1; have i2 := HR1.out; have i3 := HR2.out; go_simp; (try (first | with_reducible rfl | rfl | (simp; done) | (exact IntWalk.i64_in _ ⟨by omega, by omega⟩) | omega)))
                try simp only [Act.put, List.setIfInBounds_toArray, List.set_cons_zero, List.set_cons_succ]
                refine wpG_takeB (i := 1) (oi := ⟨some 53, _, _, _, _, _⟩) (v := .int .i64 (a : Int)) rfl (by kernel_rfl) (by kernel_rfl) (by kernel_rfl) (by decide) (fun _ _ _ h => h) h01 rfl hHeld (Or.inl ⟨by rfl, ?_⟩) ?_
                · (intro W9 hSw; have i1 := conv_RB (RB1.out.below hSw); rw [HSN.out] at i1; have i2 := HR1.out; have i3 := HR2.out; go_simp; (try (first | with_reducible rfl | rfl | (simp; done) | (exact IntWalk.i64_in _ ⟨by omega, by omega⟩) | omega)))
                try simp only [Act.put, List.setIfInBounds_toArray, List.set_cons_zero, List.set_cons_succ]
                refine wpG_takeB (i := 2) (oi := ⟨some 54, _, _, _, _, _⟩) (v := .slice (some ⟨b0, o0, none⟩) n c) rfl (by kernel_rfl) (by kernel_rfl) (by kernel_rfl) (by decide) (fun _ _ _ h => h) h01 rfl hHeld (Or.inl ⟨by rfl, ?_⟩) ?_
                · (intro W9 hSw; have i1 := conv_RB (RB1.out.below hSw); rw [HSN.out] at i1; have i2 := HR1.out; have i3 := HR2.out; go_simp; (try (first | with_reducible rfl | rfl | (simp; done) | (exact IntWalk.i64_in _ ⟨by omega, by omega⟩) | omega)))
                try simp only [Act.put, List.setIfInBounds_toArray, List.set_cons_zero, List.set_cons_succ]
                refine wpG_takeB (i := 3) (oi := ⟨some 55, _, _, _, _, _⟩) (v := .int .i64 (a : Int)) rfl (by kernel_rfl) (by kernel_rfl) (by kernel_rfl) (by decide) (fun _ _ _ h => h) h01 rfl hHeld (Or.inl ⟨by rfl, ?_⟩) ?_
                · (intro W9 hSw; have i1 := conv_RB (RB1.out.below hSw); rw [HSN.out] at i1; have i2 := HR1.out; have i3 := HR2.out; go_simp; (try (first | with_reducible rfl | rfl | (simp; done) | (exact IntWalk.i64_in _ ⟨by omega, by omega⟩) | omega)))
                try simp only [Act.put, List.setIfInBounds_toArray, List.set_cons_zero, List.set_cons_succ]
                refine wpG_takeB (i := 4) (oi := ⟨some 56, _, _, _, _, _⟩) (v := .int .i64 (i : Int)) rfl (by kernel_rfl) (by kernel_rfl) (by kernel_rfl) (by decide) (fun _ _ _ h => h) h01 rfl hHeld (Or.inl ⟨by rfl, ?_⟩) ?_
                · (intro W9 hSw; have i1 := conv_RB (RB1.out.below hSw); rw [HSN.out] at i1; have i2 := HR1.out; have i3 := HR2.out; go_simp; (try (first | with_reducible rfl | rfl | (simp; done) | (exact IntWalk.i64_in _ ⟨by omega, by omega⟩) | omega)))
                try simp only [Act.put, List.setIfInBounds_toArray, List.set_cons_zero, List.set_cons_succ]
                refine wpG_takeB (i := 5) (oi := ⟨some 57, _, _, _, _, _⟩) (v := .slice A1 m1 c1) rfl (by kernel_rfl) (by kernel_rfl) (by kernel_rfl) (by decide) (fun _ _ _ h => h) h01 rfl hHeld (Or.inl ⟨by rfl, ?_⟩) ?_
                · (intro W9 hSw; have i1 := conv_RB (RB1.out.below hSw); rw [HSN.out] at i1; have i2 := HR1.out; have i3 := HR2.out; go_simp; (try (first | with_reducible rfl | rfl | (simp; done) | (exact IntWalk.i64_in _ ⟨by omega, by omega⟩) | omega)))
                try simp only [Act.put, List.setIfInBounds_toArray, List.set_cons_zero, List.set_cons_succ]
                refine wpG_takeB (i := 6) (oi := ⟨some 58, _, _, _, _, _⟩) (v := .string sn) rfl (by kernel_rfl) (by kernel_rfl) (by kernel_rfl) (by decide) (fun _ _ _ h => h) h01 rfl hHeld (Or.inl ⟨by rfl, ?_⟩) ?_
                · (intro W9 hSw; have i1 := conv_RB (RB1.out.below hSw); rw [HSN.out] at i1; have i2 := HR1.out; have i3 := HR2.out; go_simp; (try (first | with_reducible rfl | rfl | (simp; done) | (exact IntWalk.i64_in _ ⟨by omega, by omega⟩) | omega)))
                try simp only [Act.put, List.setIfInBounds_toArray, List.set_cons_zero, List.set_cons_succ]
                refine wpG_takeB (i := 7) (oi := ⟨some 59, _, _, _, _, _⟩) (v := .slice (some ⟨b0, o0, none⟩) n c) rfl (by kernel_rfl) (by kernel_rfl) (by kernel_rfl) (by decide) (fun _ _ _ h => h) h01 rfl hHeld (Or.inl ⟨by rfl, ?_⟩) ?_
                · (intro W9 hSw; have i1 := conv_RB (RB1.out.below hSw); rw [HSN.out] at i1; have i2 := HR1.out; have i3 := HR2.out; go_simp; (try (first | with_reducible rfl | rfl | (simp; done) | (exact IntWalk.i64_in _ ⟨by omega, by omega⟩) | omega)))
                try simp only [Act.put, List.setIfInBounds_toArray, List.set_cons_zero, List.set_cons_succ]
                refine wpG_takeB (i := 8) (oi := ⟨some 60, _, _, _, _, _⟩) (v := .int .i64 (i : Int)) rfl (by kernel_rfl) (by kernel_rfl) (by kernel_rfl) (by decide) (fun _ _ _ h => h) h01 rfl hHeld (Or.inl ⟨by rfl, ?_⟩) ?_
                · (intro W9 hSw; have i1 := conv_RB (RB1.out.below hSw); rw [HSN.out] at i1; have i2 := HR1.out; have i3 := HR2.out; go_simp; (try (first | with_reducible rfl | rfl | (simp; done) | (exact IntWalk.i64_in _ ⟨by omega, by omega⟩) | omega)))
                try simp only [Act.put, List.setIfInBounds_toArray, List.set_cons_zero, List.set_cons_succ]
                refine wpG_takeB (i := 9) (oi := ⟨some 61, _, _, _, _, _⟩) (v := .int .i64 ((i : Int) + 1)) rfl (by kernel_rfl) (by kernel_rfl) (by kernel_rfl) (by decide) (fun _ _ _ h => h) h01 rfl hHeld (Or.inl ⟨by rfl, ?_⟩) ?_
                · (intro W9 hSw; have i1 := conv_RB (RB1.out.below hSw); rw [HSN.out] at i1; have i2 := HR1.out; have i3 := HR2.out; go_simp; (try (first | with_reducible rfl | rfl | (simp; done) | (exact IntWalk.i64_in _ ⟨by omega, by omega⟩) | omega)))
                try simp only [Act.put, List.setIfInBounds_toArray, List.set_cons_zero, List.set_cons_succ]
                refine wpG_takeB (i := 10) (oi := ⟨some 62, _, _, _, _, _⟩) (v := .int .i64 (j : Int)) rfl (by kernel_rfl) (by kernel_rfl) (by kernel_rfl) (by decide) (fun _ _ _ h => h) h01 rfl hHeld (Or.inl ⟨by rfl, ?_⟩) ?_
                · (intro W9 hSw; have i1 := conv_RB (RB1.out.below hSw); rw [HSN.out] at i1; have i2 := HR1.out; have i3 := HR2.out; go_simp; (try (first | with_reducible rfl | rfl | (simp; done) | (exact IntWalk.i64_in _ ⟨by omega, by omega⟩) | omega)))
                try simp only [Act.put, List.setIfInBounds_toArray, List.set_cons_zero, List.set_cons_succ]
                refine wpG_takeB (i := 11) (oi := ⟨some 63, _, _, _, _, _⟩) (v := .slice A2 m2 c2) rfl (by kernel_rfl) (by kernel_rfl) (by kernel_rfl) (by decide) (fun _ _ _ h => h) h01 rfl hHeld (Or.inl ⟨by rfl, ?_⟩) ?_
                · (intro W9 hSw; have i1 := conv_RB (RB1.out.below hSw); rw [HSN.out] at i1; have i2 := HR1.out; have i3 := HR2.out; go_simp; (try (first | with_reducible rfl | rfl | (simp; done) | (exact IntWalk.i64_in _ ⟨by omega, by omega⟩) | omega)))
                try simp only [Act.put, List.setIfInBounds_toArray, List.set_cons_zero, List.set_cons_succ]
                refine wpG_oneB (i := 12) (o := ⟨some 64, _, _, _, _, _⟩) (by kernel_rfl) rfl rfl (fun K hK => ?_)
                go_simp
                (with_reducible refine (C44.out _ (RB2.out.below hHeld)).mono ?_); rintro e w9 ⟨rfl, hw9⟩
                replace hw9 := hw9.symm
                subst hw9
                refine hK.out _ _ hHeld (fun hHeld => ?_)
                clear hK K
                try simp only [Act.put, List.setIfInBounds_toArray, List.set_cons_zero, List.set_cons_succ]
                refine wpG_takeB (i := 13) (oi := ⟨some 65, _, _, _, _, _⟩) (v := .agg #[.string sn, .string sx]) rfl (by kernel_rfl) (by kernel_rfl) (by kernel_rfl) (by decide) (fun _ _ _ h => h) h01 rfl hHeld (Or.inl ⟨by rfl, ?_⟩) ?_
                · (intro W9 hSw; have i1 := conv_RB (RB1.out.below hSw); rw [HSN.out] at i1; have i2 := HR1.out; have i3 := HR2.out; go_simp; (try (first | with_reducible rfl | rfl | (simp; done) | (exact IntWalk.i64_in _ ⟨by omega, by omega⟩) | omega)))
                try simp only [Act.put, List.setIfInBounds_toArray, List.set_cons_zero, List.set_cons_succ]
                refine wpG_takeB (i := 14) (oi := ⟨some 66, _, _, _, _, _⟩) (v := .agg #[.int .i64 (a : Int), .string sn, .string sx]) rfl (by kernel_rfl) (by kernel_rfl) (by kernel_rfl) (by decide) (fun _ _ _ h => h) h01 rfl hHeld (Or.inl ⟨by rfl, ?_⟩) ?_
                · (intro W9 hSw; have i1 := conv_RB (RB1.out.below hSw); rw [HSN.out] at i1; have i2 := HR1.out; have i3 := HR2.out; go_simp; (try (first | with_reducible rfl | rfl | (simp; done) | (exact IntWalk.i64_in _ ⟨by omega, by omega⟩) | omega)))
                try simp only [Act.put, List.setIfInBounds_toArray, List.set_cons_zero, List.set_cons_succ]
                refine wpG_oneB (i := 15) (o := ⟨some 67, _, _, _, _, _⟩) (by kernel_rfl) rfl rfl (fun K hK => ?_)
                go_simp
                refine hK.out _ _ (show Below w.heap.size w (World.alloc _ _) from Below.alloc hHeld (Below.size hHeld) _) (fun hHeld => ?_)
                clear hK K
                try simp only [Act.put, List.setIfInBounds_toArray, List.set_cons_zero, List.set_cons_succ]
                refine wpG_oneB (i := 16) (o := ⟨some 68, _, _, _, _, _⟩) (by kernel_rfl) rfl rfl (fun K hK => ?_)
                refine step_app_sz (base := w.heap.size) (n := m) (m := 1) (xs := xs) (news := [.int .i64 (a : Int), .string sn, .string sx]) rfl (.tmp 52) (.tmp 67) 50 rfl elN rfl (own_alloc (own_drew HO.out)) rfl (HoldsS.new _ 3 1 [.int .i64 (a : Int), .string sn, .string sx] 53 rfl) (by simp [Value.oneCell']) (by have := HM.out; unfold maxLen; omega) (by have := HM.out; omega) (Below.size hHeld) (by simp) ?_
                intro v9 w9 hown hg
                obtain ⟨A9, c9, e9, -⟩ := own_formS hown
                subst e9
                have hb9 : Below w.heap.size w w9 := below_own hHeld (Below.size hHeld) (own_alloc (own_drew HO.out)) ⟨hg.os, hg.tape, hg.output, hg.size, hg.block⟩
                have HOWN := Lib.hid hown
                clear hown hg
                refine hK.out _ _ hb9 (fun hHeld => ?_)
                clear hK K
                try simp only [Act.put, List.setIfInBounds_toArray, List.set_cons_zero, List.set_cons_succ]
                refine wpG_takeB (i := 17) (oi := ⟨some 8, _, _, _, _, _⟩) (v := .slice A9 (m + 1) c9) rfl (by kernel_rfl) (by kernel_rfl) (by kernel_rfl) (by decide) (fun _ _ _ h => h) h01 rfl hHeld (Or.inl ⟨by rfl, ?_⟩) ?_
                · (intro W9 hSw; have i1 := conv_RB (RB1.out.below hSw); rw [HSN.out] at i1; have i2 := HR1.out; have i3 := HR2.out; go_simp; (try (first | with_reducible rfl | rfl | (simp; done) | (exact IntWalk.i64_in _ ⟨by omega, by omega⟩) | omega)))
                try simp only [Act.put, List.setIfInBounds_toArray, List.set_cons_zero, List.set_cons_succ]
                refine wpG_done (by kernel_rfl) ?_ _
                clear h01
                go_wp2_with fail
                go_roundw
                case rel => exact ⟨rs1 ++ [r], rest, j + 2, Lib.hid (by rw [HRS.out]; simp), Lib.hid (by rw [HNX.out, HST.out]), by push_cast; omega, by go_num, Lib.hid (by rw [linesAt_snoc, List.length_append, List.flatMap_append, HMM.out, HXS.out]; simp only [List.flatMap_cons, List.flatMap_nil, List.append_nil, LnC, HA.out, HSN.out, HSX.out, Nat.zero_add]; exact HOWN.out), Lib.hid hHeld⟩
                case measure => simp [intOf]; omega

set_option maxRecDepth 100000 in
set_option maxHeartbeats 1000000 in
theorem rlines_none (A : Option Addr) (n c : Nat) (b : List UInt8) (lo : Bool) (w : World) (h : RB w A n c b) (hn : n ≤ 1000000) (k p : Int) (hs : scanR b lo = ⟨-1, k, p⟩) :
    Calls Tryd.prog 25 #[.slice A n c, .bool lo] w (RLn [] w) := by
  have C23 := Lib.hid (rscan_any A n c b lo w h hn)
  unfold ScdV at C23
  rw [hs] at C23
  simp only [] at C23
  clear h hn hs
  go_enter Tryd.func25, Tryd.ntmps25
  go_upto_region 4 with (go_at_call 23; (with_reducible refine C23.out.mono ?_); rintro e9 w1 ⟨rfl, hb9⟩; have HB1 := Lib.hid hb9; clear hb9)
  go_loopw [9, 8] (fun av ov wr => av = .int .i64 0 ∧ ov = .slice none 0 0 ∧ Hid (Below w.heap.size w wr)) (fun av _ _ => (intOf av).toNat)
  case atStart => exact ⟨rfl, rfl, HB1⟩
  case round =>
    obtain ⟨rfl, rfl, HBR⟩ := hrel
    go_wp2_with fail
    go_ret
    exact ⟨_, rfl, World.ownsRow_nil _ _ 53 3, HBR.out⟩

end Go.Proofs.YtkalllenggmgoaaDoor
