/- The walk of CaptureCopies. -/
import Derived.Test.YtgbkoegmoelheaaDg
import Derived.Deep.CutRange
namespace Go.Proofs.Ytgbkoegmoelheaa
open Go.RowKit
set_option linter.unusedVariables false
set_option linter.unusedSimpArgs false
set_option maxRecDepth 100000

set_option maxHeartbeats 16000000 in
theorem copies_law (A : Option Addr) (n c : Nat) (acs : List Ac) (A1 : Option Addr) (n1 c1 : Nat) (acs1 : List Ac) (A2 : Option Addr) (n2 c2 : Nat) (acs2 : List Ac) (w : World) (h0 : AL w A n c acs ∧ n ≤ c ∧ c * 48 ≤ 140737488355328) (h1 : AL w A1 n1 c1 acs1 ∧ n1 ≤ c1 ∧ c1 * 48 ≤ 140737488355328) (h2 : AL w A2 n2 c2 acs2 ∧ n2 ≤ c2 ∧ c2 * 48 ≤ 140737488355328) :
    Calls Try.prog 7 #[.slice A n c, .slice A1 n1 c1, .slice A2 n2 c2] w fun e w' => e = .returned (.bool true) ∧ Below w.heap.size w w' := by
  have H0 := Lib.hid h0
  have H1 := Lib.hid h1
  have H2 := Lib.hid h2
  have K := Lib.hid known_any
  have C22 := Lib.hid (fun (W : World) => add_nil (.agg #[.int .i64 (-1), .int .i64 0, .slice none 0 0]) W (-1) 0 none 0 0 rfl)
  have C19a := Lib.hid (fun (W : World) (hb : Below w.heap.size w W) => short_any A n c acs 20 W (H0.out.1.below hb) (by have := H0.out.2; omega) (by omega) (by omega))
  obtain ⟨F0, hF0⟩ : ∃ F0, fewB 20 (pks (apk acs)) = F0 := ⟨_, rfl⟩
  rw [hF0] at C19a
  have HF0 := Lib.hid hF0
  clear hF0
  have C19b := Lib.hid (fun (W : World) (hb : Below w.heap.size w W) => short_any A1 n1 c1 acs1 20 W (H1.out.1.below hb) (by have := H1.out.2; omega) (by omega) (by omega))
  obtain ⟨F1, hF1⟩ : ∃ F1, fewB 20 (pks (apk acs1)) = F1 := ⟨_, rfl⟩
  rw [hF1] at C19b
  have HF1 := Lib.hid hF1
  clear hF1
  have C19c := Lib.hid (fun (W : World) (hb : Below w.heap.size w W) => short_any A2 n2 c2 acs2 20 W (H2.out.1.below hb) (by have := H2.out.2; omega) (by omega) (by omega))
  obtain ⟨F2, hF2⟩ : ∃ F2, fewB 20 (pks (apk acs2)) = F2 := ⟨_, rfl⟩
  rw [hF2] at C19c
  have HF2 := Lib.hid hF2
  clear hF2
  have HBc := Lib.hid (Below.refl w.heap.size w)
  clear h0 h1 h2
  by_cases hall : F0 = true ∧ F1 = true ∧ F2 = true
  case neg =>
    have HALL := Lib.hid hall
    clear hall
    cases F0 with
    | false =>
      go_enter Try.func7, Try.ntmps7
      go_wp2_with (first | (go_at_call 22; (with_reducible refine (C22.out _).mono ?_); rintro e w22 ⟨rfl, hb⟩; have HBc := Lib.hid (HBc.out.trans (hb.mono HBc.out.size)); clear hb) | (go_at_call 21; (with_reducible refine (close_nil _).mono ?_); rintro e w21 ⟨rfl, hb⟩; have HBc := Lib.hid (HBc.out.trans (hb.mono HBc.out.size)); clear hb) | (go_at_call 23; (with_reducible refine (bytes_nil _).mono ?_); rintro e w23 ⟨rfl, hb⟩; have HBc := Lib.hid (HBc.out.trans (hb.mono HBc.out.size)); clear hb) | (go_at_call 26; (with_reducible refine (waiting_nil _).mono ?_); rintro e w26 ⟨rfl, hb⟩; have HBc := Lib.hid (HBc.out.trans (hb.mono HBc.out.size)); clear hb) | (go_at_call 27; (with_reducible refine (copyw_nil _).mono ?_); rintro e w27 ⟨rfl, hb⟩; have HBc := Lib.hid (HBc.out.trans (hb.mono HBc.out.size)); clear hb) | (go_at_call 19; (with_reducible refine (C19a.out _ HBc.out).mono ?_); rintro e w19a ⟨rfl, hb⟩; have HBc := Lib.hid (HBc.out.trans (hb.mono HBc.out.size)); clear hb) | (go_at_call 19; (with_reducible refine (C19b.out _ HBc.out).mono ?_); rintro e w19b ⟨rfl, hb⟩; have HBc := Lib.hid (HBc.out.trans (hb.mono HBc.out.size)); clear hb) | (go_at_call 19; (with_reducible refine (C19c.out _ HBc.out).mono ?_); rintro e w19c ⟨rfl, hb⟩; have HBc := Lib.hid (HBc.out.trans (hb.mono HBc.out.size)); clear hb) | (go_at_call 10; (with_reducible refine (K.out _).mono ?_); rintro e w10 ⟨rfl, hb⟩; have HBc := Lib.hid (HBc.out.trans (hb.mono HBc.out.size)); clear hb))
      go_ret
      exact ⟨rfl, HBc.out⟩
    | true =>
      cases F1 with
      | false =>
        go_enter Try.func7, Try.ntmps7
        go_wp2_with (first | (go_at_call 22; (with_reducible refine (C22.out _).mono ?_); rintro e w22 ⟨rfl, hb⟩; have HBc := Lib.hid (HBc.out.trans (hb.mono HBc.out.size)); clear hb) | (go_at_call 21; (with_reducible refine (close_nil _).mono ?_); rintro e w21 ⟨rfl, hb⟩; have HBc := Lib.hid (HBc.out.trans (hb.mono HBc.out.size)); clear hb) | (go_at_call 23; (with_reducible refine (bytes_nil _).mono ?_); rintro e w23 ⟨rfl, hb⟩; have HBc := Lib.hid (HBc.out.trans (hb.mono HBc.out.size)); clear hb) | (go_at_call 26; (with_reducible refine (waiting_nil _).mono ?_); rintro e w26 ⟨rfl, hb⟩; have HBc := Lib.hid (HBc.out.trans (hb.mono HBc.out.size)); clear hb) | (go_at_call 27; (with_reducible refine (copyw_nil _).mono ?_); rintro e w27 ⟨rfl, hb⟩; have HBc := Lib.hid (HBc.out.trans (hb.mono HBc.out.size)); clear hb) | (go_at_call 19; (with_reducible refine (C19a.out _ HBc.out).mono ?_); rintro e w19a ⟨rfl, hb⟩; have HBc := Lib.hid (HBc.out.trans (hb.mono HBc.out.size)); clear hb) | (go_at_call 19; (with_reducible refine (C19b.out _ HBc.out).mono ?_); rintro e w19b ⟨rfl, hb⟩; have HBc := Lib.hid (HBc.out.trans (hb.mono HBc.out.size)); clear hb) | (go_at_call 19; (with_reducible refine (C19c.out _ HBc.out).mono ?_); rintro e w19c ⟨rfl, hb⟩; have HBc := Lib.hid (HBc.out.trans (hb.mono HBc.out.size)); clear hb) | (go_at_call 10; (with_reducible refine (K.out _).mono ?_); rintro e w10 ⟨rfl, hb⟩; have HBc := Lib.hid (HBc.out.trans (hb.mono HBc.out.size)); clear hb))
        go_ret
        exact ⟨rfl, HBc.out⟩
      | true =>
        cases F2 with
        | true => exact absurd ⟨rfl, rfl, rfl⟩ HALL.out
        | false =>
          go_enter Try.func7, Try.ntmps7
          go_wp2_with (first | (go_at_call 22; (with_reducible refine (C22.out _).mono ?_); rintro e w22 ⟨rfl, hb⟩; have HBc := Lib.hid (HBc.out.trans (hb.mono HBc.out.size)); clear hb) | (go_at_call 21; (with_reducible refine (close_nil _).mono ?_); rintro e w21 ⟨rfl, hb⟩; have HBc := Lib.hid (HBc.out.trans (hb.mono HBc.out.size)); clear hb) | (go_at_call 23; (with_reducible refine (bytes_nil _).mono ?_); rintro e w23 ⟨rfl, hb⟩; have HBc := Lib.hid (HBc.out.trans (hb.mono HBc.out.size)); clear hb) | (go_at_call 26; (with_reducible refine (waiting_nil _).mono ?_); rintro e w26 ⟨rfl, hb⟩; have HBc := Lib.hid (HBc.out.trans (hb.mono HBc.out.size)); clear hb) | (go_at_call 27; (with_reducible refine (copyw_nil _).mono ?_); rintro e w27 ⟨rfl, hb⟩; have HBc := Lib.hid (HBc.out.trans (hb.mono HBc.out.size)); clear hb) | (go_at_call 19; (with_reducible refine (C19a.out _ HBc.out).mono ?_); rintro e w19a ⟨rfl, hb⟩; have HBc := Lib.hid (HBc.out.trans (hb.mono HBc.out.size)); clear hb) | (go_at_call 19; (with_reducible refine (C19b.out _ HBc.out).mono ?_); rintro e w19b ⟨rfl, hb⟩; have HBc := Lib.hid (HBc.out.trans (hb.mono HBc.out.size)); clear hb) | (go_at_call 19; (with_reducible refine (C19c.out _ HBc.out).mono ?_); rintro e w19c ⟨rfl, hb⟩; have HBc := Lib.hid (HBc.out.trans (hb.mono HBc.out.size)); clear hb) | (go_at_call 10; (with_reducible refine (K.out _).mono ?_); rintro e w10 ⟨rfl, hb⟩; have HBc := Lib.hid (HBc.out.trans (hb.mono HBc.out.size)); clear hb))
          go_ret
          exact ⟨rfl, HBc.out⟩
  case pos =>
  obtain ⟨rfl, rfl, rfl⟩ := hall
  have hf0 := few_of HF0.out H0.out.1
  have hf1 := few_of HF1.out H1.out.1
  have hf2 := few_of HF2.out H2.out.1
  have HAL := Lib.hid H0.out.1
  have HAL1 := Lib.hid H1.out.1
  have HAL2 := Lib.hid H2.out.1
  have HPN := Lib.hid hf0.2
  have HPN1s := Lib.hid hf1.2
  have HPN2s := Lib.hid hf2.2
  have hn0 : (n : Int) ≤ 20 := hf0.1
  have hn1 : (n1 : Int) ≤ 20 := hf1.1
  have hn2 : (n2 : Int) ≤ 20 := hf2.1
  clear hf0 hf1 hf2
  go_enter Try.func7, Try.ntmps7
  go_upto_region 6 with (first | (go_at_call 22; (with_reducible refine (C22.out _).mono ?_); rintro e w22 ⟨rfl, hb⟩; have HBc := Lib.hid (HBc.out.trans (hb.mono HBc.out.size)); clear hb) | (go_at_call 21; (with_reducible refine (close_nil _).mono ?_); rintro e w21 ⟨rfl, hb⟩; have HBc := Lib.hid (HBc.out.trans (hb.mono HBc.out.size)); clear hb) | (go_at_call 23; (with_reducible refine (bytes_nil _).mono ?_); rintro e w23 ⟨rfl, hb⟩; have HBc := Lib.hid (HBc.out.trans (hb.mono HBc.out.size)); clear hb) | (go_at_call 26; (with_reducible refine (waiting_nil _).mono ?_); rintro e w26 ⟨rfl, hb⟩; have HBc := Lib.hid (HBc.out.trans (hb.mono HBc.out.size)); clear hb) | (go_at_call 27; (with_reducible refine (copyw_nil _).mono ?_); rintro e w27 ⟨rfl, hb⟩; have HBc := Lib.hid (HBc.out.trans (hb.mono HBc.out.size)); clear hb) | (go_at_call 19; (with_reducible refine (C19a.out _ HBc.out).mono ?_); rintro e w19a ⟨rfl, hb⟩; have HBc := Lib.hid (HBc.out.trans (hb.mono HBc.out.size)); clear hb) | (go_at_call 19; (with_reducible refine (C19b.out _ HBc.out).mono ?_); rintro e w19b ⟨rfl, hb⟩; have HBc := Lib.hid (HBc.out.trans (hb.mono HBc.out.size)); clear hb) | (go_at_call 19; (with_reducible refine (C19c.out _ HBc.out).mono ?_); rintro e w19c ⟨rfl, hb⟩; have HBc := Lib.hid (HBc.out.trans (hb.mono HBc.out.size)); clear hb) | (go_at_call 10; (with_reducible refine (K.out _).mono ?_); rintro e w10 ⟨rfl, hb⟩; have HBc := Lib.hid (HBc.out.trans (hb.mono HBc.out.size)); clear hb))
  have HB := HBc
  go_wp2_with fail
  obtain ⟨w3, hw3⟩ : ∃ w3, (w19c.alloc (.cells #[.slice none 0 0, .slice none 0 0, .int .i64 0] 46)).alloc (.cells #[.slice none 0 0, .slice none 0 0, .int .i64 0] 48) = w3 := ⟨_, rfl⟩
  have hb13 : Below w19c.heap.size w19c w3 := hw3 ▸ ((Below.refl _ w19c).alloc (Nat.le_refl _) _).alloc (by simp) _
  have kg : Blk w3 w19c.heap.size 46 #[.slice none 0 0, .slice none 0 0, .int .i64 0] := hw3 ▸ (Blk.new w19c 46 _).alloc _
  have kr : Blk w3 (w19c.heap.size + 1) 48 #[.slice none 0 0, .slice none 0 0, .int .i64 0] := by have := Blk.new (w19c.alloc (.cells #[.slice none 0 0, .slice none 0 0, .int .i64 0] 46)) 48 #[.slice none 0 0, .slice none 0 0, .int .i64 0]; rw [World.size_alloc, hw3] at this; exact this
  obtain ⟨g, hg⟩ : ∃ g, w19c.heap.size = g := ⟨_, rfl⟩
  obtain ⟨r, hr⟩ : ∃ r, g + 1 = r := ⟨_, rfl⟩
  have HGR := Lib.hid (show w.heap.size ≤ g ∧ g + 1 = r from ⟨by rw [← hg]; exact HB.out.size, hr⟩)
  have HRW := Lib.hid (show w.heap.size ≤ r by have := HGR.out; omega)
  rw [hg] at kg kr hb13
  rw [hr] at kr
  have HLW := Lib.hid (show LW w g g r 0 (fun _ => False) ⟨[], [], 0⟩ (.slice none 0 0) (.slice none 0 0) [] none 0 0 none 0 0 [] w3 from ⟨WS.new kg (Nat.le_refl _), RS.new _, FP.new _, kr, HB.out.trans (hb13.mono HGR.out.1), by simp⟩)
  rw [hw3, hg, hr]
  clear hb13 kg kr hg hr hw3
  obtain ⟨B, hB⟩ : ∃ B, g = B := ⟨_, rfl⟩
  have HBW := Lib.hid (show w.heap.size ≤ B by have := HGR.out.1; omega)
  have hl2 : LW w B g r 0 (fun _ => False) ⟨[], [], 0⟩ (.slice none 0 0) (.slice none 0 0) [] none 0 0 none 0 0 [] w3 := hB ▸ HLW.out
  have HL0 : Hid (LWx w B g r 0 w3) := Lib.hid ⟨_, _, _, _, _, _, _, _, _, _, _, hl2⟩
  clear hl2
  clear hB HLW
  go_loopw [10, 11] (fun ff ii wr => ∃ i : Nat, (i : Int) ≤ n ∧ ff = .bool true ∧ ii = .int .i64 (i : Int) ∧ Hid (LWx w B g r i wr)) (fun _ ii _ => n - (intOf ii).toNat)
  case atStart => exact ⟨0, by omega, rfl, rfl, HL0⟩
  case round =>
  clear HL0
  obtain ⟨i, hi, rfl, rfl, HL⟩ := hrel
  have hi0 : (0 : Int) ≤ i := by omega
  by_cases hlt : (i : Int) < n
  case pos =>
    obtain ⟨s, vb, vl, dsw, Ab, nb, cb, Al, nl, cl, ds, hlw⟩ := HL.out
    have HLW := Lib.hid hlw
    clear hlw HL
    have HSB := Lib.hid (show s.b.length ≤ 1990000 by have := HLW.out.len; omega)
    have HWG := Lib.hid (show ∀ k, WF g vb k → w.heap.size ≤ k from fun k hk => Nat.le_trans HBW.out (HLW.out.ws.ge k (.inl hk)))
    have hi1 : i < acs.length := by rw [HAL.out.len]; omega
    obtain ⟨b, o, e0, hat⟩ := HAL.out.at (by omega)
    have HAT := Lib.hid (fun (W : World) (hb : Below w.heap.size w W) => (hat i hi1).below hb)
    have hrp := HAL.out.r _ (List.getElem_mem hi1)
    have hpn := HPN.out _ (List.getElem_mem hi1)
    clear hat
    generalize acs[i] = a at *
    have HPD := Lib.hid hrp
    have HPN1 := Lib.hid hpn
    obtain ⟨s2, hs2⟩ : ∃ s2, stepP s a = s2 := ⟨_, rfl⟩
    obtain ⟨last, hlast⟩ : ∃ last, s.last = last := ⟨_, rfl⟩
    subst e0
    have HLEN := Lib.hid (show s2.b.length ≤ (i + 1) * 8206 by have := stepP_len HLW.out.ws.ok a; rw [hs2] at this; have := HLW.out.len; omega)
    have hdr : Below wr.heap.size wr wr.drew := below_drew (Below.refl _ _)
    have C20 := Lib.hid (show Calls Try.prog 20 #[.pointer (some ⟨g, 0, none⟩), .agg #[.slice Ab nb cb, .slice Al nl cl, .int .i64 last], .agg #[.bool a.cl, .int .i64 a.p.t, .int .i64 a.p.f, .slice a.p.A a.p.n a.p.c]] wr.drew (DoU wr.drew B g vb vl dsw (fun _ => False) s2) from hlast ▸ hs2 ▸ do_any a wr.drew B g vb vl dsw s (fun _ => False) Ab nb cb Al nl cl ds (HLW.out.ws.below hdr) (HLW.out.rs.below hdr) HLW.out.fp (fun k h => h.elim) HSB.out (HPD.out.below (below_drew HLW.out.bel)) (fun ad hA h0 hk => by
      rcases hk with hk | hk
      · have h1 := HPD.out.r.lt h0 hA
        have h2 := HWG.out _ hk
        omega
      · exact hk) (by have := HPN1.out; omega))
    unfold DoU at C20
    have HBc := Lib.hid (below_drew HLW.out.bel)
    have HKRc := Lib.hid (show Blk wr.drew r 48 #[.slice Ab nb cb, .slice Al nl cl, .int .i64 last] from (hlast ▸ HLW.out.blk).below hdr HLW.out.blk.lt)
    have HNR := Lib.hid (show ¬ WF g vb r from fun h => HLW.out.ws.notWK HLW.out.blk (by decide) (by decide) (by decide) (.inl h))
    clear hrp hpn hs2 hlast hdr
    go_upto_region 12 with fail
    refine wp_region_G (S0 := (fun W => Blk W r 48 #[.slice Ab nb cb, .slice Al nl cl, .int .i64 last] ∧ Below w.heap.size w W)) (S1 := (fun _ => True)) (c := 10) (by kernel_rfl) ?_
    have hHeld := (show (fun W => Blk W r 48 #[.slice Ab nb cb, .slice Al nl cl, .int .i64 last] ∧ Below w.heap.size w W) wr.drew from ⟨HKRc.out, HBc.out⟩)
    have h01 := (fun (W : World) (h : (fun W => Blk W r 48 #[.slice Ab nb cb, .slice Al nl cl, .int .i64 last] ∧ Below w.heap.size w W) W) => trivial)
    refine wpG_take0 (i := 0) (oi := ⟨some 71, _, _, _, _, _⟩) (v := .pointer (some ⟨g, 0, none⟩)) rfl (by kernel_rfl) (by kernel_rfl) (by kernel_rfl) (by decide) (by kernel_rfl) (fun _ _ _ h => h) rfl hHeld (Or.inl ⟨by rfl, ?_⟩) ?_
    · (intro W9 hSw; obtain ⟨v1, v2⟩ := hSw; have c0 := v1.cell 0; have c1 := v1.cell 1; have c2 := v1.cell 2; simp at c0 c1 c2; obtain ⟨q0, q1, q2, q3⟩ := HAT.out _ v2; go_simp; (try (first | with_reducible rfl | rfl | (simp; done))))
    try simp only [Act.put, List.setIfInBounds_toArray, List.set_cons_zero, List.set_cons_succ]
    refine wpG_take0 (i := 1) (oi := ⟨some 72, _, _, _, _, _⟩) (v := .agg #[.slice Ab nb cb, .slice Al nl cl, .int .i64 last]) rfl (by kernel_rfl) (by kernel_rfl) (by kernel_rfl) (by decide) (by kernel_rfl) (fun _ _ _ h => h) rfl hHeld (Or.inl ⟨by rfl, ?_⟩) ?_
    · (intro W9 hSw; obtain ⟨v1, v2⟩ := hSw; have c0 := v1.cell 0; have c1 := v1.cell 1; have c2 := v1.cell 2; simp at c0 c1 c2; obtain ⟨q0, q1, q2, q3⟩ := HAT.out _ v2; go_simp; (try (first | with_reducible rfl | rfl | (simp; done))))
    try simp only [Act.put, List.setIfInBounds_toArray, List.set_cons_zero, List.set_cons_succ]
    refine wpG_take0 (i := 2) (oi := ⟨some 73, _, _, _, _, _⟩) (v := .slice (some ⟨b, o, none⟩) n c) rfl (by kernel_rfl) (by kernel_rfl) (by kernel_rfl) (by decide) (by kernel_rfl) (fun _ _ _ h => h) rfl hHeld (Or.inl ⟨by rfl, ?_⟩) ?_
    · (intro W9 hSw; obtain ⟨v1, v2⟩ := hSw; have c0 := v1.cell 0; have c1 := v1.cell 1; have c2 := v1.cell 2; simp at c0 c1 c2; obtain ⟨q0, q1, q2, q3⟩ := HAT.out _ v2; go_simp; (try (first | with_reducible rfl | rfl | (simp; done))))
    try simp only [Act.put, List.setIfInBounds_toArray, List.set_cons_zero, List.set_cons_succ]
    refine wpG_take0 (i := 3) (oi := ⟨some 74, _, _, _, _, _⟩) (v := .int .i64 (i : Int)) rfl (by kernel_rfl) (by kernel_rfl) (by kernel_rfl) (by decide) (by kernel_rfl) (fun _ _ _ h => h) rfl hHeld (Or.inl ⟨by rfl, ?_⟩) ?_
    · (intro W9 hSw; obtain ⟨v1, v2⟩ := hSw; have c0 := v1.cell 0; have c1 := v1.cell 1; have c2 := v1.cell 2; simp at c0 c1 c2; obtain ⟨q0, q1, q2, q3⟩ := HAT.out _ v2; go_simp; (try (first | with_reducible rfl | rfl | (simp; done))))
    try simp only [Act.put, List.setIfInBounds_toArray, List.set_cons_zero, List.set_cons_succ]
    refine wpG_take0 (i := 4) (oi := ⟨some 75, _, _, _, _, _⟩) (v := .pointer (some ⟨b, o + i * 4, none⟩)) rfl (by kernel_rfl) (by kernel_rfl) (by kernel_rfl) (by decide) (by kernel_rfl) (fun _ _ _ h => h) rfl hHeld (Or.inl ⟨by rfl, ?_⟩) ?_
    · (intro W9 hSw; obtain ⟨v1, v2⟩ := hSw; have c0 := v1.cell 0; have c1 := v1.cell 1; have c2 := v1.cell 2; simp at c0 c1 c2; obtain ⟨q0, q1, q2, q3⟩ := HAT.out _ v2; go_simp; (try (first | with_reducible rfl | rfl | (simp; done))))
    try simp only [Act.put, List.setIfInBounds_toArray, List.set_cons_zero, List.set_cons_succ]
    refine wpG_take0 (i := 5) (oi := ⟨some 76, _, _, _, _, _⟩) (v := .agg #[.bool a.cl, .int .i64 a.p.t, .int .i64 a.p.f, .slice a.p.A a.p.n a.p.c]) rfl (by kernel_rfl) (by kernel_rfl) (by kernel_rfl) (by decide) (by kernel_rfl) (fun _ _ _ h => h) rfl hHeld (Or.inl ⟨by rfl, ?_⟩) ?_
    · (intro W9 hSw; obtain ⟨v1, v2⟩ := hSw; have c0 := v1.cell 0; have c1 := v1.cell 1; have c2 := v1.cell 2; simp at c0 c1 c2; obtain ⟨q0, q1, q2, q3⟩ := HAT.out _ v2; go_simp; (try (first | with_reducible rfl | rfl | (simp; done))))
    try simp only [Act.put, List.setIfInBounds_toArray, List.set_cons_zero, List.set_cons_succ]
    refine wpG_oneA (i := 6) (o := ⟨some 77, _, _, _, _, _⟩) (by kernel_rfl) rfl rfl (fun K hK => ?_)
    go_simp
    (with_reducible refine C20.out.mono ?_); rintro e w20 ⟨vb2, vl2, dsw2, Ab2, nb2, cb2, Al2, nl2, cl2, ds2, rfl, hws, hrs, hfp, hon, hat, hwk⟩
    have HWS2 := Lib.hid hws
    have HRS2 := Lib.hid hrs
    have HFP2 := Lib.hid hfp
    have HON2 := Lib.hid hon
    have HAT2 := Lib.hid hat
    have HWK2 := Lib.hid hwk
    have HKRc := Lib.hid (HKRc.out.only hon HNR.out)
    have HBc := Lib.hid (HBc.out.trans (hon.to_below HBc.out.size fun k hk h => by have := HWG.out k h; omega))
    clear hws hrs hfp hon hat hwk
    refine hK.out _ _ ⟨HKRc.out, HBc.out⟩ (fun hHeld => ?_)
    clear hK K
    try simp only [Act.put, List.setIfInBounds_toArray, List.set_cons_zero, List.set_cons_succ]
    refine wpG_take0 (i := 7) (oi := ⟨some 70, _, _, _, _, _⟩) (v := .tuple #[.agg #[.slice Ab2 nb2 cb2, .slice Al2 nl2 cl2, .int .i64 s2.last], .bool true]) rfl (by kernel_rfl) (by kernel_rfl) (by kernel_rfl) (by decide) (by kernel_rfl) (fun _ _ _ h => h) rfl hHeld (Or.inl ⟨by rfl, ?_⟩) ?_
    · (intro W9 hSw; obtain ⟨v1, v2⟩ := hSw; have c0 := v1.cell 0; have c1 := v1.cell 1; have c2 := v1.cell 2; simp at c0 c1 c2; obtain ⟨q0, q1, q2, q3⟩ := HAT.out _ v2; go_simp; (try (first | with_reducible rfl | rfl | (simp; done))))
    try simp only [Act.put, List.setIfInBounds_toArray, List.set_cons_zero, List.set_cons_succ]
    refine wpG_take0 (i := 8) (oi := ⟨some 78, _, _, _, _, _⟩) (v := .agg #[.slice Ab2 nb2 cb2, .slice Al2 nl2 cl2, .int .i64 s2.last]) rfl (by kernel_rfl) (by kernel_rfl) (by kernel_rfl) (by decide) (by kernel_rfl) (fun _ _ _ h => h) rfl hHeld (Or.inl ⟨by rfl, ?_⟩) ?_
    · (intro W9 hSw; obtain ⟨v1, v2⟩ := hSw; have c0 := v1.cell 0; have c1 := v1.cell 1; have c2 := v1.cell 2; simp at c0 c1 c2; obtain ⟨q0, q1, q2, q3⟩ := HAT.out _ v2; go_simp; (try (first | with_reducible rfl | rfl | (simp; done))))
    try simp only [Act.put, List.setIfInBounds_toArray, List.set_cons_zero, List.set_cons_succ]
    refine wpG_takeA (i := 9) (oi := ⟨some 79, _, _, _, _, _⟩) (v := .bool true) rfl (by kernel_rfl) (by kernel_rfl) (by kernel_rfl) (by decide) (fun _ _ _ h => h) h01 rfl hHeld (Or.inl ⟨by rfl, ?_⟩) ?_
    · (intro W9 hSw; go_simp; (try (first | with_reducible rfl | rfl | (simp; done))))
    try simp only [Act.put, List.setIfInBounds_toArray, List.set_cons_zero, List.set_cons_succ]
    refine wpG_oneB (i := 10) (o := ⟨none, _, _, _, _, _⟩) (by kernel_rfl) rfl rfl (fun K hK => ?_)
    have z0 := HKRc.out.cell 0
    have z1 := HKRc.out.cell 1
    have z2 := HKRc.out.cell 2
    simp at z0 z1 z2
    have f0 := HKRc.out.frozen 0
    have f1 := HKRc.out.frozen 1
    have f2 := HKRc.out.frozen 2
    go_simp
    clear z0 z1 z2 f0 f1 f2
    obtain ⟨hz9, ho9⟩ := st3 (x := .slice Ab2 nb2 cb2) (y := .slice Al2 nl2 cl2) (z := .int .i64 s2.last) HKRc.out
    obtain ⟨w30, hw30⟩ : ∃ w30, ((w20.setCell ⟨r, 0, none⟩ (.slice Ab2 nb2 cb2)).setCell ⟨r, 1, none⟩ (.slice Al2 nl2 cl2)).setCell ⟨r, 2, none⟩ (.int .i64 s2.last) = w30 := ⟨_, rfl⟩
    rw [hw30] at hz9 ho9 ⊢
    have HZ9 := Lib.hid hz9
    have HO9 := Lib.hid ho9
    clear hz9 ho9 hw30
    refine hK.out _ _ trivial (fun hHeld => ?_)
    clear hK K
    try simp only [Act.put, List.setIfInBounds_toArray, List.set_cons_zero, List.set_cons_succ]
    refine wpG_takeB (i := 11) (oi := ⟨some 10, _, _, _, _, _⟩) (v := .bool true) rfl (by kernel_rfl) (by kernel_rfl) (by kernel_rfl) (by decide) (fun _ _ _ h => h) h01 rfl hHeld (Or.inl ⟨by rfl, ?_⟩) ?_
    · (intro W9 hSw; go_simp; (try (first | with_reducible rfl | rfl | (simp; done))))
    try simp only [Act.put, List.setIfInBounds_toArray, List.set_cons_zero, List.set_cons_succ]
    refine wpG_done (by kernel_rfl) ?_ _
    have HLX : Hid (LWx w B g r (i + 1) w30) := Lib.hid ⟨s2, vb2, vl2, dsw2, Ab2, nb2, cb2, Al2, nl2, cl2, ds2, HWS2.out.only HO9.out fun k hk e => HWS2.out.notWK HKRc.out (by decide) (by decide) (by decide) (e ▸ hk), RS.box HRS2.out HKRc.out HO9.out, HFP2.out, HZ9.out, HBc.out.trans (HO9.out.to_below HBc.out.size fun k hk e => by have := HRW.out; omega), HLEN.out⟩
    go_wp2_with fail
    go_roundw
    case rel => exact ⟨i + 1, by omega, rfl, by go_num, HLX⟩
    case measure => simp [intOf]; omega
  case neg =>
  obtain ⟨s, vb, vl, dsw, Ab, nb, cb, Al, nl, cl, ds, hlw⟩ := HL.out
  have HLS := Lib.hid hlw
  obtain ⟨last, hlast⟩ : ∃ last, s.last = last := ⟨_, rfl⟩
  have HLQ := Lib.hid hlast.symm
  have HI20 := Lib.hid (show i ≤ 20 by omega)
  obtain ⟨wS, hwS⟩ : ∃ wS, wS = wr := ⟨_, rfl⟩
  have hdr : Below wr.heap.size wr wr.drew := below_drew (Below.refl _ _)
  have C27 := Lib.hid (fun (W : World) (hws : WS W B g vb vl dsw s) => copyw_any W B g vb vl dsw s hws (by have := HLS.out.len; have := HI20.out; omega))
  unfold CopyR at C27
  have HWSc := Lib.hid (HLS.out.ws.below hdr)
  have HKRc := Lib.hid (show Blk wr.drew r 48 #[.slice Ab nb cb, .slice Al nl cl, .int .i64 last] from (hlast ▸ HLS.out.blk).below hdr HLS.out.blk.lt)
  have HBSc := Lib.hid (show Below wS.heap.size wS wr.drew from hwS ▸ hdr)
  have HSZc := Lib.hid (show wS.heap.size ≤ wr.drew.heap.size from HBSc.out.size)
  have HRL := Lib.hid (show r < wS.heap.size by rw [hwS]; exact HLS.out.blk.lt)
  rw [← hwS] at HLS
  clear hlw hlast hdr HL
  go_upto_region 13 with fail
  clear hwS
  go_cut [12, 13] from 80 to 82 (fun cc xx wx => ∃ (g2 x : Nat), cc = .pointer (some ⟨g2, 0, none⟩) ∧ xx = .pointer (some ⟨x, 0, none⟩) ∧ Hid (TWx w B g r g2 x 20 wx))
  case first =>
    refine wp_region_G (S0 := (fun W => Blk W r 48 #[.slice Ab nb cb, .slice Al nl cl, .int .i64 last])) (S1 := (fun W => Blk W r 48 #[.slice Ab nb cb, .slice Al nl cl, .int .i64 last])) (c := 99) (by kernel_rfl) ?_
    have hHeld := (show (fun W => Blk W r 48 #[.slice Ab nb cb, .slice Al nl cl, .int .i64 last]) wr.drew from HKRc.out)
    have h01 := (fun (W : World) (h : (fun W => Blk W r 48 #[.slice Ab nb cb, .slice Al nl cl, .int .i64 last]) W) => h)
    refine wpG_takeB (i := 0) (oi := ⟨some 80, _, _, _, _, _⟩) (v := .pointer (some ⟨g, 0, none⟩)) rfl (by kernel_rfl) (by kernel_rfl) (by kernel_rfl) (by decide) (fun _ _ _ h => h) h01 rfl hHeld (Or.inl ⟨by rfl, ?_⟩) ?_
    · (intro W9 hSw; have c0 := hSw.cell 0; have c1 := hSw.cell 1; have c2 := hSw.cell 2; simp at c0 c1 c2; go_simp; (try (first | with_reducible rfl | rfl | (simp; done))))
    try simp only [Act.put, List.setIfInBounds_toArray, List.set_cons_zero, List.set_cons_succ]
    refine wpG_takeB (i := 2) (oi := ⟨some 82, _, _, _, _, _⟩) (v := .agg #[.slice Ab nb cb, .slice Al nl cl, .int .i64 last]) rfl (by kernel_rfl) (by kernel_rfl) (by kernel_rfl) (by decide) (fun _ _ _ h => h) h01 rfl hHeld (Or.inl ⟨by rfl, ?_⟩) ?_
    · (intro W9 hSw; have c0 := hSw.cell 0; have c1 := hSw.cell 1; have c2 := hSw.cell 2; simp at c0 c1 c2; go_simp; (try (first | with_reducible rfl | rfl | (simp; done))))
    try simp only [Act.put, List.setIfInBounds_toArray, List.set_cons_zero, List.set_cons_succ]
    refine wpG_twoB (i := 1) (j := 3) (oi := ⟨some 81, _, _, _, _, _⟩) (oj := ⟨some 13, _, _, _, _, _⟩) (by kernel_rfl) rfl rfl rfl rfl (fun K hK => ?_) (fun K hK => ?_)
    · go_simp
      (with_reducible refine (C27.out _ HWSc.out).mono ?_); rintro e w20 ⟨g2, rfl, vb2, vl2, hws, hb, hwf, hvl⟩
      have HWSd := Lib.hid hws
      have HWFd := Lib.hid (show ∀ k, WF g2 vb2 k → wS.heap.size ≤ k from fun k hk => Nat.le_trans HSZc.out (hwf k hk))
      have HVLd := Lib.hid (show ∀ k, vl2.ownBlock = some k → wS.heap.size ≤ k from fun k hk => Nat.le_trans HSZc.out (hvl k hk))
      have HKRc := Lib.hid (HKRc.out.below hb HKRc.out.lt)
      (try have HXBc := Lib.hid (HXBc.out.below hb HXBc.out.lt))
      have HBSc := Lib.hid (HBSc.out.trans (hb.mono HSZc.out))
      have HSZc := Lib.hid (Nat.le_trans HSZc.out hb.size)
      clear hws hb hwf hvl
      refine hK.out _ _ HKRc.out (fun hHeld => ?_)
      clear hK K
      try simp only [Act.put, List.setIfInBounds_toArray, List.set_cons_zero, List.set_cons_succ]
      refine wpG_oneB (i := 3) (o := ⟨some 13, _, _, _, _, _⟩) (by kernel_rfl) rfl rfl (fun K hK => ?_)
      go_simp
      have hbn : Below w20.heap.size w20 (w20.alloc (.cells #[.slice none 0 0, .slice none 0 0, .int .i64 0] 48)) := (Below.refl w20.heap.size w20).alloc (Nat.le_refl _) (.cells #[.slice none 0 0, .slice none 0 0, .int .i64 0] 48)
      have HXBc : Hid (Blk (w20.alloc (.cells #[.slice none 0 0, .slice none 0 0, .int .i64 0] 48)) w20.heap.size 48 #[.slice none 0 0, .slice none 0 0, .int .i64 0]) := Lib.hid (Blk.new w20 48 _)
      have HXKc := Lib.hid (show wS.heap.size ≤ w20.heap.size from HSZc.out)
      have HKRp := HKRc
      have HBSp := HBSc
      (try have HWSp := HWSd)
      (try have HWSd := Lib.hid (HWSd.out.below hbn))
      have HKRc := Lib.hid (HKRc.out.below hbn HKRc.out.lt)
      (try have HWSc := Lib.hid (HWSc.out.below hbn))
      have HBSc := Lib.hid (HBSc.out.trans (hbn.mono HSZc.out))
      have HSZc := Lib.hid (Nat.le_trans HSZc.out hbn.size)
      clear hbn
      refine hK.out _ _ HKRc.out (fun hHeld => ?_)
      clear hK K
      try simp only [Act.put, List.setIfInBounds_toArray, List.set_cons_zero, List.set_cons_succ]
      refine wpG_takeB (i := 4) (oi := ⟨some 12, _, _, _, _, _⟩) (v := .pointer (some ⟨g2, 0, none⟩)) rfl (by kernel_rfl) (by kernel_rfl) (by kernel_rfl) (by decide) (fun _ _ _ h => h) h01 rfl hHeld (Or.inl ⟨by rfl, ?_⟩) ?_
      · (intro W9 hSw; have c0 := hSw.cell 0; have c1 := hSw.cell 1; have c2 := hSw.cell 2; simp at c0 c1 c2; go_simp; (try (first | with_reducible rfl | rfl | (simp; done))))
      try simp only [Act.put, List.setIfInBounds_toArray, List.set_cons_zero, List.set_cons_succ]
      refine wpG_oneB (i := 5) (o := ⟨none, _, _, _, _, _⟩) (by kernel_rfl) rfl rfl (fun K hK => ?_)
      have z0 := HXBc.out.cell 0
      have z1 := HXBc.out.cell 1
      have z2 := HXBc.out.cell 2
      simp at z0 z1 z2
      have f0 := HXBc.out.frozen 0
      have f1 := HXBc.out.frozen 1
      have f2 := HXBc.out.frozen 2
      go_simp
      clear z0 z1 z2 f0 f1 f2
      first | (obtain ⟨hz9, ho9⟩ := st3 (x := .slice Ab nb cb) (y := .slice Al nl cl) (z := .int .i64 last) HXBc.out; obtain ⟨w30, hw30⟩ : ∃ w30, ((w20.setCell ⟨wr.heap.size, 0, none⟩ (.slice Ab nb cb)).setCell ⟨wr.heap.size, 1, none⟩ (.slice Al nl cl)).setCell ⟨wr.heap.size, 2, none⟩ (.int .i64 last) = w30 := ⟨_, rfl⟩; rw [hw30] at hz9 ho9 ⊢; have HWSe := Lib.hid (HWSd.out.only ho9 fun k hk e => HWSd.out.notWK HXBc.out (by decide) (by decide) (by decide) (e ▸ hk)); have HKRc := Lib.hid (HKRc.out.only ho9 (by have := HXKc.out; have := HRL.out; omega)); have HBSc := Lib.hid (HBSc.out.trans (ho9.to_below HSZc.out fun k hk e => by have := HXKc.out; omega)); have HTWX : Hid (TWx w B g r g2 wr.heap.size 20 w30) := Lib.hid (twx_start HLS.out HBSc.out ⟨vb2, vl2, HWSe.out, HWFd.out, HVLd.out⟩ HBSc.out (HLQ.out ▸ hz9) HXKc.out HBW.out HRW.out HI20.out); clear hz9 ho9 hw30; refine hK.out _ _ HKRc.out (fun hHeld => ?_)) | (obtain ⟨w30, hw30⟩ : ∃ w30, w20.alloc (.cells #[.slice Ab nb cb, .slice Al nl cl, .int .i64 last] 48) = w30 := ⟨_, rfl⟩; rw [hw30]; have hb30 : Below w20.heap.size w20 w30 := hw30 ▸ (Below.refl _ w20).alloc (Nat.le_refl _) _; have hz9 : Blk w30 w20.heap.size 48 #[.slice Ab nb cb, .slice Al nl cl, .int .i64 last] := hw30 ▸ Blk.new w20 48 _; have HWSe := Lib.hid (HWSp.out.below hb30); have HKRc := Lib.hid (HKRp.out.below hb30 HKRp.out.lt); have HBSc := Lib.hid (HBSp.out.trans (hb30.mono HXKc.out)); have HTWX : Hid (TWx w B g r g2 w20.heap.size 20 w30) := Lib.hid (twx_start HLS.out HBSc.out ⟨vb2, vl2, HWSe.out, HWFd.out, HVLd.out⟩ HBSc.out (HLQ.out ▸ hz9) HXKc.out HBW.out HRW.out HI20.out); clear hz9 hb30 hw30; refine hK.out _ _ HKRc.out (fun hHeld => ?_))
      clear hK K
      try simp only [Act.put, List.setIfInBounds_toArray, List.set_cons_zero, List.set_cons_succ]
      refine wpG_done (by kernel_rfl) ?_ _
      go_wp2_with fail
      go_meet
      exact ⟨g2, _, rfl, rfl, HTWX⟩
    · go_simp
      have hbn : Below (wr.drew).heap.size (wr.drew) ((wr.alloc (.cells #[.slice none 0 0, .slice none 0 0, .int .i64 0] 48)).drew) := (Below.refl (wr.drew).heap.size (wr.drew)).alloc (Nat.le_refl _) (.cells #[.slice none 0 0, .slice none 0 0, .int .i64 0] 48)
      have HXBc : Hid (Blk ((wr.alloc (.cells #[.slice none 0 0, .slice none 0 0, .int .i64 0] 48)).drew) wr.heap.size 48 #[.slice none 0 0, .slice none 0 0, .int .i64 0]) := Lib.hid (Blk.new (wr.drew) 48 _)
      have HXKc := Lib.hid (show wS.heap.size ≤ wr.heap.size from HSZc.out)
      have HKRp := HKRc
      have HBSp := HBSc
      (try have HWSp := HWSd)
      (try have HWSd := Lib.hid (HWSd.out.below hbn))
      have HKRc := Lib.hid (HKRc.out.below hbn HKRc.out.lt)
      (try have HWSc := Lib.hid (HWSc.out.below hbn))
      have HBSc := Lib.hid (HBSc.out.trans (hbn.mono HSZc.out))
      have HSZc := Lib.hid (Nat.le_trans HSZc.out hbn.size)
      clear hbn
      refine hK.out _ _ HKRc.out (fun hHeld => ?_)
      clear hK K
      try simp only [Act.put, List.setIfInBounds_toArray, List.set_cons_zero, List.set_cons_succ]
      refine wpG_oneB (i := 1) (o := ⟨some 81, _, _, _, _, _⟩) (by kernel_rfl) rfl rfl (fun K hK => ?_)
      go_simp
      (with_reducible refine (C27.out _ HWSc.out).mono ?_); rintro e w20 ⟨g2, rfl, vb2, vl2, hws, hb, hwf, hvl⟩
      have HWSd := Lib.hid hws
      have HWFd := Lib.hid (show ∀ k, WF g2 vb2 k → wS.heap.size ≤ k from fun k hk => Nat.le_trans HSZc.out (hwf k hk))
      have HVLd := Lib.hid (show ∀ k, vl2.ownBlock = some k → wS.heap.size ≤ k from fun k hk => Nat.le_trans HSZc.out (hvl k hk))
      have HKRc := Lib.hid (HKRc.out.below hb HKRc.out.lt)
      (try have HXBc := Lib.hid (HXBc.out.below hb HXBc.out.lt))
      have HBSc := Lib.hid (HBSc.out.trans (hb.mono HSZc.out))
      have HSZc := Lib.hid (Nat.le_trans HSZc.out hb.size)
      clear hws hb hwf hvl
      refine hK.out _ _ HKRc.out (fun hHeld => ?_)
      clear hK K
      try simp only [Act.put, List.setIfInBounds_toArray, List.set_cons_zero, List.set_cons_succ]
      refine wpG_takeB (i := 4) (oi := ⟨some 12, _, _, _, _, _⟩) (v := .pointer (some ⟨g2, 0, none⟩)) rfl (by kernel_rfl) (by kernel_rfl) (by kernel_rfl) (by decide) (fun _ _ _ h => h) h01 rfl hHeld (Or.inl ⟨by rfl, ?_⟩) ?_
      · (intro W9 hSw; have c0 := hSw.cell 0; have c1 := hSw.cell 1; have c2 := hSw.cell 2; simp at c0 c1 c2; go_simp; (try (first | with_reducible rfl | rfl | (simp; done))))
      try simp only [Act.put, List.setIfInBounds_toArray, List.set_cons_zero, List.set_cons_succ]
      refine wpG_oneB (i := 5) (o := ⟨none, _, _, _, _, _⟩) (by kernel_rfl) rfl rfl (fun K hK => ?_)
      have z0 := HXBc.out.cell 0
      have z1 := HXBc.out.cell 1
      have z2 := HXBc.out.cell 2
      simp at z0 z1 z2
      have f0 := HXBc.out.frozen 0
      have f1 := HXBc.out.frozen 1
      have f2 := HXBc.out.frozen 2
      go_simp
      clear z0 z1 z2 f0 f1 f2
      first | (obtain ⟨hz9, ho9⟩ := st3 (x := .slice Ab nb cb) (y := .slice Al nl cl) (z := .int .i64 last) HXBc.out; obtain ⟨w30, hw30⟩ : ∃ w30, ((w20.setCell ⟨wr.heap.size, 0, none⟩ (.slice Ab nb cb)).setCell ⟨wr.heap.size, 1, none⟩ (.slice Al nl cl)).setCell ⟨wr.heap.size, 2, none⟩ (.int .i64 last) = w30 := ⟨_, rfl⟩; rw [hw30] at hz9 ho9 ⊢; have HWSe := Lib.hid (HWSd.out.only ho9 fun k hk e => HWSd.out.notWK HXBc.out (by decide) (by decide) (by decide) (e ▸ hk)); have HKRc := Lib.hid (HKRc.out.only ho9 (by have := HXKc.out; have := HRL.out; omega)); have HBSc := Lib.hid (HBSc.out.trans (ho9.to_below HSZc.out fun k hk e => by have := HXKc.out; omega)); have HTWX : Hid (TWx w B g r g2 wr.heap.size 20 w30) := Lib.hid (twx_start HLS.out HBSc.out ⟨vb2, vl2, HWSe.out, HWFd.out, HVLd.out⟩ HBSc.out (HLQ.out ▸ hz9) HXKc.out HBW.out HRW.out HI20.out); clear hz9 ho9 hw30; refine hK.out _ _ HKRc.out (fun hHeld => ?_)) | (obtain ⟨w30, hw30⟩ : ∃ w30, w20.alloc (.cells #[.slice Ab nb cb, .slice Al nl cl, .int .i64 last] 48) = w30 := ⟨_, rfl⟩; rw [hw30]; have hb30 : Below w20.heap.size w20 w30 := hw30 ▸ (Below.refl _ w20).alloc (Nat.le_refl _) _; have hz9 : Blk w30 w20.heap.size 48 #[.slice Ab nb cb, .slice Al nl cl, .int .i64 last] := hw30 ▸ Blk.new w20 48 _; have HWSe := Lib.hid (HWSp.out.below hb30); have HKRc := Lib.hid (HKRp.out.below hb30 HKRp.out.lt); have HBSc := Lib.hid (HBSp.out.trans (hb30.mono HXKc.out)); have HTWX : Hid (TWx w B g r g2 w20.heap.size 20 w30) := Lib.hid (twx_start HLS.out HBSc.out ⟨vb2, vl2, HWSe.out, HWFd.out, HVLd.out⟩ HBSc.out (HLQ.out ▸ hz9) HXKc.out HBW.out HRW.out HI20.out); clear hz9 hb30 hw30; refine hK.out _ _ HKRc.out (fun hHeld => ?_))
      clear hK K
      try simp only [Act.put, List.setIfInBounds_toArray, List.set_cons_zero, List.set_cons_succ]
      refine wpG_done (by kernel_rfl) ?_ _
      go_wp2_with fail
      go_meet
      exact ⟨g2, _, rfl, rfl, HTWX⟩
  case rest =>
  obtain ⟨g2, x, rfl, rfl, HT⟩ := hcut
  clear HWSc HKRc HBSc HSZc C27 HLS HLQ HRL
  go_wp2_with fail
  go_loopw [10, 14] (fun ff ii wr => ∃ i : Nat, (i : Int) ≤ n1 ∧ ff = .bool true ∧ ii = .int .i64 (i : Int) ∧ Hid (TWx w B g r g2 x (20 + i) wr)) (fun _ ii _ => n1 - (intOf ii).toNat)
  case atStart => exact ⟨0, by omega, rfl, rfl, HT⟩
  case round =>
  clear HT hlt hi hi0 HI20
  obtain ⟨i, hi, rfl, rfl, HL⟩ := hrel
  have hi0 : (0 : Int) ≤ i := by omega
  by_cases hlt : (i : Int) < n1
  case pos =>
    obtain ⟨s, s', vb, vl, dsw, Ab, nb, cb, Al, nl, cl, ds, vb', vl', dsw', Ab', nb', cb', Al', nl', cl', ds', htw⟩ := HL.out
    have HTW := Lib.hid htw
    clear htw HL
    have HSB := Lib.hid (show s.b.length ≤ 1990000 by have := HTW.out.l1; omega)
    have HWG := Lib.hid (show ∀ k, WF g vb k → w.heap.size ≤ k from fun k hk => Nat.le_trans HBW.out (HTW.out.ws1.ge k (.inl hk)))
    have HWG2 := Lib.hid (show ∀ k, WF g2 vb' k → w.heap.size ≤ k from fun k hk => Nat.le_trans HBW.out (HTW.out.ws2.ge k (.inl hk)))
    have hi1 : i < acs1.length := by rw [HAL1.out.len]; omega
    obtain ⟨b, o, e0, hat⟩ := HAL1.out.at (by omega)
    have HAT := Lib.hid (fun (W : World) (hb : Below w.heap.size w W) => (hat i hi1).below hb)
    have hrp := HAL1.out.r _ (List.getElem_mem hi1)
    have hpn := HPN1s.out _ (List.getElem_mem hi1)
    clear hat
    generalize acs1[i] = a at *
    have HPD := Lib.hid hrp
    have HPN1 := Lib.hid hpn
    obtain ⟨s2, hs2⟩ : ∃ s2, stepP s a = s2 := ⟨_, rfl⟩
    obtain ⟨last, hlast⟩ : ∃ last, s.last = last := ⟨_, rfl⟩
    subst e0
    have HLEN := Lib.hid (show s2.b.length ≤ (20 + i + 1) * 8206 by have := stepP_len HTW.out.ws1.ok a; rw [hs2] at this; have := HTW.out.l1; omega)
    have hdr : Below wr.heap.size wr wr.drew := below_drew (Below.refl _ _)
    have C20 := Lib.hid (show Calls Try.prog 20 #[.pointer (some ⟨g, 0, none⟩), .agg #[.slice Ab nb cb, .slice Al nl cl, .int .i64 last], .agg #[.bool a.cl, .int .i64 a.p.t, .int .i64 a.p.f, .slice a.p.A a.p.n a.p.c]] wr.drew (DoU wr.drew B g vb vl dsw (WF g2 vb') s2) from hlast ▸ hs2 ▸ do_any a wr.drew B g vb vl dsw s (WF g2 vb') Ab nb cb Al nl cl ds (HTW.out.ws1.below hdr) (HTW.out.rs1.below hdr) HTW.out.fp1 (fun k h => HTW.out.ws2.lt k (.inl h)) HSB.out (HPD.out.below (below_drew HTW.out.bel)) (fun ad hA h0 hk => by
      have h1 := HPD.out.r.lt h0 hA
      rcases hk with hk | hk
      · have h2 := HWG.out _ hk
        omega
      · have h2 := HWG2.out _ hk
        omega) (by have := HPN1.out; omega))
    unfold DoU at C20
    have HBc := Lib.hid (below_drew HTW.out.bel)
    have HKRc := Lib.hid (show Blk wr.drew r 48 #[.slice Ab nb cb, .slice Al nl cl, .int .i64 last] from (hlast ▸ HTW.out.b1).below hdr HTW.out.b1.lt)
    have HNR := Lib.hid HTW.out.notr
    have HTD := Lib.hid (HTW.out.below hdr)
    clear hrp hpn hs2 hlast hdr
    go_upto_region 19 with fail
    refine wp_region_G (S0 := (fun W => Blk W r 48 #[.slice Ab nb cb, .slice Al nl cl, .int .i64 last] ∧ Below w.heap.size w W)) (S1 := (fun _ => True)) (c := 10) (by kernel_rfl) ?_
    have hHeld := (show (fun W => Blk W r 48 #[.slice Ab nb cb, .slice Al nl cl, .int .i64 last] ∧ Below w.heap.size w W) wr.drew from ⟨HKRc.out, HBc.out⟩)
    have h01 := (fun (W : World) (h : (fun W => Blk W r 48 #[.slice Ab nb cb, .slice Al nl cl, .int .i64 last] ∧ Below w.heap.size w W) W) => trivial)
    refine wpG_take0 (i := 0) (oi := ⟨some 99, _, _, _, _, _⟩) (v := .pointer (some ⟨g, 0, none⟩)) rfl (by kernel_rfl) (by kernel_rfl) (by kernel_rfl) (by decide) (by kernel_rfl) (fun _ _ _ h => h) rfl hHeld (Or.inl ⟨by rfl, ?_⟩) ?_
    · (intro W9 hSw; obtain ⟨v1, v2⟩ := hSw; have c0 := v1.cell 0; have c1 := v1.cell 1; have c2 := v1.cell 2; simp at c0 c1 c2; obtain ⟨q0, q1, q2, q3⟩ := HAT.out _ v2; go_simp; (try (first | with_reducible rfl | rfl | (simp; done))))
    try simp only [Act.put, List.setIfInBounds_toArray, List.set_cons_zero, List.set_cons_succ]
    refine wpG_take0 (i := 1) (oi := ⟨some 100, _, _, _, _, _⟩) (v := .agg #[.slice Ab nb cb, .slice Al nl cl, .int .i64 last]) rfl (by kernel_rfl) (by kernel_rfl) (by kernel_rfl) (by decide) (by kernel_rfl) (fun _ _ _ h => h) rfl hHeld (Or.inl ⟨by rfl, ?_⟩) ?_
    · (intro W9 hSw; obtain ⟨v1, v2⟩ := hSw; have c0 := v1.cell 0; have c1 := v1.cell 1; have c2 := v1.cell 2; simp at c0 c1 c2; obtain ⟨q0, q1, q2, q3⟩ := HAT.out _ v2; go_simp; (try (first | with_reducible rfl | rfl | (simp; done))))
    try simp only [Act.put, List.setIfInBounds_toArray, List.set_cons_zero, List.set_cons_succ]
    refine wpG_take0 (i := 2) (oi := ⟨some 101, _, _, _, _, _⟩) (v := .slice (some ⟨b, o, none⟩) n1 c1) rfl (by kernel_rfl) (by kernel_rfl) (by kernel_rfl) (by decide) (by kernel_rfl) (fun _ _ _ h => h) rfl hHeld (Or.inl ⟨by rfl, ?_⟩) ?_
    · (intro W9 hSw; obtain ⟨v1, v2⟩ := hSw; have c0 := v1.cell 0; have c1 := v1.cell 1; have c2 := v1.cell 2; simp at c0 c1 c2; obtain ⟨q0, q1, q2, q3⟩ := HAT.out _ v2; go_simp; (try (first | with_reducible rfl | rfl | (simp; done))))
    try simp only [Act.put, List.setIfInBounds_toArray, List.set_cons_zero, List.set_cons_succ]
    refine wpG_take0 (i := 3) (oi := ⟨some 102, _, _, _, _, _⟩) (v := .int .i64 (i : Int)) rfl (by kernel_rfl) (by kernel_rfl) (by kernel_rfl) (by decide) (by kernel_rfl) (fun _ _ _ h => h) rfl hHeld (Or.inl ⟨by rfl, ?_⟩) ?_
    · (intro W9 hSw; obtain ⟨v1, v2⟩ := hSw; have c0 := v1.cell 0; have c1 := v1.cell 1; have c2 := v1.cell 2; simp at c0 c1 c2; obtain ⟨q0, q1, q2, q3⟩ := HAT.out _ v2; go_simp; (try (first | with_reducible rfl | rfl | (simp; done))))
    try simp only [Act.put, List.setIfInBounds_toArray, List.set_cons_zero, List.set_cons_succ]
    refine wpG_take0 (i := 4) (oi := ⟨some 103, _, _, _, _, _⟩) (v := .pointer (some ⟨b, o + i * 4, none⟩)) rfl (by kernel_rfl) (by kernel_rfl) (by kernel_rfl) (by decide) (by kernel_rfl) (fun _ _ _ h => h) rfl hHeld (Or.inl ⟨by rfl, ?_⟩) ?_
    · (intro W9 hSw; obtain ⟨v1, v2⟩ := hSw; have c0 := v1.cell 0; have c1 := v1.cell 1; have c2 := v1.cell 2; simp at c0 c1 c2; obtain ⟨q0, q1, q2, q3⟩ := HAT.out _ v2; go_simp; (try (first | with_reducible rfl | rfl | (simp; done))))
    try simp only [Act.put, List.setIfInBounds_toArray, List.set_cons_zero, List.set_cons_succ]
    refine wpG_take0 (i := 5) (oi := ⟨some 104, _, _, _, _, _⟩) (v := .agg #[.bool a.cl, .int .i64 a.p.t, .int .i64 a.p.f, .slice a.p.A a.p.n a.p.c]) rfl (by kernel_rfl) (by kernel_rfl) (by kernel_rfl) (by decide) (by kernel_rfl) (fun _ _ _ h => h) rfl hHeld (Or.inl ⟨by rfl, ?_⟩) ?_
    · (intro W9 hSw; obtain ⟨v1, v2⟩ := hSw; have c0 := v1.cell 0; have c1 := v1.cell 1; have c2 := v1.cell 2; simp at c0 c1 c2; obtain ⟨q0, q1, q2, q3⟩ := HAT.out _ v2; go_simp; (try (first | with_reducible rfl | rfl | (simp; done))))
    try simp only [Act.put, List.setIfInBounds_toArray, List.set_cons_zero, List.set_cons_succ]
    refine wpG_oneA (i := 6) (o := ⟨some 105, _, _, _, _, _⟩) (by kernel_rfl) rfl rfl (fun K hK => ?_)
    go_simp
    (with_reducible refine C20.out.mono ?_); rintro e w20 ⟨vb2, vl2, dsw2, Ab2, nb2, cb2, Al2, nl2, cl2, ds2, rfl, hws, hrs, hfp, hon, hat, hwk⟩
    have HWS2 := Lib.hid hws
    have HRS2 := Lib.hid hrs
    have HFP2 := Lib.hid hfp
    have HON2 := Lib.hid hon
    have HAT2 := Lib.hid hat
    have HWK2 := Lib.hid hwk
    have HKRc := Lib.hid (HKRc.out.only hon HNR.out)
    have HBc := Lib.hid (HBc.out.trans (hon.to_below HBc.out.size fun k hk h => by have := HWG.out k h; omega))
    clear hws hrs hfp hon hat hwk
    refine hK.out _ _ ⟨HKRc.out, HBc.out⟩ (fun hHeld => ?_)
    clear hK K
    try simp only [Act.put, List.setIfInBounds_toArray, List.set_cons_zero, List.set_cons_succ]
    refine wpG_take0 (i := 7) (oi := ⟨some 98, _, _, _, _, _⟩) (v := .tuple #[.agg #[.slice Ab2 nb2 cb2, .slice Al2 nl2 cl2, .int .i64 s2.last], .bool true]) rfl (by kernel_rfl) (by kernel_rfl) (by kernel_rfl) (by decide) (by kernel_rfl) (fun _ _ _ h => h) rfl hHeld (Or.inl ⟨by rfl, ?_⟩) ?_
    · (intro W9 hSw; obtain ⟨v1, v2⟩ := hSw; have c0 := v1.cell 0; have c1 := v1.cell 1; have c2 := v1.cell 2; simp at c0 c1 c2; obtain ⟨q0, q1, q2, q3⟩ := HAT.out _ v2; go_simp; (try (first | with_reducible rfl | rfl | (simp; done))))
    try simp only [Act.put, List.setIfInBounds_toArray, List.set_cons_zero, List.set_cons_succ]
    refine wpG_take0 (i := 8) (oi := ⟨some 106, _, _, _, _, _⟩) (v := .agg #[.slice Ab2 nb2 cb2, .slice Al2 nl2 cl2, .int .i64 s2.last]) rfl (by kernel_rfl) (by kernel_rfl) (by kernel_rfl) (by decide) (by kernel_rfl) (fun _ _ _ h => h) rfl hHeld (Or.inl ⟨by rfl, ?_⟩) ?_
    · (intro W9 hSw; obtain ⟨v1, v2⟩ := hSw; have c0 := v1.cell 0; have c1 := v1.cell 1; have c2 := v1.cell 2; simp at c0 c1 c2; obtain ⟨q0, q1, q2, q3⟩ := HAT.out _ v2; go_simp; (try (first | with_reducible rfl | rfl | (simp; done))))
    try simp only [Act.put, List.setIfInBounds_toArray, List.set_cons_zero, List.set_cons_succ]
    refine wpG_takeA (i := 9) (oi := ⟨some 107, _, _, _, _, _⟩) (v := .bool true) rfl (by kernel_rfl) (by kernel_rfl) (by kernel_rfl) (by decide) (fun _ _ _ h => h) h01 rfl hHeld (Or.inl ⟨by rfl, ?_⟩) ?_
    · (intro W9 hSw; go_simp; (try (first | with_reducible rfl | rfl | (simp; done))))
    try simp only [Act.put, List.setIfInBounds_toArray, List.set_cons_zero, List.set_cons_succ]
    refine wpG_oneB (i := 10) (o := ⟨none, _, _, _, _, _⟩) (by kernel_rfl) rfl rfl (fun K hK => ?_)
    have z0 := HKRc.out.cell 0
    have z1 := HKRc.out.cell 1
    have z2 := HKRc.out.cell 2
    simp at z0 z1 z2
    have f0 := HKRc.out.frozen 0
    have f1 := HKRc.out.frozen 1
    have f2 := HKRc.out.frozen 2
    go_simp
    clear z0 z1 z2 f0 f1 f2
    obtain ⟨hz9, ho9⟩ := st3 (x := .slice Ab2 nb2 cb2) (y := .slice Al2 nl2 cl2) (z := .int .i64 s2.last) HKRc.out
    obtain ⟨w30, hw30⟩ : ∃ w30, ((w20.setCell ⟨r, 0, none⟩ (.slice Ab2 nb2 cb2)).setCell ⟨r, 1, none⟩ (.slice Al2 nl2 cl2)).setCell ⟨r, 2, none⟩ (.int .i64 s2.last) = w30 := ⟨_, rfl⟩
    rw [hw30] at hz9 ho9 ⊢
    have HZ9 := Lib.hid hz9
    have HO9 := Lib.hid ho9
    clear hz9 ho9 hw30
    refine hK.out _ _ trivial (fun hHeld => ?_)
    clear hK K
    try simp only [Act.put, List.setIfInBounds_toArray, List.set_cons_zero, List.set_cons_succ]
    refine wpG_takeB (i := 11) (oi := ⟨some 10, _, _, _, _, _⟩) (v := .bool true) rfl (by kernel_rfl) (by kernel_rfl) (by kernel_rfl) (by decide) (fun _ _ _ h => h) h01 rfl hHeld (Or.inl ⟨by rfl, ?_⟩) ?_
    · (intro W9 hSw; go_simp; (try (first | with_reducible rfl | rfl | (simp; done))))
    try simp only [Act.put, List.setIfInBounds_toArray, List.set_cons_zero, List.set_cons_succ]
    refine wpG_done (by kernel_rfl) ?_ _
    have HLX : Hid (TWx w B g r g2 x (20 + (i + 1)) w30) := Lib.hid (show TWx w B g r g2 x (20 + i + 1) w30 from ⟨s2, s', vb2, vl2, dsw2, Ab2, nb2, cb2, Al2, nl2, cl2, ds2, vb', vl', dsw', Ab', nb', cb', Al', nl', cl', ds', HTD.out.step HWS2.out HRS2.out HFP2.out HON2.out HAT2.out HWK2.out HZ9.out HO9.out HLEN.out⟩)
    go_wp2_with fail
    go_roundw
    case rel => exact ⟨i + 1, by omega, rfl, by go_num, HLX⟩
    case measure => simp [intOf]; omega
  case neg =>
  have HT3 := Lib.hid (show TWx w B g r g2 x (40 + 0) wr from HL.out.more (by omega))
  go_wp2_with fail
  go_loopw [10, 15] (fun ff ii wr => ∃ i : Nat, (i : Int) ≤ n2 ∧ ff = .bool true ∧ ii = .int .i64 (i : Int) ∧ Hid (TWx w B g r g2 x (40 + i) wr)) (fun _ ii _ => n2 - (intOf ii).toNat)
  case atStart => exact ⟨0, by omega, rfl, rfl, HT3⟩
  case round =>
  clear HT3 HL hlt hi hi0
  obtain ⟨i, hi, rfl, rfl, HL⟩ := hrel
  have hi0 : (0 : Int) ≤ i := by omega
  by_cases hlt : (i : Int) < n2
  case pos =>
    obtain ⟨s, s', vb, vl, dsw, Ab, nb, cb, Al, nl, cl, ds, vb', vl', dsw', Ab', nb', cb', Al', nl', cl', ds', htw⟩ := HL.out.swap
    have HTW := Lib.hid htw
    clear htw HL
    have HSB := Lib.hid (show s.b.length ≤ 1990000 by have := HTW.out.l1; omega)
    have HWG := Lib.hid (show ∀ k, WF g2 vb k → w.heap.size ≤ k from fun k hk => Nat.le_trans HBW.out (HTW.out.ws1.ge k (.inl hk)))
    have HWG2 := Lib.hid (show ∀ k, WF g vb' k → w.heap.size ≤ k from fun k hk => Nat.le_trans HBW.out (HTW.out.ws2.ge k (.inl hk)))
    have hi1 : i < acs2.length := by rw [HAL2.out.len]; omega
    obtain ⟨b, o, e0, hat⟩ := HAL2.out.at (by omega)
    have HAT := Lib.hid (fun (W : World) (hb : Below w.heap.size w W) => (hat i hi1).below hb)
    have hrp := HAL2.out.r _ (List.getElem_mem hi1)
    have hpn := HPN2s.out _ (List.getElem_mem hi1)
    clear hat
    generalize acs2[i] = a at *
    have HPD := Lib.hid hrp
    have HPN1 := Lib.hid hpn
    obtain ⟨s2, hs2⟩ : ∃ s2, stepP s a = s2 := ⟨_, rfl⟩
    obtain ⟨last, hlast⟩ : ∃ last, s.last = last := ⟨_, rfl⟩
    subst e0
    have HLEN := Lib.hid (show s2.b.length ≤ (40 + i + 1) * 8206 by have := stepP_len HTW.out.ws1.ok a; rw [hs2] at this; have := HTW.out.l1; omega)
    have hdr : Below wr.heap.size wr wr.drew := below_drew (Below.refl _ _)
    have C20 := Lib.hid (show Calls Try.prog 20 #[.pointer (some ⟨g2, 0, none⟩), .agg #[.slice Ab nb cb, .slice Al nl cl, .int .i64 last], .agg #[.bool a.cl, .int .i64 a.p.t, .int .i64 a.p.f, .slice a.p.A a.p.n a.p.c]] wr.drew (DoU wr.drew B g2 vb vl dsw (WF g vb') s2) from hlast ▸ hs2 ▸ do_any a wr.drew B g2 vb vl dsw s (WF g vb') Ab nb cb Al nl cl ds (HTW.out.ws1.below hdr) (HTW.out.rs1.below hdr) HTW.out.fp1 (fun k h => HTW.out.ws2.lt k (.inl h)) HSB.out (HPD.out.below (below_drew HTW.out.bel)) (fun ad hA h0 hk => by
      have h1 := HPD.out.r.lt h0 hA
      rcases hk with hk | hk
      · have h2 := HWG.out _ hk
        omega
      · have h2 := HWG2.out _ hk
        omega) (by have := HPN1.out; omega))
    unfold DoU at C20
    have HBc := Lib.hid (below_drew HTW.out.bel)
    have HKRc := Lib.hid (show Blk wr.drew x 48 #[.slice Ab nb cb, .slice Al nl cl, .int .i64 last] from (hlast ▸ HTW.out.b1).below hdr HTW.out.b1.lt)
    have HNR := Lib.hid HTW.out.notr
    have HTD := Lib.hid (HTW.out.below hdr)
    clear hrp hpn hs2 hlast hdr
    go_upto_region 23 with fail
    refine wp_region_G (S0 := (fun W => Blk W x 48 #[.slice Ab nb cb, .slice Al nl cl, .int .i64 last] ∧ Below w.heap.size w W)) (S1 := (fun _ => True)) (c := 10) (by kernel_rfl) ?_
    have hHeld := (show (fun W => Blk W x 48 #[.slice Ab nb cb, .slice Al nl cl, .int .i64 last] ∧ Below w.heap.size w W) wr.drew from ⟨HKRc.out, HBc.out⟩)
    have h01 := (fun (W : World) (h : (fun W => Blk W x 48 #[.slice Ab nb cb, .slice Al nl cl, .int .i64 last] ∧ Below w.heap.size w W) W) => trivial)
    refine wpG_take0 (i := 0) (oi := ⟨some 118, _, _, _, _, _⟩) (v := .pointer (some ⟨g2, 0, none⟩)) rfl (by kernel_rfl) (by kernel_rfl) (by kernel_rfl) (by decide) (by kernel_rfl) (fun _ _ _ h => h) rfl hHeld (Or.inl ⟨by rfl, ?_⟩) ?_
    · (intro W9 hSw; obtain ⟨v1, v2⟩ := hSw; have c0 := v1.cell 0; have c1 := v1.cell 1; have c2 := v1.cell 2; simp at c0 c1 c2; obtain ⟨q0, q1, q2, q3⟩ := HAT.out _ v2; go_simp; (try (first | with_reducible rfl | rfl | (simp; done))))
    try simp only [Act.put, List.setIfInBounds_toArray, List.set_cons_zero, List.set_cons_succ]
    refine wpG_take0 (i := 1) (oi := ⟨some 119, _, _, _, _, _⟩) (v := .agg #[.slice Ab nb cb, .slice Al nl cl, .int .i64 last]) rfl (by kernel_rfl) (by kernel_rfl) (by kernel_rfl) (by decide) (by kernel_rfl) (fun _ _ _ h => h) rfl hHeld (Or.inl ⟨by rfl, ?_⟩) ?_
    · (intro W9 hSw; obtain ⟨v1, v2⟩ := hSw; have c0 := v1.cell 0; have c1 := v1.cell 1; have c2 := v1.cell 2; simp at c0 c1 c2; obtain ⟨q0, q1, q2, q3⟩ := HAT.out _ v2; go_simp; (try (first | with_reducible rfl | rfl | (simp; done))))
    try simp only [Act.put, List.setIfInBounds_toArray, List.set_cons_zero, List.set_cons_succ]
    refine wpG_take0 (i := 2) (oi := ⟨some 120, _, _, _, _, _⟩) (v := .slice (some ⟨b, o, none⟩) n2 c2) rfl (by kernel_rfl) (by kernel_rfl) (by kernel_rfl) (by decide) (by kernel_rfl) (fun _ _ _ h => h) rfl hHeld (Or.inl ⟨by rfl, ?_⟩) ?_
    · (intro W9 hSw; obtain ⟨v1, v2⟩ := hSw; have c0 := v1.cell 0; have c1 := v1.cell 1; have c2 := v1.cell 2; simp at c0 c1 c2; obtain ⟨q0, q1, q2, q3⟩ := HAT.out _ v2; go_simp; (try (first | with_reducible rfl | rfl | (simp; done))))
    try simp only [Act.put, List.setIfInBounds_toArray, List.set_cons_zero, List.set_cons_succ]
    refine wpG_take0 (i := 3) (oi := ⟨some 121, _, _, _, _, _⟩) (v := .int .i64 (i : Int)) rfl (by kernel_rfl) (by kernel_rfl) (by kernel_rfl) (by decide) (by kernel_rfl) (fun _ _ _ h => h) rfl hHeld (Or.inl ⟨by rfl, ?_⟩) ?_
    · (intro W9 hSw; obtain ⟨v1, v2⟩ := hSw; have c0 := v1.cell 0; have c1 := v1.cell 1; have c2 := v1.cell 2; simp at c0 c1 c2; obtain ⟨q0, q1, q2, q3⟩ := HAT.out _ v2; go_simp; (try (first | with_reducible rfl | rfl | (simp; done))))
    try simp only [Act.put, List.setIfInBounds_toArray, List.set_cons_zero, List.set_cons_succ]
    refine wpG_take0 (i := 4) (oi := ⟨some 122, _, _, _, _, _⟩) (v := .pointer (some ⟨b, o + i * 4, none⟩)) rfl (by kernel_rfl) (by kernel_rfl) (by kernel_rfl) (by decide) (by kernel_rfl) (fun _ _ _ h => h) rfl hHeld (Or.inl ⟨by rfl, ?_⟩) ?_
    · (intro W9 hSw; obtain ⟨v1, v2⟩ := hSw; have c0 := v1.cell 0; have c1 := v1.cell 1; have c2 := v1.cell 2; simp at c0 c1 c2; obtain ⟨q0, q1, q2, q3⟩ := HAT.out _ v2; go_simp; (try (first | with_reducible rfl | rfl | (simp; done))))
    try simp only [Act.put, List.setIfInBounds_toArray, List.set_cons_zero, List.set_cons_succ]
    refine wpG_take0 (i := 5) (oi := ⟨some 123, _, _, _, _, _⟩) (v := .agg #[.bool a.cl, .int .i64 a.p.t, .int .i64 a.p.f, .slice a.p.A a.p.n a.p.c]) rfl (by kernel_rfl) (by kernel_rfl) (by kernel_rfl) (by decide) (by kernel_rfl) (fun _ _ _ h => h) rfl hHeld (Or.inl ⟨by rfl, ?_⟩) ?_
    · (intro W9 hSw; obtain ⟨v1, v2⟩ := hSw; have c0 := v1.cell 0; have c1 := v1.cell 1; have c2 := v1.cell 2; simp at c0 c1 c2; obtain ⟨q0, q1, q2, q3⟩ := HAT.out _ v2; go_simp; (try (first | with_reducible rfl | rfl | (simp; done))))
    try simp only [Act.put, List.setIfInBounds_toArray, List.set_cons_zero, List.set_cons_succ]
    refine wpG_oneA (i := 6) (o := ⟨some 124, _, _, _, _, _⟩) (by kernel_rfl) rfl rfl (fun K hK => ?_)
    go_simp
    (with_reducible refine C20.out.mono ?_); rintro e w20 ⟨vb2, vl2, dsw2, Ab2, nb2, cb2, Al2, nl2, cl2, ds2, rfl, hws, hrs, hfp, hon, hat, hwk⟩
    have HWS2 := Lib.hid hws
    have HRS2 := Lib.hid hrs
    have HFP2 := Lib.hid hfp
    have HON2 := Lib.hid hon
    have HAT2 := Lib.hid hat
    have HWK2 := Lib.hid hwk
    have HKRc := Lib.hid (HKRc.out.only hon HNR.out)
    have HBc := Lib.hid (HBc.out.trans (hon.to_below HBc.out.size fun k hk h => by have := HWG.out k h; omega))
    clear hws hrs hfp hon hat hwk
    refine hK.out _ _ ⟨HKRc.out, HBc.out⟩ (fun hHeld => ?_)
    clear hK K
    try simp only [Act.put, List.setIfInBounds_toArray, List.set_cons_zero, List.set_cons_succ]
    refine wpG_take0 (i := 7) (oi := ⟨some 117, _, _, _, _, _⟩) (v := .tuple #[.agg #[.slice Ab2 nb2 cb2, .slice Al2 nl2 cl2, .int .i64 s2.last], .bool true]) rfl (by kernel_rfl) (by kernel_rfl) (by kernel_rfl) (by decide) (by kernel_rfl) (fun _ _ _ h => h) rfl hHeld (Or.inl ⟨by rfl, ?_⟩) ?_
    · (intro W9 hSw; obtain ⟨v1, v2⟩ := hSw; have c0 := v1.cell 0; have c1 := v1.cell 1; have c2 := v1.cell 2; simp at c0 c1 c2; obtain ⟨q0, q1, q2, q3⟩ := HAT.out _ v2; go_simp; (try (first | with_reducible rfl | rfl | (simp; done))))
    try simp only [Act.put, List.setIfInBounds_toArray, List.set_cons_zero, List.set_cons_succ]
    refine wpG_take0 (i := 8) (oi := ⟨some 125, _, _, _, _, _⟩) (v := .agg #[.slice Ab2 nb2 cb2, .slice Al2 nl2 cl2, .int .i64 s2.last]) rfl (by kernel_rfl) (by kernel_rfl) (by kernel_rfl) (by decide) (by kernel_rfl) (fun _ _ _ h => h) rfl hHeld (Or.inl ⟨by rfl, ?_⟩) ?_
    · (intro W9 hSw; obtain ⟨v1, v2⟩ := hSw; have c0 := v1.cell 0; have c1 := v1.cell 1; have c2 := v1.cell 2; simp at c0 c1 c2; obtain ⟨q0, q1, q2, q3⟩ := HAT.out _ v2; go_simp; (try (first | with_reducible rfl | rfl | (simp; done))))
    try simp only [Act.put, List.setIfInBounds_toArray, List.set_cons_zero, List.set_cons_succ]
    refine wpG_takeA (i := 9) (oi := ⟨some 126, _, _, _, _, _⟩) (v := .bool true) rfl (by kernel_rfl) (by kernel_rfl) (by kernel_rfl) (by decide) (fun _ _ _ h => h) h01 rfl hHeld (Or.inl ⟨by rfl, ?_⟩) ?_
    · (intro W9 hSw; go_simp; (try (first | with_reducible rfl | rfl | (simp; done))))
    try simp only [Act.put, List.setIfInBounds_toArray, List.set_cons_zero, List.set_cons_succ]
    refine wpG_oneB (i := 10) (o := ⟨none, _, _, _, _, _⟩) (by kernel_rfl) rfl rfl (fun K hK => ?_)
    have z0 := HKRc.out.cell 0
    have z1 := HKRc.out.cell 1
    have z2 := HKRc.out.cell 2
    simp at z0 z1 z2
    have f0 := HKRc.out.frozen 0
    have f1 := HKRc.out.frozen 1
    have f2 := HKRc.out.frozen 2
    go_simp
    clear z0 z1 z2 f0 f1 f2
    obtain ⟨hz9, ho9⟩ := st3 (x := .slice Ab2 nb2 cb2) (y := .slice Al2 nl2 cl2) (z := .int .i64 s2.last) HKRc.out
    obtain ⟨w30, hw30⟩ : ∃ w30, ((w20.setCell ⟨x, 0, none⟩ (.slice Ab2 nb2 cb2)).setCell ⟨x, 1, none⟩ (.slice Al2 nl2 cl2)).setCell ⟨x, 2, none⟩ (.int .i64 s2.last) = w30 := ⟨_, rfl⟩
    rw [hw30] at hz9 ho9 ⊢
    have HZ9 := Lib.hid hz9
    have HO9 := Lib.hid ho9
    clear hz9 ho9 hw30
    refine hK.out _ _ trivial (fun hHeld => ?_)
    clear hK K
    try simp only [Act.put, List.setIfInBounds_toArray, List.set_cons_zero, List.set_cons_succ]
    refine wpG_takeB (i := 11) (oi := ⟨some 10, _, _, _, _, _⟩) (v := .bool true) rfl (by kernel_rfl) (by kernel_rfl) (by kernel_rfl) (by decide) (fun _ _ _ h => h) h01 rfl hHeld (Or.inl ⟨by rfl, ?_⟩) ?_
    · (intro W9 hSw; go_simp; (try (first | with_reducible rfl | rfl | (simp; done))))
    try simp only [Act.put, List.setIfInBounds_toArray, List.set_cons_zero, List.set_cons_succ]
    refine wpG_done (by kernel_rfl) ?_ _
    have HLX : Hid (TWx w B g r g2 x (40 + (i + 1)) w30) := Lib.hid (show TWx w B g2 x g r (40 + i + 1) w30 from ⟨s2, s', vb2, vl2, dsw2, Ab2, nb2, cb2, Al2, nl2, cl2, ds2, vb', vl', dsw', Ab', nb', cb', Al', nl', cl', ds', HTD.out.step HWS2.out HRS2.out HFP2.out HON2.out HAT2.out HWK2.out HZ9.out HO9.out HLEN.out⟩).swap
    go_wp2_with fail
    go_roundw
    case rel => exact ⟨i + 1, by omega, rfl, by go_num, HLX⟩
    case measure => simp [intOf]; omega
  case neg =>
  obtain ⟨w6, rfl⟩ : ∃ w6 : World, w6 = wr := ⟨_, rfl⟩
  obtain ⟨s, s', vb, vl, dsw, Ab, nb, cb, Al, nl, cl, ds, vb', vl', dsw', Ab', nb', cb', Al', nl', cl', ds', htw⟩ := HL.out
  have HTW := Lib.hid htw
  obtain ⟨last, hlast⟩ : ∃ last, s.last = last := ⟨_, rfl⟩
  obtain ⟨last', hlast'⟩ : ∃ last', s'.last = last' := ⟨_, rfl⟩
  have HI40 := Lib.hid (show i ≤ 20 by omega)
  have hpd : ∀ W : World, PdR W ⟨0, 0, none, 0, 0, []⟩ := fun W => ⟨by show (-9223372036854775808 : Int) ≤ 0; decide, by show (0 : Int) < _; decide, by show (-9223372036854775808 : Int) ≤ 0; decide, by show (0 : Int) < _; decide, RB.nil _⟩
  have C20 := do_any ⟨true, ⟨0, 0, none, 0, 0, []⟩⟩ w6 B g vb vl dsw s (WF g2 vb') Ab nb cb Al nl cl ds htw.ws1 htw.rs1 htw.fp1 (fun k h => htw.ws2.lt k (.inl h)) (by have := htw.l1; have := HI40.out; omega) (hpd _) (fun ad hA => by cases hA) (by show 0 ≤ 30000; omega)
  unfold DoU at C20
  obtain ⟨s2, hs2⟩ : ∃ s2, stepP s ⟨true, ⟨0, 0, none, 0, 0, []⟩⟩ = s2 := ⟨_, rfl⟩
  rw [hs2, hlast] at C20
  have C20 := Lib.hid (show Calls Try.prog 20 #[.pointer (some ⟨g, 0, none⟩), .agg #[.slice Ab nb cb, .slice Al nl cl, .int .i64 last], .agg #[.bool true, .int .i64 0, .int .i64 0, .slice none 0 0]] w6 _ from C20)
  have hkr := htw.b1
  rw [hlast] at hkr
  have k0 := hkr.cell 0
  have k1 := hkr.cell 1
  have k2 := hkr.cell 2
  simp at k0 k1 k2
  have HPD0 := Lib.hid hpd
  have HLL := Lib.hid hlast'
  have HWG := Lib.hid (show ∀ k, WF g vb k → w.heap.size ≤ k from fun k hk => Nat.le_trans HBW.out (htw.ws1.ge k (.inl hk)))
  have HWG2 := Lib.hid (show ∀ k, WF g2 vb' k → w.heap.size ≤ k from fun k hk => Nat.le_trans HBW.out (htw.ws2.ge k (.inl hk)))
  clear hkr hs2 hlast hlast' htw HL hpd
  go_upto_region 27 with (go_at_call 20; (with_reducible refine C20.out.mono ?_); rintro e w40 ⟨vb2, vl2, dsw2, Ab2, nb2, cb2, Al2, nl2, cl2, ds2, rfl, hws, hrs, hfp, hon, hat, hwk⟩; have HON := Lib.hid hon; have HAT := Lib.hid hat; clear hws hrs hfp hon hat hwk k0 k1 k2)
  obtain ⟨w41, hw41⟩ : ∃ w41, w40.alloc (.cells #[.slice Ab2 nb2 cb2, .slice Al2 nl2 cl2, .int .i64 s2.last] 48) = w41 := ⟨_, rfl⟩
  have hb41 : Below w40.heap.size w40 w41 := hw41 ▸ (Below.refl _ w40).alloc (Nat.le_refl _) _
  have hbw : Below w.heap.size w w40 := HTW.out.bel.trans (HON.out.to_below HTW.out.bel.size fun k hk h => by have := HWG.out k h; omega)
  have HB41 := Lib.hid (hbw.trans (hb41.mono hbw.size))
  have hkx := (HTW.out.b2.only HON.out HTW.out.notx)
  have hkx := hkx.below hb41 hkx.lt
  have C20 := do_any ⟨true, ⟨0, 0, none, 0, 0, []⟩⟩ w41 B g2 vb' vl' dsw' s' (fun _ => False) Ab' nb' cb' Al' nl' cl' ds' ((HTW.out.ws2.only HON.out fun k hk h1 => HTW.out.sep12 k h1 hk).below hb41) ((HTW.out.rs2.only HTW.out.fp2 HON.out fun k hk _ => .inr hk).below hb41) (HTW.out.fp2.imp HTW.out.rs2 fun k hk h => by
    rcases h with h | h
    · exact .inl h
    · exact h.elim) (fun k h => h.elim) (by have := HTW.out.l2; have := HI40.out; omega) (HPD0.out _) (fun ad hA => by cases hA) (by show 0 ≤ 30000; omega)
  unfold DoU at C20
  obtain ⟨s3, hs3⟩ : ∃ s3, stepP s' ⟨true, ⟨0, 0, none, 0, 0, []⟩⟩ = s3 := ⟨_, rfl⟩
  rw [hs3, HLL.out] at C20
  rw [HLL.out] at hkx
  have C20 := Lib.hid (show Calls Try.prog 20 #[.pointer (some ⟨g2, 0, none⟩), .agg #[.slice Ab' nb' cb', .slice Al' nl' cl', .int .i64 last'], .agg #[.bool true, .int .i64 0, .int .i64 0, .slice none 0 0]] w41 _ from C20)
  have k0 := hkx.cell 0
  have k1 := hkx.cell 1
  have k2 := hkx.cell 2
  simp at k0 k1 k2
  rw [hw41]
  clear hkx hs3 hbw hb41 hw41
  go_wp2_with (first | (go_at_call 20; (with_reducible refine C20.out.mono ?_); rintro e w42 ⟨vb3, vl3, dsw3, Ab3, nb3, cb3, Al3, nl3, cl3, ds3, rfl, hws, hrs, hfp, hon, hat, hwk⟩; have HB42 := Lib.hid (HB41.out.trans (hon.to_below HB41.out.size fun k hk h => by have := HWG2.out k h; omega)); clear hws hrs hfp hon hat hwk k0 k1 k2) | (go_at_call 10; (with_reducible refine (K.out _).mono ?_); rintro e w43 ⟨rfl, b6⟩; have HB43 := Lib.hid b6; clear b6))
  go_ret
  have hb7 := HB42.out.alloc HB42.out.size (.cells #[.slice Ab3 nb3 cb3, .slice Al3 nl3 cl3, .int .i64 s3.last] 48)
  exact ⟨rfl, hb7.trans (HB43.out.mono hb7.size)⟩
end Go.Proofs.Ytgbkoegmoelheaa
