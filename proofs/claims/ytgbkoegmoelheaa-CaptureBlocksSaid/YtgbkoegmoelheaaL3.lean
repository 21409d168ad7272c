/- The walk of CaptureBlocks. -/
import Derived.Test.YtgbkoegmoelheaaEa
import Derived.Deep.CutRange
namespace Go.Proofs.Ytgbkoegmoelheaa
open Go.RowKit
set_option linter.unusedVariables false
set_option linter.unusedSimpArgs false

/-- What Block returns, either way. -/
def BlkR (w : World) (ps : List Pd) (A : Option Addr) (n c : Nat) (k : Int) (w' : World) : Prop :=
  (badAt ps = false ∧ fitsP (pks ps) = true ∧ k = 0 ∧ n = (encB (pks ps)).length ∧ w'.ownsRow w.heap.size 5 1 (.slice A n c) n ((encB (pks ps)).map Go.Proofs.Ytgbkoegmoelheaa.u8)) ∨
  ((badAt ps = true ∨ fitsP (pks ps) = false) ∧ k = 2 ∧ A = none ∧ n = 0 ∧ c = 0)
theorem block11_any (A : Option Addr) (n c : Nat) (ps : List Pd) (w : World) (h : PL w A n c ps) (hn : n ≤ 200) (hm : ∀ p ∈ ps, p.n ≤ 30000) :
    Calls Try.prog 11 #[.slice A n c] w fun e w' => ∃ A2 n2 c2 k, e = .returned (.tuple #[.slice A2 n2 c2, .int .i64 k]) ∧ Below w.heap.size w w' ∧ BlkR w ps A2 n2 c2 k w' := by
  cases hb : badAt ps with
  | true => exact (blockB_no A n c ps w h hn hm (.inl hb)).mono fun e w' hh => ⟨none, 0, 0, 2, hh.1, hh.2, .inr ⟨.inl hb, rfl, rfl, rfl, rfl⟩⟩
  | false =>
    cases hf : fitsP (pks ps) with
    | false => exact (blockB_no A n c ps w h hn hm (.inr hf)).mono fun e w' hh => ⟨none, 0, 0, 2, hh.1, hh.2, .inr ⟨.inr hf, rfl, rfl, rfl, rfl⟩⟩
    | true =>
      refine (blockB_yes A n c ps w h hb hf).mono fun e w' ⟨v, h1, h2, h3⟩ => ?_
      obtain ⟨A2, c2, rfl, -⟩ := own_form h2
      exact ⟨A2, _, c2, 0, h1, h3, .inl ⟨hb, hf, rfl, rfl, h2⟩⟩

set_option maxRecDepth 100000 in
set_option maxHeartbeats 8000000 in
theorem blocks_law (A : Option Addr) (n c : Nat) (ps : List Pd) (A1 : Option Addr) (n1 c1 : Nat) (l1 : List UInt8) (w : World) (h0 : PL w A n c ps ∧ c * 40 ≤ 140737488355328) (hl : l1.length = n1) (hc : n1 ≤ c1) (hm : c1 ≤ maxLen) (hw : BS w w.heap.size A1 l1) (hz : A1 = none → c1 = 0) :
    Calls Try.prog 3 #[.slice A n c, .slice A1 n1 c1] w fun e w' => e = .returned (.bool true) ∧ Below w.heap.size w w' := by
  have hR : RB w A1 n1 c1 l1 := ⟨hl, hw.holds hl, hc, hm, hz⟩
  have HR := Lib.hid hR
  have HPL := Lib.hid h0.1
  have hn00 : n ≤ 140737488355328 := by have := h0.1.mc; have := h0.2; omega
  have hn1 : (n1 : Int) ≤ 9223372036854775807 := by unfold maxLen at hm; omega
  have hn0 : (n : Int) ≤ 140737488355328 := by omega
  have K := Lib.hid known_any
  have C9 := Lib.hid (few_any A n c ps 70 w HPL.out hn00 (by omega) (by omega))
  obtain ⟨F, hF⟩ : ∃ F, fewB 70 (pks ps) = F := ⟨_, rfl⟩
  rw [hF] at C9
  have HFW := Lib.hid hF
  clear hl hc hm hw hz hR h0 hF hn00
  cases F with
  | false =>
    go_enter Try.func3, Try.ntmps3
    go_wp2_with (first | (go_at_call 9; (with_reducible refine C9.out.mono ?_); rintro e w1 ⟨rfl, hb⟩; have HB := Lib.hid hb; clear hb) | (go_at_call 10; (with_reducible refine (K.out _).mono ?_); rintro e w2 ⟨rfl, hb⟩; have HB2 := Lib.hid (HB.out.trans (hb.mono HB.out.size)); clear hb))
    go_ret
    exact ⟨rfl, HB2.out⟩
  | true =>
  by_cases h20 : 20 < (n1 : Int)
  · have q0 : decide (20 < (n1 : Int)) = true := decide_eq_true h20
    go_enter Try.func3, Try.ntmps3
    go_wp2_with (first | (go_at_call 9; (with_reducible refine C9.out.mono ?_); rintro e w1 ⟨rfl, hb⟩; have HB := Lib.hid hb; clear hb) | (go_at_call 10; (with_reducible refine (K.out _).mono ?_); rintro e w2 ⟨rfl, hb⟩; have HB2 := Lib.hid (HB.out.trans (hb.mono HB.out.size)); clear hb))
    go_ret
    exact ⟨rfl, HB2.out⟩
  have q0 : decide (20 < (n1 : Int)) = false := decide_eq_false h20
  have hfw := fewB_iff.1 HFW.out
  have hplen : (pks ps).length = n := by unfold pks; rw [List.length_map]; exact HPL.out.len
  have HPN := Lib.hid (show ∀ p ∈ ps, p.n ≤ 5000 from fun p hp => by
    have h1 := hfw.1 p.pk (List.mem_map.2 ⟨p, hp, rfl⟩)
    have h2 := (HPL.out.r p hp).r.len
    have h3 : p.pk.d.length = p.n := h2
    omega)
  have HN := Lib.hid (show n ≤ 70 by have := hfw.2.1; rw [hplen] at this; omega)
  have HN1 := Lib.hid (show n1 ≤ 20 by omega)
  clear hfw hplen hn0
  have hn0 : (n : Int) ≤ 70 := by have := HN.out; omega
  have C11 := Lib.hid (fun (W : World) (hb : Below w.heap.size w W) => block11_any A n c ps W (HPL.out.below hb) (by have := HN.out; omega) (fun p hp => by have := HPN.out p hp; omega))
  go_enter Try.func3, Try.ntmps3
  go_wp2_with (first | (go_at_call 9; (with_reducible refine C9.out.mono ?_); rintro e w1 ⟨rfl, hb⟩; have HB := Lib.hid hb; clear hb) | (go_at_call 11; (with_reducible refine (C11.out _ HB.out).mono ?_); rintro e w2 ⟨A2, m, c2, k, rfl, hb, hr⟩; have HB2 := Lib.hid (HB.out.trans (hb.mono HB.out.size)); have HRES := Lib.hid hr; have HSZ := Lib.hid HB.out.size; clear hb hr))
  go_loopw [7, 8] (fun ff ii wr => ∃ i : Nat, (i : Int) ≤ n ∧ ii = .int .i64 (i : Int) ∧ ff = .bool ((pks (ps.take i)).all validP) ∧ Hid (Below w.heap.size w wr) ∧ Hid (Below w2.heap.size w2 wr)) (fun _ ii _ => n - (intOf ii).toNat)
  case atStart => exact ⟨0, by omega, rfl, rfl, HB2, Lib.hid (Below.refl _ _)⟩
  case round =>
  obtain ⟨i, hi, rfl, rfl, HBw, HB1w⟩ := hrel
  have hi0 : (0 : Int) ≤ i := by omega
  by_cases hlt : (i : Int) < n
  case pos =>
    have hi1 : i < ps.length := by rw [HPL.out.len]; omega
    obtain ⟨b, o, rfl, hat⟩ := HPL.out.at (by omega)
    have HAT := Lib.hid (fun (W : World) (hb : Below w.heap.size w W) => (hat i hi1).below hb)
    have hrp := HPL.out.r _ (List.getElem_mem hi1)
    have hpn := HPN.out _ (List.getElem_mem hi1)
    have HNX := Lib.hid (show (pks (ps.take (i + 1))).all validP = ((pks (ps.take i)).all validP && validP (ps[i]).pk) by
      have e : ps.take (i + 1) = ps.take i ++ [ps[i]] := List.take_succ_eq_append_getElem hi1
      rw [e, pks, pks, List.map_append, List.all_append]
      show _ = _
      simp only [List.map_cons, List.map_nil, List.all_cons, List.all_nil, Bool.and_true])
    clear hat
    generalize ps[i] = p at *
    have HLN := Lib.hid hrp.r.len
    have C12 := Lib.hid (fun (W : World) (_ : Below w.heap.size w W) => (show Calls Try.prog 12 #[.agg #[.int .i64 p.t, .int .i64 p.f, .slice p.A p.n p.c]] W fun e w' => e = .returned (.bool (validP p.pk)) ∧ Below W.heap.size W w' from valid_any p W HLN.out (by omega)))
    have C13 := Lib.hid (fun (W : World) (_ : Below w.heap.size w W) => (show Calls Try.prog 13 #[.agg #[.int .i64 p.t, .int .i64 p.f, .slice p.A p.n p.c]] W fun e w' => e = .returned (.bool (validP p.pk)) ∧ Below W.heap.size W w' from rvalid_any p.t p.f p.A p.n p.c p.d W HLN.out (by omega)))
    obtain ⟨V, hV⟩ : ∃ V, validP p.pk = V := ⟨_, rfl⟩
    obtain ⟨Fi, hFi⟩ : ∃ Fi, (pks (ps.take i)).all validP = Fi := ⟨_, rfl⟩
    rw [hV] at C12 C13 HNX
    rw [hFi] at HNX ⊢
    have ht1 := hrp.t1
    have ht2 := hrp.t2
    have hf1 := hrp.f1
    have hf2 := hrp.f2
    clear hV hFi hrp
    obtain ⟨f0, f1, f2⟩ := HAT.out _ HBw.out
    go_upto_region 8 with fail
    have HBc := Lib.hid (below_drew HBw.out)
    have HB1c := Lib.hid (below_drew HB1w.out)
    clear f0 f1 f2
    refine wp_region_G (S0 := (fun W => Below w.heap.size w W)) (S1 := (fun W => Below w.heap.size w W)) (c := 99) (by kernel_rfl) ?_
    have hHeld := HBc.out
    have h01 := (fun (W : World) (h : (fun W => Below w.heap.size w W) W) => h)
    refine wpG_takeB (i := 0) (oi := ⟨some 32, _, _, _, _, _⟩) (v := .slice (some ⟨b, o, none⟩) n c) rfl (by kernel_rfl) (by kernel_rfl) (by kernel_rfl) (by decide) (fun _ _ _ h => h) h01 rfl hHeld (Or.inl ⟨by rfl, ?_⟩) ?_
    · (intro W9 hSw; obtain ⟨f0, f1, f2⟩ := HAT.out _ hSw; go_simp; (try (first | with_reducible rfl | rfl | (simp; done))))
    try simp only [Act.put, List.setIfInBounds_toArray, List.set_cons_zero, List.set_cons_succ]
    refine wpG_takeB (i := 1) (oi := ⟨some 33, _, _, _, _, _⟩) (v := .int .i64 (i : Int)) rfl (by kernel_rfl) (by kernel_rfl) (by kernel_rfl) (by decide) (fun _ _ _ h => h) h01 rfl hHeld (Or.inl ⟨by rfl, ?_⟩) ?_
    · (intro W9 hSw; obtain ⟨f0, f1, f2⟩ := HAT.out _ hSw; go_simp; (try (first | with_reducible rfl | rfl | (simp; done))))
    try simp only [Act.put, List.setIfInBounds_toArray, List.set_cons_zero, List.set_cons_succ]
    refine wpG_takeB (i := 2) (oi := ⟨some 34, _, _, _, _, _⟩) (v := .pointer (some ⟨b, o + i * 3, none⟩)) rfl (by kernel_rfl) (by kernel_rfl) (by kernel_rfl) (by decide) (fun _ _ _ h => h) h01 rfl hHeld (Or.inl ⟨by rfl, ?_⟩) ?_
    · (intro W9 hSw; obtain ⟨f0, f1, f2⟩ := HAT.out _ hSw; go_simp; (try (first | with_reducible rfl | rfl | (simp; done))))
    try simp only [Act.put, List.setIfInBounds_toArray, List.set_cons_zero, List.set_cons_succ]
    refine wpG_takeB (i := 3) (oi := ⟨some 35, _, _, _, _, _⟩) (v := .agg #[.int .i64 p.t, .int .i64 p.f, .slice p.A p.n p.c]) rfl (by kernel_rfl) (by kernel_rfl) (by kernel_rfl) (by decide) (fun _ _ _ h => h) h01 rfl hHeld (Or.inl ⟨by rfl, ?_⟩) ?_
    · (intro W9 hSw; obtain ⟨f0, f1, f2⟩ := HAT.out _ hSw; go_simp; (try (first | with_reducible rfl | rfl | (simp; done))))
    try simp only [Act.put, List.setIfInBounds_toArray, List.set_cons_zero, List.set_cons_succ]
    refine wpG_takeB (i := 5) (oi := ⟨some 37, _, _, _, _, _⟩) (v := .slice (some ⟨b, o, none⟩) n c) rfl (by kernel_rfl) (by kernel_rfl) (by kernel_rfl) (by decide) (fun _ _ _ h => h) h01 rfl hHeld (Or.inl ⟨by rfl, ?_⟩) ?_
    · (intro W9 hSw; obtain ⟨f0, f1, f2⟩ := HAT.out _ hSw; go_simp; (try (first | with_reducible rfl | rfl | (simp; done))))
    try simp only [Act.put, List.setIfInBounds_toArray, List.set_cons_zero, List.set_cons_succ]
    refine wpG_takeB (i := 6) (oi := ⟨some 38, _, _, _, _, _⟩) (v := .int .i64 (i : Int)) rfl (by kernel_rfl) (by kernel_rfl) (by kernel_rfl) (by decide) (fun _ _ _ h => h) h01 rfl hHeld (Or.inl ⟨by rfl, ?_⟩) ?_
    · (intro W9 hSw; obtain ⟨f0, f1, f2⟩ := HAT.out _ hSw; go_simp; (try (first | with_reducible rfl | rfl | (simp; done))))
    try simp only [Act.put, List.setIfInBounds_toArray, List.set_cons_zero, List.set_cons_succ]
    refine wpG_takeB (i := 7) (oi := ⟨some 39, _, _, _, _, _⟩) (v := .pointer (some ⟨b, o + i * 3, none⟩)) rfl (by kernel_rfl) (by kernel_rfl) (by kernel_rfl) (by decide) (fun _ _ _ h => h) h01 rfl hHeld (Or.inl ⟨by rfl, ?_⟩) ?_
    · (intro W9 hSw; obtain ⟨f0, f1, f2⟩ := HAT.out _ hSw; go_simp; (try (first | with_reducible rfl | rfl | (simp; done))))
    try simp only [Act.put, List.setIfInBounds_toArray, List.set_cons_zero, List.set_cons_succ]
    refine wpG_takeB (i := 8) (oi := ⟨some 40, _, _, _, _, _⟩) (v := .agg #[.int .i64 p.t, .int .i64 p.f, .slice p.A p.n p.c]) rfl (by kernel_rfl) (by kernel_rfl) (by kernel_rfl) (by decide) (fun _ _ _ h => h) h01 rfl hHeld (Or.inl ⟨by rfl, ?_⟩) ?_
    · (intro W9 hSw; obtain ⟨f0, f1, f2⟩ := HAT.out _ hSw; go_simp; (try (first | with_reducible rfl | rfl | (simp; done))))
    try simp only [Act.put, List.setIfInBounds_toArray, List.set_cons_zero, List.set_cons_succ]
    refine wpG_oneB (i := 4) (o := ⟨some 36, _, _, _, _, _⟩) (by kernel_rfl) rfl rfl (fun K hK => ?_)
    go_simp
    (with_reducible refine (C12.out _ HBc.out).mono ?_); rintro e w9 ⟨rfl, b9⟩
    have HB1c := Lib.hid (HB1c.out.trans (b9.mono HB1c.out.size))
    have HBc := Lib.hid (HBc.out.trans (b9.mono HBc.out.size))
    clear b9
    refine hK.out _ _ HBc.out (fun hHeld => ?_)
    clear hK K
    try simp only [Act.put, List.setIfInBounds_toArray, List.set_cons_zero, List.set_cons_succ]
    refine wpG_oneB (i := 9) (o := ⟨some 41, _, _, _, _, _⟩) (by kernel_rfl) rfl rfl (fun K hK => ?_)
    go_simp
    (with_reducible refine (C13.out _ HBc.out).mono ?_); rintro e w9 ⟨rfl, b9⟩
    have HB1c := Lib.hid (HB1c.out.trans (b9.mono HB1c.out.size))
    have HBc := Lib.hid (HBc.out.trans (b9.mono HBc.out.size))
    clear b9
    refine hK.out _ _ HBc.out (fun hHeld => ?_)
    clear hK K
    try simp only [Act.put, List.setIfInBounds_toArray, List.set_cons_zero, List.set_cons_succ]
    refine wpG_takeB (i := 10) (oi := ⟨some 42, _, _, _, _, _⟩) (v := .bool (V != V)) rfl (by kernel_rfl) (by kernel_rfl) (by kernel_rfl) (by decide) (fun _ _ _ h => h) h01 rfl hHeld (Or.inl ⟨by rfl, ?_⟩) ?_
    · (intro W9 hSw; obtain ⟨f0, f1, f2⟩ := HAT.out _ hSw; go_simp; (try (first | with_reducible rfl | rfl | (simp; done))))
    try simp only [Act.put, List.setIfInBounds_toArray, List.set_cons_zero, List.set_cons_succ]
    refine wpG_done (by kernel_rfl) ?_ _
    have qv : (V != V) = false := by simp
    rw [qv]
    obtain ⟨f0, f1, f2⟩ := HAT.out _ HBc.out
    cases Fi with
    | false =>
      go_wp2_with fail
      go_roundw
      case rel => exact ⟨i + 1, by omega, by go_num, by rw [HNX.out]; rfl, HBc, HB1c⟩
      case measure => simp [intOf]; omega
    | true =>
      go_wp2_with (go_at_call 13; (with_reducible refine (C13.out _ HBc.out).mono ?_); rintro e w10 ⟨rfl, b10⟩; have HB1d := Lib.hid (HB1c.out.trans (b10.mono HB1c.out.size)); have HBd := Lib.hid (HBc.out.trans (b10.mono HBc.out.size)); clear b10)
      go_roundw
      case rel => exact ⟨i + 1, by omega, by go_num, by rw [HNX.out]; rfl, HBd, HB1d⟩
      case measure => simp [intOf]; omega
  case neg =>
  have HLE := Lib.hid (show ps.take i = ps by rw [List.take_of_length_le]; rw [HPL.out.len]; omega)
  rw [HLE.out]
  obtain ⟨w4, rfl⟩ : ∃ w4 : World, w4 = wr := ⟨_, rfl⟩
  have C14 := Lib.hid (rfits_any A n c ps w4 (HPL.out.below HBw.out) (by have := HN.out; omega) (fun p hp => by have := HPN.out p hp; omega))
  clear HLE
  rcases HRES.out with ⟨hbad, hfit, rfl, hmm, hown⟩ | ⟨hbad, rfl, rfl, rfl, rfl⟩
  · have hall : (pks ps).all validP = true := by
      rw [List.all_eq_true]
      intro q hq
      obtain ⟨p, hp, rfl⟩ := List.mem_map.1 hq
      exact badAt_false hbad p hp
    have HALL := Lib.hid (List.all_eq_true.1 hall)
    rw [hall]
    rw [hfit] at C14
    have HFIT := Lib.hid hfit
    have HBAD := Lib.hid hbad
    have HMM := Lib.hid hmm
    have HM8 := Lib.hid (show m ≤ 8206 by rw [hmm]; exact encB_le hfit)
    have hm0 : (m : Int) ≤ 8206 := by have := HM8.out; omega
    have HEL := Lib.hid (show m = ((encB (pks ps)).map Go.Proofs.Ytgbkoegmoelheaa.u8).length by rw [List.length_map]; exact hmm)
    have HOW := Lib.hid (fun (W : World) (hb : Below w2.heap.size w2 W) => own_base (own_keeps hown fun g hg => hb.block g (own_lt hown g hg)) HSZ.out)
    clear hall hfit hbad hmm hown HRES
    go_upto_region 13 with (go_at_call 14; (with_reducible refine C14.out.mono ?_); rintro e w5 ⟨rfl, b5⟩; have HB5 := Lib.hid (HBw.out.trans (b5.mono HBw.out.size)); have HB15 := Lib.hid (HB1w.out.trans (b5.mono HB1w.out.size)); clear b5)
    have HDE := Lib.hid (dec_encB (pks ps) l1 HALL.out HFIT.out)
    have C15 := Lib.hid (show Calls Try.prog 15 #[.slice A n c] w5.drew fun e w' => ∃ A6 c6, e = .returned (.slice A6 m c6) ∧ w'.ownsRow w5.drew.heap.size 5 1 (.slice A6 m c6) m ((encB (pks ps)).map Go.Proofs.Ytgbkoegmoelheaa.u8) ∧ Below w5.drew.heap.size w5.drew w' from
      (rblock_any A n c ps w5.drew (HPL.out.below (below_drew HB5.out)) HBAD.out HFIT.out).mono fun e w' ⟨v, h1, h2, h3⟩ => by
        rw [← HMM.out] at h2
        obtain ⟨A6, c6, rfl, -⟩ := own_form h2
        exact ⟨A6, c6, h1, h2, h3⟩)
    have HCV := Lib.hid (fun (W : World) (hb : Below w5.heap.size w5 W) => conv_RB (own_RB3 (HOW.out _ (HB15.out.trans (hb.mono HB15.out.size)))))
    obtain ⟨St, hSt⟩ : ∃ St : ByteArray, (⟨(encB (pks ps)).toArray⟩ : ByteArray) = St := ⟨_, rfl⟩
    have HST := Lib.hid hSt
    rw [hSt] at HCV
    clear hSt
    refine wp_region_G (S0 := (fun W => Below w5.heap.size w5 W)) (S1 := (fun W => Below w5.heap.size w5 W)) (c := 99) (by kernel_rfl) ?_
    have hHeld := (show Below w5.heap.size w5 w5.drew from below_drew (Below.refl w5.heap.size w5))
    have h01 := (fun (W : World) (h : (fun W => Below w5.heap.size w5 W) W) => h)
    refine wpG_takeB (i := 0) (oi := ⟨some 68, _, _, _, _, _⟩) (v := .int .i64 0) rfl (by kernel_rfl) (by kernel_rfl) (by kernel_rfl) (by decide) (fun _ _ _ h => h) h01 rfl hHeld (Or.inl ⟨by rfl, ?_⟩) ?_
    · (intro W9 hSw; have s5 := HCV.out _ hSw; go_simp; (try (first | with_reducible rfl | rfl | (simp; done))))
    try simp only [Act.put, List.setIfInBounds_toArray, List.set_cons_zero, List.set_cons_succ]
    refine wpG_takeB (i := 1) (oi := ⟨some 69, _, _, _, _, _⟩) (v := .bool false) rfl (by kernel_rfl) (by kernel_rfl) (by kernel_rfl) (by decide) (fun _ _ _ h => h) h01 rfl hHeld (Or.inl ⟨by rfl, ?_⟩) ?_
    · (intro W9 hSw; have s5 := HCV.out _ hSw; go_simp; (try (first | with_reducible rfl | rfl | (simp; done))))
    try simp only [Act.put, List.setIfInBounds_toArray, List.set_cons_zero, List.set_cons_succ]
    refine wpG_takeB (i := 2) (oi := ⟨some 70, _, _, _, _, _⟩) (v := .bool false) rfl (by kernel_rfl) (by kernel_rfl) (by kernel_rfl) (by decide) (fun _ _ _ h => h) h01 rfl hHeld (Or.inl ⟨by rfl, ?_⟩) ?_
    · (intro W9 hSw; have s5 := HCV.out _ hSw; go_simp; (try (first | with_reducible rfl | rfl | (simp; done))))
    try simp only [Act.put, List.setIfInBounds_toArray, List.set_cons_zero, List.set_cons_succ]
    refine wpG_takeB (i := 3) (oi := ⟨some 71, _, _, _, _, _⟩) (v := .slice A2 m c2) rfl (by kernel_rfl) (by kernel_rfl) (by kernel_rfl) (by decide) (fun _ _ _ h => h) h01 rfl hHeld (Or.inl ⟨by rfl, ?_⟩) ?_
    · (intro W9 hSw; have s5 := HCV.out _ hSw; go_simp; (try (first | with_reducible rfl | rfl | (simp; done))))
    try simp only [Act.put, List.setIfInBounds_toArray, List.set_cons_zero, List.set_cons_succ]
    refine wpG_takeB (i := 4) (oi := ⟨some 72, _, _, _, _, _⟩) (v := .string St) rfl (by kernel_rfl) (by kernel_rfl) (by kernel_rfl) (by decide) (fun _ _ _ h => h) h01 rfl hHeld (Or.inl ⟨by rfl, ?_⟩) ?_
    · (intro W9 hSw; have s5 := HCV.out _ hSw; go_simp; (try (first | with_reducible rfl | rfl | (simp; done))))
    try simp only [Act.put, List.setIfInBounds_toArray, List.set_cons_zero, List.set_cons_succ]
    refine wpG_takeB (i := 5) (oi := ⟨some 73, _, _, _, _, _⟩) (v := .slice A n c) rfl (by kernel_rfl) (by kernel_rfl) (by kernel_rfl) (by decide) (fun _ _ _ h => h) h01 rfl hHeld (Or.inl ⟨by rfl, ?_⟩) ?_
    · (intro W9 hSw; have s5 := HCV.out _ hSw; go_simp; (try (first | with_reducible rfl | rfl | (simp; done))))
    try simp only [Act.put, List.setIfInBounds_toArray, List.set_cons_zero, List.set_cons_succ]
    refine wpG_oneB (i := 6) (o := ⟨some 74, _, _, _, _, _⟩) (by kernel_rfl) rfl rfl (fun K hK => ?_)
    go_simp
    (with_reducible refine C15.out.mono ?_); rintro e w6 ⟨A6, c6, rfl, ho6, b6⟩
    have HO6 := Lib.hid ho6
    have HB6 := Lib.hid ((below_drew HB5.out).trans (b6.mono HB5.out.size))
    have HB56 := Lib.hid ((below_drew (Below.refl w5.heap.size w5)).trans b6)
    clear ho6 b6
    refine hK.out _ _ HB56.out (fun hHeld => ?_)
    clear hK K
    try simp only [Act.put, List.setIfInBounds_toArray, List.set_cons_zero, List.set_cons_succ]
    refine wpG_oneB (i := 7) (o := ⟨some 75, _, _, _, _, _⟩) (by kernel_rfl) rfl rfl (fun K hK => ?_)
    have s7 := conv_RB (own_RB3 HO6.out)
    rw [HST.out] at s7
    go_simp
    clear s7
    refine hK.out _ _ HB56.out (fun hHeld => ?_)
    clear hK K
    try simp only [Act.put, List.setIfInBounds_toArray, List.set_cons_zero, List.set_cons_succ]
    refine wpG_takeB (i := 8) (oi := ⟨some 76, _, _, _, _, _⟩) (v := .bool false) rfl (by kernel_rfl) (by kernel_rfl) (by kernel_rfl) (by decide) (fun _ _ _ h => h) h01 rfl hHeld (Or.inl ⟨by rfl, ?_⟩) ?_
    · (intro W9 hSw; have s5 := HCV.out _ hSw; go_simp; (try (first | with_reducible rfl | rfl | (simp; done))))
    try simp only [Act.put, List.setIfInBounds_toArray, List.set_cons_zero, List.set_cons_succ]
    refine wpG_takeB (i := 9) (oi := ⟨some 77, _, _, _, _, _⟩) (v := .bool false) rfl (by kernel_rfl) (by kernel_rfl) (by kernel_rfl) (by decide) (fun _ _ _ h => h) h01 rfl hHeld (Or.inl ⟨by rfl, ?_⟩) ?_
    · (intro W9 hSw; have s5 := HCV.out _ hSw; go_simp; (try (first | with_reducible rfl | rfl | (simp; done))))
    try simp only [Act.put, List.setIfInBounds_toArray, List.set_cons_zero, List.set_cons_succ]
    refine wpG_done (by kernel_rfl) ?_ _
    have HOB := Lib.hid (HOW.out _ (HB15.out.trans (HB56.out.mono HB15.out.size)))
    have qq : ((m : Int) == m) = true := by simp
    go_wp2_with (at_builtin; go_must (refine wpList_app_own (base := w.heap.size) (n := m) (m := n1) (xs := (encB (pks ps)).map Go.Proofs.Ytgbkoegmoelheaa.u8) (news := l1.map Go.Proofs.Ytgbkoegmoelheaa.u8) rfl (.tmp 79) (.tmp 80) 23 rfl el22 rfl HOB.out rfl (HR.out.below HB6.out).h (u8_one _) (by have := HN1.out; have := HM8.out; unfold maxLen; omega) (by have := HN1.out; have := HM8.out; omega) HB6.out.size ?_; intro v7 w7 hown hg hat; refine Hid.out ?_))
    obtain ⟨A7, c7, rfl, -⟩ := own_form hown
    have HO7 := Lib.hid (show w7.ownsRow w.heap.size 5 1 (.slice A7 (m + n1) c7) (m + n1) ((encB (pks ps) ++ l1).map Go.Proofs.Ytgbkoegmoelheaa.u8) by rw [List.map_append]; exact hown)
    have HB7 := Lib.hid (below_own HB6.out HB6.out.size HOB.out hg)
    clear hown hg hat
    have C16 := dec_any A7 (m + n1) c7 (encB (pks ps) ++ l1) w7 (own_RB3 HO7.out) (by have := HN1.out; have := HM8.out; omega)
    rw [HDE.out, ← HMM.out] at C16
    have C16 := Lib.hid (C16.mono (R' := fun e w' => ∃ A8 n8 c8 ds, e = .returned (.tuple #[.slice A8 n8 c8, .int .i64 (m : Int), .int .i64 0]) ∧ Below w7.heap.size w7 w' ∧ PO w7.heap.size w' (.slice A8 n8 c8) ds ∧ pks ds = pks ps ∧ ds.length = n8) fun e w' h => by
      obtain ⟨hb, ⟨k2, h1, h2⟩ | ⟨v, ds, m2, h1, h2, h3⟩⟩ := h
      · cases h1
      · injection h1 with h1
        injection h1 with h4 h5
        subst h5
        obtain ⟨A8, c8, rfl⟩ := h3.form
        exact ⟨A8, _, c8, ds, h2, hb, h3, h4.symm, rfl⟩)
    refine Lib.hid ?_
    go_upto_region 16 with (go_at_call 16; (with_reducible refine C16.out.mono ?_); rintro e w8 ⟨A8, n8, c8, ds, rfl, b8, hpo, hq, hl⟩; have HB8 := Lib.hid (HB7.out.trans (b8.mono HB7.out.size)); have HPO8 := Lib.hid hpo; have HQ8 := Lib.hid hq; have HL8 := Lib.hid hl; clear b8 hpo hq hl)
    have C17 := Lib.hid (same_any A8 A n8 c8 n c ds ps w8 HPO8.out.pl (HPL.out.below HB8.out) HQ8.out (by have h1 := HL8.out; have h2 := congrArg List.length HQ8.out; have h3 := HPL.out.len; have := HN.out; simp [pks] at h2; omega))
    go_wp2_with (first | (go_at_call 17; (with_reducible refine C17.out.mono ?_); rintro e w9 ⟨rfl, b9⟩; have HB9 := Lib.hid (HB8.out.trans (b9.mono HB8.out.size)); clear b9) | (go_at_call 10; (with_reducible refine (K.out _).mono ?_); rintro e w10 ⟨rfl, b10⟩; have HB10 := Lib.hid (HB9.out.trans (b10.mono HB9.out.size)); clear b10))
    go_ret
    exact ⟨rfl, HB10.out⟩
  · have hfit : (pks ps).all validP = true → fitsP (pks ps) = false := fun h => by
      rcases hbad with h1 | h1
      · exfalso
        unfold badAt at h1
        obtain ⟨p, hp, h2⟩ := List.any_eq_true.1 h1
        have := List.all_eq_true.1 h p.pk (List.mem_map.2 ⟨p, hp, rfl⟩)
        rw [this] at h2
        cases h2
      · exact h1
    generalize (pks ps).all validP = Fi at hfit ⊢
    clear hbad HRES
    cases Fi with
    | false =>
      clear hfit
      go_wp2_with (go_at_call 10; (with_reducible refine (K.out _).mono ?_); rintro e w10 ⟨rfl, b10⟩; have HB10 := Lib.hid (HBw.out.trans (b10.mono HBw.out.size)); clear b10)
      go_ret
      exact ⟨rfl, HB10.out⟩
    | true =>
      rw [hfit rfl] at C14
      clear hfit
      go_wp2_with (first | (go_at_call 14; (with_reducible refine C14.out.mono ?_); rintro e w5 ⟨rfl, b5⟩; have HB5 := Lib.hid (HBw.out.trans (b5.mono HBw.out.size)); clear b5) | (go_at_call 10; (with_reducible refine (K.out _).mono ?_); rintro e w10 ⟨rfl, b10⟩; have HB10 := Lib.hid (HB5.out.trans (b10.mono HB5.out.size)); clear b10))
      go_ret
      exact ⟨rfl, HB10.out⟩
end Go.Proofs.Ytgbkoegmoelheaa
