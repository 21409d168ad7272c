/- FrameFinds: the law's walk. -/
import Derived.Test.YtibkhjpjneoabaaL5
namespace Go.Proofs.Ytibkhjpjneoabaa
open Go.RowKit
set_option linter.unusedVariables false
set_option linter.unusedSimpArgs false

theorem Asc.le : ∀ {l : List Fr} {a : Nat}, Asc a l → ∀ f ∈ l, a ≤ f.at_
  | [], _, _, _, h => by cases h
  | g :: r, a, h, f, hf => by
    rcases List.mem_cons.1 hf with rfl | hf
    · exact h.1
    · have := Asc.le h.2 f hf
      have := h.1
      omega

set_option maxRecDepth 100000 in
set_option maxHeartbeats 8000000 in
theorem finds_law (k m c : Int) (Ab : Option Addr) (nb cb : Nat) (lb : List UInt8) (L : Option Addr) (len cL : Nat) (f : Nat → Pk) (w : World) (_ : (Lit.int .i64 k).wf = true) (_ : (Lit.int .i64 m).wf = true) (_ : (Lit.int .i64 c).wf = true) (hlb : lb.length = nb) (hcb : nb ≤ cb) (hmb : cb ≤ maxLen) (hbb : BS w w.heap.size Ab lb) (hzb : Ab = none → cb = 0) (hs : PSS w L len f) :
    Calls Try.prog 4 #[.agg #[.int .i64 k, .int .i64 m, .int .i64 c], .slice Ab nb cb, .slice L len cL] w fun e w' => e = .returned (.bool true) ∧ Below w.heap.size w w' := by
  have hRb := RB.of_bs hlb hcb hmb hzb hbb
  have HLB := Lib.hid hlb
  clear hlb hcb hmb hbb hzb
  obtain ⟨W0, hW0⟩ : ∃ W0, w.alloc (.cells #[.int .i64 k, .int .i64 m, .int .i64 c] 24) = W0 := ⟨_, rfl⟩
  have hb0 : Below w.heap.size w W0 := hW0 ▸ (Below.refl _ w).alloc (Nat.le_refl _) _
  have kf : Blk W0 w.heap.size 24 #[.int .i64 k, .int .i64 m, .int .i64 c] := hW0 ▸ Blk.new w 24 _
  obtain ⟨f0, f1, f2⟩ : W0.cell? ⟨w.heap.size, 0, none⟩ = some (.int .i64 k) ∧ W0.cell? ⟨w.heap.size, 1, none⟩ = some (.int .i64 m) ∧ W0.cell? ⟨w.heap.size, 2, none⟩ = some (.int .i64 c) := ⟨kf.cell 0, kf.cell 1, kf.cell 2⟩
  have C9 := Lib.hid (few_any L len cL f W0 (hs.below hb0))
  have C10 := Lib.hid (fun W => known_any W)
  have HW0 := Lib.hid hW0
  have HB0 := Lib.hid hb0
  have KF := Lib.hid kf
  have HS := Lib.hid hs
  have HRb := Lib.hid hRb
  unfold FewD at C9
  clear hW0 hb0 kf hs hRb
  by_cases hnb : (700 : Int) < (nb : Int)
  case pos =>
    go_enter Try.func4, Try.ntmps4
    go_upto_region 1 with fail
    rw [HW0.out]
    clear HW0
    go_wp2_with (go_at_call 9; (with_reducible refine C9.out.mono ?_); rintro e w1 ⟨b, rfl, rfl, hb⟩; refine Hid.out ?_)
    refine Lib.hid ?_
    clear hb
    have q7 : decide ((700 : Int) < (nb : Int)) = true := by simpa using hnb
    cases b
    all_goals
      go_wp2_with (go_at_call 10; (with_reducible refine (C10.out _).mono ?_); rintro e w2 ⟨rfl, b2⟩; have HB2 := Lib.hid b2; clear b2)
      go_ret
      exact ⟨rfl, HB0.out.trans (HB2.out.mono HB0.out.size)⟩
  have q7 : decide ((700 : Int) < (nb : Int)) = false := by simpa using hnb
  have HNB := Lib.hid (show nb ≤ 700 by omega)
  clear hnb
  by_cases hk2 : k = 2
  case neg =>
    have qk : (k != 2) = true := by simpa using hk2
    clear hk2
    go_enter Try.func4, Try.ntmps4
    go_upto_region 1 with fail
    rw [HW0.out]
    clear HW0
    go_wp2_with (go_at_call 9; (with_reducible refine C9.out.mono ?_); rintro e w1 ⟨b, rfl, rfl, hb⟩; refine Hid.out ?_)
    refine Lib.hid ?_
    clear hb
    cases b
    all_goals
      go_wp2_with (go_at_call 10; (with_reducible refine (C10.out _).mono ?_); rintro e w2 ⟨rfl, b2⟩; have HB2 := Lib.hid b2; clear b2)
      go_ret
      exact ⟨rfl, HB0.out.trans (HB2.out.mono HB0.out.size)⟩
  subst hk2
  go_enter Try.func4, Try.ntmps4
  go_upto_region 1 with fail
  rw [HW0.out]
  clear HW0
  go_wp2_with (go_at_call 9; (with_reducible refine C9.out.mono ?_); rintro e w1 ⟨b, rfl, rfl, hb⟩; refine Hid.out ?_)
  refine Lib.hid ?_
  cases b with
  | false =>
    clear hb
    go_wp2_with (go_at_call 10; (with_reducible refine (C10.out _).mono ?_); rintro e w2 ⟨rfl, b2⟩; have HB2 := Lib.hid b2; clear b2)
    go_ret
    exact ⟨rfl, HB0.out.trans (HB2.out.mono HB0.out.size)⟩
  | true =>
  obtain ⟨hl, h7⟩ := hb rfl
  have h8 : ∀ i, i < len → (f i).l.length ≤ 700 := fun i hi => by
    obtain ⟨b, o, -, -, -, hr⟩ := HS.out.2 i hi
    rw [hr.len]; exact h7 i hi
  by_cases hOK : OkF 2 m c ∧ encErr 2 m c (pks f len) = 0
  case neg =>
    have hbad : ∃ E : Int, E ≠ 0 ∧ Calls Try.prog 11 #[FV 2 m c, .slice L len cL] W0 fun e w' => ∃ A n cp, e = .returned (.tuple #[.slice A n cp, .int .i64 E]) ∧ Below W0.heap.size W0 w' := by
      rcases ok_or_bad 2 m c with h | h
      · exact ⟨encErr 2 m c (pks f len), fun e => hOK ⟨h, e⟩, (enc_any 2 m c h L len cL f W0 (HS.out.below HB0.out) hl h8).mono fun e w' ⟨A, n, cp, h1, h2, h3, h4⟩ => ⟨A, n, cp, h1, h4⟩⟩
      · exact ⟨2, by decide, (enc_bad 2 m c h L len cL W0).mono fun e w' ⟨h1, h2⟩ => ⟨none, 0, 0, h1, h2⟩⟩
    obtain ⟨E, hE0, hc⟩ := hbad
    have qE : (E != 0) = true := by simpa using hE0
    have C11 := Lib.hid hc
    unfold FV at C11
    clear hb hl h7 h8 hOK hc hE0
    go_wp2_with (first
      | (go_at_call 11; (with_reducible refine C11.out.mono ?_); rintro e w2 ⟨A1, n1, c1, rfl, hb2⟩; have HB2 := Lib.hid (HB0.out.trans (hb2.mono HB0.out.size)); clear hb2)
      | (go_at_call 15; (with_reducible refine (num_any E _).mono ?_); rintro e _ ⟨rfl, rfl⟩)
      | (go_at_call 10; (with_reducible refine (C10.out _).mono ?_); rintro e w3 ⟨rfl, b3⟩; have HB3 := Lib.hid (HB2.out.trans (b3.mono HB2.out.size)); clear b3))
    go_ret
    exact ⟨rfl, HB3.out⟩
  obtain ⟨hF, hE⟩ := hOK
  have hyl : (encB 2 m c (pks f len)).length ≤ 28400 := by
    have := encB_len hF.c1 hF.c2 (k := 2) (m := m) f len h8
    omega
  obtain ⟨ag, lo, hgap⟩ := del_gap m c lb
  rw [HLB.out] at hgap
  obtain ⟨a', fs, hr1, hr2, hr3, hr4⟩ := encs_read 2 m c hF lo (pks f len) (nb + 1) ag hE
  have h11 : Calls Try.prog 11 #[FV 2 m c, .slice L len cL] W0 fun e w' => ∃ A cp, e = .returned (.tuple #[.slice A (encB 2 m c (pks f len)).length cp, .int .i64 0]) ∧ w'.ownsRow W0.heap.size 5 1 (.slice A (encB 2 m c (pks f len)).length cp) (encB 2 m c (pks f len)).length ((encB 2 m c (pks f len)).map Go.Proofs.Ytibkhjpjneoabaa.u8) ∧ Below W0.heap.size W0 w' := (enc_any 2 m c hF L len cL f W0 (HS.out.below HB0.out) hl h8).mono fun e w' ⟨A, n, cp, h1, h2, h3, h4⟩ => by
    rw [hE] at h1 h2 h3
    rw [if_pos rfl] at h2 h3
    subst h2
    exact ⟨A, cp, h1, h3, h4⟩
  have hpl : (pks f len).length = len := by simp [pks]
  have hpg : ∀ i, i < len → (pks f len)[i]? = some (f i).l := fun i hi => by simp [pks, hi]
  obtain ⟨ys, hys⟩ : ∃ ys, encB 2 m c (pks f len) = ys := ⟨_, rfl⟩
  rw [hys] at hyl hr1 h11
  have HF := Lib.hid hF
  have HYL := Lib.hid hyl
  have HGP := Lib.hid hgap
  have HR1 := Lib.hid hr1
  have HRB := Lib.hid hr2
  have HRC := Lib.hid hr3
  have HRA := Lib.hid hr4
  have HPL := Lib.hid hpl
  have HPG := Lib.hid hpg
  have HL := Lib.hid hl
  have C11 := Lib.hid h11
  unfold FV at C11
  clear hb hl h7 h8 hF hE hyl hr1 hr2 hr3 hr4 h11 hpl hpg hys hgap
  go_wp2_with (go_at_call 11; (with_reducible refine C11.out.mono ?_); rintro e w2 ⟨A1, c1, rfl, ho2, hb2⟩; refine Hid.out ?_)
  refine Lib.hid ?_
  have HO2 := Lib.hid ho2
  have HB2 := Lib.hid (HB0.out.trans (hb2.mono HB0.out.size))
  have K2 := Lib.hid (KF.out.below hb2 KF.out.lt)
  have C16 := Lib.hid (new_yes 2 m c HF.out w2)
  unfold FV at C16
  clear ho2 hb2 f0 f1 f2
  obtain ⟨f0, f1, f2⟩ : w2.cell? ⟨w.heap.size, 0, none⟩ = some (.int .i64 2) ∧ w2.cell? ⟨w.heap.size, 1, none⟩ = some (.int .i64 m) ∧ w2.cell? ⟨w.heap.size, 2, none⟩ = some (.int .i64 c) := ⟨K2.out.cell 0, K2.out.cell 1, K2.out.cell 2⟩
  go_wp2_with (first
    | (go_at_call 15; (with_reducible refine (num_any 0 _).mono ?_); rintro e _ ⟨rfl, rfl⟩)
    | (go_at_call 16; (with_reducible refine C16.out.mono ?_); rintro e w3 ⟨r, rfl, hr, hrd, hb3⟩; refine Hid.out ?_))
  refine Lib.hid ?_
  have HRR := Lib.hid hr
  have HRD := Lib.hid hrd
  have HY3 := Lib.hid ((own_RB3 HO2.out).below hb3)
  have HYB := Lib.hid (show ∀ a, A1 = some a → 0 < ys.length → a.block < w2.heap.size from fun a hA h0 => (own_RB3 HO2.out).lt h0 hA)
  have HB3 := Lib.hid (HB2.out.trans (hb3.mono HB2.out.size))
  have HRL := Lib.hid hrd.blk.lt
  have H23 := Lib.hid hb3.size
  clear hr hrd hb3 f0 f1 f2
  have HRb3 := Lib.hid (HRb.out.below HB3.out)
  go_wp2_with (first
    | (go_at_call 15; (with_reducible refine (num_any 0 _).mono ?_); rintro e _ ⟨rfl, rfl⟩)
    | (at_builtin; go_must (refine wpList_app_own (base := w3.heap.size) (n := 0) (m := nb) (xs := []) (news := lb.map Go.Proofs.Ytibkhjpjneoabaa.u8) rfl (.tmp 50) (.tmp 51) 28 rfl el22 rfl (own_none00 w3 5) rfl (HRb3.out.h.alloc _) (u8_one _) (by have := HNB.out; unfold maxLen; omega) (by have := HNB.out; omega) (by simp) ?_; intro v4 w4 hown hg hat; refine Hid.out ?_)))
  refine Lib.hid ?_
  obtain ⟨A4, c4, rfl, -⟩ := own_form hown
  have HO4 := Lib.hid (show w4.ownsRow w3.heap.size 5 1 (.slice A4 nb c4) nb (lb.map Go.Proofs.Ytibkhjpjneoabaa.u8) from by simpa using hown)
  have HB4 := Lib.hid (show Below w3.heap.size w3 w4 from below_own ((Below.refl _ w3).alloc (Nat.le_refl _) _) (by simp) (own_none00 w3 5) hg)
  clear hown hg hat
  rw [Nat.zero_add]
  go_wp2_with (at_builtin; go_must (refine wpList_app_own (base := w3.heap.size) (n := nb) (m := 1) (xs := lb.map Go.Proofs.Ytibkhjpjneoabaa.u8) (news := [.int .u8 126]) rfl (.tmp 52) (.tmp 53) 28 rfl el22 rfl (own_alloc HO4.out) rfl (Holds.one _ _ _) (by simp [Value.oneCell']) (by have := HNB.out; unfold maxLen; omega) (by have := HNB.out; omega) (by have := HB4.out.size; simp; omega) ?_; intro v5 w5 hown hg hat; refine Hid.out ?_))
  refine Lib.hid ?_
  obtain ⟨A5, c5, rfl, -⟩ := own_form hown
  have HO5 := Lib.hid (show w5.ownsRow w3.heap.size 5 1 (.slice A5 (nb + 1) c5) (nb + 1) ((lb ++ [126]).map Go.Proofs.Ytibkhjpjneoabaa.u8) from by rw [List.map_append]; exact hown)
  have HB5 := Lib.hid (show Below w3.heap.size w3 w5 from below_own (HB4.out.alloc (HB4.out.size) _) (by have := HB4.out.size; simp; omega) (own_alloc HO4.out) hg)
  clear hown hg hat
  have C17 := Lib.hid (feed_any w2.heap.size r 2 m c (.slice none 0 0) St.new A5 (nb + 1) c5 (lb ++ [126]) w5 HF.out (HRD.out.below (HB5.out.mono (Nat.le_refl _))) (by decide) (own_RB3 HO5.out) (fun a hA h0 hsf => by
    rcases hsf with e | e
    · subst hA
      have := (HO5.out.lt a.block rfl).1
      have := HRL.out
      omega
    · cases e) (by have := HNB.out; show 0 + (nb + 1) ≤ 40000; omega) (by have := HNB.out; show 0 + (nb + 1) ≤ 1000000; omega))
  unfold Fed at C17
  rw [HGP.out] at C17
  go_wp2_with (go_at_call 17; (with_reducible refine C17.out.mono ?_); rintro e w6 ⟨out6, v6, es6, rfl, hea, hfr⟩; refine Hid.out ?_)
  refine Lib.hid ?_
  have HRD6 := Lib.hid hea.rd
  have HY6 := Lib.hid ((HY3.out.below HB5.out).only hea.only (fun a hA h0 hsf => by
    rcases hsf with e | e
    · have := HYB.out a hA h0
      have := HRR.out
      omega
    · cases e))
  have HB6 := Lib.hid ((HB3.out.trans (HB5.out.mono HB3.out.size)).trans (hea.only.to_below (Nat.le_trans HB3.out.size HB5.out.size) fun b hb hsf => by
    rcases hsf with e | e
    · have := HRR.out; have := HB2.out.size; omega
    · cases e))
  have C17' := Lib.hid (feed_any w2.heap.size r 2 m c v6 (gapS (nb + 1) ag lo) A1 ys.length c1 ys w6 HF.out hea.rd (show (0 : Int) ≠ 3 by decide) HY6.out (fun a hA h0 hsf => by
    have := HYB.out a hA h0
    rcases hsf with e | e
    · have := HRR.out; omega
    · have := (hea.rd.own.lt _ e).1; omega) (by have := HYL.out; show 0 + ys.length ≤ 40000; omega) (by have := HYL.out; have := HNB.out; show (nb + 1) + ys.length ≤ 1000000; omega))
  unfold Fed at C17'
  rw [HR1.out] at C17'
  clear hea hfr C17
  go_wp2_with (first
    | (go_at_call 15; (with_reducible refine (num_any 0 _).mono ?_); rintro e _ ⟨rfl, rfl⟩)
    | (go_at_call 17; (with_reducible refine C17'.out.mono ?_); rintro e w7 ⟨out7, v7, ds, rfl, hea, hfr⟩; refine Hid.out ?_))
  refine Lib.hid ?_
  have hdl : ds.length = len := by
    have h1 := congrArg List.length hfr
    have h2 := congrArg List.length HRB.out
    rw [HPL.out] at h2
    simp at h1 h2
    omega
  obtain ⟨Aal, cA, hal, -⟩ := own_formS hea.frs.own
  rw [hdl] at hal
  subst hal
  have HDS := Lib.hid hfr
  have HDL := Lib.hid hdl
  have HFR := Lib.hid (hea.frs.read).1
  have HRD7 := Lib.hid hea.rd
  have HB7 := Lib.hid (HB6.out.trans (hea.only.to_below HB6.out.size fun b hb hsf => by
    rcases hsf with e | e
    · have := HRR.out; have := HB2.out.size; omega
    · have := (HRD6.out.own.lt _ e).1; have := HB2.out.size; omega))
  have HS7 := Lib.hid (HS.out.below HB7.out)
  clear hea hfr hdl
  go_wp2_with (go_at_call 15; (with_reducible refine (num_any 0 _).mono ?_); rintro e _ ⟨rfl, rfl⟩)
  go_loopw [15] (fun ii wr => ∃ i : Nat, (i : Int) ≤ len ∧ ii = .int .i64 i ∧ Hid (Below w7.heap.size w7 wr)) (fun ii _ => len - (intOf ii).toNat)
  case atStart => exact ⟨0, by omega, rfl, Lib.hid (Below.refl _ _)⟩
  case round =>
    obtain ⟨i, hi, rfl, HB⟩ := hrel
    have hi0 : (0 : Int) ≤ i := by omega
    obtain ⟨wp, rfl⟩ : ∃ wp : World, wp = wr := ⟨_, rfl⟩
    by_cases hlt : (i : Int) < len
    · have hi1 : i < len := by omega
      have hi2 : i < ds.length := by rw [HDL.out]; exact hi1
      obtain ⟨b1, o1, rfl, hc1⟩ := HFR.out.cells (by omega)
      obtain ⟨b2, o2, rfl, hb2, hc2, hrb2⟩ := HS7.out.2 i hi1
      obtain ⟨q1, q2, q3⟩ := fd_get ds i hi2
      have hm1 := HFR.out.rows _ (List.getElem_mem hi2)
      have hmem : (ds[i]).fr ∈ fs := by rw [← HDS.out]; exact List.mem_map.2 ⟨_, List.getElem_mem hi2, rfl⟩
      have hbs : (ds[i]).fr.bytes = (f i).l := by
        have h := congrArg (fun l => l[i]?) HRB.out
        rw [← HDS.out] at h
        simp only [HPG.out i hi1] at h
        simpa [List.getElem?_eq_getElem hi2] using h
      have hcd : (ds[i]).fr.code = 0 := HRC.out _ hmem
      have hat : nb + 1 ≤ (ds[i]).fr.at_ := HRA.out.le _ hmem
      rw [hcd] at q3
      rw [hbs] at hm1
      have hS5 : HoR b1 (o1 + i * 3) b2 (o2 + i) ds[i] (f i) ((ds[i]).fr.at_ : Int) (f i).l w7 := ⟨hc1 _ _ q1, by rw [Nat.add_assoc]; exact hc1 _ _ q2, by rw [Nat.add_assoc]; exact hc1 _ _ q3, hc2, hm1, hrb2⟩
      have hS6 := hS5.below (HB.out.trans (below_drew (Below.refl _ wp) |>.mono HB.out.size))
      obtain ⟨l9, hl9⟩ : ∃ l9, (f i).l = l9 := ⟨_, rfl⟩
      rw [hl9] at hS6
      obtain ⟨s9, hs9⟩ : ∃ s9 : ByteArray, ⟨l9.toArray⟩ = s9 := ⟨_, rfl⟩
      have HST := Lib.hid hs9
      have HLT := Lib.hid hi1
      have HBW := Lib.hid (HB.out.trans (below_drew (Below.refl _ wp) |>.mono HB.out.size))
      generalize ds[i] = d at *
      obtain ⟨x9, hx9⟩ : ∃ x9 : Int, (d.fr.at_ : Int) = x9 := ⟨_, rfl⟩
      rw [hx9] at hS6
      have HLE := Lib.hid (show (nb : Int) < x9 by omega)
      have HSd := Lib.hid hS6
      have HIQ := Lib.hid (And.intro hi0 hlt)
      clear hi2 hc1 hb2 hc2 hrb2 q1 q2 q3 hm1 hbs hcd hat hmem hS5 hS6 hl9 hs9 hx9 hi1
      go_upto_region 18 with fail
      refine wp_region_G (S0 := (HoR b1 (o1 + i * 3) b2 (o2 + i) d (f i) x9 l9)) (S1 := (HoR b1 (o1 + i * 3) b2 (o2 + i) d (f i) x9 l9)) (c := 99) (by kernel_rfl) ?_
      have hHeld := HSd.out
      have h01 := (fun (W : World) (h : (HoR b1 (o1 + i * 3) b2 (o2 + i) d (f i) x9 l9) W) => h)
      refine wpG_takeB (i := 0) (oi := ⟨some 83, _, _, _, _, _⟩) (v := .slice (some ⟨b1, o1, none⟩) len cA) rfl (by kernel_rfl) (by kernel_rfl) (by kernel_rfl) (by decide) (fun _ _ _ h => h) h01 rfl hHeld (Or.inl ⟨by rfl, ?_⟩) ?_
      · (intro W9 hSw; obtain ⟨v1, v2, v3, v4, v5, v6⟩ := hSw; have u1 := conv_RB v5; have u2 := conv_RB v6; rw [HST.out] at u1 u2; clear v5 v6; go_simp; (try (first | with_reducible rfl | rfl | (simp; done) | (exact HLE.out))))
      try simp only [Act.put, List.setIfInBounds_toArray, List.set_cons_zero, List.set_cons_succ]
      refine wpG_takeB (i := 1) (oi := ⟨some 84, _, _, _, _, _⟩) (v := .int .i64 (i : Int)) rfl (by kernel_rfl) (by kernel_rfl) (by kernel_rfl) (by decide) (fun _ _ _ h => h) h01 rfl hHeld (Or.inl ⟨by rfl, ?_⟩) ?_
      · (intro W9 hSw; obtain ⟨v1, v2, v3, v4, v5, v6⟩ := hSw; have u1 := conv_RB v5; have u2 := conv_RB v6; rw [HST.out] at u1 u2; clear v5 v6; go_simp; (try (first | with_reducible rfl | rfl | (simp; done) | (exact HLE.out))))
      try simp only [Act.put, List.setIfInBounds_toArray, List.set_cons_zero, List.set_cons_succ]
      refine wpG_takeB (i := 2) (oi := ⟨some 85, _, _, _, _, _⟩) (v := .pointer (some ⟨b1, o1 + i * 3, none⟩)) rfl (by kernel_rfl) (by kernel_rfl) (by kernel_rfl) (by decide) (fun _ _ _ h => h) h01 rfl hHeld (Or.inl ⟨by rfl, ?_⟩) ?_
      · (intro W9 hSw; obtain ⟨v1, v2, v3, v4, v5, v6⟩ := hSw; have u1 := conv_RB v5; have u2 := conv_RB v6; rw [HST.out] at u1 u2; clear v5 v6; go_simp; (try (first | with_reducible rfl | rfl | (simp; done) | (exact HLE.out))))
      try simp only [Act.put, List.setIfInBounds_toArray, List.set_cons_zero, List.set_cons_succ]
      refine wpG_takeB (i := 3) (oi := ⟨some 86, _, _, _, _, _⟩) (v := .pointer (some ⟨b1, o1 + i * 3 + 2, none⟩)) rfl (by kernel_rfl) (by kernel_rfl) (by kernel_rfl) (by decide) (fun _ _ _ h => h) h01 rfl hHeld (Or.inl ⟨by rfl, ?_⟩) ?_
      · (intro W9 hSw; obtain ⟨v1, v2, v3, v4, v5, v6⟩ := hSw; have u1 := conv_RB v5; have u2 := conv_RB v6; rw [HST.out] at u1 u2; clear v5 v6; go_simp; (try (first | with_reducible rfl | rfl | (simp; done) | (exact HLE.out))))
      try simp only [Act.put, List.setIfInBounds_toArray, List.set_cons_zero, List.set_cons_succ]
      refine wpG_takeB (i := 4) (oi := ⟨some 87, _, _, _, _, _⟩) (v := .int .i64 0) rfl (by kernel_rfl) (by kernel_rfl) (by kernel_rfl) (by decide) (fun _ _ _ h => h) h01 rfl hHeld (Or.inl ⟨by rfl, ?_⟩) ?_
      · (intro W9 hSw; obtain ⟨v1, v2, v3, v4, v5, v6⟩ := hSw; have u1 := conv_RB v5; have u2 := conv_RB v6; rw [HST.out] at u1 u2; clear v5 v6; go_simp; (try (first | with_reducible rfl | rfl | (simp; done) | (exact HLE.out))))
      try simp only [Act.put, List.setIfInBounds_toArray, List.set_cons_zero, List.set_cons_succ]
      refine wpG_oneB (i := 5) (o := ⟨some 88, _, _, _, _, _⟩) (by kernel_rfl) rfl rfl (fun K hK => ?_)
      go_simp
      (with_reducible refine (num_any 0 _).mono ?_); rintro e _ ⟨rfl, rfl⟩
      refine hK.out _ _ HSd.out (fun hHeld => ?_)
      clear hK K
      try simp only [Act.put, List.setIfInBounds_toArray, List.set_cons_zero, List.set_cons_succ]
      refine wpG_takeB (i := 6) (oi := ⟨some 89, _, _, _, _, _⟩) (v := .bool false) rfl (by kernel_rfl) (by kernel_rfl) (by kernel_rfl) (by decide) (fun _ _ _ h => h) h01 rfl hHeld (Or.inl ⟨by rfl, ?_⟩) ?_
      · (intro W9 hSw; obtain ⟨v1, v2, v3, v4, v5, v6⟩ := hSw; have u1 := conv_RB v5; have u2 := conv_RB v6; rw [HST.out] at u1 u2; clear v5 v6; go_simp; (try (first | with_reducible rfl | rfl | (simp; done) | (exact HLE.out))))
      try simp only [Act.put, List.setIfInBounds_toArray, List.set_cons_zero, List.set_cons_succ]
      refine wpG_takeB (i := 7) (oi := ⟨some 90, _, _, _, _, _⟩) (v := .bool false) rfl (by kernel_rfl) (by kernel_rfl) (by kernel_rfl) (by decide) (fun _ _ _ h => h) h01 rfl hHeld (Or.inl ⟨by rfl, ?_⟩) ?_
      · (intro W9 hSw; obtain ⟨v1, v2, v3, v4, v5, v6⟩ := hSw; have u1 := conv_RB v5; have u2 := conv_RB v6; rw [HST.out] at u1 u2; clear v5 v6; go_simp; (try (first | with_reducible rfl | rfl | (simp; done) | (exact HLE.out))))
      try simp only [Act.put, List.setIfInBounds_toArray, List.set_cons_zero, List.set_cons_succ]
      refine wpG_takeB (i := 8) (oi := ⟨some 91, _, _, _, _, _⟩) (v := .slice (some ⟨b1, o1, none⟩) len cA) rfl (by kernel_rfl) (by kernel_rfl) (by kernel_rfl) (by decide) (fun _ _ _ h => h) h01 rfl hHeld (Or.inl ⟨by rfl, ?_⟩) ?_
      · (intro W9 hSw; obtain ⟨v1, v2, v3, v4, v5, v6⟩ := hSw; have u1 := conv_RB v5; have u2 := conv_RB v6; rw [HST.out] at u1 u2; clear v5 v6; go_simp; (try (first | with_reducible rfl | rfl | (simp; done) | (exact HLE.out))))
      try simp only [Act.put, List.setIfInBounds_toArray, List.set_cons_zero, List.set_cons_succ]
      refine wpG_takeB (i := 9) (oi := ⟨some 92, _, _, _, _, _⟩) (v := .int .i64 (i : Int)) rfl (by kernel_rfl) (by kernel_rfl) (by kernel_rfl) (by decide) (fun _ _ _ h => h) h01 rfl hHeld (Or.inl ⟨by rfl, ?_⟩) ?_
      · (intro W9 hSw; obtain ⟨v1, v2, v3, v4, v5, v6⟩ := hSw; have u1 := conv_RB v5; have u2 := conv_RB v6; rw [HST.out] at u1 u2; clear v5 v6; go_simp; (try (first | with_reducible rfl | rfl | (simp; done) | (exact HLE.out))))
      try simp only [Act.put, List.setIfInBounds_toArray, List.set_cons_zero, List.set_cons_succ]
      refine wpG_takeB (i := 10) (oi := ⟨some 93, _, _, _, _, _⟩) (v := .pointer (some ⟨b1, o1 + i * 3, none⟩)) rfl (by kernel_rfl) (by kernel_rfl) (by kernel_rfl) (by decide) (fun _ _ _ h => h) h01 rfl hHeld (Or.inl ⟨by rfl, ?_⟩) ?_
      · (intro W9 hSw; obtain ⟨v1, v2, v3, v4, v5, v6⟩ := hSw; have u1 := conv_RB v5; have u2 := conv_RB v6; rw [HST.out] at u1 u2; clear v5 v6; go_simp; (try (first | with_reducible rfl | rfl | (simp; done) | (exact HLE.out))))
      try simp only [Act.put, List.setIfInBounds_toArray, List.set_cons_zero, List.set_cons_succ]
      refine wpG_takeB (i := 11) (oi := ⟨some 94, _, _, _, _, _⟩) (v := .pointer (some ⟨b1, o1 + i * 3 + 1, none⟩)) rfl (by kernel_rfl) (by kernel_rfl) (by kernel_rfl) (by decide) (fun _ _ _ h => h) h01 rfl hHeld (Or.inl ⟨by rfl, ?_⟩) ?_
      · (intro W9 hSw; obtain ⟨v1, v2, v3, v4, v5, v6⟩ := hSw; have u1 := conv_RB v5; have u2 := conv_RB v6; rw [HST.out] at u1 u2; clear v5 v6; go_simp; (try (first | with_reducible rfl | rfl | (simp; done) | (exact HLE.out))))
      try simp only [Act.put, List.setIfInBounds_toArray, List.set_cons_zero, List.set_cons_succ]
      refine wpG_takeB (i := 12) (oi := ⟨some 95, _, _, _, _, _⟩) (v := .slice d.A d.n d.cp) rfl (by kernel_rfl) (by kernel_rfl) (by kernel_rfl) (by decide) (fun _ _ _ h => h) h01 rfl hHeld (Or.inl ⟨by rfl, ?_⟩) ?_
      · (intro W9 hSw; obtain ⟨v1, v2, v3, v4, v5, v6⟩ := hSw; have u1 := conv_RB v5; have u2 := conv_RB v6; rw [HST.out] at u1 u2; clear v5 v6; go_simp; (try (first | with_reducible rfl | rfl | (simp; done) | (exact HLE.out))))
      try simp only [Act.put, List.setIfInBounds_toArray, List.set_cons_zero, List.set_cons_succ]
      refine wpG_takeB (i := 13) (oi := ⟨some 96, _, _, _, _, _⟩) (v := .string s9) rfl (by kernel_rfl) (by kernel_rfl) (by kernel_rfl) (by decide) (fun _ _ _ h => h) h01 rfl hHeld (Or.inl ⟨by rfl, ?_⟩) ?_
      · (intro W9 hSw; obtain ⟨v1, v2, v3, v4, v5, v6⟩ := hSw; have u1 := conv_RB v5; have u2 := conv_RB v6; rw [HST.out] at u1 u2; clear v5 v6; go_simp; (try (first | with_reducible rfl | rfl | (simp; done) | (exact HLE.out))))
      try simp only [Act.put, List.setIfInBounds_toArray, List.set_cons_zero, List.set_cons_succ]
      refine wpG_takeB (i := 14) (oi := ⟨some 97, _, _, _, _, _⟩) (v := .slice (some ⟨b2, o2, none⟩) len cL) rfl (by kernel_rfl) (by kernel_rfl) (by kernel_rfl) (by decide) (fun _ _ _ h => h) h01 rfl hHeld (Or.inl ⟨by rfl, ?_⟩) ?_
      · (intro W9 hSw; obtain ⟨v1, v2, v3, v4, v5, v6⟩ := hSw; have u1 := conv_RB v5; have u2 := conv_RB v6; rw [HST.out] at u1 u2; clear v5 v6; go_simp; (try (first | with_reducible rfl | rfl | (simp; done) | (exact HLE.out))))
      try simp only [Act.put, List.setIfInBounds_toArray, List.set_cons_zero, List.set_cons_succ]
      refine wpG_takeB (i := 15) (oi := ⟨some 98, _, _, _, _, _⟩) (v := .int .i64 (i : Int)) rfl (by kernel_rfl) (by kernel_rfl) (by kernel_rfl) (by decide) (fun _ _ _ h => h) h01 rfl hHeld (Or.inl ⟨by rfl, ?_⟩) ?_
      · (intro W9 hSw; obtain ⟨v1, v2, v3, v4, v5, v6⟩ := hSw; have u1 := conv_RB v5; have u2 := conv_RB v6; rw [HST.out] at u1 u2; clear v5 v6; go_simp; (try (first | with_reducible rfl | rfl | (simp; done) | (exact HLE.out))))
      try simp only [Act.put, List.setIfInBounds_toArray, List.set_cons_zero, List.set_cons_succ]
      refine wpG_takeB (i := 16) (oi := ⟨some 99, _, _, _, _, _⟩) (v := .pointer (some ⟨b2, o2 + i, none⟩)) rfl (by kernel_rfl) (by kernel_rfl) (by kernel_rfl) (by decide) (fun _ _ _ h => h) h01 rfl hHeld (Or.inl ⟨by rfl, ?_⟩) ?_
      · (intro W9 hSw; obtain ⟨v1, v2, v3, v4, v5, v6⟩ := hSw; have u1 := conv_RB v5; have u2 := conv_RB v6; rw [HST.out] at u1 u2; clear v5 v6; go_simp; (try (first | with_reducible rfl | rfl | (simp; done) | (exact HLE.out))))
      try simp only [Act.put, List.setIfInBounds_toArray, List.set_cons_zero, List.set_cons_succ]
      refine wpG_takeB (i := 17) (oi := ⟨some 100, _, _, _, _, _⟩) (v := .slice (f i).A (f i).n (f i).c) rfl (by kernel_rfl) (by kernel_rfl) (by kernel_rfl) (by decide) (fun _ _ _ h => h) h01 rfl hHeld (Or.inl ⟨by rfl, ?_⟩) ?_
      · (intro W9 hSw; obtain ⟨v1, v2, v3, v4, v5, v6⟩ := hSw; have u1 := conv_RB v5; have u2 := conv_RB v6; rw [HST.out] at u1 u2; clear v5 v6; go_simp; (try (first | with_reducible rfl | rfl | (simp; done) | (exact HLE.out))))
      try simp only [Act.put, List.setIfInBounds_toArray, List.set_cons_zero, List.set_cons_succ]
      refine wpG_takeB (i := 18) (oi := ⟨some 101, _, _, _, _, _⟩) (v := .string s9) rfl (by kernel_rfl) (by kernel_rfl) (by kernel_rfl) (by decide) (fun _ _ _ h => h) h01 rfl hHeld (Or.inl ⟨by rfl, ?_⟩) ?_
      · (intro W9 hSw; obtain ⟨v1, v2, v3, v4, v5, v6⟩ := hSw; have u1 := conv_RB v5; have u2 := conv_RB v6; rw [HST.out] at u1 u2; clear v5 v6; go_simp; (try (first | with_reducible rfl | rfl | (simp; done) | (exact HLE.out))))
      try simp only [Act.put, List.setIfInBounds_toArray, List.set_cons_zero, List.set_cons_succ]
      refine wpG_takeB (i := 19) (oi := ⟨some 102, _, _, _, _, _⟩) (v := .bool false) rfl (by kernel_rfl) (by kernel_rfl) (by kernel_rfl) (by decide) (fun _ _ _ h => h) h01 rfl hHeld (Or.inl ⟨by rfl, ?_⟩) ?_
      · (intro W9 hSw; obtain ⟨v1, v2, v3, v4, v5, v6⟩ := hSw; have u1 := conv_RB v5; have u2 := conv_RB v6; rw [HST.out] at u1 u2; clear v5 v6; go_simp; (try (first | with_reducible rfl | rfl | (simp; done) | (exact HLE.out))))
      try simp only [Act.put, List.setIfInBounds_toArray, List.set_cons_zero, List.set_cons_succ]
      refine wpG_takeB (i := 20) (oi := ⟨some 103, _, _, _, _, _⟩) (v := .bool false) rfl (by kernel_rfl) (by kernel_rfl) (by kernel_rfl) (by decide) (fun _ _ _ h => h) h01 rfl hHeld (Or.inl ⟨by rfl, ?_⟩) ?_
      · (intro W9 hSw; obtain ⟨v1, v2, v3, v4, v5, v6⟩ := hSw; have u1 := conv_RB v5; have u2 := conv_RB v6; rw [HST.out] at u1 u2; clear v5 v6; go_simp; (try (first | with_reducible rfl | rfl | (simp; done) | (exact HLE.out))))
      try simp only [Act.put, List.setIfInBounds_toArray, List.set_cons_zero, List.set_cons_succ]
      refine wpG_takeB (i := 21) (oi := ⟨some 104, _, _, _, _, _⟩) (v := .bool false) rfl (by kernel_rfl) (by kernel_rfl) (by kernel_rfl) (by decide) (fun _ _ _ h => h) h01 rfl hHeld (Or.inl ⟨by rfl, ?_⟩) ?_
      · (intro W9 hSw; obtain ⟨v1, v2, v3, v4, v5, v6⟩ := hSw; have u1 := conv_RB v5; have u2 := conv_RB v6; rw [HST.out] at u1 u2; clear v5 v6; go_simp; (try (first | with_reducible rfl | rfl | (simp; done) | (exact HLE.out))))
      try simp only [Act.put, List.setIfInBounds_toArray, List.set_cons_zero, List.set_cons_succ]
      refine wpG_takeB (i := 22) (oi := ⟨some 105, _, _, _, _, _⟩) (v := .slice (some ⟨b1, o1, none⟩) len cA) rfl (by kernel_rfl) (by kernel_rfl) (by kernel_rfl) (by decide) (fun _ _ _ h => h) h01 rfl hHeld (Or.inl ⟨by rfl, ?_⟩) ?_
      · (intro W9 hSw; obtain ⟨v1, v2, v3, v4, v5, v6⟩ := hSw; have u1 := conv_RB v5; have u2 := conv_RB v6; rw [HST.out] at u1 u2; clear v5 v6; go_simp; (try (first | with_reducible rfl | rfl | (simp; done) | (exact HLE.out))))
      try simp only [Act.put, List.setIfInBounds_toArray, List.set_cons_zero, List.set_cons_succ]
      refine wpG_takeB (i := 23) (oi := ⟨some 106, _, _, _, _, _⟩) (v := .int .i64 (i : Int)) rfl (by kernel_rfl) (by kernel_rfl) (by kernel_rfl) (by decide) (fun _ _ _ h => h) h01 rfl hHeld (Or.inl ⟨by rfl, ?_⟩) ?_
      · (intro W9 hSw; obtain ⟨v1, v2, v3, v4, v5, v6⟩ := hSw; have u1 := conv_RB v5; have u2 := conv_RB v6; rw [HST.out] at u1 u2; clear v5 v6; go_simp; (try (first | with_reducible rfl | rfl | (simp; done) | (exact HLE.out))))
      try simp only [Act.put, List.setIfInBounds_toArray, List.set_cons_zero, List.set_cons_succ]
      refine wpG_takeB (i := 24) (oi := ⟨some 107, _, _, _, _, _⟩) (v := .pointer (some ⟨b1, o1 + i * 3, none⟩)) rfl (by kernel_rfl) (by kernel_rfl) (by kernel_rfl) (by decide) (fun _ _ _ h => h) h01 rfl hHeld (Or.inl ⟨by rfl, ?_⟩) ?_
      · (intro W9 hSw; obtain ⟨v1, v2, v3, v4, v5, v6⟩ := hSw; have u1 := conv_RB v5; have u2 := conv_RB v6; rw [HST.out] at u1 u2; clear v5 v6; go_simp; (try (first | with_reducible rfl | rfl | (simp; done) | (exact HLE.out))))
      try simp only [Act.put, List.setIfInBounds_toArray, List.set_cons_zero, List.set_cons_succ]
      refine wpG_takeB (i := 25) (oi := ⟨some 108, _, _, _, _, _⟩) (v := .pointer (some ⟨b1, o1 + i * 3, none⟩)) rfl (by kernel_rfl) (by kernel_rfl) (by kernel_rfl) (by decide) (fun _ _ _ h => h) h01 rfl hHeld (Or.inl ⟨by rfl, ?_⟩) ?_
      · (intro W9 hSw; obtain ⟨v1, v2, v3, v4, v5, v6⟩ := hSw; have u1 := conv_RB v5; have u2 := conv_RB v6; rw [HST.out] at u1 u2; clear v5 v6; go_simp; (try (first | with_reducible rfl | rfl | (simp; done) | (exact HLE.out))))
      try simp only [Act.put, List.setIfInBounds_toArray, List.set_cons_zero, List.set_cons_succ]
      refine wpG_takeB (i := 26) (oi := ⟨some 109, _, _, _, _, _⟩) (v := .int .i64 x9) rfl (by kernel_rfl) (by kernel_rfl) (by kernel_rfl) (by decide) (fun _ _ _ h => h) h01 rfl hHeld (Or.inl ⟨by rfl, ?_⟩) ?_
      · (intro W9 hSw; obtain ⟨v1, v2, v3, v4, v5, v6⟩ := hSw; have u1 := conv_RB v5; have u2 := conv_RB v6; rw [HST.out] at u1 u2; clear v5 v6; go_simp; (try (first | with_reducible rfl | rfl | (simp; done) | (exact HLE.out))))
      try simp only [Act.put, List.setIfInBounds_toArray, List.set_cons_zero, List.set_cons_succ]
      refine wpG_takeB (i := 27) (oi := ⟨some 110, _, _, _, _, _⟩) (v := .slice Ab nb cb) rfl (by kernel_rfl) (by kernel_rfl) (by kernel_rfl) (by decide) (fun _ _ _ h => h) h01 rfl hHeld (Or.inl ⟨by rfl, ?_⟩) ?_
      · (intro W9 hSw; obtain ⟨v1, v2, v3, v4, v5, v6⟩ := hSw; have u1 := conv_RB v5; have u2 := conv_RB v6; rw [HST.out] at u1 u2; clear v5 v6; go_simp; (try (first | with_reducible rfl | rfl | (simp; done) | (exact HLE.out))))
      try simp only [Act.put, List.setIfInBounds_toArray, List.set_cons_zero, List.set_cons_succ]
      refine wpG_takeB (i := 28) (oi := ⟨some 111, _, _, _, _, _⟩) (v := .int .i64 (nb : Int)) rfl (by kernel_rfl) (by kernel_rfl) (by kernel_rfl) (by decide) (fun _ _ _ h => h) h01 rfl hHeld (Or.inl ⟨by rfl, ?_⟩) ?_
      · (intro W9 hSw; obtain ⟨v1, v2, v3, v4, v5, v6⟩ := hSw; have u1 := conv_RB v5; have u2 := conv_RB v6; rw [HST.out] at u1 u2; clear v5 v6; go_simp; (try (first | with_reducible rfl | rfl | (simp; done) | (exact HLE.out))))
      try simp only [Act.put, List.setIfInBounds_toArray, List.set_cons_zero, List.set_cons_succ]
      refine wpG_takeB (i := 29) (oi := ⟨some 112, _, _, _, _, _⟩) (v := .bool false) rfl (by kernel_rfl) (by kernel_rfl) (by kernel_rfl) (by decide) (fun _ _ _ h => h) h01 rfl hHeld (Or.inl ⟨by rfl, ?_⟩) ?_
      · (intro W9 hSw; obtain ⟨v1, v2, v3, v4, v5, v6⟩ := hSw; have u1 := conv_RB v5; have u2 := conv_RB v6; rw [HST.out] at u1 u2; clear v5 v6; go_simp; (try (first | with_reducible rfl | rfl | (simp; done) | (exact HLE.out))))
      try simp only [Act.put, List.setIfInBounds_toArray, List.set_cons_zero, List.set_cons_succ]
      refine wpG_takeB (i := 30) (oi := ⟨some 113, _, _, _, _, _⟩) (v := .bool false) rfl (by kernel_rfl) (by kernel_rfl) (by kernel_rfl) (by decide) (fun _ _ _ h => h) h01 rfl hHeld (Or.inl ⟨by rfl, ?_⟩) ?_
      · (intro W9 hSw; obtain ⟨v1, v2, v3, v4, v5, v6⟩ := hSw; have u1 := conv_RB v5; have u2 := conv_RB v6; rw [HST.out] at u1 u2; clear v5 v6; go_simp; (try (first | with_reducible rfl | rfl | (simp; done) | (exact HLE.out))))
      try simp only [Act.put, List.setIfInBounds_toArray, List.set_cons_zero, List.set_cons_succ]
      refine wpG_done (by kernel_rfl) ?_ _
      clear hHeld h01
      have hi20 : (i : Int) ≤ 20 := by have := HLT.out; have := HL.out; omega
      go_wp2_with fail
      go_roundw
      case rel => exact ⟨i + 1, by have := HLT.out; omega, by go_num, HBW⟩
      case measure => have := HLT.out; simp [intOf]; omega
    · have HB8 := Lib.hid (HB7.out.trans (HB.out.mono HB7.out.size))
      have C18 := Lib.hid (closes_off w2.heap.size r 2 m c v7 _ none 0 wp HF.out (HRD7.out.below HB.out) (show (0 : Int) ≠ 3 by decide) rfl)
      have HRr := Lib.hid (show w.heap.size ≤ r from Nat.le_trans HB2.out.size HRR.out)
      go_wp2_with (first
        | (go_at_call 18; (with_reducible refine C18.out.mono ?_); rintro e w9 ⟨rfl, hr9, ho9⟩; have HB9 := Lib.hid (HB8.out.trans (ho9.to_below HB8.out.size fun b hb e => by have := HRr.out; omega)); clear hr9 ho9)
        | (go_at_call 10; (with_reducible refine (C10.out _).mono ?_); rintro e wz ⟨rfl, bz⟩; have HBZ := Lib.hid (HB9.out.trans (bz.mono HB9.out.size)); clear bz))
      go_ret
      exact ⟨rfl, HBZ.out⟩
end Go.Proofs.Ytibkhjpjneoabaa
