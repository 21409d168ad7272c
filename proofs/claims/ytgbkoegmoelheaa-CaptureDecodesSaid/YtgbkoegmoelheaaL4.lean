/- The walk of CaptureDecodes. -/
import Derived.Test.YtgbkoegmoelheaaDb
namespace Go.Proofs.Ytgbkoegmoelheaa
open Go.RowKit
set_option linter.unusedVariables false
set_option linter.unusedSimpArgs false

theorem valid_of_dec {l : List UInt8} {q : List Pk} {m : Nat} (h : dec l = .ok (q, m)) : ∀ p ∈ q, validP p = true := by
  unfold dec at h
  simp only at h
  split at h
  · cases h
  · split at h
    · split at h
      · cases h
      · split at h
        · cases h
        · rename_i hp
          split at h
          · split at h
            · injection h with h
              injection h with h1 h2
              rw [← h1]
              exact packs_valid _ _ _ hp
            · cases h
          · cases h
    · cases h
/-- A byte is laid somewhere: a row of bytes stays one. -/
theorem ByteRow.any {w : World} {B n g k : Nat} {v : Value} {z : Int} (h : ByteRow w B v n) (h0 : 0 ≤ z) (h1 : z < 256) : ByteRow (w.setCell ⟨g, k, none⟩ (.int .u8 z)) B v n := by
  by_cases hg : v.ownBlock = some g
  · obtain ⟨L, hl, ho⟩ := h
    rcases ho.2 with ⟨rfl, _⟩ | ⟨g', cap, cur, rfl, hg', hh, _⟩
    · cases hg
    · have : g' = g := by simpa [Value.ownBlock] using hg
      subst this
      exact ByteRow.store ⟨L, hl, ho⟩ h0 h1
  · obtain ⟨L, hl, ho⟩ := h
    exact ⟨L, hl, own_setCell ho hg _⟩
/-- While the packets' data are turned. -/
structure DI (B1 B2 : Nat) (w3 wr : World) (A8 : Option Addr) (n8 c8 : Nat) (ds : List Pd) : Prop where
  own : wr.ownsRow B1 31 3 (.slice A8 n8 c8) n8 (ds.flatMap Pd.cells)
  rows : ∀ p ∈ ds, ByteRow wr B1 p.data p.n
  only : Only (fun k => B1 ≤ k ∧ k < B2) w3 wr
  lt : ∀ p ∈ ds, ∀ j, p.data.ownBlock = some j → B1 ≤ j ∧ j < B2
theorem DI.set {B1 B2 : Nat} {w3 wr : World} {A8 : Option Addr} {n8 c8 : Nat} {ds : List Pd} (h : DI B1 B2 w3 wr A8 n8 c8 ds) {p : Pd} (hp : p ∈ ds) {g k : Nat} {z : Int} (hg : p.data.ownBlock = some g) (h0 : 0 ≤ z) (h1 : z < 256) : DI B1 B2 w3 (wr.setCell ⟨g, k, none⟩ (.int .u8 z)) A8 n8 c8 ds := by
  refine ⟨own_setCell h.own (fun e => ?_) _, fun q hq => (h.rows q hq).any h0 h1, h.only.set (fun _ => h.lt p hp g hg) k _, h.lt⟩
  obtain ⟨L, hl, ho⟩ := h.rows p hp
  exact own_neS h.own ho (by decide) g e hg

set_option maxRecDepth 100000 in
set_option maxHeartbeats 8000000 in
theorem decodes_law (A : Option Addr) (n c : Nat) (l : List UInt8) (w : World) (hl : l.length = n) (hc : n ≤ c) (hm : c ≤ maxLen) (hw : BS w w.heap.size A l) (hz : A = none → c = 0) :
    Calls Try.prog 4 #[.slice A n c] w fun e w' => e = .returned (.bool true) ∧ Below w.heap.size w w' := by
  have hR : RB w A n c l := ⟨hl, hw.holds hl, hc, hm, hz⟩
  have HR := Lib.hid hR
  have hn0 : (n : Int) ≤ 9223372036854775807 := by unfold maxLen at hm; omega
  have K := Lib.hid known_any
  clear hl hc hm hw hz hR
  by_cases h9 : 9000 < (n : Int)
  · have q0 : decide (9000 < (n : Int)) = true := decide_eq_true h9
    go_enter Try.func4, Try.ntmps4
    go_wp2_with (go_at_call 10; (with_reducible refine (K.out _).mono ?_); rintro e w1 ⟨rfl, hb⟩; have HB := Lib.hid hb; clear hb)
    go_ret
    exact ⟨rfl, HB.out⟩
  have q0 : decide (9000 < (n : Int)) = false := decide_eq_false h9
  have HN := Lib.hid (show n ≤ 9000 by omega)
  have HLN := Lib.hid HR.out.len
  clear h9 hn0
  have hn0 : (n : Int) ≤ 9000 := by have := HN.out; omega
  go_enter Try.func4, Try.ntmps4
  go_wp2_with (at_builtin; go_must (refine wpList_app_own (base := w.heap.size) (n := 0) (m := n) (xs := []) (news := l.map Go.Proofs.Ytgbkoegmoelheaa.u8) rfl (.const (.slice none 0 0)) (.tmp 19) 23 rfl el22 rfl (World.ownsRow_nil _ _ 5 1) rfl HR.out.h (u8_one _) (by have := HN.out; unfold maxLen; omega) (by have := HN.out; omega) (Nat.le_refl _) ?_; intro v3 w1 hown hg hat; refine Hid.out ?_))
  rw [Nat.zero_add, List.nil_append] at hown
  obtain ⟨A3, c3, rfl, -⟩ := own_form hown
  have HO1 := Lib.hid hown
  have HB1 := Lib.hid (below_own (Below.refl _ _) (Nat.le_refl _) (World.ownsRow_nil _ _ 5 1) hg)
  refine Lib.hid ?_
  clear hown hg hat
  have C16 := dec_any A3 n c3 l w1 (own_RB3 HO1.out) (by have := HN.out; omega)
  obtain ⟨D, hD⟩ : ∃ D, dec l = D := ⟨_, rfl⟩
  have HD := Lib.hid hD
  rw [hD] at C16
  cases D with
  | error k =>
    have C16 := Lib.hid (C16.mono (R' := fun e w' => e = .returned (.tuple #[.slice none 0 0, .int .i64 0, .int .i64 k]) ∧ Below w1.heap.size w1 w') fun e w' h => by
      obtain ⟨hb, ⟨k2, h1, h2⟩ | ⟨v, ds, m, h1, -⟩⟩ := h
      · cases h1; exact ⟨h2, hb⟩
      · cases h1)
    clear hD
    go_upto_region 5 with (go_at_call 16; (with_reducible refine C16.out.mono ?_); rintro e w2 ⟨rfl, b2⟩; have HO2 := Lib.hid (own_keeps HO1.out fun k hk => b2.block k (own_lt HO1.out k hk)); have HB2 := Lib.hid (HB1.out.trans (b2.mono HB1.out.size)); clear b2)
    have C18 := rdec_any A n c l w2 (HR.out.below HB2.out) (by have := HN.out; omega)
    rw [HD.out] at C18
    have C18 := Lib.hid (C18.mono (R' := fun e w' => e = .returned (.tuple #[.slice none 0 0, .int .i64 0, .int .i64 k]) ∧ Below w2.heap.size w2 w') fun e w' h => by
      obtain ⟨hb, ⟨k2, h1, h2⟩ | ⟨v, ds, m, h1, -⟩⟩ := h
      · cases h1; exact ⟨h2, hb⟩
      · cases h1)
    go_wp2_with (go_at_call 18; (with_reducible refine C18.out.mono ?_); rintro e w3 ⟨rfl, b3⟩; have HO3 := Lib.hid (own_keeps HO2.out fun k hk => b3.block k (own_lt HO2.out k hk)); have HB3 := Lib.hid (HB2.out.trans (b3.mono HB2.out.size)); clear b3)
    go_loopw [10] (fun ii wr => ii = .int .i64 0 ∧ wr = w3) (fun _ _ => 0)
    case atStart => exact ⟨rfl, rfl⟩
    case round =>
    obtain ⟨rfl, rfl⟩ := hrel
    obtain ⟨w3, rfl⟩ : ∃ w3 : World, w3 = wr := ⟨_, rfl⟩
    have s1 := conv_RB (own_RB3 HO3.out)
    have s2 := conv_RB (HR.out.below HB3.out)
    have C16b := dec_any A3 n c3 l w3 (own_RB3 HO3.out) (by have := HN.out; omega)
    rw [HD.out] at C16b
    have C16b := Lib.hid (C16b.mono (R' := fun e w' => e = .returned (.tuple #[.slice none 0 0, .int .i64 0, .int .i64 k]) ∧ Below w3.heap.size w3 w') fun e w' h => by
      obtain ⟨hb, ⟨k2, h1, h2⟩ | ⟨v, ds, m, h1, -⟩⟩ := h
      · cases h1; exact ⟨h2, hb⟩
      · cases h1)
    have C17 := Lib.hid (fun (W : World) => same_any none none 0 0 0 0 [] [] W (PL.nil W) (PL.nil W) rfl (by omega))
    generalize (⟨l.toArray⟩ : ByteArray) = St at s1 s2
    go_wp2_with (first | (go_at_call 16; (with_reducible refine C16b.out.mono ?_); rintro e w4 ⟨rfl, b4⟩; have HB4 := Lib.hid (HB3.out.trans (b4.mono HB3.out.size)); clear b4) | (go_at_call 17; (with_reducible refine (C17.out _).mono ?_); rintro e w5 ⟨rfl, b5⟩; have HB5 := Lib.hid (HB4.out.trans (b5.mono HB4.out.size)); clear b5) | (go_at_call 10; (with_reducible refine (K.out _).mono ?_); rintro e w6 ⟨rfl, b6⟩; have HB6 := Lib.hid (HB5.out.trans (b6.mono HB5.out.size)); clear b6))
    go_ret
    exact ⟨rfl, HB6.out⟩
  | ok x =>
    obtain ⟨q, m⟩ := x
    have H16 := fun (A' : Option Addr) (c' : Nat) (W : World) (h : RB W A' n c' l) => (by
      have := dec_any A' n c' l W h (by have := HN.out; omega)
      rw [HD.out] at this
      exact this.mono (R' := fun e w' => ∃ A8 n8 c8 ds, e = .returned (.tuple #[.slice A8 n8 c8, .int .i64 (m : Int), .int .i64 0]) ∧ Below W.heap.size W w' ∧ PO W.heap.size w' (.slice A8 n8 c8) ds ∧ pks ds = q ∧ ds.length = n8) fun e w' h => by
        obtain ⟨hb, ⟨k2, h1, h2⟩ | ⟨v, ds, m2, h1, h2, h3⟩⟩ := h
        · cases h1
        · injection h1 with h1
          injection h1 with h4 h5
          subst h4 h5
          obtain ⟨A8, c8, rfl⟩ := h3.form
          exact ⟨A8, _, c8, ds, h2, hb, h3, rfl, rfl⟩ : Calls Try.prog 16 #[.slice A' n c'] W fun e w' => ∃ A8 n8 c8 ds, e = .returned (.tuple #[.slice A8 n8 c8, .int .i64 (m : Int), .int .i64 0]) ∧ Below W.heap.size W w' ∧ PO W.heap.size w' (.slice A8 n8 c8) ds ∧ pks ds = q ∧ ds.length = n8)
    have C16 := Lib.hid (H16 A3 c3 w1 (own_RB3 HO1.out))
    have H16 := Lib.hid H16
    have HQL := Lib.hid (show q.length ≤ 64 from (fitsP_iff.1 (fits_of_dec hD)).2.1)
    have HQV := Lib.hid (show ∀ p ∈ q, p.d.length ≤ 9000 from fun p hp => by
      have := (validP_iff.1 (valid_of_dec hD p hp)).2.2.2.2
      omega)
    clear hD
    go_upto_region 5 with (go_at_call 16; (with_reducible refine C16.out.mono ?_); rintro e w2 ⟨A8, n8, c8, ds, rfl, b2, hpo, hq, hl⟩; have HO2 := Lib.hid (own_keeps HO1.out fun k hk => b2.block k (own_lt HO1.out k hk)); have HB2 := Lib.hid (HB1.out.trans (b2.mono HB1.out.size)); have HB12 := Lib.hid b2.size; have HPO2 := Lib.hid hpo; have HQ2 := Lib.hid hq; have HL2 := Lib.hid hl; clear b2 hpo hq hl)
    have C18 := rdec_any A n c l w2 (HR.out.below HB2.out) (by have := HN.out; omega)
    rw [HD.out] at C18
    have C18 := Lib.hid (C18.mono (R' := fun e w' => ∃ A9 n9 c9 es, e = .returned (.tuple #[.slice A9 n9 c9, .int .i64 (m : Int), .int .i64 0]) ∧ Below w2.heap.size w2 w' ∧ PO w2.heap.size w' (.slice A9 n9 c9) es ∧ pks es = q) fun e w' h => by
      obtain ⟨hb, ⟨k2, h1, h2⟩ | ⟨v, ds, m2, h1, h2, h3⟩⟩ := h
      · cases h1
      · injection h1 with h1
        injection h1 with h4 h5
        subst h4 h5
        obtain ⟨A8, c8, rfl⟩ := h3.form
        exact ⟨A8, _, c8, ds, h2, hb, h3, rfl⟩)
    go_wp2_with (go_at_call 18; (with_reducible refine C18.out.mono ?_); rintro e w3 ⟨A9, n9, c9, es, rfl, b3, hpo, hq⟩; have HO3 := Lib.hid (own_keeps HO2.out fun k hk => b3.block k (own_lt HO2.out k hk)); have HB3 := Lib.hid (HB2.out.trans (b3.mono HB2.out.size)); have HPO3 := Lib.hid (HPO2.out.below b3); have HES3 := Lib.hid hpo; have HEQ3 := Lib.hid hq; clear b3 hpo hq)
    have HDI := Lib.hid (show DI w1.heap.size w2.heap.size w3 w3 A8 n8 c8 ds from ⟨by have := HPO3.out.own; rw [HL2.out] at this; exact this, fun p hp => ByteRow.of (HPO3.out.data p hp), Only.refl _ _, fun p hp j hj => ⟨((HPO2.out.data p hp).lt j hj).1, own_lt (HPO2.out.data p hp) j hj⟩⟩)
    have HLL := Lib.hid (show (n8 : Int) ≤ 64 by have h1 := HQL.out; have h2 := HL2.out; rw [← HQ2.out] at h1; simp [pks] at h1; omega)
    have HPN := Lib.hid (show ∀ p ∈ ds, (p.n : Int) ≤ 9000 from fun p hp => by
      have h1 := HQV.out p.pk (by rw [← HQ2.out]; exact List.mem_map.2 ⟨p, hp, rfl⟩)
      have h2 := (HPO2.out.data p hp).1
      have h3 : p.pk.d.length = p.d.length := rfl
      simp at h2
      omega)
    have HB13 := Lib.hid (show w.heap.size ≤ w1.heap.size from HB1.out.size)
    have hn8 : (n8 : Int) ≤ 64 := HLL.out
    go_loopw [10, 11] (fun ii _ wr => ∃ i : Nat, (i : Int) ≤ n8 ∧ ii = .int .i64 (i : Int) ∧ Hid (DI w1.heap.size w2.heap.size w3 wr A8 n8 c8 ds)) (fun ii _ _ => n8 - (intOf ii).toNat)
    case atStart => exact ⟨0, by omega, rfl, HDI⟩
    case round =>
    clear HDI
    obtain ⟨i, hi, rfl, HDI⟩ := hrel
    have hi0 : (0 : Int) ≤ i := by omega
    by_cases hlt : (i : Int) < n8
    case pos =>
      have hi1 : i < ds.length := by rw [HL2.out]; omega
      have HMEM := Lib.hid (List.getElem_mem hi1)
      have hpn := HPN.out _ HMEM.out
      obtain ⟨hx1, hx2, hx3⟩ := pd_get ds i hi1
      obtain ⟨g8, e8⟩ : ∃ g8, A8 = some ⟨g8, 0, none⟩ := by
        obtain ⟨A', c', e, -, -, -, hg⟩ := own_formS HDI.out.own
        injection e with e1 e2 e3
        obtain ⟨g', hg2, -⟩ := hg (by omega)
        exact ⟨g', e1.trans hg2⟩
      subst e8
      have HXC := Lib.hid (show ∀ W : World, W.ownsRow w1.heap.size 31 3 (.slice (some ⟨g8, 0, none⟩) n8 c8) n8 (ds.flatMap Pd.cells) → W.cell? ⟨g8, i * 3 + 2, none⟩ = some (.slice (ds[i]).A (ds[i]).n (ds[i]).c) from fun W hW => by
        have := (HoldsS.own hW).2.2 _ rfl _ _ hx3
        rw [Addr.add_lit, Nat.zero_add] at this
        exact this)
      generalize ds[i] = p at *
      obtain ⟨Tp, Fp, Ap, np, cp, dp⟩ := p
      simp only at hpn HXC
      have HPNN := Lib.hid hpn
      clear hx1 hx2 hx3
      have hcell := HXC.out _ HDI.out.own
      go_wp2_with fail
      go_loopw [11] (fun kk wr => ∃ k : Nat, (k : Int) ≤ np ∧ kk = .int .i64 (k : Int) ∧ Hid (DI w1.heap.size w2.heap.size w3 wr (some ⟨g8, 0, none⟩) n8 c8 ds)) (fun kk _ => np - (intOf kk).toNat)
      case atStart => exact ⟨0, by omega, rfl, HDI⟩
      case round =>
      clear HDI hcell
      obtain ⟨k, hk, rfl, HDI⟩ := hrel
      have hk0 : (0 : Int) ≤ k := by omega
      have hcell := HXC.out _ HDI.out.own
      by_cases hkl : (k : Int) < np
      case pos =>
        obtain ⟨g, cap, z, e1, hcz, hz0, hz1, hfz⟩ := (HDI.out.rows _ HMEM.out).cell (k := k) (by show k < np; omega)
        have e2 : Value.slice Ap np cp = .slice (some ⟨g, 0, none⟩) np cap := e1
        injection e2 with e3 e4 e5
        subst e3 e5
        have HDN := Lib.hid (fun (y : Int) (h0 : 0 ≤ y) (h1 : y < 256) => HDI.out.set HMEM.out (g := g) (k := k) (z := y) rfl h0 h1)
        have hw9 : 0 ≤ (z + 1) % 256 ∧ (z + 1) % 256 < 256 := by omega
        have HW9 := Lib.hid hw9
        clear e1 hw9
        go_wp2_with fail
        go_roundw
        case rel => exact ⟨k + 1, by omega, by go_num, Lib.hid (HDN.out _ HW9.out.1 HW9.out.2)⟩
        case measure => simp [intOf]; omega
      case neg =>
        go_wp2_with fail
        go_roundw
        case rel => exact ⟨i + 1, by omega, by go_num, HDI⟩
        case measure => simp [intOf]; omega
    case neg =>
    obtain ⟨w4, rfl⟩ : ∃ w4 : World, w4 = wr := ⟨_, rfl⟩
    have HO4 := Lib.hid (own_only HO3.out HDI.out.only fun k hk e => by have := own_lt HO1.out k hk; omega)
    have HB4 := Lib.hid (HB3.out.trans ((HDI.out.only.to_below HB3.out.size fun b hb e => by have := HB13.out; omega).mono (Nat.le_refl _)))
    have hmf : ∀ k, k ≥ w2.heap.size → ¬ (w1.heap.size ≤ k ∧ k < w2.heap.size) := fun k h e => by omega
    have HES4 := Lib.hid (show PO w2.heap.size w4 (.slice A9 n9 c9) es from HES3.out.only HDI.out.only hmf)
    have s1 := conv_RB (own_RB3 HO4.out)
    have s2 := conv_RB (HR.out.below HB4.out)
    have C16b := Lib.hid (H16.out A3 c3 w4 (own_RB3 HO4.out))
    generalize (⟨l.toArray⟩ : ByteArray) = St at s1 s2
    have qm : ((m : Int) == m) = true := by simp
    clear hmf
    go_upto_region 16 with (go_at_call 16; (with_reducible refine C16b.out.mono ?_); rintro e w5 ⟨Ab, nb, cb, bs, rfl, b5, hpo, hq, hl⟩; have HB5 := Lib.hid (HB4.out.trans (b5.mono HB4.out.size)); have HPO5 := Lib.hid hpo; have HQ5 := Lib.hid hq; have HES5 := Lib.hid (HES4.out.below b5); have HNB := Lib.hid hl; clear b5 hpo hq hl)
    have C17 := Lib.hid (same_any Ab A9 nb cb n9 c9 bs es w5 HPO5.out.pl HES5.out.pl (by rw [HQ5.out, HEQ3.out]) (by have h1 := HQL.out; have h2 := HNB.out; rw [← HQ5.out] at h1; simp [pks] at h1; omega))
    go_wp2_with (first | (go_at_call 17; (with_reducible refine C17.out.mono ?_); rintro e w6 ⟨rfl, b6⟩; have HB6 := Lib.hid (HB5.out.trans (b6.mono HB5.out.size)); clear b6) | (go_at_call 10; (with_reducible refine (K.out _).mono ?_); rintro e w7 ⟨rfl, b7⟩; have HB7 := Lib.hid (HB6.out.trans (b7.mono HB6.out.size)); clear b7))
    go_ret
    exact ⟨rfl, HB7.out⟩
end Go.Proofs.Ytgbkoegmoelheaa
