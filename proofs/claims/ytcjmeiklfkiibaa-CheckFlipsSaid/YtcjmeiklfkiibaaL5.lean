/- The walk of CheckFlips. -/
import Derived.Test.YtcjmeiklfkiibaaFlipP
import Derived.Test.YtcjmeiklfkiibaaKn
import Derived.RegionTactic
import Derived.Outline
namespace Go.Proofs.Ytcjmeiklfkiibaa
open Go.RowKit

theorem own_frozen {w : World} {B n cap g k : Nat} {e : TypeId} {xs : List Value} (h : w.ownsRow B e 1 (.slice (some ⟨g, 0, none⟩) n cap) n xs) : w.frozen? ⟨g, k, none⟩ = false := by
  rcases h.2 with ⟨h0, _⟩ | ⟨g', cap', cur, hv, hg, hh, hn, hm, hs, ht⟩
  · cases h0
  · cases hv
    have hb : Blk w g e cur := hh
    exact hb.frozen k

theorem own_store {w : World} {B n cap g k : Nat} {e : TypeId} {xs : List Value} (h : w.ownsRow B e 1 (.slice (some ⟨g, 0, none⟩) n cap) n xs) (u : Value) : (w.setCell ⟨g, k, none⟩ u).ownsRow B e 1 (.slice (some ⟨g, 0, none⟩) n cap) n (xs.set k u) := by
  rcases h.2 with ⟨h0, _⟩ | ⟨g', cap', cur, hv, hg, hh, hn, hm, hs, ht⟩
  · cases h0
  · cases hv
    have hb : Blk w g e cur := hh
    refine ⟨by rw [List.length_set]; exact h.1, .inr ⟨g, cap, cur.setIfInBounds k u, rfl, hg, hb.set_ k u, by omega, hm, by simpa using hs, ?_⟩⟩
    rw [Array.toList_setIfInBounds, List.take_set, ht]
theorem flip_nat : ∀ (x : Fin 256) (j : Fin 8), x.1 ^^^ 2 ^ j.1 < 256 ∧ ((x.1 ^^^ 2 ^ j.1) = x.1 + 2 ^ j.1 ∨ (x.1 ^^^ 2 ^ j.1) + 2 ^ j.1 = x.1) := by decide +kernel
theorem flip_byte (x : UInt8) (j : Nat) (hj : j < 8) : ∃ y : UInt8, bits BinOp.xor IntKind.u8 (x.toNat : Int) (2 ^ j % 256) = (y.toNat : Int) ∧ ((x.toNat : Int) = y.toNat + (2 ^ j : Nat) ∨ (y.toNat : Int) = x.toNat + (2 ^ j : Nat)) := by
  obtain ⟨h1, h2⟩ := flip_nat ⟨x.toNat, x.toNat_lt⟩ ⟨j, hj⟩
  simp only at h1 h2
  refine ⟨UInt8.ofNat (x.toNat ^^^ 2 ^ j), ?_, ?_⟩
  · rw [UInt8.toNat_ofNat', Nat.mod_eq_of_lt h1]
    show IntKind.u8.wrap ((BitVec.ofInt 8 (x.toNat : Int) ^^^ BitVec.ofInt 8 (2 ^ j % 256)).toNat : Int) = _
    have hp : 2 ^ j < 256 := by
      have : 2 ^ j ≤ 2 ^ 7 := Nat.pow_le_pow_right (by omega) (by omega)
      omega
    have e : (2 : Int) ^ j % 256 = ((2 ^ j : Nat) : Int) := by
      rw [show (2 : Int) ^ j = ((2 ^ j : Nat) : Int) by simp]
      generalize 2 ^ j = q at *
      omega
    rw [e, BitVec.ofInt_natCast, BitVec.ofInt_natCast, BitVec.toNat_xor, BitVec.toNat_ofNat, BitVec.toNat_ofNat, Nat.mod_eq_of_lt x.toNat_lt, Nat.mod_eq_of_lt hp, wrap_u8_id h1]
  · rw [UInt8.toNat_ofNat', Nat.mod_eq_of_lt h1]
    omega
theorem pow_cases (j : Nat) (hj : j < 8) (d : Int) (hd : d = (2 ^ j : Nat)) : d = 1 ∨ d = 2 ∨ d = 4 ∨ d = 8 ∨ d = 16 ∨ d = 32 ∨ d = 64 ∨ d = 128 := by
  have : j = 0 ∨ j = 1 ∨ j = 2 ∨ j = 3 ∨ j = 4 ∨ j = 5 ∨ j = 6 ∨ j = 7 := by omega
  rcases this with rfl | rfl | rfl | rfl | rfl | rfl | rfl | rfl <;> simp at hd <;> omega
theorem BS.grown_ {w w' : World} {B : Nat} {A : Option Addr} {l : List UInt8} (h : BS w B A l) (hb : Below B w w') : BS w' B A l := h.below hb

set_option maxRecDepth 100000 in
set_option maxHeartbeats 1000000 in
theorem flips_law (A : Option Addr) (n c : Nat) (l : List UInt8) (bit : Int) (w : World) (hl : l.length = n) (_ : n ≤ c) (_ : c ≤ maxLen) (hb : BS w w.heap.size A l) (hbit : (Lit.int .u16 bit).wf = true) :
    Calls Try.prog 5 #[.slice A n c, .int .u16 bit] w fun e w' => e = .returned (.bool true) ∧ Below w.heap.size w w' := by
  by_cases hn : (n : Int) ≤ 2000
  · by_cases h0 : 1 ≤ (n : Int)
    · have hb0 : 0 ≤ bit := by simp [Lit.wf, IntKind.min, IntKind.max, IntKind.bits, IntKind.signed] at hbit; omega
      have hb1 : bit < 65536 := by simp [Lit.wf, IntKind.min, IntKind.max, IntKind.bits, IntKind.signed] at hbit; omega
      have hm0 : 0 ≤ bit % (8 * (n : Int)) := Int.emod_nonneg _ (by omega)
      have hm1 : bit % (8 * (n : Int)) < 8 * (n : Int) := Int.emod_lt_of_pos _ (by omega)
      have HH := Lib.hid (hb.holds hl)
      have HB := Lib.hid hb
      have HL := Lib.hid hl
      have H1 := Lib.hid (u8_one l)
      clear hl hb hbit
      go_enter Try.func5, Try.ntmps5
      go_wp2_with (at_builtin; go_must (refine wpList_app_own (base := w.heap.size) (n := 0) (m := n) (xs := []) (news := l.map u8) rfl (.tmp 21) (.tmp 22) 22 rfl el22 rfl (own_none00 w 5) rfl (HH.out.alloc _) H1.out (by unfold maxLen; omega) (by omega) (by simp) ?_; intro v1 w1 hown hg _; rw [Nat.zero_add, List.nil_append] at hown; have HO := Lib.hid hown; have HB1 := Lib.hid (below_own ((Below.refl w.heap.size w).alloc (Nat.le_refl _) _) (by simp) (own_none00 w 5) hg); clear hown hg; obtain ⟨g, cap, rfl, hgb, hgl, hcap, hcm, hcells⟩ := own_holds HO.out (by omega)))
      generalize bit % (8 * (n : Int)) = t at *
      obtain ⟨i, j, rfl, hi, hj⟩ : ∃ i j : Nat, t = 8 * (i : Int) + j ∧ i < n ∧ j < 8 := ⟨(t / 8).toNat, (t % 8).toNat, by omega, by omega, by omega⟩
      clear hm0 hm1 hb0 hb1
      obtain ⟨l1, xb, l2, hls, hl1⟩ : ∃ l1 xb l2, l = l1 ++ xb :: l2 ∧ l1.length = i := ⟨l.take i, l[i]'(by rw [HL.out]; exact hi), l.drop (i + 1), by rw [← List.drop_eq_getElem_cons]; exact (List.take_append_drop i l).symm, by rw [List.length_take, HL.out]; omega⟩
      have hcell := hcells i (u8 xb) (by rw [hls]; simp [← hl1])
      rw [Addr.add_lit, Nat.zero_add] at hcell
      have hfr := own_frozen (k := i) HO.out
      have hq : (8 * (i : Int) + j) / 8 = i := by omega
      have hr : (8 * (i : Int) + j) % 8 = j := by omega
      have hi0 : (i : Int) < n := by omega
      have hj0 : (j : Int) < 8 := by omega
      have hx1 : (xb.toNat : Int) < 256 := by have := xb.toNat_lt; omega
      have hx0 : 0 ≤ (xb.toNat : Int) := by omega
      unfold u8 at hcell
      obtain ⟨x, hx⟩ : ∃ x : Int, (xb.toNat : Int) = x := ⟨_, rfl⟩
      rw [hx] at hcell hx0 hx1
      have HX := Lib.hid hx
      have HLS := Lib.hid hls
      have hls0 := HLS
      have hiN := Lib.hid hi
      have HLEN : ∀ y, Hid ((l1 ++ y :: l2).length = n) := fun y => Lib.hid (by rw [← HL.out, hls]; simp)
      have HL1 := Lib.hid hl1
      clear hx hcells hi hls hl1
      obtain ⟨yb, hy, hd⟩ := flip_byte xb j (by omega)
      rw [HX.out] at hy
      have hne := fun k => chk_flip k l1 l2 xb yb _ (pow_cases j (by omega) _ rfl) hd
      rw [← hls0.out] at hne
      have HNE := Lib.hid hne
      have HO2 := Lib.hid (own_store (k := i) HO.out (.int .u8 (yb.toNat : Int)))
      have HY := Lib.hid hy
      clear hne hy hd
      go_region
      go_wp2_with fail
      rw [HY.out, hr, hq]
      clear hq hr hfr hcell
      have hset : (l.map u8).set i (.int .u8 (yb.toNat : Int)) = (l1 ++ yb :: l2).map u8 := by
        rw [HLS.out, ← HL1.out]
        simp [u8]
      rw [hset] at HO2
      have HBW := Lib.hid (show Below w.heap.size w ((w1.setCell ⟨g, i, none⟩ (.int .u8 (yb.toNat : Int))).drew) from below_drew (HB1.out.setCell hgb _))
      clear hset
      go_loopw [7] (fun i wr => ∃ k : Int, 1 ≤ k ∧ k ≤ 4 ∧ i = .int .i64 k ∧ wr.ownsRow w.heap.size 5 1 (.slice (some ⟨g, 0, none⟩) n cap) n ((l1 ++ yb :: l2).map u8) ∧ Below w.heap.size w wr) (fun i _ => (4 - intOf i).toNat)
      case atStart => exact ⟨1, by omega, by omega, rfl, own_drew HO2.out, HBW.out⟩
      case round =>
        obtain ⟨k, hk1, hk4, rfl, hown, hbw⟩ := hrel
        have HO3 := Lib.hid hown
        have HB3 := Lib.hid hbw
        clear hown hbw
        by_cases hk : k ≤ 3
        · have hneq : (chkS k l == chkS k (l1 ++ yb :: l2)) = false := by rw [beq_eq_false_iff_ne]; exact HNE.out k
          go_wp2_with fail
          (with_reducible refine (ofx_ok k ⟨hk1, hk⟩ A n c l _ HL.out (by omega) ((HB.out.below HB3.out).more HB3.out.size)).mono ?_); rintro e w4 ⟨rfl, b4⟩
          have HO4 := Lib.hid (own_BS (own_none HO3.out (grown_of_below b4)))
          have HB4 := Lib.hid (HB3.out.trans (b4.mono HB3.out.size))
          have HO5 := Lib.hid (own_none HO3.out (grown_of_below b4))
          clear b4
          go_wp2_with fail
          (with_reducible refine (ofx_ok k ⟨hk1, hk⟩ _ n cap (l1 ++ yb :: l2) _ (HLEN yb).out (by omega) HO4.out).mono ?_); rintro e w5 ⟨rfl, b5⟩
          have HB5 := Lib.hid (HB4.out.trans (b5.mono HB4.out.size))
          have HO6 := Lib.hid (own_none HO5.out (grown_of_below b5))
          clear b5
          go_wp2_with fail
          go_roundw
          case rel => exact ⟨k + 1, by omega, by omega, by go_num, HO6.out, HB5.out⟩
          case measure => simp [intOf]; omega
        · go_wp2_with (go_at_call 11; (with_reducible refine (known_any _).mono ?_); rintro e w5 ⟨rfl, b5⟩; have B5 := Lib.hid (HB3.out.trans (b5.mono HB3.out.size)); clear b5)
          go_ret
          exact ⟨rfl, B5.out⟩
    · clear hl hb hbit
      go_enter Try.func5, Try.ntmps5
      go_wp2_with (go_at_call 11; (with_reducible refine (known_any _).mono ?_); rintro e w5 ⟨rfl, b5⟩; have B5 := Lib.hid b5; clear b5)
      go_ret
      exact ⟨rfl, B5.out⟩
  · clear hl hb hbit
    go_enter Try.func5, Try.ntmps5
    go_wp2_with (go_at_call 11; (with_reducible refine (known_any _).mono ?_); rintro e w5 ⟨rfl, b5⟩; have B5 := Lib.hid b5; clear b5)
    go_ret
    exact ⟨rfl, B5.out⟩
end Go.Proofs.Ytcjmeiklfkiibaa
