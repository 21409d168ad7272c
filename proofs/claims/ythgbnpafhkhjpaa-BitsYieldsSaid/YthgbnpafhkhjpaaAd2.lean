/- The contract of (*bitString).add: a bit of a byte that is there. -/
import Derived.Test.YthgbnpafhkhjpaaAdd
namespace Go.Proofs.Ythgbnpafhkhjpaa
open Go.RowKit
set_option linter.unusedVariables false
set_option linter.unusedSimpArgs false

theorem ofInt_u8 (a : Nat) (ha : a < 256) : (BitVec.ofInt 8 (a : Int)).toNat = a := by simp; omega
theorem u8_or_nat (a b : Nat) (ha : a < 256) (hb : b < 256) : bits .or .u8 (a : Int) (b : Int) = ((a ||| b : Nat) : Int) := by
  have hx : a ||| b < 2 ^ 8 := Nat.or_lt_two_pow (by omega) (by omega)
  show IntKind.u8.wrap ((BitVec.ofInt 8 (a : Int) ||| BitVec.ofInt 8 (b : Int)).toNat : Int) = _
  rw [BitVec.toNat_or, ofInt_u8 a ha, ofInt_u8 b hb]
  simp [IntKind.wrap, IntKind.signed, IntKind.bits]
  omega

set_option maxRecDepth 100000 in
set_option maxHeartbeats 4000000 in
theorem add_in (B g : Nat) (t : TypeId) (v : Value) (m n : Nat) (rest : List Value) (l : List UInt8) (b : Bool) (w : World) (hg : Blk w g t ⟨v :: .int .i64 m :: rest⟩) (ho : w.ownsRow B 5 1 v n (l.map u8)) (hn : (m + 7) / 8 = n) (hr : m % 8 ≠ 0) (ht : 5 ≠ t) (hm : m ≤ 8388608) :
    Calls Try.prog 63 #[.pointer (some ⟨g, 0, none⟩), .bool b] w fun e w' => ∃ r v', e = .returned r ∧ Blk w' g t ⟨v' :: .int .i64 (m + 1 : Nat) :: rest⟩ ∧ w'.ownsRow B 5 1 v' n ((pushB l m b).map u8) ∧ Two g v w w' ∧ (v'.ownBlock = v.ownBlock ∨ ∀ k, v'.ownBlock = some k → w.heap.size ≤ k) := by
  have HG := Lib.hid hg
  have HO := Lib.hid ho
  have h0 := hg.cell 0
  have h1 := hg.cell 1
  have f1 := hg.frozen 1
  simp at h0 h1
  have hll : l.length = n := by have := ho.1; simpa using this
  obtain ⟨g2, cap, rfl, -, -, -, -, hcs⟩ := own_holds ho (by omega)
  obtain ⟨q, hq⟩ : ∃ q, m / 8 = q := ⟨_, rfl⟩
  have hql : q < l.length := by omega
  have hc2 := hcs q (Ythgbnpafhkhjpaa.u8 l[q]) (by rw [List.getElem?_map, List.getElem?_eq_getElem hql]; rfl)
  rw [Addr.add_lit, Nat.zero_add] at hc2
  unfold Ythgbnpafhkhjpaa.u8 at hc2
  have kf2 := own_frozen (k := q) ho
  have hne : g ≠ g2 := fun e => own_not_blk ho hg ht (by simp [Value.ownBlock, e])
  obtain ⟨r, hr2⟩ : ∃ r, 7 - m % 8 = r := ⟨_, rfl⟩
  have hr7 : r < 7 := by omega
  have HPF := Lib.hid (show (pushB l m false).map u8 = l.map u8 by simp [pushB, hr])
  have HPT := Lib.hid (show (pushB l m true).map u8 = (l.map u8).set q (.int .u8 ((l[q].toNat ||| 2 ^ r : Nat) : Int)) by
    simp only [pushB, hr, hq, hr2, if_true, if_false, List.map_set]
    congr 1
    rw [List.getD_eq_getElem?_getD, List.getElem?_eq_getElem hql]
    have hx := l[q].toNat_lt
    have h2 : 2 ^ r < 2 ^ 8 := Nat.pow_lt_pow_right (by omega) (by omega)
    have : l[q].toNat ||| 2 ^ r < 2 ^ 8 := Nat.or_lt_two_pow (by omega) h2
    have h3 : (l[q].toNat ||| 2 ^ r) % 256 = l[q].toNat ||| 2 ^ r := Nat.mod_eq_of_lt this
    show Value.int .u8 (((UInt8.ofNat (l[q].toNat ||| 2 ^ r)).toNat : Nat) : Int) = _
    rw [UInt8.toNat_ofNat', h3])
  have hx0 := l[q].toNat_lt
  generalize l[q].toNat = x at *
  have h2r : 2 ^ r < 2 ^ 8 := Nat.pow_lt_pow_right (by omega) (by omega)
  have hor := u8_or_nat x (2 ^ r) hx0 (by omega)
  have HOR := Lib.hid hor
  clear hor h2r
  have hz : ((m : Int) % 8 == 0) = false := by simp; omega
  have hz1 : (m : Int) % 8 = 7 - r := by omega
  have hq1 : ((m : Int) / 8) = q := by omega
  have hqn : (q : Int) < n := by omega
  have hm2 : (m : Int) ≤ 8388608 := by omega
  clear hg ho hn hcs hql hr hq hr2 hll
  go_enter Try.func63, Try.ntmps63
  cases b
  · go_wp2_with fail
    go_end0
    rw [HPF.out]
    refine ⟨_, _, rfl, ?_, own_setCell HO.out (own_not_blk HO.out HG.out ht) _, (Two.refl _ _ _).set (.inl rfl), .inl rfl⟩
    have := HG.out.set_ 1 (.int .i64 ((m : Int) + 1))
    simpa using this
  · have HSO := Lib.hid (own_drew (own_store HO.out (k := q) (.int .u8 ((x ||| 2 ^ r : Nat) : Int))))
    rw [← HPT.out] at HSO
    generalize x ||| 2 ^ r = z at *
    have HG4 := Lib.hid (HG.out.far (p := ⟨g2, q, none⟩) hne (.int .u8 (z : Int))).drew
    have HT4 := Lib.hid ((Two.refl g (.slice (some ⟨g2, 0, none⟩) n cap) w).set (g0 := g2) (i := q) (u := .int .u8 (z : Int)) (.inr (.inl rfl))).drew
    clear HPT HPF
    have hor := HOR.out
    rcases (show r = 0 ∨ r = 1 ∨ r = 2 ∨ r = 3 ∨ r = 4 ∨ r = 5 ∨ r = 6 by omega) with rfl | rfl | rfl | rfl | rfl | rfl | rfl
    all_goals
      simp at hor hz1
      go_wp2_with fail
      go_region
      obtain ⟨W4, hW4⟩ : ∃ W4, (w.setCell ⟨g2, q, none⟩ (.int .u8 (z : Int))).drew = W4 := ⟨_, rfl⟩
      rw [hW4] at HG4 HSO HT4 ⊢
      clear hW4 h0 h1 f1 hc2 kf2
      have k1 := HG4.out.cell 1
      have kf1 := HG4.out.frozen 1
      simp at k1
      go_wp2_with fail
      go_end0
      refine ⟨_, _, rfl, ?_, own_setCell HSO.out (own_not_blk HSO.out HG4.out ht) _, HT4.out.set (.inl rfl), .inl rfl⟩
      have := HG4.out.set_ 1 (.int .i64 ((m : Int) + 1))
      simpa using this
end Go.Proofs.Ythgbnpafhkhjpaa
