/- The iterator of a bit string's bits from a place on. -/
import Derived.Test.YthgbnpafhkhjpaaOfI
namespace Go.Proofs.Ythgbnpafhkhjpaa
open Go.RowKit
attribute [local go_sem] wide_fn wide_depth wide_fn_in wide_depth_in
set_option linter.unusedVariables false
set_option linter.unusedSimpArgs false

/-- Bit i of bytes. -/
def bbit (l : List UInt8) (i : Nat) : Bool := (l.getD (i / 8) 0).toNat / 2 ^ (7 - i % 8) % 2 == 1

/-- What an iterator over a bit string reads: the box of its pointer, the string's own block, its bytes. -/
structure FromS (Sb g : Nat) (A : Option Addr) (X Y : World) : Prop where
  box : Y.heap[Sb]? = X.heap[Sb]?
  own : Y.heap[g]? = X.heap[g]?
  row : ∀ b, A = some b → Y.heap[b.block]? = X.heap[b.block]?
theorem FromS.refl (Sb g : Nat) (A : Option Addr) (X : World) : FromS Sb g A X X := ⟨rfl, rfl, fun _ _ => rfl⟩
theorem FromS.trans {Sb g : Nat} {A : Option Addr} {X Y Z : World} (h : FromS Sb g A X Y) (k : FromS Sb g A Y Z) : FromS Sb g A X Z := ⟨k.box.trans h.box, k.own.trans h.own, fun b hb => (k.row b hb).trans (h.row b hb)⟩

theorem bs_cell {w : World} {A : Option Addr} {n : Nat} {xs : List Value} {u : Value} (h : Holds w A n xs) {i : Nat} (hi : i < n) (hu : xs[i]? = some u) : ∃ b o, A = some ⟨b, o, none⟩ ∧ w.cell? ⟨b, o + i, none⟩ = some u := by
  cases A with
  | none => have := (h.2.1 rfl).1; omega
  | some p =>
    have hl : xs.length = n := by have := h.1; simpa using this
    have h0 : 0 < xs.length := by omega
    have hc0 := h.2.2 _ rfl 0 xs[0] (by simp)
    have hc := h.2.2 _ rfl i _ hu
    obtain ⟨b, o, spot⟩ := p
    have hs : spot = none := by simpa [Addr.add] using World.cell?_spot hc0
    subst hs
    rw [Addr.add_lit] at hc
    exact ⟨b, o, rfl, hc⟩

theorem u8_and_one (x : Nat) (hx : x < 256) : bits .and .u8 (x : Int) 1 = ((x % 2 : Nat) : Int) := by
  have : ∀ y : Fin 256, bits .and .u8 ((y.val : Nat) : Int) 1 = ((y.val % 2 : Nat) : Int) := by decide +kernel
  exact this ⟨x, hx⟩

set_option maxRecDepth 100000 in
set_option maxHeartbeats 2000000 in
theorem from_iter (n : Nat) (W : World) (Pb Sb g : Nat) (t : TypeId) (cs : Array Value) (p m N c : Nat) (A : Option Addr) (l : List UInt8) (hP : Blk W Pb 3 #[.int .i64 p]) (hS : Blk W Sb 98 #[.pointer (some ⟨g, 0, none⟩)]) (hg : Blk W g t cs) (h0 : cs[0]? = some (.slice A N c)) (h1 : cs[1]? = some (.int .i64 m)) (hb : Holds W A N (l.map u8)) (hm : m ≤ 8 * N) (hm2 : m ≤ 10000000) :
    Iter Fence.wide n Try.prog 65 #[.pointer (some ⟨Pb, 0, none⟩), .pointer (some ⟨Sb, 0, none⟩)] (fun i vs _ => vs = #[.bool (bbit l (p + i))]) (fun _ X Y => FromS Sb g A X Y) (fun X Y => X = Y) (m - p) W := by
  intro L J Jx hJ hJx hY hj0
  have HY := Lib.hid hY
  have HP := Lib.hid hP
  have HS := Lib.hid hS
  have HG := Lib.hid hg
  have HH := Lib.hid hb
  have hl : l.length = N := by have := hb.1; simpa using this
  have HC0 := Lib.hid h0
  have HC1 := Lib.hid h1
  have HM := Lib.hid hm
  have HL := Lib.hid hl
  have hc1 := hP.cell 0
  simp at hc1
  have hpp : (0 : Int) ≤ p := by omega
  clear hY hJ hJx hP hS hg hb h0 h1 hm hl
  refine callsIn_of_wp Try.func65 rfl trivial ?_ rfl
  simp only [Try.ntmps65, List.size_toArray, List.length_cons, List.length_nil, Nat.reduceAdd, Nat.reduceSub, Array.replicate_succ, Array.replicate_zero, List.push_toArray, List.append_toArray, List.nil_append, List.cons_append]
  gi_wp2_with fail
  gi_loopw [4] (fun r wr => ∃ i : Nat, i ≤ m - p ∧ r = .int .i64 ((p : Int) + i) ∧ J i wr ∧ Hid (FromS Sb g A W wr)) (fun r _ => (m - (intOf r)).toNat)
  case atStart => exact ⟨0, Nat.zero_le _, by simp, hj0, Lib.hid (FromS.refl _ _ _ _)⟩
  clear hc1
  case round =>
    obtain ⟨i, hi, rfl, hJi, HF⟩ := hrel
    have hs := (show Blk wr Sb 98 _ from HF.out.box.trans HS.out).cell 0
    have hgr := Lib.hid (show Blk wr g t cs from HF.out.own.trans HG.out)
    have hg0 := (hgr.out.cell 0).trans HC0.out
    have hg1 := (hgr.out.cell 1).trans HC1.out
    simp at hs
    by_cases hlt : (p : Int) + i < m
    · have hil : i < m - p := by omega
      have hq : (p + i) / 8 < N := by have := HM.out; omega
      have hql : (p + i) / 8 < l.length := by rw [HL.out]; exact hq
      obtain ⟨b, o, rfl, hcb⟩ := bs_cell HH.out hq (show (l.map Ythgbnpafhkhjpaa.u8)[(p + i) / 8]? = some (Ythgbnpafhkhjpaa.u8 l[(p + i) / 8]) by rw [List.getElem?_map, List.getElem?_eq_getElem hql]; rfl)
      have hcb2 := (World.cell?_of_block (w := W) (a := ⟨b, o + (p + i) / 8, none⟩) (HF.out.row ⟨b, o, none⟩ rfl)).trans hcb
      unfold Ythgbnpafhkhjpaa.u8 at hcb2
      have hbb : bbit l (p + i) = (l[(p + i) / 8].toNat / 2 ^ (7 - (p + i) % 8) % 2 == 1) := by
        unfold bbit
        rw [List.getD_eq_getElem?_getD, List.getElem?_eq_getElem hql]
        rfl
      have hx0 : (l[(p + i) / 8].toNat) < 256 := l[(p + i) / 8].toNat_lt
      generalize l[(p + i) / 8].toNat = x at *
      obtain ⟨q, hq1⟩ : ∃ q : Nat, (p + i) / 8 = q := ⟨_, rfl⟩
      obtain ⟨r, hr1⟩ : ∃ r : Nat, 7 - (p + i) % 8 = r := ⟨_, rfl⟩
      rw [hq1] at hcb2 hq
      rw [hr1] at hbb
      have e1 : ((p : Int) + i) / 8 = q := by omega
      have e2 : (7 : Int) - ((p : Int) + i) % 8 = r := by omega
      have e3 : (0 : Int) ≤ r ∧ (r : Int) < 8 := by omega
      have e4 : (q : Int) < N := by omega
      obtain ⟨y, hy1⟩ : ∃ y : Nat, x / 2 ^ r = y := ⟨_, rfl⟩
      rw [hy1] at hbb
      have hxi : (x : Int) / 2 ^ r = y := by rw [← hy1]; simp
      have hyb : y < 256 := by have := Nat.div_le_self x (2 ^ r); omega
      have ha : Go.bits BinOp.and IntKind.u8 (y : Int) 1 = ((y % 2 : Nat) : Int) := u8_and_one y hyb
      have hb2 : (((y : Int) % 2) == 1) = bbit l (p + i) := by
        rw [hbb, Bool.eq_iff_iff]
        simp
        omega
      obtain ⟨fn, tm, asg, bod, hyr, hR⟩ := HY.out i hil #[.bool (bbit l (p + i))] wr hJi rfl
      have HR := Lib.hid hR
      generalize bbit l (p + i) = B at *
      clear hR hy1 hq1 hr1 hbb hcb hql hil
      gi_wp2_with fail
      refine HR.out.mono ?_
      clear hyr
      rintro e w3 ⟨-, (⟨rfl, hJ3, hK3⟩ | ⟨rfl, hJx3⟩)⟩
      · have HF3 := Lib.hid (HF.out.trans hK3)
        gi_wp2_with fail
        exact ⟨⟨i + 1, by omega, congrArg (Value.int .i64) (by omega), hJ3, HF3⟩, by simp [intOf]; omega⟩
      · gi_wp2_with fail
        refine bodyPost_ret (results_none rfl _ _ _) rfl ?_
        exact ⟨⟨_, rfl⟩, .inr ⟨i, by omega, hJx3⟩⟩
    · obtain rfl : i = m - p := by omega
      gi_wp2_with fail
      go_end0
      exact ⟨⟨_, rfl⟩, .inl hJi⟩
end Go.Proofs.Ythgbnpafhkhjpaa
