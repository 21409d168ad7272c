/- The contract of (*bitString).add. -/
import Derived.Test.YthgbnpafhkhjpaaFrI
import Derived.Lib.AppendZeros
import Derived.Outline
import Derived.WalkLawsBesides
import Derived.BigRegion
namespace Go.Proofs.Ythgbnpafhkhjpaa
open Go.RowKit
set_option linter.unusedVariables false
set_option linter.unusedSimpArgs false

theorem el27 : El Try.prog 27 5 1 := El.mk' (z := .int .u8 0) Try.underlying27 (by kernel_rfl) rfl

/-- A bit put behind the m bits of bytes. -/
def pushB (l : List UInt8) (m : Nat) (b : Bool) : List UInt8 :=
  let l' := if m % 8 = 0 then l ++ [0] else l
  if b then l'.set (m / 8) (UInt8.ofNat ((l'.getD (m / 8) 0).toNat ||| 2 ^ (7 - m % 8))) else l'

theorem pushB_new {l : List UInt8} {m n : Nat} (hn : 8 * n = m) (hl : l.length = n) : (pushB l m false).map u8 = l.map u8 ++ [Value.int .u8 0] ∧ (pushB l m true).map u8 = (l.map u8 ++ [Value.int .u8 0]).set n (Value.int .u8 128) := by
  have h1 : m % 8 = 0 := by omega
  have h2 : m / 8 = l.length := by omega
  constructor
  · simp [pushB, h1]
    rfl
  · simp only [pushB, h1, h2, if_true, List.map_set]
    rw [← hl]
    simp
    rfl

/-- Of what was there only the block g and the row of v may have turned. -/
structure Two (g : Nat) (v : Value) (w w' : World) : Prop where
  os : w'.os = w.os
  tape : w'.tape = w.tape
  output : w'.output = w.output
  size : w.heap.size ≤ w'.heap.size
  block : ∀ k, k < w.heap.size → k ≠ g → v.ownBlock ≠ some k → w'.heap[k]? = w.heap[k]?

theorem own_not_blk {w : World} {B n sz g : Nat} {e t : TypeId} {v : Value} {xs : List Value} {cs : Array Value} (h : w.ownsRow B e sz v n xs) (hg : Blk w g t cs) (hne : e ≠ t) : v.ownBlock ≠ some g := by
  rcases h.2 with ⟨rfl, _⟩ | ⟨g0, cap, cur, rfl, hg0, hh, _⟩
  · intro e; cases e
  · intro e
    simp [Value.ownBlock] at e
    subst e
    unfold Blk at hg
    rw [hg] at hh
    simp at hh
    exact hne (by simp_all)

theorem Two.set {g0 i : Nat} {v u : Value} {w w' : World} {g : Nat} (h : Two g v w w') (hg : g0 = g ∨ v.ownBlock = some g0 ∨ w.heap.size ≤ g0) : Two g v w (w'.setCell ⟨g0, i, none⟩ u) :=
  ⟨h.os, h.tape, h.output, by rw [World.size_setCell]; exact h.size, fun k hk h1 h2 => (Below.heap_setCell _ _ _ _ (by rintro rfl; rcases hg with hg | hg | hg; exact h1 hg; exact h2 hg; exact absurd hk (Nat.not_lt.2 hg))).trans (h.block k hk h1 h2)⟩
theorem Two.drew {v : Value} {w w' : World} {g : Nat} (h : Two g v w w') : Two g v w w'.drew := ⟨h.os, h.tape, h.output, h.size, h.block⟩
theorem Two.refl (g : Nat) (v : Value) (w : World) : Two g v w w := ⟨rfl, rfl, rfl, Nat.le_refl _, fun _ _ _ _ => rfl⟩
theorem Two.grown {g : Nat} {v : Value} {w w' : World} {o : Obj} (h : (w.alloc o).grownBy w' v.ownBlock) : Two g v w w' :=
  ⟨h.os, h.tape, h.output, by have := h.size; simp at this; omega, fun k hk _ h2 => (h.block k (by simp; omega) (fun e => h2 e.symm)).trans (Below.heap_alloc _ _ _ hk)⟩

set_option maxRecDepth 100000 in
set_option maxHeartbeats 2000000 in
theorem add_new (B g : Nat) (t : TypeId) (v : Value) (m n : Nat) (rest : List Value) (l : List UInt8) (b : Bool) (w : World) (hg : Blk w g t ⟨v :: .int .i64 m :: rest⟩) (ho : w.ownsRow B 5 1 v n (l.map u8)) (hn : 8 * n = m) (ht : 5 ≠ t) (hm : m ≤ 8388608) (hB : B ≤ w.heap.size) :
    Calls Try.prog 63 #[.pointer (some ⟨g, 0, none⟩), .bool b] w fun e w' => ∃ r v', e = .returned r ∧ Blk w' g t ⟨v' :: .int .i64 (m + 1 : Nat) :: rest⟩ ∧ w'.ownsRow B 5 1 v' (n + 1) ((pushB l m b).map u8) ∧ Two g v w w' ∧ (v'.ownBlock = v.ownBlock ∨ ∀ k, v'.ownBlock = some k → w.heap.size ≤ k) := by
  have HG := Lib.hid hg
  have HO := Lib.hid ho
  have h0 := hg.cell 0
  have h1 := hg.cell 1
  have f0 := hg.frozen 0
  have f1 := hg.frozen 1
  simp at h0 h1
  have hz : ((m : Int) % 8) = 0 := by omega
  have hq : ((m : Int) / 8) = n := by omega
  have hm2 : (m : Int) ≤ 8388608 := by omega
  have HNE := Lib.hid (own_not_blk ho hg ht)
  have HN := Lib.hid hn
  have hll0 : l.length = n := by have := ho.1; simpa using this
  have HPB := Lib.hid (pushB_new hn hll0)
  clear hll0
  obtain ⟨A, cap, rfl, -⟩ := own_form ho
  clear hg ho hn
  go_enter Try.func63, Try.ntmps63
  go_wp2_with (at_builtin; go_must (refine wpList_app_own (base := B) (n := n) (m := 1) (xs := l.map u8) (news := [.int .u8 0]) rfl (.tmp 14) (.tmp 15) 27 rfl el27 rfl (own_alloc HO.out) rfl (Holds.one _ _ _) (by intro u hu; cases hu with | head => rfl | tail _ h => cases h) (by unfold maxLen; omega) (by omega) (by simp; omega) ?_; intro v2 w2 hown hgr hat; refine Hid.out ?_))
  refine Lib.hid ?_
  have HG2 := Lib.hid ((HG.out.alloc (.cells #[.int .u8 0] 5)).grown hgr (by intro e; exact HNE.out e.symm))
  have HO2 := Lib.hid hown
  have HT2 := Lib.hid (Two.grown (g := g) (v := .slice A n cap) (w := w) hgr)
  obtain ⟨g2, cap2, rfl, hg2B, -, -, -, hcs⟩ := own_holds hown (by omega)
  have hne : g ≠ g2 := fun e => own_not_blk hown HG2.out ht (by simp [Value.ownBlock, e])
  have k0 := HG2.out.cell 0
  have k1 := HG2.out.cell 1
  have kf0 := HG2.out.frozen 0
  have kf1 := HG2.out.frozen 1
  simp at k0 k1
  have hll : l.length = n := by have := HO.out.1; simpa using this
  have hc2 := hcs n (.int .u8 0) (by simp [← hll])
  rw [Addr.add_lit, Nat.zero_add] at hc2
  have kf2 := own_frozen (k := n) hown
  clear hcs hown hgr h0 h1 f0 f1
  have HL := Lib.hid hll
  clear hll
  have HAT := Lib.hid (show (Value.slice (some ⟨g2, 0, none⟩) (n + 1) cap2).ownBlock = (Value.slice A n cap).ownBlock ∨ ∀ k, (Value.slice (some ⟨g2, 0, none⟩) (n + 1) cap2).ownBlock = some k → w.heap.size ≤ k from by
    rcases hat with h | h
    · exact .inl h
    · refine .inr fun k hk => ?_
      simp [Value.ownBlock] at h hk
      omega)
  cases b
  · clear hat
    go_wp2_with fail
    go_end0
    rw [HPB.out.1]
    refine ⟨_, _, rfl, ?_, own_setCell (own_setCell HO2.out (own_not_blk HO2.out HG2.out ht) _) (own_not_blk HO2.out HG2.out ht) _, (HT2.out.set (.inl rfl)).set (.inl rfl), HAT.out⟩
    have := (HG2.out.set_ 0 (.slice (some ⟨g2, 0, none⟩) (n + 1) cap2)).set_ 1 (.int .i64 ((m : Int) + 1))
    simpa using this
  · have HG3 := Lib.hid (HG2.out.set_ 0 (.slice (some ⟨g2, 0, none⟩) (n + 1) cap2))
    have HO3 := Lib.hid (own_setCell (a := ⟨g, 0, none⟩) HO2.out (own_not_blk HO2.out HG2.out ht) (.slice (some ⟨g2, 0, none⟩) (n + 1) cap2))
    go_wp2_with fail
    obtain ⟨W3, hW3⟩ : ∃ W3, w2.setCell ⟨g, 0, none⟩ (.slice (some ⟨g2, 0, none⟩) (n + 1) cap2) = W3 := ⟨_, rfl⟩
    rw [hW3] at HG3 HO3 ⊢
    clear k0 k1 kf0 kf1 hc2 kf2
    have k0 := HG3.out.cell 0
    have k1 := HG3.out.cell 1
    have kf1 := HG3.out.frozen 1
    have hll := HL.out
    obtain ⟨_, _, hv3, -, -, -, -, hcs⟩ := own_holds HO3.out (by omega)
    cases hv3
    have hc2 := hcs n (.int .u8 0) (by simp [← hll])
    rw [Addr.add_lit, Nat.zero_add] at hc2
    have kf2 := own_frozen (k := n) HO3.out
    clear hcs hll
    simp at k0 k1
    have hb : Go.bits BinOp.or IntKind.u8 0 128 = 128 := by decide +kernel
    have HT3 := Lib.hid (show Two g (.slice A n cap) w W3 from hW3 ▸ HT2.out.set (.inl rfl))
    have HOW := Lib.hid (show g2 = g ∨ (Value.slice A n cap).ownBlock = some g2 ∨ w.heap.size ≤ g2 from by
      rcases hat with h | h
      · exact .inr (.inl h.symm)
      · simp [Value.ownBlock] at h; omega)
    clear hW3 hat
    go_region
    have HG4 := Lib.hid (HG3.out.far (p := ⟨g2, n, none⟩) hne (.int .u8 128)).drew
    have HO4 := Lib.hid (own_drew (own_store HO3.out (k := n) (.int .u8 128)))
    rw [← HPB.out.2] at HO4
    have HT4 := Lib.hid (HT3.out.set (i := n) (u := .int .u8 128) HOW.out).drew
    obtain ⟨W4, hW4⟩ : ∃ W4, (W3.setCell ⟨g2, n, none⟩ (.int .u8 128)).drew = W4 := ⟨_, rfl⟩
    rw [hW4] at HG4 HO4 HT4 ⊢
    clear hW4 k0 k1 kf1 hc2 kf2
    have k1 := HG4.out.cell 1
    have kf1 := HG4.out.frozen 1
    simp at k1
    go_wp2_with fail
    go_end0
    refine ⟨_, _, rfl, ?_, own_setCell HO4.out (own_not_blk HO4.out HG4.out ht) _, HT4.out.set (.inl rfl), HAT.out⟩
    have := HG4.out.set_ 1 (.int .i64 ((m : Int) + 1))
    simpa using this
end Go.Proofs.Ythgbnpafhkhjpaa
