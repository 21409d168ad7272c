/- The contract of (*Reader).Pad, whole. -/
import Derived.Test.YthgbnpafhkhjpaaPad
namespace Go.Proofs.Ythgbnpafhkhjpaa
open Go.RowKit
set_option linter.unusedVariables false
set_option linter.unusedSimpArgs false

theorem read_rs (B g : Nat) (v : Value) (l : List UInt8) (p : Nat) (cnt : Int) (b n : Nat) (cs : List (Bool × Int)) (w : World) (hr : RS w B g v l p) (hcs : CS w b 0 cs) (hn : cs.length = n) (h0 : 0 < n) (h1 : n ≤ 100) (hz : ∀ c ∈ cs, c.2 ≠ 0) (hnn : firstE cs = 0 → 0 ≤ cnt) :
    Calls Try.prog 46 #[.pointer (some ⟨g, 0, none⟩), .int .i64 cnt, .slice (some ⟨b, 0, none⟩) n n] w fun e w' => ∃ v', e = .returned (.tuple #[.agg #[v', .int .i64 (rN (rE l p cs cnt) cnt)], .int .i64 (rE l p cs cnt)]) ∧ w'.ownsRow w.heap.size 5 1 v' ((rN (rE l p cs cnt) cnt + 7) / 8) ((pack (cut l p (rN (rE l p cs cnt) cnt))).map u8) ∧ Below w.heap.size w w' := by
  by_cases hE : rE l p cs cnt = 0
  · obtain ⟨f1, f2⟩ := firstE_front ([(true, 1)] ++ cs) _ (by intro c hc; simp at hc; rcases hc with rfl | hc; decide; exact hz c hc) hE
    have f3 : firstE cs = 0 := f1
    obtain ⟨c, rfl⟩ : ∃ c : Nat, cnt = c := ⟨cnt.toNat, by have := hnn f3; omega⟩
    have hN : rN (rE l p cs c) c = c := by unfold rN; rw [if_pos hE]; rfl
    rw [hN, hE]
    have hcl : p + c ≤ 8 * l.length := by
      have hp := hr.place
      cases hd : decide ((c : Int) ≤ ((8 * l.length : Nat) : Int) - p)
      · rw [hd] at f2; simp [firstE] at f2
      · simp at hd; omega
    exact read_ok B g v l p c b n cs w hr hcs hn h0 h1 f3 hcl
  · have hN : rN (rE l p cs cnt) cnt = 0 := by unfold rN; rw [if_neg hE]
    rw [hN]
    refine (read_err (some ⟨g, 0, none⟩) cnt _ (rE l p cs cnt) true b n cs w hcs hn h0 h1 (fun W2 h2 => ris_some g _ _ _ _ W2 (hr.below h2 (Nat.le_refl _)).blk) (fun W2 h2 => rleft_some g v _ p W2 (by have := hr.small; omega) hr.place (hr.below h2 (Nat.le_refl _)).blk) rfl (by simpa using hE)).mono ?_
    rintro e w' ⟨rfl, hb⟩
    exact ⟨_, rfl, by rw [show cut l p 0 = [] from rfl, pack_nil]; exact World.ownsRow_nil _ _ 5 1, hb⟩

theorem pack_any (bits : List Bool) : (∃ (j : Nat) (h : j < (pack bits).length), (pack bits)[j] ≠ 0) ↔ true ∈ bits := by
  constructor
  · rintro ⟨j, h, hj⟩
    rw [pack_get] at hj
    apply Classical.byContradiction
    intro hn
    apply hj
    have hz : ∀ i, bits.getD i false = false := fun i => by
      by_cases hi : i < bits.length
      · rw [getD_get _ _ _ hi]
        cases hb : bits[i]
        · rfl
        · exact absurd (hb ▸ List.getElem_mem hi) hn
      · exact getD_out _ _ _ (by omega)
    have : byteV bits j = 0 := by unfold byteV; rw [bitsV8]; simp only [hz, Bool.toNat_false]
    rw [this]
    rfl
  · intro h
    obtain ⟨i, hi, hb⟩ := List.getElem_of_mem h
    have hl : i / 8 < (pack bits).length := by rw [pack_length]; omega
    refine ⟨i / 8, hl, fun e => ?_⟩
    have h1 := bbit_pack bits i (by rw [pack_length]; omega)
    unfold bbit at h1
    rw [getD_get _ _ _ hl, e, getD_get _ _ _ hi, hb] at h1
    simp at h1

def padC (n : Int) : List (Bool × Int) := [(alignOk n, 2)]

set_option maxRecDepth 100000 in
set_option maxHeartbeats 2000000 in
theorem pad_err (p : Option Addr) (n : Int) (m : Nat) (E : Int) (bits : List Bool) (c : Nat) (w : World) (hm : m ≤ 8388608) (hbl : bits.length ≤ 10000) (hne : (E == 0) = false)
    (h23 : ∀ W, Below w.heap.size w W → Calls Try.prog 23 #[.pointer p] W fun e w' => e = .returned (.int .i64 m) ∧ W = w')
    (h46 : ∀ b W, Below w.heap.size w W → CS W b 0 [(alignOk n, 2)] → Calls Try.prog 46 #[.pointer p, .int .i64 (alignN m n : Int), .slice (some ⟨b, 0, none⟩) 1 1] W fun e w' => ∃ v', e = .returned (.tuple #[.agg #[v', .int .i64 c], .int .i64 E]) ∧ w'.ownsRow W.heap.size 5 1 v' ((bits.length + 7) / 8) ((pack bits).map u8) ∧ Below W.heap.size W w') :
    Calls Try.prog 22 #[.pointer p, .int .i64 n] w fun e w' => e = .returned (.int .i64 E) ∧ Below w.heap.size w w' := by
  have C46 := Lib.hid h46
  have C23 := Lib.hid (h23 w (Below.refl _ _))
  have HBL := Lib.hid hbl
  clear h46 h23 hbl
  have hne2 : (E != 0) = true := by simp at hne ⊢; exact hne
  cases ha : alignOk n
  · have hz : alignN m n = 0 := by unfold alignN; rw [ha]; rfl
    rw [ha, hz] at C46
    rw [show ((0 : Nat) : Int) = 0 from rfl] at C46
    have ha2 : (decide (1 ≤ n) && decide (n ≤ 4096)) = false := ha
    go_enter Try.func22, Try.ntmps22
    go_wp2_with (first
      | (go_at_call 37; (with_reducible refine (in_any _ _ _ _).mono ?_); rintro e w1 ⟨rfl, rfl⟩)
      | (go_at_call 46; (refine (C46.out w.heap.size _ ?_ ?_).mono ?_); (· exact (Below.refl _ w).alloc (Nat.le_refl _) _); (· exact cs_at1 rfl); rintro e w1 ⟨v1, rfl, ho, b1⟩; obtain ⟨A1, q1, rfl, -⟩ := own_form ho; have HO := Lib.hid ho; have HB1 := Lib.hid (((Below.refl _ w).alloc (Nat.le_refl _) _).trans (b1.mono (by simp))); clear ho b1))
    go_ret
    exact ⟨rfl, HB1.out.alloc HB1.out.size _⟩
  · have ha1 : 1 ≤ n ∧ n ≤ 4096 := by simpa [alignOk] using ha
    obtain ⟨k, rfl⟩ : ∃ k : Nat, n = k := ⟨n.toNat, by omega⟩
    have ha2 : (decide (1 ≤ (k : Int)) && decide ((k : Int) ≤ 4096)) = true := ha
    have hz : alignN m k = upTo m k := by unfold alignN; rw [ha]; rfl
    rw [ha, hz] at C46
    have hu := upTo_le m k (by omega)
    have CU := Lib.hid (up_any m k (by omega) (by omega) (by omega) w)
    rw [← hu.2] at CU
    have hub : (upTo m k : Int) ≤ 4096 := by omega
    clear hu
    generalize upTo m k = u at *
    have hu0 : (0 : Int) ≤ u := by omega
    have hm0 : (0 : Int) ≤ m := by omega
    have hm1 : (m : Int) ≤ 8388608 := by omega
    have hsub : (m : Int) + u - m = u := by omega
    simp only [Int.natCast_add] at CU
    clear ha1 hz
    go_enter Try.func22, Try.ntmps22
    go_wp2_with (first
      | (go_at_call 37; (with_reducible refine (in_any _ _ _ _).mono ?_); rintro e w1 ⟨rfl, rfl⟩)
      | (go_at_call 23; (with_reducible refine C23.out.mono ?_); rintro e w1 ⟨rfl, rfl⟩)
      | (go_at_call 45; (with_reducible refine CU.out.mono ?_); rintro e w1 ⟨rfl, rfl⟩)
      | (go_at_call 46; (refine (C46.out w.heap.size _ ?_ ?_).mono ?_); (· exact (Below.refl _ w).alloc (Nat.le_refl _) _); (· exact cs_at1 rfl); rintro e w1 ⟨v1, rfl, ho, b1⟩; obtain ⟨A1, q1, rfl, -⟩ := own_form ho; have HO := Lib.hid ho; have HB1 := Lib.hid (((Below.refl _ w).alloc (Nat.le_refl _) _).trans (b1.mono (by simp))); clear ho b1))
    go_ret
    exact ⟨rfl, HB1.out.alloc HB1.out.size _⟩

set_option maxRecDepth 100000 in
set_option maxHeartbeats 2000000 in
theorem pad_six (p : Option Addr) (n : Int) (m : Nat) (E : Int) (bits : List Bool) (c : Nat) (w : World) (hm : m ≤ 8388608) (hbl : bits.length ≤ 10000) (ha : alignOk n = true) (hE : E = 0) (hin : true ∈ bits)
    (h23 : ∀ W, Below w.heap.size w W → Calls Try.prog 23 #[.pointer p] W fun e w' => e = .returned (.int .i64 m) ∧ W = w')
    (h46 : ∀ b W, Below w.heap.size w W → CS W b 0 [(alignOk n, 2)] → Calls Try.prog 46 #[.pointer p, .int .i64 (alignN m n : Int), .slice (some ⟨b, 0, none⟩) 1 1] W fun e w' => ∃ v', e = .returned (.tuple #[.agg #[v', .int .i64 c], .int .i64 E]) ∧ w'.ownsRow W.heap.size 5 1 v' ((bits.length + 7) / 8) ((pack bits).map u8) ∧ Below W.heap.size W w') :
    Calls Try.prog 22 #[.pointer p, .int .i64 n] w fun e w' => e = .returned (.int .i64 6) ∧ Below w.heap.size w w' := by
  have C46 := Lib.hid h46
  have C23 := Lib.hid (h23 w (Below.refl _ _))
  have HBL := Lib.hid hbl
  clear h46 h23 hbl
  have HIN := Lib.hid hin
  clear hin
  subst hE
  have ha1 : 1 ≤ n ∧ n ≤ 4096 := by simpa [alignOk] using ha
  obtain ⟨k, rfl⟩ : ∃ k : Nat, n = k := ⟨n.toNat, by omega⟩
  have ha2 : (decide (1 ≤ (k : Int)) && decide ((k : Int) ≤ 4096)) = true := ha
  have hz : alignN m k = upTo m k := by unfold alignN; rw [ha]; rfl
  rw [ha, hz] at C46
  have hu := upTo_le m k (by omega)
  have CU := Lib.hid (up_any m k (by omega) (by omega) (by omega) w)
  rw [← hu.2] at CU
  have hub : (upTo m k : Int) ≤ 4096 := by omega
  clear hu
  generalize upTo m k = u at *
  have hu0 : (0 : Int) ≤ u := by omega
  have hm0 : (0 : Int) ≤ m := by omega
  have hm1 : (m : Int) ≤ 8388608 := by omega
  have hsub : (m : Int) + u - m = u := by omega
  simp only [Int.natCast_add] at CU
  clear ha1 hz
  go_enter Try.func22, Try.ntmps22
  go_wp2_with (first
      | (go_at_call 37; (with_reducible refine (in_any _ _ _ _).mono ?_); rintro e w1 ⟨rfl, rfl⟩)
      | (go_at_call 23; (with_reducible refine C23.out.mono ?_); rintro e w1 ⟨rfl, rfl⟩)
      | (go_at_call 45; (with_reducible refine CU.out.mono ?_); rintro e w1 ⟨rfl, rfl⟩)
      | (go_at_call 46; (refine (C46.out w.heap.size _ ?_ ?_).mono ?_); (· exact (Below.refl _ w).alloc (Nat.le_refl _) _); (· exact cs_at1 rfl); rintro e w1 ⟨v1, rfl, ho, b1⟩; obtain ⟨A1, q1, rfl, -⟩ := own_form ho; have HO := Lib.hid ho; have HB1 := Lib.hid (((Below.refl _ w).alloc (Nat.le_refl _) _).trans (b1.mono (by simp))); clear ho b1)
      | (go_at_call 47; (refine (contains_any _ _ _ (pack bits) _ ?_ ?_).mono ?_); (· exact Holds.alloc (holds_own HO.out) _); (· have := HBL.out; omega); rintro e w2 ⟨t, rfl, ht, rfl⟩; obtain rfl : t = true := (by have h9 := ht.trans (pack_any bits); have h8 := HIN.out; cases t <;> simp at h9 ⊢ <;> (first | exact absurd h8 h9 | exact absurd h9 h8)); clear ht))
  go_ret
  exact ⟨rfl, HB1.out.alloc HB1.out.size _⟩

set_option maxRecDepth 100000 in
set_option maxHeartbeats 2000000 in
theorem pad_zero (p : Option Addr) (n : Int) (m : Nat) (E : Int) (bits : List Bool) (c : Nat) (w : World) (hm : m ≤ 8388608) (hbl : bits.length ≤ 10000) (ha : alignOk n = true) (hE : E = 0) (hin : true ∉ bits) (g : Nat) (v s a : Value) (hp : p = some ⟨g, 0, none⟩) (hg : Blk w g 66 #[v, s, .int .i64 m, a])
    (h23 : ∀ W, Below w.heap.size w W → Calls Try.prog 23 #[.pointer p] W fun e w' => e = .returned (.int .i64 m) ∧ W = w')
    (h46 : ∀ b W, Below w.heap.size w W → CS W b 0 [(alignOk n, 2)] → Calls Try.prog 46 #[.pointer p, .int .i64 (alignN m n : Int), .slice (some ⟨b, 0, none⟩) 1 1] W fun e w' => ∃ v', e = .returned (.tuple #[.agg #[v', .int .i64 c], .int .i64 E]) ∧ w'.ownsRow W.heap.size 5 1 v' ((bits.length + 7) / 8) ((pack bits).map u8) ∧ Below W.heap.size W w') :
    Calls Try.prog 22 #[.pointer p, .int .i64 n] w fun e w' => e = .returned (.int .i64 0) ∧ ∃ w1, Below w.heap.size w w1 ∧ w' = w1.setCell ⟨g, 2, none⟩ (.int .i64 ((m : Int) + alignN m n)) := by
  have C46 := Lib.hid h46
  have C23 := Lib.hid (h23 w (Below.refl _ _))
  have HBL := Lib.hid hbl
  clear h46 h23 hbl
  have HIN := Lib.hid hin
  have HG := Lib.hid hg
  clear hin hg
  subst hE
  subst hp
  have HZ := Lib.hid (show (alignN m n : Int) = upTo m n.toNat by unfold alignN; rw [ha]; rfl)
  have ha1 : 1 ≤ n ∧ n ≤ 4096 := by simpa [alignOk] using ha
  obtain ⟨k, rfl⟩ : ∃ k : Nat, n = k := ⟨n.toNat, by omega⟩
  have ha2 : (decide (1 ≤ (k : Int)) && decide ((k : Int) ≤ 4096)) = true := ha
  have hz : alignN m k = upTo m k := by unfold alignN; rw [ha]; rfl
  rw [ha, hz] at C46
  have hu := upTo_le m k (by omega)
  have CU := Lib.hid (up_any m k (by omega) (by omega) (by omega) w)
  rw [← hu.2] at CU
  have hub : (upTo m k : Int) ≤ 4096 := by omega
  clear hu
  simp only [Int.toNat_natCast] at HZ
  generalize upTo m k = u at *
  have hu0 : (0 : Int) ≤ u := by omega
  have hm0 : (0 : Int) ≤ m := by omega
  have hm1 : (m : Int) ≤ 8388608 := by omega
  have hsub : (m : Int) + u - m = u := by omega
  simp only [Int.natCast_add] at CU
  clear ha1 hz
  go_enter Try.func22, Try.ntmps22
  go_wp2_with (first
      | (go_at_call 37; (with_reducible refine (in_any _ _ _ _).mono ?_); rintro e w1 ⟨rfl, rfl⟩)
      | (go_at_call 23; (with_reducible refine C23.out.mono ?_); rintro e w1 ⟨rfl, rfl⟩)
      | (go_at_call 45; (with_reducible refine CU.out.mono ?_); rintro e w1 ⟨rfl, rfl⟩)
      | (go_at_call 46; (refine (C46.out w.heap.size _ ?_ ?_).mono ?_); (· exact (Below.refl _ w).alloc (Nat.le_refl _) _); (· exact cs_at1 rfl); rintro e w1 ⟨v1, rfl, ho, b1⟩; obtain ⟨A1, q1, rfl, -⟩ := own_form ho; have HO := Lib.hid ho; have HB1 := Lib.hid (((Below.refl _ w).alloc (Nat.le_refl _) _).trans (b1.mono (by simp))); clear ho b1)
      | (go_at_call 47; (refine (contains_any _ _ _ (pack bits) _ ?_ ?_).mono ?_); (· exact Holds.alloc (holds_own HO.out) _); (· have := HBL.out; omega); rintro e w2 ⟨t, rfl, ht, rfl⟩; obtain rfl : t = false := (by have h9 := ht.trans (pack_any bits); have h8 := HIN.out; cases t <;> simp at h9 ⊢ <;> (first | exact absurd h8 h9 | exact absurd h9 h8)); clear ht; have hk2 := (HG.out.below HB1.out HG.out.lt).alloc (.cells #[.slice A1 ((bits.length + 7) / 8) q1, .int .i64 c] 61); have q2 := hk2.cell 2; have f2 := hk2.frozen 2; simp only [List.getElem?_toArray, List.getElem?_cons_zero, List.getElem?_cons_succ] at q2; clear hk2))
  go_ret
  exact ⟨rfl, _, HB1.out.alloc HB1.out.size _, by rw [HZ.out]⟩
end Go.Proofs.Ythgbnpafhkhjpaa
