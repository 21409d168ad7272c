/- The reference's Join, Equal. -/
import Derived.Test.YtkihoekldklkhaaDoorTt
namespace Go.Proofs.YtkihoekldklkhaaDoor
open Go.RowKit
set_option linter.unusedVariables false
set_option linter.unusedSimpArgs false

def RdC (x : Td) : List Value := [.int .i64 x.k, .string ⟨x.t.toArray⟩, .int .i64 x.v, .int .i64 0]
theorem rd_get (xs : List Td) : ∀ (i : Nat) (hi : i < xs.length), (xs.flatMap RdC)[i * 4]? = some (.int .i64 (xs[i]).k) ∧ (xs.flatMap RdC)[i * 4 + 1]? = some (.string ⟨(xs[i]).t.toArray⟩) ∧ (xs.flatMap RdC)[i * 4 + 2]? = some (.int .i64 (xs[i]).v) ∧ (xs.flatMap RdC)[i * 4 + 3]? = some (.int .i64 0) := by
  induction xs with
  | nil => intro i hi; simp at hi
  | cons d ds ih =>
    intro i hi
    cases i with
    | zero => simp [RdC]
    | succ i =>
      have := ih i (by simpa using hi)
      have e : (i + 1) * 4 = 4 + i * 4 := by omega
      have h3 : (RdC d).length = 4 := rfl
      simp only [List.flatMap_cons, List.getElem_cons_succ]
      rw [e, List.getElem?_append_right (by omega), List.getElem?_append_right (by omega), List.getElem?_append_right (by omega), List.getElem?_append_right (by omega), h3]
      simpa [Nat.add_assoc] using this
theorem joinT_succ {xs : List Td} {i : Nat} (h1 : i + 1 < xs.length) : joinT (xs.take (i + 2)) = (joinT (xs.take (i + 1)) ++ [32]) ++ (xs[i + 1]).wh := by
  cases xs with
  | nil => simp at h1
  | cons x r =>
    have hr : i < r.length := by simpa using h1
    unfold joinT
    rw [List.take_succ_cons, List.take_succ_cons, List.map_cons, List.map_cons, Lib.join_cons, Lib.join_cons, List.map_take, List.map_take, Lib.joinTail_take_succ [32] (r.map Td.wh) i (r[i]).wh (by rw [List.getElem?_map, List.getElem?_eq_getElem hr]; rfl)]
    simp
theorem joinT_one {xs : List Td} (h1 : 0 < xs.length) : joinT (xs.take 1) = (xs[0]).wh := by
  cases xs with
  | nil => simp at h1
  | cons x r => unfold joinT; simp [Lib.join_one]
theorem catL (a b : List UInt8) : (⟨a.toArray⟩ : ByteArray) ++ ⟨b.toArray⟩ = ⟨(a ++ b).toArray⟩ := by
  apply ByteArray.ext
  simp
set_option maxRecDepth 100000 in
set_option maxHeartbeats 1000000 in
theorem rjoin_any (A : Option Addr) (n c : Nat) (xs : List Td) (w : World) (h : HoldsS w 4 A n (xs.flatMap RdC)) (hlen : xs.length = n) (hn : n ≤ 1000) (ht : ∀ x ∈ xs, x.t.length ≤ 1000) :
    Calls Tryd.prog 23 #[.slice A n c] w (JoinE xs w) := by
  have HH := Lib.hid h
  have HL := Lib.hid hlen
  have HT := Lib.hid ht
  have hn0 : (n : Int) ≤ 1000 := by omega
  have HN := Lib.hid hn
  clear h hlen ht hn
  go_enter Tryd.func23, Tryd.ntmps23
  go_wp2_with fail
  go_loopw [4, 5] (fun sv iv wr => ∃ (i : Nat) (s : List UInt8), (i : Int) ≤ n ∧ iv = .int .i64 i ∧ sv = .string ⟨s.toArray⟩ ∧ Hid (s = joinT (xs.take i)) ∧ Hid ((xs.take i).all oneT = true) ∧ Hid (Below w.heap.size w wr)) (fun _ iv _ => n - (intOf iv).toNat)
  case atStart => exact ⟨0, [], by omega, rfl, rfl, Lib.hid rfl, Lib.hid rfl, Lib.hid (Below.refl _ _)⟩
  case round =>
    obtain ⟨i, s, hi, rfl, rfl, HS, HAL, HBL⟩ := hrel
    by_cases hlt : (i : Int) < n
    · have hi1 : i < xs.length := by rw [HL.out]; omega
      have hA : ∃ b, A = some b := by
        cases A with
        | none => have := HH.out.2.1 rfl; omega
        | some b => exact ⟨b, rfl⟩
      obtain ⟨⟨gb, go, gs⟩, rfl⟩ := hA
      obtain ⟨l0, l1, l2, l3⟩ := rd_get xs i hi1
      have hh := HH.out
      have key : ∀ {k : Nat} {u : Value}, (xs.flatMap RdC)[k]? = some u → wr.cell? ((⟨gb, go, gs⟩ : Addr).add k) = some u := fun {k u} hk => by
        have h9 := hh.2.2 _ rfl k u hk
        exact (HBL.out.cell (World.block_lt_of_cell? _ _ h9)).trans h9
      have hgs : gs = none := by have := World.cell?_spot (key (rd_get xs 0 (by omega)).1); simpa [Addr.add] using this
      subst hgs
      have f0 := key l0
      have f1 := key l1
      have f2 := key l2
      have f3 := key l3
      rw [Addr.add_lit] at f0 f1 f2 f3
      rw [← Nat.add_assoc] at f1 f2 f3
      have hTl := HT.out _ (List.getElem_mem hi1)
      have hJl := joinT_len (xs.take i) 1000 (fun x hx => HT.out x (List.mem_of_mem_take hx))
      rw [List.length_take] at hJl
      have hsl : s.length ≤ 2000000 := by
        rw [HS.out]
        have : min i xs.length * (1000 + 3) ≤ 1000 * 1003 := Nat.mul_le_mul (by have := HN.out; omega) (Nat.le_refl _)
        omega
      have htk1 : xs.take (i + 1) = xs.take i ++ [xs[i]] := List.take_succ_eq_append_getElem hi1
      have HAL1 : Hid (oneT xs[i] = true → (xs.take (i + 1)).all oneT = true) := Lib.hid (fun h1 => by rw [htk1, List.all_append, HAL.out]; simp [h1])
      have HALL : Hid (oneT xs[i] = false → xs.all oneT = false) := Lib.hid (fun h1 => by
        rw [List.all_eq_false]
        exact ⟨xs[i], List.getElem_mem hi1, by rw [h1]; simp⟩)
      have HJS : Hid (joinT (xs.take (i + 1)) = if i = 0 then (xs[i]).wh else (s ++ [32]) ++ (xs[i]).wh) := Lib.hid (by
        rw [HS.out]
        cases i with
        | zero => rw [if_pos rfl]; exact joinT_one hi1
        | succ i => rw [if_neg (by omega)]; exact joinT_succ hi1)
      generalize hx : xs[i] = x at *
      have hwl := wh_len x
      have C45 := Lib.hid (fun W => one_any x.k x.v 0 x.t W (by omega))
      have C46 := Lib.hid (fun W => rwhole_any x.k x.t x.v 0 W (by omega))
      have hwx : wholeL x.k x.t = x.wh := rfl
      rw [hwx] at C46
      have hox : oneK x.k x.t x.v = oneT x := rfl
      rw [hox] at C45
      have cA := catL s [32]
      have cB := catL (s ++ [32]) x.wh
      have cC := catL s x.wh
      have z0 := Lib.size_mk s
      have z1 := Lib.size_mk (s ++ [32])
      have z2 := Lib.size_mk x.wh
      have z3 : (⟨#[32]⟩ : ByteArray).size = 1 := rfl
      have z4 : (⟨[(32 : UInt8)].toArray⟩ : ByteArray) = ⟨#[32]⟩ := rfl
      rw [z4] at cA
      rw [List.length_append, List.length_singleton] at z1
      clear l0 l1 l2 l3 hh key hx hi1 hwx hox htk1 z4 hJl
      obtain ⟨ox, hox⟩ : ∃ ox, oneT x = ox := ⟨_, rfl⟩
      rw [hox] at HAL1 HALL C45
      clear hox
      generalize x.k = k at *
      generalize x.v = v at *
      generalize (⟨x.t.toArray⟩ : ByteArray) = St at *
      cases ox with
      | false =>
        clear cA cB cC z0 z1 z2 z3 hwl hTl hsl
        go_wp2_with (go_at_call 45; (with_reducible refine (C45.out _).mono ?_); rintro e w1 ⟨rfl, hb1⟩; have HB1 := Lib.hid (HBL.out.trans (hb1.mono HBL.out.size)); skip; clear hb1)
        go_ret2
        refine ⟨HB1.out, ?_⟩
        rw [if_neg (by rw [HALL.out (by first | rfl | trivial)]; simp)]
        rfl
      | true =>
        by_cases h0 : i = 0
        · have hs0 : s = [] := by rw [HS.out, h0]; rfl
          subst hs0
          have cC' : (⟨([] : List UInt8).toArray⟩ : ByteArray) ++ ⟨x.wh.toArray⟩ = ⟨x.wh.toArray⟩ := cC
          have HNS : Hid (x.wh = joinT (xs.take (i + 1))) := Lib.hid (by rw [HJS.out, if_pos h0])
          have q0 : decide (0 < i) = false := by simp; omega
          have z9 : ((⟨([] : List UInt8).toArray⟩ : ByteArray)).size = 0 := rfl
          generalize (⟨([] : List UInt8).toArray⟩ : ByteArray) = S0 at *
          obtain ⟨Sw, hSw⟩ : ∃ Sw, (⟨x.wh.toArray⟩ : ByteArray) = Sw := ⟨_, rfl⟩
          rw [hSw] at cC' z2 C46
          have HSW := Lib.hid hSw
          clear cA cB cC z0 z1 hSw h0
          go_wp2_with (first | (go_at_call 45; (with_reducible refine (C45.out _).mono ?_); rintro e w1 ⟨rfl, hb1⟩; have HB1 := Lib.hid (HBL.out.trans (hb1.mono HBL.out.size)); have d0 := (hb1.cell (World.block_lt_of_cell? _ _ f0)).trans f0; have d1 := (hb1.cell (World.block_lt_of_cell? _ _ f1)).trans f1; have d2 := (hb1.cell (World.block_lt_of_cell? _ _ f2)).trans f2; have d3 := (hb1.cell (World.block_lt_of_cell? _ _ f3)).trans f3; clear hb1) | (go_at_call 46; (with_reducible refine (C46.out _).mono ?_); rintro e w2 ⟨rfl, hb2⟩; have HB2 := Lib.hid (HB1.out.trans (hb2.mono HB1.out.size)); clear hb2))
          go_roundw
          case rel => exact ⟨i + 1, x.wh, by omega, by go_num, by rw [HSW.out], HNS, Lib.hid (HAL1.out (by first | rfl | trivial)), HB2⟩
          case measure => simp [intOf]; omega
        · have HNS : Hid ((s ++ [32]) ++ x.wh = joinT (xs.take (i + 1))) := Lib.hid (by rw [HJS.out, if_neg h0])
          have q0 : decide (0 < i) = true := by simp; omega
          obtain ⟨Sw, hSw⟩ : ∃ Sw, (⟨x.wh.toArray⟩ : ByteArray) = Sw := ⟨_, rfl⟩
          obtain ⟨S2, hS2⟩ : ∃ Sw, (⟨((s ++ [32]) ++ x.wh).toArray⟩ : ByteArray) = Sw := ⟨_, rfl⟩
          rw [hSw] at cB z2 C46
          rw [hS2] at cB
          have HS2 := Lib.hid hS2
          generalize (⟨(s ++ [32]).toArray⟩ : ByteArray) = S1 at *
          generalize (⟨s.toArray⟩ : ByteArray) = S0 at *
          clear cC hSw hS2 h0
          go_wp2_with (first | (go_at_call 45; (with_reducible refine (C45.out _).mono ?_); rintro e w1 ⟨rfl, hb1⟩; have HB1 := Lib.hid (HBL.out.trans (hb1.mono HBL.out.size)); have d0 := (hb1.cell (World.block_lt_of_cell? _ _ f0)).trans f0; have d1 := (hb1.cell (World.block_lt_of_cell? _ _ f1)).trans f1; have d2 := (hb1.cell (World.block_lt_of_cell? _ _ f2)).trans f2; have d3 := (hb1.cell (World.block_lt_of_cell? _ _ f3)).trans f3; clear hb1) | (go_at_call 46; (with_reducible refine (C46.out _).mono ?_); rintro e w2 ⟨rfl, hb2⟩; have HB2 := Lib.hid (HB1.out.trans (hb2.mono HB1.out.size)); clear hb2))
          go_roundw
          case rel => exact ⟨i + 1, (s ++ [32]) ++ x.wh, by omega, by go_num, by rw [HS2.out], HNS, Lib.hid (HAL1.out (by first | rfl | trivial)), HB2⟩
          case measure => simp [intOf]; omega
    · have hin : i = n := by omega
      have HALL : Hid (xs.all oneT = true) := Lib.hid (by have := HAL.out; rwa [List.take_of_length_le (by rw [HL.out]; omega)] at this)
      have HJE : Hid (s = joinT xs) := Lib.hid (by rw [HS.out, List.take_of_length_le (by rw [HL.out]; omega)])
      clear hin
      go_wp2_with fail
      go_ret2
      refine ⟨HBL.out, ?_⟩
      rw [if_pos HALL.out, ← HJE.out]
      rfl
def eqK (k : Int) (t : List UInt8) (v k' : Int) (t' : List UInt8) (v' : Int) : Bool := if k = 2 ∧ k' = 2 then v == v' else (k == k') && (t == t')
set_option maxRecDepth 100000 in
set_option maxHeartbeats 1000000 in
theorem equal_any (k v ln cl k' v' ln' cl' : Int) (t t' : List UInt8) (w : World) : Calls Tryd.prog 24 #[.agg #[.int .i64 k, .string ⟨t.toArray⟩, .int .i64 v, .int .i64 ln, .int .i64 cl], .agg #[.int .i64 k', .string ⟨t'.toArray⟩, .int .i64 v', .int .i64 ln', .int .i64 cl']] w fun e w' => e = .returned (.bool (eqK k t v k' t' v')) ∧ Below w.heap.size w w' := by
  have HB : Hid (∀ (o1 o2 : Obj), Below w.heap.size w ((w.alloc o1).alloc o2)) := Lib.hid (fun o1 o2 => ((Below.refl w.heap.size w).alloc (Nat.le_refl _) o1).alloc (by simp) o2)
  have hs : ((⟨t.toArray⟩ : ByteArray).toList == (⟨t'.toArray⟩ : ByteArray).toList) = (t == t') := by rw [Lib.toList_data, Lib.toList_data]
  unfold eqK
  generalize (t == t') = tt at *
  generalize (⟨t.toArray⟩ : ByteArray) = S1 at *
  generalize (⟨t'.toArray⟩ : ByteArray) = S2 at *
  by_cases h : k = 2 ∧ k' = 2
  · rw [if_pos h]
    have q0 : (k == 2) = true := by simpa using h.1
    have q1 : (k' == 2) = true := by simpa using h.2
    obtain ⟨rfl, rfl⟩ := h
    cases q2 : (v == v') <;>
    · go_enter Tryd.func24, Tryd.ntmps24
      go_wp2_with fail
      go_ret
      exact ⟨by first | rfl | simp, HB.out _ _⟩
  · rw [if_neg h]
    cases q3 : (k == k') with
    | true =>
      have hkk : k = k' := by simpa using q3
      have q0 : (k == 2) = false := by simp; omega
      subst hkk
      cases tt <;>
      · go_enter Tryd.func24, Tryd.ntmps24
        go_wp2_with fail
        go_ret
        exact ⟨by first | rfl | simp | simp [hs], HB.out _ _⟩
    | false =>
      cases q0 : (k == 2) with
      | true =>
        have q1 : (k' == 2) = false := by have : k = 2 := by simpa using q0
                                          simp; omega
        go_enter Tryd.func24, Tryd.ntmps24
        go_wp2_with fail
        go_ret
        exact ⟨by first | rfl | simp, HB.out _ _⟩
      | false =>
        go_enter Tryd.func24, Tryd.ntmps24
        go_wp2_with fail
        go_ret
        exact ⟨by first | rfl | simp, HB.out _ _⟩
set_option maxRecDepth 100000 in
set_option maxHeartbeats 1000000 in
theorem requal_any (k v ln k' v' ln' : Int) (t t' : List UInt8) (w : World) : Calls Tryd.prog 25 #[.agg #[.int .i64 k, .string ⟨t.toArray⟩, .int .i64 v, .int .i64 ln], .agg #[.int .i64 k', .string ⟨t'.toArray⟩, .int .i64 v', .int .i64 ln']] w fun e w' => e = .returned (.bool (eqK k t v k' t' v')) ∧ Below w.heap.size w w' := by
  have HB : Hid (∀ (o1 o2 : Obj), Below w.heap.size w ((w.alloc o1).alloc o2)) := Lib.hid (fun o1 o2 => ((Below.refl w.heap.size w).alloc (Nat.le_refl _) o1).alloc (by simp) o2)
  have hs : ((⟨t.toArray⟩ : ByteArray).toList == (⟨t'.toArray⟩ : ByteArray).toList) = (t == t') := by rw [Lib.toList_data, Lib.toList_data]
  unfold eqK
  generalize (t == t') = tt at *
  generalize (⟨t.toArray⟩ : ByteArray) = S1 at *
  generalize (⟨t'.toArray⟩ : ByteArray) = S2 at *
  by_cases h : k = 2 ∧ k' = 2
  · rw [if_pos h]
    have q0 : (k == 2) = true := by simpa using h.1
    have q1 : (k' == 2) = true := by simpa using h.2
    obtain ⟨rfl, rfl⟩ := h
    cases q2 : (v == v') <;>
    · go_enter Tryd.func25, Tryd.ntmps25
      go_wp2_with fail
      go_ret
      exact ⟨by first | rfl | simp, HB.out _ _⟩
  · rw [if_neg h]
    cases q3 : (k == k') with
    | true =>
      have hkk : k = k' := by simpa using q3
      have q0 : (k == 2) = false := by simp; omega
      subst hkk
      cases tt <;>
      · go_enter Tryd.func25, Tryd.ntmps25
        go_wp2_with fail
        go_ret
        exact ⟨by first | rfl | simp | simp [hs], HB.out _ _⟩
    | false =>
      cases q0 : (k == 2) with
      | true =>
        have q1 : (k' == 2) = false := by have : k = 2 := by simpa using q0
                                          simp; omega
        go_enter Tryd.func25, Tryd.ntmps25
        go_wp2_with fail
        go_ret
        exact ⟨by first | rfl | simp, HB.out _ _⟩
      | false =>
        go_enter Tryd.func25, Tryd.ntmps25
        go_wp2_with fail
        go_ret
        exact ⟨by first | rfl | simp, HB.out _ _⟩

end Go.Proofs.YtkihoekldklkhaaDoor
