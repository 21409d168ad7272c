/- A scan that can be reckoned; whole, wrong, at. -/
import Derived.Test.YtkihoekldklkhaaDoorTp
import Derived.Test.YtkihoekldklkhaaDoorTm
import Derived.Test.YtkihoekldklkhaaDoorSj
namespace Go.Proofs.YtkihoekldklkhaaDoor
open Go.RowKit
set_option linter.unusedVariables false
set_option linter.unusedSimpArgs false

/-- The scan with a number of steps: it can be reckoned. -/
def scanN : Nat → Nat → List UInt8 → List Tk × Option Nat
  | 0, _, _ => ([], none)
  | f + 1, i, r =>
    if (r.drop (skipL false r)).isEmpty = true then ([], none)
    else match tokL (r.drop (skipL false r)) with
      | .bad n => ([], some (i + skipL false r + n))
      | .ok k v n =>
        (⟨k, txtL k (r.drop (skipL false r)) n, v, i + skipL false r⟩ :: (scanN f (i + skipL false r + n) ((r.drop (skipL false r)).drop n)).1, (scanN f (i + skipL false r + n) ((r.drop (skipL false r)).drop n)).2)
theorem scanN_eq : ∀ (f i : Nat) (r : List UInt8), r.length < f → scanL i r = scanN f i r
  | 0, i, r, h => by omega
  | f + 1, i, r, h => by
    unfold scanN
    by_cases he : r.drop (skipL false r) = []
    · rw [scanL_fin he, if_pos (by rw [he]; rfl)]
    · rw [if_neg (by cases hx : r.drop (skipL false r) with
        | nil => exact absurd hx he
        | cons a b => simp)]
      cases ht : tokL (r.drop (skipL false r)) with
      | bad n => rw [scanL_bad he ht]
      | ok k v n =>
        have hok := tokL_ok ht
        rw [scanL_tok he ht, scanN_eq f (i + skipL false r + n) ((r.drop (skipL false r)).drop n) (by
          rw [List.length_drop, List.length_drop]
          rw [List.length_drop] at hok
          omega)]
def wholeL (k : Int) (t : List UInt8) : List UInt8 := if k = 3 then 34 :: (t ++ [34]) else t
theorem cat1 (t : List UInt8) : (⟨#[34]⟩ : ByteArray) ++ ⟨t.toArray⟩ = ⟨(34 :: t).toArray⟩ := by
  apply ByteArray.ext
  simp
theorem cat2 (t : List UInt8) : (⟨(34 :: t).toArray⟩ : ByteArray) ++ ⟨#[34]⟩ = ⟨(34 :: (t ++ [34])).toArray⟩ := by
  apply ByteArray.ext
  simp
set_option maxRecDepth 100000 in
set_option maxHeartbeats 400000 in
theorem whole_any (k : Int) (t : List UInt8) (v ln cl : Int) (w : World) (hn : t.length ≤ 1000000) : Calls Tryd.prog 43 #[.agg #[.int .i64 k, .string ⟨t.toArray⟩, .int .i64 v, .int .i64 ln, .int .i64 cl]] w fun e w' => e = .returned (.string ⟨(wholeL k t).toArray⟩) ∧ Below w.heap.size w w' := by
  have hb : Below w.heap.size w (w.alloc (.cells #[.int .i64 k, .string ⟨t.toArray⟩, .int .i64 v, .int .i64 ln, .int .i64 cl] 32)) := (Below.refl _ w).alloc (Nat.le_refl _) _
  have c1 := cat1 t
  have c2 := cat2 t
  have z1 := Lib.size_mk t
  have z2 := Lib.size_mk (34 :: t)
  have z3 : (⟨#[34]⟩ : ByteArray).size = 1 := rfl
  rw [List.length_cons] at z2
  have HB := Lib.hid hb
  unfold wholeL
  by_cases hk : k = 3
  · rw [if_pos hk]
    have q0 : (k == 3) = true := by simp [hk]
    generalize (⟨(34 :: (t ++ [34])).toArray⟩ : ByteArray) = S2 at *
    generalize (⟨(34 :: t).toArray⟩ : ByteArray) = S1 at *
    generalize (⟨t.toArray⟩ : ByteArray) = S0 at *
    clear hb hk
    go_enter Tryd.func43, Tryd.ntmps43
    go_wp2_with fail
    go_ret
    exact ⟨rfl, HB.out⟩
  · rw [if_neg hk]
    have q0 : (k == 3) = false := by simp [hk]
    generalize (⟨t.toArray⟩ : ByteArray) = S0 at *
    clear hb hk c1 c2 z2
    go_enter Tryd.func43, Tryd.ntmps43
    go_wp2_with fail
    go_ret
    exact ⟨rfl, HB.out⟩
set_option maxRecDepth 100000 in
set_option maxHeartbeats 400000 in
theorem rwhole_any (k : Int) (t : List UInt8) (v a : Int) (w : World) (hn : t.length ≤ 1000000) : Calls Tryd.prog 46 #[.agg #[.int .i64 k, .string ⟨t.toArray⟩, .int .i64 v, .int .i64 a]] w fun e w' => e = .returned (.string ⟨(wholeL k t).toArray⟩) ∧ Below w.heap.size w w' := by
  have hb : Below w.heap.size w (w.alloc (.cells #[.int .i64 k, .string ⟨t.toArray⟩, .int .i64 v, .int .i64 a] 56)) := (Below.refl _ w).alloc (Nat.le_refl _) _
  have c1 := cat1 t
  have c2 := cat2 t
  have z1 := Lib.size_mk t
  have z2 := Lib.size_mk (34 :: t)
  have z3 : (⟨#[34]⟩ : ByteArray).size = 1 := rfl
  rw [List.length_cons] at z2
  have HB := Lib.hid hb
  unfold wholeL
  by_cases hk : k = 3
  · rw [if_pos hk]
    have q0 : (k == 3) = true := by simp [hk]
    generalize (⟨(34 :: (t ++ [34])).toArray⟩ : ByteArray) = S2 at *
    generalize (⟨(34 :: t).toArray⟩ : ByteArray) = S1 at *
    generalize (⟨t.toArray⟩ : ByteArray) = S0 at *
    clear hb hk
    go_enter Tryd.func46, Tryd.ntmps46
    go_wp2_with fail
    go_ret
    exact ⟨rfl, HB.out⟩
  · rw [if_neg hk]
    have q0 : (k == 3) = false := by simp [hk]
    generalize (⟨t.toArray⟩ : ByteArray) = S0 at *
    clear hb hk c1 c2 z2
    go_enter Tryd.func46, Tryd.ntmps46
    go_wp2_with fail
    go_ret
    exact ⟨rfl, HB.out⟩
theorem res18 (tmps : Array Value) (W : World) (gp : Nat) (a b : Value) (h4 : tmps.getD 4 undef = .pointer (some ⟨gp, 0, none⟩)) (hp : Blk W gp 26 #[a, b]) : (results Tryd.f18 tmps).run Tryd.prog W = .ok (.agg #[a, b]) W := by
  have k3 := hp.cell 0
  have k5 := hp.cell 1
  simp at k3 k5 h4
  simp [results, Tryd.results18, go_sem, h4, k3, k5]
set_option maxRecDepth 100000 in
set_option maxHeartbeats 400000 in
theorem at_any (L : List UInt8) (k : Nat) (w : World) (hk : k ≤ L.length) (hn : L.length ≤ 1000000) : Calls Tryd.prog 18 #[.string ⟨L.toArray⟩, .int .i64 (k : Int)] w fun e w' => e = .returned (.agg #[.int .i64 ((lcOf L k).1 : Int), .int .i64 ((lcOf L k).2 : Int)]) ∧ Below w.heap.size w w' := by
  have C42 := Lib.hid (lines_any L k (w.alloc (.cells #[.int .i64 0, .int .i64 0] 26)) hk hn)
  have HB := Lib.hid ((Below.refl w.heap.size w).alloc (Nat.le_refl _) (.cells #[.int .i64 ((lcOf L k).1 : Int), .int .i64 ((lcOf L k).2 : Int)] 26))
  have HG := Lib.hid (Blk.new w 26 #[.int .i64 ((lcOf L k).1 : Int), .int .i64 ((lcOf L k).2 : Int)])
  generalize ((lcOf L k).1 : Int) = a at *
  generalize ((lcOf L k).2 : Int) = b at *
  generalize (⟨L.toArray⟩ : ByteArray) = St at *
  clear hk hn
  go_enter Tryd.func18, Tryd.ntmps18
  go_wp2_with (go_at_call 42; (with_reducible refine C42.out.mono ?_); rintro e w1 ⟨rfl, hw1⟩; rw [hw1]; clear hw1)
  refine bodyPost_ret (res18 _ _ _ _ _ rfl HG.out) rfl ⟨rfl, HB.out⟩
set_option maxRecDepth 100000 in
set_option maxHeartbeats 400000 in
theorem wrong_any (L : List UInt8) (b : Nat) (ln cl no : Int) (w : World) (hn : L.length ≤ 1000000) (hb : (scanL 0 L).2 = some b) (h1 : ((lcOf L b).1 : Int) = ln) (h2 : ((lcOf L b).2 : Int) = cl) (h3 : errN L b = no) : Calls Tryd.prog 26 #[.string ⟨L.toArray⟩, .int .i64 ln, .int .i64 cl, .int .i64 no] w fun e w' => e = .returned (.bool true) ∧ Below w.heap.size w w' := by
  have C20 := Lib.hid (scanT_any L w hn)
  unfold ScanE at C20
  rw [hb] at C20
  simp only [] at C20
  rw [h1, h2, h3] at C20
  generalize (⟨L.toArray⟩ : ByteArray) = St at *
  clear hn hb h1 h2 h3
  go_enter Tryd.func26, Tryd.ntmps26
  go_wp2_with (go_at_call 20; (with_reducible refine C20.out.mono ?_); rintro e w1 ⟨hb1, rfl⟩; have HB1 := Lib.hid hb1; clear hb1)
  go_ret
  exact ⟨by first | rfl | simp, HB1.out.alloc HB1.out.size _⟩
set_option maxRecDepth 100000 in
set_option maxHeartbeats 400000 in
theorem is_true (L : List UInt8) (t : Tk) (w : World) (hn : L.length ≤ 1000000) (ha : t.a ≤ L.length) : Calls Tryd.prog 19 #[.agg (TkC L t).toArray, .agg (RkC t).toArray, .string ⟨L.toArray⟩] w fun e w' => e = .returned (.bool true) ∧ Below w.heap.size w w' := by
  have C42 := Lib.hid (fun W => lines_any L t.a W ha hn)
  unfold TkC RkC
  generalize ((lcOf L t.a).1 : Int) = ln at *
  generalize ((lcOf L t.a).2 : Int) = cl at *
  generalize (⟨L.toArray⟩ : ByteArray) = St at *
  obtain ⟨k, tx, v, a⟩ := t
  simp only at *
  generalize (⟨tx.toArray⟩ : ByteArray) = Sx at *
  generalize (k : Int) = kk at *
  generalize (a : Int) = aa at *
  have HB : Hid (∀ (o1 o2 : Obj), Below w.heap.size w ((w.alloc o1).alloc o2)) := Lib.hid (fun o1 o2 => ((Below.refl w.heap.size w).alloc (Nat.le_refl _) o1).alloc (by simp) o2)
  clear hn ha
  go_enter Tryd.func19, Tryd.ntmps19
  go_wp2_with (go_at_call 42; (with_reducible refine (C42.out _).mono ?_); rintro e w1 ⟨rfl, hw1⟩; rw [hw1]; clear hw1)
  go_ret
  exact ⟨by first | rfl | simp, HB.out _ _⟩

end Go.Proofs.YtkihoekldklkhaaDoor
