/- Pass of a reader. -/
import Derived.Test.YtkihoekldklkhaaDoorRd
namespace Go.Proofs.YtkihoekldklkhaaDoor
open Go.RowKit
set_option linter.unusedVariables false
set_option linter.unusedSimpArgs false

set_option maxRecDepth 100000 in
set_option maxHeartbeats 1000000 in
theorem cb29 (k v ln cl : Int) (s : ByteArray) (w : World) : Calls Tryd.prog 29 #[.agg #[.int .i64 k, .string s, .int .i64 v, .int .i64 ln, .int .i64 cl]] w fun e w' => e = .returned (.bool true) ∧ Below w.heap.size w w' := by
  go_enter Tryd.func29, Tryd.ntmps29
  go_wp2_with fail
  go_ret
  exact ⟨by first | rfl | simp, (Below.refl _ w).alloc (Nat.le_refl _) _⟩
set_option maxRecDepth 100000 in
set_option maxHeartbeats 1000000 in
theorem cb30 (k v ln cl : Int) (s : ByteArray) (w : World) : Calls Tryd.prog 30 #[.agg #[.int .i64 k, .string s, .int .i64 v, .int .i64 ln, .int .i64 cl]] w fun e w' => e = .returned (.bool (k == 1)) ∧ Below w.heap.size w w' := by
  go_enter Tryd.func30, Tryd.ntmps30
  go_wp2_with fail
  go_ret
  exact ⟨by first | rfl | simp, (Below.refl _ w).alloc (Nat.le_refl _) _⟩
set_option maxRecDepth 100000 in
set_option maxHeartbeats 1000000 in
theorem cb31 (k v ln cl : Int) (s : ByteArray) (w : World) : Calls Tryd.prog 31 #[.agg #[.int .i64 k, .string s, .int .i64 v, .int .i64 ln, .int .i64 cl]] w fun e w' => e = .returned (.bool (k == 2)) ∧ Below w.heap.size w w' := by
  go_enter Tryd.func31, Tryd.ntmps31
  go_wp2_with fail
  go_ret
  exact ⟨by first | rfl | simp, (Below.refl _ w).alloc (Nat.le_refl _) _⟩
set_option maxRecDepth 100000 in
set_option maxHeartbeats 1000000 in
theorem cb34 (k v ln cl : Int) (s x : ByteArray) (w : World) (gp : Nat) (h : Blk w gp 9 #[.string x]) : Calls Tryd.prog 34 #[.agg #[.int .i64 k, .string s, .int .i64 v, .int .i64 ln, .int .i64 cl], .pointer (some ⟨gp, 0, none⟩)] w fun e w' => e = .returned (.bool ((s.toList == x.toList) && ((k == 1) || (k == 4)))) ∧ Below w.heap.size w w' := by
  have e0 := (h.alloc (.cells #[.int .i64 k, .string s, .int .i64 v, .int .i64 ln, .int .i64 cl] 32)).cell 0
  simp only [List.getElem?_toArray, List.getElem?_cons_zero] at e0
  clear h
  cases q1 : (s.toList == x.toList) with
  | false =>
    go_enter Tryd.func34, Tryd.ntmps34
    go_wp2_with fail
    go_ret
    exact ⟨by first | rfl | simp, (Below.refl _ w).alloc (Nat.le_refl _) _⟩
  | true =>
    cases q2 : (k == 1) with
    | true =>
      go_enter Tryd.func34, Tryd.ntmps34
      go_wp2_with fail
      go_ret
      exact ⟨by first | rfl | simp, (Below.refl _ w).alloc (Nat.le_refl _) _⟩
    | false =>
      go_enter Tryd.func34, Tryd.ntmps34
      go_wp2_with fail
      go_ret
      exact ⟨by first | rfl | simp, (Below.refl _ w).alloc (Nat.le_refl _) _⟩

end Go.Proofs.YtkihoekldklkhaaDoor
