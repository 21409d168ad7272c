/- Contracts of the reference's Bytes. -/
import Derived.Test.YtibkhjpjneoabaaCkKn
import Derived.Test.YtibkhjpjneoabaaCkRef
namespace Go.Proofs.Ytibkhjpjneoabaa.Ck
open Go.RowKit

def RB2 (w : World) (v : Int) (nn out : Value) (wr : World) : Prop := ((nn = .int .i64 16 ∧ wr.ownsRow w.heap.size 5 1 out 0 []) ∨ (nn = .int .i64 8 ∧ wr.ownsRow w.heap.size 5 1 out 1 [.int .u8 (v / 256 % 256)]) ∨ (nn = .int .i64 0 ∧ wr.ownsRow w.heap.size 5 1 out 2 [.int .u8 (v / 256 % 256), .int .u8 (v % 256)])) ∧ Below w.heap.size w wr

set_option maxRecDepth 100000 in
set_option maxHeartbeats 1000000 in
theorem rbyt_2 (k v : Int) (hk : k = 1 ∨ k = 2) (w : World) (h0 : 0 ≤ v) (h1 : v < 65536) : Calls Try.prog 44 #[.int .i64 k, .int .i64 v] w fun e w' => Byted k v w e w' := by
  have c1 : Calls Try.prog 65 #[.int .i64 k] w fun e w' => e = .returned (.tuple #[.int .i64 16, .int .i64 0]) ∧ w = w' := by
    have h := rbits_any k w
    have e1 : bitsS k = 16 := by unfold bitsS; rw [if_pos hk]
    have e2 : noS k = 0 := by unfold noS; rw [if_pos (by omega)]
    rw [e1, e2] at h
    exact h
  have hxs : [.int .u8 (v / 256 % 256), .int .u8 (v % 256)] = (bytS k v).map u8 := by
    unfold bytS
    first | rw [if_pos hk] | rw [if_neg (by omega)]
    simp only [List.map_cons, List.map_nil]
    have q0 : (v / 256 % 256) = v / 256 := by omega
    rw [q0]
    rw [u8_ofInt (m := v / 256) (by omega) (by omega)]; rw [u8_ofInt (m := v % 256) (by omega) (by omega)]
  have hlen : lenS k = 2 := by unfold lenS; first | rw [if_pos hk] | rw [if_neg (by omega)]
  have C1 := Lib.hid c1
  have HX := Lib.hid hxs
  have HL := Lib.hid hlen
  clear c1 hxs hlen hk
  go_enter Try.func44, Try.ntmps44
  go_wp2_with (go_at_call 65; (with_reducible refine C1.out.mono ?_); rintro e w1 ⟨rfl, rfl⟩)
  go_loopw [6, 8] (fun nn out wr => RB2 w v nn out wr) (fun nn _ _ => (intOf nn).toNat)
  case atStart => exact ⟨.inl ⟨rfl, World.ownsRow_nil w _ 5 1⟩, Below.refl _ _⟩
  case round =>
    obtain ⟨hc, hb⟩ := hrel
    have HB := Lib.hid hb
    clear hb
    rcases hc with ⟨rfl, ho⟩ | ⟨rfl, ho⟩ | ⟨rfl, ho⟩
    all_goals (have HO := Lib.hid ho; clear ho)
    · go_wp2_with (at_builtin; go_must (refine wpList_app_own (base := w.heap.size) (n := 0) (m := 1) (xs := []) (news := [.int .u8 (v / 256 % 256)]) rfl (.tmp 30) (.tmp 36) 28 rfl el22 rfl (own_alloc HO.out) rfl (Holds.one _ _ _) (by intro u hu; cases hu with | head => rfl | tail _ h => cases h) (by unfold maxLen; omega) (by omega) (by have := HB.out.size; simp; omega) ?_; intro v1 w1 hown hg _; have HO1 := Lib.hid hown; have HB1 := Lib.hid (below_own (HB.out.alloc HB.out.size _) (by have := HB.out.size; simp; omega) (own_alloc HO.out) hg); clear hown hg))
      rw [show ([] ++ [.int .u8 (v / 256 % 256)] : List Value) = [.int .u8 (v / 256 % 256)] from rfl] at HO1
      go_roundw
      case rel => exact ⟨.inr (.inl ⟨rfl, HO1.out⟩), HB1.out⟩
      case measure => simp [intOf]
    · go_wp2_with (at_builtin; go_must (refine wpList_app_own (base := w.heap.size) (n := 1) (m := 1) (xs := [.int .u8 (v / 256 % 256)]) (news := [.int .u8 (v % 256)]) rfl (.tmp 30) (.tmp 36) 28 rfl el22 rfl (own_alloc HO.out) rfl (Holds.one _ _ _) (by intro u hu; cases hu with | head => rfl | tail _ h => cases h) (by unfold maxLen; omega) (by omega) (by have := HB.out.size; simp; omega) ?_; intro v1 w1 hown hg _; have HO1 := Lib.hid hown; have HB1 := Lib.hid (below_own (HB.out.alloc HB.out.size _) (by have := HB.out.size; simp; omega) (own_alloc HO.out) hg); clear hown hg))
      rw [show ([.int .u8 (v / 256 % 256)] ++ [.int .u8 (v % 256)] : List Value) = [.int .u8 (v / 256 % 256), .int .u8 (v % 256)] from rfl] at HO1
      go_roundw
      case rel => exact ⟨.inr (.inr (⟨rfl, HO1.out⟩)), HB1.out⟩
      case measure => simp [intOf]
    · go_wp2_with fail
      go_ret2
      refine ⟨_, rfl, ?_, HB.out⟩
      rw [HL.out, ← HX.out]
      exact HO.out

def RB4 (w : World) (v : Int) (nn out : Value) (wr : World) : Prop := ((nn = .int .i64 32 ∧ wr.ownsRow w.heap.size 5 1 out 0 []) ∨ (nn = .int .i64 24 ∧ wr.ownsRow w.heap.size 5 1 out 1 [.int .u8 (v / 16777216 % 256)]) ∨ (nn = .int .i64 16 ∧ wr.ownsRow w.heap.size 5 1 out 2 [.int .u8 (v / 16777216 % 256), .int .u8 (v / 65536 % 256)]) ∨ (nn = .int .i64 8 ∧ wr.ownsRow w.heap.size 5 1 out 3 [.int .u8 (v / 16777216 % 256), .int .u8 (v / 65536 % 256), .int .u8 (v / 256 % 256)]) ∨ (nn = .int .i64 0 ∧ wr.ownsRow w.heap.size 5 1 out 4 [.int .u8 (v / 16777216 % 256), .int .u8 (v / 65536 % 256), .int .u8 (v / 256 % 256), .int .u8 (v % 256)])) ∧ Below w.heap.size w wr

set_option maxRecDepth 100000 in
set_option maxHeartbeats 1000000 in
theorem rbyt_4 (k v : Int) (hk : k = 3) (w : World) (h0 : 0 ≤ v) (h1 : v < 4294967296) : Calls Try.prog 44 #[.int .i64 k, .int .i64 v] w fun e w' => Byted k v w e w' := by
  have c1 : Calls Try.prog 65 #[.int .i64 k] w fun e w' => e = .returned (.tuple #[.int .i64 32, .int .i64 0]) ∧ w = w' := by
    have h := rbits_any k w
    have e1 : bitsS k = 32 := by unfold bitsS; rw [if_neg (by omega), if_pos (by omega)]
    have e2 : noS k = 0 := by unfold noS; rw [if_pos (by omega)]
    rw [e1, e2] at h
    exact h
  have hxs : [.int .u8 (v / 16777216 % 256), .int .u8 (v / 65536 % 256), .int .u8 (v / 256 % 256), .int .u8 (v % 256)] = (bytS k v).map u8 := by
    unfold bytS
    first | rw [if_pos hk] | rw [if_neg (by omega)]
    simp only [List.map_cons, List.map_nil]
    have q0 : (v / 16777216 % 256) = v / 16777216 := by omega
    rw [q0]
    rw [u8_ofInt (m := v / 16777216) (by omega) (by omega)]; rw [u8_ofInt (m := v / 65536 % 256) (by omega) (by omega)]; rw [u8_ofInt (m := v / 256 % 256) (by omega) (by omega)]; rw [u8_ofInt (m := v % 256) (by omega) (by omega)]
  have hlen : lenS k = 4 := by unfold lenS; first | rw [if_pos hk] | rw [if_neg (by omega)]
  have C1 := Lib.hid c1
  have HX := Lib.hid hxs
  have HL := Lib.hid hlen
  clear c1 hxs hlen hk
  go_enter Try.func44, Try.ntmps44
  go_wp2_with (go_at_call 65; (with_reducible refine C1.out.mono ?_); rintro e w1 ⟨rfl, rfl⟩)
  go_loopw [6, 8] (fun nn out wr => RB4 w v nn out wr) (fun nn _ _ => (intOf nn).toNat)
  case atStart => exact ⟨.inl ⟨rfl, World.ownsRow_nil w _ 5 1⟩, Below.refl _ _⟩
  case round =>
    obtain ⟨hc, hb⟩ := hrel
    have HB := Lib.hid hb
    clear hb
    rcases hc with ⟨rfl, ho⟩ | ⟨rfl, ho⟩ | ⟨rfl, ho⟩ | ⟨rfl, ho⟩ | ⟨rfl, ho⟩
    all_goals (have HO := Lib.hid ho; clear ho)
    · go_wp2_with (at_builtin; go_must (refine wpList_app_own (base := w.heap.size) (n := 0) (m := 1) (xs := []) (news := [.int .u8 (v / 16777216 % 256)]) rfl (.tmp 30) (.tmp 36) 28 rfl el22 rfl (own_alloc HO.out) rfl (Holds.one _ _ _) (by intro u hu; cases hu with | head => rfl | tail _ h => cases h) (by unfold maxLen; omega) (by omega) (by have := HB.out.size; simp; omega) ?_; intro v1 w1 hown hg _; have HO1 := Lib.hid hown; have HB1 := Lib.hid (below_own (HB.out.alloc HB.out.size _) (by have := HB.out.size; simp; omega) (own_alloc HO.out) hg); clear hown hg))
      rw [show ([] ++ [.int .u8 (v / 16777216 % 256)] : List Value) = [.int .u8 (v / 16777216 % 256)] from rfl] at HO1
      go_roundw
      case rel => exact ⟨.inr (.inl ⟨rfl, HO1.out⟩), HB1.out⟩
      case measure => simp [intOf]
    · go_wp2_with (at_builtin; go_must (refine wpList_app_own (base := w.heap.size) (n := 1) (m := 1) (xs := [.int .u8 (v / 16777216 % 256)]) (news := [.int .u8 (v / 65536 % 256)]) rfl (.tmp 30) (.tmp 36) 28 rfl el22 rfl (own_alloc HO.out) rfl (Holds.one _ _ _) (by intro u hu; cases hu with | head => rfl | tail _ h => cases h) (by unfold maxLen; omega) (by omega) (by have := HB.out.size; simp; omega) ?_; intro v1 w1 hown hg _; have HO1 := Lib.hid hown; have HB1 := Lib.hid (below_own (HB.out.alloc HB.out.size _) (by have := HB.out.size; simp; omega) (own_alloc HO.out) hg); clear hown hg))
      rw [show ([.int .u8 (v / 16777216 % 256)] ++ [.int .u8 (v / 65536 % 256)] : List Value) = [.int .u8 (v / 16777216 % 256), .int .u8 (v / 65536 % 256)] from rfl] at HO1
      go_roundw
      case rel => exact ⟨.inr (.inr (.inl ⟨rfl, HO1.out⟩)), HB1.out⟩
      case measure => simp [intOf]
    · go_wp2_with (at_builtin; go_must (refine wpList_app_own (base := w.heap.size) (n := 2) (m := 1) (xs := [.int .u8 (v / 16777216 % 256), .int .u8 (v / 65536 % 256)]) (news := [.int .u8 (v / 256 % 256)]) rfl (.tmp 30) (.tmp 36) 28 rfl el22 rfl (own_alloc HO.out) rfl (Holds.one _ _ _) (by intro u hu; cases hu with | head => rfl | tail _ h => cases h) (by unfold maxLen; omega) (by omega) (by have := HB.out.size; simp; omega) ?_; intro v1 w1 hown hg _; have HO1 := Lib.hid hown; have HB1 := Lib.hid (below_own (HB.out.alloc HB.out.size _) (by have := HB.out.size; simp; omega) (own_alloc HO.out) hg); clear hown hg))
      rw [show ([.int .u8 (v / 16777216 % 256), .int .u8 (v / 65536 % 256)] ++ [.int .u8 (v / 256 % 256)] : List Value) = [.int .u8 (v / 16777216 % 256), .int .u8 (v / 65536 % 256), .int .u8 (v / 256 % 256)] from rfl] at HO1
      go_roundw
      case rel => exact ⟨.inr (.inr (.inr (.inl ⟨rfl, HO1.out⟩))), HB1.out⟩
      case measure => simp [intOf]
    · go_wp2_with (at_builtin; go_must (refine wpList_app_own (base := w.heap.size) (n := 3) (m := 1) (xs := [.int .u8 (v / 16777216 % 256), .int .u8 (v / 65536 % 256), .int .u8 (v / 256 % 256)]) (news := [.int .u8 (v % 256)]) rfl (.tmp 30) (.tmp 36) 28 rfl el22 rfl (own_alloc HO.out) rfl (Holds.one _ _ _) (by intro u hu; cases hu with | head => rfl | tail _ h => cases h) (by unfold maxLen; omega) (by omega) (by have := HB.out.size; simp; omega) ?_; intro v1 w1 hown hg _; have HO1 := Lib.hid hown; have HB1 := Lib.hid (below_own (HB.out.alloc HB.out.size _) (by have := HB.out.size; simp; omega) (own_alloc HO.out) hg); clear hown hg))
      rw [show ([.int .u8 (v / 16777216 % 256), .int .u8 (v / 65536 % 256), .int .u8 (v / 256 % 256)] ++ [.int .u8 (v % 256)] : List Value) = [.int .u8 (v / 16777216 % 256), .int .u8 (v / 65536 % 256), .int .u8 (v / 256 % 256), .int .u8 (v % 256)] from rfl] at HO1
      go_roundw
      case rel => exact ⟨.inr (.inr (.inr (.inr (⟨rfl, HO1.out⟩)))), HB1.out⟩
      case measure => simp [intOf]
    · go_wp2_with fail
      go_ret2
      refine ⟨_, rfl, ?_, HB.out⟩
      rw [HL.out, ← HX.out]
      exact HO.out

set_option maxRecDepth 100000 in
theorem rbyt_bad (k v : Int) (w : World) (h : k < 1 ∨ 3 < k) : Calls Try.prog 44 #[.int .i64 k, .int .i64 v] w fun e w' => e = .returned (.tuple #[.slice none 0 0, .int .i64 2]) ∧ w = w' := by
  have c1 : Calls Try.prog 65 #[.int .i64 k] w fun e w' => e = .returned (.tuple #[.int .i64 0, .int .i64 2]) ∧ w = w' := by
    have h' := rbits_any k w
    have e1 : bitsS k = 0 := by unfold bitsS; rw [if_neg (by omega), if_neg (by omega)]
    have e2 : noS k = 2 := by unfold noS; rw [if_neg (by omega)]
    rw [e1, e2] at h'
    exact h'
  have C1 := Lib.hid c1
  clear c1 h
  go_enter Try.func44, Try.ntmps44
  go_wp2_with (go_at_call 65; (with_reducible refine C1.out.mono ?_); rintro e w1 ⟨rfl, rfl⟩)
  go_ret2
  exact ⟨rfl, rfl⟩

set_option maxRecDepth 100000 in
theorem rbyt_out_2 (k v : Int) (hk : k = 1 ∨ k = 2) (w : World) (h : v < 0 ∨ 65536 ≤ v) : Calls Try.prog 44 #[.int .i64 k, .int .i64 v] w fun e w' => e = .returned (.tuple #[.slice none 0 0, .int .i64 2]) ∧ w = w' := by
  have c1 : Calls Try.prog 65 #[.int .i64 k] w fun e w' => e = .returned (.tuple #[.int .i64 16, .int .i64 0]) ∧ w = w' := by
    have h := rbits_any k w
    have e1 : bitsS k = 16 := by unfold bitsS; rw [if_pos hk]
    have e2 : noS k = 0 := by unfold noS; rw [if_pos (by omega)]
    rw [e1, e2] at h
    exact h
  have C1 := Lib.hid c1
  clear c1 hk
  by_cases h0 : v < 0
  · clear h
    go_enter Try.func44, Try.ntmps44
    go_wp2_with (go_at_call 65; (with_reducible refine C1.out.mono ?_); rintro e w1 ⟨rfl, rfl⟩)
    go_ret2
    exact ⟨rfl, rfl⟩
  · have h1 : 65536 ≤ v := by omega
    have h2 : 0 ≤ v := by omega
    clear h h0
    go_enter Try.func44, Try.ntmps44
    go_wp2_with (go_at_call 65; (with_reducible refine C1.out.mono ?_); rintro e w1 ⟨rfl, rfl⟩)
    go_ret2
    exact ⟨rfl, rfl⟩

set_option maxRecDepth 100000 in
theorem rbyt_out_4 (k v : Int) (hk : k = 3) (w : World) (h : v < 0 ∨ 4294967296 ≤ v) : Calls Try.prog 44 #[.int .i64 k, .int .i64 v] w fun e w' => e = .returned (.tuple #[.slice none 0 0, .int .i64 2]) ∧ w = w' := by
  have c1 : Calls Try.prog 65 #[.int .i64 k] w fun e w' => e = .returned (.tuple #[.int .i64 32, .int .i64 0]) ∧ w = w' := by
    have h := rbits_any k w
    have e1 : bitsS k = 32 := by unfold bitsS; rw [if_neg (by omega), if_pos (by omega)]
    have e2 : noS k = 0 := by unfold noS; rw [if_pos (by omega)]
    rw [e1, e2] at h
    exact h
  have C1 := Lib.hid c1
  clear c1 hk
  by_cases h0 : v < 0
  · clear h
    go_enter Try.func44, Try.ntmps44
    go_wp2_with (go_at_call 65; (with_reducible refine C1.out.mono ?_); rintro e w1 ⟨rfl, rfl⟩)
    go_ret2
    exact ⟨rfl, rfl⟩
  · have h1 : 4294967296 ≤ v := by omega
    have h2 : 0 ≤ v := by omega
    clear h h0
    go_enter Try.func44, Try.ntmps44
    go_wp2_with (go_at_call 65; (with_reducible refine C1.out.mono ?_); rintro e w1 ⟨rfl, rfl⟩)
    go_ret2
    exact ⟨rfl, rfl⟩
end Go.Proofs.Ytibkhjpjneoabaa.Ck
