/- The cursor: is, run, need. -/
import Derived.Test.YtkihoekldklkhaaDoorTc
namespace Go.Proofs.YtkihoekldklkhaaDoor
open Go.RowKit
set_option linter.unusedVariables false
set_option linter.unusedSimpArgs false

theorem pf67 : PredF 67 ltrI := ⟨enters_of Tryd.func67 (by kernel_rfl) rfl, fun x w h0 h1 => letter_any x w h0 h1⟩
theorem pf69 : PredF 69 worI := ⟨enters_of Tryd.func69 (by kernel_rfl) rfl, fun x w h0 h1 => wordly_any x w h0 h1⟩
theorem pf70 : PredF 70 digI := ⟨enters_of Tryd.func70 (by kernel_rfl) rfl, fun x w h0 h1 => digit_any x w h0 h1⟩
theorem pf80 : PredF 80 blkI := ⟨enters_of Tryd.func80 (by kernel_rfl) rfl, fun x w h0 h1 => blk_any x w h0 h1⟩
theorem pf81 : PredF 81 notNl := ⟨enters_of Tryd.func81 (by kernel_rfl) rfl, fun x w h0 h1 => notnl_any x w h0 h1⟩
theorem pf77 : PredF 77 quoI := ⟨enters_of Tryd.func77 (by kernel_rfl) rfl, fun x w h0 h1 => quo_any x w h0 h1⟩
theorem pf78 : PredF 78 symI := ⟨enters_of Tryd.func78 (by kernel_rfl) rfl, fun x w h0 h1 => sym_any x w h0 h1⟩
theorem pf74 : PredF 74 isHex := ⟨enters_of Tryd.func74 (by kernel_rfl) rfl, fun x w h0 h1 => ishex_any x w h0 h1⟩
theorem pc92 (y : Int) (bx : Nat) (w : World) (h : Blk w bx 5 #[.int .u8 y]) : PredC 92 (.pointer (some ⟨bx, 0, none⟩)) (isI y) w := ⟨enters_of Tryd.func92 (by kernel_rfl) rfl, fun x m h0 h1 => (is92_any x y bx _ (h.drewN m)).mono fun e w' he => ⟨he.1, 0, he.2⟩⟩
theorem pc76 (b : Int) (bx : Nat) (w : World) (h : Blk w bx 3 #[.int .i64 b]) : PredC 76 (.pointer (some ⟨bx, 0, none⟩)) (digB b) w := ⟨enters_of Tryd.func76 (by kernel_rfl) rfl, fun x m h0 h1 => digit2_any x b bx _ h0 h1 (h.drewN m)⟩
set_option maxRecDepth 100000 in
set_option maxHeartbeats 1000000 in
theorem is_any (y : Int) (L : List UInt8) (sb i : Nat) (w : World) (h : Sc L sb i w) (hn : L.length ≤ 1000000) :
    Calls Tryd.prog 71 #[.pointer (some ⟨sb, 0, none⟩), .int .u8 y] w fun e w' => e = .returned (.bool (headP (isI y) (L.drop i))) ∧ Below w.heap.size w w' := by
  have hb1 : Below w.heap.size w (w.alloc (.cells #[.int .u8 y] 5)) := (Below.refl _ w).alloc (Nat.le_refl _) _
  have C1 := Lib.hid (next_cap 92 (isI y) (.pointer (some ⟨w.heap.size, 0, none⟩)) L sb i _ (pc92 y _ _ (Blk.new w 5 #[.int .u8 y])) (h.below hb1) hn)
  have HB := Lib.hid hb1
  generalize headP (isI y) (L.drop i) = b at *
  clear h hn hb1
  go_enter Tryd.func71, Tryd.ntmps71
  go_wp2_with (go_at_call 66; (with_reducible refine C1.out.mono ?_); rintro e w1 ⟨rfl, m, rfl⟩)
  go_ret
  exact ⟨rfl, below_drewN HB.out m⟩
theorem runL_true {p : Int → Bool} {r : List UInt8} {m : Nat} (h : headP p r = true) : runL p (m + 1) r = runL p m (r.drop 1) + 1 := by
  cases r with
  | nil => cases h
  | cons c r => have h2 : p c.toNat = true := h; show runL p (m + 1) (c :: r) = runL p m r + 1; rw [runL, if_pos h2]
theorem runL_false {p : Int → Bool} {r : List UInt8} {m : Nat} (h : headP p r = false) : runL p m r = 0 := by
  cases m with
  | zero => rfl
  | succ m => cases r with
    | nil => rfl
    | cons c r => have h2 : ¬ p c.toNat = true := by intro e; have h3 : p c.toNat = false := h; rw [h3] at e; cases e
                  unfold runL; rw [if_neg h2]
set_option maxRecDepth 100000 in
set_option maxHeartbeats 1000000 in
theorem run_any (F : Nat) (p : Int → Bool) (hp : PredF F p) (M : Nat) (L : List UInt8) (sb i : Nat) (w : World) (h : Sc L sb i w) (hn : L.length ≤ 1000000) (hi0 : i ≤ L.length) (hM : M ≤ 1000000) :
    Calls Tryd.prog 68 #[.pointer (some ⟨sb, 0, none⟩), .int .i64 (M : Int), .func (.func F) #[] #[]] w fun e w' => e = .returned (.int .i64 (runL p M (L.drop i) : Int)) ∧ Sc L sb (i + runL p M (L.drop i)) w' ∧ Only (fun k => k = sb) w w' := by
  have HS := Lib.hid h
  have hM0 : (M : Int) ≤ 1000000 := by omega
  have C66 := Lib.hid (fun (j : Nat) (W : World) (hs : Sc L sb j W) => next_any F p L sb j W hp hs hn)
  have C73 := Lib.hid (fun (j : Nat) (W : World) (hs : Sc L sb j W) (hj : j < L.length) => pass_any L sb j W hs hj hn)
  have HN := Lib.hid hi0
  obtain ⟨R, hR⟩ : ∃ R, runL p M (L.drop i) = R := ⟨_, rfl⟩
  rw [hR]
  have HR := Lib.hid hR
  clear h hp hn hM hR hi0
  go_enter Tryd.func68, Tryd.ntmps68
  go_wp2_with fail
  go_loopw [6] (fun nv wr => ∃ (n : Nat), (n : Int) ≤ M ∧ nv = .int .i64 n ∧ Hid (i + n ≤ L.length) ∧ Hid (runL p (M - n) (L.drop (i + n)) + n = R) ∧ Hid (Sc L sb (i + n) wr) ∧ Hid (Only (fun k => k = sb) w wr)) (fun nv _ => M - (intOf nv).toNat)
  case atStart => exact ⟨0, by omega, rfl, Lib.hid HN.out, Lib.hid (by simpa using HR.out), Lib.hid HS.out, Lib.hid (Only.refl _ _)⟩
  case round =>
    obtain ⟨n, hn, rfl, HLE, HRN, HSN, HON⟩ := hrel
    by_cases hlt : (n : Int) < M
    · have C1 := Lib.hid (C66.out (i + n) wr HSN.out)
      cases hb : headP p (L.drop (i + n)) with
      | true =>
        rw [hb] at C1
        have hlt2 : i + n < L.length := headP_drop hb
        have C2 := Lib.hid (fun m => C73.out (i + n) (wr.drewN m) (HSN.out.drewN m) hlt2)
        have HNX : Hid (runL p (M - (n + 1)) (L.drop (i + (n + 1))) + (n + 1) = R) := Lib.hid (by
          have e : M - n = (M - (n + 1)) + 1 := by omega
          have := HRN.out
          rw [e, runL_true hb, List.drop_drop] at this
          rw [← this]
          have e2 : i + n + 1 = i + (n + 1) := by omega
          rw [e2]
          omega)
        have HL2 := Lib.hid hlt2
        clear hb hlt2
        go_wp2_with (first | (go_at_call 66; (with_reducible refine C1.out.mono ?_); rintro e w1 ⟨rfl, m, rfl⟩) | (go_at_call 73; (with_reducible refine (C2.out _).mono ?_); rintro e w2 ⟨rfl, hs2, ho2⟩; have HS2 := Lib.hid hs2; have HO2 := Lib.hid ho2; clear hs2 ho2))
        go_roundw
        case rel => exact ⟨n + 1, by omega, by go_num, Lib.hid (by have := HL2.out; omega), HNX, Lib.hid HS2.out, Lib.hid ((only_drewN HON.out m).trans HO2.out fun b _ x => x)⟩
        case measure => simp [intOf]; omega
      | false =>
        rw [hb] at C1
        have HE : Hid (n = R) := Lib.hid (by have := HRN.out; rw [runL_false hb] at this; omega)
        clear hb
        go_wp2_with (go_at_call 66; (with_reducible refine C1.out.mono ?_); rintro e w1 ⟨rfl, m, rfl⟩)
        go_ret
        have e := HE.out
        subst e
        exact ⟨rfl, HSN.out.drewN m, only_drewN HON.out m⟩
    · have HE : Hid (n = R) := Lib.hid (by have := HRN.out; have e : M - n = 0 := by omega
                                           rw [e] at this; unfold runL at this; omega)
      go_wp2_with fail
      go_ret
      have e := HE.out
      subst e
      exact ⟨rfl, HSN.out, HON.out⟩
set_option maxRecDepth 100000 in
set_option maxHeartbeats 1000000 in
theorem need_yes (sb : Nat) (w : World) : Calls Tryd.prog 60 #[.pointer (some ⟨sb, 0, none⟩), .bool true] w fun e w' => e = .returned (.tuple #[]) ∧ w' = w := by
  go_enter Tryd.func60, Tryd.ntmps60
  go_wp2_with fail
  first | go_end0 | skip
  exact ⟨rfl, rfl⟩
/-- A panic of this error. -/
def errV (e : Int) : PanicEntry := { v := .iface 33 (.int .i64 e), recovered := false }
set_option maxRecDepth 100000 in
set_option maxHeartbeats 1000000 in
theorem need_short (L : List UInt8) (sb i : Nat) (w : World) (h : Sc L sb i w) (hi : i = L.length) (hn : L.length ≤ 1000000) : Calls Tryd.prog 60 #[.pointer (some ⟨sb, 0, none⟩), .bool false] w fun e w' => e = .panicked [errV 4] ∧ ∃ m, w' = w.drewN m := by
  have hb : Blk w sb 89 #[.string ⟨L.toArray⟩, .int .i64 (i : Int), .int .i64 ((lcOf L i).1 : Int), .int .i64 ((lcOf L i).2 : Int)] := h
  have hsz : (⟨L.toArray⟩ : ByteArray).size = L.length := Lib.size_mk L
  have e0 := hb.cell 0
  have e1 := hb.cell 1
  simp only [List.getElem?_toArray, List.getElem?_cons_zero, List.getElem?_cons_succ] at e0 e1
  generalize (⟨L.toArray⟩ : ByteArray) = St at *
  have q0 : ((i : Int) == (St.size : Int)) = true := by rw [hsz]; simp; omega
  generalize (i : Int) = k at *
  clear hb h hi hsz hn
  go_enter Tryd.func60, Tryd.ntmps60
  go_upto_region 2 with fail
  go_quiet (fail)
  go_wp2_with fail
  exact ⟨rfl, rfl, _, rfl⟩
set_option maxRecDepth 100000 in
set_option maxHeartbeats 1000000 in
theorem need_wrong (L : List UInt8) (sb i : Nat) (w : World) (h : Sc L sb i w) (hi : i < L.length) (hn : L.length ≤ 1000000) : Calls Tryd.prog 60 #[.pointer (some ⟨sb, 0, none⟩), .bool false] w fun e w' => e = .panicked [errV 6] ∧ ∃ m, w' = w.drewN m := by
  have hb : Blk w sb 89 #[.string ⟨L.toArray⟩, .int .i64 (i : Int), .int .i64 ((lcOf L i).1 : Int), .int .i64 ((lcOf L i).2 : Int)] := h
  have hsz : (⟨L.toArray⟩ : ByteArray).size = L.length := Lib.size_mk L
  have e0 := hb.cell 0
  have e1 := hb.cell 1
  simp only [List.getElem?_toArray, List.getElem?_cons_zero, List.getElem?_cons_succ] at e0 e1
  generalize (⟨L.toArray⟩ : ByteArray) = St at *
  have q0 : ((i : Int) == (St.size : Int)) = false := by rw [hsz]; simp; omega
  generalize (i : Int) = k at *
  clear hb h hi hsz hn
  go_enter Tryd.func60, Tryd.ntmps60
  go_upto_region 2 with fail
  go_quiet (fail)
  go_wp2_with fail
  exact ⟨rfl, rfl, _, rfl⟩
/-- The error of a wrong byte at a place. -/
def errN (L : List UInt8) (i : Nat) : Int := if i = L.length then 4 else 6
theorem need_no (L : List UInt8) (sb i : Nat) (w : World) (h : Sc L sb i w) (hi : i ≤ L.length) (hn : L.length ≤ 1000000) : Calls Tryd.prog 60 #[.pointer (some ⟨sb, 0, none⟩), .bool false] w fun e w' => e = .panicked [errV (errN L i)] ∧ ∃ m, w' = w.drewN m := by
  by_cases h1 : i = L.length
  · unfold errN; rw [if_pos h1]; exact need_short L sb i w h h1 hn
  · unfold errN; rw [if_neg h1]; exact need_wrong L sb i w h (by omega) hn

end Go.Proofs.YtkihoekldklkhaaDoor
