/- few; the plain values of known's examples. -/
import Derived.Test.YtibkhjpjneoabaaFr2
namespace Go.Proofs.Ytibkhjpjneoabaa
open Go.RowKit
set_option linter.unusedVariables false
set_option linter.unusedSimpArgs false

/-- What few returns. -/
def FewD (w : World) (len : Nat) (f : Nat → Pk) (e : Ending) (w' : World) : Prop := ∃ b, e = .returned (.bool b) ∧ w = w' ∧ (b = true → len ≤ 20 ∧ ∀ i, i < len → (f i).n ≤ 700)

set_option maxRecDepth 100000 in
set_option maxHeartbeats 2000000 in
theorem few_any (L : Option Addr) (len cL : Nat) (f : Nat → Pk) (w : World) (hs : PSS w L len f) :
    Calls Try.prog 9 #[.slice L len cL] w (FewD w len f) := by
  have HS := Lib.hid hs
  have hm : (len : Int) ≤ 9223372036854775807 := by have h9 : len ≤ maxLen := hs.1; unfold maxLen at h9; omega
  clear hs
  go_enter Try.func9, Try.ntmps9
  go_wp2_with fail
  go_loopw [3] (fun ii wr => ∃ i : Nat, (i : Int) ≤ len ∧ ii = .int .i64 i ∧ wr = w ∧ Hid (∀ j, j < i → (f j).n ≤ 700)) (fun ii _ => len - (intOf ii).toNat)
  case atStart => exact ⟨0, by omega, rfl, rfl, Lib.hid fun j hj => absurd hj (by omega)⟩
  case round =>
    obtain ⟨i, hi, rfl, rfl, HI⟩ := hrel
    have hi0 : (0 : Int) ≤ i := by omega
    by_cases hlt : (i : Int) < len
    · obtain ⟨b, o, rfl, hbl, hc, hr⟩ := HS.out.2 i (by omega)
      have HLT := Lib.hid hlt
      by_cases h7 : ((f i).n : Int) ≤ 700
      · have q7 : decide ((700 : Int) < ((f i).n : Int)) = false := by simp; omega
        have H7 := Lib.hid h7
        clear h7 hbl hr
        go_wp2_with fail
        go_roundw
        case rel => exact ⟨i + 1, by have := HLT.out; omega, by go_num, by first | rfl | trivial, Lib.hid fun j hj => by
          by_cases e : j = i
          · subst e; have := H7.out; omega
          · exact HI.out j (by omega)⟩
        case measure => have := HLT.out; simp [intOf]; omega
      · have q7 : decide ((700 : Int) < ((f i).n : Int)) = true := by simp; omega
        clear h7 hbl hr
        go_wp2_with fail
        go_ret
        exact ⟨false, rfl, rfl, fun h => by cases h⟩
    · have HLE := Lib.hid (show i = len by omega)
      by_cases h2 : (len : Int) ≤ 20
      · have q2 : decide ((len : Int) ≤ 20) = true := by simpa using h2
        have H2 := Lib.hid h2
        go_wp2_with fail
        go_ret
        exact ⟨true, by first | rfl | (rw [q2]) | simp [q2], rfl, fun _ => ⟨by have := H2.out; omega, fun j hj => HI.out j (by have := HLE.out; omega)⟩⟩
      · have q2 : decide ((len : Int) ≤ 20) = false := by simpa using h2
        go_wp2_with fail
        go_ret
        exact ⟨false, by first | rfl | (rw [q2]) | simp [q2], rfl, fun h => by cases h⟩

/- The readers of known's examples. -/
theorem kx1 : feedS 1 3 0 St.new [1, 97, 2] = (⟨0, 3, 2, [2], true, false, false⟩, [⟨0, [97], 0⟩]) := by rfl
theorem kx2 : feedS 1 3 0 ⟨0, 3, 2, [2], true, false, false⟩ [97] = (⟨0, 4, 2, [2, 97], true, false, false⟩, []) := by rfl
theorem kx3 : feedS 1 3 0 ⟨0, 4, 2, [2, 97], true, false, false⟩ [98, 4, 97] = (⟨2, 7, 5, [], false, false, false⟩, [⟨2, [97, 98], 0⟩, ⟨5, [], 5⟩]) := by rfl
theorem ky1 : feedS 2 3 0 St.new [126, 97, 125, 97, 98, 126] = (⟨0, 6, 1, [], false, false, false⟩, [⟨1, [], 6⟩]) := by rfl
theorem ky2 : feedS 2 3 0 ⟨0, 6, 1, [], false, false, false⟩ [97, 98, 99, 100] = (⟨1, 10, 6, [], false, false, false⟩, [⟨6, [], 5⟩]) := by rfl
theorem ky3 : feedS 2 3 0 ⟨1, 10, 6, [], false, false, false⟩ [126, 97] = (⟨0, 12, 11, [97], true, false, false⟩, []) := by rfl
theorem ka : encErr 1 3 0 [[97, 98], []] = 0 ∧ encB 1 3 0 [[97, 98], []] = [2, 97, 98, 0] := ⟨by rfl, by rfl⟩
theorem kb : encErr 2 3 0 [[126, 97]] = 0 ∧ encB 2 3 0 [[126, 97]] = [125, 94, 97, 126] := ⟨by rfl, by rfl⟩
theorem kc : encErr 2 3 0 [[]] = 4 := by rfl
theorem kd : encErr 1 3 0 [[97, 97, 97, 97]] = 5 := by rfl
end Go.Proofs.Ytibkhjpjneoabaa
