/- Growing rows of bytes: put, its kin. -/
import Derived.Test.YtgbkoegmoelheaaCb
namespace Go.Proofs.Ytgbkoegmoelheaa
open Go.RowKit
set_option linter.unusedVariables false
set_option linter.unusedSimpArgs false

/-- The same block, or a new one. -/
def Hat (v v' : Value) (w : World) : Prop := v'.ownBlock = v.ownBlock ∨ ∀ j, v'.ownBlock = some j → w.heap.size ≤ j
theorem Hat.refl (v : Value) (w : World) : Hat v v w := .inl rfl
theorem Hat.trans {v v1 v2 : Value} {w w1 : World} (h : Hat v v1 w) (k : Hat v1 v2 w1) (hs : w.heap.size ≤ w1.heap.size) : Hat v v2 w := by
  rcases k with k | k
  · rcases h with h | h
    · exact .inl (k.trans h)
    · exact .inr fun j hj => h j (k ▸ hj)
  · exact .inr fun j hj => Nat.le_trans hs (k j hj)
/-- What has become of a row of bytes: it reads as ys now; nothing else has turned. -/
structure PutS (w w' : World) (B : Nat) (v : Value) (ys : List UInt8) (v' : Value) : Prop where
  own : w'.ownsRow B 5 1 v' ys.length (ys.map u8)
  only : Only (fun b => v.ownBlock = some b) w w'
  hat : Hat v v' w
theorem PutS.refl {w : World} {B : Nat} {v : Value} {xs : List UInt8} (h : w.ownsRow B 5 1 v xs.length (xs.map u8)) : PutS w w B v xs v := ⟨h, Only.refl _ _, Hat.refl _ _⟩
theorem PutS.trans {w w1 w2 : World} {B : Nat} {v v1 v2 : Value} {ys zs : List UInt8} (h : PutS w w1 B v ys v1) (k : PutS w1 w2 B v1 zs v2) : PutS w w2 B v zs v2 :=
  ⟨k.own, h.only.trans k.only (fun b hb he => by
    rcases h.hat with e | e
    · exact e ▸ he
    · exact absurd (e b he) (by omega)), h.hat.trans k.hat h.only.size⟩
theorem PutS.below {w w1 w2 : World} {B : Nat} {v v1 : Value} {ys : List UInt8} (h : PutS w w1 B v ys v1) (k : Below w1.heap.size w1 w2) : PutS w w2 B v ys v1 :=
  ⟨own_keeps h.own fun g hg => k.block g (own_lt h.own g hg), h.only.below k, h.hat⟩
theorem PutS.after {w w1 w2 : World} {B : Nat} {v v2 : Value} {ys : List UInt8} (hb : Below w.heap.size w w1) (h : PutS w1 w2 B v ys v2) : PutS w w2 B v ys v2 :=
  ⟨h.own, h.only.after hb, by
    rcases h.hat with e | e
    · exact .inl e
    · exact .inr fun j hj => Nat.le_trans hb.size (e j hj)⟩
/-- An append. -/
theorem PutS.app {w W W2 : World} {B : Nat} {o : Obj} {v v1 v2 : Value} {xs ys : List UInt8} (h : PutS w W B v xs v1) (hown : W2.ownsRow B 5 1 v2 (xs.length + ys.length) (xs.map u8 ++ ys.map u8)) (hg : (W.alloc o).grownBy W2 v1.ownBlock) (hat : v2.ownBlock = v1.ownBlock ∨ v2.ownBlock = some (W.alloc o).heap.size) : PutS w W2 B v (xs ++ ys) v2 := by
  refine h.trans ⟨by simpa using hown, ?_, ?_⟩
  · exact Only.after ((Below.refl W.heap.size W).alloc (Nat.le_refl _) o) ((Only.refl (fun b => v1.ownBlock = some b) (W.alloc o)).grown hg fun g he hb => he)
  · rcases hat with e | e
    · exact .inl e
    · exact .inr fun j hj => by
        rw [e] at hj
        cases hj
        simp
theorem PutS.app0 {w W W2 : World} {B : Nat} {v v1 v2 : Value} {xs ys : List UInt8} (h : PutS w W B v xs v1) (hown : W2.ownsRow B 5 1 v2 (xs.length + ys.length) (xs.map u8 ++ ys.map u8)) (hg : W.grownBy W2 v1.ownBlock) (hat : v2.ownBlock = v1.ownBlock ∨ v2.ownBlock = some W.heap.size) : PutS w W2 B v (xs ++ ys) v2 := by
  refine h.trans ⟨by simpa using hown, (Only.refl (fun b => v1.ownBlock = some b) W).grown hg fun g he hb => he, ?_⟩
  rcases hat with e | e
  · exact .inl e
  · exact .inr fun j hj => by
      rw [e] at hj
      cases hj
      exact Nat.le_refl _
theorem be_take (x n j : Nat) (h : j < n) : (be x n).take (j + 1) = (be x n).take j ++ [UInt8.ofNat (x / 256 ^ (n - 1 - j) % 256)] := by
  induction n generalizing j with
  | zero => omega
  | succ n ih =>
    cases j with
    | zero => simp [be]
    | succ j =>
      rw [be, List.take_succ_cons, List.take_succ_cons, ih j (by omega), List.cons_append]
      have : n + 1 - 1 - (j + 1) = n - 1 - j := by omega
      rw [this]

set_option maxRecDepth 100000 in
set_option maxHeartbeats 1000000 in
theorem put_any (B : Nat) (v : Value) (xs : List UInt8) (x n : Nat) (w : World) (h : w.ownsRow B 5 1 v xs.length (xs.map u8)) (hB : B ≤ w.heap.size) (hx : x < 1099511627776 * 256) (hn : n ≤ 6) (hl : xs.length ≤ 1000000) :
    Calls Try.prog 33 #[v, .int .i64 (x : Int), .int .i64 (n : Int)] w fun e w' => ∃ v', e = .returned v' ∧ PutS w w' B v (xs ++ be x n) v' := by
  have HO := Lib.hid h
  have HBB := Lib.hid hB
  have HXL := Lib.hid hl
  have hn0 : (n : Int) ≤ 6 := by omega
  have hnn : (0 : Int) ≤ n := by omega
  obtain ⟨X, hX⟩ : ∃ X : Int, (x : Int) = X := ⟨_, rfl⟩
  have HX := Lib.hid hX
  have hX0 : 0 ≤ X := by omega
  have hX1 : X < 281474976710656 := by omega
  rw [hX]
  clear h hB hx hn hl hX
  go_enter Try.func33, Try.ntmps33
  go_wp2_with fail
  go_loopw [7, 0] (fun ii vv wr => ∃ j k : Nat, j + k = n ∧ ii = .int .i64 ((k : Int) - 1) ∧ Hid (PutS w wr B v (xs ++ (be x n).take j) vv)) (fun ii _ _ => (intOf ii + 1).toNat)
  case atStart => exact ⟨0, n, by omega, rfl, Lib.hid (by simpa using PutS.refl HO.out)⟩
  case round =>
    obtain ⟨j, k, hjk, rfl, HP⟩ := hrel
    by_cases hlt : (0 : Int) < k
    · have hk6 : (k : Int) ≤ 6 := by omega
      have hk1 : (1 : Int) ≤ k := by omega
      have hbt := be_take x n j (by omega)
      have hnk : n - 1 - j = k - 1 := by omega
      have hby : (X / 2 ^ (8 * (k - 1)) % 256) = ((x / 256 ^ (k - 1) % 256 : Nat) : Int) := by
        have e2 : (2 : Int) ^ (8 * (k - 1)) = ((256 ^ (k - 1) : Nat) : Int) := by
          rw [show (256 : Nat) = 2 ^ 8 from rfl, ← Nat.pow_mul, Int.natCast_pow]
          rfl
        rw [← HX.out, e2]
        generalize 256 ^ (k - 1) = y
        simp
      rw [hnk] at hbt
      have HBT := Lib.hid hbt
      have HBY := Lib.hid hby
      have hzl : (xs ++ (be x n).take j).length ≤ 1000006 := by have := HXL.out; have := be_length x n; rw [List.length_append, List.length_take]; omega
      obtain ⟨zs, hzs⟩ : ∃ zs, xs ++ (be x n).take j = zs := ⟨_, rfl⟩
      have HZS := Lib.hid hzs
      rw [hzs] at HP hzl
      have HN := Lib.hid hzl
      have HJK := Lib.hid hjk
      clear hzs hzl hbt hby hnk hjk
      go_wp2_with (at_builtin; go_must (refine wpList_app_own (base := B) (n := zs.length) (m := 1) (xs := zs.map Go.Proofs.Ytgbkoegmoelheaa.u8) (news := [.int .u8 (X / 2 ^ (8 * (k - 1)) % 256)]) rfl (.tmp 14) (.tmp 20) 23 rfl el22 rfl (own_alloc HP.out.own) rfl (Holds.one _ _ _) (by simp [Value.oneCell']) (by have := HN.out; unfold maxLen; omega) (by have := HN.out; omega) (by have := HP.out.only.size; have := HBB.out; simp; omega) ?_; intro v2 w2 hown hg hat; refine Hid.out ?_))
      have hb2 : [Value.int .u8 (X / 2 ^ (8 * (k - 1)) % 256)] = [UInt8.ofNat (x / 256 ^ (k - 1) % 256)].map Go.Proofs.Ytgbkoegmoelheaa.u8 := by
        rw [HBY.out]
        simp only [List.map_cons, List.map_nil, Go.Proofs.Ytgbkoegmoelheaa.u8]
        rw [UInt8.toNat_ofNat', Nat.mod_eq_of_lt (Nat.mod_lt _ (by omega))]
      rw [hb2] at hown
      have HP2 := Lib.hid (HP.out.app (ys := [_]) hown hg hat)
      refine Lib.hid ?_
      clear hown hg hat hb2
      go_wp2_with fail
      go_roundw
      case rel => exact ⟨j + 1, k - 1, by have := HJK.out; omega, by go_num, by rw [HBT.out, ← List.append_assoc, HZS.out]; exact HP2⟩
      case measure => simp [intOf]; omega
    · have HLE := Lib.hid (show (be x n).take j = be x n by rw [List.take_of_length_le]; rw [be_length]; omega)
      have hk0 : k = 0 := by omega
      subst hk0
      clear hlt
      go_wp2_with fail
      go_ret
      rw [HLE.out] at HP
      exact ⟨_, rfl, HP.out⟩
end Go.Proofs.Ytgbkoegmoelheaa
