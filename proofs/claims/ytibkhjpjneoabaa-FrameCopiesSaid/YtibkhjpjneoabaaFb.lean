/- Encode's closure: bytes put behind what is there, escaped. -/
import Derived.Test.YtibkhjpjneoabaaFa
import Derived.Deep.CutRange
namespace Go.Proofs.Ytibkhjpjneoabaa
open Go.RowKit
set_option linter.unusedVariables false
set_option linter.unusedSimpArgs false

def escB (x : UInt8) : List UInt8 := if x = 126 ∨ x = 125 then [125, x ^^^ 32] else [x]
def escL (l : List UInt8) : List UInt8 := l.flatMap escB
theorem escL_snoc (l : List UInt8) (x : UInt8) : escL (l ++ [x]) = escL l ++ escB x := by simp [escL]
theorem escL_app (l m : List UInt8) : escL (l ++ m) = escL l ++ escL m := by simp [escL]
theorem escB_len (x : UInt8) : (escB x).length ≤ 2 := by unfold escB; split <;> simp
theorem escL_len (l : List UInt8) : (escL l).length ≤ 2 * l.length := by
  induction l with
  | nil => simp [escL]
  | cons x l ih =>
    have : escL (x :: l) = escB x ++ escL l := by simp [escL]
    rw [this, List.length_append, List.length_cons]
    have := escB_len x
    omega
def Hat (v v' : Value) (w : World) : Prop := v'.ownBlock = v.ownBlock ∨ ∀ k, v'.ownBlock = some k → w.heap.size ≤ k
theorem Hat.refl (v : Value) (w : World) : Hat v v w := .inl rfl
theorem Hat.trans {v v1 v2 : Value} {w w1 : World} (h : Hat v v1 w) (k : Hat v1 v2 w1) (hs : w.heap.size ≤ w1.heap.size) : Hat v v2 w := by
  rcases k with k | k
  · rcases h with h | h
    · exact .inl (k.trans h)
    · exact .inr fun j hj => h j (k ▸ hj)
  · exact .inr fun j hj => Nat.le_trans hs (k j hj)
/-- A box that holds bytes of its own. -/
structure OutS (W : World) (B go : Nat) (v : Value) (xs : List UInt8) : Prop where
  blk : Blk W go 28 #[v]
  own : W.ownsRow B 5 1 v xs.length (xs.map u8)
  base : B ≤ W.heap.size
def SFo (go : Nat) (v : Value) (k : Nat) : Prop := k = go ∨ v.ownBlock = some k
theorem Hat.sfo {go : Nat} {v v' : Value} {w : World} (h : Hat v v' w) : ∀ b, b < w.heap.size → SFo go v' b → SFo go v b := fun b hb hs => by
  rcases hs with h1 | h1
  · exact .inl h1
  · rcases h with h | h
    · exact .inr (h ▸ h1)
    · have := h b h1; omega
section
variable {W W2 : World} {B go : Nat} {v v2 : Value} {xs : List UInt8}
theorem OutS.ne (h : OutS W B go v xs) : v.ownBlock ≠ some go := own_ne h.own h.blk (by decide)
theorem OutS.below (h : OutS W B go v xs) (hb : Below W.heap.size W W2) : OutS W2 B go v xs := ⟨h.blk.below hb h.blk.lt, own_keeps h.own fun g hg => hb.block g (own_lt h.own g hg), Nat.le_trans h.base hb.size⟩
theorem OutS.only {p : Nat → Prop} (h : OutS W B go v xs) (ho : Only p W W2) (hp : ∀ k, SFo go v k → ¬ p k) : OutS W2 B go v xs := ⟨h.blk.only ho (hp _ (.inl rfl)), own_only h.own ho fun k hk => hp k (.inr hk), Nat.le_trans h.base ho.size⟩
theorem OutS.lt (h : OutS W B go v xs) : ∀ k, SFo go v k → k < W.heap.size := fun k hk => by
  rcases hk with rfl | hk
  · exact h.blk.lt
  · exact own_lt h.own k hk
/-- Behind an append to what the box holds, and the store. -/
theorem OutS.push {o : Obj} {ys : List UInt8} (h : OutS W B go v xs) (hown : W2.ownsRow B 5 1 v2 (xs.length + ys.length) (xs.map u8 ++ ys.map u8)) (hg : (W.alloc o).grownBy W2 v.ownBlock) (hat : v2.ownBlock = v.ownBlock ∨ v2.ownBlock = some (W.alloc o).heap.size) :
    OutS (W2.setCell ⟨go, 0, none⟩ v2) B go v2 (xs ++ ys) ∧ Only (SFo go v) W (W2.setCell ⟨go, 0, none⟩ v2) ∧ Hat v v2 W := by
  have hk : Blk W2 go 28 #[v] := (h.blk.alloc o).grown hg (by have := h.ne; intro e; exact this e.symm)
  have hne : v2.ownBlock ≠ some go := own_ne hown hk (by decide)
  have hon : Only (SFo go v) W W2 := Only.grown (Only.of_below ((Below.refl _ W).alloc (Nat.le_refl _) o)) hg fun g e _ => .inr e
  refine ⟨⟨?_, ?_, ?_⟩, Only.set hon (fun _ => .inl rfl) 0 v2, ?_⟩
  · have := hk.set_ 0 v2
    simpa using this
  · rw [List.length_append, List.map_append]
    exact own_setCell hown hne _
  · rw [World.size_setCell]; exact Nat.le_trans h.base hon.size
  · rcases hat with e | e
    · exact .inl e
    · refine .inr fun k hk => ?_
      rw [e] at hk
      cases hk
      simp
/-- The same of an append whose source lies there already. -/
theorem OutS.push0 {ys : List UInt8} (h : OutS W B go v xs) (hown : W2.ownsRow B 5 1 v2 (xs.length + ys.length) (xs.map u8 ++ ys.map u8)) (hg : W.grownBy W2 v.ownBlock) (hat : v2.ownBlock = v.ownBlock ∨ v2.ownBlock = some W.heap.size) :
    OutS (W2.setCell ⟨go, 0, none⟩ v2) B go v2 (xs ++ ys) ∧ Only (SFo go v) W (W2.setCell ⟨go, 0, none⟩ v2) ∧ Hat v v2 W := by
  have hk : Blk W2 go 28 #[v] := h.blk.grown hg (by have := h.ne; intro e; exact this e.symm)
  have hne : v2.ownBlock ≠ some go := own_ne hown hk (by decide)
  have hon : Only (SFo go v) W W2 := Only.grown (Only.refl _ _) hg fun g e _ => .inr e
  refine ⟨⟨?_, ?_, ?_⟩, Only.set hon (fun _ => .inl rfl) 0 v2, ?_⟩
  · have := hk.set_ 0 v2
    simpa using this
  · rw [List.length_append, List.map_append]
    exact own_setCell hown hne _
  · rw [World.size_setCell]; exact Nat.le_trans h.base hon.size
  · rcases hat with e | e
    · exact .inl e
    · refine .inr fun k hk => ?_
      rw [e] at hk
      cases hk
      exact Nat.le_refl _
theorem OutS.form (h : OutS W B go v xs) : ∃ A c, v = .slice A xs.length c := by
  obtain ⟨A, c, e, -⟩ := own_form h.own
  exact ⟨A, c, e⟩
end
/-- What a step of putting does. -/
structure PutS (w w' : World) (B go : Nat) (v : Value) (xs : List UInt8) (v' : Value) : Prop where
  o : OutS w' B go v' xs
  only : Only (SFo go v) w w'
  hat : Hat v v' w
theorem PutS.trans {w w1 w2 : World} {B go : Nat} {v v1 v2 : Value} {xs ys : List UInt8} (h : PutS w w1 B go v xs v1) (k : PutS w1 w2 B go v1 ys v2) : PutS w w2 B go v ys v2 :=
  ⟨k.o, h.only.trans k.only fun b hb hs => h.hat.sfo b hb hs, h.hat.trans k.hat h.only.size⟩

set_option maxRecDepth 100000 in
set_option maxHeartbeats 2000000 in
theorem put_any (B go : Nat) (v : Value) (xs l : List UInt8) (A : Option Addr) (m c : Nat) (w : World) (h : OutS w B go v xs) (hr : RB w A m c l) (hx : xs.length + 2 * m ≤ 1000000) (sep : ∀ a, A = some a → 0 < m → ¬ SFo go v a.block) :
    Calls Try.prog 27 #[.slice A m c, .pointer (some ⟨go, 0, none⟩)] w fun e w' => e = .returned (.tuple #[]) ∧ ∃ v', PutS w w' B go v (xs ++ escL l) v' := by
  have H := Lib.hid h
  have HR := Lib.hid hr
  have HX := Lib.hid hx
  have HS := Lib.hid sep
  have hm : (m : Int) ≤ 1000000 := by omega
  clear h hr hx sep
  go_enter Try.func27, Try.ntmps27
  go_wp2_with fail
  go_loopw [7] (fun ii wr => ∃ (i : Nat) (v1 : Value), (i : Int) ≤ m ∧ ii = .int .i64 i ∧ Hid (PutS w wr B go v (xs ++ escL (l.take i)) v1)) (fun ii _ => m - (intOf ii).toNat)
  case atStart => exact ⟨0, v, by omega, rfl, Lib.hid ⟨by simpa [escL] using H.out, Only.refl _ _, Hat.refl _ _⟩⟩
  case round =>
    obtain ⟨i, v1, hi, rfl, HI⟩ := hrel
    have hi0 : (0 : Int) ≤ i := by omega
    obtain ⟨wo, rfl⟩ : ∃ wo : World, wo = wr := ⟨_, rfl⟩
    by_cases hlt : (i : Int) < m
    · have hil : i < l.length := by have := HR.out.len; omega
      have hro := HR.out.only HI.out.only HS.out
      obtain ⟨b, o, rfl, hbl, hc⟩ := hro.bs (by omega)
      have kx := hc i hil
      obtain ⟨y, hy⟩ : ∃ y, l[i] = y := ⟨_, rfl⟩
      obtain ⟨x, hx⟩ : ∃ x : Int, (y.toNat : Int) = x := ⟨_, rfl⟩
      have hx0 : 0 ≤ x := by omega
      have hx1 : x < 256 := by have := y.toNat_lt; omega
      rw [hy, hx] at kx
      have HY := Lib.hid hx
      have HTK := Lib.hid (show l.take (i + 1) = l.take i ++ [y] by rw [List.take_succ_eq_append_getElem hil, hy])
      obtain ⟨zs, hzs⟩ : ∃ zs, xs ++ escL (l.take i) = zs := ⟨_, rfl⟩
      have HZ := Lib.hid hzs
      have HO := Lib.hid (hzs ▸ HI.out.o)
      have HN := Lib.hid (show zs.length + 2 ≤ 1000000 by
        rw [← hzs, List.length_append]
        have h1 := escL_len (l.take i)
        rw [List.length_take] at h1
        have h2 := HX.out
        have h3 : min i l.length ≤ i := Nat.min_le_left _ _
        omega)
      obtain ⟨A1, c1, rfl⟩ := HO.out.form
      have k0 := HO.out.blk.cell 0
      simp at k0
      have HLT := Lib.hid hlt
      clear hro hc hx hy hzs
      by_cases h6 : x = 126 ∨ x = 125
      · rcases h6 with rfl | rfl
        · have hy6 : y = 126 := by
            apply UInt8.toNat_inj.1
            have := HY.out
            show y.toNat = 126
            omega
          subst hy6
          go_wp2_with (at_builtin; go_must (refine wpList_app_own (base := B) (n := zs.length) (m := 1) (xs := zs.map Go.Proofs.Ytibkhjpjneoabaa.u8) (news := [.int .u8 125]) rfl (.tmp 17) (.tmp 18) 28 rfl el22 rfl (own_alloc HO.out.own) rfl (Holds.one _ _ _) (by simp [Value.oneCell']) (by have := HN.out; unfold maxLen; omega) (by have := HN.out; omega) (by have := HO.out.base; simp; omega) ?_; intro v2 w2 hown hg hat; refine Hid.out ?_))
          refine Lib.hid ?_
          obtain ⟨A2, c2, rfl, -⟩ := own_form hown
          have HP := Lib.hid (HO.out.push (ys := [125]) hown hg hat)
          have hk2 := (HO.out.blk.alloc (.cells #[.int .u8 125] 5)).grown hg (by have := HO.out.ne; intro e; exact this e.symm)
          have k2 := hk2.cell 0
          have z2 := hk2.frozen 0
          simp at k2
          clear hown hg hat hk2 k0
          go_upto_region 6 with fail
          obtain ⟨w3, hw3⟩ : ∃ w3, w2.setCell ⟨go, 0, none⟩ (.slice A2 (zs.length + 1) c2) = w3 := ⟨_, rfl⟩
          rw [hw3] at HP ⊢
          have hz1 : (zs ++ [125]).length = zs.length + 1 := by simp
          clear hw3 k2 z2
          have k3 := HP.out.1.blk.cell 0
          simp at k3
          rw [show bits BinOp.xor IntKind.u8 126 32 = 94 from by decide]
          have HW3 := Lib.hid HP.out.2.1.size
          go_wp2_with (at_builtin; go_must (refine wpList_app_own (base := B) (n := zs.length + 1) (m := 1) (xs := (zs ++ [125]).map Go.Proofs.Ytibkhjpjneoabaa.u8) (news := [.int .u8 94]) rfl (.tmp 22) (.tmp 24) 28 rfl el22 rfl (own_alloc (hz1 ▸ HP.out.1.own)) rfl (Holds.one _ _ _) (by simp [Value.oneCell']) (by have := HN.out; unfold maxLen; omega) (by have := HN.out; omega) (by have := HP.out.1.base; simp; omega) ?_; intro v3 w4 hown hg hat; refine Hid.out ?_))
          refine Lib.hid ?_
          obtain ⟨A3, c3, rfl, -⟩ := own_form hown
          have HQ := Lib.hid (HP.out.1.push (ys := [94]) (by rw [hz1]; exact hown) hg hat)
          have hk4 := (HP.out.1.blk.alloc (.cells #[.int .u8 94] 5)).grown hg (by have := HP.out.1.ne; intro e; exact this e.symm)
          have k4 := hk4.cell 0
          have z4 := hk4.frozen 0
          simp at k4
          clear hown hg hat hk4 k3
          go_wp2_with fail
          go_roundw
          case rel =>
            refine ⟨i + 1, .slice A3 (zs.length + 1 + 1) c3, by have := HLT.out; omega, by go_num, Lib.hid ?_⟩
            have e1 : xs ++ escL (l.take (i + 1)) = (zs ++ [125]) ++ [94] := by
              rw [HTK.out, escL_snoc, ← List.append_assoc, HZ.out, List.append_assoc]
              rfl
            rw [e1]
            exact (HI.out.trans ⟨HP.out.1, HP.out.2.1, HP.out.2.2⟩).trans ⟨HQ.out.1, HQ.out.2.1, HQ.out.2.2⟩
          case measure => have := HLT.out; simp [intOf]; omega
        · have hy6 : y = 125 := by
            apply UInt8.toNat_inj.1
            have := HY.out
            show y.toNat = 125
            omega
          subst hy6
          go_wp2_with (at_builtin; go_must (refine wpList_app_own (base := B) (n := zs.length) (m := 1) (xs := zs.map Go.Proofs.Ytibkhjpjneoabaa.u8) (news := [.int .u8 125]) rfl (.tmp 17) (.tmp 18) 28 rfl el22 rfl (own_alloc HO.out.own) rfl (Holds.one _ _ _) (by simp [Value.oneCell']) (by have := HN.out; unfold maxLen; omega) (by have := HN.out; omega) (by have := HO.out.base; simp; omega) ?_; intro v2 w2 hown hg hat; refine Hid.out ?_))
          refine Lib.hid ?_
          obtain ⟨A2, c2, rfl, -⟩ := own_form hown
          have HP := Lib.hid (HO.out.push (ys := [125]) hown hg hat)
          have hk2 := (HO.out.blk.alloc (.cells #[.int .u8 125] 5)).grown hg (by have := HO.out.ne; intro e; exact this e.symm)
          have k2 := hk2.cell 0
          have z2 := hk2.frozen 0
          simp at k2
          clear hown hg hat hk2 k0
          go_upto_region 6 with fail
          obtain ⟨w3, hw3⟩ : ∃ w3, w2.setCell ⟨go, 0, none⟩ (.slice A2 (zs.length + 1) c2) = w3 := ⟨_, rfl⟩
          rw [hw3] at HP ⊢
          have hz1 : (zs ++ [125]).length = zs.length + 1 := by simp
          clear hw3 k2 z2
          have k3 := HP.out.1.blk.cell 0
          simp at k3
          rw [show bits BinOp.xor IntKind.u8 125 32 = 93 from by decide]
          have HW3 := Lib.hid HP.out.2.1.size
          go_wp2_with (at_builtin; go_must (refine wpList_app_own (base := B) (n := zs.length + 1) (m := 1) (xs := (zs ++ [125]).map Go.Proofs.Ytibkhjpjneoabaa.u8) (news := [.int .u8 93]) rfl (.tmp 22) (.tmp 24) 28 rfl el22 rfl (own_alloc (hz1 ▸ HP.out.1.own)) rfl (Holds.one _ _ _) (by simp [Value.oneCell']) (by have := HN.out; unfold maxLen; omega) (by have := HN.out; omega) (by have := HP.out.1.base; simp; omega) ?_; intro v3 w4 hown hg hat; refine Hid.out ?_))
          refine Lib.hid ?_
          obtain ⟨A3, c3, rfl, -⟩ := own_form hown
          have HQ := Lib.hid (HP.out.1.push (ys := [93]) (by rw [hz1]; exact hown) hg hat)
          have hk4 := (HP.out.1.blk.alloc (.cells #[.int .u8 93] 5)).grown hg (by have := HP.out.1.ne; intro e; exact this e.symm)
          have k4 := hk4.cell 0
          have z4 := hk4.frozen 0
          simp at k4
          clear hown hg hat hk4 k3
          go_wp2_with fail
          go_roundw
          case rel =>
            refine ⟨i + 1, .slice A3 (zs.length + 1 + 1) c3, by have := HLT.out; omega, by go_num, Lib.hid ?_⟩
            have e1 : xs ++ escL (l.take (i + 1)) = (zs ++ [125]) ++ [93] := by
              rw [HTK.out, escL_snoc, ← List.append_assoc, HZ.out, List.append_assoc]
              rfl
            rw [e1]
            exact (HI.out.trans ⟨HP.out.1, HP.out.2.1, HP.out.2.2⟩).trans ⟨HQ.out.1, HQ.out.2.1, HQ.out.2.2⟩
          case measure => have := HLT.out; simp [intOf]; omega
      · have q1 : (x == 126) = false := by simp; omega
        have q2 : (x == 125) = false := by simp; omega
        go_wp2_with (at_builtin; go_must (refine wpList_app_own (base := B) (n := zs.length) (m := 1) (xs := zs.map Go.Proofs.Ytibkhjpjneoabaa.u8) (news := [.int .u8 x]) rfl (.tmp 22) (.tmp 24) 28 rfl el22 rfl (own_alloc HO.out.own) rfl (Holds.one _ _ _) (by simp [Value.oneCell']) (by have := HN.out; unfold maxLen; omega) (by have := HN.out; omega) (by have := HO.out.base; simp; omega) ?_; intro v2 w2 hown hg hat; refine Hid.out ?_))
        refine Lib.hid ?_
        have hux : [Value.int .u8 x] = [y].map Go.Proofs.Ytibkhjpjneoabaa.u8 := by rw [← HY.out]; rfl
        rw [hux] at hown
        obtain ⟨A2, c2, rfl, -⟩ := own_form hown
        have HP := Lib.hid (HO.out.push (ys := [y]) hown hg hat)
        have hk2 := (HO.out.blk.alloc (.cells #[.int .u8 x] 5)).grown hg (by have := HO.out.ne; intro e; exact this e.symm)
        have k2 := hk2.cell 0
        have z2 := hk2.frozen 0
        simp at k2
        clear hown hg hat hk2 hux k0
        go_wp2_with fail
        go_roundw
        case rel =>
          refine ⟨i + 1, .slice A2 (zs.length + 1) c2, by have := HLT.out; omega, by go_num, Lib.hid ?_⟩
          have e1 : xs ++ escL (l.take (i + 1)) = zs ++ [y] := by
            rw [HTK.out, escL_snoc, ← List.append_assoc, HZ.out]
            congr 1
            unfold escB
            rw [if_neg]
            rintro (rfl | rfl)
            · have := HY.out; simp at q1; exact q1 (this ▸ rfl)
            · have := HY.out; simp at q2; exact q2 (this ▸ rfl)
          rw [e1]
          exact HI.out.trans ⟨HP.out.1, HP.out.2.1, HP.out.2.2⟩
        case measure => have := HLT.out; simp [intOf]; omega
    · have HIM := Lib.hid (show i = m by omega)
      go_wp2_with fail
      refine bodyPost_end (v := .tuple #[]) (by simp [results, Try.results27, go_sem]) rfl ⟨rfl, v1, ?_⟩
      have := HI.out
      rw [HIM.out, List.take_of_length_le (Nat.le_of_eq HR.out.len)] at this
      exact this
end Go.Proofs.Ytibkhjpjneoabaa
