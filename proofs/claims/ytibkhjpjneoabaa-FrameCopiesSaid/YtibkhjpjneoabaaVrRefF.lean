/- Contracts of the reference's Allowed, Form, Forms, Write. -/
import Derived.Test.YtibkhjpjneoabaaVrApp
namespace Go.Proofs.Ytibkhjpjneoabaa.Vr
open Go.RowKit

theorem info22 : (Try.prog.info? 28).map (fun i => (i.zero, i.size, i.bytes)) = some (some (.slice none 0 0), 1, 24) := by kernel_rfl

set_option maxHeartbeats 400000 in
theorem rallowed_yes (v : Int) (w : World) (h1 : 0 ≤ v) (h2 : v < 34359738368) :
    Calls Try.prog 45 #[.int .i64 v] w fun e w' => e = .returned (.bool true) ∧ w = w' := by
  go_enter Try.func45, Try.ntmps45
  go_wp2
  go_ret
  exact ⟨by simp, rfl⟩
set_option maxHeartbeats 400000 in
theorem rallowed_no (v : Int) (w : World) (h : v < 0 ∨ 34359738368 ≤ v) :
    Calls Try.prog 45 #[.int .i64 v] w fun e w' => e = .returned (.bool false) ∧ w = w' := by
  rcases h with h1 | h1
  · go_enter Try.func45, Try.ntmps45
    go_wp2
    go_ret
    exact ⟨by simp, rfl⟩
  · have h0 : 0 ≤ v := by omega
    go_enter Try.func45, Try.ntmps45
    go_wp2
    go_ret
    exact ⟨by simp; omega, rfl⟩

theorem k0_zero (v n : Nat) (hv : v < 34359738368) (hn : n ≤ 5) (h0 : 0 < n) : v / 128 ^ n = 0 ↔ k0 v < n := by
  obtain ⟨m, rfl⟩ : ∃ m, n = m + 1 := ⟨n - 1, by omega⟩
  have h := k0_iff v m hv (by omega)
  rw [← div128]
  generalize v / 128 ^ m = x at *
  omega
theorem formN_length (v n k : Nat) (hk : k ≤ n) (h0 : 0 < n) : (if k < n then moreB v k else formB v (n - 1)).length = k := by
  split
  · exact moreB_length v k
  · rw [formB_length]; omega

theorem form_round {v n k : Nat} {q x : Int} {A : Option Addr} {cap : Nat} {w wr w2 : World} {v2 : Value} {o : Obj} (hkn : k < n) (hq : q = ((v / 128 ^ k : Nat) : Int)) (hb : Below w.heap.size w wr)
    (hown : wr.ownsRow w.heap.size 5 1 (.slice A k cap) k ((if k < n then moreB v k else formB v (n - 1)).map u8))
    (hown2 : w2.ownsRow w.heap.size 5 1 v2 (k + 1) ((if k < n then moreB v k else formB v (n - 1)).map u8 ++ [.int .u8 x])) (hg : (wr.alloc o).grownBy w2 (Value.slice A k cap).ownBlock)
    (he : (if k < n then moreB v k else formB v (n - 1)).map u8 ++ [.int .u8 x] = (if k + 1 < n then moreB v (k + 1) else formB v (n - 1)).map u8) :
    (∃ (k_1 : Nat) (q' : Int), k_1 ≤ n ∧ Value.int .i64 ((k : Int) + 1) = .int .i64 k_1 ∧ Value.int .i64 (q / 128) = .int .i64 q' ∧ Hid (q' = ((v / 128 ^ k_1 : Nat) : Int)) ∧ w2.ownsRow w.heap.size 5 1 v2 k_1 ((if k_1 < n then moreB v k_1 else formB v (n - 1)).map u8) ∧ Below w.heap.size w w2) ∧
      n - (intOf (.int .i64 ((k : Int) + 1))).toNat < n - (intOf (.int .i64 (k : Int))).toNat := by
  refine ⟨⟨k + 1, q / 128, by omega, by simp, rfl, ?_, by rw [← he]; exact hown2, ?_⟩, by simp [intOf]; omega⟩
  · show q / 128 = ((v / 128 ^ (k + 1) : Nat) : Int)
    rw [← div128, hq]; simp
  · exact below_own (hb.alloc hb.size _) (by have := hb.size; simp; omega) (hown.alloc o) hg

set_option maxRecDepth 100000 in
set_option maxHeartbeats 1000000 in
theorem form_any (v n : Nat) (w : World) (hv : v < 34359738368) (hn : n ≤ 5) (h0 : 0 < n) :
    Calls Try.prog 66 #[.int .i64 v, .int .i64 n] w fun e w' => ∃ val, e = .returned (.tuple #[val, .bool (decide (k0 v < n))]) ∧ w'.ownsRow w.heap.size 5 1 val n ((formB v (n - 1)).map u8) ∧ Below w.heap.size w w' := by
  obtain ⟨i0, hi0, hz0, hz1, hz2⟩ := info_parts info5
  go_enter Try.func66, Try.ntmps66
  go_wp2_with fail
  go_loopw [0, 6, 7, 8] (fun q b i _ wr => ∃ (k : Nat) (q' : Int), k ≤ n ∧ i = .int .i64 k ∧ q = .int .i64 q' ∧ Hid (q' = ((v / 128 ^ k : Nat) : Int)) ∧ wr.ownsRow w.heap.size 5 1 b k ((if k < n then moreB v k else formB v (n - 1)).map u8) ∧ Below w.heap.size w wr) (fun _ _ i _ _ => n - (intOf i).toNat)
  case atStart => exact ⟨0, v, by omega, rfl, rfl, by show (v : Int) = ((v / 1 : Nat) : Int); rw [Nat.div_one], by rw [if_pos h0]; exact World.ownsRow_nil _ _ _ _, Below.refl _ _⟩
  case round =>
    obtain ⟨k, q, hk, rfl, rfl, HQ, hown, hb⟩ := hrel
    have hqv : q < 34359738368 := by have := Nat.div_le_self v (128 ^ k); have := HQ.out; omega
    have hq0 : 0 ≤ q := by rw [HQ.out]; exact Int.natCast_nonneg _
    have HV := Lib.hid hv
    have HO := Lib.hid hown
    have HB := Lib.hid hb
    clear hv hown hb
    obtain ⟨A, cap, rfl, hkc, hcm, hnone, hcells⟩ := own_form HO.out
    clear hcm hnone hcells
    by_cases hkn : k < n
    · have HF := Lib.hid (show k + 1 ≤ maxLen ∧ (k + 1) * 1 ≤ 140737488355328 by unfold maxLen; omega)
      by_cases hl : (k : Int) < (n : Int) - 1
      · have HL := Lib.hid hl
        have h1 : ∀ u ∈ [Value.int IntKind.u8 (q % 128 + 128)], u.oneCell' = true := by simp [Value.oneCell']
        have H1 := Lib.hid h1
        clear h1
        go_wp2_with (first | (at_builtin; go_must (refine wpList_append_own _ rfl (.tmp 24) (.tmp 27) 28 rfl w.heap.size 5 i0 (.int .u8 0) 1 1 Try.underlying28 hi0 hz0 hz1 hz2 rfl (by decide) (.slice A k cap) k _ rfl (HO.out.alloc _) ⟨wr.heap.size, 0, none⟩ 1 1 [.int .u8 (q % 128 + 128)] rfl rfl (cell_one_new _ _ _) H1.out HF.out.1 HF.out.2 (by have := HB.out.size; simp; omega) ?_; intro v2 w2 hown2 hg2 _; have HG2 := Lib.hid hg2; have HO2 := Lib.hid hown2; clear hg2 hown2)))
        refine form_round hkn HQ.out HB.out HO.out HO2.out HG2.out ?_
        have HQ' := HQ.out
        rw [if_pos hkn, if_pos (by omega), more_cells v k q HQ']
      · have HL := Lib.hid hl
        have h1 : ∀ u ∈ [Value.int IntKind.u8 (q % 128)], u.oneCell' = true := by simp [Value.oneCell']
        have H1 := Lib.hid h1
        clear h1
        go_wp2_with (first | (at_builtin; go_must (refine wpList_append_own _ rfl (.tmp 24) (.tmp 27) 28 rfl w.heap.size 5 i0 (.int .u8 0) 1 1 Try.underlying28 hi0 hz0 hz1 hz2 rfl (by decide) (.slice A k cap) k _ rfl (HO.out.alloc _) ⟨wr.heap.size, 0, none⟩ 1 1 [.int .u8 (q % 128)] rfl rfl (cell_one_new _ _ _) H1.out HF.out.1 HF.out.2 (by have := HB.out.size; simp; omega) ?_; intro v2 w2 hown2 hg2 _; have HG2 := Lib.hid hg2; have HO2 := Lib.hid hown2; clear hg2 hown2)))
        refine form_round hkn HQ.out HB.out HO.out HO2.out HG2.out ?_
        have HQ' := HQ.out
        rw [if_pos hkn, if_neg (by omega), form_cells v k q HQ']
        rw [show n - 1 = k by omega]
    · obtain rfl : k = n := by omega
      have hiff := k0_zero v k HV.out hn h0
      by_cases hq : q = 0
      · have HK := Lib.hid (show decide (k0 v < k) = true by rw [decide_eq_true_eq, ← hiff]; have := HQ.out; omega)
        have hd : (q == 0) = true := by simp [hq]
        clear hq hiff
        go_wp2_with fail
        go_ret2
        refine ⟨.slice A k cap, by rw [HK.out]; simp, ?_, HB.out⟩
        have := HO.out
        rw [if_neg (by omega)] at this
        exact this
      · have HK := Lib.hid (show decide (k0 v < k) = false by rw [decide_eq_false_iff_not, ← hiff]; have := HQ.out; omega)
        have hd : (q == 0) = false := by simp [hq]
        clear hq hiff
        go_wp2_with fail
        go_ret2
        refine ⟨.slice A k cap, by rw [HK.out]; simp, ?_, HB.out⟩
        have := HO.out
        rw [if_neg (by omega)] at this
        exact this

/-- The lists of bytes that are the forms of v, in rows of their own. -/
def Rows2 (W : World) (B v m : Nat) (vals : List Value) : Prop := vals.length = m ∧ ∀ i x, vals[i]? = some x → W.ownsRow B 5 1 x (k0 v + i + 1) ((formB v (k0 v + i)).map u8)

theorem own_other {w : World} {B B' n n' sz sz' : Nat} {e e' : TypeId} {v v' : Value} {xs xs' : List Value} (h : w.ownsRow B e sz v n xs) (h' : w.ownsRow B' e' sz' v' n' xs') (hne : e ≠ e') : v.ownBlock = none ∨ v.ownBlock ≠ v'.ownBlock := by
  rcases h.2 with ⟨rfl, _⟩ | ⟨g, cap, cur, rfl, _, hh, _⟩
  · exact .inl rfl
  · refine .inr fun he => ?_
    rcases h'.2 with ⟨rfl, _⟩ | ⟨g', cap', cur', rfl, _, hh', _⟩
    · cases he
    · simp only [Value.ownBlock, Option.some.injEq] at he
      subst he
      rw [hh] at hh'
      cases hh'
      exact hne rfl
theorem Rows2.kept {W W' : World} {B v m : Nat} {vals : List Value} {row : Option Nat} (h : Rows2 W B v m vals) (hg : W.grownBy W' row) (hne : ∀ (i : Nat) (x : Value), vals[i]? = some x → x.ownBlock = none ∨ x.ownBlock ≠ row) : Rows2 W' B v m vals :=
  ⟨h.1, fun i x hx => (h.2 i x hx).kept hg (hne i x hx)⟩
theorem Rows2.below {W W' : World} {B v m : Nat} {vals : List Value} (h : Rows2 W B v m vals) (hb : Below W.heap.size W W') : Rows2 W' B v m vals :=
  ⟨h.1, fun i x hx => own_keeps (h.2 i x hx) fun g hg => hb.block g ((h.2 i x hx).lt g hg).2⟩
theorem Rows2.snoc {W : World} {B v m : Nat} {vals : List Value} {x : Value} (h : Rows2 W B v m vals) (hx : W.ownsRow B 5 1 x (k0 v + m + 1) ((formB v (k0 v + m)).map u8)) : Rows2 W B v (m + 1) (vals ++ [x]) := by
  refine ⟨by simp [h.1], fun i y hy => ?_⟩
  rcases Nat.lt_or_ge i vals.length with hi | hi
  · rw [List.getElem?_append_left hi] at hy; exact h.2 i y hy
  · rw [List.getElem?_append_right hi] at hy
    have h0 : i - vals.length = 0 := by
      rcases Nat.eq_zero_or_pos (i - vals.length) with h0 | h0
      · exact h0
      · rw [List.getElem?_eq_none (by simp; omega)] at hy; cases hy
    rw [h0] at hy
    simp at hy
    subst hy
    have : i = m := by have := h.1; omega
    subst this
    exact hx
theorem Rows2.own_below {W : World} {B v m n : Nat} {e : TypeId} {vals : List Value} {val : Value} {W' : World} (h : Rows2 W B v m vals) {xs : List Value} (hown : W.ownsRow B e 1 val n xs) (he : e ≠ 5) (hg : W.grownBy W' val.ownBlock) : Rows2 W' B v m vals :=
  h.kept hg fun i x hx => own_other (h.2 i x hx) hown (fun h5 => he h5.symm)

def GaveForms (w : World) (v : Nat) (e : Ending) (w' : World) : Prop := ∃ val vals, e = .returned val ∧ w'.ownsRow w.heap.size 28 1 val (5 - k0 v) vals ∧ Rows2 w' w.heap.size v (5 - k0 v) vals ∧ Below w.heap.size w w'

set_option maxRecDepth 100000 in
set_option maxHeartbeats 1000000 in
theorem rforms_yes (v : Nat) (w : World) (hv : v < 34359738368) : Calls Try.prog 46 #[.int .i64 v] w (GaveForms w v) := by
  obtain ⟨i0, hi0, hz0, hz1, hz2⟩ := info_parts info22
  have hva : (v : Int) < 34359738368 := by omega
  have HV := Lib.hid hv
  clear hv
  go_enter Try.func46, Try.ntmps46
  go_wp2_with fail
  go_loopw [3, 4, 5, 6] (fun b i _ _ wr => ∃ (k : Nat) (vals : List Value), k ≤ 6 ∧ 0 < k ∧ i = .int .i64 k ∧ wr.ownsRow w.heap.size 28 1 b (k - 1 - k0 v) vals ∧ Rows2 wr w.heap.size v (k - 1 - k0 v) vals ∧ Below w.heap.size w wr) (fun _ i _ _ _ => 6 - (intOf i).toNat)
  case atStart => exact ⟨1, [], by omega, by omega, rfl, by simp; exact World.ownsRow_nil _ _ _ _, ⟨by simp, by simp⟩, Below.refl _ _⟩
  case round =>
    obtain ⟨k, vals, hk, hk0, rfl, hown, hrows, hb⟩ := hrel
    obtain ⟨A, cap, rfl, hkc, hcm, hnone, hcells⟩ := own_form hown
    have HO := Lib.hid hown
    have HR := Lib.hid hrows
    have HB := Lib.hid hb
    have h0v : (0 : Int) ≤ v := by omega
    clear hown hrows hb hcm hnone hcells hkc
    by_cases h5 : (k : Int) ≤ 5
    · by_cases hf : k0 v < k
      · have hd : decide (k0 v < k) = true := by simp [hf]
        have HF := Lib.hid hf
        have HFF := Lib.hid (show k - 1 - k0 v + 1 ≤ maxLen ∧ (k - 1 - k0 v + 1) * 24 ≤ 140737488355328 by unfold maxLen; omega)
        clear hf
        go_wp2_with (first
          | (go_at_call 45; (with_reducible refine (rallowed_yes _ _ h0v hva).mono ?_); rintro e w' ⟨rfl, rfl⟩)
          | (go_at_call 66; (with_reducible refine (form_any v k _ HV.out (by omega) hk0).mono ?_); rintro e w1 ⟨val, rfl, hown1, hb1⟩; obtain ⟨A1, cap1, rfl, _⟩ := own_form hown1; have HO1 := Lib.hid hown1; have HB1 := Lib.hid hb1; clear hown1 hb1)
          | (at_builtin; go_must (refine wpList_append_own _ rfl (.tmp 22) (.tmp 24) 25 rfl w.heap.size 28 i0 (.slice none 0 0) 1 24 Try.underlying25 hi0 hz0 hz1 hz2 rfl (by decide) (.slice A (k - 1 - k0 v) cap) (k - 1 - k0 v) vals rfl ((own_keeps HO.out fun g hg => HB1.out.block g (HO.out.lt g hg).2).alloc _) ⟨w1.heap.size, 0, none⟩ 1 1 [.slice A1 k cap1] rfl rfl (cell_one_new _ _ _) (by simp [Value.oneCell']) HFF.out.1 HFF.out.2 (by have := HB.out.size; have := HB1.out.size; simp; omega) ?_; intro v2 w2 hown2 hg2 _; have HG2 := Lib.hid hg2; have HO2 := Lib.hid hown2; clear hg2 hown2)))
        have hk' : k0 v < k := HF.out
        have hb1 : Below w.heap.size w w1 := HB.out.trans (HB1.out.mono HB.out.size)
        have ho1 := own_keeps HO.out fun g hg => HB1.out.block g (HO.out.lt g hg).2
        have hr1 := (HR.out.below HB1.out).snoc (x := .slice A1 k cap1) (by rw [show k0 v + (k - 1 - k0 v) + 1 = k by omega, show k0 v + (k - 1 - k0 v) = k - 1 by omega]; exact own_base HO1.out HB.out.size)
        have hs := hb1.size
        refine ⟨⟨k + 1, vals ++ [.slice A1 k cap1], by omega, by omega, by simp, ?_, ?_, ?_⟩, by simp [intOf]; omega⟩
        · rw [show k + 1 - 1 - k0 v = k - 1 - k0 v + 1 by omega]; exact HO2.out
        · rw [show k + 1 - 1 - k0 v = k - 1 - k0 v + 1 by omega]
          exact (hr1.below ((Below.refl _ _).alloc (Nat.le_refl _) _)).own_below (ho1.alloc _) (by decide) HG2.out
        · exact below_own (hb1.alloc hs _) (by simp; omega) (ho1.alloc _) HG2.out
      · have hd : decide (k0 v < k) = false := by simp; omega
        have HF := Lib.hid hf
        clear hf
        go_wp2_with (first
          | (go_at_call 45; (with_reducible refine (rallowed_yes _ _ h0v hva).mono ?_); rintro e w' ⟨rfl, rfl⟩)
          | (go_at_call 66; (with_reducible refine (form_any v k _ HV.out (by omega) hk0).mono ?_); rintro e w1 ⟨val, rfl, hown1, hb1⟩; obtain ⟨A1, cap1, rfl, _⟩ := own_form hown1; have HO1 := Lib.hid hown1; have HB1 := Lib.hid hb1; clear hown1 hb1))
        have hk' := HF.out
        have ho1 := own_keeps HO.out fun g hg => HB1.out.block g (HO.out.lt g hg).2
        refine ⟨⟨k + 1, vals, by omega, by omega, by simp, ?_, ?_, HB.out.trans (HB1.out.mono HB.out.size)⟩, by simp [intOf]; omega⟩
        · rw [show k + 1 - 1 - k0 v = k - 1 - k0 v by omega]; exact ho1
        · rw [show k + 1 - 1 - k0 v = k - 1 - k0 v by omega]; exact HR.out.below HB1.out
    · obtain rfl : k = 6 := by omega
      go_wp2_with fail
      go_ret
      exact ⟨_, vals, rfl, HO.out, HR.out, HB.out⟩

def GaveWrite (w : World) (v : Nat) (e : Ending) (w' : World) : Prop := ∃ val, e = .returned (.tuple #[val, .int .i64 0]) ∧ w'.ownsRow w.heap.size 5 1 val (k0 v + 1) ((formB v (k0 v)).map u8) ∧ Below w.heap.size w w'
set_option maxHeartbeats 400000 in
theorem rwrite_yes (v : Nat) (w : World) (hv : v < 34359738368) : Calls Try.prog 31 #[.int .i64 v] w (GaveWrite w v) := by
  have hva : (v : Int) < 34359738368 := by omega
  have h0v : (0 : Int) ≤ v := by omega
  have hk4 := k0_le v
  have HV := Lib.hid hv
  clear hv
  go_enter Try.func31, Try.ntmps31
  go_wp2_with (first
    | (go_at_call 45; (with_reducible refine (rallowed_yes _ _ h0v hva).mono ?_); rintro e w' ⟨rfl, rfl⟩)
    | (go_at_call 46; go_must ((with_reducible refine (rforms_yes v _ HV.out).mono ?_); rintro e w1 ⟨val, vals, rfl, hown1, hr1, hb1⟩; obtain ⟨g, cap, rfl, hg, hgs, hnc, hcm, hcells⟩ := own_holds hown1 (by omega); have hv0 : ∃ x, vals[0]? = some x := ⟨_, List.getElem?_eq_getElem (by have := hr1.1; omega)⟩; obtain ⟨x, hx⟩ := hv0; have hc := hcells 0 x hx; have hrow := hr1.2 0 x hx; have HX := Lib.hid hx; have HROW := Lib.hid hrow; have HB1 := Lib.hid hb1; simp only [Addr.add_zero'] at hc; have hlen : (0 : Int) < ((5 - k0 v : Nat) : Int) := (by omega); clear hx hrow hb1 hcells hr1 hown1 hcm)))
  go_ret2
  refine ⟨x, rfl, ?_, HB1.out⟩
  have := HROW.out
  simpa using this
set_option maxHeartbeats 400000 in
theorem rwrite_no (v : Int) (w : World) (hv : v < 0 ∨ 34359738368 ≤ v) : Calls Try.prog 31 #[.int .i64 v] w fun e w' => e = .returned (.tuple #[.slice none 0 0, .int .i64 3]) ∧ w = w' := by
  have HV := Lib.hid hv
  clear hv
  go_enter Try.func31, Try.ntmps31
  go_wp2_with (first | (go_at_call 45; (with_reducible refine (rallowed_no _ _ HV.out).mono ?_); rintro e w' ⟨rfl, rfl⟩))
  go_ret2
  exact ⟨rfl, rfl⟩
end Go.Proofs.Ytibkhjpjneoabaa.Vr
