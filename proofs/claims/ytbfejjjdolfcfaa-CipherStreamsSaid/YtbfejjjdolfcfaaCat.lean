/- Contracts of slices.Grow of nil, slices.Concat, slices.IndexFunc and ContainsFunc over words, cipher.word. -/
import Derived.Test.YtbfejjjdolfcfaaProg
import Derived.Test.YtbfejjjdolfcfaaGr
import Derived.Lib.AppendZeros
import Derived.Outline
import Derived.WalkLawsBesides
namespace Go.Proofs.Ytbfejjjdolfcfaa
open Go.RowKit
set_option linter.unusedVariables false
set_option linter.unusedSimpArgs false

theorem el29 : El Try.prog 29 3 8 := El.mk' (z := .int .i64 0) Try.underlying29 (by kernel_rfl) rfl
theorem el30 : El Try.prog 30 5 1 := El.mk' (z := .int .u8 0) Try.underlying30 (by kernel_rfl) rfl
theorem info3 : (Try.prog.info? 3).map (fun i => (i.zero, i.size, i.bytes)) = some (some (.int .i64 0), 1, 8) := by kernel_rfl

/-- The ends of a function that returns fresh cells of type e. -/
def Rowed (w : World) (e : TypeId) (n : Nat) (xs : List Value) (r : Value → Value) (en : Ending) (w' : World) : Prop := ∃ v, en = .returned (r v) ∧ w'.ownsRow w.heap.size e 1 v n xs ∧ Below w.heap.size w w'

set_option maxRecDepth 100000 in
theorem grow_nil (n : Nat) (w : World) (hn : n ≤ 60000) : Calls Try.prog 33 #[.slice none 0 0, .int .i64 n] w fun e w' => Rowed w 3 0 [] (fun v => v) e w' := by
  obtain ⟨i0, hi, hz0, hz1, hz2⟩ := info_parts info3
  by_cases h0 : 0 < (n : Int)
  · have hrun := Lib.run_append_nil_zeros (P := Try.prog) w 29 3 29 3 i0 (.int .i64 0) .i64 .i64 Try.underlying29 Try.underlying3 hi hz0 n (by omega) (by omega) (by omega) (by rw [hz2]; omega)
    have hge := grownCap_ge w n 0 3
    have hle := grownCap_le_maxLen w n 0 3 (by unfold maxLen; omega)
    have hsz : (Builtin.zeroCells (Value.int IntKind.i64 0).cells n ++ Builtin.zeroCells (Value.int IntKind.i64 0).cells (grownCap w n 0 3 - n)).size = grownCap w n 0 3 * 1 := by
      rw [Array.size_append, size_zeroCells, size_zeroCells]
      show n * 1 + _ * 1 = _
      omega
    generalize Builtin.zeroCells (Value.int IntKind.i64 0).cells n ++ Builtin.zeroCells (Value.int IntKind.i64 0).cells (grownCap w n 0 3 - n) = cur at hrun hsz
    generalize grownCap w n 0 3 = cap at hrun hsz hge hle
    have HR := Lib.hid hrun
    have HO := Lib.hid (World.ownsRow_made (e := 3) w.drew cur cap (Nat.le_refl _) hle hsz)
    have hn' : (n : Int) ≤ 60000 := by omega
    clear hrun hsz hle hi hz0 hz1 hz2 hn
    have h1 : (0 : Int) ≤ cap := by omega
    go_enter Try.func33, Try.ntmps33
    go_wp2_with (at_builtin; go_must (refine Lib.wpList_append_run w rfl (.tmp 20) (.tmp 21) 29 3 rfl (.slice none 0 0) (.int .i64 (n : Int)) (by rfl) (by rfl) _ _ HR.out ?_))
    go_ret
    exact ⟨_, rfl, HO.out, (below_drew (Below.refl _ w)).alloc (Nat.le_refl _) _⟩
  · obtain rfl : n = 0 := by omega
    clear hi hz0 hz1 hz2 hn h0
    go_enter Try.func33, Try.ntmps33
    go_wp2_with fail
    go_ret
    exact ⟨_, rfl, World.ownsRow_nil _ _ 3 1, Below.refl _ _⟩

/-- A slice: its address, length, capacity and cells. -/
structure Sv where
  A : Option Addr
  n : Nat
  c : Nat
  vs : List Value
def Sv.val (r : Sv) : Value := .slice r.A r.n r.c
def totN (R : List Sv) : Nat := (R.map (·.n)).sum
def catV (R : List Sv) : List Value := R.flatMap (·.vs)
theorem totN_succ (R : List Sv) (k : Nat) (h : k < R.length) : totN (R.take (k + 1)) = totN (R.take k) + R[k].n := by
  unfold totN
  rw [List.take_succ_eq_append_getElem h, List.map_append, List.sum_append]
  simp
theorem catV_succ (R : List Sv) (k : Nat) (h : k < R.length) : catV (R.take (k + 1)) = catV (R.take k) ++ R[k].vs := by
  unfold catV
  rw [List.take_succ_eq_append_getElem h, List.flatMap_append]
  simp
theorem totN_le (R : List Sv) : ∀ k, totN (R.take k) ≤ totN R := by
  induction R with
  | nil => intro k; simp [totN]
  | cons r R ih =>
    intro k
    cases k with
    | zero => simp [totN]
    | succ k => have := ih k; simp only [totN, List.take_succ_cons, List.map_cons, List.sum_cons] at *; omega
/-- Each slice of the list reads as its cells. -/
def RowsOk (w : World) (R : List Sv) : Prop := ∀ r ∈ R, Holds w r.A r.n r.vs ∧ ∀ u ∈ r.vs, u.oneCell' = true

set_option maxRecDepth 100000 in
set_option maxHeartbeats 1000000 in
theorem concat_any (h : Nat) (t : TypeId) (R : List Sv) (w : World) (hb : Blk w h t (R.map Sv.val).toArray) (hr : RowsOk w R) (hm : R.length ≤ 60000) (htot : totN R ≤ 60000) :
    Calls Try.prog 24 #[.slice (some ⟨h, 0, none⟩) R.length R.length] w fun e w' => Rowed w 3 (totN R) (catV R) (fun v => v) e w' := by
  have HB := Lib.hid hb
  have HR := Lib.hid hr
  clear hb hr
  go_enter Try.func24, Try.ntmps24
  go_wp2_with fail
  go_loop [3, 5, 11] (fun sz _ i => ∃ k : Nat, k ≤ R.length ∧ i = .int .i64 k ∧ sz = .int .i64 (totN (R.take k) : Nat)) (fun _ _ i => R.length - (intOf i).toNat)
  case atStart => exact ⟨0, Nat.zero_le _, rfl, rfl⟩
  case round =>
    obtain ⟨k, hk, rfl, rfl⟩ := hrel
    by_cases hlt : (k : Int) < R.length
    · have hkl : k < R.length := by omega
      have hcell : w.cell? ⟨h, k, none⟩ = some (.slice (R[k]).A (R[k]).n (R[k]).c) := by
        rw [HB.out.cell]
        simp [List.getElem?_eq_getElem hkl, Sv.val]
      have h1 := totN_succ R k hkl
      have h2 := totN_le R (k + 1)
      have H1 := Lib.hid h1
      have hsum : (totN (R.take k) : Int) + (R[k]).n ≤ 60000 := by omega
      generalize (R[k]).A = rA at *
      generalize (R[k]).n = rn at *
      generalize (R[k]).c = rc at *
      clear h1 h2 hkl
      go_wp2_with fail
      go_round
      case rel => exact ⟨k + 1, by omega, by go_num, by rw [H1.out]; go_num⟩
      case measure => simp [intOf]; omega
    · obtain rfl : k = R.length := by omega
      rw [List.take_length]
      go_wp2_with fail
      (with_reducible refine (grow_nil (totN R) _ htot).mono ?_); rintro e w1 ⟨v, rfl, ho, hb1⟩
      have HO1 := Lib.hid ho
      have HB1 := Lib.hid hb1
      clear ho hb1 hlt
      go_wp2_with fail
      go_loopw [6, 8, 27] (fun v _ i wr => ∃ k : Nat, k ≤ R.length ∧ i = .int .i64 k ∧ wr.ownsRow w.heap.size 3 1 v (totN (R.take k)) (catV (R.take k)) ∧ Below w.heap.size w wr) (fun _ _ i _ => R.length - (intOf i).toNat)
      case atStart => exact ⟨0, Nat.zero_le _, rfl, HO1.out, HB1.out⟩
      case round =>
        obtain ⟨k, hk, rfl, hown, hbw⟩ := hrel
        obtain ⟨A2, cap2, rfl, -⟩ := own_form hown
        have HO2 := Lib.hid hown
        have HB2 := Lib.hid hbw
        clear hown hbw
        by_cases hlt : (k : Int) < R.length
        · have hkl : k < R.length := by omega
          have hcell : wr.cell? ⟨h, k, none⟩ = some (.slice (R[k]).A (R[k]).n (R[k]).c) := by
            rw [HB2.out.cell (p := ⟨h, k, none⟩) HB.out.lt, HB.out.cell]
            simp [List.getElem?_eq_getElem hkl, Sv.val]
          have h1 := totN_succ R k hkl
          have h2 := totN_le R (k + 1)
          have h3 := catV_succ R k hkl
          obtain ⟨h4, h5⟩ := HR.out (R[k]) (List.getElem_mem hkl)
          have H1 := Lib.hid h1
          have H3 := Lib.hid h3
          have H4 := Lib.hid h4
          have H5 := Lib.hid h5
          have hsum : totN (R.take k) + (R[k]).n ≤ 60000 := by omega
          generalize (R[k]).A = rA at *
          generalize (R[k]).n = rn at *
          generalize (R[k]).c = rc at *
          generalize (R[k]).vs = rvs at *
          clear h1 h2 h3 h4 h5 hkl
          go_wp2_with (at_builtin; go_must (refine wpList_app_own (base := w.heap.size) (n := totN (R.take k)) (m := rn) (xs := catV (R.take k)) (news := rvs) rfl (.tmp 31) (.tmp 32) 29 rfl el29 rfl HO2.out rfl (H4.out.keep HB2.out) H5.out (by unfold maxLen; omega) (by omega) HB2.out.size ?_; intro v3 w3 hown hg _; have HO3 := Lib.hid hown; have HB3 := Lib.hid (below_own HB2.out HB2.out.size HO2.out hg); clear hown hg))
          go_roundw
          case rel => exact ⟨k + 1, by omega, by go_num, by rw [H1.out, H3.out]; exact HO3.out, HB3.out⟩
          case measure => simp [intOf]; omega
        · obtain rfl : k = R.length := by omega
          have HO3 := HO2.out
          rw [List.take_length] at HO3
          have HO4 := Lib.hid HO3
          clear HO3
          go_wp2_with fail
          go_ret
          exact ⟨_, rfl, HO4.out, HB2.out⟩

/-! words -/
def isW (v : Int) : Bool := decide (0 ≤ v ∧ v < 4294967296)
theorem word_any (v : Int) (w : World) : Calls Try.prog 27 #[.int .i64 v] w fun e w' => e = .returned (.bool (isW v)) ∧ w = w' := by
  by_cases h0 : 0 ≤ v
  · by_cases h1 : v ≤ 4294967295
    · have hd : decide (0 ≤ v) = true := by simp [h0]
      go_enter Try.func27, Try.ntmps27
      go_wp2
      go_ret
      exact ⟨by simp [isW]; omega, rfl⟩
    · go_enter Try.func27, Try.ntmps27
      go_wp2
      go_ret
      exact ⟨by simp [isW]; omega, rfl⟩
  · have hd : decide (0 ≤ v) = false := by simp; omega
    go_enter Try.func27, Try.ntmps27
    go_wp2
    go_ret
    exact ⟨by simp [isW]; omega, rfl⟩
theorem pred_any (v : Int) (w : World) : Calls Try.prog 26 #[.int .i64 v] w fun e w' => e = .returned (.bool (!isW v)) ∧ w = w' := by
  go_enter Try.func26, Try.ntmps26
  go_wp2_with (go_at_call 27; (with_reducible refine (word_any _ _).mono ?_); rintro e w' ⟨rfl, rfl⟩)
  go_ret
  exact ⟨rfl, rfl⟩
def iw (x : Int) : Value := .int .i64 x
/-- The index of the first that is no word, or -1. -/
def ixW (l : List Int) : Int := match l.findIdx? (fun x => !isW x) with | some i => (i : Int) | none => -1
theorem ixW_neg (l : List Int) : decide (0 ≤ ixW l) = !(l.all isW) := by
  unfold ixW
  cases h : l.findIdx? (fun x => !isW x) with
  | none =>
    have := List.findIdx?_eq_none_iff.1 h
    simp at this ⊢
    exact this
  | some i =>
    obtain ⟨hi, h1, _⟩ := List.findIdx?_eq_some_iff_getElem.1 h
    simp at h1 ⊢
    exact ⟨l[i], List.getElem_mem hi, h1⟩
theorem ixW_none {l : List Int} (h : ∀ i (hi : i < l.length), isW l[i] = true) : ixW l = -1 := by
  unfold ixW
  rw [List.findIdx?_eq_none_iff.2]
  intro x hx
  obtain ⟨i, hi, rfl⟩ := List.getElem_of_mem hx
  simp [h i hi]
theorem ixW_some {l : List Int} {k : Nat} (hk : k < l.length) (h : ∀ i (hi : i < k), isW (l[i]'(by omega)) = true) (h1 : isW l[k] = false) : ixW l = (k : Int) := by
  unfold ixW
  rw [List.findIdx?_eq_some_iff_getElem.2 ⟨hk, by simpa using h1, fun j hj => by simp [h j hj]⟩]

set_option maxRecDepth 100000 in
theorem indexf_any (A : Option Addr) (n c : Nat) (l : List Int) (w : World) (hl : l.length = n) (hn : n ≤ 60000) (hb : Holds w A n (l.map iw)) :
    Calls Try.prog 34 #[.slice A n c, .func (.func 26) #[] #[]] w fun e w' => e = .returned (.int .i64 (ixW l)) ∧ w = w' := by
  obtain ⟨I, hI⟩ : ∃ I, ixW l = I := ⟨_, rfl⟩
  rw [hI]
  have HI := Lib.hid hI
  have HL := Lib.hid hl
  have HB := Lib.hid hb
  clear hI hl hb
  go_enter Try.func34, Try.ntmps34
  go_wp2_with fail
  go_loop [5, 8] (fun _ i => ∃ k : Nat, k ≤ n ∧ i = .int .i64 k ∧ Hid (∀ i (hi : i < k) (hl : i < l.length), isW l[i] = true)) (fun _ i => n - (intOf i).toNat)
  case atStart => exact ⟨0, Nat.zero_le _, rfl, Lib.hid fun i hi => absurd hi (by omega)⟩
  case round =>
    obtain ⟨k, hk, rfl, HP⟩ := hrel
    by_cases hlt : (k : Int) < n
    · have hkl : k < l.length := by rw [HL.out]; omega
      obtain ⟨ad, rfl⟩ : ∃ ad, A = some ad := by
        cases A with
        | none => have := (HB.out.2.1 rfl).1; omega
        | some ad => exact ⟨ad, rfl⟩
      have hc := HB.out.2.2 ad rfl k (iw l[k]) (by simp [List.getElem?_eq_getElem hkl])
      unfold iw at hc
      have HP2 : isW l[k] = true → Hid (∀ i (hi : i < k + 1) (hl : i < l.length), isW l[i] = true) := fun h => Lib.hid fun i hi hil => by
        rcases Nat.lt_or_ge i k with h1 | h1
        · exact HP.out i h1 hil
        · obtain rfl : i = k := by omega
          exact h
      have HE : isW l[k] = false → Hid (I = (k : Int)) := fun h => Lib.hid (by rw [← HI.out]; exact ixW_some hkl (fun i hi => HP.out i hi (by omega)) h)
      generalize l[k] = x at *
      cases hx : isW x with
      | true =>
        have H2 := HP2 hx
        clear HP2 HE
        have cp := fun W => pred_any x W
        rw [hx] at cp
        have CP := Lib.hid cp
        clear cp hx hkl
        go_wp2_with (go_at_call 26; (with_reducible refine (CP.out _).mono ?_); rintro e w' ⟨rfl, rfl⟩)
        go_round
        case rel => exact ⟨k + 1, by omega, by go_num, H2⟩
        case measure => simp [intOf]; omega
      | false =>
        have H2 := HE hx
        clear HP2 HE
        have cp := fun W => pred_any x W
        rw [hx] at cp
        have CP := Lib.hid cp
        clear cp hx hkl
        go_wp2_with (go_at_call 26; (with_reducible refine (CP.out _).mono ?_); rintro e w' ⟨rfl, rfl⟩)
        go_ret
        exact ⟨by rw [H2.out]; rfl, rfl⟩
    · obtain rfl : k = n := by omega
      have H2 : Hid (I = -1) := Lib.hid (by rw [← HI.out]; exact ixW_none fun i hi => HP.out i (by rw [← HL.out]; exact hi) hi)
      go_wp2_with fail
      go_ret
      exact ⟨by rw [H2.out]; rfl, rfl⟩
theorem contains_any (A : Option Addr) (n c : Nat) (l : List Int) (w : World) (hl : l.length = n) (hn : n ≤ 60000) (hb : Holds w A n (l.map iw)) :
    Calls Try.prog 25 #[.slice A n c, .func (.func 26) #[] #[]] w fun e w' => e = .returned (.bool (!(l.all isW))) ∧ w = w' := by
  have c1 := indexf_any A n c l w hl hn hb
  have hd := ixW_neg l
  generalize ixW l = i at *
  have HD := Lib.hid hd
  have C1 := Lib.hid c1
  clear c1 hd hl hb
  go_enter Try.func25, Try.ntmps25
  go_wp2_with (go_at_call 34; (with_reducible refine C1.out.mono ?_); rintro e w' ⟨rfl, rfl⟩)
  go_ret
  exact ⟨by rw [← HD.out]; rfl, rfl⟩
end Go.Proofs.Ytbfejjjdolfcfaa
