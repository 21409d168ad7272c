/- Valid, block. -/
import Derived.Test.YtgbkoegmoelheaaCc
namespace Go.Proofs.Ytgbkoegmoelheaa
open Go.RowKit
set_option linter.unusedVariables false
set_option linter.unusedSimpArgs false

set_option maxRecDepth 100000 in
set_option maxHeartbeats 1000000 in
theorem valid_any (p : Pd) (w : World) (h : p.d.length = p.n) (hn : p.n ≤ 100000) :
    Calls Try.prog 12 #[p.val] w fun e w' => e = .returned (.bool (validP p.pk)) ∧ Below w.heap.size w w' := by
  have hd : p.pk.d.length = p.n := h
  have e : validP p.pk = (decide (0 ≤ p.t) && (decide (p.t ≤ 1099511627776) && (decide (0 ≤ p.f) && (decide (p.f ≤ 65535) && decide ((p.n : Int) ≤ 4096))))) := by
    unfold validP
    rw [hd]
    have : decide (p.n ≤ 4096) = decide ((p.n : Int) ≤ 4096) := by congr 1; apply propext; omega
    rw [this]
    rfl
  rw [e]
  unfold Pd.val
  clear e hd h
  obtain ⟨t, f, A, n, c, d⟩ := p
  simp only at *
  have hn0 : (0 : Int) ≤ n := by omega
  have hn1 : (n : Int) ≤ 100000 := by omega
  obtain ⟨N, hN⟩ : ∃ N : Int, (n : Int) = N := ⟨_, rfl⟩
  rw [hN]
  rw [hN] at hn0 hn1
  clear hn
  by_cases h1 : 0 ≤ t
  · by_cases h2 : t ≤ 1099511627776
    · by_cases h3 : 0 ≤ f
      · by_cases h4 : f ≤ 65535
        · by_cases h5 : N ≤ 4096
          · rw [decide_eq_true h1, decide_eq_true h2, decide_eq_true h3, decide_eq_true h4, decide_eq_true h5]
            go_enter Try.func12, Try.ntmps12
            go_wp2_with fail
            go_ret
            exact ⟨by simp [h5], (Below.refl w.heap.size w).alloc (Nat.le_refl _) _⟩
          · rw [decide_eq_true h1, decide_eq_true h2, decide_eq_true h3, decide_eq_true h4, decide_eq_false h5]
            go_enter Try.func12, Try.ntmps12
            go_wp2_with fail
            go_ret
            exact ⟨by simp [h5], (Below.refl w.heap.size w).alloc (Nat.le_refl _) _⟩
        · rw [decide_eq_true h1, decide_eq_true h2, decide_eq_true h3, decide_eq_false h4]
          go_enter Try.func12, Try.ntmps12
          go_wp2_with fail
          go_ret
          exact ⟨rfl, (Below.refl w.heap.size w).alloc (Nat.le_refl _) _⟩
      · rw [decide_eq_true h1, decide_eq_true h2, decide_eq_false h3]
        go_enter Try.func12, Try.ntmps12
        go_wp2_with fail
        go_ret
        exact ⟨rfl, (Below.refl w.heap.size w).alloc (Nat.le_refl _) _⟩
    · rw [decide_eq_true h1, decide_eq_false h2]
      go_enter Try.func12, Try.ntmps12
      go_wp2_with fail
      go_ret
      exact ⟨rfl, (Below.refl w.heap.size w).alloc (Nat.le_refl _) _⟩
  · rw [decide_eq_false h1]
    go_enter Try.func12, Try.ntmps12
    go_wp2_with fail
    go_ret
    exact ⟨rfl, (Below.refl w.heap.size w).alloc (Nat.le_refl _) _⟩

set_option maxRecDepth 100000 in
set_option maxHeartbeats 1000000 in
theorem notv_any (p : Pd) (w : World) (h : p.d.length = p.n) (hn : p.n ≤ 100000) :
    Calls Try.prog 31 #[p.val] w fun e w' => e = .returned (.bool (!validP p.pk)) ∧ Below w.heap.size w w' := by
  have C1 := Lib.hid (valid_any p (w.alloc (.cells #[.int .i64 p.t, .int .i64 p.f, .slice p.A p.n p.c] 31)) h hn)
  have hval : p.val = .agg #[.int .i64 p.t, .int .i64 p.f, .slice p.A p.n p.c] := rfl
  rw [hval] at C1 ⊢
  generalize validP p.pk = b at *
  have HSZ := Lib.hid (show w.heap.size ≤ (w.alloc (.cells #[.int .i64 p.t, .int .i64 p.f, .slice p.A p.n p.c] 31)).heap.size by simp)
  clear h hn hval
  go_enter Try.func31, Try.ntmps31
  go_wp2_with (go_at_call 12; (with_reducible refine C1.out.mono ?_); rintro e w1 ⟨rfl, hb⟩; have HB := Lib.hid hb; clear hb)
  go_ret
  exact ⟨rfl, ((Below.refl w.heap.size w).alloc (Nat.le_refl _) _).trans (HB.out.mono HSZ.out)⟩
/-- The first packet that is none. -/
def badAt (ps : List Pd) : Bool := ps.any fun p => !validP p.pk

set_option maxRecDepth 100000 in
set_option maxHeartbeats 1000000 in
theorem index_any (A : Option Addr) (n c : Nat) (ps : List Pd) (w : World) (h : PL w A n c ps) (hn : n ≤ 1000) (hd : ∀ p ∈ ps, p.n ≤ 100000) :
    Calls Try.prog 53 #[.slice A n c, .func (.func 31) #[] #[]] w fun e w' => (∃ i : Int, e = .returned (.int .i64 i) ∧ decide (0 ≤ i) = badAt ps) ∧ Below w.heap.size w w' := by
  have HP := Lib.hid h
  have HD := Lib.hid hd
  have HL := Lib.hid h.len
  clear hd h
  have hn0 : (n : Int) ≤ 1000 := by omega
  clear hn
  go_enter Try.func53, Try.ntmps53
  go_wp2_with fail
  go_loopw [8] (fun ii wr => ∃ i : Nat, (i : Int) ≤ n ∧ ii = .int .i64 i ∧ Hid (badAt (ps.take i) = false) ∧ Hid (Below w.heap.size w wr)) (fun ii _ => n - (intOf ii).toNat)
  case atStart => exact ⟨0, by omega, rfl, Lib.hid rfl, Lib.hid (Below.refl _ _)⟩
  case round =>
    obtain ⟨i, hi, rfl, HF, HB⟩ := hrel
    have hi0 : (0 : Int) ≤ i := by omega
    by_cases hlt : (i : Int) < n
    · have hi1 : i < ps.length := by rw [HL.out]; omega
      obtain ⟨b, o, rfl, hat⟩ := HP.out.at (by omega)
      have hA := (hat i hi1).below HB.out
      have hp := HP.out.r _ (List.getElem_mem hi1)
      have C1 := Lib.hid (notv_any ps[i] wr hp.r.len (HD.out _ (List.getElem_mem hi1)))
      have hs : badAt (ps.take (i + 1)) = !validP (ps[i]).pk := by
        have := HF.out
        unfold badAt at this ⊢
        rw [List.take_add_one, List.getElem?_eq_getElem hi1, List.any_append, this]
        simp
      have hs2 : (!validP (ps[i]).pk) = true → badAt ps = true := fun h => by
        unfold badAt
        exact List.any_eq_true.2 ⟨_, List.getElem_mem hi1, h⟩
      have HS := Lib.hid hs
      have HS2 := Lib.hid hs2
      generalize hq : (!validP (ps[i]).pk) = q at *
      generalize ps[i] = p at *
      have hval : p.val = .agg #[.int .i64 p.t, .int .i64 p.f, .slice p.A p.n p.c] := rfl
      rw [hval] at C1
      obtain ⟨f0, f1, f2⟩ := hA
      clear hs hs2 hp hat hq hval
      cases q with
      | false =>
        go_wp2_with (go_at_call 31; (with_reducible refine C1.out.mono ?_); rintro e w1 ⟨rfl, hb⟩; have HB2 := Lib.hid (HB.out.trans (hb.mono HB.out.size)); clear hb)
        go_roundw
        case rel => exact ⟨i + 1, by omega, by go_num, HS, HB2⟩
        case measure => simp [intOf]; omega
      | true =>
        go_wp2_with (go_at_call 31; (with_reducible refine C1.out.mono ?_); rintro e w1 ⟨rfl, hb⟩; have HB2 := Lib.hid (HB.out.trans (hb.mono HB.out.size)); clear hb)
        go_ret
        exact ⟨⟨_, rfl, by rw [HS2.out (by trivial)]; simp⟩, HB2.out⟩
    · have HLE := Lib.hid (show ps.take i = ps by rw [List.take_of_length_le]; rw [HL.out]; omega)
      go_wp2_with fail
      go_ret
      have := HF.out
      rw [HLE.out] at this
      exact ⟨⟨_, rfl, by rw [this]; simp⟩, HB.out⟩

set_option maxRecDepth 100000 in
set_option maxHeartbeats 1000000 in
theorem contains_any (A : Option Addr) (n c : Nat) (ps : List Pd) (w : World) (h : PL w A n c ps) (hn : n ≤ 1000) (hd : ∀ p ∈ ps, p.n ≤ 100000) :
    Calls Try.prog 30 #[.slice A n c, .func (.func 31) #[] #[]] w fun e w' => e = .returned (.bool (badAt ps)) ∧ Below w.heap.size w w' := by
  have C1 := Lib.hid (index_any A n c ps w h hn hd)
  generalize badAt ps = b at *
  clear h hn hd
  go_enter Try.func30, Try.ntmps30
  go_wp2_with (go_at_call 53; (with_reducible refine C1.out.mono ?_); rintro e w1 ⟨⟨i, rfl, hi⟩, hb⟩; have HB := Lib.hid hb; have HI := Lib.hid hi; clear hb hi)
  go_ret
  exact ⟨by rw [← HI.out]; rfl, HB.out⟩
end Go.Proofs.Ytgbkoegmoelheaa
