/- The blocks of bytes; the iterator over them. -/
import Derived.Test.YtgbkoegmoelheaaMk
namespace Go.Proofs.Ytgbkoegmoelheaa
open Go.RowKit
attribute [local go_sem] wide_fn wide_depth wide_fn_in wide_depth_in
set_option linter.unusedVariables false
set_option linter.unusedSimpArgs false

/-- A block that has been found: where it begins and ends, its packets. -/
structure Fd where
  at_ : Nat
  en : Nat
  l : List Pk
theorem dec_ok_le {l : List UInt8} {q : List Pk} {m : Nat} (h : dec l = .ok (q, m)) : 11 ≤ m ∧ m ≤ l.length := by
  unfold dec at h
  simp only at h
  split at h
  · cases h
  · split at h
    · split at h
      · cases h
      · split at h
        · cases h
        · split at h
          · split at h
            · injection h with h
              injection h with h1 h2
              have : 7 + num ((l.take 7).drop 5) ≤ padN (7 + num ((l.take 7).drop 5)) := by unfold padN; omega
              omega
            · cases h
          · cases h
    · cases h
theorem dec_err_ne {l : List UInt8} {k : Int} (h : dec l = .error k) : k = 4 ∨ k = 6 ∨ k = 10 := by
  unfold dec at h
  simp only at h
  split at h
  · injection h with h; omega
  · split at h
    · split at h
      · injection h with h; omega
      · split at h
        · injection h with h; omega
        · split at h
          · split at h
            · cases h
            · injection h with h; omega
          · injection h with h; omega
    · injection h with h; omega
/-- The blocks from a place on. -/
def blksF (b : List UInt8) : Nat → Nat → List Fd
  | 0, _ => []
  | k + 1, p => if p < b.length then match dec (b.drop p) with
      | .error _ => blksF b k (p + 1)
      | .ok (q, m) => ⟨p, p + m, q⟩ :: blksF b k (p + m)
    else []
def blks (b : List UInt8) (p : Nat) : List Fd := blksF b (b.length - p) p
theorem blksF_eq (b : List UInt8) : ∀ (k k2 p : Nat), b.length - p ≤ k → b.length - p ≤ k2 → blksF b k p = blksF b k2 p
  | 0, 0, p, _, _ => rfl
  | 0, k2 + 1, p, h, _ => by rw [blksF, blksF, if_neg (by omega)]
  | k + 1, 0, p, _, h => by rw [blksF, blksF, if_neg (by omega)]
  | k + 1, k2 + 1, p, h, h2 => by
    rw [blksF, blksF]
    by_cases hp : p < b.length
    · rw [if_pos hp, if_pos hp]
      cases hd : dec (b.drop p) with
      | error e => exact blksF_eq b k k2 (p + 1) (by omega) (by omega)
      | ok x =>
        obtain ⟨q, m⟩ := x
        have := dec_ok_le hd
        simp only
        rw [blksF_eq b k k2 (p + m) (by omega) (by omega)]
    · rw [if_neg hp, if_neg hp]
theorem blks_end {b : List UInt8} {p : Nat} (h : ¬ p < b.length) : blks b p = [] := by
  unfold blks
  rw [show b.length - p = 0 by omega]
  rfl
theorem blks_err {b : List UInt8} {p : Nat} {e : Int} (h : p < b.length) (hd : dec (b.drop p) = .error e) : blks b p = blks b (p + 1) := by
  unfold blks
  rw [show b.length - p = (b.length - p - 1) + 1 by omega, blksF, if_pos h, hd]
  exact blksF_eq b _ _ _ (by omega) (by omega)
theorem blks_ok {b : List UInt8} {p m : Nat} {q : List Pk} (h : p < b.length) (hd : dec (b.drop p) = .ok (q, m)) : blks b p = ⟨p, p + m, q⟩ :: blks b (p + m) := by
  unfold blks
  rw [show b.length - p = (b.length - p - 1) + 1 by omega, blksF, if_pos h, hd]
  simp only
  have := dec_ok_le hd
  rw [blksF_eq b (b.length - p - 1) (b.length - (p + m)) (p + m) (by omega) (by omega)]
theorem drop_cons {α : Type} {xs : List α} {i : Nat} {x : α} {ys : List α} (h : xs.drop i = x :: ys) : i < xs.length ∧ xs[i]? = some x ∧ xs.drop (i + 1) = ys := by
  have h1 : i < xs.length := by
    have := congrArg List.length h
    simp at this
    omega
  refine ⟨h1, ?_, ?_⟩
  · have := congrArg (fun l => l[0]?) h
    simpa using this
  · rw [← List.drop_drop, h]; rfl

def FAt (B : Nat) (xs : List Fd) (i : Nat) (vs : Array Value) (W : World) : Prop := ∃ (x : Fd) (v : Value) (ds : List Pd), xs[i]? = some x ∧ vs = #[.agg #[.int .i64 (x.at_ : Int), .int .i64 (x.en : Int), v]] ∧ PO B W v ds ∧ pks ds = x.l
def FKp (a : Nat) (A : Option Addr) (n : Nat) (vs : Array Value) (X Y : World) : Prop := X.heap.size ≤ Y.heap.size ∧ ∀ k, (k = a ∨ ∃ ad, A = some ad ∧ 0 < n ∧ k = ad.block) → Y.heap[k]? = X.heap[k]?
/-- What holds between rounds. -/
structure FInv (B a : Nat) (A : Option Addr) (c : Nat) (L : List UInt8) (xs : List Fd) (i p : Nat) (wr : World) : Prop where
  hi : i ≤ xs.length
  hp : p ≤ L.length
  d : xs.drop i = blks L p
  k : Blk wr a 23 #[.slice A L.length c]
  r : RB wr A L.length c L
  b : B ≤ wr.heap.size

set_option maxRecDepth 100000 in
set_option maxHeartbeats 2000000 in
theorem blocks_iter (n : Nat) (W : World) (L : List UInt8) (a : Nat) (A : Option Addr) (c : Nat) (hka : Blk W a 23 #[.slice A L.length c]) (hr : RB W A L.length c L) (hL : L.length ≤ 2000000) :
    Iter Fence.wide n Try.prog 57 #[.pointer (some ⟨a, 0, none⟩)] (FAt W.heap.size (blks L 0)) (FKp a A L.length) (fun X Y => Below X.heap.size X Y) (blks L 0).length W := by
  intro l J Jx hJ hJx hY h0
  obtain ⟨B, hB⟩ : ∃ B, W.heap.size = B := ⟨_, rfl⟩
  obtain ⟨xs, hxs⟩ : ∃ xs, blks L 0 = xs := ⟨_, rfl⟩
  rw [hB] at hY
  rw [hxs] at hY ⊢
  have HI0 := Lib.hid (show FInv B a A c L xs 0 0 W from ⟨Nat.zero_le _, Nat.zero_le _, by rw [← hxs]; rfl, hka, hr, by omega⟩)
  obtain ⟨nn, hnn⟩ : ∃ nn, L.length = nn := ⟨_, rfl⟩
  have HNN := Lib.hid hnn
  have HJ := Lib.hid hJ
  have HY := Lib.hid hY
  have HLL := Lib.hid hL
  have H0 := Lib.hid h0
  have hn0 : (nn : Int) ≤ 2000000 := by omega
  clear hJ hJx hY hka hr hL hB hxs h0 hnn
  refine callsIn_of_wp Try.func57 rfl trivial ?_ rfl
  simp only [Try.ntmps57, List.size_toArray, List.length_cons, List.length_nil, Nat.reduceAdd, Nat.reduceSub, Array.replicate_succ, Array.replicate_zero, List.push_toArray, List.append_toArray, List.nil_append, List.cons_append]
  gi_wp2_with fail
  gi_loopw [3, 4, 5, 6] (fun q _ _ _ wr => ∃ (i p : Nat), (p : Int) ≤ nn ∧ q = .int .i64 p ∧ Hid (J i wr) ∧ Hid (FInv B a A c L xs i p wr)) (fun q _ _ _ _ => nn - (intOf q).toNat)
  case atStart => exact ⟨0, 0, by omega, rfl, H0, HI0⟩
  clear H0 HI0
  case round =>
    obtain ⟨i, p, hp, rfl, HJi, HI⟩ := hrel
    have hp0 : (0 : Int) ≤ p := by omega
    have e0 := HI.out.k.cell 0
    simp at e0
    rw [HNN.out] at e0
    by_cases hlt : (p : Int) < nn
    · have hlp : p < L.length := by rw [HNN.out]; omega
      obtain ⟨A', c', hsf, hr2, -⟩ := slice_from wr A L.length c p L HI.out.r HI.out.hp
      have HSF : Hid (∀ W' : World, (Instr.slice 23 (.slice A nn c) (some (.int .i64 (p : Int))) none none).run Try.prog W' = .ok (.slice A' (nn - p) c') W') := Lib.hid (by rw [HNN.out] at hsf; exact hsf)
      have C16 := dec_any A' (L.length - p) c' (L.drop p) wr hr2 (by have := HLL.out; omega)
      rw [HNN.out] at C16
      have hsf := HSF.out
      obtain ⟨np, hnp⟩ : ∃ np, nn - p = np := ⟨_, rfl⟩
      rw [hnp] at C16 hsf
      cases hdec : dec (L.drop p) with
      | error k =>
        rw [hdec] at C16
        have C16 := Lib.hid (C16.mono (R' := fun e w' => e = .returned (.tuple #[.slice none 0 0, .int .i64 0, .int .i64 k]) ∧ Below wr.heap.size wr w') fun e w' h => by
          obtain ⟨hb, ⟨k2, h1, h2⟩ | ⟨v, ds, m, h1, -⟩⟩ := h
          · cases h1; exact ⟨h2, hb⟩
          · cases h1)
        have hk : (k != 0) = true := by rcases dec_err_ne hdec with rfl | rfl | rfl <;> decide
        have HX := Lib.hid (blks_err hlp hdec)
        clear hdec hlp hr2 HSF
        gi_wp2_with (gi_at_call 16; (with_reducible refine (callsIn_wide.2 C16.out).mono ?_); rintro e w1 ⟨rfl, hb⟩; have HB1 := Lib.hid hb; clear hb)
        have hi := HI.out
        refine ⟨⟨i, p + 1, by omega, by go_num, Lib.hid (HJ.out _ _ _ HJi.out HB1.out), Lib.hid ⟨hi.hi, by rw [HNN.out]; omega, by rw [hi.d, HX.out], hi.k.below HB1.out hi.k.lt, hi.r.below HB1.out, Nat.le_trans hi.b HB1.out.size⟩⟩, by simp [intOf]; omega⟩
      | ok x =>
        obtain ⟨q, m⟩ := x
        rw [hdec] at C16
        have C16 := Lib.hid (C16.mono (R' := fun e w' => ∃ A8 c8 ds, e = .returned (.tuple #[.slice A8 ds.length c8, .int .i64 (m : Int), .int .i64 0]) ∧ Below wr.heap.size wr w' ∧ PO wr.heap.size w' (.slice A8 ds.length c8) ds ∧ pks ds = q) fun e w' h => by
          obtain ⟨hb, ⟨k2, h1, h2⟩ | ⟨v, ds, m2, h1, h2, h3⟩⟩ := h
          · cases h1
          · injection h1 with h1
            injection h1 with h4 h5
            subst h4 h5
            obtain ⟨A8, c8, rfl⟩ := h3.form
            exact ⟨A8, c8, ds, h2, hb, h3, rfl⟩)
        have HLP := Lib.hid (show 0 < L.length by omega)
        have hml := dec_ok_le hdec
        have hml2 : p + m ≤ nn := by have := hml.2; rw [List.length_drop, HNN.out] at this; omega
        have hm1 : (11 : Int) ≤ m := by omega
        have hm2 : (p : Int) + m ≤ nn := by omega
        have HX := Lib.hid (drop_cons (HI.out.d.trans (blks_ok hlp hdec)))
        clear hdec hlp hr2 hml HSF
        gi_wp2_with (gi_at_call 16; (with_reducible refine (callsIn_wide.2 C16.out).mono ?_); rintro e w1 ⟨A8, c8, ds, rfl, hb, hpo, hq⟩; have HB1 := Lib.hid hb; obtain ⟨fn, tm, asg, bod, hy, hR⟩ := HY.out i HX.out.1 #[.agg #[.int .i64 (p : Int), .int .i64 ((p : Int) + m), .slice A8 ds.length c8]] w1 (HJ.out _ _ _ HJi.out hb) ⟨_, _, ds, HX.out.2.1, by simp, hpo.base HI.out.b, hq⟩; have HR9 := Lib.hid hR; clear hR hb hpo hq)
        refine HR9.out.mono ?_
        rintro e w3 ⟨-, (⟨rfl, hJ3, hK3⟩ | ⟨rfl, hJx3⟩)⟩
        · have HJ3 := Lib.hid hJ3
          have HK3 := Lib.hid hK3
          have HRW := Lib.hid ((HI.out.r.below HB1.out).heap (W' := w3) fun ad hA => HK3.out.2 _ (.inr ⟨ad, hA, HLP.out, rfl⟩))
          have HKA := Lib.hid (show Blk w3 a 23 #[.slice A L.length c] from (HK3.out.2 a (.inl rfl)).trans (HI.out.k.below HB1.out HI.out.k.lt))
          clear hJ3 hK3
          gi_wp2_with fail
          have hi := HI.out
          refine ⟨⟨i + 1, p + m, by omega, by go_num, HJ3, Lib.hid ⟨HX.out.1, by rw [HNN.out]; exact hml2, HX.out.2.2, HKA.out, HRW.out, Nat.le_trans hi.b (Nat.le_trans HB1.out.size HK3.out.1)⟩⟩, by simp [intOf]; omega⟩
        · gi_wp2_with fail
          refine bodyPost_ret (results_none rfl _ _ _) rfl ?_
          exact ⟨⟨_, rfl⟩, .inr ⟨i, HX.out.1, hJx3⟩⟩
    · have hiN : i = xs.length := by
        have h1 := HI.out.d
        rw [blks_end (by rw [HNN.out]; omega)] at h1
        have h2 := congrArg List.length h1
        have := HI.out.hi
        simp at h2
        omega
      subst hiN
      gi_wp2_with fail
      go_end0
      exact ⟨⟨_, rfl⟩, .inl HJi.out⟩
def fn57 (a : Nat) : Value := .func (.func 57) #[] #[.pointer (some ⟨a, 0, none⟩)]
set_option maxRecDepth 100000 in
theorem blocks51_any (A : Option Addr) (n c : Nat) (w : World) : Calls Try.prog 51 #[.slice A n c] w fun e w' => e = .returned (fn57 w.heap.size) ∧ w' = w.alloc (.cells #[.slice A n c] 23) := by
  go_enter Try.func51, Try.ntmps51
  go_wp2_with fail
  go_ret
  exact ⟨rfl, rfl⟩
end Go.Proofs.Ytgbkoegmoelheaa
