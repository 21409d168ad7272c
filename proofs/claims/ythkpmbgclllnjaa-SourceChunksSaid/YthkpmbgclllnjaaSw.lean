/- The reference meets the specification of a call. -/
import Derived.Test.YthkpmbgclllnjaaSp
namespace Go.Proofs.Ythkpmbgclllnjaa
open Go.RowKit
set_option linter.unusedVariables false
set_option linter.unusedSimpArgs false

section
variable {w w' : World} {lim : Nat} {A : Option Addr} {n c : Nat} {all : List UInt8} {tk : Nat} {cl : Bool} {a : SAct}
theorem RB.lt {l : List UInt8} (h : RB w A n c l) (h0 : 0 < n) {ad : Addr} (hA : A = some ad) : ad.block < w.heap.size := by
  have hl : 0 < l.length := by rw [h.len]; exact h0
  have h1 := h.h.2.2 ad hA 0 (u8 l[0]) (by simp [List.getElem?_eq_getElem hl])
  have h2 := World.block_lt_of_cell? _ _ h1
  have hbk : (ad.add 0).block = ad.block := by unfold Addr.add; split <;> rfl
  rwa [hbk] at h2
theorem Wanted.still {A1 : Option Addr} {n1 c1 : Nat} (hr : RB w A n c all) (hb : Below w.heap.size w w') (h1 : stAll lim all tk cl a = all) {Ab : Option Addr} {nb cb : Nat} (hb' : RB w Ab nb cb (stB lim all tk cl a)) : Wanted w w' lim A all tk cl a A n c (stTk lim all tk cl a) (stCl cl a) Ab nb cb :=
  ⟨by rw [h1]; exact hr.below hb, rfl, rfl, hb'.below hb, .inl ⟨rfl, hr.len.symm⟩, hb⟩
theorem stB_len : (stB lim all tk cl a).length ≤ all.length := by
  unfold stB
  split
  · split
    · rw [List.length_take, List.length_drop]; omega
    · split
      · rw [List.length_take, List.length_drop]; omega
      · simp
  · simp
theorem RB.within {W1 : World} {Ab : Option Addr} {nb cb : Nat} {m : List UInt8} (hr : RB w A n c all) (hb : RB W1 Ab nb cb m) (hi : Within A Ab) (hm : m.length ≤ all.length) (ho : Only (fun k => k = w.heap.size + 1 + 1) W1 w') : RB w' Ab nb cb m :=
  hb.only ho fun ad hA h0 (e : ad.block = _) => by
    obtain ⟨a0, h1, h2, -⟩ := hi ad hA
    have := hr.lt (by have := hr.len; have := hb.len; omega) h1
    omega
theorem Wanted.still2 {A1 : Option Addr} {n1 c1 : Nat} (hr : RB w A n c all) (hb : Below w.heap.size w w') (h1 : stAll lim all tk cl a = all) {Ab : Option Addr} {nb cb : Nat} (hb' : RB w' Ab nb cb (stB lim all tk cl a)) : Wanted w w' lim A all tk cl a A n c (stTk lim all tk cl a) (stCl cl a) Ab nb cb :=
  ⟨by rw [h1]; exact hr.below hb, rfl, rfl, hb', .inl ⟨rfl, hr.len.symm⟩, hb⟩
theorem want_some (hr : RB w A n c all) (hsp : ∀ ad, A = some ad → ad.spot = none) (ht : tk ≤ n) (hn : n ≤ 1000000) (hlim : lim ≤ 1048576) {kb : Int} {X : Option Addr} {mx cx : Nat} (h0 : 0 ≤ kb) (h1 : kb < 256) (hk : kb % 7 = a.kd) (hx : RB w X mx cx a.b) (hm : mx ≤ 1000000) :
    Calls Try.prog 37 #[.agg #[.int .i64 lim, .slice A n c, .int .i64 tk, .bool cl], .agg #[.int .u8 kb, .slice X mx cx, .int .i64 a.N, .int .u8 (a.x.toNat : Int)]] w fun e w' => ∃ A1 n1 c1 tk1 cl1 Ab nb cb, e = .returned (.tuple #[.agg #[.int .i64 lim, .slice A1 n1 c1, .int .i64 (tk1 : Nat), .bool cl1], .slice Ab nb cb, .int .i64 (stE lim all tk cl a)]) ∧ Wanted w w' lim A all tk cl a A1 n1 c1 tk1 cl1 Ab nb cb := by
  have hk7 : a.kd < 7 := by omega
  obtain ⟨kd, b, N, x⟩ := a
  simp only at hk hx hk7 ⊢
  rcases (show kd = 0 ∨ kd = 1 ∨ kd = 2 ∨ kd = 3 ∨ kd = 4 ∨ kd = 5 ∨ kd = 6 by omega) with rfl | rfl | rfl | rfl | rfl | rfl | rfl
  · -- Feed
    have hE : stE lim all tk cl ⟨0, b, N, x⟩ = feedE lim cl (all.drop tk) mx := by unfold stE; rw [if_pos rfl, hx.len]
    have e2 : stTk lim all tk cl ⟨0, b, N, x⟩ = tk := by unfold stTk; simp
    have e3 : stCl cl ⟨0, b, N, x⟩ = cl := by unfold stCl; simp
    have e4 : stB lim all tk cl ⟨0, b, N, x⟩ = [] := by unfold stB; simp
    refine (want_feed h0 h1 hk (fun A1 n1 c1 tk1 cl1 Ab nb cb E W W1 => E = stE lim all tk cl ⟨0, b, N, x⟩ ∧ tk1 = tk ∧ cl1 = cl ∧ Ab = none ∧ nb = 0 ∧ cb = 0 ∧ RB W1 A1 n1 c1 (stAll lim all tk cl ⟨0, b, N, x⟩) ∧ ((A1 = A ∧ n1 = n) ∨ ∀ ad, A1 = some ad → W.heap.size ≤ ad.block ∧ ad.spot = none)) (fun W hb => ?_)).mono ?_
    · refine (rfeed_any (hr.below hb) ht (by omega) hlim X mx cx b (hx.below hb) hm).mono ?_
      rintro e w' ⟨A', c', n', l', rfl, hrb, hl', hb', hf⟩
      refine ⟨A', n', c', tk, cl, _, rfl, ⟨hE.symm, rfl, rfl, rfl, rfl, rfl, ?_, ?_⟩, hb'⟩
      · have : l' = stAll lim all tk cl ⟨0, b, N, x⟩ := by
          rw [hl']; unfold stAll; rw [hE]
          by_cases h9 : feedE lim cl (all.drop tk) mx = 0
          · rw [if_pos h9, if_pos ⟨rfl, h9⟩]
          · rw [if_neg h9, if_neg fun e => h9 e.2]
        rw [← this]; exact hrb
      · rcases hf with ⟨hE0, hA⟩ | hf
        · refine .inl ⟨hA, ?_⟩
          rw [if_neg hE0] at hl'
          have := hrb.len
          rw [hl', hr.len] at this
          exact this.symm
        · exact .inr hf
    · rintro e w' ⟨A1, n1, c1, tk1, cl1, Ab, nb, cb, E, rfl, W, W1, hbW, ⟨rfl, rfl, rfl, rfl, rfl, rfl, hrb, hf⟩, hz, ho, hbw⟩
      refine ⟨A1, n1, c1, tk1, cl1, none, 0, 0, rfl, hrb.only ho fun ad hA hm e => ?_, e2.symm, e3.symm, by rw [e4]; exact RB.nil _, ?_, hbw⟩
      · rcases hf with ⟨rfl, rfl⟩ | hf
        · have := hr.lt hm hA
          omega
        · have := (hf ad hA).1
          omega
      · rcases hf with hf | hf
        · exact .inl ⟨hf.1, hf.2.trans hr.len.symm⟩
        · exact .inr fun ad hA => ⟨by have := (hf ad hA).1; omega, (hf ad hA).2⟩
  · -- Peek
    have hE : stE lim all tk cl ⟨1, b, N, x⟩ = peekE lim cl (all.drop tk) N := by unfold stE; simp
    have e1 : stAll lim all tk cl ⟨1, b, N, x⟩ = all := by unfold stAll; rw [if_neg (by simp)]
    have e2 : stTk lim all tk cl ⟨1, b, N, x⟩ = tk := by unfold stTk; simp
    have e3 : stCl cl ⟨1, b, N, x⟩ = cl := by unfold stCl; simp
    refine (want_peek h0 h1 hk (fun A1 n1 c1 tk1 cl1 Ab nb cb E W W1 => E = stE lim all tk cl ⟨1, b, N, x⟩ ∧ A1 = A ∧ n1 = n ∧ c1 = c ∧ tk1 = tk ∧ cl1 = cl ∧ RB w Ab nb cb (stB lim all tk cl ⟨1, b, N, x⟩)) (fun W hb => ?_)).mono ?_
    · refine (rpeek_at hr ht (by omega) hlim N W).mono ?_
      rintro e w' ⟨A', k, c', rfl, hrb, hi, hb'⟩
      exact ⟨A', k, c', _, rfl, ⟨hE.symm, rfl, rfl, rfl, rfl, rfl, by unfold stB; rw [hE]; simpa using hrb⟩, hb'⟩
    · rintro e w' ⟨A1, n1, c1, tk1, cl1, Ab, nb, cb, E, rfl, W, W1, hbW, ⟨rfl, rfl, rfl, rfl, rfl, rfl, hrb⟩, hz, ho, hbw⟩
      refine ⟨A1, n1, c1, tk1, cl1, Ab, nb, cb, rfl, ?_⟩
      have := Wanted.still (A1 := A1) (n1 := n1) (c1 := c1) (lim := lim) (tk := tk1) (cl := cl1) (a := ⟨1, b, N, x⟩) hr hbw e1 hrb
      rw [e2, e3] at this
      exact this
  · -- Take
    have hE : stE lim all tk cl ⟨2, b, N, x⟩ = peekE lim cl (all.drop tk) N := by unfold stE; simp
    have e1 : stAll lim all tk cl ⟨2, b, N, x⟩ = all := by unfold stAll; rw [if_neg (by simp)]
    have e2 : stTk lim all tk cl ⟨2, b, N, x⟩ = if peekE lim cl (all.drop tk) N = 0 then tk + N.toNat else tk := by unfold stTk; rw [hE]; simp
    have e3 : stCl cl ⟨2, b, N, x⟩ = cl := by unfold stCl; simp
    refine (want_take h0 h1 hk (fun A1 n1 c1 tk1 cl1 Ab nb cb E W W1 => E = stE lim all tk cl ⟨2, b, N, x⟩ ∧ A1 = A ∧ n1 = n ∧ c1 = c ∧ tk1 = stTk lim all tk cl ⟨2, b, N, x⟩ ∧ cl1 = cl ∧ RB W1 Ab nb cb (stB lim all tk cl ⟨2, b, N, x⟩) ∧ Within A Ab) (fun W hb => ?_)).mono ?_
    · refine (rtake_any (hr.below hb) ht (by omega) hlim N).mono ?_
      rintro e w' ⟨A', k, c', rfl, hrb, hi, hb'⟩
      exact ⟨A, n, c, _, cl, A', k, c', _, rfl, ⟨hE.symm, rfl, rfl, rfl, e2.symm, rfl, by unfold stB; rw [hE]; simpa using hrb.below hb', hi⟩, hb'⟩
    · rintro e w' ⟨A1, n1, c1, tk1, cl1, Ab, nb, cb, E, rfl, W, W1, hbW, ⟨rfl, rfl, rfl, rfl, rfl, rfl, hrb, hi⟩, hz, ho, hbw⟩
      refine ⟨A1, n1, c1, _, cl1, Ab, nb, cb, rfl, ?_⟩
      have := Wanted.still2 (A1 := A1) (n1 := n1) (c1 := c1) (lim := lim) (tk := tk) (cl := cl1) (a := ⟨2, b, N, x⟩) hr hbw e1 (RB.within hr hrb hi stB_len ho)
      rw [e3] at this
      exact this
  · -- Skip
    have hE : stE lim all tk cl ⟨3, b, N, x⟩ = peekE lim cl (all.drop tk) N := by unfold stE; simp
    have e1 : stAll lim all tk cl ⟨3, b, N, x⟩ = all := by unfold stAll; rw [if_neg (by simp)]
    have e2 : stTk lim all tk cl ⟨3, b, N, x⟩ = if peekE lim cl (all.drop tk) N = 0 then tk + N.toNat else tk := by unfold stTk; rw [hE]; simp
    have e3 : stCl cl ⟨3, b, N, x⟩ = cl := by unfold stCl; simp
    have e4 : stB lim all tk cl ⟨3, b, N, x⟩ = [] := by unfold stB; simp
    refine (want_skip h0 h1 hk (fun A1 n1 c1 tk1 cl1 Ab nb cb E W W1 => E = stE lim all tk cl ⟨3, b, N, x⟩ ∧ A1 = A ∧ n1 = n ∧ c1 = c ∧ tk1 = stTk lim all tk cl ⟨3, b, N, x⟩ ∧ cl1 = cl) (fun W hb => ?_)).mono ?_
    · refine (rtake_any (hr.below hb) ht (by omega) hlim N).mono ?_
      rintro e w' ⟨A', k, c', rfl, hrb, hi, hb'⟩
      exact ⟨A, n, c, _, cl, A', k, c', _, rfl, ⟨hE.symm, rfl, rfl, rfl, e2.symm, rfl⟩, hb'⟩
    · rintro e w' ⟨A1, n1, c1, tk1, cl1, Ab, nb, cb, E, rfl, W, W1, hbW, ⟨rfl, rfl, rfl, rfl, rfl, rfl⟩, hz, ho, hbw⟩
      refine ⟨A1, n1, c1, _, cl1, none, 0, 0, rfl, ?_⟩
      have := Wanted.still (A1 := A1) (n1 := n1) (c1 := c1) (lim := lim) (tk := tk) (cl := cl1) (a := ⟨3, b, N, x⟩) hr hbw e1 (by rw [e4]; exact RB.nil _)
      rw [e3] at this
      exact this
  · -- Until
    have hE : stE lim all tk cl ⟨4, b, N, x⟩ = untilE lim cl (all.drop tk) x N := by unfold stE; simp
    have e1 : stAll lim all tk cl ⟨4, b, N, x⟩ = all := by unfold stAll; rw [if_neg (by simp)]
    have e2 : stTk lim all tk cl ⟨4, b, N, x⟩ = if untilE lim cl (all.drop tk) x N = 0 then tk + (atB (all.drop tk) x N).toNat + 1 else tk := by unfold stTk; rw [hE]; simp
    have e3 : stCl cl ⟨4, b, N, x⟩ = cl := by unfold stCl; simp
    refine (want_until h0 h1 hk (fun A1 n1 c1 tk1 cl1 Ab nb cb E W W1 => E = stE lim all tk cl ⟨4, b, N, x⟩ ∧ A1 = A ∧ n1 = n ∧ c1 = c ∧ tk1 = stTk lim all tk cl ⟨4, b, N, x⟩ ∧ cl1 = cl ∧ RB W1 Ab nb cb (stB lim all tk cl ⟨4, b, N, x⟩) ∧ Within A Ab) (fun W hb => ?_)).mono ?_
    · refine (runtil_any (hr.below hb) hsp ht (by omega) hlim x N).mono ?_
      rintro e w' ⟨A', k, c', rfl, hrb, hi, hb'⟩
      exact ⟨A, n, c, _, cl, A', k, c', _, rfl, ⟨hE.symm, rfl, rfl, rfl, e2.symm, rfl, by unfold stB; rw [hE]; simpa using hrb.below hb', hi⟩, hb'⟩
    · rintro e w' ⟨A1, n1, c1, tk1, cl1, Ab, nb, cb, E, rfl, W, W1, hbW, ⟨rfl, rfl, rfl, rfl, rfl, rfl, hrb, hi⟩, hz, ho, hbw⟩
      refine ⟨A1, n1, c1, _, cl1, Ab, nb, cb, rfl, ?_⟩
      have := Wanted.still2 (A1 := A1) (n1 := n1) (c1 := c1) (lim := lim) (tk := tk) (cl := cl1) (a := ⟨4, b, N, x⟩) hr hbw e1 (RB.within hr hrb hi stB_len ho)
      rw [e3] at this
      exact this
  · -- alone
    refine (want_alone h0 h1 hk).mono ?_
    rintro e w' ⟨rfl, hb⟩
    refine ⟨A, n, c, tk, cl, none, 0, 0, by simp [stE], ?_⟩
    have := Wanted.still (A1 := A) (n1 := n) (c1 := c) (lim := lim) (tk := tk) (cl := cl) (a := ⟨5, b, N, x⟩) hr hb (by simp [stAll]) (Ab := none) (nb := 0) (cb := 0) (by simp [stB]; exact RB.nil _)
    simpa [stTk, stCl] using this
  · -- Close
    have hE : stE lim all tk cl ⟨6, b, N, x⟩ = if cl then 8 else 0 := by unfold stE; simp
    have e1 : stAll lim all tk cl ⟨6, b, N, x⟩ = all := by unfold stAll; rw [if_neg (by simp)]
    have e2 : stTk lim all tk cl ⟨6, b, N, x⟩ = tk := by unfold stTk; simp
    have e3 : stCl cl ⟨6, b, N, x⟩ = true := by unfold stCl; simp
    have e4 : stB lim all tk cl ⟨6, b, N, x⟩ = [] := by unfold stB; simp
    refine (want_close h0 h1 hk (fun A1 n1 c1 tk1 cl1 Ab nb cb E W W1 => E = stE lim all tk cl ⟨6, b, N, x⟩ ∧ A1 = A ∧ n1 = n ∧ c1 = c ∧ tk1 = tk ∧ cl1 = true ∧ Ab = none ∧ nb = 0 ∧ cb = 0) (fun W hb => ?_)).mono ?_
    · refine (rclose_any (w := W)).mono ?_
      rintro e w' ⟨rfl, hb'⟩
      exact ⟨A, n, c, tk, true, _, rfl, ⟨hE.symm, rfl, rfl, rfl, rfl, rfl, rfl, rfl, rfl⟩, hb'⟩
    · rintro e w' ⟨A1, n1, c1, tk1, cl1, Ab, nb, cb, E, rfl, W, W1, hbW, ⟨rfl, rfl, rfl, rfl, rfl, rfl, rfl, rfl, rfl⟩, hz, ho, hbw⟩
      refine ⟨A1, n1, c1, tk1, true, none, 0, 0, rfl, ?_⟩
      have := Wanted.still (A1 := A1) (n1 := n1) (c1 := c1) (lim := lim) (tk := tk1) (cl := cl) (a := ⟨6, b, N, x⟩) hr hbw e1 (Ab := none) (nb := 0) (cb := 0) (by rw [e4]; exact RB.nil _)
      rw [e2, e3] at this
      exact this
end
end Go.Proofs.Ythkpmbgclllnjaa
