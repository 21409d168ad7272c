/- The specification of a call, and that the source and the reference both meet it. -/
import Derived.Test.YthkpmbgclllnjaaPl
import Derived.Test.YthkpmbgclllnjaaWa
import Derived.Test.YthkpmbgclllnjaaRu
namespace Go.Proofs.Ythkpmbgclllnjaa
open Go.RowKit
set_option linter.unusedVariables false
set_option linter.unusedSimpArgs false

/-- A call. -/
structure SAct where
  kd : Nat
  b : List UInt8
  N : Int
  x : UInt8
section
variable (lim : Nat) (all : List UInt8) (tk : Nat) (cl : Bool) (a : SAct)
def stE : Int := if a.kd = 0 then feedE lim cl (all.drop tk) a.b.length else if a.kd = 4 then untilE lim cl (all.drop tk) a.x a.N else if a.kd = 6 then (if cl then 8 else 0) else if a.kd = 5 then 0 else peekE lim cl (all.drop tk) a.N
def stAll : List UInt8 := if a.kd = 0 ∧ stE lim all tk cl a = 0 then all ++ a.b else all
def stTk : Nat := if stE lim all tk cl a = 0 then (if a.kd = 2 ∨ a.kd = 3 then tk + a.N.toNat else if a.kd = 4 then tk + (atB (all.drop tk) a.x a.N).toNat + 1 else tk) else tk
def stCl : Bool := if a.kd = 6 then true else cl
def stB : List UInt8 := if stE lim all tk cl a = 0 then (if a.kd = 1 ∨ a.kd = 2 then (all.drop tk).take a.N.toNat else if a.kd = 4 then (all.drop tk).take (atB (all.drop tk) a.x a.N).toNat else []) else []
end
/-- What play returns. -/
structure Played (w w' : World) (B bs bt bb : Nat) (v : Value) (lim : Nat) (all : List UInt8) (tk : Nat) (cl : Bool) (a : SAct) (A : Option Addr) (k c : Nat) : Prop where
  own : w'.ownsRow w.heap.size 5 1 (.slice A k c) k ((stB lim all tk cl a).map u8)
  st : ∃ v', SS w' B bs bt bb v' lim ((stAll lim all tk cl a).drop (stTk lim all tk cl a)) (stTk lim all tk cl a) (stCl cl a) ∧ Only (SF bt bb v) w w' ∧ Hat v v' w ∧ ∀ j, (Value.slice A k c).ownBlock = some j → v'.ownBlock ≠ some j
/-- What want returns. -/
structure Wanted (w w' : World) (lim : Nat) (A : Option Addr) (all : List UInt8) (tk : Nat) (cl : Bool) (a : SAct) (A1 : Option Addr) (n1 c1 tk1 : Nat) (cl1 : Bool) (Ab : Option Addr) (nb cb : Nat) : Prop where
  ref : RB w' A1 n1 c1 (stAll lim all tk cl a)
  tkE : tk1 = stTk lim all tk cl a
  clE : cl1 = stCl cl a
  b : RB w' Ab nb cb (stB lim all tk cl a)
  fresh : (A1 = A ∧ n1 = all.length) ∨ ∀ ad, A1 = some ad → w.heap.size ≤ ad.block ∧ ad.spot = none
  below : Below w.heap.size w w'

section
variable {w w' : World} {B bs bt bb : Nat} {v : Value} {lim : Nat} {all : List UInt8} {tk : Nat} {cl : Bool} {a : SAct}
theorem Played.still (h : SS w B bs bt bb v lim (all.drop tk) tk cl) (hb : Below w.heap.size w w') (h1 : stAll lim all tk cl a = all) (h2 : stTk lim all tk cl a = tk) (h3 : stCl cl a = cl) (h4 : stB lim all tk cl a = []) : Played w w' B bs bt bb v lim all tk cl a none 0 0 := by
  refine ⟨?_, v, ?_, Only.of_below hb, Hat.refl _ _, fun j hj => by cases hj⟩
  · rw [h4]; exact World.ownsRow_nil _ _ 5 1
  · rw [h1, h2, h3]; exact h.below hb
theorem Hat.after {v v' : Value} {w w1 : World} (hb : Below w.heap.size w w1) (h : Hat v v' w1) : Hat v v' w := by
  rcases h with h | h
  · exact .inl h
  · exact .inr fun k hk => Nat.le_trans hb.size (h k hk)
theorem Played.took {w1 : World} {A : Option Addr} {k c n : Nat} (hb : Below w.heap.size w w1) (h : Took w1 w' B bs bt bb v lim (all.drop tk) tk cl A c k n) (h1 : stAll lim all tk cl a = all) (h2 : stTk lim all tk cl a = tk + n) (h3 : stCl cl a = cl) (h4 : stB lim all tk cl a = (all.drop tk).take k) : Played w w' B bs bt bb v lim all tk cl a A k c := by
  obtain ⟨ho, v', hs, hf, hh, hj⟩ := h
  refine ⟨?_, v', ?_, Only.after hb hf, Hat.after hb hh, hj⟩
  · rw [h4]; exact own_base ho hb.size
  · rw [h1, h2, h3, ← List.drop_drop]; exact hs
theorem Played.drop {A : Option Addr} {k c : Nat} {b : SAct} (h : Played w w' B bs bt bb v lim all tk cl a A k c) (h1 : stAll lim all tk cl b = stAll lim all tk cl a) (h2 : stTk lim all tk cl b = stTk lim all tk cl a) (h3 : stCl cl b = stCl cl a) (h4 : stB lim all tk cl b = []) : Played w w' B bs bt bb v lim all tk cl b none 0 0 := by
  obtain ⟨ho, v', hs, hf, hh, hj⟩ := h
  refine ⟨?_, v', ?_, hf, hh, fun j hj => by cases hj⟩
  · rw [h4]; exact World.ownsRow_nil _ _ 5 1
  · rw [h1, h2, h3]; exact hs
theorem Calls.of_eq {fn : Nat} {args : Array Value} {w : World} {R R' : Ending → World → Prop} (h : Calls Try.prog fn args w R) (e : ∀ x w', R x w' → R' x w') : Calls Try.prog fn args w R' := h.mono e

theorem play_some (h : SS w B bs bt bb v lim (all.drop tk) tk cl) (ht : tk ≤ all.length) (hn : all.length ≤ 1000000) {kb : Int} {X : Option Addr} {mx cx : Nat} (h0 : 0 ≤ kb) (h1 : kb < 256) (hk : kb % 7 = a.kd) (hx : RB w X mx cx a.b) (hm : mx ≤ 1000000) :
    Calls Try.prog 23 #[.pointer (some ⟨bs, 0, none⟩), .agg #[.int .u8 kb, .slice X mx cx, .int .i64 a.N, .int .u8 (a.x.toNat : Int)]] w fun e w' => ∃ A k c, e = .returned (.tuple #[.slice A k c, .int .i64 (stE lim all tk cl a)]) ∧ Played w w' B bs bt bb v lim all tk cl a A k c := by
  have hld : (all.drop tk).length = all.length - tk := List.length_drop
  have hsum : tk + (all.drop tk).length ≤ 4000000000 := by omega
  have hk7 : a.kd < 7 := by omega
  obtain ⟨kd, b, N, x⟩ := a
  simp only at hk hx hk7 ⊢
  rcases (show kd = 0 ∨ kd = 1 ∨ kd = 2 ∨ kd = 3 ∨ kd = 4 ∨ kd = 5 ∨ kd = 6 by omega) with rfl | rfl | rfl | rfl | rfl | rfl | rfl
  · -- Feed
    refine (play_feed _ h0 h1 hk (fun E w' => E = stE lim all tk cl ⟨0, b, N, x⟩ ∧ Played w w' B bs bt bb v lim all tk cl ⟨0, b, N, x⟩ none 0 0) (fun W hb => ?_)).mono ?_
    · have hE : stE lim all tk cl ⟨0, b, N, x⟩ = feedE lim cl (all.drop tk) mx := by unfold stE; rw [if_pos rfl, hx.len]
      by_cases h9 : feedE lim cl (all.drop tk) mx = 0
      · obtain ⟨rfl, hle⟩ := feedE_ok h9
        refine (feed_ok (h.below hb) X mx cx b (hx.below hb) (by omega)).mono ?_
        rintro e w' ⟨rfl, v', hs, hf, hh⟩
        refine ⟨0, rfl, by rw [hE, h9], ?_, v', ?_, Only.after hb hf, Hat.after hb hh, fun j hj => by cases hj⟩
        · simp only [stB, hE, h9]; exact World.ownsRow_nil _ _ 5 1
        · have e1 : stAll lim all tk false ⟨0, b, N, x⟩ = all ++ b := by unfold stAll; rw [if_pos ⟨rfl, by rw [hE, h9]⟩]
          have e2 : stTk lim all tk false ⟨0, b, N, x⟩ = tk := by unfold stTk; simp
          rw [e1, e2, List.drop_append_of_le_length ht]
          exact hs
      · refine (feed_bad (h.below hb) X mx cx (by have := hx.mc; have := hx.cm; omega) h9).mono ?_
        rintro e w' ⟨rfl, hb'⟩
        have hE0 : ¬ stE lim all tk cl ⟨0, b, N, x⟩ = 0 := by rw [hE]; exact h9
        refine ⟨_, rfl, hE.symm, Played.still h (hb.trans (hb'.mono hb.size)) ?_ ?_ ?_ ?_⟩
        · unfold stAll; rw [if_neg fun e => hE0 e.2]
        · unfold stTk; rw [if_neg hE0]
        · unfold stCl; simp
        · unfold stB; rw [if_neg hE0]
    · rintro e w' ⟨E, rfl, rfl, hp⟩
      exact ⟨none, 0, 0, rfl, hp⟩
  · -- Peek
    refine (play_peek _ h0 h1 hk (fun A k c E w' => E = stE lim all tk cl ⟨1, b, N, x⟩ ∧ Played w w' B bs bt bb v lim all tk cl ⟨1, b, N, x⟩ A k c) (fun W hb => ?_)).mono ?_
    · have hE : stE lim all tk cl ⟨1, b, N, x⟩ = peekE lim cl (all.drop tk) N := by unfold stE; simp
      have e1 : stAll lim all tk cl ⟨1, b, N, x⟩ = all := by unfold stAll; rw [if_neg (by simp)]
      have e2 : stTk lim all tk cl ⟨1, b, N, x⟩ = tk := by unfold stTk; simp
      have e3 : stCl cl ⟨1, b, N, x⟩ = cl := by unfold stCl; simp
      by_cases h9 : peekE lim cl (all.drop tk) N = 0
      · obtain ⟨k, rfl, hkl, -⟩ := peekE_ok h9
        refine (peek_ok (h.below hb) k hkl).mono ?_
        rintro e w' ⟨A, c, rfl, ho, hb'⟩
        refine ⟨A, k, c, 0, rfl, by rw [hE, h9], ?_, v, ?_, Only.of_below (hb.trans (hb'.mono hb.size)), Hat.refl _ _, fun j hj e => ?_⟩
        · have e4 : stB lim all tk cl ⟨1, b, k, x⟩ = (all.drop tk).take k := by unfold stB; rw [if_pos (by rw [hE, h9])]; simp
          rw [e4]; exact own_base ho hb.size
        · rw [e1, e2, e3]; exact h.below (hb.trans (hb'.mono hb.size))
        · have := (ho.lt j hj).1
          have := own_lt h.own j e
          have := hb.size
          omega
      · refine (peek_bad (h.below hb) N h9).mono ?_
        rintro e w' ⟨rfl, hb'⟩
        exact ⟨none, 0, 0, _, rfl, hE.symm, Played.still h (hb.trans (hb'.mono hb.size)) e1 e2 e3 (by unfold stB; rw [if_neg (by rw [hE]; exact h9)])⟩
    · rintro e w' ⟨A, k, c, E, rfl, rfl, hp⟩
      exact ⟨A, k, c, rfl, hp⟩
  · -- Take
    refine (play_take _ h0 h1 hk (fun A k c E w' => E = stE lim all tk cl ⟨2, b, N, x⟩ ∧ Played w w' B bs bt bb v lim all tk cl ⟨2, b, N, x⟩ A k c) (fun W hb => ?_)).mono ?_
    · have hE : stE lim all tk cl ⟨2, b, N, x⟩ = peekE lim cl (all.drop tk) N := by unfold stE; simp
      have e1 : stAll lim all tk cl ⟨2, b, N, x⟩ = all := by unfold stAll; rw [if_neg (by simp)]
      have e3 : stCl cl ⟨2, b, N, x⟩ = cl := by unfold stCl; simp
      by_cases h9 : peekE lim cl (all.drop tk) N = 0
      · obtain ⟨k, rfl, hkl, -⟩ := peekE_ok h9
        refine (take_ok (h.below hb) hsum k hkl).mono ?_
        rintro e w' ⟨A, c, rfl, ht9⟩
        exact ⟨A, k, c, 0, rfl, by rw [hE, h9], Played.took hb ht9 e1 (by unfold stTk; rw [if_pos (by rw [hE, h9])]; simp) e3 (by unfold stB; rw [if_pos (by rw [hE, h9])]; simp)⟩
      · refine (take_bad (h.below hb) N h9).mono ?_
        rintro e w' ⟨rfl, hb'⟩
        exact ⟨none, 0, 0, _, rfl, hE.symm, Played.still h (hb.trans (hb'.mono hb.size)) e1 (by unfold stTk; rw [if_neg (by rw [hE]; exact h9)]) e3 (by unfold stB; rw [if_neg (by rw [hE]; exact h9)])⟩
    · rintro e w' ⟨A, k, c, E, rfl, rfl, hp⟩
      exact ⟨A, k, c, rfl, hp⟩
  · -- Skip
    refine (play_skip _ h0 h1 hk (fun E w' => E = stE lim all tk cl ⟨3, b, N, x⟩ ∧ Played w w' B bs bt bb v lim all tk cl ⟨3, b, N, x⟩ none 0 0) (fun W hb => ?_)).mono ?_
    · have hE : stE lim all tk cl ⟨3, b, N, x⟩ = peekE lim cl (all.drop tk) N := by unfold stE; simp
      have e1 : stAll lim all tk cl ⟨3, b, N, x⟩ = all := by unfold stAll; rw [if_neg (by simp)]
      have e3 : stCl cl ⟨3, b, N, x⟩ = cl := by unfold stCl; simp
      have e4 : stB lim all tk cl ⟨3, b, N, x⟩ = [] := by unfold stB; simp
      refine (skip_of _ N W (fun e w' => ∃ E, e = .returned (.int .i64 E) ∧ E = stE lim all tk cl ⟨3, b, N, x⟩ ∧ Played w w' B bs bt bb v lim all tk cl ⟨3, b, N, x⟩ none 0 0) ?_).mono fun e w' h => h
      by_cases h9 : peekE lim cl (all.drop tk) N = 0
      · obtain ⟨k, rfl, hkl, -⟩ := peekE_ok h9
        refine (take_ok (h.below hb) hsum k hkl).mono ?_
        rintro e w' ⟨A, c, rfl, ht9⟩
        obtain ⟨ho, v', hs, hf, hh, hj⟩ := ht9
        refine ⟨A, k, c, 0, rfl, 0, rfl, by rw [hE, h9], ?_, v', ?_, Only.after hb hf, Hat.after hb hh, fun j hj => by cases hj⟩
        · rw [e4]; exact World.ownsRow_nil _ _ 5 1
        · have e2 : stTk lim all tk cl ⟨3, b, k, x⟩ = tk + k := by unfold stTk; rw [if_pos (by rw [hE, h9])]; simp
          rw [e1, e2, e3, ← List.drop_drop]; exact hs
      · refine (take_bad (h.below hb) N h9).mono ?_
        rintro e w' ⟨rfl, hb'⟩
        exact ⟨none, 0, 0, _, rfl, _, rfl, hE.symm, Played.still h (hb.trans (hb'.mono hb.size)) e1 (by unfold stTk; rw [if_neg (by rw [hE]; exact h9)]) e3 e4⟩
    · rintro e w' ⟨E, rfl, rfl, hp⟩
      exact ⟨none, 0, 0, rfl, hp⟩
  · -- Until
    refine (play_until _ h0 h1 hk (fun A k c E w' => E = stE lim all tk cl ⟨4, b, N, x⟩ ∧ Played w w' B bs bt bb v lim all tk cl ⟨4, b, N, x⟩ A k c) (fun W hb => ?_)).mono ?_
    · have hE : stE lim all tk cl ⟨4, b, N, x⟩ = untilE lim cl (all.drop tk) x N := by unfold stE; simp
      have e1 : stAll lim all tk cl ⟨4, b, N, x⟩ = all := by unfold stAll; rw [if_neg (by simp)]
      have e3 : stCl cl ⟨4, b, N, x⟩ = cl := by unfold stCl; simp
      by_cases h9 : untilE lim cl (all.drop tk) x N = 0
      · obtain ⟨hN0, hNl, k, hat, hkl, hkn⟩ := untilE_ok h9
        obtain ⟨M, rfl⟩ : ∃ M : Nat, N = M := ⟨N.toNat, by omega⟩
        refine (until_ok (h.below hb) hsum x M k (by omega) hat hkl).mono ?_
        rintro e w' ⟨A, c, rfl, ht9⟩
        exact ⟨A, k, c, 0, rfl, by rw [hE, h9], Played.took hb ht9 e1 (by unfold stTk; rw [if_pos (by rw [hE, h9])]; simp [hat]; omega) e3 (by unfold stB; rw [if_pos (by rw [hE, h9])]; simp [hat])⟩
      · refine (until_bad (h.below hb) x N h9).mono ?_
        rintro e w' ⟨rfl, hb'⟩
        exact ⟨none, 0, 0, _, rfl, hE.symm, Played.still h (hb.trans (hb'.mono hb.size)) e1 (by unfold stTk; rw [if_neg (by rw [hE]; exact h9)]) e3 (by unfold stB; rw [if_neg (by rw [hE]; exact h9)])⟩
    · rintro e w' ⟨A, k, c, E, rfl, rfl, hp⟩
      exact ⟨A, k, c, rfl, hp⟩
  · -- alone
    refine (play_alone _ h0 h1 hk).mono ?_
    rintro e w' ⟨rfl, hb⟩
    exact ⟨none, 0, 0, by simp [stE], Played.still h hb (by simp [stAll]) (by simp [stTk]) (by simp [stCl]) (by simp [stB])⟩
  · -- Close
    refine (play_close _ h0 h1 hk (fun E w' => E = stE lim all tk cl ⟨6, b, N, x⟩ ∧ Played w w' B bs bt bb v lim all tk cl ⟨6, b, N, x⟩ none 0 0) (fun W hb => ?_)).mono ?_
    · have e1 : stAll lim all tk cl ⟨6, b, N, x⟩ = all := by unfold stAll; rw [if_neg (by simp)]
      have e2 : stTk lim all tk cl ⟨6, b, N, x⟩ = tk := by unfold stTk; simp
      have e3 : stCl cl ⟨6, b, N, x⟩ = true := by unfold stCl; simp
      have e4 : stB lim all tk cl ⟨6, b, N, x⟩ = [] := by unfold stB; simp
      cases cl
      · refine (close_ok (h.below hb)).mono ?_
        rintro e w' ⟨rfl, hs, hf⟩
        refine ⟨0, rfl, by simp [stE], ?_, v, ?_, Only.after hb hf, Hat.refl _ _, fun j hj => by cases hj⟩
        · rw [e4]; exact World.ownsRow_nil _ _ 5 1
        · rw [e1, e2, e3]; exact hs
      · refine (close_bad (h.below hb)).mono ?_
        rintro e w' ⟨rfl, hb'⟩
        exact ⟨8, rfl, by simp [stE], Played.still h (hb.trans (hb'.mono hb.size)) e1 e2 e3 e4⟩
    · rintro e w' ⟨E, rfl, rfl, hp⟩
      exact ⟨none, 0, 0, rfl, hp⟩
end
end Go.Proofs.Ythkpmbgclllnjaa
