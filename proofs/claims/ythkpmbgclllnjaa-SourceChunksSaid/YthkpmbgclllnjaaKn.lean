/- The law's known: the examples of the chapter. -/
import Derived.Test.YthkpmbgclllnjaaNb
namespace Go.Proofs.Ythkpmbgclllnjaa
open Go.RowKit
set_option linter.unusedVariables false
set_option linter.unusedSimpArgs false

/-- A fresh row of bytes that a literal makes. -/
theorem RB.lit (w : World) (l : List UInt8) (m : Nat) (cs : Array Value) (hc : cs = (l.map u8).toArray) (hl : l.length = m) (hm : m ≤ 1000) : RB (w.alloc (.cells cs 5)) (some ⟨w.heap.size, 0, none⟩) m m l := by
  subst hc
  have hb := Blk.new w 5 (l.map u8).toArray
  refine ⟨hl, ⟨by simpa using hl, (fun e => by cases e), fun b e j u hj => ?_⟩, Nat.le_refl _, by unfold maxLen; omega, fun e => by cases e⟩
  cases e
  rw [Addr.add_lit, Nat.zero_add, hb.cell j]
  simpa using hj
theorem conv_RB {w : World} {A : Option Addr} {n c : Nat} {l : List UInt8} (h : RB w A n c l) : (convert 22 9 (.slice A n c)).run Try.prog w = .ok (.string ⟨l.toArray⟩) w := conv_bs w 22 9 5 Try.underlying22 Try.underlying5 Try.underlying9 h.len h.h
theorem own_RB3 {w : World} {B n c : Nat} {A : Option Addr} {l : List UInt8} (h : w.ownsRow B 5 1 (.slice A n c) n (l.map u8)) : RB w A n c l := by
  obtain ⟨A', c', e, hr⟩ := own_RB h
  injection e with e1 e2 e3
  subst e1 e3
  exact hr
/-- A source whose blocks are all younger than w. -/
structure YS (w W : World) (bs bt bb : Nat) (v : Value) (lim : Nat) (l : List UInt8) (tk : Nat) (cl : Bool) : Prop where
  ss : SS W w.heap.size bs bt bb v lim l tk cl
  bt : w.heap.size ≤ bt
  bb : w.heap.size ≤ bb
  below : Below w.heap.size w W
theorem YS.over {w W W' : World} {bs bt bb : Nat} {v : Value} {lim : Nat} {l : List UInt8} {tk : Nat} {cl : Bool} (h : YS w W bs bt bb v lim l tk cl) (hb : Below W.heap.size W W') : YS w W' bs bt bb v lim l tk cl := ⟨h.ss.below hb, h.bt, h.bb, h.below.trans (hb.mono h.below.size)⟩
theorem YS.next {w W W' : World} {bs bt bb : Nat} {v v' : Value} {lim lim' : Nat} {l l' : List UInt8} {tk tk' : Nat} {cl cl' : Bool} (h : YS w W bs bt bb v lim l tk cl) (hs : SS W' w.heap.size bs bt bb v' lim' l' tk' cl') (ho : Only (SF bt bb v) W W') : YS w W' bs bt bb v' lim' l' tk' cl' :=
  ⟨hs, h.bt, h.bb, h.below.trans (ho.to_below h.below.size fun b hb hs => by
    rcases hs with e | e | e
    · have := h.bt; omega
    · have := h.bb; omega
    · have := (h.ss.own.lt b e).1; omega)⟩

set_option maxRecDepth 100000 in
set_option maxHeartbeats 4000000 in
theorem known_any (w : World) : Calls Try.prog 8 #[] w fun e w' => e = .returned (.bool true) ∧ Below w.heap.size w w' := by
  have C0 := Lib.hid (show Calls Try.prog 9 #[.int .i64 4] w (fun e w' => ∃ bs bt bb, e = .returned (.tuple #[.pointer (some ⟨bs, 0, none⟩), .int .i64 0]) ∧ SS w' w.heap.size bs bt bb (.slice none 0 0) 4 [] 0 false ∧ Below w.heap.size w w' ∧ w.heap.size ≤ bs ∧ w.heap.size ≤ bt ∧ w.heap.size ≤ bb) from new_ok 4 w (by omega) (by omega))
  go_enter Try.func8, Try.ntmps8
  go_wp2_with (go_at_call 9; (with_reducible refine C0.out.mono ?_); rintro e w0 ⟨bs, bt, bb, rfl, hs, hb, h1, h2, h3⟩; refine Hid.out ?_)
  refine Lib.hid ?_
  have Y0 := Lib.hid (show YS w w0 bs bt bb (.slice none 0 0) 4 ([] : List UInt8) 0 false from ⟨hs, h2, h3, hb⟩)
  clear hs hb h1 h2 h3
  have C1 := Lib.hid (show Calls Try.prog 10 #[.pointer (some ⟨bs, 0, none⟩), .slice (some ⟨w0.heap.size, 0, none⟩) 3 3] (w0.alloc (.cells #[.int .u8 1, .int .u8 2, .int .u8 3] 5)) (fun e w' => e = .returned (.int .i64 0) ∧ ∃ v', SS w' w.heap.size bs bt bb v' 4 ([1, 2, 3] : List UInt8) 0 false ∧ Only (SF bt bb (.slice none 0 0)) (w0.alloc (.cells #[.int .u8 1, .int .u8 2, .int .u8 3] 5)) w' ∧ Hat (.slice none 0 0) v' (w0.alloc (.cells #[.int .u8 1, .int .u8 2, .int .u8 3] 5))) from feed_ok (Y0.out.over ((Below.refl _ _).alloc (Nat.le_refl _) _)).ss _ 3 3 ([1, 2, 3] : List UInt8) (RB.lit w0 ([1, 2, 3] : List UInt8) 3 _ rfl rfl (by omega)) (by simp))
  go_wp2_with (go_at_call 10; (with_reducible refine C1.out.mono ?_); rintro e w1 ⟨rfl, v1, hs, ho, -⟩; refine Hid.out ?_)
  refine Lib.hid ?_
  have Y1 := Lib.hid ((Y0.out.over ((Below.refl _ _).alloc (Nat.le_refl _) (.cells #[.int .u8 1, .int .u8 2, .int .u8 3] 5))).next hs ho)
  clear hs ho
  have C2 := Lib.hid (show Calls Try.prog 10 #[.pointer (some ⟨bs, 0, none⟩), .slice (some ⟨w1.heap.size, 0, none⟩) 2 2] (w1.alloc (.cells #[.int .u8 4, .int .u8 5] 5)) (fun e w' => e = .returned (.int .i64 7) ∧ Below (w1.alloc (.cells #[.int .u8 4, .int .u8 5] 5)).heap.size (w1.alloc (.cells #[.int .u8 4, .int .u8 5] 5)) w') from by have := feed_bad (Y1.out.over ((Below.refl _ _).alloc (Nat.le_refl _) (.cells #[.int .u8 4, .int .u8 5] 5))).ss (some ⟨w1.heap.size, 0, none⟩) 2 2 (by unfold maxLen; omega) (by decide); rw [show feedE 4 false ([1, 2, 3] : List UInt8) 2 = 7 from by decide] at this; exact this)
  go_wp2_with (go_at_call 10; (with_reducible refine C2.out.mono ?_); rintro e w2 ⟨rfl, hb⟩; refine Hid.out ?_)
  refine Lib.hid ?_
  have Y2 := Lib.hid ((Y1.out.over ((Below.refl _ _).alloc (Nat.le_refl _) (.cells #[.int .u8 4, .int .u8 5] 5))).over hb)
  clear hb
  have C3 := Lib.hid (show Calls Try.prog 11 #[.pointer (some ⟨bs, 0, none⟩), .int .i64 2] w2 (fun e w' => ∃ A c, e = .returned (.tuple #[.slice A 2 c, .int .i64 0]) ∧ Took w2 w' w.heap.size bs bt bb v1 4 ([1, 2, 3] : List UInt8) 0 false A c 2 2) from take_ok Y2.out.ss (by simp) 2 (by simp))
  go_wp2_with (go_at_call 11; (with_reducible refine C3.out.mono ?_); rintro e w3 ⟨A3, c3, rfl, ht⟩; refine Hid.out ?_)
  refine Lib.hid ?_
  obtain ⟨hto, v3, hs, ho, -, -⟩ := ht
  have Y3 := Lib.hid (show YS w w3 bs bt bb v3 4 ([3] : List UInt8) 2 false from Y2.out.next hs ho)
  have hc : (convert 22 9 (.slice A3 2 c3)).run Try.prog w3 = .ok (.string { data := #[1, 2] }) w3 := conv_RB (l := ([1, 2] : List UInt8)) (own_RB3 hto)
  clear hs ho hto
  have C4 := Lib.hid (show Calls Try.prog 10 #[.pointer (some ⟨bs, 0, none⟩), .slice (some ⟨w3.heap.size, 0, none⟩) 2 2] (w3.alloc (.cells #[.int .u8 4, .int .u8 5] 5)) (fun e w' => e = .returned (.int .i64 0) ∧ ∃ v', SS w' w.heap.size bs bt bb v' 4 ([3, 4, 5] : List UInt8) 2 false ∧ Only (SF bt bb v3) (w3.alloc (.cells #[.int .u8 4, .int .u8 5] 5)) w' ∧ Hat v3 v' (w3.alloc (.cells #[.int .u8 4, .int .u8 5] 5))) from feed_ok (Y3.out.over ((Below.refl _ _).alloc (Nat.le_refl _) _)).ss _ 2 2 ([4, 5] : List UInt8) (RB.lit w3 ([4, 5] : List UInt8) 2 _ rfl rfl (by omega)) (by simp))
  go_wp2_with (go_at_call 10; (with_reducible refine C4.out.mono ?_); rintro e w4 ⟨rfl, v4, hs, ho, -⟩; refine Hid.out ?_)
  refine Lib.hid ?_
  have Y4 := Lib.hid ((Y3.out.over ((Below.refl _ _).alloc (Nat.le_refl _) (.cells #[.int .u8 4, .int .u8 5] 5))).next hs ho)
  clear hs ho
  have C5 := Lib.hid (show Calls Try.prog 14 #[.pointer (some ⟨bs, 0, none⟩)] w4 (fun e w' => e = .returned (.int .i64 3) ∧ Below w4.heap.size w4 w') from left_some Y4.out.ss)
  go_wp2_with (go_at_call 14; (with_reducible refine C5.out.mono ?_); rintro e w5 ⟨rfl, hb⟩; refine Hid.out ?_)
  refine Lib.hid ?_
  have Y5 := Lib.hid (Y4.out.over hb)
  clear hb
  have C6 := Lib.hid (show Calls Try.prog 13 #[.pointer (some ⟨bs, 0, none⟩)] w5 (fun e w' => e = .returned (.int .i64 2) ∧ Below w5.heap.size w5 w') from off_some Y5.out.ss)
  go_wp2_with (go_at_call 13; (with_reducible refine C6.out.mono ?_); rintro e w6 ⟨rfl, hb⟩; refine Hid.out ?_)
  refine Lib.hid ?_
  have Y6 := Lib.hid (Y5.out.over hb)
  clear hb
  have C7 := Lib.hid (show Calls Try.prog 25 #[.pointer (some ⟨bs, 0, none⟩)] w6 (fun e w' => e = .returned (.int .i64 1) ∧ Below w6.heap.size w6 w') from room_some Y6.out.ss)
  go_wp2_with (go_at_call 25; (with_reducible refine C7.out.mono ?_); rintro e w7 ⟨rfl, hb⟩; refine Hid.out ?_)
  refine Lib.hid ?_
  have Y7 := Lib.hid (Y6.out.over hb)
  clear hb
  have C8 := Lib.hid (show Calls Try.prog 27 #[.pointer (some ⟨bs, 0, none⟩), .int .i64 4] w7 (fun e w' => e = .returned (.tuple #[.slice none 0 0, .int .i64 4]) ∧ Below w7.heap.size w7 w') from by have := peek_bad Y7.out.ss 4 (by decide); rw [show peekE 4 false ([3, 4, 5] : List UInt8) 4 = 4 from by decide] at this; exact this)
  go_wp2_with (go_at_call 27; (with_reducible refine C8.out.mono ?_); rintro e w8 ⟨rfl, hb⟩; refine Hid.out ?_)
  refine Lib.hid ?_
  have Y8 := Lib.hid (Y7.out.over hb)
  clear hb
  have C9 := Lib.hid (show Calls Try.prog 27 #[.pointer (some ⟨bs, 0, none⟩), .int .i64 5] w8 (fun e w' => e = .returned (.tuple #[.slice none 0 0, .int .i64 3]) ∧ Below w8.heap.size w8 w') from by have := peek_bad Y8.out.ss 5 (by decide); rw [show peekE 4 false ([3, 4, 5] : List UInt8) 5 = 3 from by decide] at this; exact this)
  go_wp2_with (go_at_call 27; (with_reducible refine C9.out.mono ?_); rintro e w9 ⟨rfl, hb⟩; refine Hid.out ?_)
  refine Lib.hid ?_
  have Y9 := Lib.hid (Y8.out.over hb)
  clear hb
  have C10 := Lib.hid (show Calls Try.prog 12 #[.pointer (some ⟨bs, 0, none⟩), .int .u8 5, .int .i64 3] w9 (fun e w' => ∃ A c, e = .returned (.tuple #[.slice A 2 c, .int .i64 0]) ∧ Took w9 w' w.heap.size bs bt bb v4 4 ([3, 4, 5] : List UInt8) 2 false A c 2 3) from until_ok Y9.out.ss (by simp) 5 3 2 (by omega) (by decide) (by decide))
  go_wp2_with (go_at_call 12; (with_reducible refine C10.out.mono ?_); rintro e w10 ⟨A10, c10, rfl, ht⟩; refine Hid.out ?_)
  refine Lib.hid ?_
  obtain ⟨hto, v10, hs, ho, -, -⟩ := ht
  have Y10 := Lib.hid (show YS w w10 bs bt bb v10 4 ([] : List UInt8) 5 false from Y9.out.next hs ho)
  have hd : (convert 22 9 (.slice A10 2 c10)).run Try.prog w10 = .ok (.string { data := #[3, 4] }) w10 := conv_RB (l := ([3, 4] : List UInt8)) (own_RB3 hto)
  clear hs ho hto
  have C11 := Lib.hid (show Calls Try.prog 13 #[.pointer (some ⟨bs, 0, none⟩)] w10 (fun e w' => e = .returned (.int .i64 5) ∧ Below w10.heap.size w10 w') from off_some Y10.out.ss)
  go_wp2_with (go_at_call 13; (with_reducible refine C11.out.mono ?_); rintro e w11 ⟨rfl, hb⟩; refine Hid.out ?_)
  refine Lib.hid ?_
  have Y11 := Lib.hid (Y10.out.over hb)
  clear hb
  have C12 := Lib.hid (show Calls Try.prog 10 #[.pointer (some ⟨bs, 0, none⟩), .slice (some ⟨w11.heap.size, 0, none⟩) 1 1] (w11.alloc (.cells #[.int .u8 9] 5)) (fun e w' => e = .returned (.int .i64 0) ∧ ∃ v', SS w' w.heap.size bs bt bb v' 4 ([9] : List UInt8) 5 false ∧ Only (SF bt bb v10) (w11.alloc (.cells #[.int .u8 9] 5)) w' ∧ Hat v10 v' (w11.alloc (.cells #[.int .u8 9] 5))) from feed_ok (Y11.out.over ((Below.refl _ _).alloc (Nat.le_refl _) _)).ss _ 1 1 ([9] : List UInt8) (RB.lit w11 ([9] : List UInt8) 1 _ rfl rfl (by omega)) (by simp))
  go_wp2_with (go_at_call 10; (with_reducible refine C12.out.mono ?_); rintro e w12 ⟨rfl, v12, hs, ho, -⟩; refine Hid.out ?_)
  refine Lib.hid ?_
  have Y12 := Lib.hid ((Y11.out.over ((Below.refl _ _).alloc (Nat.le_refl _) (.cells #[.int .u8 9] 5))).next hs ho)
  clear hs ho
  have C13 := Lib.hid (show Calls Try.prog 28 #[.pointer (some ⟨bs, 0, none⟩)] w12 (fun e w' => e = .returned (.int .i64 0) ∧ SS w' w.heap.size bs bt bb v12 4 ([9] : List UInt8) 5 true ∧ Only (SF bt bb v12) w12 w') from close_ok Y12.out.ss)
  go_wp2_with (go_at_call 28; (with_reducible refine C13.out.mono ?_); rintro e w13 ⟨rfl, hs, ho⟩; refine Hid.out ?_)
  refine Lib.hid ?_
  have Y13 := Lib.hid (Y12.out.next hs ho)
  clear hs ho
  have C14 := Lib.hid (show Calls Try.prog 12 #[.pointer (some ⟨bs, 0, none⟩), .int .u8 5, .int .i64 3] w13 (fun e w' => e = .returned (.tuple #[.slice none 0 0, .int .i64 9]) ∧ Below w13.heap.size w13 w') from by have := until_bad Y13.out.ss 5 3 (by decide); rw [show untilE 4 true ([9] : List UInt8) 5 3 = 9 from by decide] at this; exact this)
  go_wp2_with (go_at_call 12; (with_reducible refine C14.out.mono ?_); rintro e w14 ⟨rfl, hb⟩; refine Hid.out ?_)
  refine Lib.hid ?_
  have Y14 := Lib.hid (Y13.out.over hb)
  clear hb
  have C15 := Lib.hid (show Calls Try.prog 12 #[.pointer (some ⟨bs, 0, none⟩), .int .u8 5, .int .i64 0] w14 (fun e w' => e = .returned (.tuple #[.slice none 0 0, .int .i64 5]) ∧ Below w14.heap.size w14 w') from by have := until_bad Y14.out.ss 5 0 (by decide); rw [show untilE 4 true ([9] : List UInt8) 5 0 = 5 from by decide] at this; exact this)
  go_wp2_with (go_at_call 12; (with_reducible refine C15.out.mono ?_); rintro e w15 ⟨rfl, hb⟩; refine Hid.out ?_)
  refine Lib.hid ?_
  have Y15 := Lib.hid (Y14.out.over hb)
  clear hb
  have C16 := Lib.hid (show Calls Try.prog 10 #[.pointer (some ⟨bs, 0, none⟩), .slice (some ⟨w15.heap.size, 0, none⟩) 1 1] (w15.alloc (.cells #[.int .u8 1] 5)) (fun e w' => e = .returned (.int .i64 8) ∧ Below (w15.alloc (.cells #[.int .u8 1] 5)).heap.size (w15.alloc (.cells #[.int .u8 1] 5)) w') from by have := feed_bad (Y15.out.over ((Below.refl _ _).alloc (Nat.le_refl _) (.cells #[.int .u8 1] 5))).ss (some ⟨w15.heap.size, 0, none⟩) 1 1 (by unfold maxLen; omega) (by decide); rw [show feedE 4 true ([9] : List UInt8) 1 = 8 from by decide] at this; exact this)
  go_wp2_with (go_at_call 10; (with_reducible refine C16.out.mono ?_); rintro e w16 ⟨rfl, hb⟩; refine Hid.out ?_)
  refine Lib.hid ?_
  have Y16 := Lib.hid ((Y15.out.over ((Below.refl _ _).alloc (Nat.le_refl _) (.cells #[.int .u8 1] 5))).over hb)
  clear hb
  have C17 := Lib.hid (show Calls Try.prog 11 #[.pointer (some ⟨bs, 0, none⟩), .int .i64 1] w16 (fun e w' => ∃ A c, e = .returned (.tuple #[.slice A 1 c, .int .i64 0]) ∧ Took w16 w' w.heap.size bs bt bb v12 4 ([9] : List UInt8) 5 true A c 1 1) from take_ok Y16.out.ss (by simp) 1 (by simp))
  go_wp2_with (go_at_call 11; (with_reducible refine C17.out.mono ?_); rintro e w17 ⟨A17, c17, rfl, ht⟩; refine Hid.out ?_)
  refine Lib.hid ?_
  obtain ⟨hto, v17, hs, ho, -, -⟩ := ht
  have Y17 := Lib.hid (show YS w w17 bs bt bb v17 4 ([] : List UInt8) 6 true from Y16.out.next hs ho)
  have he : (convert 22 9 (.slice A17 1 c17)).run Try.prog w17 = .ok (.string { data := #[9] }) w17 := conv_RB (l := ([9] : List UInt8)) (own_RB3 hto)
  clear hs ho hto
  have C18 := Lib.hid (show Calls Try.prog 26 #[.pointer (some ⟨bs, 0, none⟩)] w17 (fun e w' => e = .returned (.bool true) ∧ Below w17.heap.size w17 w') from ended_some Y17.out.ss)
  go_wp2_with (go_at_call 26; (with_reducible refine C18.out.mono ?_); rintro e w18 ⟨rfl, hb⟩; refine Hid.out ?_)
  refine Lib.hid ?_
  have Y18 := Lib.hid (Y17.out.over hb)
  clear hb
  go_wp2_with fail
  go_ret
  exact ⟨rfl, Y18.out.below⟩
end Go.Proofs.Ythkpmbgclllnjaa
