/- Peek, Take, Skip, Until at a source and without one. -/
import Derived.Test.YthkpmbgclllnjaaPk
import Derived.IntWalk
namespace Go.Proofs.Ythkpmbgclllnjaa
open Go.RowKit
set_option linter.unusedVariables false
set_option linter.unusedSimpArgs false
attribute [local go_sem] fld0 fld1 fld2

/-- The error of Peek. -/
def peekE (lim : Nat) (cl : Bool) (l : List UInt8) (n : Int) : Int := if n < 0 then 2 else if (lim : Int) < n then 3 else if (l.length : Int) < n then (if cl then 9 else 4) else 0
/-- The place of the byte that Until looks for. -/
def atB (l : List UInt8) (x : UInt8) (n : Int) : Int := Lib.indexByte (l.take (n.toNat + 1)) x
/-- The error of Until. -/
def untilE (lim : Nat) (cl : Bool) (l : List UInt8) (x : UInt8) (n : Int) : Int := if n < 0 then 2 else if (lim : Int) - 1 < n then 3 else if atB l x n < 0 then (if n < l.length then 5 else if cl then 9 else 4) else 0
theorem index_lt : ∀ (l : List UInt8) (x : UInt8), Lib.indexByte l x < l.length ∨ Lib.indexByte l x = -1
  | [], x => .inr rfl
  | b :: l, x => by
    unfold Lib.indexByte
    split
    · exact .inl (by simp)
    · split
      · exact .inr rfl
      · rcases index_lt l x with h | h
        · exact .inl (by simp; omega)
        · rename_i h2; exact absurd (by simpa using h) h2
theorem atB_le (l : List UInt8) (x : UInt8) (n : Int) : -1 ≤ atB l x n ∧ (atB l x n < 0 ∨ (atB l x n < l.length ∧ atB l x n ≤ n.toNat)) := by
  unfold atB
  refine ⟨Lib.indexByte_ge _ _, ?_⟩
  rcases index_lt (l.take (n.toNat + 1)) x with h | h
  · right
    rw [List.length_take] at h
    omega
  · left; omega

/-- What a call took: the bytes that it returns, and the state behind it. -/
def Took (w w' : World) (B bs bt bb : Nat) (v : Value) (lim : Nat) (l : List UInt8) (tk : Nat) (cl : Bool) (A : Option Addr) (c k n : Nat) : Prop :=
  w'.ownsRow w.heap.size 5 1 (.slice A k c) k ((l.take k).map u8) ∧ ∃ v', SS w' B bs bt bb v' lim (l.drop n) (tk + n) cl ∧ Only (SF bt bb v) w w' ∧ Hat v v' w ∧ ∀ j, (Value.slice A k c).ownBlock = some j → v'.ownBlock ≠ some j

theorem peek_none (p : Option Addr) (n : Int) (w : World) (h : NoSrc p w) :
    Calls Try.prog 27 #[.pointer p, .int .i64 n] w fun e w' => e = .returned (.tuple #[.slice none 0 0, .int .i64 1]) ∧ Below w.heap.size w w' := by
  refine (peek_of p none n 0 false w (fun A m c x _ => A = none ∧ m = 0 ∧ c = 0 ∧ x = 1) (fun W hb => get_none p W (h.below hb)) (fun W hb _ _ => (there41_none p _ _ n 0 W (h.below hb)).mono fun e w' ⟨he, hb'⟩ => ⟨none, 0, 0, 0, 1, he, ⟨rfl, rfl, rfl, rfl⟩, hb'⟩)).mono ?_
  rintro e w' ⟨A, m, c, x, rfl, ⟨rfl, rfl, rfl, rfl⟩, hb⟩
  exact ⟨rfl, hb⟩
section
variable {w : World} {B bs bt bb : Nat} {v : Value} {lim : Nat} {l : List UInt8} {tk : Nat} {cl : Bool}
theorem peek_bad (h : SS w B bs bt bb v lim l tk cl) (n : Int) (hE : peekE lim cl l n ≠ 0) :
    Calls Try.prog 27 #[.pointer (some ⟨bs, 0, none⟩), .int .i64 n] w fun e w' => e = .returned (.tuple #[.slice none 0 0, .int .i64 (peekE lim cl l n)]) ∧ Below w.heap.size w w' := by
  refine (peek_of _ (some ⟨bb, 0, none⟩) n lim cl w (fun A m c x _ => A = none ∧ m = 0 ∧ c = 0 ∧ x = peekE lim cl l n) (fun W hb => get_some bs bt bb lim cl W (h.below hb).src (h.below hb).st) (fun W hb h1 h2 => (there41_bad _ _ n lim (if (l.length : Int) < n then -1 else n) 0 (peekE lim cl l n) B bs bt bb v lim l tk cl W (h.below hb) (fun _ _ => find_peek _ _ B bs bt bb v lim l tk cl n W (h.below hb) h2 h1 _ rfl) ?_).mono fun e w' ⟨he, hb'⟩ => ⟨none, 0, 0, 0, _, he, ⟨rfl, rfl, rfl, rfl⟩, hb'⟩)).mono ?_
  · unfold peekE at hE ⊢
    by_cases h1 : n < 0
    · exact .inl ⟨h1, by rw [if_pos h1]⟩
    · rw [if_neg h1] at hE ⊢
      by_cases h2 : (lim : Int) < n
      · exact .inr (.inl ⟨by omega, h2, by rw [if_pos h2]⟩)
      · rw [if_neg h2] at hE ⊢
        by_cases h3 : (l.length : Int) < n
        · rw [if_pos h3] at hE ⊢
          exact .inr (.inr ⟨by omega, by omega, .inr ⟨rfl, by rw [if_pos h3]; omega, rfl⟩⟩)
        · rw [if_neg h3] at hE
          exact absurd rfl hE
  · rintro e w' ⟨A, m, c, x, rfl, ⟨rfl, rfl, rfl, rfl⟩, hb⟩
    exact ⟨rfl, hb⟩
theorem peekE_ok {n : Int} (hE : peekE lim cl l n = 0) : ∃ k : Nat, n = k ∧ k ≤ l.length ∧ k ≤ lim := by
  unfold peekE at hE
  split at hE
  · cases hE
  · split at hE
    · cases hE
    · split at hE
      · split at hE <;> cases hE
      · exact ⟨n.toNat, by omega, by omega, by omega⟩
theorem peek_ok (h : SS w B bs bt bb v lim l tk cl) (k : Nat) (hk : k ≤ l.length) :
    Calls Try.prog 27 #[.pointer (some ⟨bs, 0, none⟩), .int .i64 k] w fun e w' => ∃ A c, e = .returned (.tuple #[.slice A k c, .int .i64 0]) ∧ w'.ownsRow w.heap.size 5 1 (.slice A k c) k ((l.take k).map u8) ∧ Below w.heap.size w w' := by
  have hl := h.lenB
  refine (peek_of _ (some ⟨bb, 0, none⟩) k lim cl w (fun A m c x W' => m = k ∧ x = 0 ∧ W'.ownsRow w.heap.size 5 1 (.slice A k c) k ((l.take k).map u8)) (fun W hb => get_some bs bt bb lim cl W (h.below hb).src (h.below hb).st) (fun W hb h1 h2 => (there41_ok _ _ k lim k B bs bt bb v lim l tk cl W (h.below hb) (find_peek _ _ B bs bt bb v lim l tk cl k W (h.below hb) h2 h1 _ (by rw [if_neg (by omega)])) (by omega) (by omega) hk).mono fun e w' ⟨A, c, he, ho, hb'⟩ => ⟨A, k, c, k, 0, he, ⟨rfl, rfl, own_base ho hb.size⟩, hb'⟩)).mono ?_
  rintro e w' ⟨A, m, c, x, rfl, ⟨rfl, rfl, ho⟩, hb⟩
  exact ⟨A, c, rfl, ho, hb⟩
/-- Taking k bytes out, behind a call that returned some. -/
theorem took_of {w1 w2 : World} {v' : Value} {A : Option Addr} {c k n : Nat} (h : SS w B bs bt bb v lim l tk cl) (ht : tk + n ≤ 4000000000) (hb : Below w.heap.size w w1) (ho : w1.ownsRow w.heap.size 5 1 (.slice A k c) k ((l.take k).map u8))
    (h1 : Blk w2 bb 63 #[v', .int .i64 ((tk + n : Nat) : Int)]) (h2 : w2.ownsRow w1.heap.size 5 1 v' (l.length - n) ((l.drop n).map u8)) (h3 : Only (fun k => k = bb) w1 w2) : Took w w2 B bs bt bb v lim l tk cl A c k n := by
  have hs := h.below hb
  have hj : ∀ j, (Value.slice A k c).ownBlock = some j → j < w1.heap.size ∧ w.heap.size ≤ j := fun j hj => ⟨own_lt ho j hj, (ho.lt j hj).1⟩
  refine ⟨own_only ho h3 (fun j hjj => by have := hj j hjj; have := h.buf.lt; show ¬ j = bb; omega), v', ⟨hs.src.only h3 h.ne_sb, hs.st.only h3 h.ne_tb, h1, ?_, Nat.le_trans hs.base h3.size, h.limB, by rw [List.length_drop]; have := h.lenB; omega, ht⟩, (Only.of_below hb).trans h3 (fun b _ hbb => .inr (.inl hbb)), ?_, fun j hjj e => ?_⟩
  · rw [List.length_drop]; exact own_base h2 hs.base
  · exact .inr fun j hjj => Nat.le_trans hb.size (h2.lt j hjj).1
  · have := hj j hjj; have := (h2.lt j e).1; omega
end

set_option maxRecDepth 100000 in
theorem take_none (p : Option Addr) (n : Int) (w : World) (h : NoSrc p w) :
    Calls Try.prog 11 #[.pointer p, .int .i64 n] w fun e w' => e = .returned (.tuple #[.slice none 0 0, .int .i64 1]) ∧ Below w.heap.size w w' := by
  have C := Lib.hid (peek_none p n w h)
  clear h
  go_enter Try.func11, Try.ntmps11
  go_wp2_with (go_at_call 27; (with_reducible refine C.out.mono ?_); rintro e w1 ⟨rfl, b1⟩; have HB := Lib.hid b1; clear b1)
  exact bodyPost_ret (v := .tuple #[.slice none 0 0, .int .i64 1]) (by simp [results, Try.results11, go_sem]) rfl ⟨rfl, HB.out⟩
section
variable {w : World} {B bs bt bb : Nat} {v : Value} {lim : Nat} {l : List UInt8} {tk : Nat} {cl : Bool}
set_option maxRecDepth 100000 in
theorem take_bad (h : SS w B bs bt bb v lim l tk cl) (n : Int) (hE : peekE lim cl l n ≠ 0) :
    Calls Try.prog 11 #[.pointer (some ⟨bs, 0, none⟩), .int .i64 n] w fun e w' => e = .returned (.tuple #[.slice none 0 0, .int .i64 (peekE lim cl l n)]) ∧ Below w.heap.size w w' := by
  have C := Lib.hid (peek_bad h n hE)
  obtain ⟨E, hEE⟩ : ∃ E, peekE lim cl l n = E := ⟨_, rfl⟩
  rw [hEE] at C hE ⊢
  have q : (E == 0) = false := by simpa using hE
  clear h hE hEE
  go_enter Try.func11, Try.ntmps11
  go_wp2_with (go_at_call 27; (with_reducible refine C.out.mono ?_); rintro e w1 ⟨rfl, b1⟩; have HB := Lib.hid b1; clear b1)
  exact bodyPost_ret (v := .tuple #[.slice none 0 0, .int .i64 E]) (by simp [results, Try.results11, go_sem]) rfl ⟨rfl, HB.out⟩
set_option maxRecDepth 100000 in
theorem take_ok (h : SS w B bs bt bb v lim l tk cl) (ht : tk + l.length ≤ 4000000000) (k : Nat) (hk : k ≤ l.length) :
    Calls Try.prog 11 #[.pointer (some ⟨bs, 0, none⟩), .int .i64 k] w fun e w' => ∃ A c, e = .returned (.tuple #[.slice A k c, .int .i64 0]) ∧ Took w w' B bs bt bb v lim l tk cl A c k k := by
  have C := Lib.hid (peek_ok h k hk)
  have H := Lib.hid h
  have hl : l.length ≤ 1048576 := Nat.le_trans h.lenB h.limB
  have HL := Lib.hid (And.intro hk (And.intro hl ht))
  have e0 := h.src.cell 0
  have e1 := h.st.cell 0
  simp at e0 e1
  clear h ht hk hl
  go_enter Try.func11, Try.ntmps11
  go_wp2_with (first
    | (go_at_call 27; (with_reducible refine C.out.mono ?_); rintro e w1 ⟨A, c, rfl, o1, b1⟩; have HO := Lib.hid o1; have HB := Lib.hid b1; have h1 := H.out.below b1; have e0' := h1.src.cell 0; have e1' := h1.st.cell 0; simp at e0' e1'; have C30 := Lib.hid (take_any B bb v l tk k w1 h1.buf h1.own HL.out.1 HL.out.2.1 h1.tkB); clear h1 o1 b1)
    | (go_at_call 30; (with_reducible refine C30.out.mono ?_); rintro e w2 ⟨rfl, v', k1, k2, k3⟩; have K1 := Lib.hid k1; have K2 := Lib.hid k2; have K3 := Lib.hid k3; clear k1 k2 k3))
  exact bodyPost_ret (v := .tuple #[.slice A k c, .int .i64 0]) (by simp [results, Try.results11, go_sem]) rfl ⟨A, c, rfl, took_of H.out (by have := HL.out; omega) HB.out HO.out K1.out K2.out K3.out⟩
end


set_option maxRecDepth 100000 in
theorem skip_of (p : Option Addr) (n : Int) (w : World) (R : Ending → World → Prop) (h : Calls Try.prog 11 #[.pointer p, .int .i64 n] w fun e w' => ∃ A m c x, e = .returned (.tuple #[.slice A m c, .int .i64 x]) ∧ R (.returned (.int .i64 x)) w') :
    Calls Try.prog 22 #[.pointer p, .int .i64 n] w R := by
  have C := Lib.hid h
  clear h
  go_enter Try.func22, Try.ntmps22
  go_wp2_with (go_at_call 11; (with_reducible refine C.out.mono ?_); rintro e w1 ⟨A, m, c, x, rfl, hr⟩; have HR := Lib.hid hr; clear hr)
  exact HR.out


/-- Three boxes. -/
def FU (a b d : Nat) (n : Int) (x : UInt8) (q : Option Addr) (W : World) : Prop := W.cell? ⟨a, 0, none⟩ = some (.pointer q) ∧ W.cell? ⟨b, 0, none⟩ = some (.int .i64 n) ∧ W.cell? ⟨d, 0, none⟩ = some (.int .u8 (x.toNat : Int))
def FV (b d : Nat) (n : Int) (y : Int) (W : World) : Prop := W.cell? ⟨b, 0, none⟩ = some (.int .i64 n) ∧ W.cell? ⟨d, 0, none⟩ = some (.int .u8 y)
set_option maxRecDepth 100000 in
set_option maxHeartbeats 1000000 in
theorem find_until (a b d B bs bt bb : Nat) (v : Value) (lim : Nat) (l : List UInt8) (tk : Nat) (cl : Bool) (n : Nat) (x : UInt8) (w : World) (h : SS w B bs bt bb v lim l tk cl) (ha : Blk w a 24 #[.pointer (some ⟨bs, 0, none⟩)]) (hb : Blk w b 3 #[.int .i64 n]) (hd : Blk w d 5 #[.int .u8 (x.toNat : Int)]) (hn : n < lim) :
    Calls Try.prog 33 #[.pointer (some ⟨a, 0, none⟩), .pointer (some ⟨b, 0, none⟩), .pointer (some ⟨d, 0, none⟩)] w fun e w' => e = .returned (.tuple #[.int .i64 (if atB l x n < 0 ∧ n < l.length then 0 else atB l x n), .int .i64 (if atB l x n < 0 ∧ n < l.length then 5 else 0)]) ∧ Below w.heap.size w w' := by
  obtain ⟨A, c, rfl, hr⟩ := h.form
  have e0 := ha.cell 0
  have e1 := h.src.cell 0
  have e2 := h.st.cell 0
  have e3 := h.buf.cell 0
  have e4 := hb.cell 0
  have e5 := hd.cell 0
  simp at e0 e1 e2 e3 e4 e5
  have hl : l.length ≤ 1048576 := Nat.le_trans h.lenB h.limB
  have hn2 : n < 1048576 := Nat.lt_of_lt_of_le hn h.limB
  obtain ⟨q, hq⟩ : ∃ q, min l.length (n + 1) = q := ⟨_, rfl⟩
  obtain ⟨A', c', hs, hr', hwi⟩ := slice_to w A l.length c q l hr (by omega)
  have hlit : ∀ y, A' = some y → y.spot = none := fun y hy => by
    obtain ⟨a0, ha0, _, hsp⟩ := hwi y hy
    refine hsp ?_
    have ho := h.own
    rcases ho.2 with ⟨h0, _⟩ | ⟨g, cap, cur, hv, _⟩
    · injection h0 with h0; rw [ha0] at h0; cases h0
    · injection hv with hv; rw [ha0] at hv; cases hv; rfl
  have hix : Lib.indexByte (l.take q) x = atB l x n := by
    unfold atB
    rw [Int.toNat_natCast, ← hq]
    by_cases h : l.length ≤ n + 1
    · rw [Nat.min_eq_left h, List.take_of_length_le (Nat.le_refl _), List.take_of_length_le h]
    · rw [Nat.min_eq_right (by omega)]
  have hat := atB_le l x n
  rw [← hix] at hat ⊢
  have C34 := Lib.hid (indexByte_any A' q c' (l.take q) x w.drew (RB.below hr' (below_drew (Below.refl _ _))) hlit)
  have hmin : (if (n : Int) + 1 < (l.length : Int) then (n : Int) + 1 else (l.length : Int)) = (q : Int) := by split <;> omega
  obtain ⟨t, ht⟩ : ∃ t, Lib.indexByte (l.take q) x = t := ⟨_, rfl⟩
  rw [ht] at C34 hat ⊢
  obtain ⟨m, hm⟩ : ∃ m, l.length = m := ⟨_, rfl⟩
  rw [hm] at hl hat hs e3 hmin ⊢
  obtain ⟨y, hy⟩ : ∃ y : Int, (x.toNat : Int) = y := ⟨_, rfl⟩
  rw [hy] at C34 e5
  have HS := Lib.hid (show FV b d n y w.drew from ⟨e4, e5⟩)
  have HMIN := Lib.hid hmin
  have hn3 : (n : Int) ≤ 1048576 := by omega
  have hn4 : (0 : Int) ≤ n := by omega
  have hm3 : (m : Int) ≤ 1048576 := by omega
  have hm4 : (0 : Int) ≤ m := by omega
  have HAT := Lib.hid hat
  have HSL := Lib.hid hs
  have hqle : min (m : Int) ((n : Int) + 1) = (q : Int) := by omega
  have HQL := Lib.hid hqle
  have HWR := Lib.hid (show IntKind.i64.wrap ((n : Int) + 1) = (n : Int) + 1 from IntWalk.i64_in _ (by omega))
  clear ha hb hd hr hr' hwi hlit hix ht hm hy h hl hn hn2 hq hmin hat e5 hs hqle
  by_cases ht0 : t < 0
  · by_cases hnm : (n : Int) < m
    · have r1 : (t < 0 ∧ n < m) := ⟨ht0, by omega⟩
      rw [if_pos r1, if_pos r1]
      have q1 : decide (t < 0) = true := by simpa using ht0
      have q2 : decide ((n : Int) < m) = true := by simpa using hnm
      have q3 : decide (n < m) = true := by simp; omega
      clear r1
      go_enter Try.func33, Try.ntmps33
      go_wp2_with fail
      refine wp_region_G (S0 := (FV b d n y)) (S1 := (FV b d n y)) (c := 99) (by kernel_rfl) ?_
      have hHeld := HS.out
      have h01 := (fun (W : World) (h : (FV b d n y) W) => h)
      refine wpG_takeB (i := 0) (oi := ⟨some 17, _, _, _, _, _⟩) (v := .slice A m c) rfl (by kernel_rfl) (by kernel_rfl) (by kernel_rfl) (by decide) (fun _ _ _ h => h) h01 rfl hHeld (Or.inl ⟨by rfl, ?_⟩) ?_
      · (intro W9 hSw; obtain ⟨v1, v2⟩ := hSw; have hsl := HSL.out; go_simp; (try (first | with_reducible rfl | rfl | exact congrArg (fun z => Result.ok (Value.int IntKind.i64 z) W9) HWR.out | (rw [HWR.out]; done) | (rw [HMIN.out]; done))))
      try simp only [Act.put, List.setIfInBounds_toArray, List.set_cons_zero, List.set_cons_succ]
      refine wpG_takeB (i := 1) (oi := ⟨some 18, _, _, _, _, _⟩) (v := .slice A m c) rfl (by kernel_rfl) (by kernel_rfl) (by kernel_rfl) (by decide) (fun _ _ _ h => h) h01 rfl hHeld (Or.inl ⟨by rfl, ?_⟩) ?_
      · (intro W9 hSw; obtain ⟨v1, v2⟩ := hSw; have hsl := HSL.out; go_simp; (try (first | with_reducible rfl | rfl | exact congrArg (fun z => Result.ok (Value.int IntKind.i64 z) W9) HWR.out | (rw [HWR.out]; done) | (rw [HMIN.out]; done))))
      try simp only [Act.put, List.setIfInBounds_toArray, List.set_cons_zero, List.set_cons_succ]
      refine wpG_takeB (i := 2) (oi := ⟨some 19, _, _, _, _, _⟩) (v := .int .i64 (m : Int)) rfl (by kernel_rfl) (by kernel_rfl) (by kernel_rfl) (by decide) (fun _ _ _ h => h) h01 rfl hHeld (Or.inl ⟨by rfl, ?_⟩) ?_
      · (intro W9 hSw; obtain ⟨v1, v2⟩ := hSw; have hsl := HSL.out; go_simp; (try (first | with_reducible rfl | rfl | exact congrArg (fun z => Result.ok (Value.int IntKind.i64 z) W9) HWR.out | (rw [HWR.out]; done) | (rw [HMIN.out]; done))))
      try simp only [Act.put, List.setIfInBounds_toArray, List.set_cons_zero, List.set_cons_succ]
      refine wpG_takeB (i := 3) (oi := ⟨some 20, _, _, _, _, _⟩) (v := .int .i64 (n : Int)) rfl (by kernel_rfl) (by kernel_rfl) (by kernel_rfl) (by decide) (fun _ _ _ h => h) h01 rfl hHeld (Or.inl ⟨by rfl, ?_⟩) ?_
      · (intro W9 hSw; obtain ⟨v1, v2⟩ := hSw; have hsl := HSL.out; go_simp; (try (first | with_reducible rfl | rfl | exact congrArg (fun z => Result.ok (Value.int IntKind.i64 z) W9) HWR.out | (rw [HWR.out]; done) | (rw [HMIN.out]; done))))
      try simp only [Act.put, List.setIfInBounds_toArray, List.set_cons_zero, List.set_cons_succ]
      refine wpG_takeB (i := 4) (oi := ⟨some 21, _, _, _, _, _⟩) (v := .int .i64 ((n : Int) + 1)) rfl (by kernel_rfl) (by kernel_rfl) (by kernel_rfl) (by decide) (fun _ _ _ h => h) h01 rfl hHeld (Or.inl ⟨by rfl, ?_⟩) ?_
      · (intro W9 hSw; obtain ⟨v1, v2⟩ := hSw; have hsl := HSL.out; go_simp; (try (first | with_reducible rfl | rfl | exact congrArg (fun z => Result.ok (Value.int IntKind.i64 z) W9) HWR.out | (rw [HWR.out]; done) | (rw [HMIN.out]; done))))
      try simp only [Act.put, List.setIfInBounds_toArray, List.set_cons_zero, List.set_cons_succ]
      refine wpG_takeB (i := 5) (oi := ⟨some 22, _, _, _, _, _⟩) (v := .int .i64 (q : Int)) rfl (by kernel_rfl) (by kernel_rfl) (by kernel_rfl) (by decide) (fun _ _ _ h => h) h01 rfl hHeld (Or.inl ⟨by rfl, ?_⟩) ?_
      · (intro W9 hSw; obtain ⟨v1, v2⟩ := hSw; have hsl := HSL.out; go_simp; (try (first | with_reducible rfl | rfl | exact congrArg (fun z => Result.ok (Value.int IntKind.i64 z) W9) HWR.out | (rw [HWR.out]; done) | (rw [HMIN.out]; done))))
      try simp only [Act.put, List.setIfInBounds_toArray, List.set_cons_zero, List.set_cons_succ]
      refine wpG_takeB (i := 6) (oi := ⟨some 23, _, _, _, _, _⟩) (v := (.slice A' q c')) rfl (by kernel_rfl) (by kernel_rfl) (by kernel_rfl) (by decide) (fun _ _ _ h => h) h01 rfl hHeld (Or.inl ⟨by rfl, ?_⟩) ?_
      · (intro W9 hSw; obtain ⟨v1, v2⟩ := hSw; have hsl := HSL.out; go_simp; (try (first | with_reducible rfl | rfl | exact congrArg (fun z => Result.ok (Value.int IntKind.i64 z) W9) HWR.out | (rw [HWR.out]; done) | (rw [HMIN.out]; done))))
      try simp only [Act.put, List.setIfInBounds_toArray, List.set_cons_zero, List.set_cons_succ]
      refine wpG_takeB (i := 7) (oi := ⟨some 24, _, _, _, _, _⟩) (v := .int .u8 y) rfl (by kernel_rfl) (by kernel_rfl) (by kernel_rfl) (by decide) (fun _ _ _ h => h) h01 rfl hHeld (Or.inl ⟨by rfl, ?_⟩) ?_
      · (intro W9 hSw; obtain ⟨v1, v2⟩ := hSw; have hsl := HSL.out; go_simp; (try (first | with_reducible rfl | rfl | exact congrArg (fun z => Result.ok (Value.int IntKind.i64 z) W9) HWR.out | (rw [HWR.out]; done) | (rw [HMIN.out]; done))))
      try simp only [Act.put, List.setIfInBounds_toArray, List.set_cons_zero, List.set_cons_succ]
      refine wpG_oneB (i := 8) (o := ⟨some 25, _, _, _, _, _⟩) (by kernel_rfl) rfl rfl (fun K hK => ?_)
      go_simp
      (with_reducible refine C34.out.mono ?_); rintro e w1 ⟨rfl, rfl⟩
      refine hK.out _ _ HS.out (fun hHeld => ?_)
      clear hK K
      try simp only [Act.put, List.setIfInBounds_toArray, List.set_cons_zero, List.set_cons_succ]
      refine wpG_takeB (i := 9) (oi := ⟨some 6, _, _, _, _, _⟩) (v := .int .i64 t) rfl (by kernel_rfl) (by kernel_rfl) (by kernel_rfl) (by decide) (fun _ _ _ h => h) h01 rfl hHeld (Or.inl ⟨by rfl, ?_⟩) ?_
      · (intro W9 hSw; obtain ⟨v1, v2⟩ := hSw; have hsl := HSL.out; go_simp; (try (first | with_reducible rfl | rfl | exact congrArg (fun z => Result.ok (Value.int IntKind.i64 z) W9) HWR.out | (rw [HWR.out]; done) | (rw [HMIN.out]; done))))
      try simp only [Act.put, List.setIfInBounds_toArray, List.set_cons_zero, List.set_cons_succ]
      refine wpG_done (by kernel_rfl) ?_ _
      clear hHeld h01
      go_wp2_with fail
      exact bodyPost_ret (v := .tuple #[.int .i64 0, .int .i64 5]) (by simp [results, Try.results33, go_sem]) rfl ⟨rfl, below_drew (Below.refl _ _)⟩
    · have r1 : ¬ (t < 0 ∧ n < m) := by omega
      rw [if_neg r1, if_neg r1]
      have q1 : decide (t < 0) = true := by simpa using ht0
      have q2 : decide ((n : Int) < m) = false := by simpa using hnm
      have q3 : decide (n < m) = false := by simp; omega
      clear r1
      go_enter Try.func33, Try.ntmps33
      go_wp2_with fail
      refine wp_region_G (S0 := (FV b d n y)) (S1 := (FV b d n y)) (c := 99) (by kernel_rfl) ?_
      have hHeld := HS.out
      have h01 := (fun (W : World) (h : (FV b d n y) W) => h)
      refine wpG_takeB (i := 0) (oi := ⟨some 17, _, _, _, _, _⟩) (v := .slice A m c) rfl (by kernel_rfl) (by kernel_rfl) (by kernel_rfl) (by decide) (fun _ _ _ h => h) h01 rfl hHeld (Or.inl ⟨by rfl, ?_⟩) ?_
      · (intro W9 hSw; obtain ⟨v1, v2⟩ := hSw; have hsl := HSL.out; go_simp; (try (first | with_reducible rfl | rfl | exact congrArg (fun z => Result.ok (Value.int IntKind.i64 z) W9) HWR.out | (rw [HWR.out]; done) | (rw [HMIN.out]; done))))
      try simp only [Act.put, List.setIfInBounds_toArray, List.set_cons_zero, List.set_cons_succ]
      refine wpG_takeB (i := 1) (oi := ⟨some 18, _, _, _, _, _⟩) (v := .slice A m c) rfl (by kernel_rfl) (by kernel_rfl) (by kernel_rfl) (by decide) (fun _ _ _ h => h) h01 rfl hHeld (Or.inl ⟨by rfl, ?_⟩) ?_
      · (intro W9 hSw; obtain ⟨v1, v2⟩ := hSw; have hsl := HSL.out; go_simp; (try (first | with_reducible rfl | rfl | exact congrArg (fun z => Result.ok (Value.int IntKind.i64 z) W9) HWR.out | (rw [HWR.out]; done) | (rw [HMIN.out]; done))))
      try simp only [Act.put, List.setIfInBounds_toArray, List.set_cons_zero, List.set_cons_succ]
      refine wpG_takeB (i := 2) (oi := ⟨some 19, _, _, _, _, _⟩) (v := .int .i64 (m : Int)) rfl (by kernel_rfl) (by kernel_rfl) (by kernel_rfl) (by decide) (fun _ _ _ h => h) h01 rfl hHeld (Or.inl ⟨by rfl, ?_⟩) ?_
      · (intro W9 hSw; obtain ⟨v1, v2⟩ := hSw; have hsl := HSL.out; go_simp; (try (first | with_reducible rfl | rfl | exact congrArg (fun z => Result.ok (Value.int IntKind.i64 z) W9) HWR.out | (rw [HWR.out]; done) | (rw [HMIN.out]; done))))
      try simp only [Act.put, List.setIfInBounds_toArray, List.set_cons_zero, List.set_cons_succ]
      refine wpG_takeB (i := 3) (oi := ⟨some 20, _, _, _, _, _⟩) (v := .int .i64 (n : Int)) rfl (by kernel_rfl) (by kernel_rfl) (by kernel_rfl) (by decide) (fun _ _ _ h => h) h01 rfl hHeld (Or.inl ⟨by rfl, ?_⟩) ?_
      · (intro W9 hSw; obtain ⟨v1, v2⟩ := hSw; have hsl := HSL.out; go_simp; (try (first | with_reducible rfl | rfl | exact congrArg (fun z => Result.ok (Value.int IntKind.i64 z) W9) HWR.out | (rw [HWR.out]; done) | (rw [HMIN.out]; done))))
      try simp only [Act.put, List.setIfInBounds_toArray, List.set_cons_zero, List.set_cons_succ]
      refine wpG_takeB (i := 4) (oi := ⟨some 21, _, _, _, _, _⟩) (v := .int .i64 ((n : Int) + 1)) rfl (by kernel_rfl) (by kernel_rfl) (by kernel_rfl) (by decide) (fun _ _ _ h => h) h01 rfl hHeld (Or.inl ⟨by rfl, ?_⟩) ?_
      · (intro W9 hSw; obtain ⟨v1, v2⟩ := hSw; have hsl := HSL.out; go_simp; (try (first | with_reducible rfl | rfl | exact congrArg (fun z => Result.ok (Value.int IntKind.i64 z) W9) HWR.out | (rw [HWR.out]; done) | (rw [HMIN.out]; done))))
      try simp only [Act.put, List.setIfInBounds_toArray, List.set_cons_zero, List.set_cons_succ]
      refine wpG_takeB (i := 5) (oi := ⟨some 22, _, _, _, _, _⟩) (v := .int .i64 (q : Int)) rfl (by kernel_rfl) (by kernel_rfl) (by kernel_rfl) (by decide) (fun _ _ _ h => h) h01 rfl hHeld (Or.inl ⟨by rfl, ?_⟩) ?_
      · (intro W9 hSw; obtain ⟨v1, v2⟩ := hSw; have hsl := HSL.out; go_simp; (try (first | with_reducible rfl | rfl | exact congrArg (fun z => Result.ok (Value.int IntKind.i64 z) W9) HWR.out | (rw [HWR.out]; done) | (rw [HMIN.out]; done))))
      try simp only [Act.put, List.setIfInBounds_toArray, List.set_cons_zero, List.set_cons_succ]
      refine wpG_takeB (i := 6) (oi := ⟨some 23, _, _, _, _, _⟩) (v := (.slice A' q c')) rfl (by kernel_rfl) (by kernel_rfl) (by kernel_rfl) (by decide) (fun _ _ _ h => h) h01 rfl hHeld (Or.inl ⟨by rfl, ?_⟩) ?_
      · (intro W9 hSw; obtain ⟨v1, v2⟩ := hSw; have hsl := HSL.out; go_simp; (try (first | with_reducible rfl | rfl | exact congrArg (fun z => Result.ok (Value.int IntKind.i64 z) W9) HWR.out | (rw [HWR.out]; done) | (rw [HMIN.out]; done))))
      try simp only [Act.put, List.setIfInBounds_toArray, List.set_cons_zero, List.set_cons_succ]
      refine wpG_takeB (i := 7) (oi := ⟨some 24, _, _, _, _, _⟩) (v := .int .u8 y) rfl (by kernel_rfl) (by kernel_rfl) (by kernel_rfl) (by decide) (fun _ _ _ h => h) h01 rfl hHeld (Or.inl ⟨by rfl, ?_⟩) ?_
      · (intro W9 hSw; obtain ⟨v1, v2⟩ := hSw; have hsl := HSL.out; go_simp; (try (first | with_reducible rfl | rfl | exact congrArg (fun z => Result.ok (Value.int IntKind.i64 z) W9) HWR.out | (rw [HWR.out]; done) | (rw [HMIN.out]; done))))
      try simp only [Act.put, List.setIfInBounds_toArray, List.set_cons_zero, List.set_cons_succ]
      refine wpG_oneB (i := 8) (o := ⟨some 25, _, _, _, _, _⟩) (by kernel_rfl) rfl rfl (fun K hK => ?_)
      go_simp
      (with_reducible refine C34.out.mono ?_); rintro e w1 ⟨rfl, rfl⟩
      refine hK.out _ _ HS.out (fun hHeld => ?_)
      clear hK K
      try simp only [Act.put, List.setIfInBounds_toArray, List.set_cons_zero, List.set_cons_succ]
      refine wpG_takeB (i := 9) (oi := ⟨some 6, _, _, _, _, _⟩) (v := .int .i64 t) rfl (by kernel_rfl) (by kernel_rfl) (by kernel_rfl) (by decide) (fun _ _ _ h => h) h01 rfl hHeld (Or.inl ⟨by rfl, ?_⟩) ?_
      · (intro W9 hSw; obtain ⟨v1, v2⟩ := hSw; have hsl := HSL.out; go_simp; (try (first | with_reducible rfl | rfl | exact congrArg (fun z => Result.ok (Value.int IntKind.i64 z) W9) HWR.out | (rw [HWR.out]; done) | (rw [HMIN.out]; done))))
      try simp only [Act.put, List.setIfInBounds_toArray, List.set_cons_zero, List.set_cons_succ]
      refine wpG_done (by kernel_rfl) ?_ _
      clear hHeld h01
      go_wp2_with fail
      exact bodyPost_ret (v := .tuple #[.int .i64 t, .int .i64 0]) (by simp [results, Try.results33, go_sem]) rfl ⟨rfl, below_drew (Below.refl _ _)⟩
  · have r1 : ¬ (t < 0 ∧ n < m) := by omega
    rw [if_neg r1, if_neg r1]
    have q1 : decide (t < 0) = false := by simpa using ht0
    clear r1
    skip
    skip
    go_enter Try.func33, Try.ntmps33
    go_wp2_with fail
    refine wp_region_G (S0 := (FV b d n y)) (S1 := (FV b d n y)) (c := 99) (by kernel_rfl) ?_
    have hHeld := HS.out
    have h01 := (fun (W : World) (h : (FV b d n y) W) => h)
    refine wpG_takeB (i := 0) (oi := ⟨some 17, _, _, _, _, _⟩) (v := .slice A m c) rfl (by kernel_rfl) (by kernel_rfl) (by kernel_rfl) (by decide) (fun _ _ _ h => h) h01 rfl hHeld (Or.inl ⟨by rfl, ?_⟩) ?_
    · (intro W9 hSw; obtain ⟨v1, v2⟩ := hSw; have hsl := HSL.out; go_simp; (try (first | with_reducible rfl | rfl | exact congrArg (fun z => Result.ok (Value.int IntKind.i64 z) W9) HWR.out | (rw [HWR.out]; done) | (rw [HMIN.out]; done))))
    try simp only [Act.put, List.setIfInBounds_toArray, List.set_cons_zero, List.set_cons_succ]
    refine wpG_takeB (i := 1) (oi := ⟨some 18, _, _, _, _, _⟩) (v := .slice A m c) rfl (by kernel_rfl) (by kernel_rfl) (by kernel_rfl) (by decide) (fun _ _ _ h => h) h01 rfl hHeld (Or.inl ⟨by rfl, ?_⟩) ?_
    · (intro W9 hSw; obtain ⟨v1, v2⟩ := hSw; have hsl := HSL.out; go_simp; (try (first | with_reducible rfl | rfl | exact congrArg (fun z => Result.ok (Value.int IntKind.i64 z) W9) HWR.out | (rw [HWR.out]; done) | (rw [HMIN.out]; done))))
    try simp only [Act.put, List.setIfInBounds_toArray, List.set_cons_zero, List.set_cons_succ]
    refine wpG_takeB (i := 2) (oi := ⟨some 19, _, _, _, _, _⟩) (v := .int .i64 (m : Int)) rfl (by kernel_rfl) (by kernel_rfl) (by kernel_rfl) (by decide) (fun _ _ _ h => h) h01 rfl hHeld (Or.inl ⟨by rfl, ?_⟩) ?_
    · (intro W9 hSw; obtain ⟨v1, v2⟩ := hSw; have hsl := HSL.out; go_simp; (try (first | with_reducible rfl | rfl | exact congrArg (fun z => Result.ok (Value.int IntKind.i64 z) W9) HWR.out | (rw [HWR.out]; done) | (rw [HMIN.out]; done))))
    try simp only [Act.put, List.setIfInBounds_toArray, List.set_cons_zero, List.set_cons_succ]
    refine wpG_takeB (i := 3) (oi := ⟨some 20, _, _, _, _, _⟩) (v := .int .i64 (n : Int)) rfl (by kernel_rfl) (by kernel_rfl) (by kernel_rfl) (by decide) (fun _ _ _ h => h) h01 rfl hHeld (Or.inl ⟨by rfl, ?_⟩) ?_
    · (intro W9 hSw; obtain ⟨v1, v2⟩ := hSw; have hsl := HSL.out; go_simp; (try (first | with_reducible rfl | rfl | exact congrArg (fun z => Result.ok (Value.int IntKind.i64 z) W9) HWR.out | (rw [HWR.out]; done) | (rw [HMIN.out]; done))))
    try simp only [Act.put, List.setIfInBounds_toArray, List.set_cons_zero, List.set_cons_succ]
    refine wpG_takeB (i := 4) (oi := ⟨some 21, _, _, _, _, _⟩) (v := .int .i64 ((n : Int) + 1)) rfl (by kernel_rfl) (by kernel_rfl) (by kernel_rfl) (by decide) (fun _ _ _ h => h) h01 rfl hHeld (Or.inl ⟨by rfl, ?_⟩) ?_
    · (intro W9 hSw; obtain ⟨v1, v2⟩ := hSw; have hsl := HSL.out; go_simp; (try (first | with_reducible rfl | rfl | exact congrArg (fun z => Result.ok (Value.int IntKind.i64 z) W9) HWR.out | (rw [HWR.out]; done) | (rw [HMIN.out]; done))))
    try simp only [Act.put, List.setIfInBounds_toArray, List.set_cons_zero, List.set_cons_succ]
    refine wpG_takeB (i := 5) (oi := ⟨some 22, _, _, _, _, _⟩) (v := .int .i64 (q : Int)) rfl (by kernel_rfl) (by kernel_rfl) (by kernel_rfl) (by decide) (fun _ _ _ h => h) h01 rfl hHeld (Or.inl ⟨by rfl, ?_⟩) ?_
    · (intro W9 hSw; obtain ⟨v1, v2⟩ := hSw; have hsl := HSL.out; go_simp; (try (first | with_reducible rfl | rfl | exact congrArg (fun z => Result.ok (Value.int IntKind.i64 z) W9) HWR.out | (rw [HWR.out]; done) | (rw [HMIN.out]; done))))
    try simp only [Act.put, List.setIfInBounds_toArray, List.set_cons_zero, List.set_cons_succ]
    refine wpG_takeB (i := 6) (oi := ⟨some 23, _, _, _, _, _⟩) (v := (.slice A' q c')) rfl (by kernel_rfl) (by kernel_rfl) (by kernel_rfl) (by decide) (fun _ _ _ h => h) h01 rfl hHeld (Or.inl ⟨by rfl, ?_⟩) ?_
    · (intro W9 hSw; obtain ⟨v1, v2⟩ := hSw; have hsl := HSL.out; go_simp; (try (first | with_reducible rfl | rfl | exact congrArg (fun z => Result.ok (Value.int IntKind.i64 z) W9) HWR.out | (rw [HWR.out]; done) | (rw [HMIN.out]; done))))
    try simp only [Act.put, List.setIfInBounds_toArray, List.set_cons_zero, List.set_cons_succ]
    refine wpG_takeB (i := 7) (oi := ⟨some 24, _, _, _, _, _⟩) (v := .int .u8 y) rfl (by kernel_rfl) (by kernel_rfl) (by kernel_rfl) (by decide) (fun _ _ _ h => h) h01 rfl hHeld (Or.inl ⟨by rfl, ?_⟩) ?_
    · (intro W9 hSw; obtain ⟨v1, v2⟩ := hSw; have hsl := HSL.out; go_simp; (try (first | with_reducible rfl | rfl | exact congrArg (fun z => Result.ok (Value.int IntKind.i64 z) W9) HWR.out | (rw [HWR.out]; done) | (rw [HMIN.out]; done))))
    try simp only [Act.put, List.setIfInBounds_toArray, List.set_cons_zero, List.set_cons_succ]
    refine wpG_oneB (i := 8) (o := ⟨some 25, _, _, _, _, _⟩) (by kernel_rfl) rfl rfl (fun K hK => ?_)
    go_simp
    (with_reducible refine C34.out.mono ?_); rintro e w1 ⟨rfl, rfl⟩
    refine hK.out _ _ HS.out (fun hHeld => ?_)
    clear hK K
    try simp only [Act.put, List.setIfInBounds_toArray, List.set_cons_zero, List.set_cons_succ]
    refine wpG_takeB (i := 9) (oi := ⟨some 6, _, _, _, _, _⟩) (v := .int .i64 t) rfl (by kernel_rfl) (by kernel_rfl) (by kernel_rfl) (by decide) (fun _ _ _ h => h) h01 rfl hHeld (Or.inl ⟨by rfl, ?_⟩) ?_
    · (intro W9 hSw; obtain ⟨v1, v2⟩ := hSw; have hsl := HSL.out; go_simp; (try (first | with_reducible rfl | rfl | exact congrArg (fun z => Result.ok (Value.int IntKind.i64 z) W9) HWR.out | (rw [HWR.out]; done) | (rw [HMIN.out]; done))))
    try simp only [Act.put, List.setIfInBounds_toArray, List.set_cons_zero, List.set_cons_succ]
    refine wpG_done (by kernel_rfl) ?_ _
    clear hHeld h01
    go_wp2_with fail
    exact bodyPost_ret (v := .tuple #[.int .i64 t, .int .i64 0]) (by simp [results, Try.results33, go_sem]) rfl ⟨rfl, below_drew (Below.refl _ _)⟩
end Go.Proofs.Ythkpmbgclllnjaa
