/- The contract of (*Writer).write where all conditions hold. -/
import Derived.Test.YthgbnpafhkhjpaaWr
namespace Go.Proofs.Ythgbnpafhkhjpaa
open Go.RowKit
attribute [local go_sem] wide_fn wide_depth wide_fn_in wide_depth_in Oper.semAt_some
set_option linter.unusedVariables false
set_option linter.unusedSimpArgs false

/-- What an iterator may do between rounds: it lays blocks, and turns its own that are no cells. -/
structure Still (b : Nat) (X Y : World) : Prop where
  os : Y.os = X.os
  tape : Y.tape = X.tape
  output : Y.output = X.output
  size : X.heap.size ≤ Y.heap.size
  low : ∀ k, k < b → Y.heap[k]? = X.heap[k]?
  cells : ∀ k t cs, Blk X k t cs → Blk Y k t cs
theorem Still.refl (b : Nat) (X : World) : Still b X X := ⟨rfl, rfl, rfl, Nat.le_refl _, fun _ _ => rfl, fun _ _ _ h => h⟩
theorem Still.trans {b : Nat} {X Y Z : World} (h : Still b X Y) (k : Still b Y Z) : Still b X Z := ⟨k.os.trans h.os, k.tape.trans h.tape, k.output.trans h.output, Nat.le_trans h.size k.size, fun i hi => (k.low i hi).trans (h.low i hi), fun i t cs hi => k.cells i t cs (h.cells i t cs hi)⟩
theorem Still.mono {b b' : Nat} {X Y : World} (h : Still b X Y) (hb : b' ≤ b) : Still b' X Y := ⟨h.os, h.tape, h.output, h.size, fun i hi => h.low i (Nat.lt_of_lt_of_le hi hb), h.cells⟩
theorem Still.below {b : Nat} {X Y : World} (h : Below X.heap.size X Y) (hb : b ≤ X.heap.size) : Still b X Y := ⟨h.os, h.tape, h.output, h.size, fun i hi => h.block i (Nat.lt_of_lt_of_le hi hb), fun i t cs hi => hi.below h hi.lt⟩
theorem Still.put {b k : Nat} {X : World} {o o' : Obj} (hX : X.heap[k]? = some o) (ho : o.isCells = false) (hk : b ≤ k) : Still b X (X.putObj k o') :=
  ⟨rfl, rfl, rfl, by rw [size_putObj]; exact Nat.le_refl _, fun i hi => World.putObj_heap_other (by omega), fun i t cs hi => hi.calm hX ho⟩
theorem Iter.weaken {F : Fence} {n : Nat} {P : Program} {g : Nat} {lb : Array Value} {At : Nat → Array Value → World → Prop} {Kp Kp' : Array Value → World → World → Prop} {b N : Nat} {W : World}
    (h : Iter F n P g lb At Kp (fun X Y => X = Y) N W) (hk : ∀ vs X Y, Kp' vs X Y → Kp vs X Y) : Iter F n P g lb At Kp' (Still b) N W := by
  intro l J Jx hJ hJx hY h0
  refine h l J Jx (fun i X Y h1 h2 => hJ i X Y h1 (h2 ▸ Still.refl b X)) (fun i X Y h1 h2 => hJx i X Y h1 (h2 ▸ Still.refl b X)) (fun i hi vs W1 h1 h2 => (hY i hi vs W1 h1 h2).mono ?_) h0
  rintro e w' ⟨k, (⟨a, b, c⟩ | h)⟩
  · exact ⟨k, .inl ⟨a, b, hk _ _ _ c⟩⟩
  · exact ⟨k, .inr h⟩

theorem Iter.mono_kp {F : Fence} {n : Nat} {P : Program} {g : Nat} {lb : Array Value} {At : Nat → Array Value → World → Prop} {Kp Kp' : Array Value → World → World → Prop} {Step : World → World → Prop} {N : Nat} {W : World}
    (h : Iter F n P g lb At Kp Step N W) (hk : ∀ vs X Y, Kp' vs X Y → Kp vs X Y) : Iter F n P g lb At Kp' Step N W := by
  intro l J Jx hJ hJx hY h0
  refine h l J Jx hJ hJx (fun i hi vs W1 h1 h2 => (hY i hi vs W1 h1 h2).mono ?_) h0
  rintro e w' ⟨k, (⟨a, b, c⟩ | h)⟩
  · exact ⟨k, .inl ⟨a, b, hk _ _ _ c⟩⟩
  · exact ⟨k, .inr h⟩

/-- A new value's block is the old one's or new. -/
def Hat (v v' : Value) (w : World) : Prop := v'.ownBlock = v.ownBlock ∨ ∀ k, v'.ownBlock = some k → w.heap.size ≤ k
theorem Hat.refl (v : Value) (w : World) : Hat v v w := .inl rfl
theorem Hat.trans {v v1 v2 : Value} {w w1 : World} (h : Hat v v1 w) (hs : w.heap.size ≤ w1.heap.size) (k : Hat v1 v2 w1) : Hat v v2 w := by
  rcases k with k | k
  · rcases h with h | h
    · exact .inl (k.trans h)
    · exact .inr fun b hb => h b (k ▸ hb)
  · exact .inr fun b hb => Nat.le_trans hs (k b hb)
theorem Two.trans {g : Nat} {v v1 : Value} {w w1 w2 : World} (h : Two g v w w1) (hh : Hat v v1 w) (k : Two g v1 w1 w2) : Two g v w w2 :=
  ⟨k.os.trans h.os, k.tape.trans h.tape, k.output.trans h.output, Nat.le_trans h.size k.size, fun b hb h1 h2 => (k.block b (Nat.lt_of_lt_of_le hb h.size) h1 (by
    rcases hh with hh | hh
    · rw [hh]; exact h2
    · intro e; exact absurd hb (Nat.not_lt.2 (hh b e)))).trans (h.block b hb h1 h2)⟩
theorem Two.below {g : Nat} {v : Value} {w w1 w2 : World} (h : Two g v w w1) (k : Below w.heap.size w1 w2) : Two g v w w2 :=
  ⟨k.os.trans h.os, k.tape.trans h.tape, k.output.trans h.output, Nat.le_trans h.size k.size, fun b hb h1 h2 => (k.block b hb).trans (h.block b hb h1 h2)⟩
theorem Two.of_below {g : Nat} {v : Value} {w w1 w2 : World} (h : Below w.heap.size w w1) (k : Two g v w1 w2) : Two g v w w2 :=
  ⟨k.os.trans h.os, k.tape.trans h.tape, k.output.trans h.output, Nat.le_trans h.size k.size, fun b hb h1 h2 => (k.block b (Nat.lt_of_lt_of_le hb h.size) h1 h2).trans (h.block b hb)⟩
theorem Two.calm {g k : Nat} {v : Value} {w X : World} (h : Two g v w X) (hk : w.heap.size ≤ k) (o : Obj) : Two g v w (X.putObj k o) :=
  ⟨h.os, h.tape, h.output, by rw [size_putObj]; exact h.size, fun b hb h1 h2 => (World.putObj_heap_other (by omega)).trans (h.block b hb h1 h2)⟩
theorem Two.keeps {g t n B : Nat} {v : Value} {w w' : World} {cs : Array Value} {xs : List Value} (h : Two g v w w') (hg : Blk w g t cs) (ho : w.ownsRow B 5 1 v n xs) (b : Nat) : KeepsFrom b w w' := by
  refine ⟨h.size, fun k o _ hk hc => ?_⟩
  rw [h.block k (Array.getElem?_eq_some_iff.1 hk).1 ?_ ?_]
  · exact hk
  · rintro rfl
    unfold Blk at hg
    rw [hg] at hk
    cases hk
    cases hc
  · intro e
    rcases ho.2 with ⟨rfl, _⟩ | ⟨g0, cap, cur, rfl, hg0, hh, _⟩
    · cases e
    · simp [Value.ownBlock] at e
      subst e
      rw [hh] at hk
      cases hk
      cases hc

/-- A writer's state. -/
structure WS (w : World) (B g : Nat) (t : TypeId) (rest : List Value) (v : Value) (bs : List Bool) : Prop where
  blk : Blk w g t ⟨v :: .int .i64 bs.length :: rest⟩
  own : w.ownsRow B 5 1 v ((bs.length + 7) / 8) ((pack bs).map u8)
  base : B ≤ w.heap.size
theorem WS.calm {w : World} {B g k : Nat} {t : TypeId} {rest : List Value} {v : Value} {bs : List Bool} {o o' : Obj} (h : WS w B g t rest v bs) (hX : w.heap[k]? = some o) (ho : o.isCells = false) : WS (w.putObj k o') B g t rest v bs :=
  ⟨h.blk.calm hX ho, own_calm h.own hX ho, by rw [size_putObj]; exact h.base⟩
theorem WS.below {w w' : World} {B g b : Nat} {t : TypeId} {rest : List Value} {v : Value} {bs : List Bool} (h : WS w B g t rest v bs) (hb : Below b w w') (hs : w.heap.size ≤ b) : WS w' B g t rest v bs :=
  ⟨h.blk.below hb (Nat.lt_of_lt_of_le h.blk.lt hs), own_keeps h.own fun k hk => hb.block k (Nat.lt_of_lt_of_le (own_lt h.own k hk) hs), Nat.le_trans h.base hb.size⟩
theorem WS.still {w w' : World} {B g b : Nat} {t : TypeId} {rest : List Value} {v : Value} {bs : List Bool} (h : WS w B g t rest v bs) (hs : Still b w w') : WS w' B g t rest v bs := by
  refine ⟨hs.cells _ _ _ h.blk, own_keeps h.own fun k hk => ?_, Nat.le_trans h.base hs.size⟩
  rcases h.own.2 with ⟨rfl, _⟩ | ⟨g0, cap, cur, rfl, hg0, hh, _⟩
  · cases hk
  · simp [Value.ownBlock] at hk
    subst hk
    exact (hs.cells _ _ _ hh).trans hh.symm
theorem WS.two {w w' : World} {B g g2 : Nat} {t : TypeId} {rest : List Value} {v v2 : Value} {bs : List Bool} (h : WS w B g t rest v bs) (hb : Two g2 v2 w w') (hne : g ≠ g2) (h1 : v2.ownBlock ≠ some g) (h2 : v.ownBlock ≠ some g2) (h3 : ∀ k, v.ownBlock = some k → v2.ownBlock ≠ some k) : WS w' B g t rest v bs :=
  ⟨(hb.block g h.blk.lt hne h1).trans h.blk, own_keeps h.own fun k hk => hb.block k (own_lt h.own k hk) (by rintro rfl; exact h2 hk) (h3 k hk), Nat.le_trans h.base hb.size⟩

theorem add_ws (B g : Nat) (t : TypeId) (v : Value) (rest : List Value) (bs : List Bool) (b : Bool) (w : World) (h : WS w B g t rest v bs) (ht : 5 ≠ t) (hm : bs.length ≤ 8388608) :
    Calls Try.prog 63 #[.pointer (some ⟨g, 0, none⟩), .bool b] w fun e w' => ∃ r v', e = .returned r ∧ WS w' B g t rest v' (bs ++ [b]) ∧ Two g v w w' ∧ Hat v v' w := by
  refine (add_any B g t v bs.length rest (pack bs) b w h.blk h.own ht hm h.base).mono ?_
  rintro e w' ⟨r, v', rfl, h1, h2, h3, h4⟩
  rw [push_pack] at h2
  exact ⟨r, v', rfl, ⟨by simpa using h1, by simpa using h2, Nat.le_trans h.base h3.size⟩, h3, h4⟩

theorem firstE_end : ∀ (cs : List (Bool × Int)), firstE cs = 0 → firstE (cs ++ [(true, 7)]) = 0
  | [], _ => rfl
  | (true, _) :: cs, h => firstE_end cs h
  | (false, e) :: cs, h => h
theorem blk_type {w : World} {g : Nat} {t t' : TypeId} {cs cs' : Array Value} (h : Blk w g t cs) (h' : Blk w g t' cs') : t = t' := by
  unfold Blk at h h'
  rw [h] at h'
  simp at h'
  exact h'.2
/-- What a round of a writer's loop may turn. -/
structure WKp (w : World) (g : Nat) (v : Value) (b : Nat) (X Y : World) : Prop where
  low : ∀ k, k < w.heap.size → k ≠ g → v.ownBlock ≠ some k → Y.heap[k]? = X.heap[k]?
  keeps : KeepsFrom b X Y
  kept : ∀ k t cs, Blk X k t cs → t ≠ 5 → t ≠ 63 → Blk Y k t cs
theorem WKp.refl (w : World) (g : Nat) (v : Value) (b : Nat) (X : World) : WKp w g v b X X := ⟨fun _ _ _ _ => rfl, KeepsFrom.refl _ _, fun _ _ _ h _ _ => h⟩
theorem WKp.trans {w : World} {g : Nat} {v : Value} {b : Nat} {X Y Z : World} (h : WKp w g v b X Y) (k : WKp w g v b Y Z) : WKp w g v b X Z :=
  ⟨fun i h1 h2 h3 => (k.low i h1 h2 h3).trans (h.low i h1 h2 h3), h.keeps.trans k.keeps, fun i t cs h1 h2 h3 => k.kept i t cs (h.kept i t cs h1 h2 h3) h2 h3⟩
theorem WKp.calm {w : World} {g : Nat} {v : Value} {b k : Nat} {X Y : World} (h : WKp w g v b X Y) (hk : w.heap.size ≤ k) (hb : k < b) {o o' : Obj} (hY : Y.heap[k]? = some o) (ho : o.isCells = false) : WKp w g v b X (Y.putObj k o') :=
  ⟨fun i h1 h2 h3 => (World.putObj_heap_other (by omega)).trans (h.low i h1 h2 h3), ⟨by rw [size_putObj]; exact h.keeps.size, fun i ob hi hX hc => (World.putObj_heap_other (by omega)).trans (h.keeps.same i ob hi hX hc)⟩,
    fun i t cs h1 h2 h3 => (h.kept i t cs h1 h2 h3).calm hY ho⟩

set_option maxRecDepth 100000 in
set_option maxHeartbeats 1000000 in
theorem write_ok (B g : Nat) (v : Value) (bs : List Bool) (bit : Nat → Bool) (N gf : Nat) (lb : Array Value) (b n : Nat) (cs : List (Bool × Int)) (w : World) (hcs : CS w b 0 cs) (hn : cs.length = n) (h0 : 0 < n) (h1 : n ≤ 100)
    (hw : WS w B g 63 [.bool true] v bs) (hE : firstE cs = 0) (hN : bs.length + N ≤ 8388608)
    (eg : ∀ args w, (callFunc gf args).run Try.prog w = .ok (.enter gf args) w)
    (hIt : ∀ W, Below w.heap.size w W → Iter Fence.wide 99 Try.prog gf lb (fun i vs _ => vs = #[.bool (bit i)]) (fun _ X Y => WKp w g v W.heap.size X Y) (Still W.heap.size) N W) :
    Calls Try.prog 34 #[.pointer (some ⟨g, 0, none⟩), .func (.func gf) #[] lb, .int .i64 N, .slice (some ⟨b, 0, none⟩) n n] w fun e w' => e = .returned (.int .i64 0) ∧ ∃ v', WS w' B g 63 [.bool true] v' (bs ++ (List.range N).map bit) ∧ Two g v w w' ∧ Hat v v' w := by
  have hb1 := Lib.hid (show Below w.heap.size w (w.alloc (.cells #[.pointer (some ⟨g, 0, none⟩)] 23)) from (Below.refl _ w).alloc (Nat.le_refl _) _)
  have HWS := Lib.hid hw
  have HL := Lib.hid (wlen_some g v bs.length _ (hw.below hb1.out (Nat.le_refl _)).blk)
  have HCS := Lib.hid hcs
  have HN := Lib.hid hn
  obtain ⟨i0, hi0, hz0, hz1, hz2⟩ := info_parts' info72
  have HB := Lib.hid (show n < n + 1 ∧ n + 1 ≤ maxLen ∧ (n + 1) * 16 ≤ 140737488355328 by unfold maxLen; omega)
  have HN2 := Lib.hid (show n + 1 ≤ 1000 by omega)
  have HLE := Lib.hid (show (flatC cs).length = n * 2 by rw [flatC_length, hn])
  have HE := Lib.hid hE
  have HIT := Lib.hid hIt
  have HNN := Lib.hid hN
  obtain ⟨m, hm⟩ : ∃ m, bs.length = m := ⟨_, rfl⟩
  rw [hm] at HL hN
  have hq : decide ((N : Int) ≤ 8388608 - m) = true := by simp; omega
  have hm2 : (m : Int) ≤ 8388608 := by omega
  have hm0 : (0 : Int) ≤ m := by omega
  have HM := Lib.hid hm
  clear hcs hE hn h1 hw hIt hm hN
  refine (callsIn_wide (n := 100)).1 ?_
  refine callsIn_of_wp_marks Try.func34 rfl trivial ?_ rfl
  simp only [Try.ntmps34, List.size_toArray, List.length_cons, List.length_nil, Nat.reduceAdd, Nat.reduceSub, Array.replicate_succ, Array.replicate_zero, List.push_toArray, List.append_toArray, List.nil_append, List.cons_append]
  gi_wp2_with (first
    | (gi_at_call 13; (with_reducible refine (callsIn_wide.2 HL.out).mono ?_); rintro e w' ⟨rfl, rfl⟩)
    | (gi_at_builtin; go_must (refine wpListIn_append_grows _ rfl (.tmp 11) (.tmp 18) 95 rfl 72 i0 (.agg #[.bool false, .int .i64 0]) 2 16 Try.underlying95 hi0 hz0 hz1 hz2 rfl (by decide) (some ⟨b, 0, none⟩) n n (flatC cs) rfl (by intro e; cases e) HLE.out (flatC_cells ((HCS.out.keep hb1.out).keep ((Below.refl _ _).alloc (Nat.le_refl _) _))) ⟨w.heap.size + 1, 0, none⟩ 1 1 [.bool true, .int .i64 7] rfl rfl (two_cells1 _ _ _ _ _) (two_one _ _) HB.out.1 HB.out.2.1 HB.out.2.2 ?_; intro v2 w2 hown hgr; refine Hid.out ?_)))
  refine Lib.hid ?_
  obtain ⟨g2, cap2, rfl, hcs2⟩ := cs_of_own (cs := cs ++ [(true, 7)]) (by rw [flatC_append]; exact hown) (by simp [HN.out]) (by omega)
  have C := Lib.hid (first_any g2 0 (n + 1) cap2 (cs ++ [(true, 7)]) w2 (by simp [HN.out]) hcs2 HN2.out)
  have hb2 : Below w.heap.size w w2 := (hb1.out.alloc (by simp) _).grown hgr (by simp; omega) (by intro k hk; cases hk)
  have HB2 := Lib.hid hb2
  have HBX := Lib.hid ((((Blk.new w 23 #[.pointer (some ⟨g, 0, none⟩)]).alloc (.cells #[.bool true, .int .i64 7] 72)).grown hgr (by simp)))
  clear hgr hown hcs2 hb2
  rw [firstE_end _ HE.out] at C
  clear HE
  gi_wp2_with (first
    | (gi_at_call 62; (with_reducible refine (callsIn_wide.2 C.out).mono ?_); rintro e w' ⟨rfl, hb3⟩; have HB3 := Lib.hid (HB2.out.trans (hb3.mono HB2.out.size)); have HBY := Lib.hid (HBX.out.below hb3 HBX.out.lt); clear hb3))
  have hws := HWS.out.below HB3.out (Nat.le_refl _)
  have hbx := HBY.out
  have hb3 := HB3.out
  have hlt := hbx.lt
  have hit := HIT.out
  have hbl := HNN.out
  refine wpIn_iter (N := N) (At := fun i vs _ => vs = #[.bool (bit i)]) (Kp := fun _ X Y => WKp w g v (w'.heap.size + 2) X Y) (Step := Still (w'.heap.size + 2)) rfl (by omega) (gf := gf) (lb := lb) rfl trivial eg
    (fun W1 hb1 hz1 => hz1 ▸ hit W1 (hb3.trans (hb1.mono hb3.size)))
    (fun X Y hXY k hk hkX => hXY.low k (by omega))
    (fun vs X Y k o o' hk hY ho h => h.calm (by have := hb3.size; omega) (by omega) hY ho)
    (fun i vs X h => by rw [h]; rfl)
    (fun i W => ∃ v', WS W B g 63 [.bool true] v' (bs ++ (List.range i).map bit) ∧ Two g v w W ∧ Hat v v' w ∧ Blk W w.heap.size 23 #[.pointer (some ⟨g, 0, none⟩)])
    (fun c i W => False)
    ?hI ?hIx ?hIS (fun c i X Y h _ => h) ?h0
    (fun i vs X a' W => (∃ x0 x1 x2 x3 x5 x6 x7 x8 x9 x11 x12 x13 x14 x15 x16 x17 x18 x19 x20 x21 x22 x23 x24 x25 x26 x27 x28 x29 x30, a' = { tmps := #[x0, x1, x2, x3, .pointer (some ⟨w.heap.size, 0, none⟩), x5, x6, x7, x8, x9, .bool (bit i), x11, x12, x13, x14, x15, x16, x17, x18, x19, x20, x21, x22, x23, x24, x25, x26, x27, x28, x29, x30], defers := [] }) ∧ WKp w g v (w'.heap.size + 2) X W ∧ ∃ v', WS W B g 63 [.bool true] v' (bs ++ (List.range i).map bit) ∧ Two g v w W ∧ Hat v v' w ∧ Blk W w.heap.size 23 #[.pointer (some ⟨g, 0, none⟩)])
    ?hAx ?assign ?body ?done ?stop
  case hI => exact fun i X k o o' hk hX ho ⟨v', h1, h2, h3, h4⟩ => ⟨v', h1.calm hX ho, h2.calm (by have := hb3.size; omega) _, h3, h4.calm hX ho⟩
  case hIx => exact fun c i X k o o' hk hX ho h => h
  case hIS => exact fun i X Y ⟨v', h1, h2, h3, h4⟩ hs => ⟨v', h1.still hs, h2.below ⟨hs.os, hs.tape, hs.output, hs.size, fun k hk => hs.low k (by have := hb3.size; omega)⟩, h3, hs.cells _ _ _ h4⟩
  case h0 => exact fun W1 hb1 hz1 => ⟨v, by simpa using hws.below hb1 (Nat.le_refl _), (Two.refl g v w).below (hb3.trans (hb1.mono hb3.size)), Hat.refl _ _, hbx.below hb1 (by omega)⟩
  case hAx => exact fun i vs W0' a' X k o o' hk hX ho ⟨ha, h0, v', h1, h2, h3, h4⟩ => ⟨ha, h0.calm (by have := hb3.size; omega) (by omega) hX ho, v', h1.calm hX ho, h2.calm (by have := hb3.size; omega) _, h3, h4.calm hX ho⟩
  case assign =>
    rintro l i vs W K hl hi ⟨v', hI⟩ rfl hlt hK
    gi_wp2
    exact hK _ _ (KeepsFrom.refl _ _) ⟨⟨_, _, _, _, _, _, _, _, _, _, _, _, _, _, _, _, _, _, _, _, _, _, _, _, _, _, _, _, _, rfl⟩, WKp.refl _ _ _ _ _, v', hI⟩
  case body =>
    rintro l i vs X a' W hl hi hr ⟨⟨x0, x1, x2, x3, x5, x6, x7, x8, x9, x11, x12, x13, x14, x15, x16, x17, x18, x19, x20, x21, x22, x23, x24, x25, x26, x27, x28, x29, x30, rfl⟩, hkp, v', h1, h2, h3, h4⟩
    have e4 := h4.cell 0
    simp at e4
    have hlen : (bs ++ (List.range i).map bit).length ≤ 8388608 := by simp; omega
    have C63 := Lib.hid (add_ws B g 63 v' [.bool true] _ (bit i) W h1 (by decide) hlen)
    have H1 := Lib.hid h1
    have H2 := Lib.hid h2
    have H3 := Lib.hid h3
    have H4 := Lib.hid h4
    have HK := Lib.hid hkp
    clear h1 h2 h3 h4 hkp hlen hws hbx hit eg
    gi_wp2_with (first | (gi_at_call 63; (with_reducible refine (CallsIn.inRound _ (callsIn_wide.2 C63.out)).mono ?_); rintro e W5 ⟨r5, v5, rfl, k1, k2, k3⟩; have K1 := Lib.hid k1; have K2 := Lib.hid k2; have K3 := Lib.hid k3; clear k1 k2 k3))
    refine ⟨K2.out.keeps H1.out.blk H1.out.own _, HK.out.trans ⟨fun k hk k1 k2 => K2.out.block k (Nat.lt_of_lt_of_le hk H2.out.size) k1 ?_, K2.out.keeps H1.out.blk H1.out.own _, fun k t cs hk ht hg => (K2.out.block k hk.lt (fun e => hg (blk_type (e ▸ hk) H1.out.blk)) (own_not_blk H1.out.own hk (Ne.symm ht))).trans hk⟩, v5, ?_, H2.out.trans H3.out K2.out, H3.out.trans H2.out.size K3.out, ?_⟩
    · rcases H3.out with hh | hh
      · rw [hh]; exact k2
      · intro e; exact absurd hk (Nat.not_lt.2 (hh k e))
    · rw [range_snoc, ← List.append_assoc]; exact K1.out
    · exact (K2.out.block _ H4.out.lt (by have := HWS.out.blk.lt; omega) (own_not_blk H1.out.own H4.out (by decide))).trans H4.out
  case done =>
    rintro D W hD ⟨v', h1, h2, h3, h4⟩ hK
    gi_wp2
    refine ⟨by simp, .inl ⟨_, _, rfl, run_takeDeferred hK, ?_⟩⟩
    refine ⟨.int .i64 0, by simp [results, Try.results34, go_sem], rfl, v', h1.calm hK rfl, h2.calm (by have := hb3.size; omega) _, h3⟩
  case stop => intro D c' i W hD hi h; exact h.elim
end Go.Proofs.Ythgbnpafhkhjpaa
