/- Contracts of varint.Forms, varint.Append, varint.Len. -/
import Derived.Test.YtibkhjpjneoabaaVrForms
namespace Go.Proofs.Ytibkhjpjneoabaa.Vr
open Go.RowKit
attribute [local go_sem] wide_fn wide_depth wide_fn_in wide_depth_in Oper.semAt_some

set_option maxHeartbeats 400000 in
theorem forms_any (v : Int) (w : World) :
    Calls Try.prog 40 #[.int .i64 v] w fun e w' => e = .returned (.func (.func 56) #[] #[.pointer (some ⟨w.heap.size, 0, none⟩)]) ∧ w.alloc (.cells #[.int .i64 v] 3) = w' := by
  go_enter Try.func40, Try.ntmps40
  go_wp2
  go_ret
  exact ⟨rfl, rfl⟩

theorem fkp_calm (B Bv : Nat) (hBv : Bv < B) (vs : Array Value) (X : World) : Calm B (FKp Bv (B + 2) vs X) := by
  intro Y k o o' hk hY ho h
  refine ⟨by simpa [World.putObj] using h.1, ?_, fun i hi hiX hne => ?_⟩
  · rw [World.putObj_heap_other (by omega)]; exact h.2.1
  · rw [World.putObj_heap_other (by omega)]; exact h.2.2 i hi hiX hne

set_option maxRecDepth 100000 in
set_option maxHeartbeats 1000000 in
theorem append_yes (A : Option Addr) (n c v : Nat) (xs : List Value) (w : World) (hx : Holds w A n xs) (hn : n ≤ 60000) (hnc : n ≤ c) (hv : v < 34359738368) :
    Calls Try.prog 28 #[.slice A n c, .int .i64 v] w fun e w' => ∃ val, e = .returned (.tuple #[val, .int .i64 0]) ∧ w'.ownsRow w.heap.size 5 1 val (n + (k0 v + 1)) (xs ++ (formB v (k0 v)).map u8) ∧ Below w.heap.size w w' := by
  refine (callsIn_wide (n := 100)).1 ?_
  refine callsIn_of_wp_marks Try.func28 rfl trivial ?_ rfl
  simp only [Try.ntmps28, List.size_toArray, List.length_cons, List.length_nil, Nat.reduceAdd, Nat.reduceSub, Array.replicate_succ, Array.replicate_zero, List.push_toArray, List.append_toArray, List.nil_append, List.cons_append]
  gi_wp2_with (first | (gi_at_call 40; (with_reducible refine (callsIn_wide.2 (forms_any _ _)).mono ?_); rintro e w' ⟨rfl, rfl⟩))
  obtain ⟨W0, hW0⟩ : ∃ W0, ((((w.alloc (.cells #[.slice A n c] 28)).alloc (.cells #[.slice none 0 0] 28)).alloc (.cells #[.int .i64 0] 29)).alloc (.cells #[.int .i64 v] 3)) = W0 := ⟨_, rfl⟩
  rw [hW0]
  have hz : W0.heap.size = w.heap.size + 4 := by rw [← hW0]; simp
  have b0 : Blk W0 w.heap.size 28 #[.slice A n c] := by rw [← hW0]; exact (((Blk.new w _ _).alloc _).alloc _).alloc _
  have b1 : Blk W0 (w.heap.size + 1) 28 #[.slice none 0 0] := by rw [← hW0]; have := ((Blk.new (w.alloc (.cells #[.slice A n c] 28)) 28 #[.slice none 0 0]).alloc (.cells #[.int .i64 0] 29)).alloc (.cells #[.int .i64 v] 3); simpa using this
  have b2 : Blk W0 (w.heap.size + 2) 29 #[.int .i64 0] := by rw [← hW0]; have := (Blk.new ((w.alloc (.cells #[.slice A n c] 28)).alloc (.cells #[.slice none 0 0] 28)) 29 #[.int .i64 0]).alloc (.cells #[.int .i64 v] 3); simpa using this
  have b3 : Blk W0 (w.heap.size + 3) 3 #[.int .i64 v] := by rw [← hW0]; have := Blk.new (((w.alloc (.cells #[.slice A n c] 28)).alloc (.cells #[.slice none 0 0] 28)).alloc (.cells #[.int .i64 0] 29)) 3 #[.int .i64 v]; simpa using this
  have hb : Below w.heap.size w W0 := by rw [← hW0]; exact ((((Below.refl _ w).alloc (Nat.le_refl _) _).alloc (by simp) _).alloc (by simp; omega) _).alloc (by simp; omega) _
  clear hW0
  have hk4 := k0_le v
  refine wpIn_iter (N := 5 - k0 v) (At := FAt (W0.heap.size + 2) v) (Kp := FKp (w.heap.size + 3) (W0.heap.size + 2)) (Step := Below (W0.heap.size + 2)) rfl (by omega) (gf := 56) (lb := #[.pointer (some ⟨w.heap.size + 3, 0, none⟩)]) rfl trivial (enters_of Try.func56 (by kernel_rfl) rfl)
    (fun W1 hb1 hz1 => hz1 ▸ forms_iter 99 W1 (w.heap.size + 3) v hv (b3.below hb1 (by omega)))
    (fun X Y hXY k hk hkX => hXY.block k (by omega))
    (fun vs X => fkp_calm W0.heap.size (w.heap.size + 3) (by omega) vs X)
    (fun i vs X ⟨val, h, _⟩ => by rw [h]; rfl)
    (fun i W => i = 0 ∧ Below w.heap.size w W ∧ Blk W w.heap.size 28 #[.slice A n c] ∧ Blk W (w.heap.size + 1) 28 #[.slice none 0 0] ∧ Blk W (w.heap.size + 2) 29 #[.int .i64 0] ∧ W0.heap.size ≤ W.heap.size)
    (fun c i W => c = .ret ∧ ∃ val, Blk W (w.heap.size + 1) 28 #[val] ∧ Blk W (w.heap.size + 2) 29 #[.int .i64 0] ∧ W.ownsRow (w.heap.size + 6) 5 1 val (n + (k0 v + 1)) (xs ++ (formB v (k0 v)).map u8) ∧ Below w.heap.size w W)
    ?hI ?hIx ?hIS ?h0
    (fun i vs X a' W => (∃ val, vs = #[val] ∧ a' = { tmps := #[.slice A n c, .int .i64 v, .pointer (some ⟨w.heap.size, 0, none⟩), undef, .pointer (some ⟨w.heap.size + 1, 0, none⟩), .pointer (some ⟨w.heap.size + 1 + 1, 0, none⟩), val, .int .i64 v, .func (.func 56) #[] #[.pointer (some ⟨w.heap.size + 1 + 1 + 1, 0, none⟩)], val, undef, undef, undef, undef, undef, undef, undef, undef], defers := [] }) ∧ i = 0 ∧ Below w.heap.size w W ∧ Blk W w.heap.size 28 #[.slice A n c] ∧ Blk W (w.heap.size + 1) 28 #[.slice none 0 0] ∧ Blk W (w.heap.size + 2) 29 #[.int .i64 0] ∧ W0.heap.size ≤ W.heap.size ∧ FAt (W0.heap.size + 2) v i vs W)
    ?hAx ?assign ?body ?done ?stop
  case hI => exact fun i X k o o' hk hX ho h => ⟨h.1, below_calm h.2.1 (by omega) hX, h.2.2.1.calm hX ho, h.2.2.2.1.calm hX ho, h.2.2.2.2.1.calm hX ho, by rw [size_putObj]; exact h.2.2.2.2.2⟩
  case hIx => exact fun c i X k o o' hk hX ho ⟨h0, val, h1, h2, h3, h4⟩ => ⟨h0, val, h1.calm hX ho, h2.calm hX ho, own_calm h3 hX ho, below_calm h4 (by omega) hX⟩
  case hIS => exact fun i X Y h hs => ⟨h.1, h.2.1.trans (hs.mono (by omega)), h.2.2.1.below hs (by omega), h.2.2.2.1.below hs (by omega), h.2.2.2.2.1.below hs (by omega), Nat.le_trans h.2.2.2.2.2 hs.size⟩
  case h0 => exact fun W1 hb1 hz1 => ⟨rfl, hb.trans (hb1.mono (by omega)), b0.below hb1 (by omega), b1.below hb1 (by omega), b2.below hb1 (by omega), by omega⟩
  case hAx => exact fun i vs W0' a' X k o o' hk hX ho ⟨e, h⟩ => ⟨e, h.1, below_calm h.2.1 (by omega) hX, h.2.2.1.calm hX ho, h.2.2.2.1.calm hX ho, h.2.2.2.2.1.calm hX ho, by rw [size_putObj]; exact h.2.2.2.2.2.1, by
      obtain ⟨val, hv, hown⟩ := h.2.2.2.2.2.2
      exact ⟨val, hv, own_calm hown hX ho⟩⟩
  case assign =>
    intro l i vs W K hl hi hI hat hlt hK
    obtain ⟨val, rfl, hown⟩ := hat
    gi_wp2
    exact hK _ _ (KeepsFrom.refl _ _) ⟨⟨val, rfl, rfl⟩, hI.1, hI.2.1, hI.2.2.1, hI.2.2.2.1, hI.2.2.2.2.1, hI.2.2.2.2.2, val, rfl, hown⟩
  case body =>
    rintro l i vs X a' W hl hi hr ⟨⟨val, rfl, rfl⟩, rfl, hbW, c0, c1, c2, hsz, val', hvv, hown⟩
    obtain rfl : val = val' := by simpa using hvv
    rw [Nat.add_zero] at hown
    obtain ⟨g, cap, rfl, hg, hgs, hnc2, hcm, hcells⟩ := own_holds hown (by omega)
    have hx2 := hx.keep hbW
    obtain ⟨i0, hi0, hz0, hz1, hz2⟩ := info_parts info5
    have e0 : W.cell? ⟨w.heap.size, 0, none⟩ = some (.slice A n c) := c0.cell 0
    have HX := Lib.hid hx2
    have HC := Lib.hid hcells
    have HOWN := Lib.hid hown
    have HLEN := Lib.hid (show ((formB v (k0 v)).map u8).length = (k0 v + 1) * 1 by simp [formB_length])
    have H1 := Lib.hid (show ∀ u ∈ (formB v (k0 v)).map u8, u.oneCell' = true by intro u hu; obtain ⟨x, _, rfl⟩ := List.mem_map.1 hu; rfl)
    have HB := Lib.hid (show n < n + (k0 v + 1) ∧ n + (k0 v + 1) ≤ maxLen ∧ (n + (k0 v + 1)) * 1 ≤ 140737488355328 by unfold maxLen; omega)
    clear hx2 hcells hown hcm hnc2 hx
    gi_wp2_with (first
      | (gi_at_builtin; go_must (refine wpListIn_append_grows _ rfl (.tmp 15) (.tmp 16) 28 rfl 5 i0 (.int .u8 0) 1 1 Try.underlying28 hi0 hz0 hz1 hz2 rfl (by decide) A n n _ rfl HX.out.2.1 HX.out.1 HX.out.2.2 ⟨g, 0, none⟩ (k0 v + 1) cap _ rfl HLEN.out HC.out H1.out HB.out.1 HB.out.2.1 HB.out.2.2 ?_; intro v1 w1 hown1 hg1; have HG1 := Lib.hid hg1; have HV1 := Lib.hid hown1; clear hg1 hown1; obtain ⟨g1, cap1, rfl, hgW, _⟩ := own_holds HV1.out (by omega); have d1 := c1.grown HG1.out (by simp); have d2 := c2.grown HG1.out (by simp); have e1 := d1.cell 0; have e2 := d2.cell 0; have f1 := d1.frozen 0; have f2 := d2.frozen 0; have D1 := Lib.hid d1; have D2 := Lib.hid d2; clear d1 d2)))
    refine ⟨KeepsFrom.trans (KeepsFrom.of_grownBy HG1.out (by simp)) (((KeepsOthers.setCell _ _ _).trans (KeepsOthers.setCell _ _ _)).from _), rfl, .slice (some ⟨g1, 0, none⟩) (n + (k0 v + 1)) cap1, ?_, ?_, ?_, ?_⟩
    · exact ((D1.out.set_ 0 _).far (by simp) _)
    · exact (((D2.out.far (by simp) _)).set_ 0 _)
    · exact own_setCell (own_setCell (own_base HV1.out (by omega)) (by simp [Value.ownBlock]; omega) _) (by simp [Value.ownBlock]; omega) _
    · exact ((hbW.grown HG1.out (by omega) (by simp)).setCell (by simp) _).setCell (by simp; omega) _
  case done =>
    rintro D W hD ⟨h, _⟩
    omega
  case stop =>
    rintro D c' i W hD hi ⟨rfl, val, b1, b2, hown, hbW⟩ hK
    gi_wp2
    refine ⟨by simp, .inl ⟨_, _, rfl, run_takeDeferred hK, ?_⟩⟩
    have e1 := (b1.calm (o' := .deferred none) hK rfl).cell 0
    have e2 := (b2.calm (o' := .deferred none) hK rfl).cell 0
    have r1 := own_calm (o' := .deferred none) hown hK rfl
    have r2 := below_calm (o' := .deferred none) hbW (by omega) hK
    generalize W.putObj D (.deferred none) = W9 at *
    refine ⟨.tuple #[val, .int .i64 0], ?_, val, rfl, own_base r1 (by omega), r2⟩
    simp at e1 e2
    simp [results, Try.results28, go_sem, e1, e2]

set_option maxRecDepth 100000 in
set_option maxHeartbeats 400000 in
theorem forms_iter_no (n : Nat) (W : World) (Bv : Nat) (v : Int) (hv : v < 0 ∨ 34359738368 ≤ v) (hbox : Blk W Bv 3 #[.int .i64 v]) (At : Nat → Array Value → World → Prop) (Kp : Array Value → World → World → Prop) (Step : World → World → Prop) :
    Iter Fence.wide n Try.prog 56 #[.pointer (some ⟨Bv, 0, none⟩)] At Kp Step 0 W := by
  intro l J Jx _ _ h0
  have H0 := Lib.hid h0
  have HV := Lib.hid hv
  clear h0 hv
  refine callsIn_of_wp Try.func56 rfl trivial ?_ rfl
  simp only [Try.ntmps56, List.size_toArray, List.length_cons, List.length_nil, Nat.reduceAdd, Nat.reduceSub, Array.replicate_succ, Array.replicate_zero, List.push_toArray, List.append_toArray, List.nil_append, List.cons_append]
  have hc0 : W.cell? ⟨Bv, 0, none⟩ = some (.int .i64 v) := hbox.cell 0
  gi_wp2_with fail
  gi_loopw [3, 4, 5] (fun b _ _ wr => b = .slice none 0 0 ∧ wr = W) (fun _ _ _ _ => 0)
  case atStart => exact ⟨rfl, rfl⟩
  case round =>
    obtain ⟨rfl, rfl⟩ := hrel
    gi_wp2_with (first | (gi_at_call 57; (with_reducible refine (callsIn_wide.2 (allowed_no _ _ HV.out)).mono ?_); rintro e w' ⟨rfl, rfl⟩))
    go_end0
    exact ⟨⟨_, rfl⟩, .inl H0.out⟩

set_option maxRecDepth 100000 in
set_option maxHeartbeats 1000000 in
theorem append_no (A : Option Addr) (n c : Nat) (v : Int) (w : World) (hv : v < 0 ∨ 34359738368 ≤ v) :
    Calls Try.prog 28 #[.slice A n c, .int .i64 v] w fun e w' => e = .returned (.tuple #[.slice none 0 0, .int .i64 3]) ∧ Below w.heap.size w w' := by
  refine (callsIn_wide (n := 100)).1 ?_
  refine callsIn_of_wp_marks Try.func28 rfl trivial ?_ rfl
  simp only [Try.ntmps28, List.size_toArray, List.length_cons, List.length_nil, Nat.reduceAdd, Nat.reduceSub, Array.replicate_succ, Array.replicate_zero, List.push_toArray, List.append_toArray, List.nil_append, List.cons_append]
  gi_wp2_with (first | (gi_at_call 40; (with_reducible refine (callsIn_wide.2 (forms_any _ _)).mono ?_); rintro e w' ⟨rfl, rfl⟩))
  obtain ⟨W0, hW0⟩ : ∃ W0, ((((w.alloc (.cells #[.slice A n c] 28)).alloc (.cells #[.slice none 0 0] 28)).alloc (.cells #[.int .i64 0] 29)).alloc (.cells #[.int .i64 v] 3)) = W0 := ⟨_, rfl⟩
  rw [hW0]
  have hz : W0.heap.size = w.heap.size + 4 := by rw [← hW0]; simp
  have b1 : Blk W0 (w.heap.size + 1) 28 #[.slice none 0 0] := by rw [← hW0]; have := ((Blk.new (w.alloc (.cells #[.slice A n c] 28)) 28 #[.slice none 0 0]).alloc (.cells #[.int .i64 0] 29)).alloc (.cells #[.int .i64 v] 3); simpa using this
  have b2 : Blk W0 (w.heap.size + 2) 29 #[.int .i64 0] := by rw [← hW0]; have := (Blk.new ((w.alloc (.cells #[.slice A n c] 28)).alloc (.cells #[.slice none 0 0] 28)) 29 #[.int .i64 0]).alloc (.cells #[.int .i64 v] 3); simpa using this
  have b3 : Blk W0 (w.heap.size + 3) 3 #[.int .i64 v] := by rw [← hW0]; have := Blk.new (((w.alloc (.cells #[.slice A n c] 28)).alloc (.cells #[.slice none 0 0] 28)).alloc (.cells #[.int .i64 0] 29)) 3 #[.int .i64 v]; simpa using this
  have hb : Below w.heap.size w W0 := by rw [← hW0]; exact ((((Below.refl _ w).alloc (Nat.le_refl _) _).alloc (by simp) _).alloc (by simp; omega) _).alloc (by simp; omega) _
  clear hW0
  refine wpIn_iter (N := 0) (At := fun _ _ _ => False) (Kp := fun _ _ _ => True) (Step := Eq) rfl (by omega) (gf := 56) (lb := #[.pointer (some ⟨w.heap.size + 3, 0, none⟩)]) rfl trivial (enters_of Try.func56 (by kernel_rfl) rfl)
    (fun W1 hb1 hz1 => forms_iter_no 99 W1 (w.heap.size + 3) v hv (b3.below hb1 (by omega)) _ _ _)
    (fun X Y hXY k hk hkX => by rw [hXY])
    (fun vs X Y k o o' _ _ _ _ => trivial)
    (fun i vs X h => h.elim)
    (fun i W => Below w.heap.size w W ∧ Blk W (w.heap.size + 1) 28 #[.slice none 0 0] ∧ Blk W (w.heap.size + 2) 29 #[.int .i64 0])
    (fun c i W => False)
    ?hI ?hIx ?hIS ?h0
    (fun i vs X a' W => False)
    ?hAx ?assign ?body ?done ?stop
  case hI => exact fun i X k o o' hk hX ho h => ⟨below_calm h.1 (by omega) hX, h.2.1.calm hX ho, h.2.2.calm hX ho⟩
  case hIx => exact fun c i X k o o' hk hX ho h => h
  case hIS => exact fun i X Y h hs => hs ▸ h
  case h0 => exact fun W1 hb1 hz1 => ⟨hb.trans (hb1.mono (by omega)), b1.below hb1 (by omega), b2.below hb1 (by omega)⟩
  case hAx => exact fun i vs W0' a' X k o o' hk hX ho h => h
  case assign => intro l i vs W K hl hi; omega
  case body => intro l i vs X a' W hl hi; omega
  case done =>
    rintro D W hD ⟨hbW, b1, b2⟩ hK
    have e1 := b1.cell 0
    have e2 := b2.cell 0
    have f1 := b1.frozen 0
    have f2 := b2.frozen 0
    gi_wp2
    have hKs : ∀ (u u' : Value), ((W.setCell ⟨w.heap.size + 1, 0, none⟩ u).setCell ⟨w.heap.size + 1 + 1, 0, none⟩ u').heap[D]? = some (.deferred (some [])) := fun u u' => by
      rw [Below.heap_setCell _ _ _ _ (by simp; omega), Below.heap_setCell _ _ _ _ (by simp; omega)]; exact hK
    refine ⟨by simp, .inl ⟨_, _, rfl, run_takeDeferred (hKs _ _), ?_⟩⟩
    have g1 := (((b1.set_ 0 (.slice none 0 0)).far (p := ⟨w.heap.size + 1 + 1, 0, none⟩) (by simp) (.int .i64 3)).calm (o' := .deferred none) (hKs _ _) rfl).cell 0
    have g2 := (((b2.far (p := ⟨w.heap.size + 1, 0, none⟩) (by simp) (.slice none 0 0)).set_ 0 (.int .i64 3)).calm (o' := .deferred none) (hKs _ _) rfl).cell 0
    have r2 := below_calm (o' := .deferred none) ((hbW.setCell (p := ⟨w.heap.size + 1, 0, none⟩) (by simp) (.slice none 0 0)).setCell (p := ⟨w.heap.size + 1 + 1, 0, none⟩) (by simp; omega) (.int .i64 3)) (by omega) (hKs _ _)
    generalize ((W.setCell ⟨w.heap.size + 1, 0, none⟩ (.slice none 0 0)).setCell ⟨w.heap.size + 1 + 1, 0, none⟩ (.int .i64 3)).putObj D (.deferred none) = W9 at *
    refine ⟨.tuple #[.slice none 0 0, .int .i64 3], ?_, rfl, r2⟩
    simp at g1 g2
    simp [results, Try.results28, go_sem, g1, g2]
  case stop => intro D c' i W hD hi; omega
end Go.Proofs.Ytibkhjpjneoabaa.Vr
