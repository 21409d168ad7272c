/- The scanner: word, quoted, symbol. -/
import Derived.Test.YtkihoekldklkhaaDoorTe
import Derived.Test.YtkihoekldklkhaaDoorTf
namespace Go.Proofs.YtkihoekldklkhaaDoor
open Go.RowKit
set_option linter.unusedVariables false
set_option linter.unusedSimpArgs false

/-- A token in its block. -/
def TB (tb : Nat) (k : Nat) (tx : ByteArray) (v ln cl : Int) (w : World) : Prop := Blk w tb 32 #[.int .i64 (k : Int), .string tx, .int .i64 v, .int .i64 ln, .int .i64 cl]
/-- How a function that tries a kind ends. -/
def KindR (L : List UInt8) (sb tb i : Nat) (tx : ByteArray) (ln cl : Int) (o : Option TR) (w : World) (e : Ending) (w' : World) : Prop := Only (fun b => b = sb ∨ b = tb) w w' ∧ match o with
  | none => e = .returned (.bool false) ∧ Sc L sb i w' ∧ TB tb 0 tx 0 ln cl w'
  | some (.ok k v n) => e = .returned (.bool true) ∧ Sc L sb (i + n) w' ∧ TB tb k tx v ln cl w'
  | some (.bad n) => e = .panicked [errV (errN L (i + n))] ∧ Sc L sb (i + n) w'
theorem Sc.drew {L : List UInt8} {sb i : Nat} {w : World} (h : Sc L sb i w) : Sc L sb i w.drew := h.drewN 1
theorem Blk.drew1 {w : World} {g : Nat} {t : TypeId} {cs : Array Value} (h : Blk w g t cs) : Blk w.drew g t cs := h.drewN 1
theorem only_drew {p : Nat → Prop} {w W : World} (h : Only p w W) : Only p w W.drew := only_drewN h 1
theorem next_sc (F : Nat) (p : Int → Bool) (hp : PredF F p) (L : List UInt8) (sb i : Nat) (w : World) (h : Sc L sb i w) (hn : L.length ≤ 1000000) :
    Calls Tryd.prog 66 #[.pointer (some ⟨sb, 0, none⟩), .func (.func F) #[] #[]] w fun e w' => e = .returned (.bool (headP p (L.drop i))) ∧ Sc L sb i w' ∧ Below w.heap.size w w' := (next_any F p L sb i w hp h hn).mono fun e w' ⟨h1, m, h2⟩ => ⟨h1, h2 ▸ h.drewN m, h2 ▸ below_drewN (Below.refl _ w) m⟩
theorem need_sy (L : List UInt8) (sb i : Nat) (w : World) (h : Sc L sb i w) : Calls Tryd.prog 60 #[.pointer (some ⟨sb, 0, none⟩), .bool true] w fun e w' => e = .returned (.tuple #[]) ∧ Sc L sb i w' ∧ Below w.heap.size w w' := (need_yes sb w).mono fun e w' ⟨h1, h2⟩ => by subst h2; exact ⟨h1, h, Below.refl _ _⟩
theorem need_sn (L : List UInt8) (sb i : Nat) (w : World) (h : Sc L sb i w) (hi : i ≤ L.length) (hn : L.length ≤ 1000000) : Calls Tryd.prog 60 #[.pointer (some ⟨sb, 0, none⟩), .bool false] w fun e w' => e = .panicked [errV (errN L i)] ∧ Sc L sb i w' ∧ Below w.heap.size w w' := (need_no L sb i w h hi hn).mono fun e w' ⟨h1, m, h2⟩ => ⟨h1, h2 ▸ h.drewN m, h2 ▸ below_drewN (Below.refl _ w) m⟩
theorem TB.below {tb k : Nat} {tx : ByteArray} {v ln cl : Int} {w w' : World} (h : TB tb k tx v ln cl w) (hb : Below w.heap.size w w') : TB tb k tx v ln cl w' := Blk.below h hb h.lt
theorem TB.kind {tb k j : Nat} {tx : ByteArray} {v ln cl : Int} {w : World} (h : TB tb k tx v ln cl w) : TB tb j tx v ln cl (w.setCell ⟨tb, 0, none⟩ (.int .i64 (j : Int))) := by have := Blk.set_ h 0 (.int .i64 (j : Int)); simpa [TB] using this
theorem TB.val {tb k : Nat} {tx : ByteArray} {v ln cl : Int} {w : World} (h : TB tb k tx v ln cl w) (u : Int) : TB tb k tx u ln cl (w.setCell ⟨tb, 2, none⟩ (.int .i64 u)) := by have := Blk.set_ h 2 (.int .i64 u); simpa [TB] using this
theorem Sc.ne {L : List UInt8} {sb tb i k : Nat} {tx : ByteArray} {v ln cl : Int} {w : World} (h : Sc L sb i w) (ht : TB tb k tx v ln cl w) : sb ≠ tb := Blk.ne h ht (by decide)
theorem TB.only {tb k : Nat} {tx : ByteArray} {v ln cl : Int} {w w' : World} {p : Nat → Prop} (h : TB tb k tx v ln cl w) (ho : Only p w w') (hp : ¬ p tb) : TB tb k tx v ln cl w' := Blk.only h ho hp
theorem Sc.only {L : List UInt8} {sb i : Nat} {w w' : World} {p : Nat → Prop} (h : Sc L sb i w) (ho : Only p w w') (hp : ¬ p sb) : Sc L sb i w' := Blk.only h ho hp
theorem Sc.far {L : List UInt8} {sb i : Nat} {w : World} (h : Sc L sb i w) {tb : Nat} (hne : sb ≠ tb) (j : Nat) (v : Value) : Sc L sb i (w.setCell ⟨tb, j, none⟩ v) := (Below.heap_setCell _ _ _ _ (by simpa using hne)).trans h
theorem Only.sb {sb tb : Nat} {w w' : World} (h : Only (fun k => k = sb) w w') : Only (fun b => b = sb ∨ b = tb) w w' := h.mono fun _ _ e => .inl e
theorem Only.tr {p : Nat → Prop} {w w1 w2 : World} (h : Only p w w1) (k : Only p w1 w2) : Only p w w2 := h.trans k fun _ _ x => x
set_option maxRecDepth 100000 in
set_option maxHeartbeats 1000000 in
theorem word_any (L : List UInt8) (sb tb i : Nat) (tx : ByteArray) (ln cl : Int) (w : World) (h : Sc L sb i w) (ht : TB tb 0 tx 0 ln cl w) (hn : L.length ≤ 1000000) (hi0 : i ≤ L.length) :
    Calls Tryd.prog 55 #[.pointer (some ⟨sb, 0, none⟩), .pointer (some ⟨tb, 0, none⟩)] w (KindR L sb tb i tx ln cl (if headP ltrI (L.drop i) = true then some (wordL (L.drop i)) else none) w) := by
  have hne := h.ne ht
  have C67 := Lib.hid (next_any 67 ltrI L sb i w pf67 h hn)
  cases hb : headP ltrI (L.drop i) with
  | false =>
    rw [hb] at C67
    rw [if_neg (by simp)]
    have HS := Lib.hid h
    have HT := Lib.hid ht
    clear h ht hn hb hi0
    go_enter Tryd.func55, Tryd.ntmps55
    go_wp2_with (go_at_call 66; (with_reducible refine C67.out.mono ?_); rintro e w1 ⟨rfl, m, rfl⟩)
    go_ret
    exact ⟨only_drewN (Only.refl _ _) m, rfl, HS.out.drewN m, Blk.drewN HT.out m⟩
  | true =>
    rw [hb] at C67
    rw [if_pos rfl]
    obtain ⟨n1, hn1⟩ : ∃ n1, runL worI 32 (L.drop i) = n1 := ⟨_, rfl⟩
    have hle : i + n1 ≤ L.length := by have := (runL_le worI 32 (L.drop i)).1; rw [List.length_drop, hn1] at this; omega
    have C68 : Hid (∀ W, Sc L sb i W → Calls Tryd.prog 68 #[.pointer (some ⟨sb, 0, none⟩), .int .i64 32, .func (.func 69) #[] #[]] W fun e w' => e = .returned (.int .i64 (n1 : Int)) ∧ Sc L sb (i + n1) w' ∧ Only (fun k => k = sb) W w') := Lib.hid (fun W hs => by have := run_any 69 worI pf69 32 L sb i W hs hn hi0 (by omega); rw [hn1] at this; exact this)
    have C69 := Lib.hid (fun (W : World) (hs : Sc L sb (i + n1) W) => next_sc 69 worI pf69 L sb (i + n1) W hs hn)
    have hw : wordL (L.drop i) = if headP worI (L.drop (i + n1)) = true then .bad n1 else .ok 1 0 n1 := by unfold wordL; rw [hn1, List.drop_drop]
    rw [hw]
    have HS := Lib.hid h
    have HT := Lib.hid ht
    cases hb2 : headP worI (L.drop (i + n1)) with
    | false =>
      rw [hb2] at C69
      rw [if_neg (by simp)]
      have C60 := Lib.hid (fun (W : World) (hs : Sc L sb (i + n1) W) => need_sy L sb (i + n1) W hs)
      have e0 := Blk.cell ht 0
      have f0 := Blk.frozen ht 0
      simp only [List.getElem?_toArray, List.getElem?_cons_zero] at e0
      clear h ht hn hb hb2 hi0 hn1 hle hw
      go_enter Tryd.func55, Tryd.ntmps55
      go_upto_region 3 with (go_at_call 66; (with_reducible refine C67.out.mono ?_); rintro e w1 ⟨rfl, m, rfl⟩)
      go_upto_region 4 with fail
      have HS2 := Lib.hid (((HS.out.drewN m).far hne 0 (.int .i64 ((1 : Nat) : Int))))
      have HT2 := Lib.hid (TB.kind (j := 1) (Blk.drewN HT.out m : TB tb 0 tx 0 ln cl (w.drewN m)))
      have HO2 : Hid (Only (fun b => b = sb ∨ b = tb) w ((w.drewN m).setCell ⟨tb, 0, none⟩ (.int .i64 ((1 : Nat) : Int)))) := Lib.hid (Only.set (only_drewN (Only.refl _ w) m) (fun _ => .inr rfl) 0 _)
      obtain ⟨W2, hW2⟩ : ∃ W2, (w.drewN m).setCell ⟨tb, 0, none⟩ (.int .i64 1) = W2 := ⟨_, rfl⟩
      have hW2' : (w.drewN m).setCell ⟨tb, 0, none⟩ (.int .i64 ((1 : Nat) : Int)) = W2 := hW2
      rw [hW2'] at HS2 HT2 HO2
      rw [hW2]
      clear hW2 hW2' e0 f0
      go_upto_region 5 with (go_at_call 68; (with_reducible refine (C68.out _ HS2.out).mono ?_); rintro e w3 ⟨rfl, hs3, ho3⟩; have HS3 := Lib.hid hs3.drew; have HS30 := Lib.hid hs3; have HO3 := Lib.hid ho3; clear hs3 ho3)
      refine wp_region_G (S0 := (fun _ : World => True)) (S1 := (fun _ : World => True)) (c := 99) (by kernel_rfl) ?_
      have hHeld := trivial
      have h01 := (fun (W : World) (h : (fun _ : World => True) W) => h)
      refine wpG_takeB (i := 0) (oi := ⟨some 17, _, _, _, _, _⟩) (v := .pointer (some ⟨sb, 0, none⟩)) rfl (by kernel_rfl) (by kernel_rfl) (by kernel_rfl) (by decide) (fun _ _ _ h => h) h01 rfl hHeld (Or.inl ⟨by rfl, ?_⟩) ?_
      · (intro W9 hSw; go_simp; (try (first | with_reducible rfl | rfl | (simp; done))))
      try simp only [Act.put, List.setIfInBounds_toArray, List.set_cons_zero, List.set_cons_succ]
      refine wpG_takeB (i := 1) (oi := ⟨some 18, _, _, _, _, _⟩) (v := .pointer (some ⟨sb, 0, none⟩)) rfl (by kernel_rfl) (by kernel_rfl) (by kernel_rfl) (by decide) (fun _ _ _ h => h) h01 rfl hHeld (Or.inl ⟨by rfl, ?_⟩) ?_
      · (intro W9 hSw; go_simp; (try (first | with_reducible rfl | rfl | (simp; done))))
      try simp only [Act.put, List.setIfInBounds_toArray, List.set_cons_zero, List.set_cons_succ]
      refine wpG_takeB (i := 2) (oi := ⟨some 19, _, _, _, _, _⟩) (v := .pointer (some ⟨sb, 0, none⟩)) rfl (by kernel_rfl) (by kernel_rfl) (by kernel_rfl) (by decide) (fun _ _ _ h => h) h01 rfl hHeld (Or.inl ⟨by rfl, ?_⟩) ?_
      · (intro W9 hSw; go_simp; (try (first | with_reducible rfl | rfl | (simp; done))))
      try simp only [Act.put, List.setIfInBounds_toArray, List.set_cons_zero, List.set_cons_succ]
      refine wpG_takeB (i := 3) (oi := ⟨some 20, _, _, _, _, _⟩) (v := .pointer (some ⟨sb, 0, none⟩)) rfl (by kernel_rfl) (by kernel_rfl) (by kernel_rfl) (by decide) (fun _ _ _ h => h) h01 rfl hHeld (Or.inl ⟨by rfl, ?_⟩) ?_
      · (intro W9 hSw; go_simp; (try (first | with_reducible rfl | rfl | (simp; done))))
      try simp only [Act.put, List.setIfInBounds_toArray, List.set_cons_zero, List.set_cons_succ]
      refine wpG_takeB (i := 4) (oi := ⟨some 21, _, _, _, _, _⟩) (v := .pointer (some ⟨sb, 0, none⟩)) rfl (by kernel_rfl) (by kernel_rfl) (by kernel_rfl) (by decide) (fun _ _ _ h => h) h01 rfl hHeld (Or.inl ⟨by rfl, ?_⟩) ?_
      · (intro W9 hSw; go_simp; (try (first | with_reducible rfl | rfl | (simp; done))))
      try simp only [Act.put, List.setIfInBounds_toArray, List.set_cons_zero, List.set_cons_succ]
      refine wpG_takeB (i := 5) (oi := ⟨some 22, _, _, _, _, _⟩) (v := .pointer (some ⟨sb, 0, none⟩)) rfl (by kernel_rfl) (by kernel_rfl) (by kernel_rfl) (by decide) (fun _ _ _ h => h) h01 rfl hHeld (Or.inl ⟨by rfl, ?_⟩) ?_
      · (intro W9 hSw; go_simp; (try (first | with_reducible rfl | rfl | (simp; done))))
      try simp only [Act.put, List.setIfInBounds_toArray, List.set_cons_zero, List.set_cons_succ]
      refine wpG_oneB (i := 6) (o := ⟨some 23, _, _, _, _, _⟩) (by kernel_rfl) rfl rfl (fun K hK => ?_)
      go_simp
      (with_reducible refine (C69.out _ HS3.out).mono ?_); rintro e w5 ⟨rfl, hs5, hb5⟩
      have HS5 := Lib.hid hs5
      have HB5 := Lib.hid hb5
      clear hs5 hb5
      refine hK.out _ _ trivial (fun hHeld => ?_)
      clear hK K
      try simp only [Act.put, List.setIfInBounds_toArray, List.set_cons_zero, List.set_cons_succ]
      refine wpG_takeB (i := 7) (oi := ⟨some 24, _, _, _, _, _⟩) (v := .bool true) rfl (by kernel_rfl) (by kernel_rfl) (by kernel_rfl) (by decide) (fun _ _ _ h => h) h01 rfl hHeld (Or.inl ⟨by rfl, ?_⟩) ?_
      · (intro W9 hSw; go_simp; (try (first | with_reducible rfl | rfl | (simp; done))))
      try simp only [Act.put, List.setIfInBounds_toArray, List.set_cons_zero, List.set_cons_succ]
      refine wpG_oneB (i := 8) (o := ⟨some 25, _, _, _, _, _⟩) (by kernel_rfl) rfl rfl (fun K hK => ?_)
      go_simp
      (with_reducible refine (C60.out _ HS5.out).mono ?_); rintro e w6 ⟨rfl, hs6, hb6⟩
      have HS6 := Lib.hid hs6
      have HB6 := Lib.hid hb6
      clear hs6 hb6
      refine hK.out _ _ trivial (fun hHeld => ?_)
      clear hK K
      try simp only [Act.put, List.setIfInBounds_toArray, List.set_cons_zero, List.set_cons_succ]
      refine wpG_done (by kernel_rfl) ?_ _
      clear hHeld h01
      go_wp2_with fail
      go_ret
      have HT3 : Hid (TB tb 1 tx 0 ln cl w3) := Lib.hid (HT2.out.only HO3.out (fun e => hne e.symm))
      exact ⟨((only_drew (HO2.out.tr HO3.out.sb)).below HB5.out).below HB6.out, rfl, HS6.out, TB.below (TB.below (show TB tb 1 tx 0 ln cl w3.drew from Blk.drew1 HT3.out) HB5.out) HB6.out⟩
    | true =>
      rw [hb2] at C69
      rw [if_pos rfl]
      have C60 := Lib.hid (fun (W : World) (hs : Sc L sb (i + n1) W) => need_sn L sb (i + n1) W hs hle hn)
      have e0 := Blk.cell ht 0
      have f0 := Blk.frozen ht 0
      simp only [List.getElem?_toArray, List.getElem?_cons_zero] at e0
      clear h ht hn hb hb2 hi0 hn1 hle hw
      go_enter Tryd.func55, Tryd.ntmps55
      go_upto_region 3 with (go_at_call 66; (with_reducible refine C67.out.mono ?_); rintro e w1 ⟨rfl, m, rfl⟩)
      go_upto_region 4 with fail
      have HS2 := Lib.hid (((HS.out.drewN m).far hne 0 (.int .i64 ((1 : Nat) : Int))))
      have HT2 := Lib.hid (TB.kind (j := 1) (Blk.drewN HT.out m : TB tb 0 tx 0 ln cl (w.drewN m)))
      have HO2 : Hid (Only (fun b => b = sb ∨ b = tb) w ((w.drewN m).setCell ⟨tb, 0, none⟩ (.int .i64 ((1 : Nat) : Int)))) := Lib.hid (Only.set (only_drewN (Only.refl _ w) m) (fun _ => .inr rfl) 0 _)
      obtain ⟨W2, hW2⟩ : ∃ W2, (w.drewN m).setCell ⟨tb, 0, none⟩ (.int .i64 1) = W2 := ⟨_, rfl⟩
      have hW2' : (w.drewN m).setCell ⟨tb, 0, none⟩ (.int .i64 ((1 : Nat) : Int)) = W2 := hW2
      rw [hW2'] at HS2 HT2 HO2
      rw [hW2]
      clear hW2 hW2' e0 f0
      go_upto_region 5 with (go_at_call 68; (with_reducible refine (C68.out _ HS2.out).mono ?_); rintro e w3 ⟨rfl, hs3, ho3⟩; have HS3 := Lib.hid hs3.drew; have HS30 := Lib.hid hs3; have HO3 := Lib.hid ho3; clear hs3 ho3)
      refine wp_region_G (S0 := (fun _ : World => True)) (S1 := (fun _ : World => True)) (c := 99) (by kernel_rfl) ?_
      have hHeld := trivial
      have h01 := (fun (W : World) (h : (fun _ : World => True) W) => h)
      refine wpG_takeB (i := 0) (oi := ⟨some 17, _, _, _, _, _⟩) (v := .pointer (some ⟨sb, 0, none⟩)) rfl (by kernel_rfl) (by kernel_rfl) (by kernel_rfl) (by decide) (fun _ _ _ h => h) h01 rfl hHeld (Or.inl ⟨by rfl, ?_⟩) ?_
      · (intro W9 hSw; go_simp; (try (first | with_reducible rfl | rfl | (simp; done))))
      try simp only [Act.put, List.setIfInBounds_toArray, List.set_cons_zero, List.set_cons_succ]
      refine wpG_takeB (i := 1) (oi := ⟨some 18, _, _, _, _, _⟩) (v := .pointer (some ⟨sb, 0, none⟩)) rfl (by kernel_rfl) (by kernel_rfl) (by kernel_rfl) (by decide) (fun _ _ _ h => h) h01 rfl hHeld (Or.inl ⟨by rfl, ?_⟩) ?_
      · (intro W9 hSw; go_simp; (try (first | with_reducible rfl | rfl | (simp; done))))
      try simp only [Act.put, List.setIfInBounds_toArray, List.set_cons_zero, List.set_cons_succ]
      refine wpG_takeB (i := 2) (oi := ⟨some 19, _, _, _, _, _⟩) (v := .pointer (some ⟨sb, 0, none⟩)) rfl (by kernel_rfl) (by kernel_rfl) (by kernel_rfl) (by decide) (fun _ _ _ h => h) h01 rfl hHeld (Or.inl ⟨by rfl, ?_⟩) ?_
      · (intro W9 hSw; go_simp; (try (first | with_reducible rfl | rfl | (simp; done))))
      try simp only [Act.put, List.setIfInBounds_toArray, List.set_cons_zero, List.set_cons_succ]
      refine wpG_takeB (i := 3) (oi := ⟨some 20, _, _, _, _, _⟩) (v := .pointer (some ⟨sb, 0, none⟩)) rfl (by kernel_rfl) (by kernel_rfl) (by kernel_rfl) (by decide) (fun _ _ _ h => h) h01 rfl hHeld (Or.inl ⟨by rfl, ?_⟩) ?_
      · (intro W9 hSw; go_simp; (try (first | with_reducible rfl | rfl | (simp; done))))
      try simp only [Act.put, List.setIfInBounds_toArray, List.set_cons_zero, List.set_cons_succ]
      refine wpG_takeB (i := 4) (oi := ⟨some 21, _, _, _, _, _⟩) (v := .pointer (some ⟨sb, 0, none⟩)) rfl (by kernel_rfl) (by kernel_rfl) (by kernel_rfl) (by decide) (fun _ _ _ h => h) h01 rfl hHeld (Or.inl ⟨by rfl, ?_⟩) ?_
      · (intro W9 hSw; go_simp; (try (first | with_reducible rfl | rfl | (simp; done))))
      try simp only [Act.put, List.setIfInBounds_toArray, List.set_cons_zero, List.set_cons_succ]
      refine wpG_takeB (i := 5) (oi := ⟨some 22, _, _, _, _, _⟩) (v := .pointer (some ⟨sb, 0, none⟩)) rfl (by kernel_rfl) (by kernel_rfl) (by kernel_rfl) (by decide) (fun _ _ _ h => h) h01 rfl hHeld (Or.inl ⟨by rfl, ?_⟩) ?_
      · (intro W9 hSw; go_simp; (try (first | with_reducible rfl | rfl | (simp; done))))
      try simp only [Act.put, List.setIfInBounds_toArray, List.set_cons_zero, List.set_cons_succ]
      refine wpG_oneB (i := 6) (o := ⟨some 23, _, _, _, _, _⟩) (by kernel_rfl) rfl rfl (fun K hK => ?_)
      go_simp
      (with_reducible refine (C69.out _ HS3.out).mono ?_); rintro e w5 ⟨rfl, hs5, hb5⟩
      have HS5 := Lib.hid hs5
      have HB5 := Lib.hid hb5
      clear hs5 hb5
      refine hK.out _ _ trivial (fun hHeld => ?_)
      clear hK K
      try simp only [Act.put, List.setIfInBounds_toArray, List.set_cons_zero, List.set_cons_succ]
      refine wpG_takeB (i := 7) (oi := ⟨some 24, _, _, _, _, _⟩) (v := .bool false) rfl (by kernel_rfl) (by kernel_rfl) (by kernel_rfl) (by decide) (fun _ _ _ h => h) h01 rfl hHeld (Or.inl ⟨by rfl, ?_⟩) ?_
      · (intro W9 hSw; go_simp; (try (first | with_reducible rfl | rfl | (simp; done))))
      try simp only [Act.put, List.setIfInBounds_toArray, List.set_cons_zero, List.set_cons_succ]
      refine wpG_oneB (i := 8) (o := ⟨some 25, _, _, _, _, _⟩) (by kernel_rfl) rfl rfl (fun K hK => ?_)
      go_simp
      (with_reducible refine (C60.out _ HS5.out).mono ?_); rintro e w6 ⟨rfl, hs6, hb6⟩
      exact ⟨rfl, ((only_drew (HO2.out.tr HO3.out.sb)).below HB5.out).below hb6, rfl, hs6⟩
set_option maxRecDepth 100000 in
set_option maxHeartbeats 1000000 in
theorem quoted_any (L : List UInt8) (sb tb i : Nat) (tx : ByteArray) (ln cl : Int) (w : World) (h : Sc L sb i w) (ht : TB tb 0 tx 0 ln cl w) (hn : L.length ≤ 1000000) (hi0 : i ≤ L.length) :
    Calls Tryd.prog 57 #[.pointer (some ⟨sb, 0, none⟩), .pointer (some ⟨tb, 0, none⟩)] w (KindR L sb tb i tx ln cl (if headP (isI 34) (L.drop i) = true then some (quoL (L.drop i)) else none) w) := by
  have hne := h.ne ht
  have C71 := Lib.hid (is_any 34 L sb i w h hn)
  have HS := Lib.hid h
  have HT := Lib.hid ht
  cases hb : headP (isI 34) (L.drop i) with
  | false =>
    rw [hb] at C71
    rw [if_neg (by simp)]
    clear h ht hn hb hi0
    go_enter Tryd.func57, Tryd.ntmps57
    go_wp2_with (go_at_call 71; (with_reducible refine C71.out.mono ?_); rintro e w1 ⟨rfl, hb1⟩; have HB1 := Lib.hid hb1; clear hb1)
    go_ret
    exact ⟨Only.of_below HB1.out, rfl, HS.out.below HB1.out, HT.out.below HB1.out⟩
  | true =>
    rw [hb] at C71
    rw [if_pos rfl]
    have hlt : i < L.length := headP_drop hb
    have HSZ := Lib.hid (Lib.size_mk L)
    have C73 := Lib.hid (fun (W : World) (hs : Sc L sb i W) => pass_any L sb i W hs hlt hn)
    obtain ⟨n1, hn1⟩ : ∃ n1, cntL quoI (L.drop (i + 1)) = n1 := ⟨_, rfl⟩
    have hle : i + 1 + n1 ≤ L.length := by have := cntL_le quoI (L.drop (i + 1)); rw [List.length_drop, hn1] at this; omega
    have C68 : Hid (∀ W, Sc L sb (i + 1) W → Calls Tryd.prog 68 #[.pointer (some ⟨sb, 0, none⟩), .int .i64 (L.length : Int), .func (.func 77) #[] #[]] W fun e w' => e = .returned (.int .i64 (n1 : Int)) ∧ Sc L sb (i + 1 + n1) w' ∧ Only (fun k => k = sb) W w') := Lib.hid (fun W hs => by have := run_any 77 quoI pf77 L.length L sb (i + 1) W hs hn hlt hn; rw [runL_big quoI L.length _ (by simp), hn1] at this; exact this)
    have C71b := Lib.hid (fun (W : World) (hs : Sc L sb (i + 1 + n1) W) => is_any 34 L sb (i + 1 + n1) W hs hn)
    have hw : quoL (L.drop i) = if headP (isI 34) (L.drop (i + 1 + n1)) = true then .ok 3 0 (n1 + 2) else .bad (n1 + 1) := by have e1 : (L.drop i).drop 1 = L.drop (i + 1) := (by rw [List.drop_drop]); unfold quoL; rw [e1, hn1, List.drop_drop]
    rw [hw]
    cases hb2 : headP (isI 34) (L.drop (i + 1 + n1)) with
    | false =>
      rw [hb2] at C71b
      rw [if_neg (by simp)]
      have C60 := Lib.hid (fun (W : World) (hs : Sc L sb (i + 1 + n1) W) => need_sn L sb (i + 1 + n1) W hs hle hn)
      skip
      clear h ht hn hb hb2 hi0 hn1 hle hw hlt
      go_enter Tryd.func57, Tryd.ntmps57
      go_upto_region 3 with (go_at_call 71; (with_reducible refine C71.out.mono ?_); rintro e w1 ⟨rfl, hb1⟩; have HS1 := Lib.hid (HS.out.below hb1); have HT1 := Lib.hid (HT.out.below hb1); have HO1 : Hid (Only (fun b => b = sb ∨ b = tb) w w1) := Lib.hid (Only.of_below hb1); clear hb1)
      have e0 := Blk.cell HT1.out 0
      have f0 := Blk.frozen HT1.out 0
      simp only [List.getElem?_toArray, List.getElem?_cons_zero] at e0
      go_upto_region 4 with fail
      have HS2 := Lib.hid (HS1.out.far hne 0 (.int .i64 ((3 : Nat) : Int)))
      have HT2 := Lib.hid (TB.kind (j := 3) HT1.out)
      have HO2 : Hid (Only (fun b => b = sb ∨ b = tb) w (w1.setCell ⟨tb, 0, none⟩ (.int .i64 ((3 : Nat) : Int)))) := Lib.hid (Only.set HO1.out (fun _ => .inr rfl) 0 _)
      obtain ⟨W2, hW2⟩ : ∃ W2, w1.setCell ⟨tb, 0, none⟩ (.int .i64 3) = W2 := ⟨_, rfl⟩
      have hW2' : w1.setCell ⟨tb, 0, none⟩ (.int .i64 ((3 : Nat) : Int)) = W2 := hW2
      rw [hW2'] at HS2 HT2 HO2
      rw [hW2]
      clear hW2 hW2' e0 f0
      go_upto_region 5 with (go_at_call 73; (with_reducible refine (C73.out _ HS2.out).mono ?_); rintro e w3 ⟨rfl, hs3, ho3⟩; have HS3 := Lib.hid hs3; have HO3 := Lib.hid ho3; clear hs3 ho3)
      refine wp_region_G (S0 := (StA sb ⟨L.toArray⟩)) (S1 := (StA sb ⟨L.toArray⟩)) (c := 99) (by kernel_rfl) ?_
      have hHeld := HS3.out.drew.sta
      have h01 := (fun (W : World) (h : (StA sb ⟨L.toArray⟩) W) => h)
      refine wpG_takeB (i := 0) (oi := ⟨some 17, _, _, _, _, _⟩) (v := .pointer (some ⟨sb, 0, none⟩)) rfl (by kernel_rfl) (by kernel_rfl) (by kernel_rfl) (by decide) (fun _ _ _ h => h) h01 rfl hHeld (Or.inl ⟨by rfl, ?_⟩) ?_
      · (intro W9 hSw; have v1 : _ = _ := hSw; have hsz := HSZ.out; go_simp; (try (first | with_reducible rfl | rfl | (simp; done))))
      try simp only [Act.put, List.setIfInBounds_toArray, List.set_cons_zero, List.set_cons_succ]
      refine wpG_takeB (i := 1) (oi := ⟨some 18, _, _, _, _, _⟩) (v := .pointer (some ⟨sb, 0, none⟩)) rfl (by kernel_rfl) (by kernel_rfl) (by kernel_rfl) (by decide) (fun _ _ _ h => h) h01 rfl hHeld (Or.inl ⟨by rfl, ?_⟩) ?_
      · (intro W9 hSw; have v1 : _ = _ := hSw; have hsz := HSZ.out; go_simp; (try (first | with_reducible rfl | rfl | (simp; done))))
      try simp only [Act.put, List.setIfInBounds_toArray, List.set_cons_zero, List.set_cons_succ]
      refine wpG_takeB (i := 2) (oi := ⟨some 19, _, _, _, _, _⟩) (v := .pointer (some ⟨sb, 0, none⟩)) rfl (by kernel_rfl) (by kernel_rfl) (by kernel_rfl) (by decide) (fun _ _ _ h => h) h01 rfl hHeld (Or.inl ⟨by rfl, ?_⟩) ?_
      · (intro W9 hSw; have v1 : _ = _ := hSw; have hsz := HSZ.out; go_simp; (try (first | with_reducible rfl | rfl | (simp; done))))
      try simp only [Act.put, List.setIfInBounds_toArray, List.set_cons_zero, List.set_cons_succ]
      refine wpG_takeB (i := 3) (oi := ⟨some 20, _, _, _, _, _⟩) (v := .pointer (some ⟨sb, 0, none⟩)) rfl (by kernel_rfl) (by kernel_rfl) (by kernel_rfl) (by decide) (fun _ _ _ h => h) h01 rfl hHeld (Or.inl ⟨by rfl, ?_⟩) ?_
      · (intro W9 hSw; have v1 : _ = _ := hSw; have hsz := HSZ.out; go_simp; (try (first | with_reducible rfl | rfl | (simp; done))))
      try simp only [Act.put, List.setIfInBounds_toArray, List.set_cons_zero, List.set_cons_succ]
      refine wpG_takeB (i := 4) (oi := ⟨some 21, _, _, _, _, _⟩) (v := .pointer (some ⟨sb, 0, none⟩)) rfl (by kernel_rfl) (by kernel_rfl) (by kernel_rfl) (by decide) (fun _ _ _ h => h) h01 rfl hHeld (Or.inl ⟨by rfl, ?_⟩) ?_
      · (intro W9 hSw; have v1 : _ = _ := hSw; have hsz := HSZ.out; go_simp; (try (first | with_reducible rfl | rfl | (simp; done))))
      try simp only [Act.put, List.setIfInBounds_toArray, List.set_cons_zero, List.set_cons_succ]
      refine wpG_takeB (i := 5) (oi := ⟨some 22, _, _, _, _, _⟩) (v := .pointer (some ⟨sb, 0, none⟩)) rfl (by kernel_rfl) (by kernel_rfl) (by kernel_rfl) (by decide) (fun _ _ _ h => h) h01 rfl hHeld (Or.inl ⟨by rfl, ?_⟩) ?_
      · (intro W9 hSw; have v1 : _ = _ := hSw; have hsz := HSZ.out; go_simp; (try (first | with_reducible rfl | rfl | (simp; done))))
      try simp only [Act.put, List.setIfInBounds_toArray, List.set_cons_zero, List.set_cons_succ]
      refine wpG_takeB (i := 6) (oi := ⟨some 23, _, _, _, _, _⟩) (v := .pointer (some ⟨sb, 0, none⟩)) rfl (by kernel_rfl) (by kernel_rfl) (by kernel_rfl) (by decide) (fun _ _ _ h => h) h01 rfl hHeld (Or.inl ⟨by rfl, ?_⟩) ?_
      · (intro W9 hSw; have v1 : _ = _ := hSw; have hsz := HSZ.out; go_simp; (try (first | with_reducible rfl | rfl | (simp; done))))
      try simp only [Act.put, List.setIfInBounds_toArray, List.set_cons_zero, List.set_cons_succ]
      refine wpG_takeB (i := 7) (oi := ⟨some 24, _, _, _, _, _⟩) (v := .string ⟨L.toArray⟩) rfl (by kernel_rfl) (by kernel_rfl) (by kernel_rfl) (by decide) (fun _ _ _ h => h) h01 rfl hHeld (Or.inl ⟨by rfl, ?_⟩) ?_
      · (intro W9 hSw; have v1 : _ = _ := hSw; have hsz := HSZ.out; go_simp; (try (first | with_reducible rfl | rfl | (simp; done))))
      try simp only [Act.put, List.setIfInBounds_toArray, List.set_cons_zero, List.set_cons_succ]
      refine wpG_takeB (i := 8) (oi := ⟨some 25, _, _, _, _, _⟩) (v := .int .i64 (L.length : Int)) rfl (by kernel_rfl) (by kernel_rfl) (by kernel_rfl) (by decide) (fun _ _ _ h => h) h01 rfl hHeld (Or.inl ⟨by rfl, ?_⟩) ?_
      · (intro W9 hSw; have v1 : _ = _ := hSw; have hsz := HSZ.out; go_simp; (try (first | with_reducible rfl | rfl | (simp; done))))
      try simp only [Act.put, List.setIfInBounds_toArray, List.set_cons_zero, List.set_cons_succ]
      refine wpG_oneB (i := 9) (o := ⟨some 26, _, _, _, _, _⟩) (by kernel_rfl) rfl rfl (fun K hK => ?_)
      go_simp
      (try simp only [HSZ.out])
      (with_reducible refine (C68.out _ HS3.out.drew).mono ?_); rintro e w4 ⟨rfl, hs4, ho4⟩
      have HS4 := Lib.hid hs4
      have HO4 := Lib.hid ho4
      clear hs4 ho4
      refine hK.out _ _ HS4.out.sta (fun hHeld => ?_)
      clear hK K
      try simp only [Act.put, List.setIfInBounds_toArray, List.set_cons_zero, List.set_cons_succ]
      refine wpG_done (by kernel_rfl) ?_ _
      clear hHeld h01
      go_upto_region 6 with fail
      refine wp_region_G (S0 := (fun _ : World => True)) (S1 := (fun _ : World => True)) (c := 99) (by kernel_rfl) ?_
      have hHeld := trivial
      have h01 := (fun (W : World) (h : (fun _ : World => True) W) => h)
      refine wpG_takeB (i := 0) (oi := ⟨some 27, _, _, _, _, _⟩) (v := .pointer (some ⟨sb, 0, none⟩)) rfl (by kernel_rfl) (by kernel_rfl) (by kernel_rfl) (by decide) (fun _ _ _ h => h) h01 rfl hHeld (Or.inl ⟨by rfl, ?_⟩) ?_
      · (intro W9 hSw; go_simp; (try (first | with_reducible rfl | rfl | (simp; done))))
      try simp only [Act.put, List.setIfInBounds_toArray, List.set_cons_zero, List.set_cons_succ]
      refine wpG_takeB (i := 1) (oi := ⟨some 28, _, _, _, _, _⟩) (v := .pointer (some ⟨sb, 0, none⟩)) rfl (by kernel_rfl) (by kernel_rfl) (by kernel_rfl) (by decide) (fun _ _ _ h => h) h01 rfl hHeld (Or.inl ⟨by rfl, ?_⟩) ?_
      · (intro W9 hSw; go_simp; (try (first | with_reducible rfl | rfl | (simp; done))))
      try simp only [Act.put, List.setIfInBounds_toArray, List.set_cons_zero, List.set_cons_succ]
      refine wpG_takeB (i := 2) (oi := ⟨some 29, _, _, _, _, _⟩) (v := .pointer (some ⟨sb, 0, none⟩)) rfl (by kernel_rfl) (by kernel_rfl) (by kernel_rfl) (by decide) (fun _ _ _ h => h) h01 rfl hHeld (Or.inl ⟨by rfl, ?_⟩) ?_
      · (intro W9 hSw; go_simp; (try (first | with_reducible rfl | rfl | (simp; done))))
      try simp only [Act.put, List.setIfInBounds_toArray, List.set_cons_zero, List.set_cons_succ]
      refine wpG_takeB (i := 3) (oi := ⟨some 30, _, _, _, _, _⟩) (v := .pointer (some ⟨sb, 0, none⟩)) rfl (by kernel_rfl) (by kernel_rfl) (by kernel_rfl) (by decide) (fun _ _ _ h => h) h01 rfl hHeld (Or.inl ⟨by rfl, ?_⟩) ?_
      · (intro W9 hSw; go_simp; (try (first | with_reducible rfl | rfl | (simp; done))))
      try simp only [Act.put, List.setIfInBounds_toArray, List.set_cons_zero, List.set_cons_succ]
      refine wpG_takeB (i := 4) (oi := ⟨some 31, _, _, _, _, _⟩) (v := .pointer (some ⟨sb, 0, none⟩)) rfl (by kernel_rfl) (by kernel_rfl) (by kernel_rfl) (by decide) (fun _ _ _ h => h) h01 rfl hHeld (Or.inl ⟨by rfl, ?_⟩) ?_
      · (intro W9 hSw; go_simp; (try (first | with_reducible rfl | rfl | (simp; done))))
      try simp only [Act.put, List.setIfInBounds_toArray, List.set_cons_zero, List.set_cons_succ]
      refine wpG_takeB (i := 5) (oi := ⟨some 32, _, _, _, _, _⟩) (v := .pointer (some ⟨sb, 0, none⟩)) rfl (by kernel_rfl) (by kernel_rfl) (by kernel_rfl) (by decide) (fun _ _ _ h => h) h01 rfl hHeld (Or.inl ⟨by rfl, ?_⟩) ?_
      · (intro W9 hSw; go_simp; (try (first | with_reducible rfl | rfl | (simp; done))))
      try simp only [Act.put, List.setIfInBounds_toArray, List.set_cons_zero, List.set_cons_succ]
      refine wpG_oneB (i := 6) (o := ⟨some 33, _, _, _, _, _⟩) (by kernel_rfl) rfl rfl (fun K hK => ?_)
      go_simp
      (with_reducible refine (C71b.out _ HS4.out.drew).mono ?_); rintro e w5 ⟨rfl, hb5⟩
      have HS5 := Lib.hid (HS4.out.drew.below hb5)
      have HB5 := Lib.hid hb5
      clear hb5
      refine hK.out _ _ trivial (fun hHeld => ?_)
      clear hK K
      try simp only [Act.put, List.setIfInBounds_toArray, List.set_cons_zero, List.set_cons_succ]
      refine wpG_oneB (i := 7) (o := ⟨some 34, _, _, _, _, _⟩) (by kernel_rfl) rfl rfl (fun K hK => ?_)
      go_simp
      (with_reducible refine (C60.out _ HS5.out).mono ?_); rintro e w6 ⟨rfl, hs6, hb6⟩
      have he : i + 1 + n1 = i + (n1 + 1) := by omega
      rw [he] at hs6 ⊢
      exact ⟨rfl, ((only_drew ((only_drew (HO2.out.tr HO3.out.sb)).tr HO4.out.sb)).below HB5.out).below hb6, rfl, hs6⟩
    | true =>
      rw [hb2] at C71b
      rw [if_pos rfl]
      have C60 := Lib.hid (fun (W : World) (hs : Sc L sb (i + 1 + n1) W) => need_sy L sb (i + 1 + n1) W hs)
      have C73b := Lib.hid (fun (W : World) (hs : Sc L sb (i + 1 + n1) W) => pass_any L sb (i + 1 + n1) W hs (headP_drop hb2) hn)
      clear h ht hn hb hb2 hi0 hn1 hle hw hlt
      go_enter Tryd.func57, Tryd.ntmps57
      go_upto_region 3 with (go_at_call 71; (with_reducible refine C71.out.mono ?_); rintro e w1 ⟨rfl, hb1⟩; have HS1 := Lib.hid (HS.out.below hb1); have HT1 := Lib.hid (HT.out.below hb1); have HO1 : Hid (Only (fun b => b = sb ∨ b = tb) w w1) := Lib.hid (Only.of_below hb1); clear hb1)
      have e0 := Blk.cell HT1.out 0
      have f0 := Blk.frozen HT1.out 0
      simp only [List.getElem?_toArray, List.getElem?_cons_zero] at e0
      go_upto_region 4 with fail
      have HS2 := Lib.hid (HS1.out.far hne 0 (.int .i64 ((3 : Nat) : Int)))
      have HT2 := Lib.hid (TB.kind (j := 3) HT1.out)
      have HO2 : Hid (Only (fun b => b = sb ∨ b = tb) w (w1.setCell ⟨tb, 0, none⟩ (.int .i64 ((3 : Nat) : Int)))) := Lib.hid (Only.set HO1.out (fun _ => .inr rfl) 0 _)
      obtain ⟨W2, hW2⟩ : ∃ W2, w1.setCell ⟨tb, 0, none⟩ (.int .i64 3) = W2 := ⟨_, rfl⟩
      have hW2' : w1.setCell ⟨tb, 0, none⟩ (.int .i64 ((3 : Nat) : Int)) = W2 := hW2
      rw [hW2'] at HS2 HT2 HO2
      rw [hW2]
      clear hW2 hW2' e0 f0
      go_upto_region 5 with (go_at_call 73; (with_reducible refine (C73.out _ HS2.out).mono ?_); rintro e w3 ⟨rfl, hs3, ho3⟩; have HS3 := Lib.hid hs3; have HO3 := Lib.hid ho3; clear hs3 ho3)
      refine wp_region_G (S0 := (StA sb ⟨L.toArray⟩)) (S1 := (StA sb ⟨L.toArray⟩)) (c := 99) (by kernel_rfl) ?_
      have hHeld := HS3.out.drew.sta
      have h01 := (fun (W : World) (h : (StA sb ⟨L.toArray⟩) W) => h)
      refine wpG_takeB (i := 0) (oi := ⟨some 17, _, _, _, _, _⟩) (v := .pointer (some ⟨sb, 0, none⟩)) rfl (by kernel_rfl) (by kernel_rfl) (by kernel_rfl) (by decide) (fun _ _ _ h => h) h01 rfl hHeld (Or.inl ⟨by rfl, ?_⟩) ?_
      · (intro W9 hSw; have v1 : _ = _ := hSw; have hsz := HSZ.out; go_simp; (try (first | with_reducible rfl | rfl | (simp; done))))
      try simp only [Act.put, List.setIfInBounds_toArray, List.set_cons_zero, List.set_cons_succ]
      refine wpG_takeB (i := 1) (oi := ⟨some 18, _, _, _, _, _⟩) (v := .pointer (some ⟨sb, 0, none⟩)) rfl (by kernel_rfl) (by kernel_rfl) (by kernel_rfl) (by decide) (fun _ _ _ h => h) h01 rfl hHeld (Or.inl ⟨by rfl, ?_⟩) ?_
      · (intro W9 hSw; have v1 : _ = _ := hSw; have hsz := HSZ.out; go_simp; (try (first | with_reducible rfl | rfl | (simp; done))))
      try simp only [Act.put, List.setIfInBounds_toArray, List.set_cons_zero, List.set_cons_succ]
      refine wpG_takeB (i := 2) (oi := ⟨some 19, _, _, _, _, _⟩) (v := .pointer (some ⟨sb, 0, none⟩)) rfl (by kernel_rfl) (by kernel_rfl) (by kernel_rfl) (by decide) (fun _ _ _ h => h) h01 rfl hHeld (Or.inl ⟨by rfl, ?_⟩) ?_
      · (intro W9 hSw; have v1 : _ = _ := hSw; have hsz := HSZ.out; go_simp; (try (first | with_reducible rfl | rfl | (simp; done))))
      try simp only [Act.put, List.setIfInBounds_toArray, List.set_cons_zero, List.set_cons_succ]
      refine wpG_takeB (i := 3) (oi := ⟨some 20, _, _, _, _, _⟩) (v := .pointer (some ⟨sb, 0, none⟩)) rfl (by kernel_rfl) (by kernel_rfl) (by kernel_rfl) (by decide) (fun _ _ _ h => h) h01 rfl hHeld (Or.inl ⟨by rfl, ?_⟩) ?_
      · (intro W9 hSw; have v1 : _ = _ := hSw; have hsz := HSZ.out; go_simp; (try (first | with_reducible rfl | rfl | (simp; done))))
      try simp only [Act.put, List.setIfInBounds_toArray, List.set_cons_zero, List.set_cons_succ]
      refine wpG_takeB (i := 4) (oi := ⟨some 21, _, _, _, _, _⟩) (v := .pointer (some ⟨sb, 0, none⟩)) rfl (by kernel_rfl) (by kernel_rfl) (by kernel_rfl) (by decide) (fun _ _ _ h => h) h01 rfl hHeld (Or.inl ⟨by rfl, ?_⟩) ?_
      · (intro W9 hSw; have v1 : _ = _ := hSw; have hsz := HSZ.out; go_simp; (try (first | with_reducible rfl | rfl | (simp; done))))
      try simp only [Act.put, List.setIfInBounds_toArray, List.set_cons_zero, List.set_cons_succ]
      refine wpG_takeB (i := 5) (oi := ⟨some 22, _, _, _, _, _⟩) (v := .pointer (some ⟨sb, 0, none⟩)) rfl (by kernel_rfl) (by kernel_rfl) (by kernel_rfl) (by decide) (fun _ _ _ h => h) h01 rfl hHeld (Or.inl ⟨by rfl, ?_⟩) ?_
      · (intro W9 hSw; have v1 : _ = _ := hSw; have hsz := HSZ.out; go_simp; (try (first | with_reducible rfl | rfl | (simp; done))))
      try simp only [Act.put, List.setIfInBounds_toArray, List.set_cons_zero, List.set_cons_succ]
      refine wpG_takeB (i := 6) (oi := ⟨some 23, _, _, _, _, _⟩) (v := .pointer (some ⟨sb, 0, none⟩)) rfl (by kernel_rfl) (by kernel_rfl) (by kernel_rfl) (by decide) (fun _ _ _ h => h) h01 rfl hHeld (Or.inl ⟨by rfl, ?_⟩) ?_
      · (intro W9 hSw; have v1 : _ = _ := hSw; have hsz := HSZ.out; go_simp; (try (first | with_reducible rfl | rfl | (simp; done))))
      try simp only [Act.put, List.setIfInBounds_toArray, List.set_cons_zero, List.set_cons_succ]
      refine wpG_takeB (i := 7) (oi := ⟨some 24, _, _, _, _, _⟩) (v := .string ⟨L.toArray⟩) rfl (by kernel_rfl) (by kernel_rfl) (by kernel_rfl) (by decide) (fun _ _ _ h => h) h01 rfl hHeld (Or.inl ⟨by rfl, ?_⟩) ?_
      · (intro W9 hSw; have v1 : _ = _ := hSw; have hsz := HSZ.out; go_simp; (try (first | with_reducible rfl | rfl | (simp; done))))
      try simp only [Act.put, List.setIfInBounds_toArray, List.set_cons_zero, List.set_cons_succ]
      refine wpG_takeB (i := 8) (oi := ⟨some 25, _, _, _, _, _⟩) (v := .int .i64 (L.length : Int)) rfl (by kernel_rfl) (by kernel_rfl) (by kernel_rfl) (by decide) (fun _ _ _ h => h) h01 rfl hHeld (Or.inl ⟨by rfl, ?_⟩) ?_
      · (intro W9 hSw; have v1 : _ = _ := hSw; have hsz := HSZ.out; go_simp; (try (first | with_reducible rfl | rfl | (simp; done))))
      try simp only [Act.put, List.setIfInBounds_toArray, List.set_cons_zero, List.set_cons_succ]
      refine wpG_oneB (i := 9) (o := ⟨some 26, _, _, _, _, _⟩) (by kernel_rfl) rfl rfl (fun K hK => ?_)
      go_simp
      (try simp only [HSZ.out])
      (with_reducible refine (C68.out _ HS3.out.drew).mono ?_); rintro e w4 ⟨rfl, hs4, ho4⟩
      have HS4 := Lib.hid hs4
      have HO4 := Lib.hid ho4
      clear hs4 ho4
      refine hK.out _ _ HS4.out.sta (fun hHeld => ?_)
      clear hK K
      try simp only [Act.put, List.setIfInBounds_toArray, List.set_cons_zero, List.set_cons_succ]
      refine wpG_done (by kernel_rfl) ?_ _
      clear hHeld h01
      go_upto_region 6 with fail
      refine wp_region_G (S0 := (fun _ : World => True)) (S1 := (fun _ : World => True)) (c := 99) (by kernel_rfl) ?_
      have hHeld := trivial
      have h01 := (fun (W : World) (h : (fun _ : World => True) W) => h)
      refine wpG_takeB (i := 0) (oi := ⟨some 27, _, _, _, _, _⟩) (v := .pointer (some ⟨sb, 0, none⟩)) rfl (by kernel_rfl) (by kernel_rfl) (by kernel_rfl) (by decide) (fun _ _ _ h => h) h01 rfl hHeld (Or.inl ⟨by rfl, ?_⟩) ?_
      · (intro W9 hSw; go_simp; (try (first | with_reducible rfl | rfl | (simp; done))))
      try simp only [Act.put, List.setIfInBounds_toArray, List.set_cons_zero, List.set_cons_succ]
      refine wpG_takeB (i := 1) (oi := ⟨some 28, _, _, _, _, _⟩) (v := .pointer (some ⟨sb, 0, none⟩)) rfl (by kernel_rfl) (by kernel_rfl) (by kernel_rfl) (by decide) (fun _ _ _ h => h) h01 rfl hHeld (Or.inl ⟨by rfl, ?_⟩) ?_
      · (intro W9 hSw; go_simp; (try (first | with_reducible rfl | rfl | (simp; done))))
      try simp only [Act.put, List.setIfInBounds_toArray, List.set_cons_zero, List.set_cons_succ]
      refine wpG_takeB (i := 2) (oi := ⟨some 29, _, _, _, _, _⟩) (v := .pointer (some ⟨sb, 0, none⟩)) rfl (by kernel_rfl) (by kernel_rfl) (by kernel_rfl) (by decide) (fun _ _ _ h => h) h01 rfl hHeld (Or.inl ⟨by rfl, ?_⟩) ?_
      · (intro W9 hSw; go_simp; (try (first | with_reducible rfl | rfl | (simp; done))))
      try simp only [Act.put, List.setIfInBounds_toArray, List.set_cons_zero, List.set_cons_succ]
      refine wpG_takeB (i := 3) (oi := ⟨some 30, _, _, _, _, _⟩) (v := .pointer (some ⟨sb, 0, none⟩)) rfl (by kernel_rfl) (by kernel_rfl) (by kernel_rfl) (by decide) (fun _ _ _ h => h) h01 rfl hHeld (Or.inl ⟨by rfl, ?_⟩) ?_
      · (intro W9 hSw; go_simp; (try (first | with_reducible rfl | rfl | (simp; done))))
      try simp only [Act.put, List.setIfInBounds_toArray, List.set_cons_zero, List.set_cons_succ]
      refine wpG_takeB (i := 4) (oi := ⟨some 31, _, _, _, _, _⟩) (v := .pointer (some ⟨sb, 0, none⟩)) rfl (by kernel_rfl) (by kernel_rfl) (by kernel_rfl) (by decide) (fun _ _ _ h => h) h01 rfl hHeld (Or.inl ⟨by rfl, ?_⟩) ?_
      · (intro W9 hSw; go_simp; (try (first | with_reducible rfl | rfl | (simp; done))))
      try simp only [Act.put, List.setIfInBounds_toArray, List.set_cons_zero, List.set_cons_succ]
      refine wpG_takeB (i := 5) (oi := ⟨some 32, _, _, _, _, _⟩) (v := .pointer (some ⟨sb, 0, none⟩)) rfl (by kernel_rfl) (by kernel_rfl) (by kernel_rfl) (by decide) (fun _ _ _ h => h) h01 rfl hHeld (Or.inl ⟨by rfl, ?_⟩) ?_
      · (intro W9 hSw; go_simp; (try (first | with_reducible rfl | rfl | (simp; done))))
      try simp only [Act.put, List.setIfInBounds_toArray, List.set_cons_zero, List.set_cons_succ]
      refine wpG_oneB (i := 6) (o := ⟨some 33, _, _, _, _, _⟩) (by kernel_rfl) rfl rfl (fun K hK => ?_)
      go_simp
      (with_reducible refine (C71b.out _ HS4.out.drew).mono ?_); rintro e w5 ⟨rfl, hb5⟩
      have HS5 := Lib.hid (HS4.out.drew.below hb5)
      have HB5 := Lib.hid hb5
      clear hb5
      refine hK.out _ _ trivial (fun hHeld => ?_)
      clear hK K
      try simp only [Act.put, List.setIfInBounds_toArray, List.set_cons_zero, List.set_cons_succ]
      refine wpG_oneB (i := 7) (o := ⟨some 34, _, _, _, _, _⟩) (by kernel_rfl) rfl rfl (fun K hK => ?_)
      go_simp
      (with_reducible refine (C60.out _ HS5.out).mono ?_); rintro e w6 ⟨rfl, hs6, hb6⟩
      have HS6 := Lib.hid hs6
      have HB6 := Lib.hid hb6
      clear hs6 hb6
      refine hK.out _ _ trivial (fun hHeld => ?_)
      clear hK K
      try simp only [Act.put, List.setIfInBounds_toArray, List.set_cons_zero, List.set_cons_succ]
      refine wpG_done (by kernel_rfl) ?_ _
      clear hHeld h01
      go_wp2_with (go_at_call 73; (with_reducible refine (C73b.out _ HS6.out).mono ?_); rintro e w7 ⟨rfl, hs7, ho7⟩; have HS7 := Lib.hid hs7; have HO7 := Lib.hid ho7; clear hs7 ho7)
      go_ret
      have HT3 : Hid (TB tb 3 tx 0 ln cl w3) := Lib.hid (HT2.out.only HO3.out (fun e => hne e.symm))
      have HT4 : Hid (TB tb 3 tx 0 ln cl w4) := Lib.hid (TB.only (show TB tb 3 tx 0 ln cl w3.drew from Blk.drew1 HT3.out) HO4.out (fun e => hne e.symm))
      have HT6 : Hid (TB tb 3 tx 0 ln cl w6) := Lib.hid (TB.below (TB.below (show TB tb 3 tx 0 ln cl w4.drew from Blk.drew1 HT4.out) HB5.out) HB6.out)
      have he : i + 1 + n1 + 1 = i + (n1 + 2) := by omega
      have hf := HS7.out
      rw [he] at hf
      exact ⟨(((only_drew ((only_drew (HO2.out.tr HO3.out.sb)).tr HO4.out.sb)).below HB5.out).below HB6.out).tr HO7.out.sb, rfl, hf, TB.only HT6.out HO7.out (fun e => hne e.symm)⟩
set_option maxRecDepth 100000 in
set_option maxHeartbeats 1000000 in
theorem symbol_any (L : List UInt8) (sb tb i : Nat) (tx : ByteArray) (ln cl : Int) (w : World) (h : Sc L sb i w) (ht : TB tb 0 tx 0 ln cl w) (hn : L.length ≤ 1000000) (hi0 : i ≤ L.length) :
    Calls Tryd.prog 58 #[.pointer (some ⟨sb, 0, none⟩), .pointer (some ⟨tb, 0, none⟩)] w (KindR L sb tb i tx ln cl (if headP symI (L.drop i) = true then some (symL (L.drop i)) else none) w) := by
  have hne := h.ne ht
  have C66 := Lib.hid (next_sc 78 symI pf78 L sb i w h hn)
  have HS := Lib.hid h
  have HT := Lib.hid ht
  cases hb : headP symI (L.drop i) with
  | false =>
    rw [hb] at C66
    rw [if_neg (by simp)]
    clear h ht hn hb hi0
    go_enter Tryd.func58, Tryd.ntmps58
    go_wp2_with (go_at_call 66; (with_reducible refine C66.out.mono ?_); rintro e w1 ⟨rfl, hs1, hb1⟩; have HB1 := Lib.hid hb1; clear hb1 hs1)
    go_ret
    exact ⟨Only.of_below HB1.out, rfl, HS.out.below HB1.out, HT.out.below HB1.out⟩
  | true =>
    rw [hb] at C66
    rw [if_pos rfl]
    have hlt : i < L.length := headP_drop hb
    have C73 := Lib.hid (fun (W : World) (hs : Sc L sb i W) => pass_any L sb i W hs hlt hn)
    have hln : (L.drop i).length ≤ 1000000 := by rw [List.length_drop]; omega
    have CA : Hid (∀ W, Calls Tryd.prog 72 #[.string ⟨(L.drop i).toArray⟩, .string ⟨#[46, 46]⟩] W fun e w' => e = .returned (.bool (headP (isI 46) (L.drop i) && headP (isI 46) ((L.drop i).drop 1))) ∧ w' = W) := Lib.hid (fun W => pre72 (L.drop i) ⟨#[46, 46]⟩ 46 46 rfl W hln)
    have CB : Hid (∀ W, Calls Tryd.prog 72 #[.string ⟨(L.drop i).toArray⟩, .string ⟨#[45, 62]⟩] W fun e w' => e = .returned (.bool (headP (isI 45) (L.drop i) && headP (isI 62) ((L.drop i).drop 1))) ∧ w' = W) := Lib.hid (fun W => pre72 (L.drop i) ⟨#[45, 62]⟩ 45 62 rfl W hln)
    have hsl := run_from L i hi0 hn
    have HST : Hid (∀ W, Sc L sb i W → W.cell? ⟨sb, 0, none⟩ = some (.string ⟨L.toArray⟩) ∧ W.cell? ⟨sb, 1, none⟩ = some (.int .i64 (i : Int))) := Lib.hid (fun W hs => ⟨Blk.cell hs 0, Blk.cell hs 1⟩)
    unfold symL
    have HTW : Hid (twoL (L.drop i) = true → i + 1 < L.length) := Lib.hid (fun ht2 => by
      unfold twoL at ht2
      simp only [Bool.or_eq_true, Bool.and_eq_true, List.drop_drop] at ht2
      rcases ht2 with h2 | h2 <;> exact headP_drop h2.2)
    have C73b := Lib.hid (fun (W : World) (hs : Sc L sb (i + 1) W) (h1 : i + 1 < L.length) => pass_any L sb (i + 1) W hs h1 hn)
    have hd : twoL (L.drop i) = ((headP (isI 46) (L.drop i) && headP (isI 46) ((L.drop i).drop 1)) || (headP (isI 45) (L.drop i) && headP (isI 62) ((L.drop i).drop 1))) := rfl
    obtain ⟨a, ha⟩ : ∃ a, (headP (isI 46) (L.drop i) && headP (isI 46) ((L.drop i).drop 1)) = a := ⟨_, rfl⟩
    obtain ⟨b, hb9⟩ : ∃ b, (headP (isI 45) (L.drop i) && headP (isI 62) ((L.drop i).drop 1)) = b := ⟨_, rfl⟩
    rw [ha] at CA hd
    rw [hb9] at CB hd
    rw [hd] at HTW ⊢
    generalize (⟨(L.drop i).toArray⟩ : ByteArray) = Sr at *
    generalize (⟨L.toArray⟩ : ByteArray) = St at *
    obtain ⟨k, hk⟩ : ∃ k : Int, (i : Int) = k := ⟨_, rfl⟩
    rw [hk] at hsl HST
    clear h ht hn hb hi0 hlt hd ha hb9 hln hk
    go_enter Tryd.func58, Tryd.ntmps58
    go_upto_region 3 with (go_at_call 66; (with_reducible refine C66.out.mono ?_); rintro e w1 ⟨rfl, hs1, hb1⟩; have HS1 := Lib.hid hs1; have HT1 := Lib.hid (HT.out.below hb1); have HO1 : Hid (Only (fun b => b = sb ∨ b = tb) w w1) := Lib.hid (Only.of_below hb1); clear hb1 hs1)
    have e0 := Blk.cell HT1.out 0
    have f0 := Blk.frozen HT1.out 0
    simp only [List.getElem?_toArray, List.getElem?_cons_zero] at e0
    go_upto_region 4 with fail
    have HS2 := Lib.hid (HS1.out.far hne 0 (.int .i64 ((4 : Nat) : Int)))
    have HT2 := Lib.hid (TB.kind (j := 4) HT1.out)
    have HO2 : Hid (Only (fun b => b = sb ∨ b = tb) w (w1.setCell ⟨tb, 0, none⟩ (.int .i64 ((4 : Nat) : Int)))) := Lib.hid (Only.set HO1.out (fun _ => .inr rfl) 0 _)
    obtain ⟨W2, hW2⟩ : ∃ W2, w1.setCell ⟨tb, 0, none⟩ (.int .i64 4) = W2 := ⟨_, rfl⟩
    have hW2' : w1.setCell ⟨tb, 0, none⟩ (.int .i64 ((4 : Nat) : Int)) = W2 := hW2
    rw [hW2'] at HS2 HT2 HO2
    rw [hW2]
    clear hW2 hW2' e0 f0
    obtain ⟨s0, s1⟩ := HST.out _ HS2.out
    go_quiet (fail)
    clear s0 s1
    have HS3 := Lib.hid (HS2.out.drewN nq)
    have HT3 : Hid (TB tb 4 tx 0 ln cl (W2.drewN nq)) := Lib.hid (Blk.drewN HT2.out nq)
    have HO3 := Lib.hid (only_drewN HO2.out nq)
    obtain ⟨W3, hW3⟩ : ∃ W3, W2.drewN nq = W3 := ⟨_, rfl⟩
    rw [hW3] at HS3 HT3 HO3
    rw [hW3]
    clear hW3
    have CALLP := trivial
    cases a with
    | true =>
      have H1 := Lib.hid (HTW.out (by rfl))
      go_wp2_with (first | (go_at_call 73; first | ((with_reducible refine (C73.out _ HS3.out).mono ?_); rintro e w4 ⟨rfl, hs4, ho4⟩; have HS4 := Lib.hid hs4; have HO4 := Lib.hid ho4; clear hs4 ho4) | ((with_reducible refine (C73b.out _ HS4.out H1.out).mono ?_); rintro e w5 ⟨rfl, hs5, ho5⟩; have HS5 := Lib.hid hs5; have HO5 := Lib.hid ho5; clear hs5 ho5)) | (go_at_call 72; first | ((with_reducible refine (CA.out _).mono ?_); rintro e w8 ⟨rfl, rfl⟩) | ((with_reducible refine (CB.out _).mono ?_); rintro e w8 ⟨rfl, rfl⟩)))
      go_ret
      have HT4 := Lib.hid (HT3.out.only HO4.out (fun e => hne e.symm))
      exact ⟨(HO3.out.tr HO4.out.sb).tr HO5.out.sb, rfl, HS5.out, HT4.out.only HO5.out (fun e => hne e.symm)⟩
    | false =>
      cases b with
      | true =>
        have H1 := Lib.hid (HTW.out (by rfl))
        go_wp2_with (first | (go_at_call 73; first | ((with_reducible refine (C73.out _ HS3.out).mono ?_); rintro e w4 ⟨rfl, hs4, ho4⟩; have HS4 := Lib.hid hs4; have HO4 := Lib.hid ho4; clear hs4 ho4) | ((with_reducible refine (C73b.out _ HS4.out H1.out).mono ?_); rintro e w5 ⟨rfl, hs5, ho5⟩; have HS5 := Lib.hid hs5; have HO5 := Lib.hid ho5; clear hs5 ho5)) | (go_at_call 72; first | ((with_reducible refine (CA.out _).mono ?_); rintro e w8 ⟨rfl, rfl⟩) | ((with_reducible refine (CB.out _).mono ?_); rintro e w8 ⟨rfl, rfl⟩)))
        go_ret
        have HT4 := Lib.hid (HT3.out.only HO4.out (fun e => hne e.symm))
        exact ⟨(HO3.out.tr HO4.out.sb).tr HO5.out.sb, rfl, HS5.out, HT4.out.only HO5.out (fun e => hne e.symm)⟩
      | false =>
        skip
        go_wp2_with (first | (go_at_call 73; first | ((with_reducible refine (C73.out _ HS3.out).mono ?_); rintro e w4 ⟨rfl, hs4, ho4⟩; have HS4 := Lib.hid hs4; have HO4 := Lib.hid ho4; clear hs4 ho4) | ((with_reducible refine (C73b.out _ HS4.out H1.out).mono ?_); rintro e w5 ⟨rfl, hs5, ho5⟩; have HS5 := Lib.hid hs5; have HO5 := Lib.hid ho5; clear hs5 ho5)) | (go_at_call 72; first | ((with_reducible refine (CA.out _).mono ?_); rintro e w8 ⟨rfl, rfl⟩) | ((with_reducible refine (CB.out _).mono ?_); rintro e w8 ⟨rfl, rfl⟩)))
        go_ret
        have HT4 := Lib.hid (HT3.out.only HO4.out (fun e => hne e.symm))
        exact ⟨HO3.out.tr HO4.out.sb, rfl, HS4.out, HT4.out⟩

end Go.Proofs.YtkihoekldklkhaaDoor
