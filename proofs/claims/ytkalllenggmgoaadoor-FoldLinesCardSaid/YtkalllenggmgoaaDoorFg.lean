/- Valid headers: the program and the reference. -/
import Derived.Test.YtkalllenggmgoaaDoorFf
import Derived.Deep.CutRange
namespace Go.Proofs.YtkalllenggmgoaaDoor
open Go.RowKit
set_option linter.unusedVariables false
set_option linter.unusedSimpArgs false

/-- Trim leaves a text as it is if it begins and ends with no space. -/
theorem trim_eq (t : List UInt8) : (Lib.trimB t 32 = t) ↔ (t.isEmpty || (decide (t.head? ≠ some 32) && decide (t.getLast? ≠ some 32))) = true := by
  constructor
  · intro h
    cases t with
    | nil => rfl
    | cons a t =>
      rw [Bool.or_eq_true]
      right
      rw [Bool.and_eq_true, decide_eq_true_eq, decide_eq_true_eq]
      have hlen : ∀ l : List UInt8, (Lib.trimRightB l 32).length ≤ l.length := fun l => by
        unfold Lib.trimRightB
        rw [List.length_reverse]
        have := List.IsSuffix.length_le (List.dropWhile_suffix (l := l.reverse) (· == (32 : UInt8)))
        simpa using this
      have hlen2 : ∀ l : List UInt8, (Lib.trimLeftB l 32).length ≤ l.length := fun l => List.IsSuffix.length_le (List.dropWhile_suffix (l := l) (· == (32 : UInt8)))
      have hR : Lib.trimRightB (a :: t) 32 = a :: t := by
        have h1 := congrArg List.length h
        have h2 := hlen2 (Lib.trimRightB (a :: t) 32)
        have h3 := hlen (a :: t)
        unfold Lib.trimB at h1
        have h4 : (Lib.trimRightB (a :: t) 32).length = (a :: t).length := by omega
        unfold Lib.trimRightB at h4 ⊢
        have h5 : ((a :: t).reverse.dropWhile (· == (32 : UInt8))) = (a :: t).reverse := by
          refine List.IsSuffix.eq_of_length (List.dropWhile_suffix _) (by simpa using h4)
        rw [h5, List.reverse_reverse]
      have hL : Lib.trimLeftB (a :: t) 32 = a :: t := by
        have h1 := h
        unfold Lib.trimB at h1
        rwa [hR] at h1
      refine ⟨fun e => ?_, fun e => ?_⟩
      · simp at e
        subst e
        have h1 := congrArg List.length hL
        have h2 : Lib.trimLeftB (32 :: t) 32 = Lib.trimLeftB t 32 := by unfold Lib.trimLeftB; simp
        rw [h2] at h1
        have := hlen2 t
        simp at h1
        omega
      · have h1 : (a :: t).reverse.head? = some 32 := by rw [List.head?_reverse]; exact e
        have h2 := congrArg List.length hR
        unfold Lib.trimRightB at h2
        cases hrev : (a :: t).reverse with
        | nil => simp at hrev
        | cons b m =>
          rw [hrev] at h1 h2
          simp at h1
          subst h1
          have h3 : (List.dropWhile (· == (32 : UInt8)) (32 :: m)) = List.dropWhile (· == (32 : UInt8)) m := by simp
          rw [h3] at h2
          have h4 := List.IsSuffix.length_le (List.dropWhile_suffix (l := m) (· == (32 : UInt8)))
          have h5 := congrArg List.length hrev
          simp at h2 h5
          omega
  · intro h
    cases t with
    | nil => rfl
    | cons a t =>
      rw [List.isEmpty_cons, Bool.false_or, Bool.and_eq_true, decide_eq_true_eq, decide_eq_true_eq] at h
      have hR : Lib.trimRightB (a :: t) 32 = a :: t := by
        unfold Lib.trimRightB
        cases hrev : (a :: t).reverse with
        | nil => simp at hrev
        | cons b m =>
          have h1 : (a :: t).getLast? = some b := by rw [← List.head?_reverse, hrev]; rfl
          have hb : (b == 32) = false := by
            rw [beq_eq_false_iff_ne]
            rintro rfl
            exact h.2 h1
          rw [List.dropWhile_cons_of_neg (by simp [hb]), ← hrev, List.reverse_reverse]
      have hL : Lib.trimLeftB (a :: t) 32 = a :: t := by
        unfold Lib.trimLeftB
        have ha : (a == 32) = false := by
          rw [beq_eq_false_iff_ne]
          rintro rfl
          exact h.1 rfl
        rw [List.dropWhile_cons_of_neg (by simp [ha])]
      unfold Lib.trimB
      rw [hR, hL]
theorem txtI_C (c : UInt8) : txtI (c.toNat : Int) = txtC c := by
  unfold txtI txtC
  have : (((c.toNat : Nat) : Int) == 32) = decide (c = 32) := by
    rw [Bool.eq_iff_iff, beq_iff_eq, decide_eq_true_eq, u8_iff]
    constructor
    · intro h; have : c.toNat = 32 := by omega
      rw [this]; rfl
    · intro h; rw [h]; rfl
  rw [this]
  rfl
theorem allB_txt (t : List UInt8) : allB txtI t = t.all txtC := by
  unfold allB
  congr 1
  funext c
  exact txtI_C c
/-- Valid, as the program asks it. -/
theorem validH_b (h : Hd) (e : Bool) (he : ((⟨(Lib.trimB h.t 32).toArray⟩ : ByteArray).toList == (⟨h.t.toArray⟩ : ByteArray).toList) = e) : validH h = (nameOk h.n && (e && allB txtI h.t)) := by
  have e1 : e = (h.t.isEmpty || (decide (h.t.head? ≠ some 32) && decide (h.t.getLast? ≠ some 32))) := by
    rw [← he, Bool.eq_iff_iff, ← trim_eq, beq_iff_eq, Lib.toList_data, Lib.toList_data]
  unfold validH textOk
  rw [← e1, allB_txt, Bool.and_comm (h.t.all txtC)]
def BoxH (g : Nat) (n t : ByteArray) (W : World) : Prop := W.cell? ⟨g, 0, none⟩ = some (.string n) ∧ W.cell? ⟨g, 1, none⟩ = some (.string t)
theorem BoxH.below {g : Nat} {n t : ByteArray} {W W' : World} (h : BoxH g n t W) (hb : Below W.heap.size W W') : BoxH g n t W' := by
  have key : ∀ {a : Addr} {u : Value}, W.cell? a = some u → W'.cell? a = some u := fun h => (hb.cell (World.block_lt_of_cell? _ _ h)).trans h
  exact ⟨key h.1, key h.2⟩
theorem BoxH.new (w : World) (n t : ByteArray) (ty : TypeId) : BoxH w.heap.size n t (w.alloc (.cells #[.string n, .string t] ty)) :=
  ⟨(Blk.new w ty _).cell 0, (Blk.new w ty _).cell 1⟩

set_option maxRecDepth 100000 in
set_option maxHeartbeats 1000000 in
theorem valid_any (h : Hd) (w : World) (hn : h.n.length ≤ 1000000) (ht : h.t.length ≤ 1000000) :
    Calls Tryd.prog 36 #[.agg #[.string ⟨h.n.toArray⟩, .string ⟨h.t.toArray⟩]] w fun e w' => e = .returned (.bool (validH h)) ∧ Below w.heap.size w w' := by
  obtain ⟨e, he⟩ : ∃ e, ((⟨(Lib.trimB h.t 32).toArray⟩ : ByteArray).toList == (⟨h.t.toArray⟩ : ByteArray).toList) = e := ⟨_, rfl⟩
  rw [validH_b h e he]
  have HSE := Lib.hid he
  have C14 := Lib.hid (fun W => name_any h.n W hn)
  have C52 := Lib.hid (fun W => trim_any ⟨h.t.toArray⟩ W (by rw [size_str]; omega))
  have e52 : (⟨h.t.toArray⟩ : ByteArray).data.toList = h.t := rfl
  rw [e52] at C52
  have HCV := Lib.hid (fun W => conv_sr W h.t ht)
  have HC30 := Lib.hid (fun W cap ad (hr : RB W (some ⟨ad, 0, none⟩) h.t.length cap h.t) => contains53_any _ _ cap h.t W hr ht)
  generalize allB txtI h.t = b at *
  generalize nameOk h.n = a at *
  generalize (⟨(Lib.trimB h.t 32).toArray⟩ : ByteArray) = tr at *
  generalize (⟨h.t.toArray⟩ : ByteArray) = st at *
  generalize (⟨h.n.toArray⟩ : ByteArray) = sn at *
  generalize h.t.length = nt at *
  obtain ⟨W1, hW1⟩ : ∃ W1, w.alloc (.cells #[.string sn, .string st] 25) = W1 := ⟨_, rfl⟩
  have HX : Hid (BoxH w.heap.size sn st W1) := Lib.hid (hW1 ▸ BoxH.new w sn st 25)
  have HB1 : Hid (Below w.heap.size w W1) := Lib.hid (hW1 ▸ (Below.refl _ w).alloc (Nat.le_refl _) _)
  have HW1 := Lib.hid hW1
  obtain ⟨bx, hbx⟩ : ∃ bx, w.heap.size = bx := ⟨_, rfl⟩
  have HBX := Lib.hid hbx
  clear hW1 he e52 hn ht
  cases a with
  | false =>
    rw [hbx] at HX
    clear hbx
    go_enter Tryd.func36, Tryd.ntmps36
    go_upto_region 1 with fail
    rw [HW1.out, HBX.out]
    refine wp_region_G (S0 := (BoxH bx sn st)) (S1 := (BoxH bx sn st)) (c := 99) (by kernel_rfl) ?_
    have hHeld := HX.out
    have h01 := (fun (W : World) (h : (BoxH bx sn st) W) => h)
    refine wpG_takeB (i := 0) (oi := ⟨some 3, _, _, _, _, _⟩) (v := .pointer (some ⟨bx, 0, none⟩)) rfl (by kernel_rfl) (by kernel_rfl) (by kernel_rfl) (by decide) (fun _ _ _ h => h) h01 rfl hHeld (Or.inl ⟨by rfl, ?_⟩) ?_
    · (intro W9 hSw; obtain ⟨v1, v2⟩ := hSw; have hse := HSE.out; go_simp; (try (first | with_reducible rfl | rfl | (simp; done))))
    try simp only [Act.put, List.setIfInBounds_toArray, List.set_cons_zero, List.set_cons_succ]
    refine wpG_takeB (i := 1) (oi := ⟨some 4, _, _, _, _, _⟩) (v := .string sn) rfl (by kernel_rfl) (by kernel_rfl) (by kernel_rfl) (by decide) (fun _ _ _ h => h) h01 rfl hHeld (Or.inl ⟨by rfl, ?_⟩) ?_
    · (intro W9 hSw; obtain ⟨v1, v2⟩ := hSw; have hse := HSE.out; go_simp; (try (first | with_reducible rfl | rfl | (simp; done))))
    try simp only [Act.put, List.setIfInBounds_toArray, List.set_cons_zero, List.set_cons_succ]
    refine wpG_oneB (i := 2) (o := ⟨some 5, _, _, _, _, _⟩) (by kernel_rfl) rfl rfl (fun K hK => ?_)
    go_simp
    (with_reducible refine (C14.out _).mono ?_); rintro e9 w8 ⟨rfl, b8⟩
    have HB8 := Lib.hid b8
    clear b8
    have HX8 := Lib.hid (HX.out.below (below_drew (Below.refl _ W1) |>.trans HB8.out))
    have HC8 := Lib.hid (below_drew (Below.refl W1.heap.size W1) |>.trans HB8.out)
    refine hK.out _ _ HX8.out (fun hHeld => ?_)
    clear hK K
    try simp only [Act.put, List.setIfInBounds_toArray, List.set_cons_zero, List.set_cons_succ]
    refine wpG_takeB (i := 3) (oi := ⟨some 6, _, _, _, _, _⟩) (v := .bool false) rfl (by kernel_rfl) (by kernel_rfl) (by kernel_rfl) (by decide) (fun _ _ _ h => h) h01 rfl hHeld (Or.inl ⟨by rfl, ?_⟩) ?_
    · (intro W9 hSw; obtain ⟨v1, v2⟩ := hSw; have hse := HSE.out; go_simp; (try (first | with_reducible rfl | rfl | (simp; done))))
    try simp only [Act.put, List.setIfInBounds_toArray, List.set_cons_zero, List.set_cons_succ]
    refine wpG_takeB (i := 4) (oi := ⟨some 7, _, _, _, _, _⟩) (v := undef) rfl (by kernel_rfl) (by kernel_rfl) (by kernel_rfl) (by decide) (fun _ _ _ h => h) h01 rfl hHeld (Or.inr ⟨by rfl, rfl⟩) ?_
    try simp only [Act.put, List.setIfInBounds_toArray, List.set_cons_zero, List.set_cons_succ]
    refine wpG_takeB (i := 5) (oi := ⟨some 8, _, _, _, _, _⟩) (v := undef) rfl (by kernel_rfl) (by kernel_rfl) (by kernel_rfl) (by decide) (fun _ _ _ h => h) h01 rfl hHeld (Or.inr ⟨by rfl, rfl⟩) ?_
    try simp only [Act.put, List.setIfInBounds_toArray, List.set_cons_zero, List.set_cons_succ]
    refine wpG_takeB (i := 6) (oi := ⟨some 9, _, _, _, _, _⟩) (v := undef) rfl (by kernel_rfl) (by kernel_rfl) (by kernel_rfl) (by decide) (fun _ _ _ h => h) h01 rfl hHeld (Or.inr ⟨by rfl, rfl⟩) ?_
    try simp only [Act.put, List.setIfInBounds_toArray, List.set_cons_zero, List.set_cons_succ]
    refine wpG_takeB (i := 7) (oi := ⟨some 10, _, _, _, _, _⟩) (v := undef) rfl (by kernel_rfl) (by kernel_rfl) (by kernel_rfl) (by decide) (fun _ _ _ h => h) h01 rfl hHeld (Or.inr ⟨by rfl, rfl⟩) ?_
    try simp only [Act.put, List.setIfInBounds_toArray, List.set_cons_zero, List.set_cons_succ]
    refine wpG_takeB (i := 8) (oi := ⟨some 11, _, _, _, _, _⟩) (v := undef) rfl (by kernel_rfl) (by kernel_rfl) (by kernel_rfl) (by decide) (fun _ _ _ h => h) h01 rfl hHeld (Or.inr ⟨by rfl, rfl⟩) ?_
    try simp only [Act.put, List.setIfInBounds_toArray, List.set_cons_zero, List.set_cons_succ]
    refine wpG_takeB (i := 9) (oi := ⟨some 12, _, _, _, _, _⟩) (v := undef) rfl (by kernel_rfl) (by kernel_rfl) (by kernel_rfl) (by decide) (fun _ _ _ h => h) h01 rfl hHeld (Or.inr ⟨by rfl, rfl⟩) ?_
    try simp only [Act.put, List.setIfInBounds_toArray, List.set_cons_zero, List.set_cons_succ]
    refine wpG_takeB (i := 10) (oi := ⟨some 13, _, _, _, _, _⟩) (v := .bool false) rfl (by kernel_rfl) (by kernel_rfl) (by kernel_rfl) (by decide) (fun _ _ _ h => h) h01 rfl hHeld (Or.inl ⟨by rfl, ?_⟩) ?_
    · (intro W9 hSw; obtain ⟨v1, v2⟩ := hSw; have hse := HSE.out; go_simp; (try (first | with_reducible rfl | rfl | (simp; done))))
    try simp only [Act.put, List.setIfInBounds_toArray, List.set_cons_zero, List.set_cons_succ]
    refine wpG_takeB (i := 11) (oi := ⟨some 14, _, _, _, _, _⟩) (v := .bool false) rfl (by kernel_rfl) (by kernel_rfl) (by kernel_rfl) (by decide) (fun _ _ _ h => h) h01 rfl hHeld (Or.inl ⟨by rfl, ?_⟩) ?_
    · (intro W9 hSw; obtain ⟨v1, v2⟩ := hSw; have hse := HSE.out; go_simp; (try (first | with_reducible rfl | rfl | (simp; done))))
    try simp only [Act.put, List.setIfInBounds_toArray, List.set_cons_zero, List.set_cons_succ]
    refine wpG_takeB (i := 12) (oi := ⟨some 15, _, _, _, _, _⟩) (v := undef) rfl (by kernel_rfl) (by kernel_rfl) (by kernel_rfl) (by decide) (fun _ _ _ h => h) h01 rfl hHeld (Or.inr ⟨by rfl, rfl⟩) ?_
    try simp only [Act.put, List.setIfInBounds_toArray, List.set_cons_zero, List.set_cons_succ]
    refine wpG_takeB (i := 13) (oi := ⟨some 16, _, _, _, _, _⟩) (v := undef) rfl (by kernel_rfl) (by kernel_rfl) (by kernel_rfl) (by decide) (fun _ _ _ h => h) h01 rfl hHeld (Or.inr ⟨by rfl, rfl⟩) ?_
    try simp only [Act.put, List.setIfInBounds_toArray, List.set_cons_zero, List.set_cons_succ]
    refine wpG_takeB (i := 14) (oi := ⟨some 17, _, _, _, _, _⟩) (v := undef) rfl (by kernel_rfl) (by kernel_rfl) (by kernel_rfl) (by decide) (fun _ _ _ h => h) h01 rfl hHeld (Or.inr ⟨by rfl, rfl⟩) ?_
    try simp only [Act.put, List.setIfInBounds_toArray, List.set_cons_zero, List.set_cons_succ]
    refine wpG_takeB (i := 15) (oi := ⟨some 18, _, _, _, _, _⟩) (v := undef) rfl (by kernel_rfl) (by kernel_rfl) (by kernel_rfl) (by decide) (fun _ _ _ h => h) h01 rfl hHeld (Or.inr ⟨by rfl, rfl⟩) ?_
    try simp only [Act.put, List.setIfInBounds_toArray, List.set_cons_zero, List.set_cons_succ]
    refine wpG_takeB (i := 16) (oi := ⟨some 19, _, _, _, _, _⟩) (v := undef) rfl (by kernel_rfl) (by kernel_rfl) (by kernel_rfl) (by decide) (fun _ _ _ h => h) h01 rfl hHeld (Or.inr ⟨by rfl, rfl⟩) ?_
    try simp only [Act.put, List.setIfInBounds_toArray, List.set_cons_zero, List.set_cons_succ]
    refine wpG_takeB (i := 17) (oi := ⟨some 20, _, _, _, _, _⟩) (v := .bool false) rfl (by kernel_rfl) (by kernel_rfl) (by kernel_rfl) (by decide) (fun _ _ _ h => h) h01 rfl hHeld (Or.inl ⟨by rfl, ?_⟩) ?_
    · (intro W9 hSw; obtain ⟨v1, v2⟩ := hSw; have hse := HSE.out; go_simp; (try (first | with_reducible rfl | rfl | (simp; done))))
    try simp only [Act.put, List.setIfInBounds_toArray, List.set_cons_zero, List.set_cons_succ]
    refine wpG_takeB (i := 18) (oi := ⟨some 2, _, _, _, _, _⟩) (v := .bool false) rfl (by kernel_rfl) (by kernel_rfl) (by kernel_rfl) (by decide) (fun _ _ _ h => h) h01 rfl hHeld (Or.inl ⟨by rfl, ?_⟩) ?_
    · (intro W9 hSw; obtain ⟨v1, v2⟩ := hSw; have hse := HSE.out; go_simp; (try (first | with_reducible rfl | rfl | (simp; done))))
    try simp only [Act.put, List.setIfInBounds_toArray, List.set_cons_zero, List.set_cons_succ]
    refine wpG_done (by kernel_rfl) ?_ _
    clear hHeld h01
    go_wp2_with fail
    go_ret
    exact ⟨by first | rfl | simp, HB1.out.trans (HC8.out.mono HB1.out.size)⟩
  | true =>
    cases e with
    | false =>
      rw [hbx] at HX
      clear hbx
      go_enter Tryd.func36, Tryd.ntmps36
      go_upto_region 1 with fail
      rw [HW1.out, HBX.out]
      refine wp_region_G (S0 := (BoxH bx sn st)) (S1 := (BoxH bx sn st)) (c := 99) (by kernel_rfl) ?_
      have hHeld := HX.out
      have h01 := (fun (W : World) (h : (BoxH bx sn st) W) => h)
      refine wpG_takeB (i := 0) (oi := ⟨some 3, _, _, _, _, _⟩) (v := .pointer (some ⟨bx, 0, none⟩)) rfl (by kernel_rfl) (by kernel_rfl) (by kernel_rfl) (by decide) (fun _ _ _ h => h) h01 rfl hHeld (Or.inl ⟨by rfl, ?_⟩) ?_
      · (intro W9 hSw; obtain ⟨v1, v2⟩ := hSw; have hse := HSE.out; go_simp; (try (first | with_reducible rfl | rfl | (simp; done))))
      try simp only [Act.put, List.setIfInBounds_toArray, List.set_cons_zero, List.set_cons_succ]
      refine wpG_takeB (i := 1) (oi := ⟨some 4, _, _, _, _, _⟩) (v := .string sn) rfl (by kernel_rfl) (by kernel_rfl) (by kernel_rfl) (by decide) (fun _ _ _ h => h) h01 rfl hHeld (Or.inl ⟨by rfl, ?_⟩) ?_
      · (intro W9 hSw; obtain ⟨v1, v2⟩ := hSw; have hse := HSE.out; go_simp; (try (first | with_reducible rfl | rfl | (simp; done))))
      try simp only [Act.put, List.setIfInBounds_toArray, List.set_cons_zero, List.set_cons_succ]
      refine wpG_oneB (i := 2) (o := ⟨some 5, _, _, _, _, _⟩) (by kernel_rfl) rfl rfl (fun K hK => ?_)
      go_simp
      (with_reducible refine (C14.out _).mono ?_); rintro e9 w8 ⟨rfl, b8⟩
      have HB8 := Lib.hid b8
      clear b8
      have HX8 := Lib.hid (HX.out.below (below_drew (Below.refl _ W1) |>.trans HB8.out))
      have HC8 := Lib.hid (below_drew (Below.refl W1.heap.size W1) |>.trans HB8.out)
      refine hK.out _ _ HX8.out (fun hHeld => ?_)
      clear hK K
      try simp only [Act.put, List.setIfInBounds_toArray, List.set_cons_zero, List.set_cons_succ]
      refine wpG_takeB (i := 3) (oi := ⟨some 6, _, _, _, _, _⟩) (v := .bool true) rfl (by kernel_rfl) (by kernel_rfl) (by kernel_rfl) (by decide) (fun _ _ _ h => h) h01 rfl hHeld (Or.inl ⟨by rfl, ?_⟩) ?_
      · (intro W9 hSw; obtain ⟨v1, v2⟩ := hSw; have hse := HSE.out; go_simp; (try (first | with_reducible rfl | rfl | (simp; done))))
      try simp only [Act.put, List.setIfInBounds_toArray, List.set_cons_zero, List.set_cons_succ]
      refine wpG_takeB (i := 4) (oi := ⟨some 7, _, _, _, _, _⟩) (v := .pointer (some ⟨bx, 1, none⟩)) rfl (by kernel_rfl) (by kernel_rfl) (by kernel_rfl) (by decide) (fun _ _ _ h => h) h01 rfl hHeld (Or.inl ⟨by rfl, ?_⟩) ?_
      · (intro W9 hSw; obtain ⟨v1, v2⟩ := hSw; have hse := HSE.out; go_simp; (try (first | with_reducible rfl | rfl | (simp; done))))
      try simp only [Act.put, List.setIfInBounds_toArray, List.set_cons_zero, List.set_cons_succ]
      refine wpG_takeB (i := 5) (oi := ⟨some 8, _, _, _, _, _⟩) (v := .string st) rfl (by kernel_rfl) (by kernel_rfl) (by kernel_rfl) (by decide) (fun _ _ _ h => h) h01 rfl hHeld (Or.inl ⟨by rfl, ?_⟩) ?_
      · (intro W9 hSw; obtain ⟨v1, v2⟩ := hSw; have hse := HSE.out; go_simp; (try (first | with_reducible rfl | rfl | (simp; done))))
      try simp only [Act.put, List.setIfInBounds_toArray, List.set_cons_zero, List.set_cons_succ]
      refine wpG_takeB (i := 7) (oi := ⟨some 10, _, _, _, _, _⟩) (v := .pointer (some ⟨bx, 1, none⟩)) rfl (by kernel_rfl) (by kernel_rfl) (by kernel_rfl) (by decide) (fun _ _ _ h => h) h01 rfl hHeld (Or.inl ⟨by rfl, ?_⟩) ?_
      · (intro W9 hSw; obtain ⟨v1, v2⟩ := hSw; have hse := HSE.out; go_simp; (try (first | with_reducible rfl | rfl | (simp; done))))
      try simp only [Act.put, List.setIfInBounds_toArray, List.set_cons_zero, List.set_cons_succ]
      refine wpG_takeB (i := 8) (oi := ⟨some 11, _, _, _, _, _⟩) (v := .string st) rfl (by kernel_rfl) (by kernel_rfl) (by kernel_rfl) (by decide) (fun _ _ _ h => h) h01 rfl hHeld (Or.inl ⟨by rfl, ?_⟩) ?_
      · (intro W9 hSw; obtain ⟨v1, v2⟩ := hSw; have hse := HSE.out; go_simp; (try (first | with_reducible rfl | rfl | (simp; done))))
      try simp only [Act.put, List.setIfInBounds_toArray, List.set_cons_zero, List.set_cons_succ]
      refine wpG_oneB (i := 6) (o := ⟨some 9, _, _, _, _, _⟩) (by kernel_rfl) rfl rfl (fun K hK => ?_)
      go_simp
      (with_reducible refine (C52.out _).mono ?_); rintro e9 w7 ⟨rfl, b7⟩
      have HB7 : Hid (Below W1.heap.size W1 w7) := Lib.hid (by rcases b7 with rfl | rfl; exact HC8.out; exact below_drew HC8.out)
      have HX7 := Lib.hid (HX.out.below HB7.out)
      clear b7
      refine hK.out _ _ HX7.out (fun hHeld => ?_)
      clear hK K
      try simp only [Act.put, List.setIfInBounds_toArray, List.set_cons_zero, List.set_cons_succ]
      refine wpG_takeB (i := 9) (oi := ⟨some 12, _, _, _, _, _⟩) (v := .bool false) rfl (by kernel_rfl) (by kernel_rfl) (by kernel_rfl) (by decide) (fun _ _ _ h => h) h01 rfl hHeld (Or.inl ⟨by rfl, ?_⟩) ?_
      · (intro W9 hSw; obtain ⟨v1, v2⟩ := hSw; have hse := HSE.out; go_simp; (try (first | with_reducible rfl | rfl | (simp; done))))
      try simp only [Act.put, List.setIfInBounds_toArray, List.set_cons_zero, List.set_cons_succ]
      refine wpG_takeB (i := 10) (oi := ⟨some 13, _, _, _, _, _⟩) (v := .bool false) rfl (by kernel_rfl) (by kernel_rfl) (by kernel_rfl) (by decide) (fun _ _ _ h => h) h01 rfl hHeld (Or.inl ⟨by rfl, ?_⟩) ?_
      · (intro W9 hSw; obtain ⟨v1, v2⟩ := hSw; have hse := HSE.out; go_simp; (try (first | with_reducible rfl | rfl | (simp; done))))
      try simp only [Act.put, List.setIfInBounds_toArray, List.set_cons_zero, List.set_cons_succ]
      refine wpG_takeB (i := 11) (oi := ⟨some 14, _, _, _, _, _⟩) (v := .bool false) rfl (by kernel_rfl) (by kernel_rfl) (by kernel_rfl) (by decide) (fun _ _ _ h => h) h01 rfl hHeld (Or.inl ⟨by rfl, ?_⟩) ?_
      · (intro W9 hSw; obtain ⟨v1, v2⟩ := hSw; have hse := HSE.out; go_simp; (try (first | with_reducible rfl | rfl | (simp; done))))
      try simp only [Act.put, List.setIfInBounds_toArray, List.set_cons_zero, List.set_cons_succ]
      refine wpG_takeB (i := 12) (oi := ⟨some 15, _, _, _, _, _⟩) (v := undef) rfl (by kernel_rfl) (by kernel_rfl) (by kernel_rfl) (by decide) (fun _ _ _ h => h) h01 rfl hHeld (Or.inr ⟨by rfl, rfl⟩) ?_
      try simp only [Act.put, List.setIfInBounds_toArray, List.set_cons_zero, List.set_cons_succ]
      refine wpG_takeB (i := 13) (oi := ⟨some 16, _, _, _, _, _⟩) (v := undef) rfl (by kernel_rfl) (by kernel_rfl) (by kernel_rfl) (by decide) (fun _ _ _ h => h) h01 rfl hHeld (Or.inr ⟨by rfl, rfl⟩) ?_
      try simp only [Act.put, List.setIfInBounds_toArray, List.set_cons_zero, List.set_cons_succ]
      refine wpG_takeB (i := 14) (oi := ⟨some 17, _, _, _, _, _⟩) (v := undef) rfl (by kernel_rfl) (by kernel_rfl) (by kernel_rfl) (by decide) (fun _ _ _ h => h) h01 rfl hHeld (Or.inr ⟨by rfl, rfl⟩) ?_
      try simp only [Act.put, List.setIfInBounds_toArray, List.set_cons_zero, List.set_cons_succ]
      refine wpG_takeB (i := 15) (oi := ⟨some 18, _, _, _, _, _⟩) (v := undef) rfl (by kernel_rfl) (by kernel_rfl) (by kernel_rfl) (by decide) (fun _ _ _ h => h) h01 rfl hHeld (Or.inr ⟨by rfl, rfl⟩) ?_
      try simp only [Act.put, List.setIfInBounds_toArray, List.set_cons_zero, List.set_cons_succ]
      refine wpG_takeB (i := 16) (oi := ⟨some 19, _, _, _, _, _⟩) (v := undef) rfl (by kernel_rfl) (by kernel_rfl) (by kernel_rfl) (by decide) (fun _ _ _ h => h) h01 rfl hHeld (Or.inr ⟨by rfl, rfl⟩) ?_
      try simp only [Act.put, List.setIfInBounds_toArray, List.set_cons_zero, List.set_cons_succ]
      refine wpG_takeB (i := 17) (oi := ⟨some 20, _, _, _, _, _⟩) (v := .bool false) rfl (by kernel_rfl) (by kernel_rfl) (by kernel_rfl) (by decide) (fun _ _ _ h => h) h01 rfl hHeld (Or.inl ⟨by rfl, ?_⟩) ?_
      · (intro W9 hSw; obtain ⟨v1, v2⟩ := hSw; have hse := HSE.out; go_simp; (try (first | with_reducible rfl | rfl | (simp; done))))
      try simp only [Act.put, List.setIfInBounds_toArray, List.set_cons_zero, List.set_cons_succ]
      refine wpG_takeB (i := 18) (oi := ⟨some 2, _, _, _, _, _⟩) (v := .bool false) rfl (by kernel_rfl) (by kernel_rfl) (by kernel_rfl) (by decide) (fun _ _ _ h => h) h01 rfl hHeld (Or.inl ⟨by rfl, ?_⟩) ?_
      · (intro W9 hSw; obtain ⟨v1, v2⟩ := hSw; have hse := HSE.out; go_simp; (try (first | with_reducible rfl | rfl | (simp; done))))
      try simp only [Act.put, List.setIfInBounds_toArray, List.set_cons_zero, List.set_cons_succ]
      refine wpG_done (by kernel_rfl) ?_ _
      clear hHeld h01
      go_wp2_with fail
      go_ret
      exact ⟨by first | rfl | simp, HB1.out.trans (HB7.out.mono HB1.out.size)⟩
    | true =>
      rw [hbx] at HX
      clear hbx
      go_enter Tryd.func36, Tryd.ntmps36
      go_upto_region 1 with fail
      rw [HW1.out, HBX.out]
      refine wp_region_G (S0 := (BoxH bx sn st)) (S1 := (BoxH bx sn st)) (c := 99) (by kernel_rfl) ?_
      have hHeld := HX.out
      have h01 := (fun (W : World) (h : (BoxH bx sn st) W) => h)
      refine wpG_takeB (i := 0) (oi := ⟨some 3, _, _, _, _, _⟩) (v := .pointer (some ⟨bx, 0, none⟩)) rfl (by kernel_rfl) (by kernel_rfl) (by kernel_rfl) (by decide) (fun _ _ _ h => h) h01 rfl hHeld (Or.inl ⟨by rfl, ?_⟩) ?_
      · (intro W9 hSw; obtain ⟨v1, v2⟩ := hSw; have hse := HSE.out; go_simp; (try (first | with_reducible rfl | rfl | (simp; done))))
      try simp only [Act.put, List.setIfInBounds_toArray, List.set_cons_zero, List.set_cons_succ]
      refine wpG_takeB (i := 1) (oi := ⟨some 4, _, _, _, _, _⟩) (v := .string sn) rfl (by kernel_rfl) (by kernel_rfl) (by kernel_rfl) (by decide) (fun _ _ _ h => h) h01 rfl hHeld (Or.inl ⟨by rfl, ?_⟩) ?_
      · (intro W9 hSw; obtain ⟨v1, v2⟩ := hSw; have hse := HSE.out; go_simp; (try (first | with_reducible rfl | rfl | (simp; done))))
      try simp only [Act.put, List.setIfInBounds_toArray, List.set_cons_zero, List.set_cons_succ]
      refine wpG_oneB (i := 2) (o := ⟨some 5, _, _, _, _, _⟩) (by kernel_rfl) rfl rfl (fun K hK => ?_)
      go_simp
      (with_reducible refine (C14.out _).mono ?_); rintro e9 w8 ⟨rfl, b8⟩
      have HB8 := Lib.hid b8
      clear b8
      have HX8 := Lib.hid (HX.out.below (below_drew (Below.refl _ W1) |>.trans HB8.out))
      have HC8 := Lib.hid (below_drew (Below.refl W1.heap.size W1) |>.trans HB8.out)
      refine hK.out _ _ HX8.out (fun hHeld => ?_)
      clear hK K
      try simp only [Act.put, List.setIfInBounds_toArray, List.set_cons_zero, List.set_cons_succ]
      refine wpG_takeB (i := 3) (oi := ⟨some 6, _, _, _, _, _⟩) (v := .bool true) rfl (by kernel_rfl) (by kernel_rfl) (by kernel_rfl) (by decide) (fun _ _ _ h => h) h01 rfl hHeld (Or.inl ⟨by rfl, ?_⟩) ?_
      · (intro W9 hSw; obtain ⟨v1, v2⟩ := hSw; have hse := HSE.out; go_simp; (try (first | with_reducible rfl | rfl | (simp; done))))
      try simp only [Act.put, List.setIfInBounds_toArray, List.set_cons_zero, List.set_cons_succ]
      refine wpG_takeB (i := 4) (oi := ⟨some 7, _, _, _, _, _⟩) (v := .pointer (some ⟨bx, 1, none⟩)) rfl (by kernel_rfl) (by kernel_rfl) (by kernel_rfl) (by decide) (fun _ _ _ h => h) h01 rfl hHeld (Or.inl ⟨by rfl, ?_⟩) ?_
      · (intro W9 hSw; obtain ⟨v1, v2⟩ := hSw; have hse := HSE.out; go_simp; (try (first | with_reducible rfl | rfl | (simp; done))))
      try simp only [Act.put, List.setIfInBounds_toArray, List.set_cons_zero, List.set_cons_succ]
      refine wpG_takeB (i := 5) (oi := ⟨some 8, _, _, _, _, _⟩) (v := .string st) rfl (by kernel_rfl) (by kernel_rfl) (by kernel_rfl) (by decide) (fun _ _ _ h => h) h01 rfl hHeld (Or.inl ⟨by rfl, ?_⟩) ?_
      · (intro W9 hSw; obtain ⟨v1, v2⟩ := hSw; have hse := HSE.out; go_simp; (try (first | with_reducible rfl | rfl | (simp; done))))
      try simp only [Act.put, List.setIfInBounds_toArray, List.set_cons_zero, List.set_cons_succ]
      refine wpG_takeB (i := 7) (oi := ⟨some 10, _, _, _, _, _⟩) (v := .pointer (some ⟨bx, 1, none⟩)) rfl (by kernel_rfl) (by kernel_rfl) (by kernel_rfl) (by decide) (fun _ _ _ h => h) h01 rfl hHeld (Or.inl ⟨by rfl, ?_⟩) ?_
      · (intro W9 hSw; obtain ⟨v1, v2⟩ := hSw; have hse := HSE.out; go_simp; (try (first | with_reducible rfl | rfl | (simp; done))))
      try simp only [Act.put, List.setIfInBounds_toArray, List.set_cons_zero, List.set_cons_succ]
      refine wpG_takeB (i := 8) (oi := ⟨some 11, _, _, _, _, _⟩) (v := .string st) rfl (by kernel_rfl) (by kernel_rfl) (by kernel_rfl) (by decide) (fun _ _ _ h => h) h01 rfl hHeld (Or.inl ⟨by rfl, ?_⟩) ?_
      · (intro W9 hSw; obtain ⟨v1, v2⟩ := hSw; have hse := HSE.out; go_simp; (try (first | with_reducible rfl | rfl | (simp; done))))
      try simp only [Act.put, List.setIfInBounds_toArray, List.set_cons_zero, List.set_cons_succ]
      refine wpG_oneB (i := 6) (o := ⟨some 9, _, _, _, _, _⟩) (by kernel_rfl) rfl rfl (fun K hK => ?_)
      go_simp
      (with_reducible refine (C52.out _).mono ?_); rintro e9 w7 ⟨rfl, b7⟩
      have HB7 : Hid (Below W1.heap.size W1 w7) := Lib.hid (by rcases b7 with rfl | rfl; exact HC8.out; exact below_drew HC8.out)
      have HX7 := Lib.hid (HX.out.below HB7.out)
      clear b7
      refine hK.out _ _ HX7.out (fun hHeld => ?_)
      clear hK K
      try simp only [Act.put, List.setIfInBounds_toArray, List.set_cons_zero, List.set_cons_succ]
      refine wpG_takeB (i := 9) (oi := ⟨some 12, _, _, _, _, _⟩) (v := .bool true) rfl (by kernel_rfl) (by kernel_rfl) (by kernel_rfl) (by decide) (fun _ _ _ h => h) h01 rfl hHeld (Or.inl ⟨by rfl, ?_⟩) ?_
      · (intro W9 hSw; obtain ⟨v1, v2⟩ := hSw; have hse := HSE.out; go_simp; (try (first | with_reducible rfl | rfl | (simp; done))))
      try simp only [Act.put, List.setIfInBounds_toArray, List.set_cons_zero, List.set_cons_succ]
      refine wpG_takeB (i := 10) (oi := ⟨some 13, _, _, _, _, _⟩) (v := .bool true) rfl (by kernel_rfl) (by kernel_rfl) (by kernel_rfl) (by decide) (fun _ _ _ h => h) h01 rfl hHeld (Or.inl ⟨by rfl, ?_⟩) ?_
      · (intro W9 hSw; obtain ⟨v1, v2⟩ := hSw; have hse := HSE.out; go_simp; (try (first | with_reducible rfl | rfl | (simp; done))))
      try simp only [Act.put, List.setIfInBounds_toArray, List.set_cons_zero, List.set_cons_succ]
      refine wpG_takeB (i := 11) (oi := ⟨some 14, _, _, _, _, _⟩) (v := .bool true) rfl (by kernel_rfl) (by kernel_rfl) (by kernel_rfl) (by decide) (fun _ _ _ h => h) h01 rfl hHeld (Or.inl ⟨by rfl, ?_⟩) ?_
      · (intro W9 hSw; obtain ⟨v1, v2⟩ := hSw; have hse := HSE.out; go_simp; (try (first | with_reducible rfl | rfl | (simp; done))))
      try simp only [Act.put, List.setIfInBounds_toArray, List.set_cons_zero, List.set_cons_succ]
      refine wpG_takeB (i := 12) (oi := ⟨some 15, _, _, _, _, _⟩) (v := .pointer (some ⟨bx, 1, none⟩)) rfl (by kernel_rfl) (by kernel_rfl) (by kernel_rfl) (by decide) (fun _ _ _ h => h) h01 rfl hHeld (Or.inl ⟨by rfl, ?_⟩) ?_
      · (intro W9 hSw; obtain ⟨v1, v2⟩ := hSw; have hse := HSE.out; go_simp; (try (first | with_reducible rfl | rfl | (simp; done))))
      try simp only [Act.put, List.setIfInBounds_toArray, List.set_cons_zero, List.set_cons_succ]
      refine wpG_takeB (i := 13) (oi := ⟨some 16, _, _, _, _, _⟩) (v := .string st) rfl (by kernel_rfl) (by kernel_rfl) (by kernel_rfl) (by decide) (fun _ _ _ h => h) h01 rfl hHeld (Or.inl ⟨by rfl, ?_⟩) ?_
      · (intro W9 hSw; obtain ⟨v1, v2⟩ := hSw; have hse := HSE.out; go_simp; (try (first | with_reducible rfl | rfl | (simp; done))))
      try simp only [Act.put, List.setIfInBounds_toArray, List.set_cons_zero, List.set_cons_succ]
      refine wpG_oneB (i := 14) (o := ⟨some 17, _, _, _, _, _⟩) (by kernel_rfl) rfl rfl (fun K hK => ?_)
      obtain ⟨cap6, w6, hcv6, hr6, hb6, hlt6⟩ := HCV.out w7
      have C30 := Lib.hid (HC30.out w6 cap6 _ hr6)
      have HB6 := Lib.hid (HB7.out.trans (hb6.mono HB7.out.size))
      have HX6 := Lib.hid (HX.out.below HB6.out)
      clear hr6 hb6 hlt6
      go_simp
      clear hcv6
      refine hK.out _ _ HX6.out (fun hHeld => ?_)
      clear hK K
      try simp only [Act.put, List.setIfInBounds_toArray, List.set_cons_zero, List.set_cons_succ]
      refine wpG_oneB (i := 15) (o := ⟨some 18, _, _, _, _, _⟩) (by kernel_rfl) rfl rfl (fun K hK => ?_)
      go_simp
      (with_reducible refine C30.out.mono ?_); rintro e9 w5 ⟨rfl, rfl⟩
      refine hK.out _ _ HX6.out (fun hHeld => ?_)
      clear hK K
      try simp only [Act.put, List.setIfInBounds_toArray, List.set_cons_zero, List.set_cons_succ]
      refine wpG_takeB (i := 16) (oi := ⟨some 19, _, _, _, _, _⟩) (v := .bool (!(!b))) rfl (by kernel_rfl) (by kernel_rfl) (by kernel_rfl) (by decide) (fun _ _ _ h => h) h01 rfl hHeld (Or.inl ⟨by rfl, ?_⟩) ?_
      · (intro W9 hSw; obtain ⟨v1, v2⟩ := hSw; have hse := HSE.out; go_simp; (try (first | with_reducible rfl | rfl | (simp; done))))
      try simp only [Act.put, List.setIfInBounds_toArray, List.set_cons_zero, List.set_cons_succ]
      refine wpG_takeB (i := 17) (oi := ⟨some 20, _, _, _, _, _⟩) (v := .bool (!(!b))) rfl (by kernel_rfl) (by kernel_rfl) (by kernel_rfl) (by decide) (fun _ _ _ h => h) h01 rfl hHeld (Or.inl ⟨by rfl, ?_⟩) ?_
      · (intro W9 hSw; obtain ⟨v1, v2⟩ := hSw; have hse := HSE.out; go_simp; (try (first | with_reducible rfl | rfl | (simp; done))))
      try simp only [Act.put, List.setIfInBounds_toArray, List.set_cons_zero, List.set_cons_succ]
      refine wpG_takeB (i := 18) (oi := ⟨some 2, _, _, _, _, _⟩) (v := .bool (!(!b))) rfl (by kernel_rfl) (by kernel_rfl) (by kernel_rfl) (by decide) (fun _ _ _ h => h) h01 rfl hHeld (Or.inl ⟨by rfl, ?_⟩) ?_
      · (intro W9 hSw; obtain ⟨v1, v2⟩ := hSw; have hse := HSE.out; go_simp; (try (first | with_reducible rfl | rfl | (simp; done))))
      try simp only [Act.put, List.setIfInBounds_toArray, List.set_cons_zero, List.set_cons_succ]
      refine wpG_done (by kernel_rfl) ?_ _
      clear hHeld h01
      go_wp2_with fail
      go_ret
      exact ⟨by first | rfl | simp, HB1.out.trans (HB6.out.mono HB1.out.size)⟩
end Go.Proofs.YtkalllenggmgoaaDoor
