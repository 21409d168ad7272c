/- The walk of TokenInverts. -/
import Derived.Test.YtkihoekldklkhaaDoorVb
import Derived.Test.YtkihoekldklkhaaDoorTu
import Derived.Test.YtkihoekldklkhaaDoorSl
import Derived.Deep.RegionHeld3
namespace Go.Proofs.YtkihoekldklkhaaDoor
open Go.RowKit
set_option linter.unusedVariables false
set_option linter.unusedSimpArgs false

theorem RB.at {W : World} {A : Option Addr} {n c : Nat} {l : List UInt8} (h : RB W A n c l) (hn : 0 < n) : ∃ b o, A = some ⟨b, o, none⟩ ∧ ∀ (i : Nat) (hi : i < l.length), W.cell? ⟨b, o + i, none⟩ = some (.int .u8 ((l[i]).toNat : Int)) := by
  have h0 : A ≠ none := fun hA => by have := (h.h.2.1 hA).1; omega
  obtain ⟨a, rfl⟩ := Option.ne_none_iff_exists'.1 h0
  have hl : 0 < l.length := by rw [h.len]; exact hn
  have hx : ∀ (i : Nat) (hi : i < l.length), W.cell? (a.add i) = some (.int .u8 ((l[i]).toNat : Int)) := fun i hi => h.h.2.2 a rfl i _ (by rw [List.getElem?_map, List.getElem?_eq_getElem hi]; rfl)
  have h1 := hx 0 hl
  have hs : a.spot = none := by have := World.cell?_spot h1; simpa [Addr.add] using this
  obtain ⟨b, o, sp⟩ := a
  simp at hs
  subst hs
  exact ⟨b, o, rfl, fun i hi => by have := hx i hi; rwa [Addr.add_lit] at this⟩
set_option maxRecDepth 100000 in
set_option maxHeartbeats 1000000 in
theorem inv_bad (s : ByteArray) (vb : Value) (L : List UInt8) (w : World) (hL : s = ⟨L.toArray⟩) (hn : L.length ≤ 500) (b : Nat) (hb : (scanL 0 L).2 = some b) : Calls Tryd.prog 7 #[.string s, vb] w fun e w' => e = .returned (.bool true) ∧ Below w.heap.size w w' := by
  subst hL
  have C8 := Lib.hid known_any
  have hsz := Lib.size_mk L
  have C20 := Lib.hid (scanT_any L w (by omega))
  have hbl := scanL_le L b hb
  have C21 := Lib.hid (fun W => scanT_any (L.take b) W (by rw [List.length_take]; omega))
  have hcut := scan_cut L.length L 0 b (Nat.le_refl _) hb
  rw [Nat.sub_zero] at hcut
  have HE : Hid (errN (L.take b) b = 4) := Lib.hid (by unfold errN; rw [if_pos (by rw [List.length_take]; omega)])
  have HCT := Lib.hid hcut
  have HUP := Lib.hid (fun W => run_upto L b hbl (by omega) W)
  have HI := Lib.hid (run_idx L)
  have HNL := Lib.hid (fun (i : Nat) (hi : i < L.length) => lc_nl (L := L) (i := i) hi)
  have HNO := Lib.hid (fun (i : Nat) (hi : i < L.length) => lc_no (L := L) (i := i) hi)
  have HLE := Lib.hid (fun (i : Nat) => lcOf_le L i)
  have HINJ := Lib.hid (fun (i : Nat) (hi : i < b) => lcOf_inj hi hbl)
  have HTK : Hid (lcOf (L.take b) b = lcOf L b) := Lib.hid lcOf_take
  unfold ScanE at C20 C21
  rw [hb] at C20
  simp only [] at C20
  have q1 : (errN L b != 0) = true := by rcases errN_cases L b with h | h <;> rw [h] <;> rfl
  have HNO4 : Hid ((b = L.length ∧ errN L b = 4) ∨ (b < L.length ∧ errN L b = 6)) := Lib.hid (by
    unfold errN
    by_cases h : b = L.length
    · exact .inl ⟨h, if_pos h⟩
    · exact .inr ⟨by omega, if_neg h⟩)
  generalize errN L b = no at *
  obtain ⟨St, hSt⟩ : ∃ St, (⟨L.toArray⟩ : ByteArray) = St := ⟨_, rfl⟩
  rw [hSt] at HI hsz C20 HUP
  have HSZ := Lib.hid hsz
  rw [hSt]
  have q0 : decide ((500 : Int) < (St.size : Int)) = false := by rw [hsz]; simp; omega
  have HN := Lib.hid hn
  have HBL := Lib.hid hbl
  have hb0 : (b : Int) ≤ 1000000 := by omega
  obtain ⟨x, hx⟩ : ∃ x : Int, ((lcOf L b).1 : Int) = x := ⟨_, rfl⟩
  obtain ⟨y, hy⟩ : ∃ y : Int, ((lcOf L b).2 : Int) = y := ⟨_, rfl⟩
  rw [hx, hy] at C20
  have HX := Lib.hid (And.intro hx hy)
  clear hSt hsz hn hcut hb hbl hx hy
  go_enter Tryd.func7, Tryd.ntmps7
  go_upto_region 4 with (go_at_call 20; (with_reducible refine C20.out.mono ?_); rintro e w1 ⟨hb1, rfl⟩; have HB1 := Lib.hid hb1; clear hb1)
  obtain ⟨w2, hw2⟩ : ∃ w2, w1.alloc (.cells #[.int .i64 x, .int .i64 y] 26) = w2 := ⟨_, rfl⟩
  have hb2 : Below w.heap.size w w2 := hw2 ▸ HB1.out.alloc HB1.out.size _
  obtain ⟨g, hg⟩ : ∃ g, w1.heap.size = g := ⟨_, rfl⟩
  have HZ2 : Hid (Blk w2 g 26 #[.int .i64 x, .int .i64 y]) := Lib.hid (hg ▸ hw2 ▸ Blk.new w1 26 _)
  have HB2 := Lib.hid hb2
  rw [hw2, hg]
  clear hw2 hb2 hg C20
  have c0 := HZ2.out.cell 0
  have c1 := HZ2.out.cell 1
  simp only [List.getElem?_toArray, List.getElem?_cons_zero, List.getElem?_cons_succ] at c0 c1
  go_wp2_with fail
  clear q1 q0
  go_loopw [8, 9, 10] (fun iv lv cv wr => ∃ i : Nat, (i : Int) ≤ b ∧ iv = .int .i64 i ∧ lv = .int .i64 ((lcOf L i).1 : Int) ∧ cv = .int .i64 ((lcOf L i).2 : Int) ∧ wr = w2) (fun iv _ _ _ => b - (intOf iv).toNat)
  case atStart => exact ⟨0, by omega, rfl, rfl, rfl, rfl⟩
  case round =>
    obtain ⟨i, hi, rfl, rfl, rfl, hwr⟩ := hrel
    subst hwr
    by_cases hlt : (i : Int) < b
    · have hi1 : i < L.length := by have := HBL.out; omega
      have hidx := HI.out i hi1
      have hsz2 : (i : Int) < (St.size : Int) := by rw [HSZ.out]; omega
      have qs : decide ((i : Int) < (St.size : Int)) = true := by simpa using hsz2
      obtain ⟨l1, l2, l3⟩ := HLE.out i
      have hinj := HINJ.out i (by omega)
      have hb1 : ((lcOf L i).1 : Int) ≤ 2000000 := by have := HN.out; omega
      have hb2 : ((lcOf L i).2 : Int) ≤ 2000000 := by have := HN.out; omega
      have hb3 : (0 : Int) ≤ ((lcOf L i).1 : Int) := by omega
      have hb4 : (0 : Int) ≤ ((lcOf L i).2 : Int) := by omega
      have hne : (((lcOf L i).1 : Int) != x) = true ∨ (((lcOf L i).1 : Int) != x) = false ∧ (((lcOf L i).2 : Int) != y) = true := by
        have h9 := HX.out
        by_cases h1 : ((lcOf L i).1 : Int) = x
        · right
          refine ⟨by simpa using h1, ?_⟩
          have : ¬ ((lcOf L i).2 : Int) = y := fun h2 => hinj ⟨by omega, by omega⟩
          simpa using this
        · left; simpa using h1
      have HLT := Lib.hid hlt
      clear l1 l2 l3 hinj hlt
      have step : ∀ (X : Prop), X → X := fun _ h => h
      cases hx : ((L[i]).toNat : Int) == 10 with
      | true =>
        have HL := Lib.hid (HNL.out i hi1 hx)
        generalize (L[i]).toNat = z at *
        obtain ⟨u, hu⟩ : ∃ u : Int, (z : Int) = u := ⟨_, rfl⟩
        rw [hu] at hidx hx
        generalize hA : ((lcOf L i).1 : Int) = a at *
        generalize hC : ((lcOf L i).2 : Int) = c at *
        have HAA := Lib.hid (And.intro hA hC)
        clear hu hA hC hi1 step
        rcases hne with hne | ⟨hne, hne2⟩
        · go_wp2_with fail
          go_roundw
          case rel => exact ⟨i + 1, by have := HLT.out; omega, by go_num, by rw [HL.out, ← HAA.out.1]; go_num, by rw [HL.out]; rfl, by first | trivial | rfl⟩
          case measure => have := HLT.out; simp [intOf]; omega
        · go_wp2_with fail
          go_roundw
          case rel => exact ⟨i + 1, by have := HLT.out; omega, by go_num, by rw [HL.out, ← HAA.out.1]; go_num, by rw [HL.out]; rfl, by first | trivial | rfl⟩
          case measure => have := HLT.out; simp [intOf]; omega
      | false =>
        have HL := Lib.hid (HNO.out i hi1 hx)
        generalize (L[i]).toNat = z at *
        obtain ⟨u, hu⟩ : ∃ u : Int, (z : Int) = u := ⟨_, rfl⟩
        rw [hu] at hidx hx
        generalize hA : ((lcOf L i).1 : Int) = a at *
        generalize hC : ((lcOf L i).2 : Int) = c at *
        have HAA := Lib.hid (And.intro hA hC)
        clear hu hA hC hi1 step
        rcases hne with hne | ⟨hne, hne2⟩
        · go_wp2_with fail
          go_roundw
          case rel => exact ⟨i + 1, by have := HLT.out; omega, by go_num, by rw [HL.out, ← HAA.out.1], by rw [HL.out, ← HAA.out.2]; go_num, by first | trivial | rfl⟩
          case measure => have := HLT.out; simp [intOf]; omega
        · go_wp2_with fail
          go_roundw
          case rel => exact ⟨i + 1, by have := HLT.out; omega, by go_num, by rw [HL.out, ← HAA.out.1], by rw [HL.out, ← HAA.out.2]; go_num, by first | trivial | rfl⟩
          case measure => have := HLT.out; simp [intOf]; omega
    · have hib : i = b := by omega
      subst hib
      rw [HX.out.1, HX.out.2]
      have qx : (x != x) = false := by simp
      have qy : (y != y) = false := by simp
      have hup := HUP.out
      have HUP2 := Lib.hid hup
      obtain ⟨Sb, hSb⟩ : ∃ Sb, (⟨(L.take i).toArray⟩ : ByteArray) = Sb := ⟨_, rfl⟩
      rw [hSb] at C21 HUP2
      clear hlt hup hSb
      have qc : (decide (i < St.size) = false ∧ ((i : Int) == (St.size : Int)) = true ∧ no = 4) ∨ (decide (i < St.size) = true ∧ ((i : Int) == (St.size : Int)) = false ∧ no = 6) := by
        have := HSZ.out
        rcases HNO4.out with ⟨h1, h2⟩ | ⟨h1, h2⟩
        · exact .inl ⟨by simp; omega, by simp; omega, h2⟩
        · exact .inr ⟨by simp; omega, by simp; omega, h2⟩
      cases hco : (scanL 0 (L.take i)).2 with
      | none =>
        rw [hco] at C21
        simp only [] at C21
        have hup := HUP2.out
        rcases qc with ⟨q1, q2, rfl⟩ | ⟨q1, q2, rfl⟩
        · go_upto_region 14 with (go_at_call 20; (with_reducible refine (C21.out _).mono ?_); rintro e w3 ⟨hb3, A3, c3, rfl, hown3⟩; clear hown3; have HB3 := Lib.hid (HB2.out.trans (hb3.mono HB2.out.size)); have HG3 := Lib.hid (HZ2.out.below hb3 HZ2.out.lt); clear hb3)
          clear c0 c1 hup
          obtain ⟨w4, hw4⟩ : ∃ w4, w3.alloc (.cells #[.int .i64 0, .int .i64 0] 26) = w4 := ⟨_, rfl⟩
          obtain ⟨g2, hg2⟩ : ∃ g2, w3.heap.size = g2 := ⟨_, rfl⟩
          have HZ4 : Hid (Blk w4 g2 26 #[.int .i64 0, .int .i64 0]) := Lib.hid (hg2 ▸ hw4 ▸ Blk.new w3 26 _)
          have HB4 : Hid (Below w.heap.size w w4) := Lib.hid (hw4 ▸ HB3.out.alloc HB3.out.size _)
          have HG4 : Hid (Blk w4 g 26 #[.int .i64 x, .int .i64 y]) := Lib.hid (hw4 ▸ HG3.out.alloc _)
          rw [hw4, hg2]
          clear hw4 hg2
          have c0 := HG4.out.cell 0
          have c1 := HG4.out.cell 1
          have d0 := HZ4.out.cell 0
          have d1 := HZ4.out.cell 1
          simp only [List.getElem?_toArray, List.getElem?_cons_zero, List.getElem?_cons_succ] at c0 c1 d0 d1
          go_wp2_with (go_at_call 8; (with_reducible refine (C8.out _).mono ?_); rintro e w9 ⟨rfl, hb9⟩; have HB9 := Lib.hid hb9; clear hb9)
          go_ret
          exact ⟨by first | rfl | simp | trivial, HB4.out.trans (HB9.out.mono HB4.out.size)⟩
        · go_upto_region 14 with (go_at_call 20; (with_reducible refine (C21.out _).mono ?_); rintro e w3 ⟨hb3, A3, c3, rfl, hown3⟩; clear hown3; have HB3 := Lib.hid (HB2.out.trans (hb3.mono HB2.out.size)); have HG3 := Lib.hid (HZ2.out.below hb3 HZ2.out.lt); clear hb3)
          clear c0 c1 hup
          obtain ⟨w4, hw4⟩ : ∃ w4, w3.alloc (.cells #[.int .i64 0, .int .i64 0] 26) = w4 := ⟨_, rfl⟩
          obtain ⟨g2, hg2⟩ : ∃ g2, w3.heap.size = g2 := ⟨_, rfl⟩
          have HZ4 : Hid (Blk w4 g2 26 #[.int .i64 0, .int .i64 0]) := Lib.hid (hg2 ▸ hw4 ▸ Blk.new w3 26 _)
          have HB4 : Hid (Below w.heap.size w w4) := Lib.hid (hw4 ▸ HB3.out.alloc HB3.out.size _)
          have HG4 : Hid (Blk w4 g 26 #[.int .i64 x, .int .i64 y]) := Lib.hid (hw4 ▸ HG3.out.alloc _)
          rw [hw4, hg2]
          clear hw4 hg2
          have c0 := HG4.out.cell 0
          have c1 := HG4.out.cell 1
          have d0 := HZ4.out.cell 0
          have d1 := HZ4.out.cell 1
          simp only [List.getElem?_toArray, List.getElem?_cons_zero, List.getElem?_cons_succ] at c0 c1 d0 d1
          go_wp2_with (go_at_call 8; (with_reducible refine (C8.out _).mono ?_); rintro e w9 ⟨rfl, hb9⟩; have HB9 := Lib.hid hb9; clear hb9)
          go_ret
          exact ⟨by first | rfl | simp | trivial, HB4.out.trans (HB9.out.mono HB4.out.size)⟩
      | some b2 =>
        rw [hco] at C21
        simp only [] at C21
        have hb2 : b2 = i := by
          rcases HCT.out with h | h
          · rw [hco] at h; cases h
          · rw [hco] at h; injection h
        subst hb2
        rw [HTK.out, HX.out.1, HX.out.2, HE.out] at C21
        have hup := HUP2.out
        rcases qc with ⟨q1, q2, rfl⟩ | ⟨q1, q2, rfl⟩
        · go_upto_region 14 with (go_at_call 20; (with_reducible refine (C21.out _).mono ?_); rintro e w3 ⟨hb3, rfl⟩; have HB3 := Lib.hid (HB2.out.trans (hb3.mono HB2.out.size)); have HG3 := Lib.hid (HZ2.out.below hb3 HZ2.out.lt); clear hb3)
          clear c0 c1 hup
          obtain ⟨w4, hw4⟩ : ∃ w4, w3.alloc (.cells #[.int .i64 x, .int .i64 y] 26) = w4 := ⟨_, rfl⟩
          obtain ⟨g2, hg2⟩ : ∃ g2, w3.heap.size = g2 := ⟨_, rfl⟩
          have HZ4 : Hid (Blk w4 g2 26 #[.int .i64 x, .int .i64 y]) := Lib.hid (hg2 ▸ hw4 ▸ Blk.new w3 26 _)
          have HB4 : Hid (Below w.heap.size w w4) := Lib.hid (hw4 ▸ HB3.out.alloc HB3.out.size _)
          have HG4 : Hid (Blk w4 g 26 #[.int .i64 x, .int .i64 y]) := Lib.hid (hw4 ▸ HG3.out.alloc _)
          rw [hw4, hg2]
          clear hw4 hg2
          have c0 := HG4.out.cell 0
          have c1 := HG4.out.cell 1
          have d0 := HZ4.out.cell 0
          have d1 := HZ4.out.cell 1
          simp only [List.getElem?_toArray, List.getElem?_cons_zero, List.getElem?_cons_succ] at c0 c1 d0 d1
          go_wp2_with (go_at_call 8; (with_reducible refine (C8.out _).mono ?_); rintro e w9 ⟨rfl, hb9⟩; have HB9 := Lib.hid hb9; clear hb9)
          go_ret
          exact ⟨by first | rfl | simp | trivial, HB4.out.trans (HB9.out.mono HB4.out.size)⟩
        · go_upto_region 14 with (go_at_call 20; (with_reducible refine (C21.out _).mono ?_); rintro e w3 ⟨hb3, rfl⟩; have HB3 := Lib.hid (HB2.out.trans (hb3.mono HB2.out.size)); have HG3 := Lib.hid (HZ2.out.below hb3 HZ2.out.lt); clear hb3)
          clear c0 c1 hup
          obtain ⟨w4, hw4⟩ : ∃ w4, w3.alloc (.cells #[.int .i64 x, .int .i64 y] 26) = w4 := ⟨_, rfl⟩
          obtain ⟨g2, hg2⟩ : ∃ g2, w3.heap.size = g2 := ⟨_, rfl⟩
          have HZ4 : Hid (Blk w4 g2 26 #[.int .i64 x, .int .i64 y]) := Lib.hid (hg2 ▸ hw4 ▸ Blk.new w3 26 _)
          have HB4 : Hid (Below w.heap.size w w4) := Lib.hid (hw4 ▸ HB3.out.alloc HB3.out.size _)
          have HG4 : Hid (Blk w4 g 26 #[.int .i64 x, .int .i64 y]) := Lib.hid (hw4 ▸ HG3.out.alloc _)
          rw [hw4, hg2]
          clear hw4 hg2
          have c0 := HG4.out.cell 0
          have c1 := HG4.out.cell 1
          have d0 := HZ4.out.cell 0
          have d1 := HZ4.out.cell 1
          simp only [List.getElem?_toArray, List.getElem?_cons_zero, List.getElem?_cons_succ] at c0 c1 d0 d1
          go_wp2_with (go_at_call 8; (with_reducible refine (C8.out _).mono ?_); rintro e w9 ⟨rfl, hb9⟩; have HB9 := Lib.hid hb9; clear hb9)
          go_ret
          exact ⟨by first | rfl | simp | trivial, HB4.out.trans (HB9.out.mono HB4.out.size)⟩
theorem td_at (xs : List Td) {i j : Nat} (hi : i < xs.length) (hj : j < 5) : (xs.flatMap TdC)[i * 5 + j]? = (TdC xs[i])[j]? := by
  obtain ⟨l0, l1, l2, l3, l4⟩ := td_get xs i hi
  have h : j = 0 ∨ j = 1 ∨ j = 2 ∨ j = 3 ∨ j = 4 := by omega
  rcases h with rfl | rfl | rfl | rfl | rfl
  · exact l0
  · exact l1
  · exact l2
  · exact l3
  · exact l4
theorem elemT : Tryd.prog.underlying 24 = some (.slice (Tryd.prog.elem 24)) := by kernel_rfl
theorem sizeT (W : World) : (sizeOf (Tryd.prog.elem 24)).run Tryd.prog W = .ok 5 W := by kernel_rfl
theorem lenW_mem : ∀ (ts : List Tk) (t : Tk), t ∈ ts → (whK t).length ≤ lenW ts
  | [], t, h => by simp at h
  | x :: ts, t, h => by
    have e : lenW (x :: ts) = (whK x).length + lenW ts := by unfold lenW; rw [List.map_cons, List.sum_cons]
    rcases List.mem_cons.1 h with rfl | h
    · omega
    · have := lenW_mem ts t h; omega
/-- One token of a row, as a slice. -/
theorem one_in (W : World) (g m c i : Nat) (xs : List Td) (h : HoldsS W 5 (some ⟨g, 0, none⟩) m (xs.flatMap TdC)) (hl : xs.length = m) (hi : i < m) (hc : m ≤ c) : ∃ A', (∀ W' : World, (Instr.slice 24 (.slice (some ⟨g, 0, none⟩) m c) (some (.int .i64 (i : Int))) (some (.int .i64 ((i : Int) + 1))) none).run Tryd.prog W' = .ok (.slice A' 1 (c - i)) W') ∧ HoldsS W 5 A' 1 ([xs[i]'(by omega)].flatMap TdC) := by
  refine ⟨some ((⟨g, 0, none⟩ : Addr).add (i * 5)), fun W' => ?_, rfl, (fun e => by cases e), fun b hb j u hu => ?_⟩
  · have e : ((i : Int) + 1) = ((i + 1 : Nat) : Int) := by omega
    rw [e, run_slice_lh W' 24 (some ⟨g, 0, none⟩) m c elemT .i64 .i64 (i : Int) ((i + 1 : Nat) : Int) (by omega) (by omega) (by omega), sizeT]
    show Result.ok (sliced _ (i : Int).toNat ((i + 1 : Nat) : Int).toNat c 5) W' = _
    rw [Int.toNat_natCast, Int.toNat_natCast]
    simp only [sliced]
    rw [if_neg (by omega)]
    have : i + 1 - i = 1 := by omega
    rw [this]
    rfl
  · cases hb
    rw [addr_add]
    have hj : j < 5 := by have := (List.getElem?_eq_some_iff.1 hu).1; simpa [TdC] using this
    refine h.2.2 _ rfl _ u ?_
    rw [td_at xs (by omega) hj, ← hu]
    simp
theorem key_at {us ts : List Tk} (h : us.map keyT = ts.map keyT) : us.length = ts.length ∧ ∀ (i : Nat) (h1 : i < us.length) (h2 : i < ts.length), (us[i]).k = (ts[i]).k ∧ (us[i]).t = (ts[i]).t ∧ (us[i]).v = (ts[i]).v := by
  have hl : us.length = ts.length := by have := congrArg List.length h; simpa using this
  refine ⟨hl, fun i h1 h2 => ?_⟩
  have e : (us.map keyT)[i]? = (ts.map keyT)[i]? := by rw [h]
  rw [List.getElem?_map, List.getElem?_map, List.getElem?_eq_getElem h1, List.getElem?_eq_getElem h2] at e
  simp [keyT] at e
  exact e
theorem eqK_self (k : Int) (t : List UInt8) (v : Int) : eqK k t v k t v = true := by unfold eqK; split <;> simp
theorem join_one' {x : Td} {W : World} {e : Ending} {w' : World} (ho : oneT x = true) (h : JoinE [x] W e w') : e = .returned (.tuple #[.string ⟨x.wh.toArray⟩, .int .i64 0]) ∧ Below W.heap.size W w' := by
  refine ⟨?_, h.1⟩
  rw [h.2, if_pos (by simp [ho])]
  have : joinT [x] = x.wh := by unfold joinT; simp [Lib.join_one]
  rw [this]
theorem join_all {xs : List Td} {W : World} {e : Ending} {w' : World} (ho : xs.all oneT = true) (h : JoinE xs W e w') : e = .returned (.tuple #[.string ⟨(joinT xs).toArray⟩, .int .i64 0]) ∧ Below W.heap.size W w' := ⟨by rw [h.2, if_pos ho], h.1⟩
/-- The list of blanks: which comes behind the space ahead of the token at a place. -/
def bfN (bs : List UInt8) (i : Nat) : Nat := if bs.length = 0 then 0 else (bs.getD (i % bs.length) 0).toNat % 4
theorem scan_eq {L : List UInt8} {ts : List Tk} (h1 : (scanL 0 L).2 = none) (h2 : (scanL 0 L).1 = ts) : scanL 0 L = (ts, none) := by rw [← h1, ← h2]
theorem own_cap {w : World} {B n c sz : Nat} {e : TypeId} {A : Option Addr} {xs : List Value} (h : w.ownsRow B e sz (.slice A n c) n xs) : n ≤ c := by
  obtain ⟨A2, c2, e2, h1, -⟩ := own_formS h
  injection e2 with e3 e4 e5
  omega
set_option maxRecDepth 100000 in
set_option maxHeartbeats 1000000 in
theorem inv_ok (s : ByteArray) (A : Option Addr) (nb cb : Nat) (bs : List UInt8) (L : List UInt8) (w : World) (hL : s = ⟨L.toArray⟩) (hn : L.length ≤ 500) (hs : (scanL 0 L).2 = none) (hB : RB w A nb cb bs) : Calls Tryd.prog 7 #[.string s, .slice A nb cb] w fun e w' => e = .returned (.bool true) ∧ Below w.heap.size w w' := by
  subst hL
  have C8 := Lib.hid known_any
  have hsz := Lib.size_mk L
  have C20 := Lib.hid (scanT_any L w (by omega))
  unfold ScanE at C20
  rw [hs] at C20
  simp only [] at C20
  obtain ⟨hg1, hg2⟩ := scan_good L.length L 0 (Nat.le_refl _)
  have hfew := scanL_few L
  obtain ⟨ts, hts⟩ : ∃ ts, (scanL 0 L).1 = ts := ⟨_, rfl⟩
  rw [hts] at C20 hg1 hg2 hfew
  have HGD := Lib.hid hg1
  obtain ⟨m, hm⟩ : ∃ m, ts.length = m := ⟨_, rfl⟩
  have hm0 : m ≤ 500 := by omega
  have hm1 : (m : Int) ≤ 500 := by omega
  have HM := Lib.hid hm
  have hall : (ts.map (tdOf L)).all oneT = true := by
    rw [List.all_eq_true]
    intro x hx
    obtain ⟨t, ht, rfl⟩ := List.mem_map.1 hx
    exact good_one L (hg1 t ht)
  have htl : ∀ t ∈ ts, t.t.length ≤ 500 := fun t ht => by
    have h1 : (whK t).length ≤ lenW ts := lenW_mem ts t ht
    have h2 : t.t.length ≤ (whK t).length := by unfold whK wholeL; split <;> simp <;> omega
    omega
  have HTL := Lib.hid htl
  obtain ⟨J, hJ⟩ : ∃ J, joinT (ts.map (tdOf L)) = J := ⟨_, rfl⟩
  have hJl : J.length ≤ 2000 := by
    rw [← hJ, joinT_cat]
    have := catF_len fJ 1 (fun k => by unfold fJ; split <;> simp) ts 0
    omega
  obtain ⟨j1, j2⟩ := scan_join (L := L) hg1
  rw [hJ] at j1 j2
  have CJ := Lib.hid (fun W => scanT_any J W (by omega))
  unfold ScanE at CJ
  rw [j1] at CJ
  simp only [] at CJ
  obtain ⟨ta, hta⟩ : ∃ ta, (scanL 0 J).1 = ta := ⟨_, rfl⟩
  rw [hta] at CJ j2
  obtain ⟨k1, k2⟩ := key_at j2
  rw [hm] at C20 k1
  rw [k1] at CJ
  have HKA := Lib.hid k2
  have HKL := Lib.hid k1
  have C22 := Lib.hid (fun (g : Option Addr) (c : Nat) (W : World) (h : HoldsS W 5 g m (ts.flatMap (TkC L))) => (join_any g m c (ts.map (tdOf L)) W (by rw [tdOf_flat]; exact h) (by rw [List.length_map, hm]) (by omega) (fun x hx => by obtain ⟨t, ht, rfl⟩ := List.mem_map.1 hx; have := htl t ht; (show t.t.length ≤ 100000); omega)).mono fun e w' hh => join_all hall hh)
  rw [hJ] at C22
  obtain ⟨b4, hb4⟩ : ∃ b4, bfN bs = b4 := ⟨_, rfl⟩
  obtain ⟨d1, d2⟩ := scan_wide (b := b4) hg1
  have hdl := catF_len (fW b4) 9 (fW_len b4) ts 0
  have hpre : ∀ i, (catF (fW b4) 0 (ts.take i)).length ≤ 10000 := fun i => by
    have h1 := catF_len (fW b4) 9 (fW_len b4) (ts.take i) 0
    have h2 : lenW (ts.take i) ≤ lenW ts := by
      unfold lenW
      rw [List.map_take]
      have := List.take_append_drop i (ts.map fun t => (whK t).length)
      have h3 := congrArg List.sum this
      rw [List.sum_append] at h3
      omega
    have h3 : (ts.take i).length ≤ 500 := by rw [List.length_take]; omega
    omega
  have HPRE := Lib.hid hpre
  obtain ⟨WD, hWD⟩ : ∃ WD, catF (fW b4) 0 ts = WD := ⟨_, rfl⟩
  rw [hWD] at d1 d2 hdl
  have CD := Lib.hid (fun W => scanT_any (WD ++ [32, 35]) W (by rw [List.length_append]; simp; omega))
  unfold ScanE at CD
  rw [d1] at CD
  simp only [] at CD
  obtain ⟨tb, htb⟩ : ∃ tb, (scanL 0 (WD ++ [32, 35])).1 = tb := ⟨_, rfl⟩
  rw [htb] at CD d2
  obtain ⟨e1, e2⟩ := key_at d2
  rw [hm] at e1
  rw [e1] at CD
  have HKB := Lib.hid e2
  have HKM := Lib.hid e1
  have HB := Lib.hid hB
  have HB4 := Lib.hid hb4
  have HWD := Lib.hid hWD
  have hWDl : WD.length ≤ 10000 := by omega
  have HWL := Lib.hid hWDl
  have HJ := Lib.hid hJ
  have cWD := catL WD [32, 35]
  have zWD := Lib.size_mk WD
  have z35 : (⟨#[32, 35]⟩ : ByteArray).size = 2 := rfl
  have h35 : (⟨[(32 : UInt8), 35].toArray⟩ : ByteArray) = ⟨#[32, 35]⟩ := rfl
  rw [h35] at cWD
  have zWE := Lib.size_mk (WD ++ [32, 35])
  rw [List.length_append] at zWE
  obtain ⟨SWE, hSWE⟩ : ∃ S, (⟨(WD ++ [32, 35]).toArray⟩ : ByteArray) = S := ⟨_, rfl⟩
  rw [hSWE] at CD cWD zWE
  have hcn : nb ≤ 9223372036854775807 := by have h1 := hB.mc; have h2 := hB.cm; unfold maxLen at h2; omega
  have HBL := Lib.hid hB.len
  obtain ⟨St, hSt⟩ : ∃ St, (⟨L.toArray⟩ : ByteArray) = St := ⟨_, rfl⟩
  rw [hSt] at hsz C20 ⊢
  have q0 : decide ((500 : Int) < (St.size : Int)) = false := by rw [hsz]; simp; omega
  obtain ⟨SJ, hSJ⟩ : ∃ SJ, (⟨J.toArray⟩ : ByteArray) = SJ := ⟨_, rfl⟩
  rw [hSJ] at CJ C22
  clear hSt hsz hn hs hB hg1 hg2 hfew hts hm hall htl hJ hJl j1 j2 hta k1 k2 hb4 d1 d2 hdl hpre hWD htb e1 e2 h35 hSWE hSJ hWDl
  go_enter Tryd.func7, Tryd.ntmps7
  go_upto_region 4 with (go_at_call 20; (with_reducible refine C20.out.mono ?_); rintro e w1 ⟨hb1, A1, c1, rfl, hown1⟩; have HB1 := Lib.hid hb1; have HW1 := Lib.hid hown1; clear hb1 hown1)
  obtain ⟨w2, hw2⟩ : ∃ w2, w1.alloc (.cells #[.int .i64 0, .int .i64 0] 26) = w2 := ⟨_, rfl⟩
  have hb12 : Below w1.heap.size w1 w2 := hw2 ▸ (Below.refl _ w1).alloc (Nat.le_refl _) _
  have HB2 := Lib.hid (HB1.out.trans (hb12.mono HB1.out.size))
  have HW2 := Lib.hid (own_keeps HW1.out fun q hq => hb12.block q (own_lt HW1.out q hq))
  obtain ⟨g6, hg6⟩ : ∃ g6, w1.heap.size = g6 := ⟨_, rfl⟩
  rw [hw2, hg6]
  clear hw2 hb12 hg6 C20
  go_upto_region 16 with (go_at_call 22; (with_reducible refine (C22.out _ _ _ (HoldsS.own HW2.out)).mono ?_); rintro e w3 ⟨rfl, hb3⟩; have HB3 := Lib.hid (HB2.out.trans (hb3.mono HB2.out.size)); have HW3 := Lib.hid (own_keeps HW2.out fun q hq => hb3.block q (own_lt HW2.out q hq)); clear hb3)
  clear C22
  go_upto_region 17 with (go_at_call 20; (with_reducible refine (CJ.out _).mono ?_); rintro e w4 ⟨hb4, A2, c2, rfl, hown4⟩; have HB4w := Lib.hid (HB3.out.trans (hb4.mono HB3.out.size)); have HW4 := Lib.hid (own_keeps HW3.out fun q hq => hb4.block q (own_lt HW3.out q hq)); have HWA := Lib.hid hown4; clear hb4 hown4)
  obtain ⟨w5, hw5⟩ : ∃ w5, w4.alloc (.cells #[.int .i64 0, .int .i64 0] 26) = w5 := ⟨_, rfl⟩
  have hb45 : Below w4.heap.size w4 w5 := hw5 ▸ (Below.refl _ w4).alloc (Nat.le_refl _) _
  have HB5 := Lib.hid (HB4w.out.trans (hb45.mono HB4w.out.size))
  have HW5 := Lib.hid (own_keeps HW4.out fun q hq => hb45.block q (own_lt HW4.out q hq))
  have HWA5 := Lib.hid (own_keeps HWA.out fun q hq => hb45.block q (own_lt HWA.out q hq))
  obtain ⟨g7, hg7⟩ : ∃ g7, w4.heap.size = g7 := ⟨_, rfl⟩
  rw [hw5, hg7]
  clear hw5 hb45 hg7 HW2 HW3 HW4 HWA HB4w HB3 HB2 CJ q0
  go_wp2_with fail
  go_loopw [19, 20] (fun wv iv wr => ∃ (i : Nat) (S0 : List UInt8), (i : Int) ≤ m ∧ iv = .int .i64 i ∧ wv = .string ⟨S0.toArray⟩ ∧ Hid (S0 = catF (fW b4) 0 (ts.take i)) ∧ Hid (Below w5.heap.size w5 wr)) (fun _ iv _ => m - (intOf iv).toNat)
  case atStart => exact ⟨0, [], by omega, rfl, rfl, Lib.hid rfl, Lib.hid (Below.refl _ _)⟩
  case round =>
    obtain ⟨i, S0, hi, rfl, rfl, HS, HBL5⟩ := hrel
    by_cases hlt : (i : Int) < m
    · have hi1 : i < ts.length := by rw [HM.out]; omega
      have hi2 : i < (ts.map (tdOf L)).length := by rw [List.length_map]; exact hi1
      have hown := own_keeps HW5.out fun q hq => HBL5.out.block q (own_lt HW5.out q hq)
      have hcap := own_cap hown
      obtain ⟨g1, rfl, -⟩ := own_at HW5.out (by omega) (Below.refl _ _)
      have hold := HoldsS.own hown
      rw [← tdOf_flat] at hold
      obtain ⟨A', hrun, hone⟩ := one_in wr g1 m c1 i (ts.map (tdOf L)) hold (by rw [List.length_map, HM.out]) (by omega) hcap
      rw [List.getElem_map] at hone
      have hgt := HGD.out _ (List.getElem_mem hi1)
      have htl := HTL.out _ (List.getElem_mem hi1)
      have C22 := Lib.hid ((join_any A' 1 (c1 - i) [tdOf L ts[i]] wr hone rfl (by omega) (fun x hx => by rw [List.mem_singleton.1 hx]; (show (ts[i]).t.length ≤ 100000); omega)).mono fun e w' hh => join_one' (good_one L hgt) hh)
      rw [tdOf_wh] at C22
      have hwl : (whK ts[i]).length ≤ 502 := by unfold whK wholeL; split <;> (first | omega | (simp; omega))
      have hS0 : S0.length ≤ 10000 := by rw [HS.out]; exact HPRE.out i
      have HNX : Hid ((S0 ++ [32]) ++ bl4 (b4 i) ++ whK ts[i] = catF (fW b4) 0 (ts.take (i + 1))) := Lib.hid (by
        rw [List.take_succ_eq_append_getElem hi1, catF_snoc, ← HS.out]
        have : 0 + (ts.take i).length = i := by rw [List.length_take]; omega
        rw [this]
        unfold fW
        simp [List.append_assoc])
      have cA := catL S0 [32]
      have cB := catL (S0 ++ [32]) (bl4 (b4 i))
      have cC := catL ((S0 ++ [32]) ++ bl4 (b4 i)) (whK ts[i])
      have z0 := Lib.size_mk S0
      have z1 := Lib.size_mk (S0 ++ [32])
      have z2 := Lib.size_mk ((S0 ++ [32]) ++ bl4 (b4 i))
      have z3 := Lib.size_mk (whK ts[i])
      have z4 : (⟨#[32]⟩ : ByteArray).size = 1 := rfl
      have z5 : (⟨[(32 : UInt8)].toArray⟩ : ByteArray) = ⟨#[32]⟩ := rfl
      have z6 := Lib.size_mk (bl4 (b4 i))
      have hbl : (bl4 (b4 i)).length ≤ 8 := by unfold bl4; split <;> (try split) <;> (try split) <;> simp
      rw [z5] at cA
      rw [List.length_append, List.length_singleton] at z1
      rw [List.length_append, List.length_append, List.length_singleton] at z2
      obtain ⟨S9, hS9⟩ : ∃ S9, (S0 ++ [32]) ++ bl4 (b4 i) ++ whK ts[i] = S9 := ⟨_, rfl⟩
      rw [hS9] at HNX cC
      have HBI : Hid (b4 i = bfN bs i) := Lib.hid (by rw [HB4.out])
      have HBR := HB.out.below (HB5.out.trans (HBL5.out.mono HB5.out.size))
      generalize whK ts[i] = WK at *
      obtain ⟨SK, hSK⟩ : ∃ SK, (⟨WK.toArray⟩ : ByteArray) = SK := ⟨_, rfl⟩
      rw [hSK] at C22 cC z3
      generalize (⟨((S0 ++ [32]) ++ bl4 (b4 i)).toArray⟩ : ByteArray) = SB at *
      generalize (⟨(S0 ++ [32]).toArray⟩ : ByteArray) = SA at *
      obtain ⟨SS, hSS⟩ : ∃ SS, (⟨S0.toArray⟩ : ByteArray) = SS := ⟨_, rfl⟩
      rw [hSS] at cA z0 ⊢
      obtain ⟨SN, hSN⟩ : ∃ SN, (⟨S9.toArray⟩ : ByteArray) = SN := ⟨_, rfl⟩
      have HSN := Lib.hid hSN
      rw [hSN] at cC
      have HLT := Lib.hid hlt
      have hz0 : (SS.size : Int) ≤ 10000 := by omega
      have hz1 : (SA.size : Int) ≤ 10001 := by omega
      have hz2 : (SB.size : Int) ≤ 10009 := by omega
      have hz3 : (SK.size : Int) ≤ 502 := by omega
      clear hown hold hone hgt htl hi1 hi2 hcap hSK hSS hS9 hSN z5 hwl
      by_cases hnb : nb = 0
      · have hb0 : b4 i = 0 := by rw [HBI.out]; unfold bfN; rw [if_pos (by rw [HBL.out]; exact hnb)]
        have q25 : decide (0 < nb) = false := by simp; omega
        rw [hb0] at cB z6
        clear hnb
        have hlit : (⟨(bl4 0).toArray⟩ : ByteArray) = ⟨#[]⟩ := rfl
        rw [hlit] at cB z6
        have hz6 : (⟨#[]⟩ : ByteArray).size ≤ 8 := by decide
        clear hlit hb0 z0 z1 z2 z3 z6 hbl HBR
        go_wp2_with (go_at_call 22; (with_reducible refine C22.out.mono ?_); rintro e w6 ⟨rfl, hb6⟩; have HB6 := Lib.hid (HBL5.out.trans (hb6.mono HBL5.out.size));  clear hb6)
        go_roundw
        case rel => exact ⟨i + 1, S9, by have := HLT.out; omega, by go_num, by rw [HSN.out], HNX, Lib.hid (HB6.out.alloc HB6.out.size _)⟩
        case measure => have := HLT.out; simp [intOf]; omega
      · have hj : i % nb < nb := Nat.mod_lt _ (by omega)
        have hbv : b4 i = (bs[i % nb]'(by rw [HBL.out]; exact hj)).toNat % 4 := by
          rw [HBI.out]; unfold bfN; rw [if_neg (by rw [HBL.out]; exact hnb)]
          simp only [HBL.out]
          rw [List.getD_eq_getElem?_getD, List.getElem?_eq_getElem (by rw [HBL.out]; exact hj)]
          rfl
        have q25 : decide (0 < nb) = true := by simp; omega
        obtain ⟨gb, go, rfl, hcell⟩ := HBR.at (by omega)
        have hc := hcell (i % nb) (by rw [HBL.out]; exact hj)
        have hx256 : (bs[i % nb]'(by rw [HBL.out]; exact hj)).toNat < 256 := UInt8.toNat_lt _
        generalize (bs[i % nb]'(by rw [HBL.out]; exact hj)).toNat = xb at *
        have himod : (i : Int) % (nb : Int) = ((i % nb : Nat) : Int) := by omega
        generalize i % nb = jb at *
        obtain ⟨xi, hxi⟩ : ∃ xi : Int, (xb : Int) = xi := ⟨_, rfl⟩
        rw [hxi] at hc
        have hx0 : 0 ≤ xi := by omega
        have hx1 : xi < 256 := by omega
        have hjb : (jb : Int) < nb := by omega
        have h4 : b4 i = 0 ∧ xi % 4 = 0 ∨ b4 i = 1 ∧ xi % 4 = 1 ∨ b4 i = 2 ∧ xi % 4 = 2 ∨ b4 i = 3 ∧ xi % 4 = 3 := by omega
        have hnb0 : (nb : Int) ≠ 0 := by omega
        clear hcell hbv hx256 hxi
        rcases h4 with ⟨hb0, hm4⟩ | ⟨hb0, hm4⟩ | ⟨hb0, hm4⟩ | ⟨hb0, hm4⟩
        · rw [hb0] at cB z6
          have hlit : (⟨(bl4 0).toArray⟩ : ByteArray) = ⟨#[]⟩ := rfl
          rw [hlit] at cB z6
          have hz6 : (⟨#[]⟩ : ByteArray).size ≤ 8 := by decide
          clear hlit hb0 z0 z1 z2 z3 z6 hbl HBR
          go_wp2_with (go_at_call 22; (with_reducible refine C22.out.mono ?_); rintro e w6 ⟨rfl, hb6⟩; have HB6 := Lib.hid (HBL5.out.trans (hb6.mono HBL5.out.size)); have hc6 := (hb6.cell (World.block_lt_of_cell? _ _ hc)).trans hc; clear hc; clear hb6)
          go_roundw
          case rel => exact ⟨i + 1, S9, by have := HLT.out; omega, by go_num, by rw [HSN.out], HNX, Lib.hid (HB6.out.alloc HB6.out.size _)⟩
          case measure => have := HLT.out; simp [intOf]; omega
        · rw [hb0] at cB z6
          have hlit : (⟨(bl4 1).toArray⟩ : ByteArray) = ⟨#[10]⟩ := rfl
          rw [hlit] at cB z6
          have hz6 : (⟨#[10]⟩ : ByteArray).size ≤ 8 := by decide
          clear hlit hb0 z0 z1 z2 z3 z6 hbl HBR
          go_wp2_with (go_at_call 22; (with_reducible refine C22.out.mono ?_); rintro e w6 ⟨rfl, hb6⟩; have HB6 := Lib.hid (HBL5.out.trans (hb6.mono HBL5.out.size)); have hc6 := (hb6.cell (World.block_lt_of_cell? _ _ hc)).trans hc; clear hc; clear hb6)
          go_roundw
          case rel => exact ⟨i + 1, S9, by have := HLT.out; omega, by go_num, by rw [HSN.out], HNX, Lib.hid (HB6.out.alloc HB6.out.size _)⟩
          case measure => have := HLT.out; simp [intOf]; omega
        · rw [hb0] at cB z6
          have hlit : (⟨(bl4 2).toArray⟩ : ByteArray) = ⟨#[9]⟩ := rfl
          rw [hlit] at cB z6
          have hz6 : (⟨#[9]⟩ : ByteArray).size ≤ 8 := by decide
          clear hlit hb0 z0 z1 z2 z3 z6 hbl HBR
          go_wp2_with (go_at_call 22; (with_reducible refine C22.out.mono ?_); rintro e w6 ⟨rfl, hb6⟩; have HB6 := Lib.hid (HBL5.out.trans (hb6.mono HBL5.out.size)); have hc6 := (hb6.cell (World.block_lt_of_cell? _ _ hc)).trans hc; clear hc; clear hb6)
          go_roundw
          case rel => exact ⟨i + 1, S9, by have := HLT.out; omega, by go_num, by rw [HSN.out], HNX, Lib.hid (HB6.out.alloc HB6.out.size _)⟩
          case measure => have := HLT.out; simp [intOf]; omega
        · rw [hb0] at cB z6
          have hlit : (⟨(bl4 3).toArray⟩ : ByteArray) = ⟨#[35, 32, 97, 32, 34, 32, 98, 10]⟩ := rfl
          rw [hlit] at cB z6
          have hz6 : (⟨#[35, 32, 97, 32, 34, 32, 98, 10]⟩ : ByteArray).size ≤ 8 := by decide
          clear hlit hb0 z0 z1 z2 z3 z6 hbl HBR
          go_wp2_with (go_at_call 22; (with_reducible refine C22.out.mono ?_); rintro e w6 ⟨rfl, hb6⟩; have HB6 := Lib.hid (HBL5.out.trans (hb6.mono HBL5.out.size)); have hc6 := (hb6.cell (World.block_lt_of_cell? _ _ hc)).trans hc; clear hc; clear hb6)
          go_roundw
          case rel => exact ⟨i + 1, S9, by have := HLT.out; omega, by go_num, by rw [HSN.out], HNX, Lib.hid (HB6.out.alloc HB6.out.size _)⟩
          case measure => have := HLT.out; simp [intOf]; omega
    · have him : i = m := by omega
      subst him
      have hS : S0 = WD := by rw [HS.out, List.take_of_length_le (by rw [HM.out]; omega), HWD.out]
      subst hS
      have hz35 : (S0.length : Int) ≤ 10000 := by have := HWL.out; omega
      rw [← zWD] at hz35
      obtain ⟨SS, hSS⟩ : ∃ SS, (⟨S0.toArray⟩ : ByteArray) = SS := ⟨_, rfl⟩
      rw [hSS] at cWD zWD hz35 ⊢
      clear hSS zWE zWD hlt HB HPRE HBL
      go_upto_region 29 with (go_at_call 20; (with_reducible refine (CD.out _).mono ?_); rintro e w6 ⟨hb6, A3, c3, rfl, hown6⟩; have HB6 := Lib.hid hb6; have HWT := Lib.hid hown6; clear hb6 hown6)
      obtain ⟨w7, hw7⟩ : ∃ w7, w6.alloc (.cells #[.int .i64 0, .int .i64 0] 26) = w7 := ⟨_, rfl⟩
      have hb67 : Below w6.heap.size w6 w7 := hw7 ▸ (Below.refl _ w6).alloc (Nat.le_refl _) _
      have HB57 := Lib.hid ((HBL5.out.trans (HB6.out.mono HBL5.out.size)).trans (hb67.mono (Nat.le_trans HBL5.out.size HB6.out.size)))
      have HB7 := Lib.hid (HB5.out.trans (HB57.out.mono HB5.out.size))
      have HW7 := Lib.hid (own_keeps HW5.out fun q hq => HB57.out.block q (own_lt HW5.out q hq))
      have HA7 := Lib.hid (own_keeps HWA5.out fun q hq => HB57.out.block q (own_lt HWA5.out q hq))
      have HT7 := Lib.hid (own_keeps HWT.out fun q hq => hb67.block q (own_lt HWT.out q hq))
      obtain ⟨g8, hg8⟩ : ∃ g8, w6.heap.size = g8 := ⟨_, rfl⟩
      rw [hw7, hg8]
      clear hw7 hb67 hg8 CD HWT HB6 HW5 HWA5 hz35 cWD z35
      go_wp2_with fail
      go_loopw [27] (fun jv wr => ∃ j : Nat, (j : Int) ≤ i ∧ jv = .int .i64 j ∧ Hid (Below w7.heap.size w7 wr)) (fun jv _ => i - (intOf jv).toNat)
      case atStart => exact ⟨0, by omega, rfl, Lib.hid (Below.refl _ _)⟩
      case round =>
        obtain ⟨j, hj, rfl, HBr⟩ := hrel
        by_cases hlt : (j : Int) < i
        · have hj1 : j < ts.length := by rw [HM.out]; omega
          have hj2 : j < ta.length := by rw [HKL.out]; omega
          have hj3 : j < tb.length := by rw [HKM.out]; omega
          obtain ⟨g1, e1, hc1⟩ := own_at HW7.out (by omega) (Below.refl _ _)
          obtain ⟨g2, e2, hc2⟩ := own_at HA7.out (by omega) (Below.refl _ _)
          obtain ⟨g3, e3, hc3⟩ := own_at HT7.out (by omega) (Below.refl _ _)
          subst e1 e2 e3
          obtain ⟨l0, l1, l2, l3, l4⟩ := tk_get L ts j hj1
          obtain ⟨m0, m1, m2, m3, m4⟩ := tk_get J ta j hj2
          obtain ⟨n0, n1, n2, n3, n4⟩ := tk_get (S0 ++ [32, 35]) tb j hj3
          obtain ⟨ka, ta1, va⟩ := HKA.out j hj2 hj1
          obtain ⟨kb, tb1, vb⟩ := HKB.out j hj3 hj1
          rw [ka] at m0
          rw [ta1] at m1
          rw [va] at m2
          rw [kb] at n0
          rw [tb1] at n1
          rw [vb] at n2
          have a0 := hc1 _ _ l0
          have a1 := hc1 _ _ l1
          have a2 := hc1 _ _ l2
          have a3 := hc1 _ _ l3
          have a4 := hc1 _ _ l4
          have b0 := hc2 _ _ m0
          have b1 := hc2 _ _ m1
          have b2 := hc2 _ _ m2
          have b3 := hc2 _ _ m3
          have b5 := hc2 _ _ m4
          have t0 := hc3 _ _ n0
          have t1 := hc3 _ _ n1
          have t2 := hc3 _ _ n2
          have t3 := hc3 _ _ n3
          have t4 := hc3 _ _ n4
          clear l0 l1 l2 l3 l4 m0 m1 m2 m3 m4 n0 n1 n2 n3 n4 ka ta1 va kb tb1 vb hc1 hc2 hc3
          have CE2 := fun W => equal_any ((ts[j]).k : Int) (ts[j]).v ((lcOf J (ta[j]).a).1 : Int) ((lcOf J (ta[j]).a).2 : Int) ((ts[j]).k : Int) (ts[j]).v ((lcOf L (ts[j]).a).1 : Int) ((lcOf L (ts[j]).a).2 : Int) (ts[j]).t (ts[j]).t W
          have CE3 := fun W => equal_any ((ts[j]).k : Int) (ts[j]).v ((lcOf (S0 ++ [32, 35]) (tb[j]).a).1 : Int) ((lcOf (S0 ++ [32, 35]) (tb[j]).a).2 : Int) ((ts[j]).k : Int) (ts[j]).v ((lcOf L (ts[j]).a).1 : Int) ((lcOf L (ts[j]).a).2 : Int) (ts[j]).t (ts[j]).t W
          rw [eqK_self] at CE2 CE3
          have CE2 := Lib.hid CE2
          have CE3 := Lib.hid CE3
          generalize ((lcOf L (ts[j]).a).1 : Int) = n1 at *
          generalize ((lcOf L (ts[j]).a).2 : Int) = d1 at *
          generalize ((lcOf J (ta[j]).a).1 : Int) = n2 at *
          generalize ((lcOf J (ta[j]).a).2 : Int) = d2 at *
          generalize ((lcOf (S0 ++ [32, 35]) (tb[j]).a).1 : Int) = n3 at *
          generalize ((lcOf (S0 ++ [32, 35]) (tb[j]).a).2 : Int) = d3 at *
          generalize ((ts[j]).k : Int) = kk at *
          generalize (ts[j]).v = vv at *
          generalize (⟨(ts[j]).t.toArray⟩ : ByteArray) = Sx at *
          have key : ∀ (W : World), Below w7.heap.size w7 W → ∀ {p : Addr} {u : Value}, w7.cell? p = some u → W.cell? p = some u := fun W hb p u hp => (hb.cell (World.block_lt_of_cell? _ _ hp)).trans hp
          have HF1 : Hid (∀ W : World, Below w7.heap.size w7 W → W.cell? ⟨g1, j * 5, none⟩ = some (.int .i64 kk) ∧ W.cell? ⟨g1, j * 5 + 1, none⟩ = some (.string Sx) ∧ W.cell? ⟨g1, j * 5 + 2, none⟩ = some (.int .i64 vv) ∧ W.cell? ⟨g1, j * 5 + 3, none⟩ = some (.int .i64 n1) ∧ W.cell? ⟨g1, j * 5 + 4, none⟩ = some (.int .i64 d1)) := Lib.hid (fun W hb => ⟨key W hb a0, key W hb a1, key W hb a2, key W hb a3, key W hb a4⟩)
          have HF2 : Hid (∀ W : World, Below w7.heap.size w7 W → W.cell? ⟨g2, j * 5, none⟩ = some (.int .i64 kk) ∧ W.cell? ⟨g2, j * 5 + 1, none⟩ = some (.string Sx) ∧ W.cell? ⟨g2, j * 5 + 2, none⟩ = some (.int .i64 vv) ∧ W.cell? ⟨g2, j * 5 + 3, none⟩ = some (.int .i64 n2) ∧ W.cell? ⟨g2, j * 5 + 4, none⟩ = some (.int .i64 d2)) := Lib.hid (fun W hb => ⟨key W hb b0, key W hb b1, key W hb b2, key W hb b3, key W hb b5⟩)
          have HF3 : Hid (∀ W : World, Below w7.heap.size w7 W → W.cell? ⟨g3, j * 5, none⟩ = some (.int .i64 kk) ∧ W.cell? ⟨g3, j * 5 + 1, none⟩ = some (.string Sx) ∧ W.cell? ⟨g3, j * 5 + 2, none⟩ = some (.int .i64 vv) ∧ W.cell? ⟨g3, j * 5 + 3, none⟩ = some (.int .i64 n3) ∧ W.cell? ⟨g3, j * 5 + 4, none⟩ = some (.int .i64 d3)) := Lib.hid (fun W hb => ⟨key W hb t0, key W hb t1, key W hb t2, key W hb t3, key W hb t4⟩)
          clear a0 a1 a2 a3 a4 b0 b1 b2 b3 b5 t0 t1 t2 t3 t4 key hj1 hj2 hj3
          go_upto_region 34 with fail
          refine wp_region_G (S0 := (fun W : World => Below w7.heap.size w7 W)) (S1 := (fun W : World => Below w7.heap.size w7 W)) (c := 99) (by kernel_rfl) ?_
          have hHeld := (below_drew HBr.out)
          have h01 := (fun (W : World) (h : (fun W : World => Below w7.heap.size w7 W) W) => h)
          refine wpG_takeB (i := 0) (oi := ⟨some 198, _, _, _, _, _⟩) (v := .slice (some ⟨g2, 0, none⟩) i c2) rfl (by kernel_rfl) (by kernel_rfl) (by kernel_rfl) (by decide) (fun _ _ _ h => h) h01 rfl hHeld (Or.inl ⟨by rfl, ?_⟩) ?_
          · (intro W9 hSw; obtain ⟨f0, f1, f2, f3, f4⟩ := HF1.out _ hSw; obtain ⟨h0, h1, h2, h3, h4⟩ := HF2.out _ hSw; obtain ⟨p0, p1, p2, p3, p4⟩ := HF3.out _ hSw; go_simp; (try (first | with_reducible rfl | rfl | (simp; done))))
          try simp only [Act.put, List.setIfInBounds_toArray, List.set_cons_zero, List.set_cons_succ]
          refine wpG_takeB (i := 1) (oi := ⟨some 199, _, _, _, _, _⟩) (v := .int .i64 (j : Int)) rfl (by kernel_rfl) (by kernel_rfl) (by kernel_rfl) (by decide) (fun _ _ _ h => h) h01 rfl hHeld (Or.inl ⟨by rfl, ?_⟩) ?_
          · (intro W9 hSw; obtain ⟨f0, f1, f2, f3, f4⟩ := HF1.out _ hSw; obtain ⟨h0, h1, h2, h3, h4⟩ := HF2.out _ hSw; obtain ⟨p0, p1, p2, p3, p4⟩ := HF3.out _ hSw; go_simp; (try (first | with_reducible rfl | rfl | (simp; done))))
          try simp only [Act.put, List.setIfInBounds_toArray, List.set_cons_zero, List.set_cons_succ]
          refine wpG_takeB (i := 2) (oi := ⟨some 200, _, _, _, _, _⟩) (v := .pointer (some ⟨g2, j * 5, none⟩)) rfl (by kernel_rfl) (by kernel_rfl) (by kernel_rfl) (by decide) (fun _ _ _ h => h) h01 rfl hHeld (Or.inl ⟨by rfl, ?_⟩) ?_
          · (intro W9 hSw; obtain ⟨f0, f1, f2, f3, f4⟩ := HF1.out _ hSw; obtain ⟨h0, h1, h2, h3, h4⟩ := HF2.out _ hSw; obtain ⟨p0, p1, p2, p3, p4⟩ := HF3.out _ hSw; go_simp; (try (first | with_reducible rfl | rfl | (simp; done))))
          try simp only [Act.put, List.setIfInBounds_toArray, List.set_cons_zero, List.set_cons_succ]
          refine wpG_takeB (i := 3) (oi := ⟨some 201, _, _, _, _, _⟩) (v := .agg #[.int .i64 kk, .string Sx, .int .i64 vv, .int .i64 n2, .int .i64 d2]) rfl (by kernel_rfl) (by kernel_rfl) (by kernel_rfl) (by decide) (fun _ _ _ h => h) h01 rfl hHeld (Or.inl ⟨by rfl, ?_⟩) ?_
          · (intro W9 hSw; obtain ⟨f0, f1, f2, f3, f4⟩ := HF1.out _ hSw; obtain ⟨h0, h1, h2, h3, h4⟩ := HF2.out _ hSw; obtain ⟨p0, p1, p2, p3, p4⟩ := HF3.out _ hSw; go_simp; (try (first | with_reducible rfl | rfl | (simp; done))))
          try simp only [Act.put, List.setIfInBounds_toArray, List.set_cons_zero, List.set_cons_succ]
          refine wpG_takeB (i := 4) (oi := ⟨some 202, _, _, _, _, _⟩) (v := .slice (some ⟨g1, 0, none⟩) i c1) rfl (by kernel_rfl) (by kernel_rfl) (by kernel_rfl) (by decide) (fun _ _ _ h => h) h01 rfl hHeld (Or.inl ⟨by rfl, ?_⟩) ?_
          · (intro W9 hSw; obtain ⟨f0, f1, f2, f3, f4⟩ := HF1.out _ hSw; obtain ⟨h0, h1, h2, h3, h4⟩ := HF2.out _ hSw; obtain ⟨p0, p1, p2, p3, p4⟩ := HF3.out _ hSw; go_simp; (try (first | with_reducible rfl | rfl | (simp; done))))
          try simp only [Act.put, List.setIfInBounds_toArray, List.set_cons_zero, List.set_cons_succ]
          refine wpG_takeB (i := 5) (oi := ⟨some 203, _, _, _, _, _⟩) (v := .int .i64 (j : Int)) rfl (by kernel_rfl) (by kernel_rfl) (by kernel_rfl) (by decide) (fun _ _ _ h => h) h01 rfl hHeld (Or.inl ⟨by rfl, ?_⟩) ?_
          · (intro W9 hSw; obtain ⟨f0, f1, f2, f3, f4⟩ := HF1.out _ hSw; obtain ⟨h0, h1, h2, h3, h4⟩ := HF2.out _ hSw; obtain ⟨p0, p1, p2, p3, p4⟩ := HF3.out _ hSw; go_simp; (try (first | with_reducible rfl | rfl | (simp; done))))
          try simp only [Act.put, List.setIfInBounds_toArray, List.set_cons_zero, List.set_cons_succ]
          refine wpG_takeB (i := 6) (oi := ⟨some 204, _, _, _, _, _⟩) (v := .pointer (some ⟨g1, j * 5, none⟩)) rfl (by kernel_rfl) (by kernel_rfl) (by kernel_rfl) (by decide) (fun _ _ _ h => h) h01 rfl hHeld (Or.inl ⟨by rfl, ?_⟩) ?_
          · (intro W9 hSw; obtain ⟨f0, f1, f2, f3, f4⟩ := HF1.out _ hSw; obtain ⟨h0, h1, h2, h3, h4⟩ := HF2.out _ hSw; obtain ⟨p0, p1, p2, p3, p4⟩ := HF3.out _ hSw; go_simp; (try (first | with_reducible rfl | rfl | (simp; done))))
          try simp only [Act.put, List.setIfInBounds_toArray, List.set_cons_zero, List.set_cons_succ]
          refine wpG_takeB (i := 7) (oi := ⟨some 205, _, _, _, _, _⟩) (v := .agg #[.int .i64 kk, .string Sx, .int .i64 vv, .int .i64 n1, .int .i64 d1]) rfl (by kernel_rfl) (by kernel_rfl) (by kernel_rfl) (by decide) (fun _ _ _ h => h) h01 rfl hHeld (Or.inl ⟨by rfl, ?_⟩) ?_
          · (intro W9 hSw; obtain ⟨f0, f1, f2, f3, f4⟩ := HF1.out _ hSw; obtain ⟨h0, h1, h2, h3, h4⟩ := HF2.out _ hSw; obtain ⟨p0, p1, p2, p3, p4⟩ := HF3.out _ hSw; go_simp; (try (first | with_reducible rfl | rfl | (simp; done))))
          try simp only [Act.put, List.setIfInBounds_toArray, List.set_cons_zero, List.set_cons_succ]
          refine wpG_oneB (i := 8) (o := ⟨some 206, _, _, _, _, _⟩) (by kernel_rfl) rfl rfl (fun K hK => ?_)
          go_simp
          (with_reducible refine (CE2.out _).mono ?_); rintro e w8 ⟨rfl, hb8⟩
          have HB8 := Lib.hid ((below_drew HBr.out).trans (hb8.mono HBr.out.size))
          clear hb8
          refine hK.out _ _ HB8.out (fun hHeld => ?_)
          clear hK K
          try simp only [Act.put, List.setIfInBounds_toArray, List.set_cons_zero, List.set_cons_succ]
          refine wpG_takeB (i := 9) (oi := ⟨some 207, _, _, _, _, _⟩) (v := .bool false) rfl (by kernel_rfl) (by kernel_rfl) (by kernel_rfl) (by decide) (fun _ _ _ h => h) h01 rfl hHeld (Or.inl ⟨by rfl, ?_⟩) ?_
          · (intro W9 hSw; obtain ⟨f0, f1, f2, f3, f4⟩ := HF1.out _ hSw; obtain ⟨h0, h1, h2, h3, h4⟩ := HF2.out _ hSw; obtain ⟨p0, p1, p2, p3, p4⟩ := HF3.out _ hSw; go_simp; (try (first | with_reducible rfl | rfl | (simp; done))))
          try simp only [Act.put, List.setIfInBounds_toArray, List.set_cons_zero, List.set_cons_succ]
          refine wpG_takeB (i := 10) (oi := ⟨some 208, _, _, _, _, _⟩) (v := .bool false) rfl (by kernel_rfl) (by kernel_rfl) (by kernel_rfl) (by decide) (fun _ _ _ h => h) h01 rfl hHeld (Or.inl ⟨by rfl, ?_⟩) ?_
          · (intro W9 hSw; obtain ⟨f0, f1, f2, f3, f4⟩ := HF1.out _ hSw; obtain ⟨h0, h1, h2, h3, h4⟩ := HF2.out _ hSw; obtain ⟨p0, p1, p2, p3, p4⟩ := HF3.out _ hSw; go_simp; (try (first | with_reducible rfl | rfl | (simp; done))))
          try simp only [Act.put, List.setIfInBounds_toArray, List.set_cons_zero, List.set_cons_succ]
          refine wpG_takeB (i := 11) (oi := ⟨some 209, _, _, _, _, _⟩) (v := .slice (some ⟨g3, 0, none⟩) i c3) rfl (by kernel_rfl) (by kernel_rfl) (by kernel_rfl) (by decide) (fun _ _ _ h => h) h01 rfl hHeld (Or.inl ⟨by rfl, ?_⟩) ?_
          · (intro W9 hSw; obtain ⟨f0, f1, f2, f3, f4⟩ := HF1.out _ hSw; obtain ⟨h0, h1, h2, h3, h4⟩ := HF2.out _ hSw; obtain ⟨p0, p1, p2, p3, p4⟩ := HF3.out _ hSw; go_simp; (try (first | with_reducible rfl | rfl | (simp; done))))
          try simp only [Act.put, List.setIfInBounds_toArray, List.set_cons_zero, List.set_cons_succ]
          refine wpG_takeB (i := 12) (oi := ⟨some 210, _, _, _, _, _⟩) (v := .int .i64 (j : Int)) rfl (by kernel_rfl) (by kernel_rfl) (by kernel_rfl) (by decide) (fun _ _ _ h => h) h01 rfl hHeld (Or.inl ⟨by rfl, ?_⟩) ?_
          · (intro W9 hSw; obtain ⟨f0, f1, f2, f3, f4⟩ := HF1.out _ hSw; obtain ⟨h0, h1, h2, h3, h4⟩ := HF2.out _ hSw; obtain ⟨p0, p1, p2, p3, p4⟩ := HF3.out _ hSw; go_simp; (try (first | with_reducible rfl | rfl | (simp; done))))
          try simp only [Act.put, List.setIfInBounds_toArray, List.set_cons_zero, List.set_cons_succ]
          refine wpG_takeB (i := 13) (oi := ⟨some 211, _, _, _, _, _⟩) (v := .pointer (some ⟨g3, j * 5, none⟩)) rfl (by kernel_rfl) (by kernel_rfl) (by kernel_rfl) (by decide) (fun _ _ _ h => h) h01 rfl hHeld (Or.inl ⟨by rfl, ?_⟩) ?_
          · (intro W9 hSw; obtain ⟨f0, f1, f2, f3, f4⟩ := HF1.out _ hSw; obtain ⟨h0, h1, h2, h3, h4⟩ := HF2.out _ hSw; obtain ⟨p0, p1, p2, p3, p4⟩ := HF3.out _ hSw; go_simp; (try (first | with_reducible rfl | rfl | (simp; done))))
          try simp only [Act.put, List.setIfInBounds_toArray, List.set_cons_zero, List.set_cons_succ]
          refine wpG_takeB (i := 14) (oi := ⟨some 212, _, _, _, _, _⟩) (v := .agg #[.int .i64 kk, .string Sx, .int .i64 vv, .int .i64 n3, .int .i64 d3]) rfl (by kernel_rfl) (by kernel_rfl) (by kernel_rfl) (by decide) (fun _ _ _ h => h) h01 rfl hHeld (Or.inl ⟨by rfl, ?_⟩) ?_
          · (intro W9 hSw; obtain ⟨f0, f1, f2, f3, f4⟩ := HF1.out _ hSw; obtain ⟨h0, h1, h2, h3, h4⟩ := HF2.out _ hSw; obtain ⟨p0, p1, p2, p3, p4⟩ := HF3.out _ hSw; go_simp; (try (first | with_reducible rfl | rfl | (simp; done))))
          try simp only [Act.put, List.setIfInBounds_toArray, List.set_cons_zero, List.set_cons_succ]
          refine wpG_takeB (i := 15) (oi := ⟨some 213, _, _, _, _, _⟩) (v := .slice (some ⟨g1, 0, none⟩) i c1) rfl (by kernel_rfl) (by kernel_rfl) (by kernel_rfl) (by decide) (fun _ _ _ h => h) h01 rfl hHeld (Or.inl ⟨by rfl, ?_⟩) ?_
          · (intro W9 hSw; obtain ⟨f0, f1, f2, f3, f4⟩ := HF1.out _ hSw; obtain ⟨h0, h1, h2, h3, h4⟩ := HF2.out _ hSw; obtain ⟨p0, p1, p2, p3, p4⟩ := HF3.out _ hSw; go_simp; (try (first | with_reducible rfl | rfl | (simp; done))))
          try simp only [Act.put, List.setIfInBounds_toArray, List.set_cons_zero, List.set_cons_succ]
          refine wpG_takeB (i := 16) (oi := ⟨some 214, _, _, _, _, _⟩) (v := .int .i64 (j : Int)) rfl (by kernel_rfl) (by kernel_rfl) (by kernel_rfl) (by decide) (fun _ _ _ h => h) h01 rfl hHeld (Or.inl ⟨by rfl, ?_⟩) ?_
          · (intro W9 hSw; obtain ⟨f0, f1, f2, f3, f4⟩ := HF1.out _ hSw; obtain ⟨h0, h1, h2, h3, h4⟩ := HF2.out _ hSw; obtain ⟨p0, p1, p2, p3, p4⟩ := HF3.out _ hSw; go_simp; (try (first | with_reducible rfl | rfl | (simp; done))))
          try simp only [Act.put, List.setIfInBounds_toArray, List.set_cons_zero, List.set_cons_succ]
          refine wpG_takeB (i := 17) (oi := ⟨some 215, _, _, _, _, _⟩) (v := .pointer (some ⟨g1, j * 5, none⟩)) rfl (by kernel_rfl) (by kernel_rfl) (by kernel_rfl) (by decide) (fun _ _ _ h => h) h01 rfl hHeld (Or.inl ⟨by rfl, ?_⟩) ?_
          · (intro W9 hSw; obtain ⟨f0, f1, f2, f3, f4⟩ := HF1.out _ hSw; obtain ⟨h0, h1, h2, h3, h4⟩ := HF2.out _ hSw; obtain ⟨p0, p1, p2, p3, p4⟩ := HF3.out _ hSw; go_simp; (try (first | with_reducible rfl | rfl | (simp; done))))
          try simp only [Act.put, List.setIfInBounds_toArray, List.set_cons_zero, List.set_cons_succ]
          refine wpG_takeB (i := 18) (oi := ⟨some 216, _, _, _, _, _⟩) (v := .agg #[.int .i64 kk, .string Sx, .int .i64 vv, .int .i64 n1, .int .i64 d1]) rfl (by kernel_rfl) (by kernel_rfl) (by kernel_rfl) (by decide) (fun _ _ _ h => h) h01 rfl hHeld (Or.inl ⟨by rfl, ?_⟩) ?_
          · (intro W9 hSw; obtain ⟨f0, f1, f2, f3, f4⟩ := HF1.out _ hSw; obtain ⟨h0, h1, h2, h3, h4⟩ := HF2.out _ hSw; obtain ⟨p0, p1, p2, p3, p4⟩ := HF3.out _ hSw; go_simp; (try (first | with_reducible rfl | rfl | (simp; done))))
          try simp only [Act.put, List.setIfInBounds_toArray, List.set_cons_zero, List.set_cons_succ]
          refine wpG_oneB (i := 19) (o := ⟨some 217, _, _, _, _, _⟩) (by kernel_rfl) rfl rfl (fun K hK => ?_)
          go_simp
          (with_reducible refine (CE3.out _).mono ?_); rintro e w10 ⟨rfl, hb10⟩
          have HB10 := Lib.hid (HB8.out.trans (hb10.mono HB8.out.size))
          clear hb10
          refine hK.out _ _ HB10.out (fun hHeld => ?_)
          clear hK K
          try simp only [Act.put, List.setIfInBounds_toArray, List.set_cons_zero, List.set_cons_succ]
          refine wpG_takeB (i := 20) (oi := ⟨some 218, _, _, _, _, _⟩) (v := .bool false) rfl (by kernel_rfl) (by kernel_rfl) (by kernel_rfl) (by decide) (fun _ _ _ h => h) h01 rfl hHeld (Or.inl ⟨by rfl, ?_⟩) ?_
          · (intro W9 hSw; obtain ⟨f0, f1, f2, f3, f4⟩ := HF1.out _ hSw; obtain ⟨h0, h1, h2, h3, h4⟩ := HF2.out _ hSw; obtain ⟨p0, p1, p2, p3, p4⟩ := HF3.out _ hSw; go_simp; (try (first | with_reducible rfl | rfl | (simp; done))))
          try simp only [Act.put, List.setIfInBounds_toArray, List.set_cons_zero, List.set_cons_succ]
          refine wpG_takeB (i := 21) (oi := ⟨some 219, _, _, _, _, _⟩) (v := .bool false) rfl (by kernel_rfl) (by kernel_rfl) (by kernel_rfl) (by decide) (fun _ _ _ h => h) h01 rfl hHeld (Or.inl ⟨by rfl, ?_⟩) ?_
          · (intro W9 hSw; obtain ⟨f0, f1, f2, f3, f4⟩ := HF1.out _ hSw; obtain ⟨h0, h1, h2, h3, h4⟩ := HF2.out _ hSw; obtain ⟨p0, p1, p2, p3, p4⟩ := HF3.out _ hSw; go_simp; (try (first | with_reducible rfl | rfl | (simp; done))))
          try simp only [Act.put, List.setIfInBounds_toArray, List.set_cons_zero, List.set_cons_succ]
          refine wpG_takeB (i := 22) (oi := ⟨some 220, _, _, _, _, _⟩) (v := .bool false) rfl (by kernel_rfl) (by kernel_rfl) (by kernel_rfl) (by decide) (fun _ _ _ h => h) h01 rfl hHeld (Or.inl ⟨by rfl, ?_⟩) ?_
          · (intro W9 hSw; obtain ⟨f0, f1, f2, f3, f4⟩ := HF1.out _ hSw; obtain ⟨h0, h1, h2, h3, h4⟩ := HF2.out _ hSw; obtain ⟨p0, p1, p2, p3, p4⟩ := HF3.out _ hSw; go_simp; (try (first | with_reducible rfl | rfl | (simp; done))))
          try simp only [Act.put, List.setIfInBounds_toArray, List.set_cons_zero, List.set_cons_succ]
          refine wpG_takeB (i := 23) (oi := ⟨some 221, _, _, _, _, _⟩) (v := .slice (some ⟨g2, 0, none⟩) i c2) rfl (by kernel_rfl) (by kernel_rfl) (by kernel_rfl) (by decide) (fun _ _ _ h => h) h01 rfl hHeld (Or.inl ⟨by rfl, ?_⟩) ?_
          · (intro W9 hSw; obtain ⟨f0, f1, f2, f3, f4⟩ := HF1.out _ hSw; obtain ⟨h0, h1, h2, h3, h4⟩ := HF2.out _ hSw; obtain ⟨p0, p1, p2, p3, p4⟩ := HF3.out _ hSw; go_simp; (try (first | with_reducible rfl | rfl | (simp; done))))
          try simp only [Act.put, List.setIfInBounds_toArray, List.set_cons_zero, List.set_cons_succ]
          refine wpG_takeB (i := 24) (oi := ⟨some 222, _, _, _, _, _⟩) (v := .int .i64 (j : Int)) rfl (by kernel_rfl) (by kernel_rfl) (by kernel_rfl) (by decide) (fun _ _ _ h => h) h01 rfl hHeld (Or.inl ⟨by rfl, ?_⟩) ?_
          · (intro W9 hSw; obtain ⟨f0, f1, f2, f3, f4⟩ := HF1.out _ hSw; obtain ⟨h0, h1, h2, h3, h4⟩ := HF2.out _ hSw; obtain ⟨p0, p1, p2, p3, p4⟩ := HF3.out _ hSw; go_simp; (try (first | with_reducible rfl | rfl | (simp; done))))
          try simp only [Act.put, List.setIfInBounds_toArray, List.set_cons_zero, List.set_cons_succ]
          refine wpG_takeB (i := 25) (oi := ⟨some 223, _, _, _, _, _⟩) (v := .pointer (some ⟨g2, j * 5, none⟩)) rfl (by kernel_rfl) (by kernel_rfl) (by kernel_rfl) (by decide) (fun _ _ _ h => h) h01 rfl hHeld (Or.inl ⟨by rfl, ?_⟩) ?_
          · (intro W9 hSw; obtain ⟨f0, f1, f2, f3, f4⟩ := HF1.out _ hSw; obtain ⟨h0, h1, h2, h3, h4⟩ := HF2.out _ hSw; obtain ⟨p0, p1, p2, p3, p4⟩ := HF3.out _ hSw; go_simp; (try (first | with_reducible rfl | rfl | (simp; done))))
          try simp only [Act.put, List.setIfInBounds_toArray, List.set_cons_zero, List.set_cons_succ]
          refine wpG_takeB (i := 26) (oi := ⟨some 224, _, _, _, _, _⟩) (v := .pointer (some ⟨g2, j * 5 + 1, none⟩)) rfl (by kernel_rfl) (by kernel_rfl) (by kernel_rfl) (by decide) (fun _ _ _ h => h) h01 rfl hHeld (Or.inl ⟨by rfl, ?_⟩) ?_
          · (intro W9 hSw; obtain ⟨f0, f1, f2, f3, f4⟩ := HF1.out _ hSw; obtain ⟨h0, h1, h2, h3, h4⟩ := HF2.out _ hSw; obtain ⟨p0, p1, p2, p3, p4⟩ := HF3.out _ hSw; go_simp; (try (first | with_reducible rfl | rfl | (simp; done))))
          try simp only [Act.put, List.setIfInBounds_toArray, List.set_cons_zero, List.set_cons_succ]
          refine wpG_takeB (i := 27) (oi := ⟨some 225, _, _, _, _, _⟩) (v := .string Sx) rfl (by kernel_rfl) (by kernel_rfl) (by kernel_rfl) (by decide) (fun _ _ _ h => h) h01 rfl hHeld (Or.inl ⟨by rfl, ?_⟩) ?_
          · (intro W9 hSw; obtain ⟨f0, f1, f2, f3, f4⟩ := HF1.out _ hSw; obtain ⟨h0, h1, h2, h3, h4⟩ := HF2.out _ hSw; obtain ⟨p0, p1, p2, p3, p4⟩ := HF3.out _ hSw; go_simp; (try (first | with_reducible rfl | rfl | (simp; done))))
          try simp only [Act.put, List.setIfInBounds_toArray, List.set_cons_zero, List.set_cons_succ]
          refine wpG_takeB (i := 28) (oi := ⟨some 226, _, _, _, _, _⟩) (v := .slice (some ⟨g1, 0, none⟩) i c1) rfl (by kernel_rfl) (by kernel_rfl) (by kernel_rfl) (by decide) (fun _ _ _ h => h) h01 rfl hHeld (Or.inl ⟨by rfl, ?_⟩) ?_
          · (intro W9 hSw; obtain ⟨f0, f1, f2, f3, f4⟩ := HF1.out _ hSw; obtain ⟨h0, h1, h2, h3, h4⟩ := HF2.out _ hSw; obtain ⟨p0, p1, p2, p3, p4⟩ := HF3.out _ hSw; go_simp; (try (first | with_reducible rfl | rfl | (simp; done))))
          try simp only [Act.put, List.setIfInBounds_toArray, List.set_cons_zero, List.set_cons_succ]
          refine wpG_takeB (i := 29) (oi := ⟨some 227, _, _, _, _, _⟩) (v := .int .i64 (j : Int)) rfl (by kernel_rfl) (by kernel_rfl) (by kernel_rfl) (by decide) (fun _ _ _ h => h) h01 rfl hHeld (Or.inl ⟨by rfl, ?_⟩) ?_
          · (intro W9 hSw; obtain ⟨f0, f1, f2, f3, f4⟩ := HF1.out _ hSw; obtain ⟨h0, h1, h2, h3, h4⟩ := HF2.out _ hSw; obtain ⟨p0, p1, p2, p3, p4⟩ := HF3.out _ hSw; go_simp; (try (first | with_reducible rfl | rfl | (simp; done))))
          try simp only [Act.put, List.setIfInBounds_toArray, List.set_cons_zero, List.set_cons_succ]
          refine wpG_takeB (i := 30) (oi := ⟨some 228, _, _, _, _, _⟩) (v := .pointer (some ⟨g1, j * 5, none⟩)) rfl (by kernel_rfl) (by kernel_rfl) (by kernel_rfl) (by decide) (fun _ _ _ h => h) h01 rfl hHeld (Or.inl ⟨by rfl, ?_⟩) ?_
          · (intro W9 hSw; obtain ⟨f0, f1, f2, f3, f4⟩ := HF1.out _ hSw; obtain ⟨h0, h1, h2, h3, h4⟩ := HF2.out _ hSw; obtain ⟨p0, p1, p2, p3, p4⟩ := HF3.out _ hSw; go_simp; (try (first | with_reducible rfl | rfl | (simp; done))))
          try simp only [Act.put, List.setIfInBounds_toArray, List.set_cons_zero, List.set_cons_succ]
          refine wpG_takeB (i := 31) (oi := ⟨some 229, _, _, _, _, _⟩) (v := .pointer (some ⟨g1, j * 5 + 1, none⟩)) rfl (by kernel_rfl) (by kernel_rfl) (by kernel_rfl) (by decide) (fun _ _ _ h => h) h01 rfl hHeld (Or.inl ⟨by rfl, ?_⟩) ?_
          · (intro W9 hSw; obtain ⟨f0, f1, f2, f3, f4⟩ := HF1.out _ hSw; obtain ⟨h0, h1, h2, h3, h4⟩ := HF2.out _ hSw; obtain ⟨p0, p1, p2, p3, p4⟩ := HF3.out _ hSw; go_simp; (try (first | with_reducible rfl | rfl | (simp; done))))
          try simp only [Act.put, List.setIfInBounds_toArray, List.set_cons_zero, List.set_cons_succ]
          refine wpG_takeB (i := 32) (oi := ⟨some 230, _, _, _, _, _⟩) (v := .string Sx) rfl (by kernel_rfl) (by kernel_rfl) (by kernel_rfl) (by decide) (fun _ _ _ h => h) h01 rfl hHeld (Or.inl ⟨by rfl, ?_⟩) ?_
          · (intro W9 hSw; obtain ⟨f0, f1, f2, f3, f4⟩ := HF1.out _ hSw; obtain ⟨h0, h1, h2, h3, h4⟩ := HF2.out _ hSw; obtain ⟨p0, p1, p2, p3, p4⟩ := HF3.out _ hSw; go_simp; (try (first | with_reducible rfl | rfl | (simp; done))))
          try simp only [Act.put, List.setIfInBounds_toArray, List.set_cons_zero, List.set_cons_succ]
          refine wpG_takeB (i := 33) (oi := ⟨some 231, _, _, _, _, _⟩) (v := .bool false) rfl (by kernel_rfl) (by kernel_rfl) (by kernel_rfl) (by decide) (fun _ _ _ h => h) h01 rfl hHeld (Or.inl ⟨by rfl, ?_⟩) ?_
          · (intro W9 hSw; obtain ⟨f0, f1, f2, f3, f4⟩ := HF1.out _ hSw; obtain ⟨h0, h1, h2, h3, h4⟩ := HF2.out _ hSw; obtain ⟨p0, p1, p2, p3, p4⟩ := HF3.out _ hSw; go_simp; (try (first | with_reducible rfl | rfl | (simp; done))))
          try simp only [Act.put, List.setIfInBounds_toArray, List.set_cons_zero, List.set_cons_succ]
          refine wpG_takeB (i := 34) (oi := ⟨some 232, _, _, _, _, _⟩) (v := .bool false) rfl (by kernel_rfl) (by kernel_rfl) (by kernel_rfl) (by decide) (fun _ _ _ h => h) h01 rfl hHeld (Or.inl ⟨by rfl, ?_⟩) ?_
          · (intro W9 hSw; obtain ⟨f0, f1, f2, f3, f4⟩ := HF1.out _ hSw; obtain ⟨h0, h1, h2, h3, h4⟩ := HF2.out _ hSw; obtain ⟨p0, p1, p2, p3, p4⟩ := HF3.out _ hSw; go_simp; (try (first | with_reducible rfl | rfl | (simp; done))))
          try simp only [Act.put, List.setIfInBounds_toArray, List.set_cons_zero, List.set_cons_succ]
          refine wpG_done (by kernel_rfl) ?_ _
          clear hHeld h01
          go_wp2_with fail
          go_roundw
          case rel => exact ⟨j + 1, by omega, by go_num, HB10⟩
          case measure => simp [intOf]; omega
        · go_wp2_with (go_at_call 8; (with_reducible refine (C8.out _).mono ?_); rintro e w9 ⟨rfl, hb9⟩; have HB9 := Lib.hid hb9; clear hb9)
          go_ret
          exact ⟨by first | rfl | trivial, (HB7.out.trans (HBr.out.mono HB7.out.size)).trans (HB9.out.mono (Nat.le_trans HB7.out.size HBr.out.size))⟩
set_option maxRecDepth 100000 in
set_option maxHeartbeats 1000000 in
theorem inverts_law (s : ByteArray) (A : Option Addr) (nb cb : Nat) (bs : List UInt8) (w : World) (hs : s.size ≤ maxLen) (hB : RB w A nb cb bs) : Calls Tryd.prog 7 #[.string s, .slice A nb cb] w fun e w' => e = .returned (.bool true) ∧ Below w.heap.size w w' := by
  by_cases hbig : (500 : Int) < s.size
  · have C8 := Lib.hid known_any
    clear hs hB
    go_enter Tryd.func7, Tryd.ntmps7
    go_wp2_with (go_at_call 8; (with_reducible refine (C8.out _).mono ?_); rintro e w9 ⟨rfl, hb9⟩; have HB9 := Lib.hid hb9; clear hb9)
    go_ret
    exact ⟨rfl, HB9.out⟩
  obtain ⟨L, hL⟩ : ∃ L : List UInt8, s = ⟨L.toArray⟩ := ⟨s.data.toList, by rw [Lib.mk_data]⟩
  have hsz := Lib.size_mk L
  have hn : L.length ≤ 500 := by rw [hL] at hbig; omega
  cases h : (scanL 0 L).2 with
  | some b => exact inv_bad s _ L w hL hn b h
  | none => exact inv_ok s A nb cb bs L w hL hn h hB

end Go.Proofs.YtkihoekldklkhaaDoor
