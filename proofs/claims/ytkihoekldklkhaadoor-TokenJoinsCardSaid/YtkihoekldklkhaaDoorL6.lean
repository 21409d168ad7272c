/- The walk of TokenJoins. -/
import Derived.Test.YtkihoekldklkhaaDoorHr
import Derived.Test.YtkihoekldklkhaaDoorTs
import Derived.Deep.RegionHeld3
namespace Go.Proofs.YtkihoekldklkhaaDoor
open Go.RowKit
set_option linter.unusedVariables false
set_option linter.unusedSimpArgs false

/-- The cells of a list of tokens, from its place on. -/
theorem held_at {w W : World} {A : Option Addr} {n : Nat} {xs : List Td} (h : HoldsS w 5 A n (xs.flatMap TdC)) (hl : xs.length = n) (h0 : 0 < n) (hb : Below w.heap.size w W) : ∃ g o, A = some ⟨g, o, none⟩ ∧ ∀ j u, (xs.flatMap TdC)[j]? = some u → W.cell? ⟨g, o + j, none⟩ = some u := by
  cases A with
  | none => have := h.2.1 rfl; omega
  | some b =>
    obtain ⟨gb, go, gs⟩ := b
    have key : ∀ {k : Nat} {u : Value}, (xs.flatMap TdC)[k]? = some u → W.cell? ((⟨gb, go, gs⟩ : Addr).add k) = some u := fun {k u} hk => by
      have h9 := h.2.2 _ rfl k u hk
      exact (hb.cell (World.block_lt_of_cell? _ _ h9)).trans h9
    have hgs : gs = none := by have := World.cell?_spot (key (td_get xs 0 (by omega)).1); simpa [Addr.add] using this
    subst hgs
    refine ⟨gb, go, rfl, fun j u hj => ?_⟩
    have := key hj
    rwa [Addr.add_lit] at this
theorem join_some (xs : List Td) (w : World) : ∃ (Sj : ByteArray) (Ej : Int), ∀ (W : World) e w', JoinE xs W e w' → e = .returned (.tuple #[.string Sj, .int .i64 Ej]) ∧ Below W.heap.size W w' := by
  by_cases h : xs.all oneT = true
  · exact ⟨_, _, fun W e w' hh => ⟨by rw [hh.2, if_pos h], hh.1⟩⟩
  · exact ⟨_, _, fun W e w' hh => ⟨by rw [hh.2, if_neg h], hh.1⟩⟩
set_option maxRecDepth 100000 in
set_option maxHeartbeats 1000000 in
theorem joins_law (A : Option Addr) (n c : Nat) (xs : List Td) (w : World) (h : TL w A n c xs) : Calls Tryd.prog 6 #[.slice A n c] w fun e w' => e = .returned (.bool true) ∧ Below w.heap.size w w' := by
  have C8 := Lib.hid known_any
  by_cases hbig : (30 : Int) < n
  · clear h
    go_enter Tryd.func6, Tryd.ntmps6
    go_wp2_with (go_at_call 8; (with_reducible refine (C8.out _).mono ?_); rintro e w9 ⟨rfl, hb9⟩; have HB9 := Lib.hid hb9; clear hb9)
    go_ret
    exact ⟨rfl, HB9.out⟩
  have q30 : decide ((30 : Int) < (n : Int)) = false := by simp; omega
  have HH := Lib.hid h.h
  have HL := Lib.hid h.len
  have hn0 : (n : Int) ≤ 30 := by omega
  clear h hbig
  go_enter Tryd.func6, Tryd.ntmps6
  go_wp2_with fail
  clear q30
  go_loopw [3, 4] (fun ov iv wr => ∃ i : Nat, (i : Int) ≤ n ∧ iv = .int .i64 i ∧ Hid (∀ x ∈ xs.take i, x.t.length ≤ 50) ∧ Hid (wr.ownsRow w.heap.size 56 4 ov i ((xs.take i).flatMap RdC)) ∧ Hid (Below w.heap.size w wr)) (fun _ iv _ => n - (intOf iv).toNat)
  case atStart => exact ⟨0, by omega, rfl, Lib.hid (fun x hx => by simp at hx), Lib.hid (World.ownsRow_nil _ _ 56 4), Lib.hid (Below.refl _ _)⟩
  case round =>
    obtain ⟨i, hi, rfl, HTI, HWN, HBL⟩ := hrel
    obtain ⟨Ao, no, eo, -⟩ := own_formS HWN.out
    subst eo
    by_cases hlt : (i : Int) < n
    · have hi1 : i < xs.length := by rw [HL.out]; omega
      obtain ⟨gb, go, rfl, hkey⟩ := held_at HH.out HL.out (by omega) HBL.out
      obtain ⟨l0, l1, l2, l3, l4⟩ := td_get xs i hi1
      have f0 := hkey _ _ l0
      have f1 := hkey _ _ l1
      have f2 := hkey _ _ l2
      have f3 := hkey _ _ l3
      have f4 := hkey _ _ l4
      rw [← Nat.add_assoc] at f1 f2 f3 f4
      have HTK : Hid (xs.take (i + 1) = xs.take i ++ [xs[i]]) := Lib.hid (List.take_succ_eq_append_getElem hi1)
      generalize xs[i] = x at *
      have z0 := Lib.size_mk x.t
      have C21 := Lib.hid (fun W => as_any x.k x.v x.ln x.cl ⟨x.t.toArray⟩ W)
      have HRD : Hid (RdC x = [.int .i64 x.k, .string ⟨x.t.toArray⟩, .int .i64 x.v, .int .i64 0]) := Lib.hid rfl
      obtain ⟨St, hSt⟩ : ∃ St, (⟨x.t.toArray⟩ : ByteArray) = St := ⟨_, rfl⟩
      rw [hSt] at f1 C21 HRD z0
      clear l0 l1 l2 l3 l4 hkey hSt hi1
      by_cases hbx : (50 : Int) < St.size
      · clear f0 f2 f3 f4 z0
        go_wp2_with (go_at_call 8; (with_reducible refine (C8.out _).mono ?_); rintro e w9 ⟨rfl, hb9⟩; have HB9 := Lib.hid hb9; clear hb9)
        go_ret
        exact ⟨by first | rfl | trivial, HBL.out.trans (HB9.out.mono HBL.out.size)⟩
      · have qx : decide ((50 : Int) < (St.size : Int)) = false := by simp; omega
        have HTI1 : Hid (∀ x ∈ xs.take (i + 1), x.t.length ≤ 50) := Lib.hid (by
          rw [HTK.out]
          intro y hy
          rcases List.mem_append.1 hy with hy | hy
          · exact HTI.out y hy
          · rw [List.mem_singleton.1 hy]; omega)
        generalize x.k = xk at *
        generalize x.v = xv at *
        generalize x.ln = xn at *
        generalize x.cl = xc at *
        clear hbx z0
        go_wp2_with (go_at_call 21; (with_reducible refine (C21.out _).mono ?_); rintro e w2 ⟨rfl, hb2⟩; have HB2 := Lib.hid (HBL.out.trans (hb2.mono HBL.out.size)); have HW2 := Lib.hid (own_keeps HWN.out fun q hq => hb2.block q (own_lt HWN.out q hq)); clear hb2; refine Hid.out ?_)
        refine Lib.hid ?_
        clear f0 f1 f2 f3 f4
        go_wp2_with (at_builtin; go_must (refine wpList_app_sz (base := w.heap.size) (n := i) (m := 1) (xs := (xs.take i).flatMap RdC) (news := [.int .i64 xk, .string St, .int .i64 xv, .int .i64 0]) rfl (.tmp 29) (.tmp 35) 49 rfl elR rfl (own_alloc HW2.out) rfl (HoldsS.new _ 4 1 [.int .i64 xk, .string St, .int .i64 xv, .int .i64 0] 56 rfl) (by simp [Value.oneCell']) (by unfold maxLen; omega) (by omega) (by have := HB2.out.size; simp; omega) (by simp) ?_; intro v3 w3 hown hg; refine Hid.out ?_))
        have HB6 := Lib.hid (below_own (HB2.out.alloc HB2.out.size _) (by have := HB2.out.size; simp; omega) (own_alloc HW2.out) hg)
        have HW6 : Hid (w3.ownsRow w.heap.size 56 4 v3 (i + 1) ((xs.take (i + 1)).flatMap RdC)) := Lib.hid (by rw [HTK.out, List.flatMap_append, List.flatMap_singleton, HRD.out]; exact hown)
        clear hown hg qx
        refine Lib.hid ?_
        go_wp2_with fail
        go_roundw
        case rel => exact ⟨i + 1, by omega, by go_num, HTI1, HW6, HB6⟩
        case measure => simp [intOf]; omega
    · have hin : i = n := by omega
      subst hin
      have htk : xs.take i = xs := List.take_of_length_le (by rw [HL.out]; omega)
      rw [htk] at HTI HWN
      obtain ⟨Sj, Ej, hje⟩ := join_some xs wr
      have HJE := Lib.hid hje
      have HTA : Hid (∀ x ∈ xs, x.t.length ≤ 50) := HTI
      have C22 := Lib.hid (fun W (hb : Below w.heap.size w W) => (join_any A i c xs W (HH.out.keep hb) HL.out (by omega) (fun x hx => by have := HTA.out x hx; omega)).mono fun e w' hh => HJE.out W e w' hh)
      have C23 := Lib.hid (fun W (hb : Below wr.heap.size wr W) => (rjoin_any Ao i no xs W (HoldsS.own (own_keeps HWN.out fun q hq => hb.block q (own_lt HWN.out q hq))) HL.out (by omega) (fun x hx => by have := HTA.out x hx; omega)).mono fun e w' hh => HJE.out W e w' hh)
      clear hje htk hlt
      go_upto_region 11 with (go_at_call 22; (with_reducible refine (C22.out _ HBL.out).mono ?_); rintro e w3 ⟨rfl, hb3⟩; have HB3 := Lib.hid hb3; clear hb3)
      go_upto_region 12 with (go_at_call 23; (with_reducible refine (C23.out _ HB3.out).mono ?_); rintro e w4 ⟨rfl, hb4⟩; have HB4 := Lib.hid (HB3.out.trans (hb4.mono HB3.out.size)); clear hb4)
      have HW4 := Lib.hid (own_keeps HWN.out fun q hq => HB4.out.block q (own_lt HWN.out q hq))
      have HBw := Lib.hid (HBL.out.trans (HB4.out.mono HBL.out.size))
      go_wp2_with fail
      go_loopw [9] (fun iv wr => ∃ k : Nat, (k : Int) ≤ i ∧ iv = .int .i64 k ∧ Hid (Below w4.heap.size w4 wr)) (fun iv _ => i - (intOf iv).toNat)
      case atStart => exact ⟨0, by omega, rfl, Lib.hid (Below.refl _ _)⟩
      case round =>
        obtain ⟨k, hk, rfl, HBr⟩ := hrel
        by_cases hlt : (k : Int) < i
        · go_wp2_with fail
          go_loopw [10] (fun jv wq => ∃ j : Nat, (j : Int) ≤ i ∧ jv = .int .i64 j ∧ Hid (Below w4.heap.size w4 wq)) (fun jv _ => i - (intOf jv).toNat)
          case atStart => exact ⟨0, by omega, rfl, HBr⟩
          case round =>
            obtain ⟨j, hj, rfl, HBq⟩ := hrel
            by_cases hlj : (j : Int) < i
            · have hk1 : k < xs.length := by rw [HL.out]; omega
              have hj1 : j < xs.length := by rw [HL.out]; omega
              obtain ⟨gb, go, rfl, hkey⟩ := held_at HH.out HL.out (by omega) HBw.out
              obtain ⟨g2, rfl, hkey2⟩ := own_at HW4.out (by omega) (Below.refl _ _)
              obtain ⟨l0, l1, l2, l3, l4⟩ := td_get xs k hk1
              obtain ⟨m0, m1, m2, m3, m4⟩ := td_get xs j hj1
              obtain ⟨p0, p1, p2, p3⟩ := rd_get xs k hk1
              obtain ⟨q0, q1, q2, q3⟩ := rd_get xs j hj1
              have a0 := hkey _ _ l0
              have a1 := hkey _ _ l1
              have a2 := hkey _ _ l2
              have a3 := hkey _ _ l3
              have a4 := hkey _ _ l4
              have a5 := hkey _ _ m0
              have a6 := hkey _ _ m1
              have a7 := hkey _ _ m2
              have a8 := hkey _ _ m3
              have a9 := hkey _ _ m4
              rw [← Nat.add_assoc] at a1 a2 a3 a4 a6 a7 a8 a9
              have b0 := hkey2 _ _ p0
              have b1 := hkey2 _ _ p1
              have b2 := hkey2 _ _ p2
              have b3 := hkey2 _ _ p3
              have b4 := hkey2 _ _ q0
              have b5 := hkey2 _ _ q1
              have b6 := hkey2 _ _ q2
              have b7 := hkey2 _ _ q3
              have C24 := Lib.hid (fun W => equal_any (xs[k]).k (xs[k]).v (xs[k]).ln (xs[k]).cl (xs[j]).k (xs[j]).v (xs[j]).ln (xs[j]).cl (xs[k]).t (xs[j]).t W)
              have C25 := Lib.hid (fun W => requal_any (xs[k]).k (xs[k]).v 0 (xs[j]).k (xs[j]).v 0 (xs[k]).t (xs[j]).t W)
              clear l0 l1 l2 l3 l4 m0 m1 m2 m3 m4 p0 p1 p2 p3 q0 q1 q2 q3 hkey hkey2
              generalize eqK (xs[k]).k (xs[k]).t (xs[k]).v (xs[j]).k (xs[j]).t (xs[j]).v = eqb at *
              generalize (xs[k]).k = k1 at *
              generalize (xs[k]).v = v1 at *
              generalize (xs[k]).ln = n1 at *
              generalize (xs[k]).cl = c1 at *
              generalize (⟨(xs[k]).t.toArray⟩ : ByteArray) = S1 at *
              generalize (xs[j]).k = k2 at *
              generalize (xs[j]).v = v2 at *
              generalize (xs[j]).ln = n2 at *
              generalize (xs[j]).cl = c3 at *
              generalize (⟨(xs[j]).t.toArray⟩ : ByteArray) = S2 at *
              have key : ∀ (W : World), Below w4.heap.size w4 W → ∀ {p : Addr} {u : Value}, w4.cell? p = some u → W.cell? p = some u := fun W hb p u hp => (hb.cell (World.block_lt_of_cell? _ _ hp)).trans hp
              have HF1 : Hid (∀ W : World, Below w4.heap.size w4 W → W.cell? ⟨gb, go + k * 5, none⟩ = some (.int .i64 k1) ∧ W.cell? ⟨gb, go + k * 5 + 1, none⟩ = some (.string S1) ∧ W.cell? ⟨gb, go + k * 5 + 2, none⟩ = some (.int .i64 v1) ∧ W.cell? ⟨gb, go + k * 5 + 3, none⟩ = some (.int .i64 n1) ∧ W.cell? ⟨gb, go + k * 5 + 4, none⟩ = some (.int .i64 c1) ∧ W.cell? ⟨gb, go + j * 5, none⟩ = some (.int .i64 k2) ∧ W.cell? ⟨gb, go + j * 5 + 1, none⟩ = some (.string S2) ∧ W.cell? ⟨gb, go + j * 5 + 2, none⟩ = some (.int .i64 v2) ∧ W.cell? ⟨gb, go + j * 5 + 3, none⟩ = some (.int .i64 n2) ∧ W.cell? ⟨gb, go + j * 5 + 4, none⟩ = some (.int .i64 c3)) := Lib.hid (fun W hb => ⟨key W hb a0, key W hb a1, key W hb a2, key W hb a3, key W hb a4, key W hb a5, key W hb a6, key W hb a7, key W hb a8, key W hb a9⟩)
              have HF2 : Hid (∀ W : World, Below w4.heap.size w4 W → W.cell? ⟨g2, k * 4, none⟩ = some (.int .i64 k1) ∧ W.cell? ⟨g2, k * 4 + 1, none⟩ = some (.string S1) ∧ W.cell? ⟨g2, k * 4 + 2, none⟩ = some (.int .i64 v1) ∧ W.cell? ⟨g2, k * 4 + 3, none⟩ = some (.int .i64 0) ∧ W.cell? ⟨g2, j * 4, none⟩ = some (.int .i64 k2) ∧ W.cell? ⟨g2, j * 4 + 1, none⟩ = some (.string S2) ∧ W.cell? ⟨g2, j * 4 + 2, none⟩ = some (.int .i64 v2) ∧ W.cell? ⟨g2, j * 4 + 3, none⟩ = some (.int .i64 0)) := Lib.hid (fun W hb => ⟨key W hb b0, key W hb b1, key W hb b2, key W hb b3, key W hb b4, key W hb b5, key W hb b6, key W hb b7⟩)
              clear a0 a1 a2 a3 a4 a5 a6 a7 a8 a9 b0 b1 b2 b3 b4 b5 b6 b7 key hk1 hj1
              go_upto_region 20 with fail
              refine wp_region_G (S0 := (fun W : World => Below w4.heap.size w4 W)) (S1 := (fun W : World => Below w4.heap.size w4 W)) (c := 99) (by kernel_rfl) ?_
              have hHeld := (below_drew HBq.out)
              have h01 := (fun (W : World) (h : (fun W : World => Below w4.heap.size w4 W) W) => h)
              refine wpG_takeB (i := 0) (oi := ⟨some 67, _, _, _, _, _⟩) (v := .slice (some ⟨gb, go, none⟩) i c) rfl (by kernel_rfl) (by kernel_rfl) (by kernel_rfl) (by decide) (fun _ _ _ h => h) h01 rfl hHeld (Or.inl ⟨by rfl, ?_⟩) ?_
              · (intro W9 hSw; obtain ⟨f0, f1, f2, f3, f4, f5, f6, f7, f8, f9⟩ := HF1.out _ hSw; obtain ⟨h0, h1, h2, h3, h4, h5, h6, h7⟩ := HF2.out _ hSw; go_simp; (try (first | with_reducible rfl | rfl | (simp; done))))
              try simp only [Act.put, List.setIfInBounds_toArray, List.set_cons_zero, List.set_cons_succ]
              refine wpG_takeB (i := 1) (oi := ⟨some 68, _, _, _, _, _⟩) (v := .int .i64 (k : Int)) rfl (by kernel_rfl) (by kernel_rfl) (by kernel_rfl) (by decide) (fun _ _ _ h => h) h01 rfl hHeld (Or.inl ⟨by rfl, ?_⟩) ?_
              · (intro W9 hSw; obtain ⟨f0, f1, f2, f3, f4, f5, f6, f7, f8, f9⟩ := HF1.out _ hSw; obtain ⟨h0, h1, h2, h3, h4, h5, h6, h7⟩ := HF2.out _ hSw; go_simp; (try (first | with_reducible rfl | rfl | (simp; done))))
              try simp only [Act.put, List.setIfInBounds_toArray, List.set_cons_zero, List.set_cons_succ]
              refine wpG_takeB (i := 2) (oi := ⟨some 69, _, _, _, _, _⟩) (v := .pointer (some ⟨gb, go + k * 5, none⟩)) rfl (by kernel_rfl) (by kernel_rfl) (by kernel_rfl) (by decide) (fun _ _ _ h => h) h01 rfl hHeld (Or.inl ⟨by rfl, ?_⟩) ?_
              · (intro W9 hSw; obtain ⟨f0, f1, f2, f3, f4, f5, f6, f7, f8, f9⟩ := HF1.out _ hSw; obtain ⟨h0, h1, h2, h3, h4, h5, h6, h7⟩ := HF2.out _ hSw; go_simp; (try (first | with_reducible rfl | rfl | (simp; done))))
              try simp only [Act.put, List.setIfInBounds_toArray, List.set_cons_zero, List.set_cons_succ]
              refine wpG_takeB (i := 3) (oi := ⟨some 70, _, _, _, _, _⟩) (v := .agg #[.int .i64 k1, .string S1, .int .i64 v1, .int .i64 n1, .int .i64 c1]) rfl (by kernel_rfl) (by kernel_rfl) (by kernel_rfl) (by decide) (fun _ _ _ h => h) h01 rfl hHeld (Or.inl ⟨by rfl, ?_⟩) ?_
              · (intro W9 hSw; obtain ⟨f0, f1, f2, f3, f4, f5, f6, f7, f8, f9⟩ := HF1.out _ hSw; obtain ⟨h0, h1, h2, h3, h4, h5, h6, h7⟩ := HF2.out _ hSw; go_simp; (try (first | with_reducible rfl | rfl | (simp; done))))
              try simp only [Act.put, List.setIfInBounds_toArray, List.set_cons_zero, List.set_cons_succ]
              refine wpG_takeB (i := 4) (oi := ⟨some 71, _, _, _, _, _⟩) (v := .slice (some ⟨gb, go, none⟩) i c) rfl (by kernel_rfl) (by kernel_rfl) (by kernel_rfl) (by decide) (fun _ _ _ h => h) h01 rfl hHeld (Or.inl ⟨by rfl, ?_⟩) ?_
              · (intro W9 hSw; obtain ⟨f0, f1, f2, f3, f4, f5, f6, f7, f8, f9⟩ := HF1.out _ hSw; obtain ⟨h0, h1, h2, h3, h4, h5, h6, h7⟩ := HF2.out _ hSw; go_simp; (try (first | with_reducible rfl | rfl | (simp; done))))
              try simp only [Act.put, List.setIfInBounds_toArray, List.set_cons_zero, List.set_cons_succ]
              refine wpG_takeB (i := 5) (oi := ⟨some 72, _, _, _, _, _⟩) (v := .int .i64 (j : Int)) rfl (by kernel_rfl) (by kernel_rfl) (by kernel_rfl) (by decide) (fun _ _ _ h => h) h01 rfl hHeld (Or.inl ⟨by rfl, ?_⟩) ?_
              · (intro W9 hSw; obtain ⟨f0, f1, f2, f3, f4, f5, f6, f7, f8, f9⟩ := HF1.out _ hSw; obtain ⟨h0, h1, h2, h3, h4, h5, h6, h7⟩ := HF2.out _ hSw; go_simp; (try (first | with_reducible rfl | rfl | (simp; done))))
              try simp only [Act.put, List.setIfInBounds_toArray, List.set_cons_zero, List.set_cons_succ]
              refine wpG_takeB (i := 6) (oi := ⟨some 73, _, _, _, _, _⟩) (v := .pointer (some ⟨gb, go + j * 5, none⟩)) rfl (by kernel_rfl) (by kernel_rfl) (by kernel_rfl) (by decide) (fun _ _ _ h => h) h01 rfl hHeld (Or.inl ⟨by rfl, ?_⟩) ?_
              · (intro W9 hSw; obtain ⟨f0, f1, f2, f3, f4, f5, f6, f7, f8, f9⟩ := HF1.out _ hSw; obtain ⟨h0, h1, h2, h3, h4, h5, h6, h7⟩ := HF2.out _ hSw; go_simp; (try (first | with_reducible rfl | rfl | (simp; done))))
              try simp only [Act.put, List.setIfInBounds_toArray, List.set_cons_zero, List.set_cons_succ]
              refine wpG_takeB (i := 7) (oi := ⟨some 74, _, _, _, _, _⟩) (v := .agg #[.int .i64 k2, .string S2, .int .i64 v2, .int .i64 n2, .int .i64 c3]) rfl (by kernel_rfl) (by kernel_rfl) (by kernel_rfl) (by decide) (fun _ _ _ h => h) h01 rfl hHeld (Or.inl ⟨by rfl, ?_⟩) ?_
              · (intro W9 hSw; obtain ⟨f0, f1, f2, f3, f4, f5, f6, f7, f8, f9⟩ := HF1.out _ hSw; obtain ⟨h0, h1, h2, h3, h4, h5, h6, h7⟩ := HF2.out _ hSw; go_simp; (try (first | with_reducible rfl | rfl | (simp; done))))
              try simp only [Act.put, List.setIfInBounds_toArray, List.set_cons_zero, List.set_cons_succ]
              refine wpG_takeB (i := 9) (oi := ⟨some 76, _, _, _, _, _⟩) (v := .slice (some ⟨g2, 0, none⟩) i no) rfl (by kernel_rfl) (by kernel_rfl) (by kernel_rfl) (by decide) (fun _ _ _ h => h) h01 rfl hHeld (Or.inl ⟨by rfl, ?_⟩) ?_
              · (intro W9 hSw; obtain ⟨f0, f1, f2, f3, f4, f5, f6, f7, f8, f9⟩ := HF1.out _ hSw; obtain ⟨h0, h1, h2, h3, h4, h5, h6, h7⟩ := HF2.out _ hSw; go_simp; (try (first | with_reducible rfl | rfl | (simp; done))))
              try simp only [Act.put, List.setIfInBounds_toArray, List.set_cons_zero, List.set_cons_succ]
              refine wpG_takeB (i := 10) (oi := ⟨some 77, _, _, _, _, _⟩) (v := .int .i64 (k : Int)) rfl (by kernel_rfl) (by kernel_rfl) (by kernel_rfl) (by decide) (fun _ _ _ h => h) h01 rfl hHeld (Or.inl ⟨by rfl, ?_⟩) ?_
              · (intro W9 hSw; obtain ⟨f0, f1, f2, f3, f4, f5, f6, f7, f8, f9⟩ := HF1.out _ hSw; obtain ⟨h0, h1, h2, h3, h4, h5, h6, h7⟩ := HF2.out _ hSw; go_simp; (try (first | with_reducible rfl | rfl | (simp; done))))
              try simp only [Act.put, List.setIfInBounds_toArray, List.set_cons_zero, List.set_cons_succ]
              refine wpG_takeB (i := 11) (oi := ⟨some 78, _, _, _, _, _⟩) (v := .pointer (some ⟨g2, k * 4, none⟩)) rfl (by kernel_rfl) (by kernel_rfl) (by kernel_rfl) (by decide) (fun _ _ _ h => h) h01 rfl hHeld (Or.inl ⟨by rfl, ?_⟩) ?_
              · (intro W9 hSw; obtain ⟨f0, f1, f2, f3, f4, f5, f6, f7, f8, f9⟩ := HF1.out _ hSw; obtain ⟨h0, h1, h2, h3, h4, h5, h6, h7⟩ := HF2.out _ hSw; go_simp; (try (first | with_reducible rfl | rfl | (simp; done))))
              try simp only [Act.put, List.setIfInBounds_toArray, List.set_cons_zero, List.set_cons_succ]
              refine wpG_takeB (i := 12) (oi := ⟨some 79, _, _, _, _, _⟩) (v := .agg #[.int .i64 k1, .string S1, .int .i64 v1, .int .i64 0]) rfl (by kernel_rfl) (by kernel_rfl) (by kernel_rfl) (by decide) (fun _ _ _ h => h) h01 rfl hHeld (Or.inl ⟨by rfl, ?_⟩) ?_
              · (intro W9 hSw; obtain ⟨f0, f1, f2, f3, f4, f5, f6, f7, f8, f9⟩ := HF1.out _ hSw; obtain ⟨h0, h1, h2, h3, h4, h5, h6, h7⟩ := HF2.out _ hSw; go_simp; (try (first | with_reducible rfl | rfl | (simp; done))))
              try simp only [Act.put, List.setIfInBounds_toArray, List.set_cons_zero, List.set_cons_succ]
              refine wpG_takeB (i := 13) (oi := ⟨some 80, _, _, _, _, _⟩) (v := .slice (some ⟨g2, 0, none⟩) i no) rfl (by kernel_rfl) (by kernel_rfl) (by kernel_rfl) (by decide) (fun _ _ _ h => h) h01 rfl hHeld (Or.inl ⟨by rfl, ?_⟩) ?_
              · (intro W9 hSw; obtain ⟨f0, f1, f2, f3, f4, f5, f6, f7, f8, f9⟩ := HF1.out _ hSw; obtain ⟨h0, h1, h2, h3, h4, h5, h6, h7⟩ := HF2.out _ hSw; go_simp; (try (first | with_reducible rfl | rfl | (simp; done))))
              try simp only [Act.put, List.setIfInBounds_toArray, List.set_cons_zero, List.set_cons_succ]
              refine wpG_takeB (i := 14) (oi := ⟨some 81, _, _, _, _, _⟩) (v := .int .i64 (j : Int)) rfl (by kernel_rfl) (by kernel_rfl) (by kernel_rfl) (by decide) (fun _ _ _ h => h) h01 rfl hHeld (Or.inl ⟨by rfl, ?_⟩) ?_
              · (intro W9 hSw; obtain ⟨f0, f1, f2, f3, f4, f5, f6, f7, f8, f9⟩ := HF1.out _ hSw; obtain ⟨h0, h1, h2, h3, h4, h5, h6, h7⟩ := HF2.out _ hSw; go_simp; (try (first | with_reducible rfl | rfl | (simp; done))))
              try simp only [Act.put, List.setIfInBounds_toArray, List.set_cons_zero, List.set_cons_succ]
              refine wpG_takeB (i := 15) (oi := ⟨some 82, _, _, _, _, _⟩) (v := .pointer (some ⟨g2, j * 4, none⟩)) rfl (by kernel_rfl) (by kernel_rfl) (by kernel_rfl) (by decide) (fun _ _ _ h => h) h01 rfl hHeld (Or.inl ⟨by rfl, ?_⟩) ?_
              · (intro W9 hSw; obtain ⟨f0, f1, f2, f3, f4, f5, f6, f7, f8, f9⟩ := HF1.out _ hSw; obtain ⟨h0, h1, h2, h3, h4, h5, h6, h7⟩ := HF2.out _ hSw; go_simp; (try (first | with_reducible rfl | rfl | (simp; done))))
              try simp only [Act.put, List.setIfInBounds_toArray, List.set_cons_zero, List.set_cons_succ]
              refine wpG_takeB (i := 16) (oi := ⟨some 83, _, _, _, _, _⟩) (v := .agg #[.int .i64 k2, .string S2, .int .i64 v2, .int .i64 0]) rfl (by kernel_rfl) (by kernel_rfl) (by kernel_rfl) (by decide) (fun _ _ _ h => h) h01 rfl hHeld (Or.inl ⟨by rfl, ?_⟩) ?_
              · (intro W9 hSw; obtain ⟨f0, f1, f2, f3, f4, f5, f6, f7, f8, f9⟩ := HF1.out _ hSw; obtain ⟨h0, h1, h2, h3, h4, h5, h6, h7⟩ := HF2.out _ hSw; go_simp; (try (first | with_reducible rfl | rfl | (simp; done))))
              try simp only [Act.put, List.setIfInBounds_toArray, List.set_cons_zero, List.set_cons_succ]
              refine wpG_oneB (i := 8) (o := ⟨some 75, _, _, _, _, _⟩) (by kernel_rfl) rfl rfl (fun K hK => ?_)
              go_simp
              (with_reducible refine (C24.out _).mono ?_); rintro e w5 ⟨rfl, hb5⟩
              have HB5 := Lib.hid ((below_drew HBq.out).trans (hb5.mono HBq.out.size))
              clear hb5
              refine hK.out _ _ HB5.out (fun hHeld => ?_)
              clear hK K
              try simp only [Act.put, List.setIfInBounds_toArray, List.set_cons_zero, List.set_cons_succ]
              refine wpG_oneB (i := 17) (o := ⟨some 84, _, _, _, _, _⟩) (by kernel_rfl) rfl rfl (fun K hK => ?_)
              go_simp
              (with_reducible refine (C25.out _).mono ?_); rintro e w6 ⟨rfl, hb6⟩
              have HB6 := Lib.hid (HB5.out.trans (hb6.mono HB5.out.size))
              clear hb6
              refine hK.out _ _ HB6.out (fun hHeld => ?_)
              clear hK K
              try simp only [Act.put, List.setIfInBounds_toArray, List.set_cons_zero, List.set_cons_succ]
              refine wpG_takeB (i := 18) (oi := ⟨some 85, _, _, _, _, _⟩) (v := .bool false) rfl (by kernel_rfl) (by kernel_rfl) (by kernel_rfl) (by decide) (fun _ _ _ h => h) h01 rfl hHeld (Or.inl ⟨by rfl, ?_⟩) ?_
              · (intro W9 hSw; obtain ⟨f0, f1, f2, f3, f4, f5, f6, f7, f8, f9⟩ := HF1.out _ hSw; obtain ⟨h0, h1, h2, h3, h4, h5, h6, h7⟩ := HF2.out _ hSw; go_simp; (try (first | with_reducible rfl | rfl | (simp; done))))
              try simp only [Act.put, List.setIfInBounds_toArray, List.set_cons_zero, List.set_cons_succ]
              refine wpG_done (by kernel_rfl) ?_ _
              clear hHeld h01
              go_wp2_with fail
              go_roundw
              case rel => exact ⟨j + 1, by omega, by go_num, HB6⟩
              case measure => simp [intOf]; omega
            · go_wp2_with fail
              go_roundw
              case rel => exact ⟨k + 1, by omega, by go_num, HBq⟩
              case measure => simp [intOf]; omega
        · go_wp2_with (go_at_call 8; (with_reducible refine (C8.out _).mono ?_); rintro e w9 ⟨rfl, hb9⟩; have HB9 := Lib.hid hb9; clear hb9)
          go_ret
          exact ⟨by first | rfl | trivial, (HBw.out.trans (HBr.out.mono HBw.out.size)).trans (HB9.out.mono (Nat.le_trans HBw.out.size HBr.out.size))⟩

end Go.Proofs.YtkihoekldklkhaaDoor
