/- The scanner: blanks. -/
import Derived.Test.YtkihoekldklkhaaDoorTd
import Derived.Test.YtkihoekldklkhaaDoorRg
import Derived.Deep.RegionHeld3
namespace Go.Proofs.YtkihoekldklkhaaDoor
open Go.RowKit
set_option linter.unusedVariables false
set_option linter.unusedSimpArgs false

theorem skipT_cons (c : UInt8) (r : List UInt8) : skipL true (c :: r) = if c = 10 then skipL false r + 1 else skipL true r + 1 := by rw [skipL]
theorem skipF_cons (c : UInt8) (r : List UInt8) : skipL false (c :: r) = if blkI c.toNat = true then skipL false r + 1 else if c = 35 then skipL true r + 1 else 0 := by rw [skipL]
theorem skip_true : ∀ (r : List UInt8), skipL true r = cntL notNl r + skipL false (r.drop (cntL notNl r))
  | [] => rfl
  | c :: r => by
    have ih := skip_true r
    rw [cntL_cons]
    by_cases h : c = 10
    · subst h
      have e : ¬ notNl ((10 : UInt8).toNat : Int) = true := by decide
      rw [if_neg e, List.drop_zero, Nat.zero_add, skipT_cons, if_pos rfl, skipF_cons, if_pos (by decide)]
    · have e : notNl (c.toNat : Int) = true := by
        have : ¬ (c.toNat : Int) = 10 := fun e => h (UInt8.toNat_inj.1 (by show c.toNat = 10; omega))
        unfold notNl; simpa using this
      rw [if_pos e, skipT_cons, if_neg h, ih, List.drop_succ_cons]
      omega
theorem skip_run : ∀ (r : List UInt8), skipL false r = cntL blkI r + skipL false (r.drop (cntL blkI r))
  | [] => rfl
  | c :: r => by
    have ih := skip_run r
    rw [cntL_cons]
    by_cases h : blkI (c.toNat : Int) = true
    · rw [if_pos h, skipF_cons, if_pos h, ih, List.drop_succ_cons]
      omega
    · rw [if_neg h, List.drop_zero, Nat.zero_add]
theorem skip_com {r : List UInt8} (h : headP (isI 35) r = true) : skipL false r = cntL notNl r + skipL false (r.drop (cntL notNl r)) ∧ 0 < cntL notNl r := by
  cases r with
  | nil => cases h
  | cons c r =>
    have h2 : (c.toNat : Int) = 35 := by have h3 : isI 35 c.toNat = true := h; unfold isI at h3; simpa using h3
    have h1 : c = 35 := UInt8.toNat_inj.1 (by show c.toNat = 35; omega)
    subst h1
    rw [cntL_cons, if_pos (by decide), skipF_cons, if_neg (by decide), if_pos rfl, skip_true, List.drop_succ_cons]
    omega
theorem skip_zero {r : List UInt8} (h0 : cntL blkI r = 0) (h : headP (isI 35) r = false) : skipL false r = 0 := by
  cases r with
  | nil => rfl
  | cons c r =>
    rw [cntL_cons] at h0
    have h1 : ¬ blkI (c.toNat : Int) = true := by intro e; rw [if_pos e] at h0; omega
    have h2 : ¬ c = 35 := by rintro rfl; cases h
    rw [skipF_cons, if_neg h1, if_neg h2]
def atOf (sb : Nat) (w : World) : Nat := match w.cell? ⟨sb, 1, none⟩ with
  | some (.int _ x) => x.toNat
  | _ => 0
theorem Sc.at {L : List UInt8} {sb i : Nat} {w : World} (h : Sc L sb i w) : atOf sb w = i := by
  have e1 := Blk.cell h 1
  unfold atOf
  rw [e1]
  simp
/-- The text in its block. -/
def StA (sb : Nat) (St : ByteArray) (W : World) : Prop := W.cell? ⟨sb, 0, none⟩ = some (.string St)
theorem Sc.sta {L : List UInt8} {sb i : Nat} {w : World} (h : Sc L sb i w) : StA sb ⟨L.toArray⟩ w := Blk.cell h 0
set_option maxRecDepth 100000 in
set_option maxHeartbeats 1000000 in
theorem blanks_any (L : List UInt8) (sb i : Nat) (w : World) (h : Sc L sb i w) (hn : L.length ≤ 1000000) (hi0 : i ≤ L.length) :
    Calls Tryd.prog 59 #[.pointer (some ⟨sb, 0, none⟩)] w fun e w' => e = .returned (.tuple #[]) ∧ Sc L sb (i + skipL false (L.drop i)) w' ∧ Only (fun k => k = sb) w w' := by
  obtain ⟨n, hnn⟩ : ∃ n, L.length = n := ⟨_, rfl⟩
  have hlen : ∀ j, (L.drop j).length ≤ n := fun j => by rw [List.length_drop]; omega
  have C80 := Lib.hid (fun (j : Nat) (W : World) (hs : Sc L sb j W) (hj : j ≤ n) => run_any 80 blkI pf80 n L sb j W hs hn (by omega) (by omega))
  have C81 := Lib.hid (fun (j : Nat) (W : World) (hs : Sc L sb j W) (hj : j ≤ n) => run_any 81 notNl pf81 n L sb j W hs hn (by omega) (by omega))
  have C71 := Lib.hid (fun (j : Nat) (W : World) (hs : Sc L sb j W) => is_any 35 L sb j W hs hn)
  have HSTR : Hid (∀ (W : World) (j : Nat), Sc L sb j W → StA sb ⟨L.toArray⟩ W) := Lib.hid (fun W j hs => hs.sta)
  have hsz : (⟨L.toArray⟩ : ByteArray).size = n := (Lib.size_mk L).trans hnn
  have HSZ := Lib.hid hsz
  have HN := Lib.hid hnn
  have HLEN := Lib.hid hlen
  have HS := Lib.hid h
  obtain ⟨E, hE⟩ : ∃ E, i + skipL false (L.drop i) = E := ⟨_, rfl⟩
  rw [hE]
  have HE := Lib.hid hE
  have HI := Lib.hid hi0
  generalize (⟨L.toArray⟩ : ByteArray) = St at *
  have hn0 : (n : Int) ≤ 1000000 := by omega
  clear h hn hi0 hE hsz hlen hnn
  go_enter Tryd.func59, Tryd.ntmps59
  go_wp2_with fail
  go_loopw [] (fun wr => ∃ (j : Nat), Hid (j ≤ n) ∧ Hid (j + skipL false (L.drop j) = E) ∧ Hid (Sc L sb j wr) ∧ Hid (Only (fun k => k = sb) w wr)) (fun wr => n - atOf sb wr)
  case atStart => exact ⟨i, Lib.hid (by have := HI.out; have := HN.out; omega), Lib.hid HE.out, Lib.hid HS.out, Lib.hid (Only.refl _ _)⟩
  case round =>
    obtain ⟨j, HJ, HEJ, HSJ, HOJ⟩ := hrel
    have hm := runL_big blkI n (L.drop j) (HLEN.out j)
    have hsr := skip_run (L.drop j)
    have C1 := Lib.hid (C80.out j wr.drew (HSJ.out.drewN 1) HJ.out)
    rw [hm] at C1
    obtain ⟨n1, hn1⟩ : ∃ n1, cntL blkI (L.drop j) = n1 := ⟨_, rfl⟩
    rw [hn1] at C1 hsr
    rw [List.drop_drop] at hsr
    have hle : j + n1 ≤ n := by have := cntL_le blkI (L.drop j); rw [List.length_drop, hn1] at this; have := HN.out; have := HJ.out; omega
    have HSR := Lib.hid hsr
    have HLE := Lib.hid hle
    have HN1 := Lib.hid hn1
    have hn1b : (n1 : Int) ≤ 1000000 := by omega
    clear hm hsr hle hn1
    by_cases hpos : 0 < n1
    · have q0 : decide ((0 : Int) < (n1 : Int)) = true := by simp; omega
      have HPOS := Lib.hid hpos
      clear hpos
      go_upto_region 0 with fail
      refine wp_region_G (S0 := (StA sb St)) (S1 := (StA sb St)) (c := 99) (by kernel_rfl) ?_
      have hHeld := (HSTR.out _ _ (HSJ.out.drewN 1))
      have h01 := (fun (W : World) (h : (StA sb St) W) => h)
      refine wpG_takeB (i := 0) (oi := ⟨some 2, _, _, _, _, _⟩) (v := .pointer (some ⟨sb, 0, none⟩)) rfl (by kernel_rfl) (by kernel_rfl) (by kernel_rfl) (by decide) (fun _ _ _ h => h) h01 rfl hHeld (Or.inl ⟨by rfl, ?_⟩) ?_
      · (intro W9 hSw; have v1 : _ = _ := hSw; have hsz := HSZ.out; go_simp; (try (first | with_reducible rfl | rfl | (simp; done) | (have := HPOS.out; omega))))
      try simp only [Act.put, List.setIfInBounds_toArray, List.set_cons_zero, List.set_cons_succ]
      refine wpG_takeB (i := 1) (oi := ⟨some 3, _, _, _, _, _⟩) (v := .pointer (some ⟨sb, 0, none⟩)) rfl (by kernel_rfl) (by kernel_rfl) (by kernel_rfl) (by decide) (fun _ _ _ h => h) h01 rfl hHeld (Or.inl ⟨by rfl, ?_⟩) ?_
      · (intro W9 hSw; have v1 : _ = _ := hSw; have hsz := HSZ.out; go_simp; (try (first | with_reducible rfl | rfl | (simp; done) | (have := HPOS.out; omega))))
      try simp only [Act.put, List.setIfInBounds_toArray, List.set_cons_zero, List.set_cons_succ]
      refine wpG_takeB (i := 2) (oi := ⟨some 4, _, _, _, _, _⟩) (v := .pointer (some ⟨sb, 0, none⟩)) rfl (by kernel_rfl) (by kernel_rfl) (by kernel_rfl) (by decide) (fun _ _ _ h => h) h01 rfl hHeld (Or.inl ⟨by rfl, ?_⟩) ?_
      · (intro W9 hSw; have v1 : _ = _ := hSw; have hsz := HSZ.out; go_simp; (try (first | with_reducible rfl | rfl | (simp; done) | (have := HPOS.out; omega))))
      try simp only [Act.put, List.setIfInBounds_toArray, List.set_cons_zero, List.set_cons_succ]
      refine wpG_takeB (i := 3) (oi := ⟨some 5, _, _, _, _, _⟩) (v := .pointer (some ⟨sb, 0, none⟩)) rfl (by kernel_rfl) (by kernel_rfl) (by kernel_rfl) (by decide) (fun _ _ _ h => h) h01 rfl hHeld (Or.inl ⟨by rfl, ?_⟩) ?_
      · (intro W9 hSw; have v1 : _ = _ := hSw; have hsz := HSZ.out; go_simp; (try (first | with_reducible rfl | rfl | (simp; done) | (have := HPOS.out; omega))))
      try simp only [Act.put, List.setIfInBounds_toArray, List.set_cons_zero, List.set_cons_succ]
      refine wpG_takeB (i := 4) (oi := ⟨some 6, _, _, _, _, _⟩) (v := .pointer (some ⟨sb, 0, none⟩)) rfl (by kernel_rfl) (by kernel_rfl) (by kernel_rfl) (by decide) (fun _ _ _ h => h) h01 rfl hHeld (Or.inl ⟨by rfl, ?_⟩) ?_
      · (intro W9 hSw; have v1 : _ = _ := hSw; have hsz := HSZ.out; go_simp; (try (first | with_reducible rfl | rfl | (simp; done) | (have := HPOS.out; omega))))
      try simp only [Act.put, List.setIfInBounds_toArray, List.set_cons_zero, List.set_cons_succ]
      refine wpG_takeB (i := 5) (oi := ⟨some 7, _, _, _, _, _⟩) (v := .pointer (some ⟨sb, 0, none⟩)) rfl (by kernel_rfl) (by kernel_rfl) (by kernel_rfl) (by decide) (fun _ _ _ h => h) h01 rfl hHeld (Or.inl ⟨by rfl, ?_⟩) ?_
      · (intro W9 hSw; have v1 : _ = _ := hSw; have hsz := HSZ.out; go_simp; (try (first | with_reducible rfl | rfl | (simp; done) | (have := HPOS.out; omega))))
      try simp only [Act.put, List.setIfInBounds_toArray, List.set_cons_zero, List.set_cons_succ]
      refine wpG_takeB (i := 6) (oi := ⟨some 8, _, _, _, _, _⟩) (v := .pointer (some ⟨sb, 0, none⟩)) rfl (by kernel_rfl) (by kernel_rfl) (by kernel_rfl) (by decide) (fun _ _ _ h => h) h01 rfl hHeld (Or.inl ⟨by rfl, ?_⟩) ?_
      · (intro W9 hSw; have v1 : _ = _ := hSw; have hsz := HSZ.out; go_simp; (try (first | with_reducible rfl | rfl | (simp; done) | (have := HPOS.out; omega))))
      try simp only [Act.put, List.setIfInBounds_toArray, List.set_cons_zero, List.set_cons_succ]
      refine wpG_takeB (i := 7) (oi := ⟨some 9, _, _, _, _, _⟩) (v := .string St) rfl (by kernel_rfl) (by kernel_rfl) (by kernel_rfl) (by decide) (fun _ _ _ h => h) h01 rfl hHeld (Or.inl ⟨by rfl, ?_⟩) ?_
      · (intro W9 hSw; have v1 : _ = _ := hSw; have hsz := HSZ.out; go_simp; (try (first | with_reducible rfl | rfl | (simp; done) | (have := HPOS.out; omega))))
      try simp only [Act.put, List.setIfInBounds_toArray, List.set_cons_zero, List.set_cons_succ]
      refine wpG_takeB (i := 8) (oi := ⟨some 10, _, _, _, _, _⟩) (v := .int .i64 (n : Int)) rfl (by kernel_rfl) (by kernel_rfl) (by kernel_rfl) (by decide) (fun _ _ _ h => h) h01 rfl hHeld (Or.inl ⟨by rfl, ?_⟩) ?_
      · (intro W9 hSw; have v1 : _ = _ := hSw; have hsz := HSZ.out; go_simp; (try (first | with_reducible rfl | rfl | (simp; done) | (have := HPOS.out; omega))))
      try simp only [Act.put, List.setIfInBounds_toArray, List.set_cons_zero, List.set_cons_succ]
      refine wpG_oneB (i := 9) (o := ⟨some 11, _, _, _, _, _⟩) (by kernel_rfl) rfl rfl (fun K hK => ?_)
      go_simp
      (try simp only [HSZ.out])
      (with_reducible refine C1.out.mono ?_); rintro e w2 ⟨rfl, hs2, ho2⟩
      have HS2 := Lib.hid hs2
      have HO2 := Lib.hid ho2
      have HA2 := Lib.hid (show StA sb St w2 from HSTR.out w2 _ hs2)
      clear hs2 ho2
      refine hK.out _ _ HA2.out (fun hHeld => ?_)
      clear hK K
      try simp only [Act.put, List.setIfInBounds_toArray, List.set_cons_zero, List.set_cons_succ]
      refine wpG_takeB (i := 10) (oi := ⟨some 12, _, _, _, _, _⟩) (v := .bool true) rfl (by kernel_rfl) (by kernel_rfl) (by kernel_rfl) (by decide) (fun _ _ _ h => h) h01 rfl hHeld (Or.inl ⟨by rfl, ?_⟩) ?_
      · (intro W9 hSw; have v1 : _ = _ := hSw; have hsz := HSZ.out; go_simp; (try (first | with_reducible rfl | rfl | (simp; done) | (have := HPOS.out; omega))))
      try simp only [Act.put, List.setIfInBounds_toArray, List.set_cons_zero, List.set_cons_succ]
      refine wpG_takeB (i := 11) (oi := ⟨some 13, _, _, _, _, _⟩) (v := .bool true) rfl (by kernel_rfl) (by kernel_rfl) (by kernel_rfl) (by decide) (fun _ _ _ h => h) h01 rfl hHeld (Or.inl ⟨by rfl, ?_⟩) ?_
      · (intro W9 hSw; have v1 : _ = _ := hSw; have hsz := HSZ.out; go_simp; (try (first | with_reducible rfl | rfl | (simp; done) | (have := HPOS.out; omega))))
      try simp only [Act.put, List.setIfInBounds_toArray, List.set_cons_zero, List.set_cons_succ]
      refine wpG_takeB (i := 12) (oi := ⟨some 14, _, _, _, _, _⟩) (v := undef) rfl (by kernel_rfl) (by kernel_rfl) (by kernel_rfl) (by decide) (fun _ _ _ h => h) h01 rfl hHeld (Or.inr ⟨by rfl, rfl⟩) ?_
      try simp only [Act.put, List.setIfInBounds_toArray, List.set_cons_zero, List.set_cons_succ]
      refine wpG_takeB (i := 13) (oi := ⟨some 15, _, _, _, _, _⟩) (v := undef) rfl (by kernel_rfl) (by kernel_rfl) (by kernel_rfl) (by decide) (fun _ _ _ h => h) h01 rfl hHeld (Or.inr ⟨by rfl, rfl⟩) ?_
      try simp only [Act.put, List.setIfInBounds_toArray, List.set_cons_zero, List.set_cons_succ]
      refine wpG_takeB (i := 14) (oi := ⟨some 16, _, _, _, _, _⟩) (v := undef) rfl (by kernel_rfl) (by kernel_rfl) (by kernel_rfl) (by decide) (fun _ _ _ h => h) h01 rfl hHeld (Or.inr ⟨by rfl, rfl⟩) ?_
      try simp only [Act.put, List.setIfInBounds_toArray, List.set_cons_zero, List.set_cons_succ]
      refine wpG_takeB (i := 15) (oi := ⟨some 17, _, _, _, _, _⟩) (v := undef) rfl (by kernel_rfl) (by kernel_rfl) (by kernel_rfl) (by decide) (fun _ _ _ h => h) h01 rfl hHeld (Or.inr ⟨by rfl, rfl⟩) ?_
      try simp only [Act.put, List.setIfInBounds_toArray, List.set_cons_zero, List.set_cons_succ]
      refine wpG_takeB (i := 16) (oi := ⟨some 18, _, _, _, _, _⟩) (v := .bool true) rfl (by kernel_rfl) (by kernel_rfl) (by kernel_rfl) (by decide) (fun _ _ _ h => h) h01 rfl hHeld (Or.inl ⟨by rfl, ?_⟩) ?_
      · (intro W9 hSw; have v1 : _ = _ := hSw; have hsz := HSZ.out; go_simp; (try (first | with_reducible rfl | rfl | (simp; done) | (have := HPOS.out; omega))))
      try simp only [Act.put, List.setIfInBounds_toArray, List.set_cons_zero, List.set_cons_succ]
      refine wpG_done (by kernel_rfl) ?_ _
      clear hHeld h01
      cases hb : headP (isI 35) (L.drop (j + n1)) with
      | true =>
        obtain ⟨hc1, hc2⟩ := skip_com hb
        have C2 := Lib.hid (C71.out (j + n1) w2 HS2.out)
        rw [hb] at C2
        go_upto_region 2 with (go_at_call 71; (with_reducible refine C2.out.mono ?_); rintro e w3 ⟨rfl, hb3⟩; have HS3 := Lib.hid (HS2.out.below hb3); have HB3 := Lib.hid hb3; clear hb3)
        have hm2 := runL_big notNl n (L.drop (j + n1)) (HLEN.out (j + n1))
        have C8 := Lib.hid (C81.out (j + n1) w3.drew (HS3.out.drewN 1) HLE.out)
        rw [hm2] at C8
        obtain ⟨n2, hn2⟩ : ∃ n2, cntL notNl (L.drop (j + n1)) = n2 := ⟨_, rfl⟩
        rw [hn2] at C8 hc1 hc2
        rw [List.drop_drop] at hc1
        have hle2 : j + n1 + n2 ≤ n := by have := cntL_le notNl (L.drop (j + n1)); rw [List.length_drop, hn2] at this; have := HN.out; have := HLE.out; omega
        have HLE2 := Lib.hid hle2
        have HC := Lib.hid (And.intro hc1 hc2)
        clear hc1 hc2 hb hm2 hn2 hle2
        refine wp_region_G (S0 := (StA sb St)) (S1 := (StA sb St)) (c := 99) (by kernel_rfl) ?_
        have hHeld := (HSTR.out _ _ (HS3.out.drewN 1))
        have h01 := (fun (W : World) (h : (StA sb St) W) => h)
        refine wpG_takeB (i := 0) (oi := ⟨some 23, _, _, _, _, _⟩) (v := .pointer (some ⟨sb, 0, none⟩)) rfl (by kernel_rfl) (by kernel_rfl) (by kernel_rfl) (by decide) (fun _ _ _ h => h) h01 rfl hHeld (Or.inl ⟨by rfl, ?_⟩) ?_
        · (intro W9 hSw; have v1 : _ = _ := hSw; have hsz := HSZ.out; go_simp; (try (first | with_reducible rfl | rfl | (simp; done) | (have := HPOS.out; omega))))
        try simp only [Act.put, List.setIfInBounds_toArray, List.set_cons_zero, List.set_cons_succ]
        refine wpG_takeB (i := 1) (oi := ⟨some 24, _, _, _, _, _⟩) (v := .pointer (some ⟨sb, 0, none⟩)) rfl (by kernel_rfl) (by kernel_rfl) (by kernel_rfl) (by decide) (fun _ _ _ h => h) h01 rfl hHeld (Or.inl ⟨by rfl, ?_⟩) ?_
        · (intro W9 hSw; have v1 : _ = _ := hSw; have hsz := HSZ.out; go_simp; (try (first | with_reducible rfl | rfl | (simp; done) | (have := HPOS.out; omega))))
        try simp only [Act.put, List.setIfInBounds_toArray, List.set_cons_zero, List.set_cons_succ]
        refine wpG_takeB (i := 2) (oi := ⟨some 25, _, _, _, _, _⟩) (v := .pointer (some ⟨sb, 0, none⟩)) rfl (by kernel_rfl) (by kernel_rfl) (by kernel_rfl) (by decide) (fun _ _ _ h => h) h01 rfl hHeld (Or.inl ⟨by rfl, ?_⟩) ?_
        · (intro W9 hSw; have v1 : _ = _ := hSw; have hsz := HSZ.out; go_simp; (try (first | with_reducible rfl | rfl | (simp; done) | (have := HPOS.out; omega))))
        try simp only [Act.put, List.setIfInBounds_toArray, List.set_cons_zero, List.set_cons_succ]
        refine wpG_takeB (i := 3) (oi := ⟨some 26, _, _, _, _, _⟩) (v := .pointer (some ⟨sb, 0, none⟩)) rfl (by kernel_rfl) (by kernel_rfl) (by kernel_rfl) (by decide) (fun _ _ _ h => h) h01 rfl hHeld (Or.inl ⟨by rfl, ?_⟩) ?_
        · (intro W9 hSw; have v1 : _ = _ := hSw; have hsz := HSZ.out; go_simp; (try (first | with_reducible rfl | rfl | (simp; done) | (have := HPOS.out; omega))))
        try simp only [Act.put, List.setIfInBounds_toArray, List.set_cons_zero, List.set_cons_succ]
        refine wpG_takeB (i := 4) (oi := ⟨some 27, _, _, _, _, _⟩) (v := .pointer (some ⟨sb, 0, none⟩)) rfl (by kernel_rfl) (by kernel_rfl) (by kernel_rfl) (by decide) (fun _ _ _ h => h) h01 rfl hHeld (Or.inl ⟨by rfl, ?_⟩) ?_
        · (intro W9 hSw; have v1 : _ = _ := hSw; have hsz := HSZ.out; go_simp; (try (first | with_reducible rfl | rfl | (simp; done) | (have := HPOS.out; omega))))
        try simp only [Act.put, List.setIfInBounds_toArray, List.set_cons_zero, List.set_cons_succ]
        refine wpG_takeB (i := 5) (oi := ⟨some 28, _, _, _, _, _⟩) (v := .pointer (some ⟨sb, 0, none⟩)) rfl (by kernel_rfl) (by kernel_rfl) (by kernel_rfl) (by decide) (fun _ _ _ h => h) h01 rfl hHeld (Or.inl ⟨by rfl, ?_⟩) ?_
        · (intro W9 hSw; have v1 : _ = _ := hSw; have hsz := HSZ.out; go_simp; (try (first | with_reducible rfl | rfl | (simp; done) | (have := HPOS.out; omega))))
        try simp only [Act.put, List.setIfInBounds_toArray, List.set_cons_zero, List.set_cons_succ]
        refine wpG_takeB (i := 6) (oi := ⟨some 29, _, _, _, _, _⟩) (v := .pointer (some ⟨sb, 0, none⟩)) rfl (by kernel_rfl) (by kernel_rfl) (by kernel_rfl) (by decide) (fun _ _ _ h => h) h01 rfl hHeld (Or.inl ⟨by rfl, ?_⟩) ?_
        · (intro W9 hSw; have v1 : _ = _ := hSw; have hsz := HSZ.out; go_simp; (try (first | with_reducible rfl | rfl | (simp; done) | (have := HPOS.out; omega))))
        try simp only [Act.put, List.setIfInBounds_toArray, List.set_cons_zero, List.set_cons_succ]
        refine wpG_takeB (i := 7) (oi := ⟨some 30, _, _, _, _, _⟩) (v := .string St) rfl (by kernel_rfl) (by kernel_rfl) (by kernel_rfl) (by decide) (fun _ _ _ h => h) h01 rfl hHeld (Or.inl ⟨by rfl, ?_⟩) ?_
        · (intro W9 hSw; have v1 : _ = _ := hSw; have hsz := HSZ.out; go_simp; (try (first | with_reducible rfl | rfl | (simp; done) | (have := HPOS.out; omega))))
        try simp only [Act.put, List.setIfInBounds_toArray, List.set_cons_zero, List.set_cons_succ]
        refine wpG_takeB (i := 8) (oi := ⟨some 31, _, _, _, _, _⟩) (v := .int .i64 (n : Int)) rfl (by kernel_rfl) (by kernel_rfl) (by kernel_rfl) (by decide) (fun _ _ _ h => h) h01 rfl hHeld (Or.inl ⟨by rfl, ?_⟩) ?_
        · (intro W9 hSw; have v1 : _ = _ := hSw; have hsz := HSZ.out; go_simp; (try (first | with_reducible rfl | rfl | (simp; done) | (have := HPOS.out; omega))))
        try simp only [Act.put, List.setIfInBounds_toArray, List.set_cons_zero, List.set_cons_succ]
        refine wpG_oneB (i := 9) (o := ⟨some 32, _, _, _, _, _⟩) (by kernel_rfl) rfl rfl (fun K hK => ?_)
        go_simp
        (try simp only [HSZ.out])
        (with_reducible refine C8.out.mono ?_); rintro e w5 ⟨rfl, hs5, ho5⟩
        have HS5 := Lib.hid hs5
        have HO5 := Lib.hid ho5
        have HA5 := Lib.hid (show StA sb St w5 from HSTR.out w5 _ hs5)
        clear hs5 ho5
        refine hK.out _ _ HA5.out (fun hHeld => ?_)
        clear hK K
        try simp only [Act.put, List.setIfInBounds_toArray, List.set_cons_zero, List.set_cons_succ]
        refine wpG_done (by kernel_rfl) ?_ _
        clear hHeld h01
        go_wp2_with fail
        go_roundw
        case rel => exact ⟨j + n1 + n2, Lib.hid HLE2.out, Lib.hid (by have h1 := HEJ.out; have h2 := HSR.out; have h3 := HC.out.1; omega), Lib.hid HS5.out, Lib.hid ((only_drewN (((only_drewN HOJ.out 1).trans HO2.out fun b _ x => x).below HB3.out) 1).trans HO5.out fun b _ x => x)⟩
        case measure => rw [HS5.out.at, HSJ.out.at]; have := HC.out.2; have := HLE2.out; omega
      | false =>
        have C2 := Lib.hid (C71.out (j + n1) w2 HS2.out)
        rw [hb] at C2
        clear hb
        go_wp2_with (go_at_call 71; (with_reducible refine C2.out.mono ?_); rintro e w3 ⟨rfl, hb3⟩; have HS3 := Lib.hid (HS2.out.below hb3); have HB3 := Lib.hid hb3; clear hb3)
        go_roundw
        case rel => exact ⟨j + n1, Lib.hid HLE.out, Lib.hid (by have h1 := HEJ.out; have h2 := HSR.out; omega), Lib.hid HS3.out, Lib.hid (((only_drewN HOJ.out 1).trans HO2.out fun b _ x => x).below HB3.out)⟩
        case measure => rw [HS3.out.at, HSJ.out.at]; have := HPOS.out; have := HLE.out; omega
    · have q0 : decide ((0 : Int) < (n1 : Int)) = false := by simp; omega
      have HPOS : Hid (n1 = 0) := Lib.hid (by omega)
      clear hpos
      obtain ⟨b, hb⟩ : ∃ b, headP (isI 35) (L.drop (j + n1)) = b := ⟨_, rfl⟩
      have CB := Lib.hid (fun W hs => C71.out (j + n1) W hs)
      rw [hb] at CB
      go_upto_region 0 with fail
      refine wp_region_G (S0 := (StA sb St)) (S1 := (StA sb St)) (c := 99) (by kernel_rfl) ?_
      have hHeld := (HSTR.out _ _ (HSJ.out.drewN 1))
      have h01 := (fun (W : World) (h : (StA sb St) W) => h)
      refine wpG_takeB (i := 0) (oi := ⟨some 2, _, _, _, _, _⟩) (v := .pointer (some ⟨sb, 0, none⟩)) rfl (by kernel_rfl) (by kernel_rfl) (by kernel_rfl) (by decide) (fun _ _ _ h => h) h01 rfl hHeld (Or.inl ⟨by rfl, ?_⟩) ?_
      · (intro W9 hSw; have v1 : _ = _ := hSw; have hsz := HSZ.out; go_simp; (try (first | with_reducible rfl | rfl | (simp; done) | (have := HPOS.out; omega))))
      try simp only [Act.put, List.setIfInBounds_toArray, List.set_cons_zero, List.set_cons_succ]
      refine wpG_takeB (i := 1) (oi := ⟨some 3, _, _, _, _, _⟩) (v := .pointer (some ⟨sb, 0, none⟩)) rfl (by kernel_rfl) (by kernel_rfl) (by kernel_rfl) (by decide) (fun _ _ _ h => h) h01 rfl hHeld (Or.inl ⟨by rfl, ?_⟩) ?_
      · (intro W9 hSw; have v1 : _ = _ := hSw; have hsz := HSZ.out; go_simp; (try (first | with_reducible rfl | rfl | (simp; done) | (have := HPOS.out; omega))))
      try simp only [Act.put, List.setIfInBounds_toArray, List.set_cons_zero, List.set_cons_succ]
      refine wpG_takeB (i := 2) (oi := ⟨some 4, _, _, _, _, _⟩) (v := .pointer (some ⟨sb, 0, none⟩)) rfl (by kernel_rfl) (by kernel_rfl) (by kernel_rfl) (by decide) (fun _ _ _ h => h) h01 rfl hHeld (Or.inl ⟨by rfl, ?_⟩) ?_
      · (intro W9 hSw; have v1 : _ = _ := hSw; have hsz := HSZ.out; go_simp; (try (first | with_reducible rfl | rfl | (simp; done) | (have := HPOS.out; omega))))
      try simp only [Act.put, List.setIfInBounds_toArray, List.set_cons_zero, List.set_cons_succ]
      refine wpG_takeB (i := 3) (oi := ⟨some 5, _, _, _, _, _⟩) (v := .pointer (some ⟨sb, 0, none⟩)) rfl (by kernel_rfl) (by kernel_rfl) (by kernel_rfl) (by decide) (fun _ _ _ h => h) h01 rfl hHeld (Or.inl ⟨by rfl, ?_⟩) ?_
      · (intro W9 hSw; have v1 : _ = _ := hSw; have hsz := HSZ.out; go_simp; (try (first | with_reducible rfl | rfl | (simp; done) | (have := HPOS.out; omega))))
      try simp only [Act.put, List.setIfInBounds_toArray, List.set_cons_zero, List.set_cons_succ]
      refine wpG_takeB (i := 4) (oi := ⟨some 6, _, _, _, _, _⟩) (v := .pointer (some ⟨sb, 0, none⟩)) rfl (by kernel_rfl) (by kernel_rfl) (by kernel_rfl) (by decide) (fun _ _ _ h => h) h01 rfl hHeld (Or.inl ⟨by rfl, ?_⟩) ?_
      · (intro W9 hSw; have v1 : _ = _ := hSw; have hsz := HSZ.out; go_simp; (try (first | with_reducible rfl | rfl | (simp; done) | (have := HPOS.out; omega))))
      try simp only [Act.put, List.setIfInBounds_toArray, List.set_cons_zero, List.set_cons_succ]
      refine wpG_takeB (i := 5) (oi := ⟨some 7, _, _, _, _, _⟩) (v := .pointer (some ⟨sb, 0, none⟩)) rfl (by kernel_rfl) (by kernel_rfl) (by kernel_rfl) (by decide) (fun _ _ _ h => h) h01 rfl hHeld (Or.inl ⟨by rfl, ?_⟩) ?_
      · (intro W9 hSw; have v1 : _ = _ := hSw; have hsz := HSZ.out; go_simp; (try (first | with_reducible rfl | rfl | (simp; done) | (have := HPOS.out; omega))))
      try simp only [Act.put, List.setIfInBounds_toArray, List.set_cons_zero, List.set_cons_succ]
      refine wpG_takeB (i := 6) (oi := ⟨some 8, _, _, _, _, _⟩) (v := .pointer (some ⟨sb, 0, none⟩)) rfl (by kernel_rfl) (by kernel_rfl) (by kernel_rfl) (by decide) (fun _ _ _ h => h) h01 rfl hHeld (Or.inl ⟨by rfl, ?_⟩) ?_
      · (intro W9 hSw; have v1 : _ = _ := hSw; have hsz := HSZ.out; go_simp; (try (first | with_reducible rfl | rfl | (simp; done) | (have := HPOS.out; omega))))
      try simp only [Act.put, List.setIfInBounds_toArray, List.set_cons_zero, List.set_cons_succ]
      refine wpG_takeB (i := 7) (oi := ⟨some 9, _, _, _, _, _⟩) (v := .string St) rfl (by kernel_rfl) (by kernel_rfl) (by kernel_rfl) (by decide) (fun _ _ _ h => h) h01 rfl hHeld (Or.inl ⟨by rfl, ?_⟩) ?_
      · (intro W9 hSw; have v1 : _ = _ := hSw; have hsz := HSZ.out; go_simp; (try (first | with_reducible rfl | rfl | (simp; done) | (have := HPOS.out; omega))))
      try simp only [Act.put, List.setIfInBounds_toArray, List.set_cons_zero, List.set_cons_succ]
      refine wpG_takeB (i := 8) (oi := ⟨some 10, _, _, _, _, _⟩) (v := .int .i64 (n : Int)) rfl (by kernel_rfl) (by kernel_rfl) (by kernel_rfl) (by decide) (fun _ _ _ h => h) h01 rfl hHeld (Or.inl ⟨by rfl, ?_⟩) ?_
      · (intro W9 hSw; have v1 : _ = _ := hSw; have hsz := HSZ.out; go_simp; (try (first | with_reducible rfl | rfl | (simp; done) | (have := HPOS.out; omega))))
      try simp only [Act.put, List.setIfInBounds_toArray, List.set_cons_zero, List.set_cons_succ]
      refine wpG_oneB (i := 9) (o := ⟨some 11, _, _, _, _, _⟩) (by kernel_rfl) rfl rfl (fun K hK => ?_)
      go_simp
      (try simp only [HSZ.out])
      (with_reducible refine C1.out.mono ?_); rintro e w2 ⟨rfl, hs2, ho2⟩
      have HS2 := Lib.hid hs2
      have HO2 := Lib.hid ho2
      have HA2 := Lib.hid (show StA sb St w2 from HSTR.out w2 _ hs2)
      clear hs2 ho2
      refine hK.out _ _ HA2.out (fun hHeld => ?_)
      clear hK K
      try simp only [Act.put, List.setIfInBounds_toArray, List.set_cons_zero, List.set_cons_succ]
      refine wpG_takeB (i := 10) (oi := ⟨some 12, _, _, _, _, _⟩) (v := .bool false) rfl (by kernel_rfl) (by kernel_rfl) (by kernel_rfl) (by decide) (fun _ _ _ h => h) h01 rfl hHeld (Or.inl ⟨by rfl, ?_⟩) ?_
      · (intro W9 hSw; have v1 : _ = _ := hSw; have hsz := HSZ.out; go_simp; (try (first | with_reducible rfl | rfl | (simp; done) | (have := HPOS.out; omega))))
      try simp only [Act.put, List.setIfInBounds_toArray, List.set_cons_zero, List.set_cons_succ]
      refine wpG_takeB (i := 11) (oi := ⟨some 13, _, _, _, _, _⟩) (v := .bool false) rfl (by kernel_rfl) (by kernel_rfl) (by kernel_rfl) (by decide) (fun _ _ _ h => h) h01 rfl hHeld (Or.inl ⟨by rfl, ?_⟩) ?_
      · (intro W9 hSw; have v1 : _ = _ := hSw; have hsz := HSZ.out; go_simp; (try (first | with_reducible rfl | rfl | (simp; done) | (have := HPOS.out; omega))))
      try simp only [Act.put, List.setIfInBounds_toArray, List.set_cons_zero, List.set_cons_succ]
      refine wpG_takeB (i := 12) (oi := ⟨some 14, _, _, _, _, _⟩) (v := .pointer (some ⟨sb, 0, none⟩)) rfl (by kernel_rfl) (by kernel_rfl) (by kernel_rfl) (by decide) (fun _ _ _ h => h) h01 rfl hHeld (Or.inl ⟨by rfl, ?_⟩) ?_
      · (intro W9 hSw; have v1 : _ = _ := hSw; have hsz := HSZ.out; go_simp; (try (first | with_reducible rfl | rfl | (simp; done) | (have := HPOS.out; omega))))
      try simp only [Act.put, List.setIfInBounds_toArray, List.set_cons_zero, List.set_cons_succ]
      refine wpG_takeB (i := 13) (oi := ⟨some 15, _, _, _, _, _⟩) (v := .pointer (some ⟨sb, 0, none⟩)) rfl (by kernel_rfl) (by kernel_rfl) (by kernel_rfl) (by decide) (fun _ _ _ h => h) h01 rfl hHeld (Or.inl ⟨by rfl, ?_⟩) ?_
      · (intro W9 hSw; have v1 : _ = _ := hSw; have hsz := HSZ.out; go_simp; (try (first | with_reducible rfl | rfl | (simp; done) | (have := HPOS.out; omega))))
      try simp only [Act.put, List.setIfInBounds_toArray, List.set_cons_zero, List.set_cons_succ]
      refine wpG_takeB (i := 14) (oi := ⟨some 16, _, _, _, _, _⟩) (v := .pointer (some ⟨sb, 0, none⟩)) rfl (by kernel_rfl) (by kernel_rfl) (by kernel_rfl) (by decide) (fun _ _ _ h => h) h01 rfl hHeld (Or.inl ⟨by rfl, ?_⟩) ?_
      · (intro W9 hSw; have v1 : _ = _ := hSw; have hsz := HSZ.out; go_simp; (try (first | with_reducible rfl | rfl | (simp; done) | (have := HPOS.out; omega))))
      try simp only [Act.put, List.setIfInBounds_toArray, List.set_cons_zero, List.set_cons_succ]
      refine wpG_oneB (i := 15) (o := ⟨some 17, _, _, _, _, _⟩) (by kernel_rfl) rfl rfl (fun K hK => ?_)
      go_simp
      (with_reducible refine (CB.out _ HS2.out).mono ?_); rintro e w3 ⟨rfl, hb3⟩
      have HB3 := Lib.hid hb3
      have HA3 := Lib.hid (show StA sb St w3 from HSTR.out w3 _ (HS2.out.below hb3))
      clear hb3
      refine hK.out _ _ HA3.out (fun hHeld => ?_)
      clear hK K
      try simp only [Act.put, List.setIfInBounds_toArray, List.set_cons_zero, List.set_cons_succ]
      refine wpG_takeB (i := 16) (oi := ⟨some 18, _, _, _, _, _⟩) (v := .bool b) rfl (by kernel_rfl) (by kernel_rfl) (by kernel_rfl) (by decide) (fun _ _ _ h => h) h01 rfl hHeld (Or.inl ⟨by rfl, ?_⟩) ?_
      · (intro W9 hSw; have v1 : _ = _ := hSw; have hsz := HSZ.out; go_simp; (try (first | with_reducible rfl | rfl | (simp; done) | (have := HPOS.out; omega))))
      try simp only [Act.put, List.setIfInBounds_toArray, List.set_cons_zero, List.set_cons_succ]
      refine wpG_done (by kernel_rfl) ?_ _
      clear hHeld h01
      have HS9 := Lib.hid (HS2.out.below HB3.out)
      have HB9 := Lib.hid HB3.out
      clear HA3
      cases b with
      | true =>
        obtain ⟨hc1, hc2⟩ := skip_com hb
        have C2 := Lib.hid (CB.out w3 HS9.out)
        go_upto_region 2 with (go_at_call 71; (with_reducible refine C2.out.mono ?_); rintro e w4 ⟨rfl, hb4⟩; have HS4 := Lib.hid (HS9.out.below hb4); have HB4 := Lib.hid hb4; clear hb4)
        have hm2 := runL_big notNl n (L.drop (j + n1)) (HLEN.out (j + n1))
        have C8 := Lib.hid (C81.out (j + n1) w4.drew (HS4.out.drewN 1) HLE.out)
        rw [hm2] at C8
        obtain ⟨n2, hn2⟩ : ∃ n2, cntL notNl (L.drop (j + n1)) = n2 := ⟨_, rfl⟩
        rw [hn2] at C8 hc1 hc2
        rw [List.drop_drop] at hc1
        have hle2 : j + n1 + n2 ≤ n := by have := cntL_le notNl (L.drop (j + n1)); rw [List.length_drop, hn2] at this; have := HN.out; have := HLE.out; omega
        have HLE2 := Lib.hid hle2
        have HC := Lib.hid (And.intro hc1 hc2)
        clear hc1 hc2 hb hm2 hn2 hle2
        refine wp_region_G (S0 := (StA sb St)) (S1 := (StA sb St)) (c := 99) (by kernel_rfl) ?_
        have hHeld := (HSTR.out _ _ (HS4.out.drewN 1))
        have h01 := (fun (W : World) (h : (StA sb St) W) => h)
        refine wpG_takeB (i := 0) (oi := ⟨some 23, _, _, _, _, _⟩) (v := .pointer (some ⟨sb, 0, none⟩)) rfl (by kernel_rfl) (by kernel_rfl) (by kernel_rfl) (by decide) (fun _ _ _ h => h) h01 rfl hHeld (Or.inl ⟨by rfl, ?_⟩) ?_
        · (intro W9 hSw; have v1 : _ = _ := hSw; have hsz := HSZ.out; go_simp; (try (first | with_reducible rfl | rfl | (simp; done) | (have := HPOS.out; omega))))
        try simp only [Act.put, List.setIfInBounds_toArray, List.set_cons_zero, List.set_cons_succ]
        refine wpG_takeB (i := 1) (oi := ⟨some 24, _, _, _, _, _⟩) (v := .pointer (some ⟨sb, 0, none⟩)) rfl (by kernel_rfl) (by kernel_rfl) (by kernel_rfl) (by decide) (fun _ _ _ h => h) h01 rfl hHeld (Or.inl ⟨by rfl, ?_⟩) ?_
        · (intro W9 hSw; have v1 : _ = _ := hSw; have hsz := HSZ.out; go_simp; (try (first | with_reducible rfl | rfl | (simp; done) | (have := HPOS.out; omega))))
        try simp only [Act.put, List.setIfInBounds_toArray, List.set_cons_zero, List.set_cons_succ]
        refine wpG_takeB (i := 2) (oi := ⟨some 25, _, _, _, _, _⟩) (v := .pointer (some ⟨sb, 0, none⟩)) rfl (by kernel_rfl) (by kernel_rfl) (by kernel_rfl) (by decide) (fun _ _ _ h => h) h01 rfl hHeld (Or.inl ⟨by rfl, ?_⟩) ?_
        · (intro W9 hSw; have v1 : _ = _ := hSw; have hsz := HSZ.out; go_simp; (try (first | with_reducible rfl | rfl | (simp; done) | (have := HPOS.out; omega))))
        try simp only [Act.put, List.setIfInBounds_toArray, List.set_cons_zero, List.set_cons_succ]
        refine wpG_takeB (i := 3) (oi := ⟨some 26, _, _, _, _, _⟩) (v := .pointer (some ⟨sb, 0, none⟩)) rfl (by kernel_rfl) (by kernel_rfl) (by kernel_rfl) (by decide) (fun _ _ _ h => h) h01 rfl hHeld (Or.inl ⟨by rfl, ?_⟩) ?_
        · (intro W9 hSw; have v1 : _ = _ := hSw; have hsz := HSZ.out; go_simp; (try (first | with_reducible rfl | rfl | (simp; done) | (have := HPOS.out; omega))))
        try simp only [Act.put, List.setIfInBounds_toArray, List.set_cons_zero, List.set_cons_succ]
        refine wpG_takeB (i := 4) (oi := ⟨some 27, _, _, _, _, _⟩) (v := .pointer (some ⟨sb, 0, none⟩)) rfl (by kernel_rfl) (by kernel_rfl) (by kernel_rfl) (by decide) (fun _ _ _ h => h) h01 rfl hHeld (Or.inl ⟨by rfl, ?_⟩) ?_
        · (intro W9 hSw; have v1 : _ = _ := hSw; have hsz := HSZ.out; go_simp; (try (first | with_reducible rfl | rfl | (simp; done) | (have := HPOS.out; omega))))
        try simp only [Act.put, List.setIfInBounds_toArray, List.set_cons_zero, List.set_cons_succ]
        refine wpG_takeB (i := 5) (oi := ⟨some 28, _, _, _, _, _⟩) (v := .pointer (some ⟨sb, 0, none⟩)) rfl (by kernel_rfl) (by kernel_rfl) (by kernel_rfl) (by decide) (fun _ _ _ h => h) h01 rfl hHeld (Or.inl ⟨by rfl, ?_⟩) ?_
        · (intro W9 hSw; have v1 : _ = _ := hSw; have hsz := HSZ.out; go_simp; (try (first | with_reducible rfl | rfl | (simp; done) | (have := HPOS.out; omega))))
        try simp only [Act.put, List.setIfInBounds_toArray, List.set_cons_zero, List.set_cons_succ]
        refine wpG_takeB (i := 6) (oi := ⟨some 29, _, _, _, _, _⟩) (v := .pointer (some ⟨sb, 0, none⟩)) rfl (by kernel_rfl) (by kernel_rfl) (by kernel_rfl) (by decide) (fun _ _ _ h => h) h01 rfl hHeld (Or.inl ⟨by rfl, ?_⟩) ?_
        · (intro W9 hSw; have v1 : _ = _ := hSw; have hsz := HSZ.out; go_simp; (try (first | with_reducible rfl | rfl | (simp; done) | (have := HPOS.out; omega))))
        try simp only [Act.put, List.setIfInBounds_toArray, List.set_cons_zero, List.set_cons_succ]
        refine wpG_takeB (i := 7) (oi := ⟨some 30, _, _, _, _, _⟩) (v := .string St) rfl (by kernel_rfl) (by kernel_rfl) (by kernel_rfl) (by decide) (fun _ _ _ h => h) h01 rfl hHeld (Or.inl ⟨by rfl, ?_⟩) ?_
        · (intro W9 hSw; have v1 : _ = _ := hSw; have hsz := HSZ.out; go_simp; (try (first | with_reducible rfl | rfl | (simp; done) | (have := HPOS.out; omega))))
        try simp only [Act.put, List.setIfInBounds_toArray, List.set_cons_zero, List.set_cons_succ]
        refine wpG_takeB (i := 8) (oi := ⟨some 31, _, _, _, _, _⟩) (v := .int .i64 (n : Int)) rfl (by kernel_rfl) (by kernel_rfl) (by kernel_rfl) (by decide) (fun _ _ _ h => h) h01 rfl hHeld (Or.inl ⟨by rfl, ?_⟩) ?_
        · (intro W9 hSw; have v1 : _ = _ := hSw; have hsz := HSZ.out; go_simp; (try (first | with_reducible rfl | rfl | (simp; done) | (have := HPOS.out; omega))))
        try simp only [Act.put, List.setIfInBounds_toArray, List.set_cons_zero, List.set_cons_succ]
        refine wpG_oneB (i := 9) (o := ⟨some 32, _, _, _, _, _⟩) (by kernel_rfl) rfl rfl (fun K hK => ?_)
        go_simp
        (try simp only [HSZ.out])
        (with_reducible refine C8.out.mono ?_); rintro e w5 ⟨rfl, hs5, ho5⟩
        have HS5 := Lib.hid hs5
        have HO5 := Lib.hid ho5
        have HA5 := Lib.hid (show StA sb St w5 from HSTR.out w5 _ hs5)
        clear hs5 ho5
        refine hK.out _ _ HA5.out (fun hHeld => ?_)
        clear hK K
        try simp only [Act.put, List.setIfInBounds_toArray, List.set_cons_zero, List.set_cons_succ]
        refine wpG_done (by kernel_rfl) ?_ _
        clear hHeld h01
        go_wp2_with fail
        go_roundw
        case rel => exact ⟨j + n1 + n2, Lib.hid HLE2.out, Lib.hid (by have h1 := HEJ.out; have h2 := HSR.out; have h3 := HC.out.1; omega), Lib.hid HS5.out, Lib.hid ((only_drewN ((((only_drewN HOJ.out 1).trans HO2.out fun b _ x => x).below HB9.out).below HB4.out) 1).trans HO5.out fun b _ x => x)⟩
        case measure => rw [HS5.out.at, HSJ.out.at]; have := HC.out.2; have := HLE2.out; omega
      | false =>
        have HF := Lib.hid (show j = E by have h1 := HEJ.out; have h2 := HN1.out; rw [HPOS.out] at h2; have h3 := hb; rw [HPOS.out, Nat.add_zero] at h3; rw [skip_zero h2 h3] at h1; omega)
        clear hb
        go_wp2_with fail
        first | go_end0 | skip
        refine ⟨rfl, ?_, ((only_drewN HOJ.out 1).trans HO2.out fun b _ x => x).below HB9.out⟩
        have h1 := HS9.out
        rw [HPOS.out, Nat.add_zero, HF.out] at h1
        exact h1

end Go.Proofs.YtkihoekldklkhaaDoor
