/- The scanner: scan. -/
import Derived.Test.YtkihoekldklkhaaDoorTi
import Derived.Deep.AppendLies
import Derived.Great.BuildSlice
namespace Go.Proofs.YtkihoekldklkhaaDoor
open Go.RowKit
set_option linter.unusedVariables false
set_option linter.unusedSimpArgs false

theorem own_blk {w : World} {B n sz g : Nat} {e t : TypeId} {v : Value} {xs : List Value} {cs : Array Value} (h : w.ownsRow B e sz v n xs) (hg : Blk w g t cs) (ht : e ≠ t) : v.ownBlock ≠ some g := by
  rcases h.2 with ⟨rfl, _⟩ | ⟨g', cap, cur, rfl, _, hh, _⟩
  · simp [Value.ownBlock]
  · intro he
    cases he
    unfold Blk at hg
    rw [hg] at hh
    injection hh with hh
    injection hh with _ h2
    exact ht h2.symm
theorem Only.app {o : Obj} {W W2 : World} {v : Value} (hg : (W.alloc o).grownBy W2 v.ownBlock) : Only (fun k => v.ownBlock = some k) W W2 :=
  Only.after ((Below.refl W.heap.size W).alloc (Nat.le_refl _) o) ((Only.refl (fun b => v.ownBlock = some b) (W.alloc o)).grown hg fun g he hb => he)
/-- A token's cells. -/
def TkC (L : List UInt8) (t : Tk) : List Value := [.int .i64 (t.k : Int), .string ⟨t.t.toArray⟩, .int .i64 t.v, .int .i64 ((lcOf L t.a).1 : Int), .int .i64 ((lcOf L t.a).2 : Int)]
theorem elT : ElS Tryd.prog 24 32 5 48 := ElS.mk' (z := .agg #[.int .i64 0, .string { data := #[] }, .int .i64 0, .int .i64 0, .int .i64 0]) Tryd.underlying24 (by kernel_rfl) (by kernel_rfl) (by decide)
/-- How scan ends. -/
def ScanR (L : List UInt8) (sb : Nat) (w : World) (e : Ending) (w' : World) : Prop := Only (fun k => k = sb) w w' ∧ match (scanL 0 L).2 with
  | none => (∃ v, e = .returned v ∧ w'.ownsRow w.heap.size 32 5 v (scanL 0 L).1.length ((scanL 0 L).1.flatMap (TkC L))) ∧ Sc L sb L.length w'
  | some b => e = .panicked [errV (errN L b)] ∧ Sc L sb b w'
theorem cntL_all (p : Int → Bool) : ∀ (r : List UInt8) (c : UInt8), c ∈ r.take (cntL p r) → p c.toNat = true
  | [], c, h => by simp at h
  | d :: r, c, h => by
    rw [cntL_cons] at h
    split at h
    · rename_i hd
      rw [List.take_succ_cons] at h
      rcases List.mem_cons.1 h with rfl | h
      · exact hd
      · exact cntL_all p r c h
    · simp at h
theorem trimL_ne {l : List UInt8} {c d : UInt8} (h : d ≠ c) : Lib.trimLeftB (d :: l) c = d :: l := by unfold Lib.trimLeftB; rw [List.dropWhile_cons_of_neg (by simpa using h)]
theorem trim_body (b : List UInt8) (h : ∀ c ∈ b, c ≠ 34) : Lib.trimB (34 :: (b ++ [34])) 34 = b := by
  unfold Lib.trimB Lib.trimRightB
  have e1 : (34 :: (b ++ [34]) : List UInt8).reverse = 34 :: (b.reverse ++ [34]) := by simp
  rw [e1, List.dropWhile_cons_of_pos (by simp)]
  rcases List.eq_nil_or_concat b with rfl | ⟨b', x, rfl⟩
  · rfl
  · have hx : x ≠ 34 := h x (by simp)
    have e2 : (b'.concat x).reverse = x :: b'.reverse := by simp
    rw [e2, List.cons_append, List.dropWhile_cons_of_neg (by simpa using hx)]
    have e3 : (x :: (b'.reverse ++ [34])).reverse = 34 :: (b' ++ [x]) := by simp
    rw [e3]
    unfold Lib.trimLeftB
    rw [List.dropWhile_cons_of_pos (by simp)]
    cases b' with
    | nil => rw [List.nil_append, List.dropWhile_cons_of_neg (by simpa using hx)]; rfl
    | cons y b' =>
      have hy : y ≠ 34 := h y (by simp)
      rw [List.cons_append, List.dropWhile_cons_of_neg (by simpa using hy)]
      simp
theorem isI_34 {c : UInt8} (h : isI 34 (c.toNat : Int) = true) : c = 34 := by
  unfold isI at h
  have h1 : (c.toNat : Int) = 34 := by simpa using h
  exact UInt8.toNat_inj.1 (by show c.toNat = 34; omega)
theorem quoL_ok {r : List UInt8} {k : Nat} {v : Int} {n : Nat} (h : quoL r = .ok k v n) (h0 : headP (isI 34) r = true) : Lib.trimB (r.take n) 34 = (r.take (n - 1)).drop 1 := by
  unfold quoL at h
  split at h
  · rename_i h2
    injection h with h1 h3 h4
    subst h4
    cases r with
    | nil => cases h0
    | cons c r =>
      have hc : c = 34 := isI_34 h0
      subst hc
      rw [List.drop_one, List.tail_cons] at h2 ⊢
      generalize hm : cntL quoI r = m at *
      have e1 : m + 2 - 1 = m + 1 := by omega
      rw [e1, List.take_succ_cons, List.take_succ_cons, List.drop_one, List.tail_cons]
      have hml := headP_drop h2
      have e2 : r.take (m + 1) = r.take m ++ [34] := by
        rw [List.take_succ_eq_append_getElem hml]
        congr 2
        rw [headP_in hml] at h2
        exact isI_34 h2
      rw [e2]
      exact trim_body _ fun c hc e => by
        subst e
        rw [← hm] at hc
        have := cntL_all quoI r 34 hc
        revert this
        decide
  · cases h
theorem tok_trim {r : List UInt8} {k : Nat} {v : Int} {n : Nat} (h : tokO r = some (.ok k v n)) : (k = 3 → Lib.trimB (r.take n) 34 = txtL k r n) ∧ (k ≠ 3 → r.take n = txtL k r n) := by
  refine ⟨fun hk => ?_, fun hk => by unfold txtL; rw [if_neg hk]⟩
  subst hk
  unfold txtL
  rw [if_pos rfl]
  have ht := tokO_eq r
  rw [h] at ht
  simp only at ht
  unfold tokL at ht
  split at ht
  · unfold wordL at ht; split at ht <;> cases ht
  · split at ht
    · exfalso
      unfold numL at ht
      split at ht
      · split at ht
        · have := (digsL_pos _ _ _ _ _ _ _ _ ht).2.2; omega
        · cases ht
      · have := (digsL_pos _ _ _ _ _ _ _ _ ht).2.2; omega
    · split at ht
      · rename_i h0
        exact quoL_ok ht h0
      · split at ht
        · unfold symL at ht; cases ht
        · cases ht
theorem scanL_step {j : Nat} {L : List UInt8} {k : Nat} {v : Int} {n : Nat} (hj : j + skipL false (L.drop j) < L.length) (h : tokO (L.drop (j + skipL false (L.drop j))) = some (.ok k v n)) :
    scanL j (L.drop j) = (⟨k, txtL k (L.drop (j + skipL false (L.drop j))) n, v, j + skipL false (L.drop j)⟩ :: (scanL (j + skipL false (L.drop j) + n) (L.drop (j + skipL false (L.drop j) + n))).1, (scanL (j + skipL false (L.drop j) + n) (L.drop (j + skipL false (L.drop j) + n))).2) := by
  have e1 : (L.drop j).drop (skipL false (L.drop j)) = L.drop (j + skipL false (L.drop j)) := by rw [List.drop_drop]
  have h0 : (L.drop j).drop (skipL false (L.drop j)) ≠ [] := by rw [e1]; intro h; have := congrArg List.length h; rw [List.length_drop, List.length_nil] at this; omega
  rw [scanL_tok h0 (by rw [e1, tokO_eq, h]), e1, List.drop_drop]
theorem scanL_stop {j : Nat} {L : List UInt8} {n : Nat} (hj : j + skipL false (L.drop j) < L.length) (h : tokO (L.drop (j + skipL false (L.drop j))) = some (.bad n) ∨ tokO (L.drop (j + skipL false (L.drop j))) = none ∧ n = 0) :
    scanL j (L.drop j) = ([], some (j + skipL false (L.drop j) + n)) := by
  have e1 : (L.drop j).drop (skipL false (L.drop j)) = L.drop (j + skipL false (L.drop j)) := by rw [List.drop_drop]
  have h0 : (L.drop j).drop (skipL false (L.drop j)) ≠ [] := by rw [e1]; intro h; have := congrArg List.length h; rw [List.length_drop, List.length_nil] at this; omega
  refine scanL_bad h0 ?_
  rw [e1, tokO_eq]
  rcases h with h | ⟨h, rfl⟩ <;> rw [h]
theorem scanL_end {j : Nat} {L : List UInt8} (hj : j + skipL false (L.drop j) = L.length) : scanL j (L.drop j) = ([], none) := scanL_fin (by rw [List.drop_drop, List.drop_eq_nil_of_le (by omega)])
set_option maxRecDepth 100000 in
set_option maxHeartbeats 1000000 in
theorem build104 (W : World) (f1 f2 f3 f4 : Fn) (x1 x2 x3 x4 y1 y2 y3 y4 : Array Value) : (Instr.buildSlice 104 4 #[(0, .func f1 x1 y1), (1, .func f2 x2 y2), (2, .func f3 x3 y3), (3, .func f4 x4 y4)]).run Tryd.prog W = .ok (.slice (some ⟨W.heap.size, 0, none⟩) 4 4) (W.alloc (.cells #[.func f1 x1 y1, .func f2 x2 y2, .func f3 x3 y3, .func f4 x4 y4] 103)) := by
  obtain ⟨i0, hi0, hz0, hz1, hz2⟩ := info_parts (P := Tryd.prog) (e := 103) (z := .nilFunc) (size := 1) (bytes := 8) (by kernel_rfl)
  refine run_buildSlice W 104 103 4 _ #[.func f1 x1 y1, .func f2 x2 y2, .func f3 x3 y3, .func f4 x4 y4] i0 .nilFunc Tryd.underlying104 hi0 hz0 (by rw [hz1]; decide) (by rw [hz1]; decide) ?_
  rw [hz1]
  kernel_rfl
theorem TB.txt {tb k : Nat} {tx : ByteArray} {v ln cl : Int} {w : World} (h : TB tb k tx v ln cl w) (s : ByteArray) : TB tb k s v ln cl (w.setCell ⟨tb, 1, none⟩ (.string s)) := by have := Blk.set_ h 1 (.string s); simpa [TB] using this
set_option maxRecDepth 100000 in
set_option maxHeartbeats 4000000 in
theorem scan_any (L : List UInt8) (sb : Nat) (w : World) (h : Sc L sb 0 w) (hn : L.length ≤ 1000000) :
    Calls Tryd.prog 49 #[.pointer (some ⟨sb, 0, none⟩)] w (ScanR L sb w) := by
  have HN := Lib.hid hn
  have HS := Lib.hid h
  have hmf : ∀ (fn : Fn) (first cap : Array Value) (w : World), (Instr.makeFunc fn first cap).run Tryd.prog w = .ok (.func fn first cap) w := fun _ _ _ _ => rfl
  have HMF := Lib.hid hmf
  have hbd := build104
  clear h hn
  go_enter Tryd.func49, Tryd.ntmps49
  go_wp2_with fail
  refine wp_scope_straight ?_
  go_wp2_with fail
  refine wp_label ?_
  simp only [Exit.then]
  go_at_K
  clear hbd hmf
  obtain ⟨W0, hW0⟩ : ∃ W0, w.alloc (.cells #[.func (.func 55) #[.pointer (some ⟨sb, 0, none⟩)] #[], .func (.func 56) #[.pointer (some ⟨sb, 0, none⟩)] #[], .func (.func 57) #[.pointer (some ⟨sb, 0, none⟩)] #[], .func (.func 58) #[.pointer (some ⟨sb, 0, none⟩)] #[]] 103) = W0 := ⟨_, rfl⟩
  have hb0 : Below w.heap.size w W0 := hW0 ▸ (Below.refl _ w).alloc (Nat.le_refl _) _
  obtain ⟨kb, hkb⟩ : ∃ kb, w.heap.size = kb := ⟨_, rfl⟩
  have HK0 : Hid (FnB kb sb W0) := Lib.hid (hkb ▸ hW0 ▸ Blk.new w 103 _)
  have HS0 := Lib.hid (HS.out.below hb0)
  have HB0 := Lib.hid hb0
  rw [hW0, hkb]
  have HKB := Lib.hid hkb
  clear hW0 hb0 hkb
  go_wp2_with fail
  go_loopw [2] (fun ov wr => ∃ (j : Nat) (ds : List Tk), Hid (j ≤ L.length) ∧ Hid (ds.length ≤ j) ∧ Hid (scanL 0 L = (ds ++ (scanL j (L.drop j)).1, (scanL j (L.drop j)).2)) ∧ Hid (Sc L sb j wr) ∧ Hid (FnB kb sb wr) ∧ Hid (Only (fun k => k = sb) w wr) ∧ Hid (wr.ownsRow w.heap.size 32 5 ov ds.length (ds.flatMap (TkC L)))) (fun _ wr => L.length - atOf sb wr)
  case atStart => exact ⟨0, [], Lib.hid (by omega), Lib.hid (by simp), Lib.hid (by simp), HS0, HK0, Lib.hid (Only.of_below HB0.out), Lib.hid (World.ownsRow_nil _ _ 32 5)⟩
  case round =>
    obtain ⟨j, ds, HJ, HDS, HSC, HSj, HKj, HOj, HWj⟩ := hrel
    obtain ⟨Ao, no, eo, -⟩ := own_formS HWj.out
    subst eo
    have hsk := skipL_le false (L.drop j)
    rw [List.length_drop] at hsk
    have C59 := Lib.hid (blanks_any L sb j wr HSj.out HN.out HJ.out)
    obtain ⟨j1, hj1⟩ : ∃ j1, j + skipL false (L.drop j) = j1 := ⟨_, rfl⟩
    have HJ1 := Lib.hid hj1
    have hle : j1 ≤ L.length := by have := HJ.out; omega
    have HLE := Lib.hid hle
    rw [hj1] at C59
    have HSZ := Lib.hid (Lib.size_mk L)
    clear hsk hj1 hle
    go_upto_region 3 with (go_at_call 59; (with_reducible refine C59.out.mono ?_); rintro e w1 ⟨rfl, hs1, ho1⟩; have HS1 := Lib.hid hs1; have HO1 := Lib.hid ho1; clear hs1 ho1)
    have HW1 := Lib.hid (own_only HWj.out HO1.out (fun k hk e => own_blk HWj.out HSj.out (by decide) (e ▸ hk)))
    have HK1 : Hid (FnB kb sb w1) := Lib.hid (Blk.only HKj.out HO1.out (fun e => Blk.ne HKj.out HSj.out (by decide) e))
    have HO1' := Lib.hid (HOj.out.tr HO1.out)
    have hb1 : Blk w1 sb 89 #[.string ⟨L.toArray⟩, .int .i64 (j1 : Int), .int .i64 ((lcOf L j1).1 : Int), .int .i64 ((lcOf L j1).2 : Int)] := HS1.out
    have s0 := hb1.cell 0
    have s1 := hb1.cell 1
    have s2 := hb1.cell 2
    have s3 := hb1.cell 3
    simp only [List.getElem?_toArray, List.getElem?_cons_zero, List.getElem?_cons_succ] at s0 s1 s2 s3
    clear hb1
    obtain ⟨St, hSt⟩ : ∃ St, (⟨L.toArray⟩ : ByteArray) = St := ⟨_, rfl⟩
    obtain ⟨J, hJ⟩ : ∃ J : Int, (j1 : Int) = J := ⟨_, rfl⟩
    obtain ⟨ln, hln⟩ : ∃ ln : Int, ((lcOf L j1).1 : Int) = ln := ⟨_, rfl⟩
    obtain ⟨cl, hcl⟩ : ∃ cl : Int, ((lcOf L j1).2 : Int) = cl := ⟨_, rfl⟩
    rw [hSt] at s0 HSZ
    rw [hJ] at s1
    rw [hln] at s2
    rw [hcl] at s3
    have HST := Lib.hid hSt
    have HJJ := Lib.hid hJ
    have HLN := Lib.hid hln
    have HCLL := Lib.hid hcl
    by_cases hend : j1 = L.length
    · have q0 : (J == (St.size : Int)) = true := by rw [HSZ.out]; simp; omega
      have HEQ := Lib.hid (show scanL 0 L = (ds, none) by rw [HSC.out, scanL_end (by rw [HJ1.out]; exact hend)]; simp)
      have HE2 := Lib.hid hend
      clear hSt hJ hln hcl hend
      go_quiet (fail)
      go_wp2_with fail
      go_ret
      refine ⟨only_drewN HO1'.out nq, ?_⟩
      rw [HEQ.out]
      exact ⟨⟨_, rfl, own_keeps HW1.out fun k hk => rfl⟩, by rw [← HE2.out]; exact HS1.out.drewN nq⟩
    · have q0 : (J == (St.size : Int)) = false := by rw [HSZ.out]; simp; omega
      have hlt : j1 < L.length := by have := HLE.out; omega
      have HLT := Lib.hid hlt
      clear hSt hJ hln hcl hend hlt
      go_quiet (fail)
      go_upto_region 4 with fail
      clear q0
      obtain ⟨W1, hW1⟩ : ∃ W1, w1.drewN nq = W1 := ⟨_, rfl⟩
      have HSA := Lib.hid (show Sc L sb j1 W1 from hW1 ▸ HS1.out.drewN nq)
      have HKA := Lib.hid (show FnB kb sb W1 from hW1 ▸ Blk.drewN HK1.out nq)
      have HOA := Lib.hid (show Only (fun k => k = sb) w W1 from hW1 ▸ only_drewN HO1'.out nq)
      have HWA := Lib.hid (show W1.ownsRow w.heap.size 32 5 (.slice Ao ds.length no) ds.length (ds.flatMap (TkC L)) from hW1 ▸ own_keeps HW1.out fun k hk => rfl)
      have HSZ1 : Hid (sb < W1.heap.size) := Lib.hid (Blk.lt HSA.out)
      have HP0 : Hid ((fun W : World => W.cell? ⟨sb, 1, none⟩ = some (.int .i64 J) ∧ W.cell? ⟨sb, 2, none⟩ = some (.int .i64 ln) ∧ W.cell? ⟨sb, 3, none⟩ = some (.int .i64 cl)) W1) := Lib.hid (by rw [← hW1]; exact ⟨s1, s2, s3⟩)
      have HP1 : Hid ((fun W : World => W.cell? ⟨sb, 1, none⟩ = some (.int .i64 J) ∧ W.cell? ⟨sb, 2, none⟩ = some (.int .i64 ln) ∧ W.cell? ⟨sb, 3, none⟩ = some (.int .i64 cl)) W1.drew) := Lib.hid HP0.out
      have HP2 : Hid (∀ cs, (fun W : World => W.cell? ⟨sb, 1, none⟩ = some (.int .i64 J) ∧ W.cell? ⟨sb, 2, none⟩ = some (.int .i64 ln) ∧ W.cell? ⟨sb, 3, none⟩ = some (.int .i64 cl)) ((W1.alloc (.cells cs 32)).drew)) := Lib.hid (fun cs => by
        have hb := (Below.refl W1.heap.size W1).alloc (Nat.le_refl _) (.cells cs 32)
        exact ⟨(hb.cell (p := ⟨sb, 1, none⟩) HSZ1.out).trans HP0.out.1, (hb.cell (p := ⟨sb, 2, none⟩) HSZ1.out).trans HP0.out.2.1, (hb.cell (p := ⟨sb, 3, none⟩) HSZ1.out).trans HP0.out.2.2⟩)
      rw [hW1]
      clear hW1 s0 s1 s2 s3
      refine wp_region_G (S0 := (fun W : World => W.cell? ⟨sb, 1, none⟩ = some (.int .i64 J) ∧ W.cell? ⟨sb, 2, none⟩ = some (.int .i64 ln) ∧ W.cell? ⟨sb, 3, none⟩ = some (.int .i64 cl))) (S1 := (fun W : World => W.cell? ⟨sb, 1, none⟩ = some (.int .i64 J) ∧ W.cell? ⟨sb, 2, none⟩ = some (.int .i64 ln) ∧ W.cell? ⟨sb, 3, none⟩ = some (.int .i64 cl))) (c := 99) (by kernel_rfl) ?_
      have hHeld := HP1.out
      have h01 := (fun (W : World) (h : (fun W : World => W.cell? ⟨sb, 1, none⟩ = some (.int .i64 J) ∧ W.cell? ⟨sb, 2, none⟩ = some (.int .i64 ln) ∧ W.cell? ⟨sb, 3, none⟩ = some (.int .i64 cl)) W) => h)
      refine wpG_takeB (i := 0) (oi := ⟨some 29, _, _, _, _, _⟩) (v := .pointer (some ⟨sb, 0, none⟩)) rfl (by kernel_rfl) (by kernel_rfl) (by kernel_rfl) (by decide) (fun _ _ _ h => h) h01 rfl hHeld (Or.inl ⟨by rfl, ?_⟩) ?_
      · (intro W9 hSw; obtain ⟨v1, v2, v3⟩ := hSw; go_simp; (try (first | with_reducible rfl | rfl | (simp; done))))
      try simp only [Act.put, List.setIfInBounds_toArray, List.set_cons_zero, List.set_cons_succ]
      refine wpG_takeB (i := 1) (oi := ⟨some 30, _, _, _, _, _⟩) (v := .pointer (some ⟨sb, 0, none⟩)) rfl (by kernel_rfl) (by kernel_rfl) (by kernel_rfl) (by decide) (fun _ _ _ h => h) h01 rfl hHeld (Or.inl ⟨by rfl, ?_⟩) ?_
      · (intro W9 hSw; obtain ⟨v1, v2, v3⟩ := hSw; go_simp; (try (first | with_reducible rfl | rfl | (simp; done))))
      try simp only [Act.put, List.setIfInBounds_toArray, List.set_cons_zero, List.set_cons_succ]
      refine wpG_takeB (i := 2) (oi := ⟨some 31, _, _, _, _, _⟩) (v := .pointer (some ⟨sb, 0, none⟩)) rfl (by kernel_rfl) (by kernel_rfl) (by kernel_rfl) (by decide) (fun _ _ _ h => h) h01 rfl hHeld (Or.inl ⟨by rfl, ?_⟩) ?_
      · (intro W9 hSw; obtain ⟨v1, v2, v3⟩ := hSw; go_simp; (try (first | with_reducible rfl | rfl | (simp; done))))
      try simp only [Act.put, List.setIfInBounds_toArray, List.set_cons_zero, List.set_cons_succ]
      refine wpG_takeB (i := 3) (oi := ⟨some 32, _, _, _, _, _⟩) (v := .pointer (some ⟨sb, 2, none⟩)) rfl (by kernel_rfl) (by kernel_rfl) (by kernel_rfl) (by decide) (fun _ _ _ h => h) h01 rfl hHeld (Or.inl ⟨by rfl, ?_⟩) ?_
      · (intro W9 hSw; obtain ⟨v1, v2, v3⟩ := hSw; go_simp; (try (first | with_reducible rfl | rfl | (simp; done))))
      try simp only [Act.put, List.setIfInBounds_toArray, List.set_cons_zero, List.set_cons_succ]
      refine wpG_takeB (i := 4) (oi := ⟨some 33, _, _, _, _, _⟩) (v := .agg #[.int .i64 ln, .int .i64 cl]) rfl (by kernel_rfl) (by kernel_rfl) (by kernel_rfl) (by decide) (fun _ _ _ h => h) h01 rfl hHeld (Or.inl ⟨by rfl, ?_⟩) ?_
      · (intro W9 hSw; obtain ⟨v1, v2, v3⟩ := hSw; go_simp; (try (first | with_reducible rfl | rfl | (simp; done))))
      try simp only [Act.put, List.setIfInBounds_toArray, List.set_cons_zero, List.set_cons_succ]
      refine wpG_takeB (i := 5) (oi := ⟨some 34, _, _, _, _, _⟩) (v := .agg #[.int .i64 0, .string ⟨#[]⟩, .int .i64 0, .int .i64 ln, .int .i64 cl]) rfl (by kernel_rfl) (by kernel_rfl) (by kernel_rfl) (by decide) (fun _ _ _ h => h) h01 rfl hHeld (Or.inl ⟨by rfl, ?_⟩) ?_
      · (intro W9 hSw; obtain ⟨v1, v2, v3⟩ := hSw; go_simp; (try (first | with_reducible rfl | rfl | (simp; done))))
      try simp only [Act.put, List.setIfInBounds_toArray, List.set_cons_zero, List.set_cons_succ]
      refine wpG_takeB (i := 6) (oi := ⟨some 35, _, _, _, _, _⟩) (v := .pointer (some ⟨sb, 0, none⟩)) rfl (by kernel_rfl) (by kernel_rfl) (by kernel_rfl) (by decide) (fun _ _ _ h => h) h01 rfl hHeld (Or.inl ⟨by rfl, ?_⟩) ?_
      · (intro W9 hSw; obtain ⟨v1, v2, v3⟩ := hSw; go_simp; (try (first | with_reducible rfl | rfl | (simp; done))))
      try simp only [Act.put, List.setIfInBounds_toArray, List.set_cons_zero, List.set_cons_succ]
      refine wpG_takeB (i := 7) (oi := ⟨some 36, _, _, _, _, _⟩) (v := .pointer (some ⟨sb, 0, none⟩)) rfl (by kernel_rfl) (by kernel_rfl) (by kernel_rfl) (by decide) (fun _ _ _ h => h) h01 rfl hHeld (Or.inl ⟨by rfl, ?_⟩) ?_
      · (intro W9 hSw; obtain ⟨v1, v2, v3⟩ := hSw; go_simp; (try (first | with_reducible rfl | rfl | (simp; done))))
      try simp only [Act.put, List.setIfInBounds_toArray, List.set_cons_zero, List.set_cons_succ]
      refine wpG_takeB (i := 8) (oi := ⟨some 37, _, _, _, _, _⟩) (v := .pointer (some ⟨sb, 0, none⟩)) rfl (by kernel_rfl) (by kernel_rfl) (by kernel_rfl) (by decide) (fun _ _ _ h => h) h01 rfl hHeld (Or.inl ⟨by rfl, ?_⟩) ?_
      · (intro W9 hSw; obtain ⟨v1, v2, v3⟩ := hSw; go_simp; (try (first | with_reducible rfl | rfl | (simp; done))))
      try simp only [Act.put, List.setIfInBounds_toArray, List.set_cons_zero, List.set_cons_succ]
      refine wpG_takeB (i := 9) (oi := ⟨some 38, _, _, _, _, _⟩) (v := .pointer (some ⟨sb, 1, none⟩)) rfl (by kernel_rfl) (by kernel_rfl) (by kernel_rfl) (by decide) (fun _ _ _ h => h) h01 rfl hHeld (Or.inl ⟨by rfl, ?_⟩) ?_
      · (intro W9 hSw; obtain ⟨v1, v2, v3⟩ := hSw; go_simp; (try (first | with_reducible rfl | rfl | (simp; done))))
      try simp only [Act.put, List.setIfInBounds_toArray, List.set_cons_zero, List.set_cons_succ]
      refine wpG_takeB (i := 10) (oi := ⟨some 39, _, _, _, _, _⟩) (v := .int .i64 J) rfl (by kernel_rfl) (by kernel_rfl) (by kernel_rfl) (by decide) (fun _ _ _ h => h) h01 rfl hHeld (Or.inl ⟨by rfl, ?_⟩) ?_
      · (intro W9 hSw; obtain ⟨v1, v2, v3⟩ := hSw; go_simp; (try (first | with_reducible rfl | rfl | (simp; done))))
      try simp only [Act.put, List.setIfInBounds_toArray, List.set_cons_zero, List.set_cons_succ]
      refine wpG_oneB (i := 11) (o := ⟨some 4, _, _, _, _, _⟩) (by kernel_rfl) rfl rfl (fun K hK => ?_)
      go_simp
      refine hK.out _ _ (HP2.out _) (fun hHeld => ?_)
      clear hK K
      try simp only [Act.put, List.setIfInBounds_toArray, List.set_cons_zero, List.set_cons_succ]
      refine wpG_oneB (i := 12) (o := ⟨none, _, _, _, _, _⟩) (by kernel_rfl) rfl rfl (fun K hK => ?_)
      go_simp
      refine hK.out _ _ (HP2.out _) (fun hHeld => ?_)
      clear hK K
      try simp only [Act.put, List.setIfInBounds_toArray, List.set_cons_zero, List.set_cons_succ]
      refine wpG_takeB (i := 13) (oi := ⟨some 5, _, _, _, _, _⟩) (v := .int .i64 J) rfl (by kernel_rfl) (by kernel_rfl) (by kernel_rfl) (by decide) (fun _ _ _ h => h) h01 rfl hHeld (Or.inl ⟨by rfl, ?_⟩) ?_
      · (intro W9 hSw; obtain ⟨v1, v2, v3⟩ := hSw; go_simp; (try (first | with_reducible rfl | rfl | (simp; done))))
      try simp only [Act.put, List.setIfInBounds_toArray, List.set_cons_zero, List.set_cons_succ]
      refine wpG_done (by kernel_rfl) ?_ _
      clear hHeld h01
      obtain ⟨W2, hW2⟩ : ∃ W2, (W1.alloc (.cells #[.int .i64 0, .string ⟨#[]⟩, .int .i64 0, .int .i64 ln, .int .i64 cl] 32)).drew = W2 := ⟨_, rfl⟩
      have hb2 : Below W1.heap.size W1 W2 := hW2 ▸ below_drew ((Below.refl W1.heap.size W1).alloc (Nat.le_refl _) _)
      obtain ⟨tb, htb⟩ : ∃ tb, W1.heap.size = tb := ⟨_, rfl⟩
      have HT2 : Hid (TB tb 0 ⟨#[]⟩ 0 ln cl W2) := Lib.hid (htb ▸ hW2 ▸ Blk.drew1 (Blk.new W1 32 _))
      have HS2 := Lib.hid (HSA.out.below hb2)
      have HK2 : Hid (FnB kb sb W2) := Lib.hid (Blk.below HKA.out hb2 (Blk.lt HKA.out))
      have HO2 := Lib.hid (HOA.out.below hb2)
      have HW2 := Lib.hid (own_keeps HWA.out fun k hk => hb2.block k (own_lt HWA.out k hk))
      have HTG : Hid (w.heap.size ≤ tb) := Lib.hid (htb ▸ HOA.out.size)
      have HWT : Hid (∀ k, (Value.slice Ao ds.length no).ownBlock = some k → k < tb) := Lib.hid (fun k hk => htb ▸ own_lt HWA.out k hk)
      rw [hW2, htb]
      clear hW2 hb2 htb
      have HWS : Hid (∀ k, (Value.slice Ao ds.length no).ownBlock = some k → ¬ (k = sb ∨ k = tb)) := Lib.hid (fun k hk e => e.elim (fun e => own_blk HW2.out HS2.out (by decide) (e ▸ hk)) (fun e => by have := HWT.out k hk; omega))
      have C61 := Lib.hid (kinds_any kb L sb tb j1 ⟨#[]⟩ ln cl W2.drew HS2.out.drew (Blk.drew1 HT2.out) HN.out HLE.out (Blk.drew1 HK2.out))
      have HKS := Lib.hid (Blk.ne HK2.out HS2.out (by decide))
      have HKT := Lib.hid (Blk.ne HK2.out HT2.out (by decide))
      go_upto_region 5 with fail
      cases hO : tokO (L.drop j1) with
      | none =>
        rw [hO] at C61
        have C60 := Lib.hid (fun (W : World) (hs : Sc L sb j1 W) => need_sn L sb j1 W hs HLE.out HN.out)
        have HEQ := Lib.hid (show scanL 0 L = (ds, some j1) by rw [HSC.out, scanL_stop (n := 0) (by rw [HJ1.out]; exact HLT.out) (by rw [HJ1.out]; exact .inr ⟨hO, rfl⟩), HJ1.out]; simp)
        clear hO
        refine wp_region_G (S0 := (fun _ : World => True)) (S1 := (fun _ : World => True)) (c := 99) (by kernel_rfl) ?_
        have hHeld := trivial
        have h01 := (fun (W : World) (h : (fun _ : World => True) W) => h)
        refine wpG_takeB (i := 0) (oi := ⟨some 40, _, _, _, _, _⟩) (v := .pointer (some ⟨sb, 0, none⟩)) rfl (by kernel_rfl) (by kernel_rfl) (by kernel_rfl) (by decide) (fun _ _ _ h => h) h01 rfl hHeld (Or.inl ⟨by rfl, ?_⟩) ?_
        · (intro W9 hSw; have hm := HMF.out; go_simp; (try (first | with_reducible rfl | rfl | (simp; done))))
        try simp only [Act.put, List.setIfInBounds_toArray, List.set_cons_zero, List.set_cons_succ]
        refine wpG_takeB (i := 1) (oi := ⟨some 41, _, _, _, _, _⟩) (v := .pointer (some ⟨sb, 0, none⟩)) rfl (by kernel_rfl) (by kernel_rfl) (by kernel_rfl) (by decide) (fun _ _ _ h => h) h01 rfl hHeld (Or.inl ⟨by rfl, ?_⟩) ?_
        · (intro W9 hSw; have hm := HMF.out; go_simp; (try (first | with_reducible rfl | rfl | (simp; done))))
        try simp only [Act.put, List.setIfInBounds_toArray, List.set_cons_zero, List.set_cons_succ]
        refine wpG_takeB (i := 2) (oi := ⟨some 42, _, _, _, _, _⟩) (v := .pointer (some ⟨sb, 0, none⟩)) rfl (by kernel_rfl) (by kernel_rfl) (by kernel_rfl) (by decide) (fun _ _ _ h => h) h01 rfl hHeld (Or.inl ⟨by rfl, ?_⟩) ?_
        · (intro W9 hSw; have hm := HMF.out; go_simp; (try (first | with_reducible rfl | rfl | (simp; done))))
        try simp only [Act.put, List.setIfInBounds_toArray, List.set_cons_zero, List.set_cons_succ]
        refine wpG_takeB (i := 3) (oi := ⟨some 43, _, _, _, _, _⟩) (v := .slice (some ⟨kb, 0, none⟩) 4 4) rfl (by kernel_rfl) (by kernel_rfl) (by kernel_rfl) (by decide) (fun _ _ _ h => h) h01 rfl hHeld (Or.inl ⟨by rfl, ?_⟩) ?_
        · (intro W9 hSw; have hm := HMF.out; go_simp; (try (first | with_reducible rfl | rfl | (simp; done))))
        try simp only [Act.put, List.setIfInBounds_toArray, List.set_cons_zero, List.set_cons_succ]
        refine wpG_takeB (i := 4) (oi := ⟨some 44, _, _, _, _, _⟩) (v := .func (.func 62) #[] #[.pointer (some ⟨tb, 0, none⟩)]) rfl (by kernel_rfl) (by kernel_rfl) (by kernel_rfl) (by decide) (fun _ _ _ h => h) h01 rfl hHeld (Or.inl ⟨by rfl, ?_⟩) ?_
        · (intro W9 hSw; have hm := HMF.out; go_simp; (try (first | with_reducible rfl | rfl | (simp; done))))
        try simp only [Act.put, List.setIfInBounds_toArray, List.set_cons_zero, List.set_cons_succ]
        refine wpG_oneB (i := 5) (o := ⟨some 45, _, _, _, _, _⟩) (by kernel_rfl) rfl rfl (fun K hK => ?_)
        go_simp
        (with_reducible refine C61.out.mono ?_); rintro e w5 ⟨ho5, rfl, hs5, ht5⟩
        have HO5 := Lib.hid ho5
        have HS5 := Lib.hid hs5
        have HT5 := Lib.hid ht5
        clear ho5 hs5 ht5
        refine hK.out _ _ trivial (fun hHeld => ?_)
        clear hK K
        try simp only [Act.put, List.setIfInBounds_toArray, List.set_cons_zero, List.set_cons_succ]
        refine wpG_oneB (i := 6) (o := ⟨some 46, _, _, _, _, _⟩) (by kernel_rfl) rfl rfl (fun K hK => ?_)
        go_simp
        (with_reducible refine (C60.out _ HS5.out).mono ?_); rintro e w6 ⟨rfl, hs6, hb6⟩
        refine ⟨rfl, (Only.trans (only_drew HO2.out) HO5.out fun b hb e => e.elim id (fun e => by have := HTG.out; omega)).below hb6, ?_⟩
        rw [HEQ.out]
        exact ⟨rfl, hs6⟩
      | some t =>
        rw [hO] at C61
        cases t with
        | bad n =>
          have HEQ := Lib.hid (show scanL 0 L = (ds, some (j1 + n)) by rw [HSC.out, scanL_stop (n := n) (by rw [HJ1.out]; exact HLT.out) (by rw [HJ1.out]; exact .inl hO), HJ1.out]; simp)
          clear hO
          refine wp_region_G (S0 := (fun _ : World => True)) (S1 := (fun _ : World => True)) (c := 99) (by kernel_rfl) ?_
          have hHeld := trivial
          have h01 := (fun (W : World) (h : (fun _ : World => True) W) => h)
          refine wpG_takeB (i := 0) (oi := ⟨some 40, _, _, _, _, _⟩) (v := .pointer (some ⟨sb, 0, none⟩)) rfl (by kernel_rfl) (by kernel_rfl) (by kernel_rfl) (by decide) (fun _ _ _ h => h) h01 rfl hHeld (Or.inl ⟨by rfl, ?_⟩) ?_
          · (intro W9 hSw; have hm := HMF.out; go_simp; (try (first | with_reducible rfl | rfl | (simp; done))))
          try simp only [Act.put, List.setIfInBounds_toArray, List.set_cons_zero, List.set_cons_succ]
          refine wpG_takeB (i := 1) (oi := ⟨some 41, _, _, _, _, _⟩) (v := .pointer (some ⟨sb, 0, none⟩)) rfl (by kernel_rfl) (by kernel_rfl) (by kernel_rfl) (by decide) (fun _ _ _ h => h) h01 rfl hHeld (Or.inl ⟨by rfl, ?_⟩) ?_
          · (intro W9 hSw; have hm := HMF.out; go_simp; (try (first | with_reducible rfl | rfl | (simp; done))))
          try simp only [Act.put, List.setIfInBounds_toArray, List.set_cons_zero, List.set_cons_succ]
          refine wpG_takeB (i := 2) (oi := ⟨some 42, _, _, _, _, _⟩) (v := .pointer (some ⟨sb, 0, none⟩)) rfl (by kernel_rfl) (by kernel_rfl) (by kernel_rfl) (by decide) (fun _ _ _ h => h) h01 rfl hHeld (Or.inl ⟨by rfl, ?_⟩) ?_
          · (intro W9 hSw; have hm := HMF.out; go_simp; (try (first | with_reducible rfl | rfl | (simp; done))))
          try simp only [Act.put, List.setIfInBounds_toArray, List.set_cons_zero, List.set_cons_succ]
          refine wpG_takeB (i := 3) (oi := ⟨some 43, _, _, _, _, _⟩) (v := .slice (some ⟨kb, 0, none⟩) 4 4) rfl (by kernel_rfl) (by kernel_rfl) (by kernel_rfl) (by decide) (fun _ _ _ h => h) h01 rfl hHeld (Or.inl ⟨by rfl, ?_⟩) ?_
          · (intro W9 hSw; have hm := HMF.out; go_simp; (try (first | with_reducible rfl | rfl | (simp; done))))
          try simp only [Act.put, List.setIfInBounds_toArray, List.set_cons_zero, List.set_cons_succ]
          refine wpG_takeB (i := 4) (oi := ⟨some 44, _, _, _, _, _⟩) (v := .func (.func 62) #[] #[.pointer (some ⟨tb, 0, none⟩)]) rfl (by kernel_rfl) (by kernel_rfl) (by kernel_rfl) (by decide) (fun _ _ _ h => h) h01 rfl hHeld (Or.inl ⟨by rfl, ?_⟩) ?_
          · (intro W9 hSw; have hm := HMF.out; go_simp; (try (first | with_reducible rfl | rfl | (simp; done))))
          try simp only [Act.put, List.setIfInBounds_toArray, List.set_cons_zero, List.set_cons_succ]
          refine wpG_oneB (i := 5) (o := ⟨some 45, _, _, _, _, _⟩) (by kernel_rfl) rfl rfl (fun K hK => ?_)
          go_simp
          (with_reducible refine C61.out.mono ?_); rintro e w5 ⟨ho5, rfl, hs5⟩
          refine ⟨rfl, Only.trans (only_drew HO2.out) ho5 fun b hb e => e.elim id (fun e => by have := HTG.out; omega), ?_⟩
          rw [HEQ.out]
          exact ⟨rfl, hs5⟩
        | ok a v n =>
          have C60 := Lib.hid (fun (W : World) (hs : Sc L sb (j1 + n) W) => need_sy L sb (j1 + n) W hs)
          have hok := tokL_ok (r := L.drop j1) (k := a) (v := v) (n := n) (by rw [tokO_eq, hO])
          rw [List.length_drop] at hok
          obtain ⟨ht3, ht4⟩ := tok_trim hO
          have HOK := Lib.hid hok
          have HEQ := Lib.hid (show scanL 0 L = ((ds ++ [(⟨a, txtL a (L.drop j1) n, v, j1⟩ : Tk)]) ++ (scanL (j1 + n) (L.drop (j1 + n))).1, (scanL (j1 + n) (L.drop (j1 + n))).2) by rw [HSC.out, scanL_step (k := a) (v := v) (n := n) (by rw [HJ1.out]; exact HLT.out) (by rw [HJ1.out]; exact hO), HJ1.out]; simp)
          have HT34 := Lib.hid (And.intro ht3 ht4)
          clear hO hok ht3 ht4
          refine wp_region_G (S0 := (fun _ : World => True)) (S1 := (fun _ : World => True)) (c := 99) (by kernel_rfl) ?_
          have hHeld := trivial
          have h01 := (fun (W : World) (h : (fun _ : World => True) W) => h)
          refine wpG_takeB (i := 0) (oi := ⟨some 40, _, _, _, _, _⟩) (v := .pointer (some ⟨sb, 0, none⟩)) rfl (by kernel_rfl) (by kernel_rfl) (by kernel_rfl) (by decide) (fun _ _ _ h => h) h01 rfl hHeld (Or.inl ⟨by rfl, ?_⟩) ?_
          · (intro W9 hSw; have hm := HMF.out; go_simp; (try (first | with_reducible rfl | rfl | (simp; done))))
          try simp only [Act.put, List.setIfInBounds_toArray, List.set_cons_zero, List.set_cons_succ]
          refine wpG_takeB (i := 1) (oi := ⟨some 41, _, _, _, _, _⟩) (v := .pointer (some ⟨sb, 0, none⟩)) rfl (by kernel_rfl) (by kernel_rfl) (by kernel_rfl) (by decide) (fun _ _ _ h => h) h01 rfl hHeld (Or.inl ⟨by rfl, ?_⟩) ?_
          · (intro W9 hSw; have hm := HMF.out; go_simp; (try (first | with_reducible rfl | rfl | (simp; done))))
          try simp only [Act.put, List.setIfInBounds_toArray, List.set_cons_zero, List.set_cons_succ]
          refine wpG_takeB (i := 2) (oi := ⟨some 42, _, _, _, _, _⟩) (v := .pointer (some ⟨sb, 0, none⟩)) rfl (by kernel_rfl) (by kernel_rfl) (by kernel_rfl) (by decide) (fun _ _ _ h => h) h01 rfl hHeld (Or.inl ⟨by rfl, ?_⟩) ?_
          · (intro W9 hSw; have hm := HMF.out; go_simp; (try (first | with_reducible rfl | rfl | (simp; done))))
          try simp only [Act.put, List.setIfInBounds_toArray, List.set_cons_zero, List.set_cons_succ]
          refine wpG_takeB (i := 3) (oi := ⟨some 43, _, _, _, _, _⟩) (v := .slice (some ⟨kb, 0, none⟩) 4 4) rfl (by kernel_rfl) (by kernel_rfl) (by kernel_rfl) (by decide) (fun _ _ _ h => h) h01 rfl hHeld (Or.inl ⟨by rfl, ?_⟩) ?_
          · (intro W9 hSw; have hm := HMF.out; go_simp; (try (first | with_reducible rfl | rfl | (simp; done))))
          try simp only [Act.put, List.setIfInBounds_toArray, List.set_cons_zero, List.set_cons_succ]
          refine wpG_takeB (i := 4) (oi := ⟨some 44, _, _, _, _, _⟩) (v := .func (.func 62) #[] #[.pointer (some ⟨tb, 0, none⟩)]) rfl (by kernel_rfl) (by kernel_rfl) (by kernel_rfl) (by decide) (fun _ _ _ h => h) h01 rfl hHeld (Or.inl ⟨by rfl, ?_⟩) ?_
          · (intro W9 hSw; have hm := HMF.out; go_simp; (try (first | with_reducible rfl | rfl | (simp; done))))
          try simp only [Act.put, List.setIfInBounds_toArray, List.set_cons_zero, List.set_cons_succ]
          refine wpG_oneB (i := 5) (o := ⟨some 45, _, _, _, _, _⟩) (by kernel_rfl) rfl rfl (fun K hK => ?_)
          go_simp
          (with_reducible refine C61.out.mono ?_); rintro e w5 ⟨ho5, rfl, hs5, ht5⟩
          have HO5 := Lib.hid ho5
          have HS5 := Lib.hid hs5
          have HT5 := Lib.hid ht5
          clear ho5 hs5 ht5
          refine hK.out _ _ trivial (fun hHeld => ?_)
          clear hK K
          try simp only [Act.put, List.setIfInBounds_toArray, List.set_cons_zero, List.set_cons_succ]
          refine wpG_oneB (i := 6) (o := ⟨some 46, _, _, _, _, _⟩) (by kernel_rfl) rfl rfl (fun K hK => ?_)
          go_simp
          (with_reducible refine (C60.out _ HS5.out).mono ?_); rintro e w6 ⟨rfl, hs6, hb6⟩
          have HS6 := Lib.hid hs6
          have HB6 := Lib.hid hb6
          clear hs6 hb6
          refine hK.out _ _ trivial (fun hHeld => ?_)
          clear hK K
          try simp only [Act.put, List.setIfInBounds_toArray, List.set_cons_zero, List.set_cons_succ]
          refine wpG_done (by kernel_rfl) ?_ _
          clear hHeld h01
          have HT6 := Lib.hid (TB.below HT5.out HB6.out)
          have HO6 := Lib.hid ((Only.trans (only_drew HO2.out) HO5.out fun b hb e => e.elim id (fun e => by have := HTG.out; omega)).below HB6.out)
          have HK6 : Hid (FnB kb sb w6) := Lib.hid (Blk.below (Blk.only (Blk.drew1 HK2.out) HO5.out (fun e => e.elim HKS.out HKT.out)) HB6.out (Blk.lt (Blk.only (Blk.drew1 HK2.out) HO5.out (fun e => e.elim HKS.out HKT.out))))
          have HW6 := Lib.hid (own_keeps (own_only (own_keeps HW2.out fun k hk => (rfl : W2.drew.heap[k]? = W2.heap[k]?)) HO5.out HWS.out) fun k hk => HB6.out.block k (own_lt (own_only (own_keeps HW2.out fun k hk => (rfl : W2.drew.heap[k]? = W2.heap[k]?)) HO5.out HWS.out) k hk))
          clear HS5 HT5 HO5 HB6 HS2 HT2 HO2 HK2 HW2 C61 C60
          obtain ⟨J2, hJ2⟩ : ∃ J2 : Int, ((j1 + n : Nat) : Int) = J2 := ⟨_, rfl⟩
          have hsl := run_betw L j1 (j1 + n) (by omega) (by have := HOK.out; have := HLT.out; omega) HN.out
          rw [HST.out, HJJ.out, hJ2, show j1 + n - j1 = n by omega] at hsl
          obtain ⟨Sx, hSx⟩ : ∃ Sx, (⟨((L.drop j1).take n).toArray⟩ : ByteArray) = Sx := ⟨_, rfl⟩
          rw [hSx] at hsl
          have HSL := Lib.hid hsl
          have HSX := Lib.hid hSx
          have HNE := Lib.hid (Sc.ne HS6.out HT6.out)
          have HP6 : Hid ((fun W : World => W.cell? ⟨sb, 0, none⟩ = some (.string St) ∧ W.cell? ⟨sb, 1, none⟩ = some (.int .i64 J2)) w6.drew) := Lib.hid (by
            have h0 := Blk.cell HS6.out 0
            have h1 := Blk.cell HS6.out 1
            simp only [List.getElem?_toArray, List.getElem?_cons_zero, List.getElem?_cons_succ] at h0 h1
            rw [HST.out] at h0
            rw [hJ2] at h1
            exact ⟨h0, h1⟩)
          have HP7 : Hid (∀ x, (fun W : World => W.cell? ⟨sb, 0, none⟩ = some (.string St) ∧ W.cell? ⟨sb, 1, none⟩ = some (.int .i64 J2)) ((w6.setCell ⟨tb, 1, none⟩ x).drew)) := Lib.hid (fun x => by
            have hs := HS6.out.far HNE.out 1 x
            have h0 := Blk.cell hs 0
            have h1 := Blk.cell hs 1
            simp only [List.getElem?_toArray, List.getElem?_cons_zero, List.getElem?_cons_succ] at h0 h1
            rw [HST.out] at h0
            rw [hJ2] at h1
            exact ⟨h0, h1⟩)
          clear hsl hSx hJ2
          go_upto_region 6 with fail
          refine wp_region_G (S0 := (fun W : World => W.cell? ⟨sb, 0, none⟩ = some (.string St) ∧ W.cell? ⟨sb, 1, none⟩ = some (.int .i64 J2))) (S1 := (fun W : World => W.cell? ⟨sb, 0, none⟩ = some (.string St) ∧ W.cell? ⟨sb, 1, none⟩ = some (.int .i64 J2))) (c := 99) (by kernel_rfl) ?_
          have hHeld := HP6.out
          have h01 := (fun (W : World) (h : (fun W : World => W.cell? ⟨sb, 0, none⟩ = some (.string St) ∧ W.cell? ⟨sb, 1, none⟩ = some (.int .i64 J2)) W) => h)
          refine wpG_takeB (i := 0) (oi := ⟨some 47, _, _, _, _, _⟩) (v := .pointer (some ⟨sb, 0, none⟩)) rfl (by kernel_rfl) (by kernel_rfl) (by kernel_rfl) (by decide) (fun _ _ _ h => h) h01 rfl hHeld (Or.inl ⟨by rfl, ?_⟩) ?_
          · (intro W9 hSw; obtain ⟨v1, v2⟩ := hSw; have hsl := HSL.out; go_simp; (try (first | with_reducible rfl | rfl | (simp; done))))
          try simp only [Act.put, List.setIfInBounds_toArray, List.set_cons_zero, List.set_cons_succ]
          refine wpG_takeB (i := 1) (oi := ⟨some 48, _, _, _, _, _⟩) (v := .pointer (some ⟨sb, 0, none⟩)) rfl (by kernel_rfl) (by kernel_rfl) (by kernel_rfl) (by decide) (fun _ _ _ h => h) h01 rfl hHeld (Or.inl ⟨by rfl, ?_⟩) ?_
          · (intro W9 hSw; obtain ⟨v1, v2⟩ := hSw; have hsl := HSL.out; go_simp; (try (first | with_reducible rfl | rfl | (simp; done))))
          try simp only [Act.put, List.setIfInBounds_toArray, List.set_cons_zero, List.set_cons_succ]
          refine wpG_takeB (i := 2) (oi := ⟨some 49, _, _, _, _, _⟩) (v := .pointer (some ⟨sb, 0, none⟩)) rfl (by kernel_rfl) (by kernel_rfl) (by kernel_rfl) (by decide) (fun _ _ _ h => h) h01 rfl hHeld (Or.inl ⟨by rfl, ?_⟩) ?_
          · (intro W9 hSw; obtain ⟨v1, v2⟩ := hSw; have hsl := HSL.out; go_simp; (try (first | with_reducible rfl | rfl | (simp; done))))
          try simp only [Act.put, List.setIfInBounds_toArray, List.set_cons_zero, List.set_cons_succ]
          refine wpG_takeB (i := 3) (oi := ⟨some 50, _, _, _, _, _⟩) (v := .pointer (some ⟨sb, 0, none⟩)) rfl (by kernel_rfl) (by kernel_rfl) (by kernel_rfl) (by decide) (fun _ _ _ h => h) h01 rfl hHeld (Or.inl ⟨by rfl, ?_⟩) ?_
          · (intro W9 hSw; obtain ⟨v1, v2⟩ := hSw; have hsl := HSL.out; go_simp; (try (first | with_reducible rfl | rfl | (simp; done))))
          try simp only [Act.put, List.setIfInBounds_toArray, List.set_cons_zero, List.set_cons_succ]
          refine wpG_takeB (i := 4) (oi := ⟨some 51, _, _, _, _, _⟩) (v := .string St) rfl (by kernel_rfl) (by kernel_rfl) (by kernel_rfl) (by decide) (fun _ _ _ h => h) h01 rfl hHeld (Or.inl ⟨by rfl, ?_⟩) ?_
          · (intro W9 hSw; obtain ⟨v1, v2⟩ := hSw; have hsl := HSL.out; go_simp; (try (first | with_reducible rfl | rfl | (simp; done))))
          try simp only [Act.put, List.setIfInBounds_toArray, List.set_cons_zero, List.set_cons_succ]
          refine wpG_takeB (i := 5) (oi := ⟨some 52, _, _, _, _, _⟩) (v := .int .i64 J) rfl (by kernel_rfl) (by kernel_rfl) (by kernel_rfl) (by decide) (fun _ _ _ h => h) h01 rfl hHeld (Or.inl ⟨by rfl, ?_⟩) ?_
          · (intro W9 hSw; obtain ⟨v1, v2⟩ := hSw; have hsl := HSL.out; go_simp; (try (first | with_reducible rfl | rfl | (simp; done))))
          try simp only [Act.put, List.setIfInBounds_toArray, List.set_cons_zero, List.set_cons_succ]
          refine wpG_takeB (i := 6) (oi := ⟨some 53, _, _, _, _, _⟩) (v := .pointer (some ⟨sb, 0, none⟩)) rfl (by kernel_rfl) (by kernel_rfl) (by kernel_rfl) (by decide) (fun _ _ _ h => h) h01 rfl hHeld (Or.inl ⟨by rfl, ?_⟩) ?_
          · (intro W9 hSw; obtain ⟨v1, v2⟩ := hSw; have hsl := HSL.out; go_simp; (try (first | with_reducible rfl | rfl | (simp; done))))
          try simp only [Act.put, List.setIfInBounds_toArray, List.set_cons_zero, List.set_cons_succ]
          refine wpG_takeB (i := 7) (oi := ⟨some 54, _, _, _, _, _⟩) (v := .pointer (some ⟨sb, 0, none⟩)) rfl (by kernel_rfl) (by kernel_rfl) (by kernel_rfl) (by decide) (fun _ _ _ h => h) h01 rfl hHeld (Or.inl ⟨by rfl, ?_⟩) ?_
          · (intro W9 hSw; obtain ⟨v1, v2⟩ := hSw; have hsl := HSL.out; go_simp; (try (first | with_reducible rfl | rfl | (simp; done))))
          try simp only [Act.put, List.setIfInBounds_toArray, List.set_cons_zero, List.set_cons_succ]
          refine wpG_takeB (i := 8) (oi := ⟨some 55, _, _, _, _, _⟩) (v := .pointer (some ⟨sb, 0, none⟩)) rfl (by kernel_rfl) (by kernel_rfl) (by kernel_rfl) (by decide) (fun _ _ _ h => h) h01 rfl hHeld (Or.inl ⟨by rfl, ?_⟩) ?_
          · (intro W9 hSw; obtain ⟨v1, v2⟩ := hSw; have hsl := HSL.out; go_simp; (try (first | with_reducible rfl | rfl | (simp; done))))
          try simp only [Act.put, List.setIfInBounds_toArray, List.set_cons_zero, List.set_cons_succ]
          refine wpG_takeB (i := 9) (oi := ⟨some 56, _, _, _, _, _⟩) (v := .pointer (some ⟨sb, 1, none⟩)) rfl (by kernel_rfl) (by kernel_rfl) (by kernel_rfl) (by decide) (fun _ _ _ h => h) h01 rfl hHeld (Or.inl ⟨by rfl, ?_⟩) ?_
          · (intro W9 hSw; obtain ⟨v1, v2⟩ := hSw; have hsl := HSL.out; go_simp; (try (first | with_reducible rfl | rfl | (simp; done))))
          try simp only [Act.put, List.setIfInBounds_toArray, List.set_cons_zero, List.set_cons_succ]
          refine wpG_takeB (i := 10) (oi := ⟨some 57, _, _, _, _, _⟩) (v := .int .i64 J2) rfl (by kernel_rfl) (by kernel_rfl) (by kernel_rfl) (by decide) (fun _ _ _ h => h) h01 rfl hHeld (Or.inl ⟨by rfl, ?_⟩) ?_
          · (intro W9 hSw; obtain ⟨v1, v2⟩ := hSw; have hsl := HSL.out; go_simp; (try (first | with_reducible rfl | rfl | (simp; done))))
          try simp only [Act.put, List.setIfInBounds_toArray, List.set_cons_zero, List.set_cons_succ]
          refine wpG_takeB (i := 11) (oi := ⟨some 58, _, _, _, _, _⟩) (v := .string Sx) rfl (by kernel_rfl) (by kernel_rfl) (by kernel_rfl) (by decide) (fun _ _ _ h => h) h01 rfl hHeld (Or.inl ⟨by rfl, ?_⟩) ?_
          · (intro W9 hSw; obtain ⟨v1, v2⟩ := hSw; have hsl := HSL.out; go_simp; (try (first | with_reducible rfl | rfl | (simp; done))))
          try simp only [Act.put, List.setIfInBounds_toArray, List.set_cons_zero, List.set_cons_succ]
          refine wpG_takeB (i := 12) (oi := ⟨some 59, _, _, _, _, _⟩) (v := .pointer (some ⟨tb, 1, none⟩)) rfl (by kernel_rfl) (by kernel_rfl) (by kernel_rfl) (by decide) (fun _ _ _ h => h) h01 rfl hHeld (Or.inl ⟨by rfl, ?_⟩) ?_
          · (intro W9 hSw; obtain ⟨v1, v2⟩ := hSw; have hsl := HSL.out; go_simp; (try (first | with_reducible rfl | rfl | (simp; done))))
          try simp only [Act.put, List.setIfInBounds_toArray, List.set_cons_zero, List.set_cons_succ]
          refine wpG_oneB (i := 13) (o := ⟨none, _, _, _, _, _⟩) (by kernel_rfl) rfl rfl (fun K hK => ?_)
          have kq := Blk.cell HT6.out 1
          simp only [List.getElem?_toArray, List.getElem?_cons_zero, List.getElem?_cons_succ] at kq
          have kz := Blk.frozen HT6.out 1
          go_simp
          clear kq kz
          refine hK.out _ _ (HP7.out _) (fun hHeld => ?_)
          clear hK K
          try simp only [Act.put, List.setIfInBounds_toArray, List.set_cons_zero, List.set_cons_succ]
          refine wpG_done (by kernel_rfl) ?_ _
          clear hHeld h01
          obtain ⟨W7, hW7⟩ : ∃ W7, (w6.setCell ⟨tb, 1, none⟩ (.string Sx)).drew = W7 := ⟨_, rfl⟩
          have HT7 : Hid (TB tb a Sx v ln cl W7) := Lib.hid (hW7 ▸ Blk.drew1 (TB.txt HT6.out Sx))
          have HS7 : Hid (Sc L sb (j1 + n) W7) := Lib.hid (hW7 ▸ (HS6.out.far HNE.out 1 _).drew)
          have HK7 : Hid (FnB kb sb W7) := Lib.hid (hW7 ▸ Blk.drew1 (Blk.far HK6.out HKT.out _))
          have HO7 : Hid (Only (fun k => k = sb) w W7) := Lib.hid (hW7 ▸ only_drew (HO6.out.set (fun hl => absurd hl (by have := HTG.out; omega)) 1 _))
          have HW7 : Hid (W7.ownsRow w.heap.size 32 5 (.slice Ao ds.length no) ds.length (ds.flatMap (TkC L))) := Lib.hid (hW7 ▸ own_keeps (own_setCell HW6.out (a := ⟨tb, 1, none⟩) (fun e => by have := HWT.out tb e; omega) _) fun k hk => rfl)
          rw [hW7]
          clear hW7 HP6 HP7
          obtain ⟨ka, hka⟩ : ∃ ka : Int, (a : Int) = ka := ⟨_, rfl⟩
          by_cases hk3 : a = 3
          · have q0 : (ka == 3) = true := by simp; omega
            have hc0 := Blk.cell HT7.out 0
            have hc1 := Blk.cell HT7.out 1
            simp only [List.getElem?_toArray, List.getElem?_cons_zero, List.getElem?_cons_succ] at hc0 hc1
            rw [hka] at hc0
            have C63 := Lib.hid (trim_any Sx W7 (by rw [← HSX.out, Lib.size_mk, List.length_take, List.length_drop]; have := HN.out; omega))
            have hty : (⟨(Lib.trimB Sx.data.toList 34).toArray⟩ : ByteArray) = ⟨(txtL a (L.drop j1) n).toArray⟩ := by rw [← HT34.out.1 hk3, ← HSX.out]
            rw [hty] at C63
            obtain ⟨Sy, hSy⟩ : ∃ Sy, (⟨(txtL a (L.drop j1) n).toArray⟩ : ByteArray) = Sy := ⟨_, rfl⟩
            rw [hSy] at C63
            have HSY := Lib.hid hSy
            have HKA9 := Lib.hid hka
            clear hk3 hty hSy hka
            go_upto_region 9 with (go_at_call 63; (with_reducible refine C63.out.mono ?_); rintro e w8 ⟨rfl, hw8⟩; have HB8 : Hid (Below W7.heap.size W7 w8) := Lib.hid (by rcases hw8 with rfl | rfl; exact Below.refl _ _; exact below_drew (Below.refl _ _)); have hd1 := Blk.cell (HT7.out.below HB8.out) 1; have hd2 := Blk.frozen (HT7.out.below HB8.out) 1; simp only [List.getElem?_toArray, List.getElem?_cons_zero, List.getElem?_cons_succ] at hd1; clear hw8)
            clear hc0 hc1 hd1 hd2 q0
            obtain ⟨W9, hW9⟩ : ∃ W9, w8.setCell ⟨tb, 1, none⟩ (.string Sy) = W9 := ⟨_, rfl⟩
            have HT9 : Hid (TB tb a Sy v ln cl W9) := Lib.hid (hW9 ▸ TB.txt (HT7.out.below HB8.out) Sy)
            have HS9 : Hid (Sc L sb (j1 + n) W9) := Lib.hid (hW9 ▸ (HS7.out.below HB8.out).far HNE.out 1 _)
            have HK9 : Hid (FnB kb sb W9) := Lib.hid (hW9 ▸ Blk.far (Blk.below HK7.out HB8.out (Blk.lt HK7.out)) HKT.out _)
            have HO9 : Hid (Only (fun k => k = sb) w W9) := Lib.hid (hW9 ▸ (HO7.out.below HB8.out).set (fun hl => absurd hl (by have := HTG.out; omega)) 1 _)
            have HW9 : Hid (W9.ownsRow w.heap.size 32 5 (.slice Ao ds.length no) ds.length (ds.flatMap (TkC L))) := Lib.hid (hW9 ▸ own_setCell (own_keeps HW7.out fun k hk => HB8.out.block k (own_lt HW7.out k hk)) (a := ⟨tb, 1, none⟩) (fun e => by have := HWT.out tb e; omega) _)
            rw [hW9]
            clear hW9
            obtain ⟨m, hm⟩ : ∃ m, ds.length = m := ⟨_, rfl⟩
            have HMM := Lib.hid hm
            have hm1 : m ≤ 1000000 := by have := HDS.out; have := HJ.out; have := HN.out; omega
            obtain ⟨xs, hxs⟩ : ∃ xs, ds.flatMap (TkC L) = xs := ⟨_, rfl⟩
            have HXS := Lib.hid hxs
            rw [hm, hxs] at HW9
            rw [hm]
            have HS5 : Hid (w.heap.size ≤ W9.heap.size) := Lib.hid HO9.out.size
            have d0 := Blk.cell HT9.out 0
            have d1 := Blk.cell HT9.out 1
            have d2 := Blk.cell HT9.out 2
            have d3 := Blk.cell HT9.out 3
            have d4 := Blk.cell HT9.out 4
            simp only [List.getElem?_toArray, List.getElem?_cons_zero, List.getElem?_cons_succ] at d0 d1 d2 d3 d4
            rw [HKA9.out] at d0
            clear hm hxs
            go_wp2_with (at_builtin; go_must (refine wpList_app_sz (base := w.heap.size) (n := m) (m := 1) (xs := xs) (news := [.int .i64 ka, .string Sy, .int .i64 v, .int .i64 ln, .int .i64 cl]) rfl (.tmp 67) (.tmp 69) 24 rfl elT rfl (own_alloc HW9.out) rfl (HoldsS.new _ 5 1 [.int .i64 ka, .string Sy, .int .i64 v, .int .i64 ln, .int .i64 cl] 32 rfl) (by simp [Value.oneCell']) (by unfold maxLen; omega) (by omega) (by have := HS5.out; simp; omega) (by simp) ?_; intro v3 w3 hown hg; refine Hid.out ?_))
            have HON := Only.app hg
            have hnb : ∀ g t cs, Blk W9 g t cs → 32 ≠ t → ¬ (Value.slice Ao m no).ownBlock = some g := fun g t cs hb ht => own_blk HW9.out hb ht
            have HS10 := Lib.hid (Sc.only HS9.out HON (hnb _ _ _ HS9.out (by decide)))
            have HK10 : Hid (FnB kb sb w3) := Lib.hid (Blk.only HK9.out HON (hnb _ _ _ HK9.out (by decide)))
            have HO10 := Lib.hid (Only.trans HO9.out HON fun b hb e => absurd hb (by have := (HW9.out.lt b e).1; omega))
            have HW10 : Hid (w3.ownsRow w.heap.size 32 5 v3 (ds ++ [(⟨a, txtL a (L.drop j1) n, v, j1⟩ : Tk)]).length ((ds ++ [(⟨a, txtL a (L.drop j1) n, v, j1⟩ : Tk)]).flatMap (TkC L))) := Lib.hid (by
              rw [List.length_append, List.length_singleton, HMM.out, List.flatMap_append, HXS.out, List.flatMap_singleton]
              unfold TkC
              rw [HKA9.out, HSY.out, HLN.out, HCLL.out]
              exact hown)
            clear hown hg HON hnb
            refine Lib.hid ?_
            go_wp2_with fail
            go_roundw
            case rel => exact ⟨j1 + n, ds ++ [(⟨a, txtL a (L.drop j1) n, v, j1⟩ : Tk)], Lib.hid (by have := HOK.out; have := HLT.out; omega), Lib.hid (by rw [List.length_append, List.length_singleton]; have := HDS.out; have := HOK.out; have := HJ1.out; omega), HEQ, HS10, HK10, HO10, HW10⟩
            case measure => rw [HS10.out.at, HSj.out.at]; have := HOK.out; have := HLT.out; have := HJ1.out; omega
          · have q0 : (ka == 3) = false := by simp; omega
            have hc0 := Blk.cell HT7.out 0
            simp only [List.getElem?_toArray, List.getElem?_cons_zero] at hc0
            rw [hka] at hc0
            have hty : Sx = ⟨(txtL a (L.drop j1) n).toArray⟩ := by rw [← HT34.out.2 hk3, ← HSX.out]
            have HSY := Lib.hid hty.symm
            have HKA9 := Lib.hid hka
            have HT9 := HT7
            have HS9 := HS7
            have HK9 := HK7
            have HO9 := HO7
            have HW9 := HW7
            clear hk3 hty hka
            go_upto_region 9 with fail
            clear hc0 q0
            obtain ⟨m, hm⟩ : ∃ m, ds.length = m := ⟨_, rfl⟩
            have HMM := Lib.hid hm
            have hm1 : m ≤ 1000000 := by have := HDS.out; have := HJ.out; have := HN.out; omega
            obtain ⟨xs, hxs⟩ : ∃ xs, ds.flatMap (TkC L) = xs := ⟨_, rfl⟩
            have HXS := Lib.hid hxs
            rw [hm, hxs] at HW9
            rw [hm]
            have HS5 : Hid (w.heap.size ≤ W7.heap.size) := Lib.hid HO9.out.size
            have d0 := Blk.cell HT9.out 0
            have d1 := Blk.cell HT9.out 1
            have d2 := Blk.cell HT9.out 2
            have d3 := Blk.cell HT9.out 3
            have d4 := Blk.cell HT9.out 4
            simp only [List.getElem?_toArray, List.getElem?_cons_zero, List.getElem?_cons_succ] at d0 d1 d2 d3 d4
            rw [HKA9.out] at d0
            clear hm hxs
            go_wp2_with (at_builtin; go_must (refine wpList_app_sz (base := w.heap.size) (n := m) (m := 1) (xs := xs) (news := [.int .i64 ka, .string Sx, .int .i64 v, .int .i64 ln, .int .i64 cl]) rfl (.tmp 67) (.tmp 69) 24 rfl elT rfl (own_alloc HW9.out) rfl (HoldsS.new _ 5 1 [.int .i64 ka, .string Sx, .int .i64 v, .int .i64 ln, .int .i64 cl] 32 rfl) (by simp [Value.oneCell']) (by unfold maxLen; omega) (by omega) (by have := HS5.out; simp; omega) (by simp) ?_; intro v3 w3 hown hg; refine Hid.out ?_))
            have HON := Only.app hg
            have hnb : ∀ g t cs, Blk W7 g t cs → 32 ≠ t → ¬ (Value.slice Ao m no).ownBlock = some g := fun g t cs hb ht => own_blk HW9.out hb ht
            have HS10 := Lib.hid (Sc.only HS9.out HON (hnb _ _ _ HS9.out (by decide)))
            have HK10 : Hid (FnB kb sb w3) := Lib.hid (Blk.only HK9.out HON (hnb _ _ _ HK9.out (by decide)))
            have HO10 := Lib.hid (Only.trans HO9.out HON fun b hb e => absurd hb (by have := (HW9.out.lt b e).1; omega))
            have HW10 : Hid (w3.ownsRow w.heap.size 32 5 v3 (ds ++ [(⟨a, txtL a (L.drop j1) n, v, j1⟩ : Tk)]).length ((ds ++ [(⟨a, txtL a (L.drop j1) n, v, j1⟩ : Tk)]).flatMap (TkC L))) := Lib.hid (by
              rw [List.length_append, List.length_singleton, HMM.out, List.flatMap_append, HXS.out, List.flatMap_singleton]
              unfold TkC
              rw [HKA9.out, HSY.out, HLN.out, HCLL.out]
              exact hown)
            clear hown hg HON hnb
            refine Lib.hid ?_
            go_wp2_with fail
            go_roundw
            case rel => exact ⟨j1 + n, ds ++ [(⟨a, txtL a (L.drop j1) n, v, j1⟩ : Tk)], Lib.hid (by have := HOK.out; have := HLT.out; omega), Lib.hid (by rw [List.length_append, List.length_singleton]; have := HDS.out; have := HOK.out; have := HJ1.out; omega), HEQ, HS10, HK10, HO10, HW10⟩
            case measure => rw [HS10.out.at, HSj.out.at]; have := HOK.out; have := HLT.out; have := HJ1.out; omega

end Go.Proofs.YtkihoekldklkhaaDoor
