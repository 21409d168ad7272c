/- The reference's Scan. -/
import Derived.Test.YtkihoekldklkhaaDoorTo
import Derived.Test.YtkihoekldklkhaaDoorTj
namespace Go.Proofs.YtkihoekldklkhaaDoor
open Go.RowKit
set_option linter.unusedVariables false
set_option linter.unusedSimpArgs false

/-- A token of the reference: its cells. -/
def RkC (t : Tk) : List Value := [.int .i64 (t.k : Int), .string ⟨t.t.toArray⟩, .int .i64 t.v, .int .i64 (t.a : Int)]
theorem elR : ElS Tryd.prog 49 56 4 40 := ElS.mk' (z := .agg #[.int .i64 0, .string { data := #[] }, .int .i64 0, .int .i64 0]) Tryd.underlying49 (by kernel_rfl) rfl (by decide)
/-- What the reference's Scan returns. -/
def RScanE (L : List UInt8) (w : World) (e : Ending) (w' : World) : Prop := Below w.heap.size w w' ∧ match (scanL 0 L).2 with
  | none => ∃ A c, e = .returned (.tuple #[.slice A (scanL 0 L).1.length c, .int .i64 (-1), .int .i64 0]) ∧ w'.ownsRow w.heap.size 56 4 (.slice A (scanL 0 L).1.length c) (scanL 0 L).1.length ((scanL 0 L).1.flatMap RkC)
  | some b => e = .returned (.tuple #[.slice none 0 0, .int .i64 (b : Int), .int .i64 (errN L b)])
theorem scanL_skip {L : List UInt8} {j m : Nat} (h : skipL false (L.drop j) = m + skipL false (L.drop (j + m))) : scanL j (L.drop j) = scanL (j + m) (L.drop (j + m)) := by
  have e1 : (L.drop j).drop (skipL false (L.drop j)) = (L.drop (j + m)).drop (skipL false (L.drop (j + m))) := by rw [h, List.drop_drop, List.drop_drop]; congr 1; omega
  have e2 : j + skipL false (L.drop j) = j + m + skipL false (L.drop (j + m)) := by omega
  rw [scanL, scanL, e1, e2]
theorem scanL_step0 {j : Nat} {L : List UInt8} {k : Nat} {v : Int} {n : Nat} (h0 : skipL false (L.drop j) = 0) (hj : j < L.length) (h : tokO (L.drop j) = some (.ok k v n)) :
    scanL j (L.drop j) = (⟨k, txtL k (L.drop j) n, v, j⟩ :: (scanL (j + n) (L.drop (j + n))).1, (scanL (j + n) (L.drop (j + n))).2) := by
  have := scanL_step (j := j) (L := L) (k := k) (v := v) (n := n) (by rw [h0]; exact hj) (by rw [h0]; exact h)
  rw [h0] at this
  exact this
theorem scanL_stop0 {j : Nat} {L : List UInt8} {n : Nat} (h0 : skipL false (L.drop j) = 0) (hj : j < L.length) (h : tokO (L.drop j) = some (.bad n) ∨ tokO (L.drop j) = none ∧ n = 0) : scanL j (L.drop j) = ([], some (j + n)) := by
  have := scanL_stop (j := j) (L := L) (n := n) (by rw [h0]; exact hj) (by rw [h0]; exact h)
  rw [h0] at this
  exact this
theorem sk_blank {L : List UInt8} {j : Nat} (hj : j < L.length) (h : blkI ((L[j]).toNat : Int) = true) : skipL false (L.drop j) = 1 + skipL false (L.drop (j + 1)) := by
  rw [List.drop_eq_getElem_cons hj, skipF_cons, if_pos h]
  omega
theorem sk_zero {L : List UInt8} {j : Nat} (hj : j < L.length) (h : ¬ blkI ((L[j]).toNat : Int) = true) (h2 : ¬ ((L[j]).toNat : Int) = 35) : skipL false (L.drop j) = 0 := by
  rw [List.drop_eq_getElem_cons hj, skipF_cons, if_neg h, if_neg (fun e => h2 (by rw [e]; rfl))]
theorem sk_com {L : List UInt8} {j : Nat} (hj : j < L.length) (h : ((L[j]).toNat : Int) = 35) : headP (isI 35) (L.drop j) = true := by
  rw [headP_in hj, h]
  rfl
theorem txt3 {L : List UInt8} {j n : Nat} (h : 2 ≤ n) : (L.drop (j + 1)).take (j + n - 1 - (j + 1)) = txtL 3 (L.drop j) n := by
  unfold txtL
  rw [if_pos rfl, List.drop_take, List.drop_drop]
  congr 1
  omega
theorem kind_of_wordL {r : List UInt8} {a : Nat} {v : Int} {n : Nat} (h : wordL r = .ok a v n) : a = 1 := by unfold wordL at h; split at h <;> cases h; rfl
theorem val_of_wordL {r : List UInt8} {a : Nat} {v : Int} {n : Nat} (h : wordL r = .ok a v n) : v = 0 := by unfold wordL at h; split at h <;> cases h; rfl
theorem kind_of_quoL {r : List UInt8} {a : Nat} {v : Int} {n : Nat} (h : quoL r = .ok a v n) : a = 3 := by unfold quoL at h; split at h <;> cases h; rfl
theorem val_of_quoL {r : List UInt8} {a : Nat} {v : Int} {n : Nat} (h : quoL r = .ok a v n) : v = 0 := by unfold quoL at h; split at h <;> cases h; rfl
theorem kind_of_numL {r : List UInt8} {a : Nat} {v : Int} {n : Nat} (h : numL r = .ok a v n) : a = 2 := by
  unfold numL at h
  split at h
  · split at h
    · exact (digsL_pos _ _ _ _ _ _ _ _ h).2.2
    · cases h
  · exact (digsL_pos _ _ _ _ _ _ _ _ h).2.2
set_option maxRecDepth 100000 in
set_option maxHeartbeats 2000000 in
theorem rscan_any (L : List UInt8) (w : World) (hn : L.length ≤ 1000000) : Calls Tryd.prog 17 #[.string ⟨L.toArray⟩] w (RScanE L w) := by
  have HN := Lib.hid hn
  have HI := Lib.hid (run_idx L)
  have C37 := Lib.hid (fun (j : Nat) (W : World) (hj : j < L.length) => rword_any L j W (by omega) hn)
  have C39 := Lib.hid (fun (j : Nat) (W : World) (hj : j < L.length) => rnumber_any L j W hj hn)
  have C40 := Lib.hid (fun (j : Nat) (W : World) (hj : j < L.length) => rquoted_any L j W hj hn)
  have hsz := Lib.size_mk L
  obtain ⟨N, hnn⟩ : ∃ N, L.length = N := ⟨_, rfl⟩
  obtain ⟨St, hSt⟩ : ∃ St, (⟨L.toArray⟩ : ByteArray) = St := ⟨_, rfl⟩
  rw [hSt] at HI hsz C37 C39 C40
  rw [hSt]
  rw [hnn] at hsz
  have HNN := Lib.hid hnn
  have HST := Lib.hid hSt
  have hn0 : (N : Int) ≤ 1000000 := by omega
  clear hSt hnn hn
  go_enter Tryd.func17, Tryd.ntmps17
  go_wp2_with fail
  go_loopw [5, 6] (fun ov jv wr => ∃ (j : Nat) (ds : List Tk), Hid (j ≤ L.length) ∧ Hid (ds.length ≤ j) ∧ jv = .int .i64 (j : Int) ∧ Hid (scanL 0 L = (ds ++ (scanL j (L.drop j)).1, (scanL j (L.drop j)).2)) ∧ Hid (wr.ownsRow w.heap.size 56 4 ov ds.length (ds.flatMap RkC)) ∧ Hid (Below w.heap.size w wr)) (fun _ jv _ => N - (intOf jv).toNat)
  case atStart => exact ⟨0, [], Lib.hid (by omega), Lib.hid (by simp), rfl, Lib.hid (by simp), Lib.hid (World.ownsRow_nil _ _ 56 4), Lib.hid (Below.refl _ _)⟩
  case round =>
    obtain ⟨j, ds, HJL, HDS, rfl, HSC, HWN, HBL⟩ := hrel
    obtain ⟨Ao, no, eo, -⟩ := own_formS HWN.out
    subst eo
    obtain ⟨J, hJ⟩ : ∃ J : Int, (j : Int) = J := ⟨_, rfl⟩
    have HJ := Lib.hid hJ
    obtain ⟨m, hm⟩ : ∃ m, ds.length = m := ⟨_, rfl⟩
    have HMM := Lib.hid hm
    have hm1 : m ≤ 1000000 := by have := HDS.out; have := HJL.out; have := HN.out; omega
    obtain ⟨xs, hxs⟩ : ∃ xs, ds.flatMap RkC = xs := ⟨_, rfl⟩
    have HXS := Lib.hid hxs
    rw [hm, hxs] at HWN
    by_cases hlt : j < L.length
    · have hidx := HI.out j hlt
      have HLT := Lib.hid hlt
      have hskb := sk_blank hlt
      have hskz := sk_zero hlt
      have hskc := sk_com hlt
      have hp : ∀ y : Int, headP (isI y) (L.drop j) = (((L[j]).toNat : Int) == y) := fun y => headP_in hlt
      have hl0 := headP_in (p := ltrI) hlt
      have hd0 := headP_in (p := digI) hlt
      have hs0 := headP_in (p := symI) hlt
      have C36 := fun W => Lib.hid (rletter_any ((L[j]).toNat : Int) W (u8r _).1 (u8r _).2)
      have C38 := fun W => Lib.hid (rdigit_any ((L[j]).toNat : Int) W (u8r _).1 (u8r _).2)
      have C41 := fun W => Lib.hid (among_any ((L[j]).toNat : Int) W)
      generalize hu0 : ((L[j]).toNat : Int) = u at *
      rw [hJ] at hidx ⊢
      have q0 : decide (J < (N : Int)) = true := by have := HNN.out; simp; omega
      have hJb : 0 ≤ J ∧ J < 1000000 := by have := HNN.out; omega
      obtain ⟨jb0, jb1⟩ := hJb
      by_cases hb : blkI u = true
      · have HNX := Lib.hid (show scanL 0 L = (ds ++ (scanL (j + 1) (L.drop (j + 1))).1, (scanL (j + 1) (L.drop (j + 1))).2) by rw [HSC.out, scanL_skip (m := 1) (hskb hb)])
        have hb4 : u = 32 ∨ u = 9 ∨ u = 10 ∨ u = 13 := by unfold blkI at hb; simp at hb; omega
        rw [← hxs, ← hm] at HWN
        clear hskb hskz hskc hp hl0 hd0 hs0 C36 C38 C41 hb hlt hm hxs hu0 hJ
        rcases hb4 with rfl | rfl | rfl | rfl <;>
        · go_wp2_with fail
          go_roundw
          case rel => exact ⟨j + 1, ds, Lib.hid (by have := HLT.out; omega), Lib.hid (by have := HDS.out; omega), by have := HJ.out; go_num, HNX, HWN, HBL⟩
          case measure => have := HJ.out; have := HLT.out; have := HNN.out; simp [intOf]; omega
      · have hnb : ¬ u = 32 ∧ ¬ u = 9 ∧ ¬ u = 10 ∧ ¬ u = 13 := by unfold blkI at hb; simp at hb; omega
        have qb1 : (u == 32) = false := by simp; omega
        have qb2 : (u == 9) = false := by simp; omega
        have qb3 : (u == 10) = false := by simp; omega
        have qb4 : (u == 13) = false := by simp; omega
        by_cases hc : u = 35
        · have qc : (u == 35) = true := by simp; omega
          obtain ⟨hc1, hc2⟩ := skip_com (hskc hc)
          obtain ⟨M, hMm⟩ : ∃ M, cntL notNl (L.drop j) = M := ⟨_, rfl⟩
          rw [hMm] at hc1 hc2
          rw [List.drop_drop] at hc1
          have HM2 := Lib.hid hMm
          have HM3 := Lib.hid hc2
          have HNX := Lib.hid (show scanL 0 L = (ds ++ (scanL (j + M) (L.drop (j + M))).1, (scanL (j + M) (L.drop (j + M))).2) by rw [HSC.out, scanL_skip hc1])
          rw [← hxs, ← hm] at HWN
          clear hskb hskz hskc hp hl0 hd0 hs0 C36 C38 C41 hb hnb hlt hm hxs hu0 hJ hMm hc1 hc2
          go_wp2_with fail
          go_loopw [6] (fun kv wx => ∃ k : Nat, Hid (j + k ≤ N) ∧ kv = .int .i64 ((j + k : Nat) : Int) ∧ Hid (k + cntL notNl (L.drop (j + k)) = M) ∧ wx = wr) (fun kv _ => N + 1 - (intOf kv).toNat)
          case atStart => exact ⟨0, Lib.hid (by have := HLT.out; have := HNN.out; omega), by have := HJ.out; go_num, Lib.hid (by have := HM2.out; rw [Nat.add_zero]; omega), rfl⟩
          case round =>
            obtain ⟨k, HK, rfl, HKM, rfl⟩ := hrel
            obtain ⟨K, hK9⟩ : ∃ K : Int, ((j + k : Nat) : Int) = K := ⟨_, rfl⟩
            have HKK := Lib.hid hK9
            by_cases hlt2 : j + k < L.length
            · have hi2 := HI.out (j + k) hlt2
              have hcn := cntL_cons notNl L[j + k] (L.drop (j + k + 1))
              rw [← List.drop_eq_getElem_cons hlt2] at hcn
              generalize ((L[j + k]).toNat : Int) = u2 at *
              rw [hK9] at hi2 ⊢
              have q50 : decide (K < (N : Int)) = true := by have := HNN.out; simp; omega
              have hKb : 0 ≤ K ∧ K < 1000000 := by have := HNN.out; omega
              obtain ⟨kb0, kb1⟩ := hKb
              by_cases h10 : u2 = 10
              · have q51 : (u2 != 10) = false := by simp [h10]
                have HE : Hid (k = M) := Lib.hid (by have h5 := HKM.out; rw [hcn, h10, if_neg (by decide)] at h5; omega)
                clear hcn hlt2 hK9 h10
                go_wp2_with fail
                go_roundw
                case rel => exact ⟨j + M, ds, Lib.hid (by have := HE.out; have := HK.out; have := HNN.out; omega), Lib.hid (by have := HDS.out; omega), by have := HKK.out; have := HE.out; go_num, HNX, HWN, HBL⟩
                case measure => have := HKK.out; have := HE.out; have := HM3.out; have := HJ.out; have := HLT.out; have := HNN.out; simp [intOf]; omega
              · have q51 : (u2 != 10) = true := by simp [h10]
                have HNX2 : Hid (k + 1 + cntL notNl (L.drop (j + (k + 1))) = M) := Lib.hid (by
                  have h5 := HKM.out
                  have h6 : notNl u2 = true := by unfold notNl; simp [h10]
                  rw [hcn, if_pos h6, show j + k + 1 = j + (k + 1) by omega] at h5
                  omega)
                have HL2 := Lib.hid hlt2
                clear hcn hlt2 hK9 h10
                go_wp2_with fail
                go_roundw
                case rel => exact ⟨k + 1, Lib.hid (by have := HL2.out; have := HNN.out; omega), by have := HKK.out; go_num, HNX2, by first | trivial | rfl⟩
                case measure => have := HKK.out; have := HL2.out; have := HNN.out; simp [intOf]; omega
            · have hj2 : j + k = N := by have := HNN.out; have := HK.out; omega
              have hd9 : L.drop (j + k) = [] := List.drop_eq_nil_of_le (by omega)
              have HE : Hid (k = M) := Lib.hid (by have h5 := HKM.out; rw [hd9] at h5; have h6 : k + 0 = M := h5; omega)
              rw [hK9]
              have q50 : decide (K < (N : Int)) = false := by have := HNN.out; simp; omega
              have HJ2 := Lib.hid hj2
              clear hlt2 hK9 hd9 hj2
              go_wp2_with fail
              go_roundw
              case rel => exact ⟨j + M, ds, Lib.hid (by have := HE.out; have := HK.out; have := HNN.out; omega), Lib.hid (by have := HDS.out; omega), by have := HKK.out; have := HE.out; go_num, HNX, HWN, HBL⟩
              case measure => have := HKK.out; have := HE.out; have := HM3.out; have := HJ.out; have := HLT.out; have := HNN.out; simp [intOf]; omega
        · have qc : (u == 35) = false := by simp; omega
          have HS0 := Lib.hid (hskz hb hc)
          rw [hm]
          clear hskb hskz hskc hb hnb hc hlt hm hxs hJ hu0
          cases hlu : ltrI u with
          | true =>
            have hl : headP ltrI (L.drop j) = true := by rw [hl0, hlu]
            have C36 := C36 (wr.alloc (.cells #[.int .i64 0, .string ⟨#[]⟩, .int .i64 0, .int .i64 J] 56))
            rw [hlu] at C36
            clear C38 C41 hd0 hs0 hl0 hp hlu
            have hTO : tokO (L.drop j) = some (wordL (L.drop j)) := by unfold tokO kO; rw [hl]; rfl
            have C37 := Lib.hid (C37.out j (wr.alloc (.cells #[.int .i64 0, .string ⟨#[]⟩, .int .i64 0, .int .i64 J] 56)) HLT.out)
            cases hw : wordL (L.drop j) with
            | bad n =>
              rw [hw] at C37 hTO
              have HEQ := Lib.hid (show scanL 0 L = (ds, some (j + n)) by rw [HSC.out, scanL_stop0 HS0.out HLT.out (.inl hTO)]; simp)
              obtain ⟨E, hE⟩ : ∃ E : Int, ((j + n : Nat) : Int) = E := ⟨_, rfl⟩
              simp only [RefR] at C37
              rw [hE, HJ.out] at C37
              have HE := Lib.hid hE
              clear hTO hw hE
              have q90 : decide (0 ≤ E) = true := by have := HE.out; simp; omega
              by_cases hend : j + n = N
              · have q91 : (E == (N : Int)) = true := by have := HE.out; simp; omega
                have HER := Lib.hid (show errN L (j + n) = 4 by unfold errN; rw [if_pos (by rw [hend, HNN.out])])
                clear hend
                go_wp2_with (first | (go_at_call 36; (with_reducible refine C36.out.mono ?_); rintro e w1 ⟨rfl, hw1⟩; rw [hw1]; clear hw1) | (go_at_call 37; (with_reducible refine C37.out.mono ?_); rintro e w1 ⟨rfl, hw1⟩; rw [hw1]; clear hw1))
                go_ret3
                refine ⟨HBL.out.alloc HBL.out.size _, ?_⟩
                rw [HEQ.out]
                simp only
                rw [HER.out, HE.out]
                rfl
              · have q91 : (E == (N : Int)) = false := by have := HE.out; simp; omega
                have HER := Lib.hid (show errN L (j + n) = 6 by unfold errN; rw [if_neg (by rw [HNN.out]; exact hend)])
                clear hend
                go_wp2_with (first | (go_at_call 36; (with_reducible refine C36.out.mono ?_); rintro e w1 ⟨rfl, hw1⟩; rw [hw1]; clear hw1) | (go_at_call 37; (with_reducible refine C37.out.mono ?_); rintro e w1 ⟨rfl, hw1⟩; rw [hw1]; clear hw1))
                go_ret3
                refine ⟨HBL.out.alloc HBL.out.size _, ?_⟩
                rw [HEQ.out]
                simp only
                rw [HER.out, HE.out]
                rfl
            | ok a v n =>
              rw [hw] at C37 hTO
              have hok := tokL_ok (r := L.drop j) (k := a) (v := v) (n := n) (by rw [tokO_eq, hTO])
              rw [List.length_drop] at hok
              obtain rfl : a = 1 := by have := kind_of_wordL hw; omega
              obtain rfl : v = 0 := val_of_wordL hw
              have HN1 := Lib.hid hok.1
              have HNL := Lib.hid (show j + n ≤ L.length by have := HLT.out; omega)
              skip
              have HEQ := Lib.hid (show scanL 0 L = ((ds ++ [(⟨1, txtL 1 (L.drop j) n, 0, j⟩ : Tk)]) ++ (scanL (j + n) (L.drop (j + n))).1, (scanL (j + n) (L.drop (j + n))).2) by rw [HSC.out, scanL_step0 HS0.out HLT.out hTO]; simp)
              obtain ⟨E, hE⟩ : ∃ E : Int, ((j + n : Nat) : Int) = E := ⟨_, rfl⟩
              simp only [RefR] at C37
              rw [hE, HJ.out] at C37
              have HE := Lib.hid hE
              clear hTO hw hE hok
              have q91 : ((-1 : Int) == (N : Int)) = false := by first | (simp; done) | (simp; omega)
              have hs1 := run_betw L j (j + n) (by omega) HNL.out HN.out
              rw [HST.out, HJ.out, HE.out, show j + n - j = n by omega] at hs1
              obtain ⟨Sx, hSx⟩ : ∃ Sx, (⟨((L.drop j).take n).toArray⟩ : ByteArray) = Sx := ⟨_, rfl⟩
              rw [hSx] at hs1
              skip
              have HSX : Hid ((⟨(txtL 1 (L.drop j) n).toArray⟩ : ByteArray) = Sx) := Lib.hid hSx
              have hEb : 0 ≤ E ∧ E ≤ 1000000 := by have := HE.out; have := HNL.out; have := HN.out; omega
              obtain ⟨eb0, eb1⟩ := hEb
              clear hSx
              go_wp2_with (first | (at_builtin; go_must (refine wpList_app_sz (base := w.heap.size) (n := m) (m := 1) (xs := xs) (news := [.int .i64 1, .string Sx, .int .i64 0, .int .i64 J]) rfl (.tmp 134) (.tmp 136) 49 rfl elR rfl (own_alloc (own_alloc HWN.out)) rfl (by have h9 := HoldsS.new (wr.alloc (.cells #[.int .i64 1, .string Sx, .int .i64 0, .int .i64 J] 56)) 4 1 [.int .i64 1, .string Sx, .int .i64 0, .int .i64 J] 56 rfl; rw [World.size_alloc] at h9; exact h9) (by simp [Value.oneCell']) (by unfold maxLen; omega) (by omega) (by have := HBL.out.size; simp; omega) (by simp) ?_; intro v3 w3 hown hg; refine Hid.out ?_)) | (go_at_call 36; (with_reducible refine C36.out.mono ?_); rintro e w1 ⟨rfl, hw1⟩; rw [hw1]; clear hw1) | (go_at_call 37; (with_reducible refine C37.out.mono ?_); rintro e w1 ⟨rfl, hw1⟩; rw [hw1]; clear hw1))
              have HB3 := Lib.hid (below_own ((HBL.out.alloc HBL.out.size _).alloc (by have := HBL.out.size; simp; omega) _) (by have := HBL.out.size; simp; omega) (own_alloc (own_alloc HWN.out)) hg)
              have HW3 : Hid (w3.ownsRow w.heap.size 56 4 v3 (ds ++ [(⟨1, txtL 1 (L.drop j) n, 0, j⟩ : Tk)]).length ((ds ++ [(⟨1, txtL 1 (L.drop j) n, 0, j⟩ : Tk)]).flatMap RkC)) := Lib.hid (by
                rw [List.length_append, List.length_singleton, HMM.out, List.flatMap_append, HXS.out, List.flatMap_singleton]
                unfold RkC
                rw [HSX.out, HJ.out]
                exact hown)
              clear hown hg
              refine Lib.hid ?_
              go_wp2_with fail
              go_roundw
              case rel => exact ⟨j + n, ds ++ [(⟨1, txtL 1 (L.drop j) n, 0, j⟩ : Tk)], Lib.hid HNL.out, Lib.hid (by rw [List.length_append, List.length_singleton]; have := HDS.out; have := HN1.out; omega), by have := HE.out; go_num, HEQ, HW3, HB3⟩
              case measure => have := HE.out; have := HJ.out; have := HN1.out; have := HNL.out; have := HLT.out; have := HNN.out; simp [intOf]; omega
          | false =>
            have hl : headP ltrI (L.drop j) = false := by rw [hl0, hlu]
            have C36 := C36 (wr.alloc (.cells #[.int .i64 0, .string ⟨#[]⟩, .int .i64 0, .int .i64 J] 56))
            rw [hlu] at C36
            cases hdu : digI u with
            | true =>
              have hd : headP digI (L.drop j) = true := by rw [hd0, hdu]
              have C38 := C38 (wr.alloc (.cells #[.int .i64 0, .string ⟨#[]⟩, .int .i64 0, .int .i64 J] 56))
              rw [hdu] at C38
              clear C41 hs0 hl0 hp hlu hdu hd0
              have hTO : tokO (L.drop j) = some (numL (L.drop j)) := by unfold tokO kO; rw [hl, hd]; rfl
              have C39 := Lib.hid (C39.out j (wr.alloc (.cells #[.int .i64 0, .string ⟨#[]⟩, .int .i64 0, .int .i64 J] 56)) HLT.out)
              cases hw : numL (L.drop j) with
              | bad n =>
                rw [hw] at C39 hTO
                have HEQ := Lib.hid (show scanL 0 L = (ds, some (j + n)) by rw [HSC.out, scanL_stop0 HS0.out HLT.out (.inl hTO)]; simp)
                obtain ⟨E, hE⟩ : ∃ E : Int, ((j + n : Nat) : Int) = E := ⟨_, rfl⟩
                simp only [RefN] at C39
                rw [hE, HJ.out] at C39
                have HE := Lib.hid hE
                clear hTO hw hE
                have q90 : decide (0 ≤ E) = true := by have := HE.out; simp; omega
                by_cases hend : j + n = N
                · have q91 : (E == (N : Int)) = true := by have := HE.out; simp; omega
                  have HER := Lib.hid (show errN L (j + n) = 4 by unfold errN; rw [if_pos (by rw [hend, HNN.out])])
                  clear hend
                  go_wp2_with (first | (go_at_call 36; (with_reducible refine C36.out.mono ?_); rintro e w1 ⟨rfl, hw1⟩; rw [hw1]; clear hw1) | (go_at_call 38; (with_reducible refine C38.out.mono ?_); rintro e w1 ⟨rfl, hw1⟩; rw [hw1]; clear hw1) | (go_at_call 39; (with_reducible refine C39.out.mono ?_); rintro e w1 ⟨rfl, hw1⟩; rw [hw1]; clear hw1))
                  go_ret3
                  refine ⟨HBL.out.alloc HBL.out.size _, ?_⟩
                  rw [HEQ.out]
                  simp only
                  rw [HER.out, HE.out]
                  rfl
                · have q91 : (E == (N : Int)) = false := by have := HE.out; simp; omega
                  have HER := Lib.hid (show errN L (j + n) = 6 by unfold errN; rw [if_neg (by rw [HNN.out]; exact hend)])
                  clear hend
                  go_wp2_with (first | (go_at_call 36; (with_reducible refine C36.out.mono ?_); rintro e w1 ⟨rfl, hw1⟩; rw [hw1]; clear hw1) | (go_at_call 38; (with_reducible refine C38.out.mono ?_); rintro e w1 ⟨rfl, hw1⟩; rw [hw1]; clear hw1) | (go_at_call 39; (with_reducible refine C39.out.mono ?_); rintro e w1 ⟨rfl, hw1⟩; rw [hw1]; clear hw1))
                  go_ret3
                  refine ⟨HBL.out.alloc HBL.out.size _, ?_⟩
                  rw [HEQ.out]
                  simp only
                  rw [HER.out, HE.out]
                  rfl
              | ok a v n =>
                rw [hw] at C39 hTO
                have hok := tokL_ok (r := L.drop j) (k := a) (v := v) (n := n) (by rw [tokO_eq, hTO])
                rw [List.length_drop] at hok
                obtain rfl : a = 2 := by have := kind_of_numL hw; omega
                skip
                have HN1 := Lib.hid hok.1
                have HNL := Lib.hid (show j + n ≤ L.length by have := HLT.out; omega)
                skip
                have HEQ := Lib.hid (show scanL 0 L = ((ds ++ [(⟨2, txtL 2 (L.drop j) n, v, j⟩ : Tk)]) ++ (scanL (j + n) (L.drop (j + n))).1, (scanL (j + n) (L.drop (j + n))).2) by rw [HSC.out, scanL_step0 HS0.out HLT.out hTO]; simp)
                obtain ⟨E, hE⟩ : ∃ E : Int, ((j + n : Nat) : Int) = E := ⟨_, rfl⟩
                simp only [RefN] at C39
                rw [hE, HJ.out] at C39
                have HE := Lib.hid hE
                clear hTO hw hE hok
                have q91 : ((-1 : Int) == (N : Int)) = false := by first | (simp; done) | (simp; omega)
                have hs1 := run_betw L j (j + n) (by omega) HNL.out HN.out
                rw [HST.out, HJ.out, HE.out, show j + n - j = n by omega] at hs1
                obtain ⟨Sx, hSx⟩ : ∃ Sx, (⟨((L.drop j).take n).toArray⟩ : ByteArray) = Sx := ⟨_, rfl⟩
                rw [hSx] at hs1
                skip
                have HSX : Hid ((⟨(txtL 2 (L.drop j) n).toArray⟩ : ByteArray) = Sx) := Lib.hid hSx
                have hEb : 0 ≤ E ∧ E ≤ 1000000 := by have := HE.out; have := HNL.out; have := HN.out; omega
                obtain ⟨eb0, eb1⟩ := hEb
                clear hSx
                go_wp2_with (first | (at_builtin; go_must (refine wpList_app_sz (base := w.heap.size) (n := m) (m := 1) (xs := xs) (news := [.int .i64 2, .string Sx, .int .i64 v, .int .i64 J]) rfl (.tmp 134) (.tmp 136) 49 rfl elR rfl (own_alloc (own_alloc HWN.out)) rfl (by have h9 := HoldsS.new (wr.alloc (.cells #[.int .i64 2, .string Sx, .int .i64 v, .int .i64 J] 56)) 4 1 [.int .i64 2, .string Sx, .int .i64 v, .int .i64 J] 56 rfl; rw [World.size_alloc] at h9; exact h9) (by simp [Value.oneCell']) (by unfold maxLen; omega) (by omega) (by have := HBL.out.size; simp; omega) (by simp) ?_; intro v3 w3 hown hg; refine Hid.out ?_)) | (go_at_call 36; (with_reducible refine C36.out.mono ?_); rintro e w1 ⟨rfl, hw1⟩; rw [hw1]; clear hw1) | (go_at_call 38; (with_reducible refine C38.out.mono ?_); rintro e w1 ⟨rfl, hw1⟩; rw [hw1]; clear hw1) | (go_at_call 39; (with_reducible refine C39.out.mono ?_); rintro e w1 ⟨rfl, hw1⟩; rw [hw1]; clear hw1))
                have HB3 := Lib.hid (below_own ((HBL.out.alloc HBL.out.size _).alloc (by have := HBL.out.size; simp; omega) _) (by have := HBL.out.size; simp; omega) (own_alloc (own_alloc HWN.out)) hg)
                have HW3 : Hid (w3.ownsRow w.heap.size 56 4 v3 (ds ++ [(⟨2, txtL 2 (L.drop j) n, v, j⟩ : Tk)]).length ((ds ++ [(⟨2, txtL 2 (L.drop j) n, v, j⟩ : Tk)]).flatMap RkC)) := Lib.hid (by
                  rw [List.length_append, List.length_singleton, HMM.out, List.flatMap_append, HXS.out, List.flatMap_singleton]
                  unfold RkC
                  rw [HSX.out, HJ.out]
                  exact hown)
                clear hown hg
                refine Lib.hid ?_
                go_wp2_with fail
                go_roundw
                case rel => exact ⟨j + n, ds ++ [(⟨2, txtL 2 (L.drop j) n, v, j⟩ : Tk)], Lib.hid HNL.out, Lib.hid (by rw [List.length_append, List.length_singleton]; have := HDS.out; have := HN1.out; omega), by have := HE.out; go_num, HEQ, HW3, HB3⟩
                case measure => have := HE.out; have := HJ.out; have := HN1.out; have := HNL.out; have := HLT.out; have := HNN.out; simp [intOf]; omega
            | false =>
              have hd : headP digI (L.drop j) = false := by rw [hd0, hdu]
              have C38 := C38 (wr.alloc (.cells #[.int .i64 0, .string ⟨#[]⟩, .int .i64 0, .int .i64 J] 56))
              rw [hdu] at C38
              cases hqu : (u == 34) with
              | true =>
                have hq : headP (isI 34) (L.drop j) = true := by rw [hp, hqu]
                clear C41 hs0 hl0 hp hlu hdu hd0
                have hTO : tokO (L.drop j) = some (quoL (L.drop j)) := by unfold tokO kO; rw [hl, hd, hq]; rfl
                have C40 := Lib.hid (C40.out j (wr.alloc (.cells #[.int .i64 0, .string ⟨#[]⟩, .int .i64 0, .int .i64 J] 56)) HLT.out)
                cases hw : quoL (L.drop j) with
                | bad n =>
                  rw [hw] at C40 hTO
                  have HEQ := Lib.hid (show scanL 0 L = (ds, some (j + n)) by rw [HSC.out, scanL_stop0 HS0.out HLT.out (.inl hTO)]; simp)
                  obtain ⟨E, hE⟩ : ∃ E : Int, ((j + n : Nat) : Int) = E := ⟨_, rfl⟩
                  simp only [RefR] at C40
                  rw [hE, HJ.out] at C40
                  have HE := Lib.hid hE
                  clear hTO hw hE
                  have q90 : decide (0 ≤ E) = true := by have := HE.out; simp; omega
                  by_cases hend : j + n = N
                  · have q91 : (E == (N : Int)) = true := by have := HE.out; simp; omega
                    have HER := Lib.hid (show errN L (j + n) = 4 by unfold errN; rw [if_pos (by rw [hend, HNN.out])])
                    clear hend
                    go_wp2_with (first | (go_at_call 36; (with_reducible refine C36.out.mono ?_); rintro e w1 ⟨rfl, hw1⟩; rw [hw1]; clear hw1) | (go_at_call 38; (with_reducible refine C38.out.mono ?_); rintro e w1 ⟨rfl, hw1⟩; rw [hw1]; clear hw1) | (go_at_call 40; (with_reducible refine C40.out.mono ?_); rintro e w1 ⟨rfl, hw1⟩; rw [hw1]; clear hw1))
                    go_ret3
                    refine ⟨HBL.out.alloc HBL.out.size _, ?_⟩
                    rw [HEQ.out]
                    simp only
                    rw [HER.out, HE.out]
                    rfl
                  · have q91 : (E == (N : Int)) = false := by have := HE.out; simp; omega
                    have HER := Lib.hid (show errN L (j + n) = 6 by unfold errN; rw [if_neg (by rw [HNN.out]; exact hend)])
                    clear hend
                    go_wp2_with (first | (go_at_call 36; (with_reducible refine C36.out.mono ?_); rintro e w1 ⟨rfl, hw1⟩; rw [hw1]; clear hw1) | (go_at_call 38; (with_reducible refine C38.out.mono ?_); rintro e w1 ⟨rfl, hw1⟩; rw [hw1]; clear hw1) | (go_at_call 40; (with_reducible refine C40.out.mono ?_); rintro e w1 ⟨rfl, hw1⟩; rw [hw1]; clear hw1))
                    go_ret3
                    refine ⟨HBL.out.alloc HBL.out.size _, ?_⟩
                    rw [HEQ.out]
                    simp only
                    rw [HER.out, HE.out]
                    rfl
                | ok a v n =>
                  rw [hw] at C40 hTO
                  have hok := tokL_ok (r := L.drop j) (k := a) (v := v) (n := n) (by rw [tokO_eq, hTO])
                  rw [List.length_drop] at hok
                  obtain rfl : a = 3 := by have := kind_of_quoL hw; omega
                  obtain rfl : v = 0 := val_of_quoL hw
                  have HN1 := Lib.hid hok.1
                  have HNL := Lib.hid (show j + n ≤ L.length by have := HLT.out; omega)
                  have HN2 := Lib.hid (hok.2.2.2.2 rfl)
                  have HEQ := Lib.hid (show scanL 0 L = ((ds ++ [(⟨3, txtL 3 (L.drop j) n, 0, j⟩ : Tk)]) ++ (scanL (j + n) (L.drop (j + n))).1, (scanL (j + n) (L.drop (j + n))).2) by rw [HSC.out, scanL_step0 HS0.out HLT.out hTO]; simp)
                  obtain ⟨E, hE⟩ : ∃ E : Int, ((j + n : Nat) : Int) = E := ⟨_, rfl⟩
                  simp only [RefR] at C40
                  rw [hE, HJ.out] at C40
                  have HE := Lib.hid hE
                  clear hTO hw hE hok
                  have q91 : ((-1 : Int) == (N : Int)) = false := by first | (simp; done) | (simp; omega)
                  have hs1 := run_betw L j (j + n) (by omega) HNL.out HN.out
                  rw [HST.out, HJ.out, HE.out, show j + n - j = n by omega] at hs1
                  have hs2 := run_betw L (j + 1) (j + n - 1) (by have := HN2.out; omega) (by have := HNL.out; omega) HN.out
                  rw [HST.out, show ((j + 1 : Nat) : Int) = J + 1 by have := HJ.out; omega, show ((j + n - 1 : Nat) : Int) = E - 1 by have := HE.out; have := HN2.out; omega, txt3 HN2.out] at hs2
                  obtain ⟨Sx, hSx⟩ : ∃ Sx, (⟨(txtL 3 (L.drop j) n).toArray⟩ : ByteArray) = Sx := ⟨_, rfl⟩
                  rw [hSx] at hs2
                  generalize (⟨((L.drop j).take n).toArray⟩ : ByteArray) = S0 at hs1
                  have HSX : Hid ((⟨(txtL 3 (L.drop j) n).toArray⟩ : ByteArray) = Sx) := Lib.hid hSx
                  have hEb : 0 ≤ E ∧ E ≤ 1000000 := by have := HE.out; have := HNL.out; have := HN.out; omega
                  obtain ⟨eb0, eb1⟩ := hEb
                  clear hSx
                  go_wp2_with (first | (at_builtin; go_must (refine wpList_app_sz (base := w.heap.size) (n := m) (m := 1) (xs := xs) (news := [.int .i64 3, .string Sx, .int .i64 0, .int .i64 J]) rfl (.tmp 134) (.tmp 136) 49 rfl elR rfl (own_alloc (own_alloc HWN.out)) rfl (by have h9 := HoldsS.new (wr.alloc (.cells #[.int .i64 3, .string Sx, .int .i64 0, .int .i64 J] 56)) 4 1 [.int .i64 3, .string Sx, .int .i64 0, .int .i64 J] 56 rfl; rw [World.size_alloc] at h9; exact h9) (by simp [Value.oneCell']) (by unfold maxLen; omega) (by omega) (by have := HBL.out.size; simp; omega) (by simp) ?_; intro v3 w3 hown hg; refine Hid.out ?_)) | (go_at_call 36; (with_reducible refine C36.out.mono ?_); rintro e w1 ⟨rfl, hw1⟩; rw [hw1]; clear hw1) | (go_at_call 38; (with_reducible refine C38.out.mono ?_); rintro e w1 ⟨rfl, hw1⟩; rw [hw1]; clear hw1) | (go_at_call 40; (with_reducible refine C40.out.mono ?_); rintro e w1 ⟨rfl, hw1⟩; rw [hw1]; clear hw1))
                  have HB3 := Lib.hid (below_own ((HBL.out.alloc HBL.out.size _).alloc (by have := HBL.out.size; simp; omega) _) (by have := HBL.out.size; simp; omega) (own_alloc (own_alloc HWN.out)) hg)
                  have HW3 : Hid (w3.ownsRow w.heap.size 56 4 v3 (ds ++ [(⟨3, txtL 3 (L.drop j) n, 0, j⟩ : Tk)]).length ((ds ++ [(⟨3, txtL 3 (L.drop j) n, 0, j⟩ : Tk)]).flatMap RkC)) := Lib.hid (by
                    rw [List.length_append, List.length_singleton, HMM.out, List.flatMap_append, HXS.out, List.flatMap_singleton]
                    unfold RkC
                    rw [HSX.out, HJ.out]
                    exact hown)
                  clear hown hg
                  refine Lib.hid ?_
                  go_wp2_with fail
                  go_roundw
                  case rel => exact ⟨j + n, ds ++ [(⟨3, txtL 3 (L.drop j) n, 0, j⟩ : Tk)], Lib.hid HNL.out, Lib.hid (by rw [List.length_append, List.length_singleton]; have := HDS.out; have := HN1.out; omega), by have := HE.out; go_num, HEQ, HW3, HB3⟩
                  case measure => have := HE.out; have := HJ.out; have := HN1.out; have := HNL.out; have := HLT.out; have := HNN.out; simp [intOf]; omega
              | false =>
                have hq : headP (isI 34) (L.drop j) = false := by rw [hp, hqu]
                have C41 := C41 (wr.alloc (.cells #[.int .i64 0, .string ⟨#[]⟩, .int .i64 0, .int .i64 J] 56))
                cases hsu : symI u with
                | true =>
                  have hs : headP symI (L.drop j) = true := by rw [hs0, hsu]
                  rw [hsu] at C41
                  clear hs0 hl0 hlu hdu hd0 hsu
                  by_cases hj2 : j + 1 < L.length
                  · have hi2 := HI.out (j + 1) hj2
                    have hx2 : ∀ y : Int, headP (isI y) ((L.drop j).drop 1) = (((L[j + 1]).toNat : Int) == y) := fun y => by rw [List.drop_drop]; exact headP_in hj2
                    generalize ((L[j + 1]).toNat : Int) = u2 at *
                    have q80 : decide (J + 1 < (N : Int)) = true := by have := HJ.out; have := HNN.out; simp; omega
                    rw [show ((j + 1 : Nat) : Int) = J + 1 by have := HJ.out; omega] at hi2
                    have ht2 : twoL (L.drop j) = ((u == 46 && u2 == 46) || (u == 45 && u2 == 62)) := by unfold twoL; rw [hx2, hx2, hp 46, hp 45]
                    clear hx2 hp
                    cases h46 : (u == 46) with
                    | true =>
                      have h45 : (u == 45) = false := by have : u = 46 := by simpa using h46
                                                         simp; omega
                      cases h462 : (u2 == 46) with
                      | true =>
                        have h2 : twoL (L.drop j) = true := by rw [ht2, h46, h462]; rfl
                        clear ht2
                        have hTO : tokO (L.drop j) = some (.ok 4 0 2) := by
                          have h9 : symL (L.drop j) = .ok 4 0 2 := by unfold symL; rw [h2]; rfl
                          rw [← h9]
                          unfold tokO kO
                          rw [hl, hd, hq, hs]
                          rfl
                        have HEQ := Lib.hid (show scanL 0 L = ((ds ++ [(⟨4, txtL 4 (L.drop j) 2, 0, j⟩ : Tk)]) ++ (scanL (j + 2) (L.drop (j + 2))).1, (scanL (j + 2) (L.drop (j + 2))).2) by rw [HSC.out, scanL_step0 HS0.out HLT.out hTO]; simp)
                        have HN1 : Hid (0 < 2) := Lib.hid (by omega)
                        have HNL : Hid (j + 2 ≤ L.length) := Lib.hid (by have := HLT.out; omega)
                        clear hTO hl hd hq hs h2
                        have q91 : ((-1 : Int) == (N : Int)) = false := by first | (simp; done) | (simp; omega)
                        have hs1 := run_betw L j (j + 2) (by omega) HNL.out HN.out
                        rw [HST.out, HJ.out, show ((j + 2 : Nat) : Int) = J + 2 by have := HJ.out; omega, show j + 2 - j = 2 by omega] at hs1
                        have hs9 := hs1
                        rw [show J + 2 = J + 1 + 1 by omega] at hs9
                        obtain ⟨Sx, hSx⟩ : ∃ Sx, (⟨((L.drop j).take 2).toArray⟩ : ByteArray) = Sx := ⟨_, rfl⟩
                        rw [hSx] at hs1 hs9
                        skip
                        have HSX : Hid ((⟨(txtL 4 (L.drop j) 2).toArray⟩ : ByteArray) = Sx) := Lib.hid hSx
                        clear hSx
                        go_wp2_with (first | (at_builtin; go_must (refine wpList_app_sz (base := w.heap.size) (n := m) (m := 1) (xs := xs) (news := [.int .i64 4, .string Sx, .int .i64 0, .int .i64 J]) rfl (.tmp 134) (.tmp 136) 49 rfl elR rfl (own_alloc (own_alloc HWN.out)) rfl (by have h9 := HoldsS.new (wr.alloc (.cells #[.int .i64 4, .string Sx, .int .i64 0, .int .i64 J] 56)) 4 1 [.int .i64 4, .string Sx, .int .i64 0, .int .i64 J] 56 rfl; rw [World.size_alloc] at h9; exact h9) (by simp [Value.oneCell']) (by unfold maxLen; omega) (by omega) (by have := HBL.out.size; simp; omega) (by simp) ?_; intro v3 w3 hown hg; refine Hid.out ?_)) | (go_at_call 36; (with_reducible refine C36.out.mono ?_); rintro e w1 ⟨rfl, hw1⟩; rw [hw1]; clear hw1) | (go_at_call 38; (with_reducible refine C38.out.mono ?_); rintro e w1 ⟨rfl, hw1⟩; rw [hw1]; clear hw1) | (go_at_call 41; (with_reducible refine C41.out.mono ?_); rintro e w1 ⟨rfl, hw1⟩; rw [hw1]; clear hw1))
                        have HB3 := Lib.hid (below_own ((HBL.out.alloc HBL.out.size _).alloc (by have := HBL.out.size; simp; omega) _) (by have := HBL.out.size; simp; omega) (own_alloc (own_alloc HWN.out)) hg)
                        have HW3 : Hid (w3.ownsRow w.heap.size 56 4 v3 (ds ++ [(⟨4, txtL 4 (L.drop j) 2, 0, j⟩ : Tk)]).length ((ds ++ [(⟨4, txtL 4 (L.drop j) 2, 0, j⟩ : Tk)]).flatMap RkC)) := Lib.hid (by
                          rw [List.length_append, List.length_singleton, HMM.out, List.flatMap_append, HXS.out, List.flatMap_singleton]
                          unfold RkC
                          rw [HSX.out, HJ.out]
                          exact hown)
                        clear hown hg
                        refine Lib.hid ?_
                        go_wp2_with fail
                        go_roundw
                        case rel => exact ⟨j + 2, ds ++ [(⟨4, txtL 4 (L.drop j) 2, 0, j⟩ : Tk)], Lib.hid HNL.out, Lib.hid (by rw [List.length_append, List.length_singleton]; have := HDS.out; have := HN1.out; omega), by have := HJ.out; go_num, HEQ, HW3, HB3⟩
                        case measure => have := HJ.out; have := HJ.out; have := HN1.out; have := HNL.out; have := HLT.out; have := HNN.out; simp [intOf]; omega
                      | false =>
                        have h2 : twoL (L.drop j) = false := by rw [ht2, h46, h462, h45]; rfl
                        clear ht2
                        have hTO : tokO (L.drop j) = some (.ok 4 0 1) := by
                          have h9 : symL (L.drop j) = .ok 4 0 1 := by unfold symL; rw [h2]; rfl
                          rw [← h9]
                          unfold tokO kO
                          rw [hl, hd, hq, hs]
                          rfl
                        have HEQ := Lib.hid (show scanL 0 L = ((ds ++ [(⟨4, txtL 4 (L.drop j) 1, 0, j⟩ : Tk)]) ++ (scanL (j + 1) (L.drop (j + 1))).1, (scanL (j + 1) (L.drop (j + 1))).2) by rw [HSC.out, scanL_step0 HS0.out HLT.out hTO]; simp)
                        have HN1 : Hid (0 < 1) := Lib.hid (by omega)
                        have HNL : Hid (j + 1 ≤ L.length) := Lib.hid (by have := HLT.out; omega)
                        clear hTO hl hd hq hs h2
                        have q91 : ((-1 : Int) == (N : Int)) = false := by first | (simp; done) | (simp; omega)
                        have hs1 := run_betw L j (j + 1) (by omega) HNL.out HN.out
                        rw [HST.out, HJ.out, show ((j + 1 : Nat) : Int) = J + 1 by have := HJ.out; omega, show j + 1 - j = 1 by omega] at hs1
                        obtain ⟨Sx, hSx⟩ : ∃ Sx, (⟨((L.drop j).take 1).toArray⟩ : ByteArray) = Sx := ⟨_, rfl⟩
                        rw [hSx] at hs1
                        skip
                        have HSX : Hid ((⟨(txtL 4 (L.drop j) 1).toArray⟩ : ByteArray) = Sx) := Lib.hid hSx
                        clear hSx
                        go_wp2_with (first | (at_builtin; go_must (refine wpList_app_sz (base := w.heap.size) (n := m) (m := 1) (xs := xs) (news := [.int .i64 4, .string Sx, .int .i64 0, .int .i64 J]) rfl (.tmp 134) (.tmp 136) 49 rfl elR rfl (own_alloc (own_alloc HWN.out)) rfl (by have h9 := HoldsS.new (wr.alloc (.cells #[.int .i64 4, .string Sx, .int .i64 0, .int .i64 J] 56)) 4 1 [.int .i64 4, .string Sx, .int .i64 0, .int .i64 J] 56 rfl; rw [World.size_alloc] at h9; exact h9) (by simp [Value.oneCell']) (by unfold maxLen; omega) (by omega) (by have := HBL.out.size; simp; omega) (by simp) ?_; intro v3 w3 hown hg; refine Hid.out ?_)) | (go_at_call 36; (with_reducible refine C36.out.mono ?_); rintro e w1 ⟨rfl, hw1⟩; rw [hw1]; clear hw1) | (go_at_call 38; (with_reducible refine C38.out.mono ?_); rintro e w1 ⟨rfl, hw1⟩; rw [hw1]; clear hw1) | (go_at_call 41; (with_reducible refine C41.out.mono ?_); rintro e w1 ⟨rfl, hw1⟩; rw [hw1]; clear hw1))
                        have HB3 := Lib.hid (below_own ((HBL.out.alloc HBL.out.size _).alloc (by have := HBL.out.size; simp; omega) _) (by have := HBL.out.size; simp; omega) (own_alloc (own_alloc HWN.out)) hg)
                        have HW3 : Hid (w3.ownsRow w.heap.size 56 4 v3 (ds ++ [(⟨4, txtL 4 (L.drop j) 1, 0, j⟩ : Tk)]).length ((ds ++ [(⟨4, txtL 4 (L.drop j) 1, 0, j⟩ : Tk)]).flatMap RkC)) := Lib.hid (by
                          rw [List.length_append, List.length_singleton, HMM.out, List.flatMap_append, HXS.out, List.flatMap_singleton]
                          unfold RkC
                          rw [HSX.out, HJ.out]
                          exact hown)
                        clear hown hg
                        refine Lib.hid ?_
                        go_wp2_with fail
                        go_roundw
                        case rel => exact ⟨j + 1, ds ++ [(⟨4, txtL 4 (L.drop j) 1, 0, j⟩ : Tk)], Lib.hid HNL.out, Lib.hid (by rw [List.length_append, List.length_singleton]; have := HDS.out; have := HN1.out; omega), by have := HJ.out; go_num, HEQ, HW3, HB3⟩
                        case measure => have := HJ.out; have := HJ.out; have := HN1.out; have := HNL.out; have := HLT.out; have := HNN.out; simp [intOf]; omega
                    | false =>
                      cases h45 : (u == 45) with
                      | true =>
                        cases h62 : (u2 == 62) with
                        | true =>
                          have h2 : twoL (L.drop j) = true := by rw [ht2, h46, h45, h62]; rfl
                          clear ht2
                          have hTO : tokO (L.drop j) = some (.ok 4 0 2) := by
                            have h9 : symL (L.drop j) = .ok 4 0 2 := by unfold symL; rw [h2]; rfl
                            rw [← h9]
                            unfold tokO kO
                            rw [hl, hd, hq, hs]
                            rfl
                          have HEQ := Lib.hid (show scanL 0 L = ((ds ++ [(⟨4, txtL 4 (L.drop j) 2, 0, j⟩ : Tk)]) ++ (scanL (j + 2) (L.drop (j + 2))).1, (scanL (j + 2) (L.drop (j + 2))).2) by rw [HSC.out, scanL_step0 HS0.out HLT.out hTO]; simp)
                          have HN1 : Hid (0 < 2) := Lib.hid (by omega)
                          have HNL : Hid (j + 2 ≤ L.length) := Lib.hid (by have := HLT.out; omega)
                          clear hTO hl hd hq hs h2
                          have q91 : ((-1 : Int) == (N : Int)) = false := by first | (simp; done) | (simp; omega)
                          have hs1 := run_betw L j (j + 2) (by omega) HNL.out HN.out
                          rw [HST.out, HJ.out, show ((j + 2 : Nat) : Int) = J + 2 by have := HJ.out; omega, show j + 2 - j = 2 by omega] at hs1
                          have hs9 := hs1
                          rw [show J + 2 = J + 1 + 1 by omega] at hs9
                          obtain ⟨Sx, hSx⟩ : ∃ Sx, (⟨((L.drop j).take 2).toArray⟩ : ByteArray) = Sx := ⟨_, rfl⟩
                          rw [hSx] at hs1 hs9
                          skip
                          have HSX : Hid ((⟨(txtL 4 (L.drop j) 2).toArray⟩ : ByteArray) = Sx) := Lib.hid hSx
                          clear hSx
                          go_wp2_with (first | (at_builtin; go_must (refine wpList_app_sz (base := w.heap.size) (n := m) (m := 1) (xs := xs) (news := [.int .i64 4, .string Sx, .int .i64 0, .int .i64 J]) rfl (.tmp 134) (.tmp 136) 49 rfl elR rfl (own_alloc (own_alloc HWN.out)) rfl (by have h9 := HoldsS.new (wr.alloc (.cells #[.int .i64 4, .string Sx, .int .i64 0, .int .i64 J] 56)) 4 1 [.int .i64 4, .string Sx, .int .i64 0, .int .i64 J] 56 rfl; rw [World.size_alloc] at h9; exact h9) (by simp [Value.oneCell']) (by unfold maxLen; omega) (by omega) (by have := HBL.out.size; simp; omega) (by simp) ?_; intro v3 w3 hown hg; refine Hid.out ?_)) | (go_at_call 36; (with_reducible refine C36.out.mono ?_); rintro e w1 ⟨rfl, hw1⟩; rw [hw1]; clear hw1) | (go_at_call 38; (with_reducible refine C38.out.mono ?_); rintro e w1 ⟨rfl, hw1⟩; rw [hw1]; clear hw1) | (go_at_call 41; (with_reducible refine C41.out.mono ?_); rintro e w1 ⟨rfl, hw1⟩; rw [hw1]; clear hw1))
                          have HB3 := Lib.hid (below_own ((HBL.out.alloc HBL.out.size _).alloc (by have := HBL.out.size; simp; omega) _) (by have := HBL.out.size; simp; omega) (own_alloc (own_alloc HWN.out)) hg)
                          have HW3 : Hid (w3.ownsRow w.heap.size 56 4 v3 (ds ++ [(⟨4, txtL 4 (L.drop j) 2, 0, j⟩ : Tk)]).length ((ds ++ [(⟨4, txtL 4 (L.drop j) 2, 0, j⟩ : Tk)]).flatMap RkC)) := Lib.hid (by
                            rw [List.length_append, List.length_singleton, HMM.out, List.flatMap_append, HXS.out, List.flatMap_singleton]
                            unfold RkC
                            rw [HSX.out, HJ.out]
                            exact hown)
                          clear hown hg
                          refine Lib.hid ?_
                          go_wp2_with fail
                          go_roundw
                          case rel => exact ⟨j + 2, ds ++ [(⟨4, txtL 4 (L.drop j) 2, 0, j⟩ : Tk)], Lib.hid HNL.out, Lib.hid (by rw [List.length_append, List.length_singleton]; have := HDS.out; have := HN1.out; omega), by have := HJ.out; go_num, HEQ, HW3, HB3⟩
                          case measure => have := HJ.out; have := HJ.out; have := HN1.out; have := HNL.out; have := HLT.out; have := HNN.out; simp [intOf]; omega
                        | false =>
                          have h2 : twoL (L.drop j) = false := by rw [ht2, h46, h45, h62]; rfl
                          clear ht2
                          have hTO : tokO (L.drop j) = some (.ok 4 0 1) := by
                            have h9 : symL (L.drop j) = .ok 4 0 1 := by unfold symL; rw [h2]; rfl
                            rw [← h9]
                            unfold tokO kO
                            rw [hl, hd, hq, hs]
                            rfl
                          have HEQ := Lib.hid (show scanL 0 L = ((ds ++ [(⟨4, txtL 4 (L.drop j) 1, 0, j⟩ : Tk)]) ++ (scanL (j + 1) (L.drop (j + 1))).1, (scanL (j + 1) (L.drop (j + 1))).2) by rw [HSC.out, scanL_step0 HS0.out HLT.out hTO]; simp)
                          have HN1 : Hid (0 < 1) := Lib.hid (by omega)
                          have HNL : Hid (j + 1 ≤ L.length) := Lib.hid (by have := HLT.out; omega)
                          clear hTO hl hd hq hs h2
                          have q91 : ((-1 : Int) == (N : Int)) = false := by first | (simp; done) | (simp; omega)
                          have hs1 := run_betw L j (j + 1) (by omega) HNL.out HN.out
                          rw [HST.out, HJ.out, show ((j + 1 : Nat) : Int) = J + 1 by have := HJ.out; omega, show j + 1 - j = 1 by omega] at hs1
                          obtain ⟨Sx, hSx⟩ : ∃ Sx, (⟨((L.drop j).take 1).toArray⟩ : ByteArray) = Sx := ⟨_, rfl⟩
                          rw [hSx] at hs1
                          skip
                          have HSX : Hid ((⟨(txtL 4 (L.drop j) 1).toArray⟩ : ByteArray) = Sx) := Lib.hid hSx
                          clear hSx
                          go_wp2_with (first | (at_builtin; go_must (refine wpList_app_sz (base := w.heap.size) (n := m) (m := 1) (xs := xs) (news := [.int .i64 4, .string Sx, .int .i64 0, .int .i64 J]) rfl (.tmp 134) (.tmp 136) 49 rfl elR rfl (own_alloc (own_alloc HWN.out)) rfl (by have h9 := HoldsS.new (wr.alloc (.cells #[.int .i64 4, .string Sx, .int .i64 0, .int .i64 J] 56)) 4 1 [.int .i64 4, .string Sx, .int .i64 0, .int .i64 J] 56 rfl; rw [World.size_alloc] at h9; exact h9) (by simp [Value.oneCell']) (by unfold maxLen; omega) (by omega) (by have := HBL.out.size; simp; omega) (by simp) ?_; intro v3 w3 hown hg; refine Hid.out ?_)) | (go_at_call 36; (with_reducible refine C36.out.mono ?_); rintro e w1 ⟨rfl, hw1⟩; rw [hw1]; clear hw1) | (go_at_call 38; (with_reducible refine C38.out.mono ?_); rintro e w1 ⟨rfl, hw1⟩; rw [hw1]; clear hw1) | (go_at_call 41; (with_reducible refine C41.out.mono ?_); rintro e w1 ⟨rfl, hw1⟩; rw [hw1]; clear hw1))
                          have HB3 := Lib.hid (below_own ((HBL.out.alloc HBL.out.size _).alloc (by have := HBL.out.size; simp; omega) _) (by have := HBL.out.size; simp; omega) (own_alloc (own_alloc HWN.out)) hg)
                          have HW3 : Hid (w3.ownsRow w.heap.size 56 4 v3 (ds ++ [(⟨4, txtL 4 (L.drop j) 1, 0, j⟩ : Tk)]).length ((ds ++ [(⟨4, txtL 4 (L.drop j) 1, 0, j⟩ : Tk)]).flatMap RkC)) := Lib.hid (by
                            rw [List.length_append, List.length_singleton, HMM.out, List.flatMap_append, HXS.out, List.flatMap_singleton]
                            unfold RkC
                            rw [HSX.out, HJ.out]
                            exact hown)
                          clear hown hg
                          refine Lib.hid ?_
                          go_wp2_with fail
                          go_roundw
                          case rel => exact ⟨j + 1, ds ++ [(⟨4, txtL 4 (L.drop j) 1, 0, j⟩ : Tk)], Lib.hid HNL.out, Lib.hid (by rw [List.length_append, List.length_singleton]; have := HDS.out; have := HN1.out; omega), by have := HJ.out; go_num, HEQ, HW3, HB3⟩
                          case measure => have := HJ.out; have := HJ.out; have := HN1.out; have := HNL.out; have := HLT.out; have := HNN.out; simp [intOf]; omega
                      | false =>
                        have h2 : twoL (L.drop j) = false := by rw [ht2, h46, h45]; rfl
                        clear ht2
                        have hTO : tokO (L.drop j) = some (.ok 4 0 1) := by
                          have h9 : symL (L.drop j) = .ok 4 0 1 := by unfold symL; rw [h2]; rfl
                          rw [← h9]
                          unfold tokO kO
                          rw [hl, hd, hq, hs]
                          rfl
                        have HEQ := Lib.hid (show scanL 0 L = ((ds ++ [(⟨4, txtL 4 (L.drop j) 1, 0, j⟩ : Tk)]) ++ (scanL (j + 1) (L.drop (j + 1))).1, (scanL (j + 1) (L.drop (j + 1))).2) by rw [HSC.out, scanL_step0 HS0.out HLT.out hTO]; simp)
                        have HN1 : Hid (0 < 1) := Lib.hid (by omega)
                        have HNL : Hid (j + 1 ≤ L.length) := Lib.hid (by have := HLT.out; omega)
                        clear hTO hl hd hq hs h2
                        have q91 : ((-1 : Int) == (N : Int)) = false := by first | (simp; done) | (simp; omega)
                        have hs1 := run_betw L j (j + 1) (by omega) HNL.out HN.out
                        rw [HST.out, HJ.out, show ((j + 1 : Nat) : Int) = J + 1 by have := HJ.out; omega, show j + 1 - j = 1 by omega] at hs1
                        obtain ⟨Sx, hSx⟩ : ∃ Sx, (⟨((L.drop j).take 1).toArray⟩ : ByteArray) = Sx := ⟨_, rfl⟩
                        rw [hSx] at hs1
                        skip
                        have HSX : Hid ((⟨(txtL 4 (L.drop j) 1).toArray⟩ : ByteArray) = Sx) := Lib.hid hSx
                        clear hSx
                        go_wp2_with (first | (at_builtin; go_must (refine wpList_app_sz (base := w.heap.size) (n := m) (m := 1) (xs := xs) (news := [.int .i64 4, .string Sx, .int .i64 0, .int .i64 J]) rfl (.tmp 134) (.tmp 136) 49 rfl elR rfl (own_alloc (own_alloc HWN.out)) rfl (by have h9 := HoldsS.new (wr.alloc (.cells #[.int .i64 4, .string Sx, .int .i64 0, .int .i64 J] 56)) 4 1 [.int .i64 4, .string Sx, .int .i64 0, .int .i64 J] 56 rfl; rw [World.size_alloc] at h9; exact h9) (by simp [Value.oneCell']) (by unfold maxLen; omega) (by omega) (by have := HBL.out.size; simp; omega) (by simp) ?_; intro v3 w3 hown hg; refine Hid.out ?_)) | (go_at_call 36; (with_reducible refine C36.out.mono ?_); rintro e w1 ⟨rfl, hw1⟩; rw [hw1]; clear hw1) | (go_at_call 38; (with_reducible refine C38.out.mono ?_); rintro e w1 ⟨rfl, hw1⟩; rw [hw1]; clear hw1) | (go_at_call 41; (with_reducible refine C41.out.mono ?_); rintro e w1 ⟨rfl, hw1⟩; rw [hw1]; clear hw1))
                        have HB3 := Lib.hid (below_own ((HBL.out.alloc HBL.out.size _).alloc (by have := HBL.out.size; simp; omega) _) (by have := HBL.out.size; simp; omega) (own_alloc (own_alloc HWN.out)) hg)
                        have HW3 : Hid (w3.ownsRow w.heap.size 56 4 v3 (ds ++ [(⟨4, txtL 4 (L.drop j) 1, 0, j⟩ : Tk)]).length ((ds ++ [(⟨4, txtL 4 (L.drop j) 1, 0, j⟩ : Tk)]).flatMap RkC)) := Lib.hid (by
                          rw [List.length_append, List.length_singleton, HMM.out, List.flatMap_append, HXS.out, List.flatMap_singleton]
                          unfold RkC
                          rw [HSX.out, HJ.out]
                          exact hown)
                        clear hown hg
                        refine Lib.hid ?_
                        go_wp2_with fail
                        go_roundw
                        case rel => exact ⟨j + 1, ds ++ [(⟨4, txtL 4 (L.drop j) 1, 0, j⟩ : Tk)], Lib.hid HNL.out, Lib.hid (by rw [List.length_append, List.length_singleton]; have := HDS.out; have := HN1.out; omega), by have := HJ.out; go_num, HEQ, HW3, HB3⟩
                        case measure => have := HJ.out; have := HJ.out; have := HN1.out; have := HNL.out; have := HLT.out; have := HNN.out; simp [intOf]; omega
                  · have q80 : decide (J + 1 < (N : Int)) = false := by have := HJ.out; have := HNN.out; simp; omega
                    have h2 : twoL (L.drop j) = false := by
                      have e9 : ∀ y, headP (isI y) ((L.drop j).drop 1) = false := fun y => (by rw [List.drop_drop]; exact headP_out (by omega))
                      unfold twoL
                      rw [e9, e9]
                      simp
                    clear hp
                    have hTO : tokO (L.drop j) = some (.ok 4 0 1) := by
                      have h9 : symL (L.drop j) = .ok 4 0 1 := by unfold symL; rw [h2]; rfl
                      rw [← h9]
                      unfold tokO kO
                      rw [hl, hd, hq, hs]
                      rfl
                    have HEQ := Lib.hid (show scanL 0 L = ((ds ++ [(⟨4, txtL 4 (L.drop j) 1, 0, j⟩ : Tk)]) ++ (scanL (j + 1) (L.drop (j + 1))).1, (scanL (j + 1) (L.drop (j + 1))).2) by rw [HSC.out, scanL_step0 HS0.out HLT.out hTO]; simp)
                    have HN1 : Hid (0 < 1) := Lib.hid (by omega)
                    have HNL : Hid (j + 1 ≤ L.length) := Lib.hid (by have := HLT.out; omega)
                    clear hTO hl hd hq hs h2
                    have q91 : ((-1 : Int) == (N : Int)) = false := by first | (simp; done) | (simp; omega)
                    have hs1 := run_betw L j (j + 1) (by omega) HNL.out HN.out
                    rw [HST.out, HJ.out, show ((j + 1 : Nat) : Int) = J + 1 by have := HJ.out; omega, show j + 1 - j = 1 by omega] at hs1
                    obtain ⟨Sx, hSx⟩ : ∃ Sx, (⟨((L.drop j).take 1).toArray⟩ : ByteArray) = Sx := ⟨_, rfl⟩
                    rw [hSx] at hs1
                    skip
                    have HSX : Hid ((⟨(txtL 4 (L.drop j) 1).toArray⟩ : ByteArray) = Sx) := Lib.hid hSx
                    clear hSx
                    go_wp2_with (first | (at_builtin; go_must (refine wpList_app_sz (base := w.heap.size) (n := m) (m := 1) (xs := xs) (news := [.int .i64 4, .string Sx, .int .i64 0, .int .i64 J]) rfl (.tmp 134) (.tmp 136) 49 rfl elR rfl (own_alloc (own_alloc HWN.out)) rfl (by have h9 := HoldsS.new (wr.alloc (.cells #[.int .i64 4, .string Sx, .int .i64 0, .int .i64 J] 56)) 4 1 [.int .i64 4, .string Sx, .int .i64 0, .int .i64 J] 56 rfl; rw [World.size_alloc] at h9; exact h9) (by simp [Value.oneCell']) (by unfold maxLen; omega) (by omega) (by have := HBL.out.size; simp; omega) (by simp) ?_; intro v3 w3 hown hg; refine Hid.out ?_)) | (go_at_call 36; (with_reducible refine C36.out.mono ?_); rintro e w1 ⟨rfl, hw1⟩; rw [hw1]; clear hw1) | (go_at_call 38; (with_reducible refine C38.out.mono ?_); rintro e w1 ⟨rfl, hw1⟩; rw [hw1]; clear hw1) | (go_at_call 41; (with_reducible refine C41.out.mono ?_); rintro e w1 ⟨rfl, hw1⟩; rw [hw1]; clear hw1))
                    have HB3 := Lib.hid (below_own ((HBL.out.alloc HBL.out.size _).alloc (by have := HBL.out.size; simp; omega) _) (by have := HBL.out.size; simp; omega) (own_alloc (own_alloc HWN.out)) hg)
                    have HW3 : Hid (w3.ownsRow w.heap.size 56 4 v3 (ds ++ [(⟨4, txtL 4 (L.drop j) 1, 0, j⟩ : Tk)]).length ((ds ++ [(⟨4, txtL 4 (L.drop j) 1, 0, j⟩ : Tk)]).flatMap RkC)) := Lib.hid (by
                      rw [List.length_append, List.length_singleton, HMM.out, List.flatMap_append, HXS.out, List.flatMap_singleton]
                      unfold RkC
                      rw [HSX.out, HJ.out]
                      exact hown)
                    clear hown hg
                    refine Lib.hid ?_
                    go_wp2_with fail
                    go_roundw
                    case rel => exact ⟨j + 1, ds ++ [(⟨4, txtL 4 (L.drop j) 1, 0, j⟩ : Tk)], Lib.hid HNL.out, Lib.hid (by rw [List.length_append, List.length_singleton]; have := HDS.out; have := HN1.out; omega), by have := HJ.out; go_num, HEQ, HW3, HB3⟩
                    case measure => have := HJ.out; have := HJ.out; have := HN1.out; have := HNL.out; have := HLT.out; have := HNN.out; simp [intOf]; omega
                | false =>
                  have hs : headP symI (L.drop j) = false := by rw [hs0, hsu]
                  rw [hsu] at C41
                  have hTO : tokO (L.drop j) = none := by unfold tokO kO; rw [hl, hd, hq, hs]; rfl
                  have HEQ := Lib.hid (show scanL 0 L = (ds, some j) by rw [HSC.out, scanL_stop0 (n := 0) HS0.out HLT.out (.inr ⟨hTO, rfl⟩)]; simp)
                  have HER := Lib.hid (show errN L j = 6 by unfold errN; rw [if_neg (by have := HLT.out; omega)])
                  clear hs0 hl0 hlu hdu hd0 hsu hp hs hq hd hl hTO
                  go_wp2_with (first | (go_at_call 36; (with_reducible refine C36.out.mono ?_); rintro e w1 ⟨rfl, hw1⟩; rw [hw1]; clear hw1) | (go_at_call 38; (with_reducible refine C38.out.mono ?_); rintro e w1 ⟨rfl, hw1⟩; rw [hw1]; clear hw1) | (go_at_call 41; (with_reducible refine C41.out.mono ?_); rintro e w1 ⟨rfl, hw1⟩; rw [hw1]; clear hw1))
                  go_ret3
                  refine ⟨HBL.out.alloc HBL.out.size _, ?_⟩
                  rw [HEQ.out]
                  simp only
                  rw [HER.out, HJ.out]
                  rfl
    · have hend : j = L.length := by have := HJL.out; omega
      have HEQ := Lib.hid (show scanL 0 L = (ds, none) by rw [HSC.out, scanL_end (by rw [hend, List.drop_eq_nil_of_le (Nat.le_refl _)]; rfl)]; simp)
      rw [hJ]
      have q0 : decide (J < (N : Int)) = false := by have := HNN.out; simp; omega
      clear hlt hend hJ
      go_wp2_with fail
      go_ret3
      refine ⟨HBL.out, ?_⟩
      rw [HEQ.out]
      simp only
      rw [hm, hxs]
      exact ⟨_, _, rfl, HWN.out⟩

end Go.Proofs.YtkihoekldklkhaaDoor
