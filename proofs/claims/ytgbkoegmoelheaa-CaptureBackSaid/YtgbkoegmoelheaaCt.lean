/- The reference's small functions: put, get, Adler, Valid, Fits. -/
import Derived.Test.YtgbkoegmoelheaaCs
namespace Go.Proofs.Ytgbkoegmoelheaa
open Go.RowKit
set_option linter.unusedVariables false
set_option linter.unusedSimpArgs false

set_option maxRecDepth 100000 in
set_option maxHeartbeats 1000000 in
theorem rput_any (x n : Nat) (w : World) (hx : x < 1099511627776 * 256) (hn : n ≤ 6) :
    Calls Try.prog 37 #[.int .i64 (x : Int), .int .i64 (n : Int)] w fun e w' => Fresh w (be x n) (fun v => v) e w' := by
  have hn0 : (n : Int) ≤ 6 := by omega
  have hnn : (0 : Int) ≤ n := by omega
  obtain ⟨X, hX⟩ : ∃ X : Int, (x : Int) = X := ⟨_, rfl⟩
  have HX := Lib.hid hX
  have hX0 : 0 ≤ X := by omega
  have hX1 : X < 281474976710656 := by omega
  rw [hX]
  clear hx hn hX
  go_enter Try.func37, Try.ntmps37
  go_wp2_with fail
  go_loopw [5, 6] (fun vv ii wr => ∃ j k : Nat, j + k = n ∧ ii = .int .i64 ((k : Int) - 1) ∧ Hid (RowW w wr vv ((be x n).take j))) (fun _ ii _ => (intOf ii + 1).toNat)
  case atStart => exact ⟨0, n, by omega, rfl, Lib.hid ⟨World.ownsRow_nil _ _ 5 1, Below.refl _ _⟩⟩
  case round =>
    obtain ⟨j, k, hjk, rfl, HP⟩ := hrel
    by_cases hlt : (0 : Int) < k
    · have hk6 : (k : Int) ≤ 6 := by omega
      have hk1 : (1 : Int) ≤ k := by omega
      have hbt := be_take x n j (by omega)
      have hnk : n - 1 - j = k - 1 := by omega
      have hby : (X / 2 ^ (8 * (k - 1)) % 256) = ((x / 256 ^ (k - 1) % 256 : Nat) : Int) := by
        have e2 : (2 : Int) ^ (8 * (k - 1)) = ((256 ^ (k - 1) : Nat) : Int) := by
          rw [show (256 : Nat) = 2 ^ 8 from rfl, ← Nat.pow_mul, Int.natCast_pow]
          rfl
        rw [← HX.out, e2]
        generalize 256 ^ (k - 1) = y
        simp
      rw [hnk] at hbt
      have HBT := Lib.hid hbt
      have HBY := Lib.hid hby
      have hzl : ((be x n).take j).length ≤ 6 := by have := be_length x n; rw [List.length_take]; omega
      obtain ⟨zs, hzs⟩ : ∃ zs, (be x n).take j = zs := ⟨_, rfl⟩
      have HZS := Lib.hid hzs
      rw [hzs] at HP hzl
      have HN := Lib.hid hzl
      have HJK := Lib.hid hjk
      clear hzs hzl hbt hby hnk hjk
      go_wp2_with (at_builtin; go_must (refine wpList_app_own (base := w.heap.size) (n := zs.length) (m := 1) (xs := zs.map Go.Proofs.Ytgbkoegmoelheaa.u8) (news := [.int .u8 (X / 2 ^ (8 * (k - 1)) % 256)]) rfl (.tmp 13) (.tmp 19) 23 rfl el22 rfl (own_alloc HP.out.own) rfl (Holds.one _ _ _) (by simp [Value.oneCell']) (by have := HN.out; unfold maxLen; omega) (by have := HN.out; omega) (by have := HP.out.below.size; simp; omega) ?_; intro v2 w2 hown hg hat; refine Hid.out ?_))
      have hb2 : [Value.int .u8 (X / 2 ^ (8 * (k - 1)) % 256)] = [UInt8.ofNat (x / 256 ^ (k - 1) % 256)].map Go.Proofs.Ytgbkoegmoelheaa.u8 := by
        rw [HBY.out]
        simp only [List.map_cons, List.map_nil, Go.Proofs.Ytgbkoegmoelheaa.u8]
        rw [UInt8.toNat_ofNat', Nat.mod_eq_of_lt (Nat.mod_lt _ (by omega))]
      rw [hb2] at hown
      have HP2 := Lib.hid (show RowW w w2 v2 (zs ++ [UInt8.ofNat (x / 256 ^ (k - 1) % 256)]) from ⟨by simpa using hown, below_own (HP.out.below.alloc HP.out.below.size _) (by have := HP.out.below.size; simp; omega) (own_alloc HP.out.own) hg⟩)
      refine Lib.hid ?_
      clear hown hg hat hb2
      go_wp2_with fail
      go_roundw
      case rel => exact ⟨j + 1, k - 1, by have := HJK.out; omega, by go_num, by rw [HBT.out, HZS.out]; exact HP2⟩
      case measure => simp [intOf]; omega
    · have HLE := Lib.hid (show (be x n).take j = be x n by rw [List.take_of_length_le]; rw [be_length]; omega)
      have hk0 : k = 0 := by omega
      subst hk0
      clear hlt
      go_wp2_with fail
      go_ret
      rw [HLE.out] at HP
      exact ⟨_, rfl, HP.out.own, HP.out.below⟩

set_option maxRecDepth 100000 in
set_option maxHeartbeats 1000000 in
theorem rget_any (A : Option Addr) (n c : Nat) (l : List UInt8) (w : World) (h : RB w A n c l) (hn : n ≤ 6) :
    Calls Try.prog 44 #[.slice A n c] w fun e w' => e = .returned (.int .i64 (num l : Int)) ∧ w' = w := by
  have HP := Lib.hid h
  have HL := Lib.hid h.len
  clear h
  have hn0 : (n : Int) ≤ 6 := by omega
  clear hn
  go_enter Try.func44, Try.ntmps44
  go_wp2_with fail
  go_loopw [3, 4] (fun aa ii wr => ∃ i : Nat, (i : Int) ≤ n ∧ ii = .int .i64 i ∧ aa = .int .i64 (num (l.take i) : Int) ∧ wr = w) (fun _ ii _ => n - (intOf ii).toNat)
  case atStart => exact ⟨0, by omega, rfl, rfl, rfl⟩
  case round =>
    obtain ⟨i, hi, rfl, rfl, rfl⟩ := hrel
    have hi0 : (0 : Int) ≤ i := by omega
    by_cases hlt : (i : Int) < n
    · have hi1 : i < l.length := by rw [HL.out]; omega
      obtain ⟨b, o, rfl, hat⟩ := HP.out.at (by omega)
      have hA := hat i hi1
      have hs := num_take l i hi1
      have hx2 := (l[i]).toNat_lt
      generalize (l[i]).toNat = y at *
      have hacc := num_lt (l.take i)
      have hti : (l.take i).length = i := by rw [List.length_take]; omega
      rw [hti] at hacc
      have hpw : 256 ^ i ≤ 256 ^ 5 := Nat.pow_le_pow_right (by omega) (by omega)
      have HS := Lib.hid hs
      obtain ⟨x, hx⟩ : ∃ x : Int, ((num (l.take i) : Nat) : Int) = x := ⟨_, rfl⟩
      obtain ⟨z, hz⟩ : ∃ z : Int, ((y : Nat) : Int) = z := ⟨_, rfl⟩
      have HX := Lib.hid hx
      have HZ := Lib.hid hz
      have hx0 : 0 ≤ x := by omega
      have hx1 : x < 1099511627776 := by omega
      have hz0 : 0 ≤ z := by omega
      have hz1 : z < 256 := by omega
      rw [hz] at hA
      rw [hx]
      clear hs hx hz hacc hti hpw hat hx2
      go_wp2_with fail
      go_roundw
      case rel => exact ⟨i + 1, by omega, by go_num, by rw [HS.out]; exact congrArg (Value.int .i64) (by have := HX.out; have := HZ.out; omega), by first | rfl | trivial⟩
      case measure => simp [intOf]; omega
    · have HLE := Lib.hid (show l.take i = l by rw [List.take_of_length_le]; rw [HL.out]; omega)
      go_wp2_with fail
      go_ret
      rw [HLE.out]
      exact ⟨rfl, rfl⟩

theorem adlS_snoc (a b : Int) (l : List UInt8) (x : UInt8) : Ck.adlS a b (l ++ [x]) = (((Ck.adlS a b l).1 + (x.toNat : Int)) % 65521, ((Ck.adlS a b l).2 + ((Ck.adlS a b l).1 + (x.toNat : Int)) % 65521) % 65521) := by
  induction l generalizing a b with
  | nil => simp [Ck.adlS]
  | cons y l ih => simp only [List.cons_append, Ck.adlS]; exact ih _ _

set_option maxRecDepth 100000 in
set_option maxHeartbeats 1000000 in
theorem adler_any (A : Option Addr) (n c : Nat) (l : List UInt8) (w : World) (h : RB w A n c l) (hn : n ≤ 2000000) :
    Calls Try.prog 38 #[.slice A n c] w fun e w' => e = .returned (.int .i64 (adlN l : Int)) ∧ w' = w := by
  have HP := Lib.hid h
  have HL := Lib.hid h.len
  have HR := Lib.hid (Ck.adlS_range l 1 0 (by omega) (by omega) (by omega) (by omega))
  clear h
  have hn0 : (n : Int) ≤ 2000000 := by omega
  clear hn
  go_enter Try.func38, Try.ntmps38
  go_wp2_with fail
  go_loopw [3, 4, 5] (fun xx yy ii wr => ∃ (i : Nat) (x y : Int), (i : Int) ≤ n ∧ ii = .int .i64 i ∧ xx = .int .i64 x ∧ yy = .int .i64 y ∧ Hid (Ck.adlS 1 0 (l.take i) = (x, y)) ∧ wr = w) (fun _ _ ii _ => n - (intOf ii).toNat)
  case atStart => exact ⟨0, 1, 0, by omega, rfl, rfl, rfl, Lib.hid rfl, rfl⟩
  case round =>
    obtain ⟨i, x, y, hi, rfl, rfl, rfl, HE, rfl⟩ := hrel
    have hi0 : (0 : Int) ≤ i := by omega
    have hrg := Ck.adlS_range (l.take i) 1 0 (by omega) (by omega) (by omega) (by omega)
    rw [HE.out] at hrg
    have hx0 : 0 ≤ x := by have := hrg; simp only at this; omega
    have hx1 : x < 65521 := by have := hrg; simp only at this; omega
    have hy0 : 0 ≤ y := by have := hrg; simp only at this; omega
    have hy1 : y < 65521 := by have := hrg; simp only at this; omega
    clear hrg
    by_cases hlt : (i : Int) < n
    · have hi1 : i < l.length := by rw [HL.out]; omega
      obtain ⟨b, o, rfl, hat⟩ := HP.out.at (by omega)
      have hA := hat i hi1
      have hs : Ck.adlS 1 0 (l.take (i + 1)) = ((x + ((l[i]).toNat : Int)) % 65521, (y + (x + ((l[i]).toNat : Int)) % 65521) % 65521) := by
        rw [List.take_succ_eq_append_getElem hi1, adlS_snoc, HE.out]
      have hx2 := (l[i]).toNat_lt
      generalize (l[i]).toNat = z at *
      obtain ⟨z, hz⟩ : ∃ z9 : Int, ((z : Nat) : Int) = z9 := ⟨_, rfl⟩
      have hz0 : 0 ≤ z := by omega
      have hz1 : z < 256 := by omega
      rw [hz] at hA hs
      have HS := Lib.hid hs
      have hm1 : (x + z).tmod 65521 = (x + z) % 65521 := Int.tmod_eq_emod_of_nonneg (by omega)
      obtain ⟨u, hu⟩ : ∃ u, (x + z) % 65521 = u := ⟨_, rfl⟩
      have hu0 : 0 ≤ u := by omega
      have hu1 : u < 65521 := by omega
      have hm2 : (y + u).tmod 65521 = (y + u) % 65521 := Int.tmod_eq_emod_of_nonneg (by omega)
      rw [hu] at hm1 HS
      clear hs hz hat hx2 hu
      go_wp2_with fail
      go_roundw
      case rel => exact ⟨i + 1, _, _, by omega, by go_num, by first | rfl | go_num, by first | rfl | go_num, HS, by first | rfl | trivial⟩
      case measure => simp [intOf]; omega
    · have HLE := Lib.hid (show l.take i = l by rw [List.take_of_length_le]; rw [HL.out]; omega)
      have HF := Lib.hid (show (adlN l : Int) = 65536 * y + x by
        have := HE.out
        rw [HLE.out] at this
        unfold adlN
        rw [this]
        simp only
        omega)
      go_wp2_with fail
      go_ret
      rw [HF.out]
      exact ⟨by first | rfl | go_num, rfl⟩

set_option maxRecDepth 100000 in
set_option maxHeartbeats 1000000 in
theorem rvalid_any (t f : Int) (A : Option Addr) (n c : Nat) (d : List UInt8) (w : World) (h : d.length = n) (hn : n ≤ 140737488355328) :
    Calls Try.prog 13 #[.agg #[.int .i64 t, .int .i64 f, .slice A n c]] w fun e w' => e = .returned (.bool (validP ⟨t, f, d⟩)) ∧ Below w.heap.size w w' := by
  have e : validP ⟨t, f, d⟩ = (decide (0 ≤ t) && (decide (t ≤ 1099511627776) && (decide (0 ≤ f) && (decide (f ≤ 65535) && decide ((n : Int) ≤ 4096))))) := by
    unfold validP
    simp only
    rw [h]
    have : decide (n ≤ 4096) = decide ((n : Int) ≤ 4096) := by congr 1; apply propext; omega
    rw [this]
  rw [e]
  clear e h
  have hn0 : (0 : Int) ≤ n := by omega
  have hn1 : (n : Int) ≤ 140737488355328 := by omega
  obtain ⟨N, hN⟩ : ∃ N : Int, (n : Int) = N := ⟨_, rfl⟩
  rw [hN]
  rw [hN] at hn0 hn1
  clear hn
  by_cases h1 : 0 ≤ t
  · by_cases h2 : t ≤ 1099511627776
    · by_cases h3 : 0 ≤ f
      · by_cases h4 : f ≤ 65535
        · by_cases h5 : N ≤ 4096
          · rw [decide_eq_true h1, decide_eq_true h2, decide_eq_true h3, decide_eq_true h4, decide_eq_true h5]
            go_enter Try.func13, Try.ntmps13
            go_wp2_with fail
            go_ret
            exact ⟨by simp [h5], (Below.refl w.heap.size w).alloc (Nat.le_refl _) _⟩
          · rw [decide_eq_true h1, decide_eq_true h2, decide_eq_true h3, decide_eq_true h4, decide_eq_false h5]
            go_enter Try.func13, Try.ntmps13
            go_wp2_with fail
            go_ret
            exact ⟨by simp [h5], (Below.refl w.heap.size w).alloc (Nat.le_refl _) _⟩
        · rw [decide_eq_true h1, decide_eq_true h2, decide_eq_true h3, decide_eq_false h4]
          go_enter Try.func13, Try.ntmps13
          go_wp2_with fail
          go_ret
          exact ⟨rfl, (Below.refl w.heap.size w).alloc (Nat.le_refl _) _⟩
      · rw [decide_eq_true h1, decide_eq_true h2, decide_eq_false h3]
        go_enter Try.func13, Try.ntmps13
        go_wp2_with fail
        go_ret
        exact ⟨rfl, (Below.refl w.heap.size w).alloc (Nat.le_refl _) _⟩
    · rw [decide_eq_true h1, decide_eq_false h2]
      go_enter Try.func13, Try.ntmps13
      go_wp2_with fail
      go_ret
      exact ⟨rfl, (Below.refl w.heap.size w).alloc (Nat.le_refl _) _⟩
  · rw [decide_eq_false h1]
    go_enter Try.func13, Try.ntmps13
    go_wp2_with fail
    go_ret
    exact ⟨rfl, (Below.refl w.heap.size w).alloc (Nat.le_refl _) _⟩

def Tw14 (b o1 o2 : Nat) (t1 t0 : Int) (W : World) : Prop := W.cell? ⟨b, o1, none⟩ = some (.int .i64 t1) ∧ W.cell? ⟨b, o2, none⟩ = some (.int .i64 t0)
theorem ord_fail {ps : List Pd} {i : Nat} (hi : i < ps.length) (h1 : 1 ≤ i) (h : (ps[i]).t < (ps[i - 1]'(by omega)).t) : ordP (pks ps) = false := by
  rcases Bool.eq_false_or_eq_true (ordP (pks ps)) with h2 | h2
  · have h3 := ordP_iff.1 h2 (i - 1) (by simp [pks]; omega)
    have e : i - 1 + 1 = i := by omega
    simp only [e] at h3
    simp [pks, Pd.pk] at h3
    omega
  · exact h2

set_option maxRecDepth 100000 in
set_option maxHeartbeats 4000000 in
theorem rfits_any (A : Option Addr) (n c : Nat) (ps : List Pd) (w : World) (h : PL w A n c ps) (hn : n ≤ 200) (hm : ∀ p ∈ ps, p.n ≤ 30000) :
    Calls Try.prog 14 #[.slice A n c] w fun e w' => e = .returned (.bool (fitsP (pks ps))) ∧ Below w.heap.size w w' := by
  have hlen : (pks ps).length = n := by unfold pks; rw [List.length_map]; exact h.len
  have e : fitsP (pks ps) = (decide (1 ≤ (n : Int)) && (decide ((n : Int) ≤ 64) && (decide ((sizeP (pks ps) : Int) ≤ 8192) && ordP (pks ps)))) := by
    unfold fitsP
    rw [hlen]
    have e1 : decide (1 ≤ n) = decide (1 ≤ (n : Int)) := by congr 1; apply propext; omega
    have e2 : decide (n ≤ 64) = decide ((n : Int) ≤ 64) := by congr 1; apply propext; omega
    have e3 : decide (sizeP (pks ps) ≤ 8192) = decide ((sizeP (pks ps) : Int) ≤ 8192) := by congr 1; apply propext; omega
    rw [e1, e2, e3]
  obtain ⟨F, hF⟩ : ∃ F, fitsP (pks ps) = F := ⟨_, rfl⟩
  rw [hF] at e ⊢
  have HE := Lib.hid e
  have HP := Lib.hid h
  have HD := Lib.hid hm
  have HL := Lib.hid h.len
  clear hm h e hF hlen
  have hn0 : (n : Int) ≤ 200 := by omega
  clear hn
  go_enter Try.func14, Try.ntmps14
  go_wp2_with fail
  go_loopw [3, 4] (fun aa ii wr => ∃ i : Nat, (i : Int) ≤ n ∧ ii = .int .i64 i ∧ aa = .int .i64 (sizeP (pks (ps.take i)) : Int) ∧ Hid (∀ m (h : m + 1 < ps.length), m + 1 < i → (ps[m]).t ≤ (ps[m + 1]).t) ∧ Hid (Below w.heap.size w wr)) (fun _ ii _ => n - (intOf ii).toNat)
  case atStart => exact ⟨0, by omega, rfl, rfl, Lib.hid (by intro m _ h; omega), Lib.hid (Below.refl _ _)⟩
  case round =>
    obtain ⟨i, hi, rfl, rfl, HO, HB⟩ := hrel
    have hi0 : (0 : Int) ≤ i := by omega
    obtain ⟨wo, rfl⟩ : ∃ wo : World, wo = wr := ⟨_, rfl⟩
    by_cases hlt : (i : Int) < n
    · have hi1 : i < ps.length := by rw [HL.out]; omega
      obtain ⟨b, o, rfl, hat⟩ := HP.out.at (by omega)
      have hA := (hat i hi1).below HB.out
      have hp := HP.out.r _ (List.getElem_mem hi1)
      have hs := sizeP_take ps i hi1
      have hdl := hp.r.len
      have hdn := HD.out _ (List.getElem_mem hi1)
      have HFAIL : Hid (1 ≤ i → (ps[i]).t < (ps[i - 1]'(by omega)).t → F = false) := Lib.hid fun h1 h2 => by rw [HE.out, ord_fail hi1 h1 h2]; simp
      have HNEXT : Hid ((1 ≤ i → ¬ (ps[i]).t < (ps[i - 1]'(by omega)).t) → ∀ m (h : m + 1 < ps.length), m + 1 < i + 1 → (ps[m]).t ≤ (ps[m + 1]).t) := Lib.hid fun h1 m h2 h3 => by
        by_cases hq : m + 1 < i
        · exact HO.out m h2 hq
        · have hm : i = m + 1 := by omega
          subst hm
          have := h1 (by omega)
          have e : m + 1 - 1 = m := by omega
          simp only [e] at this
          omega
      have hprev : Hid (1 ≤ i → wo.cell? ⟨b, o + (i - 1) * 3, none⟩ = some (.int .i64 (ps[i - 1]'(by omega)).t)) := Lib.hid fun h1 => ((hat (i - 1) (by omega)).below HB.out).h0
      obtain ⟨t0, ht0⟩ : ∃ t0, (ps[i - 1]'(by omega)).t = t0 := ⟨_, rfl⟩
      rw [ht0] at hprev HFAIL HNEXT
      generalize ps[i] = p at *
      have hacc := sizeP_le (ps.take i) 30000 (fun q hq => by have h1 := List.mem_of_mem_take hq; have := HD.out q h1; have := (HP.out.r q h1).r.len; omega)
      have hti : (ps.take i).length = i := by rw [List.length_take]; omega
      rw [hti] at hacc
      have HS := Lib.hid hs
      obtain ⟨x, hx⟩ : ∃ x : Int, ((sizeP (pks (ps.take i)) : Nat) : Int) = x := ⟨_, rfl⟩
      have HX := Lib.hid hx
      have hx0 : 0 ≤ x := by omega
      have hx1 : x ≤ 6100000 := by have : i * (10 + 30000) ≤ 200 * 30010 := Nat.mul_le_mul (by omega) (Nat.le_refl _); omega
      obtain ⟨pn, hpn⟩ : ∃ pn : Nat, p.n = pn := ⟨_, rfl⟩
      have HPN := Lib.hid hpn
      have hy0 : (0 : Int) ≤ pn := by omega
      have hy1 : (pn : Int) ≤ 30000 := by omega
      have HDL := Lib.hid hdl
      obtain ⟨f0, f1, f2⟩ := hA
      obtain ⟨t1, ht1⟩ : ∃ t1, p.t = t1 := ⟨_, rfl⟩
      rw [ht1] at f0 HFAIL HNEXT
      rw [hpn] at f2
      rw [hx]
      have HF0 := Lib.hid f0
      have HI := Lib.hid (And.intro hi0 (And.intro hlt (And.intro hn0 (And.intro hx0 (And.intro hx1 (And.intro hy0 hy1))))))
      clear hs hx hacc hti hdl hdn hp hat hpn ht1 ht0 f0 f1
      go_upto_region 6 with fail
      by_cases hi2 : (1 : Int) ≤ i
      case neg =>
        have hz : i = 0 := by omega
        have q1 : decide ((0 : Int) < i) = false := decide_eq_false (by omega)
        have HREL := Lib.hid (HNEXT.out (by omega))
        have HZI := Lib.hid hz
        clear hi2 hz f2
        refine wp_region_G (S0 := (fun _ => True)) (S1 := (fun _ => True)) (c := 99) (by kernel_rfl) ?_
        have hHeld := trivial
        have h01 := (fun (W : World) (h : (fun _ => True) W) => h)
        refine wpG_takeB (i := 0) (oi := ⟨some 20, _, _, _, _, _⟩) (v := .int .i64 (i : Int)) rfl (by kernel_rfl) (by kernel_rfl) (by kernel_rfl) (by decide) (fun _ _ _ h => h) h01 rfl hHeld (Or.inl ⟨by rfl, ?_⟩) ?_
        · (intro W9 hSw; go_simp; (try (first | with_reducible rfl | rfl | (exact HWR.out) | (rw [HWR.out]; rfl) | (have := HZI.out; omega) | (have := HIX.out; omega) | (simp; done))))
        try simp only [Act.put, List.setIfInBounds_toArray, List.set_cons_zero, List.set_cons_succ]
        refine wpG_takeB (i := 1) (oi := ⟨some 21, _, _, _, _, _⟩) (v := .bool false) rfl (by kernel_rfl) (by kernel_rfl) (by kernel_rfl) (by decide) (fun _ _ _ h => h) h01 rfl hHeld (Or.inl ⟨by rfl, ?_⟩) ?_
        · (intro W9 hSw; go_simp; (try (first | with_reducible rfl | rfl | (exact HWR.out) | (rw [HWR.out]; rfl) | (have := HZI.out; omega) | (have := HIX.out; omega) | (simp; done))))
        try simp only [Act.put, List.setIfInBounds_toArray, List.set_cons_zero, List.set_cons_succ]
        refine wpG_takeB (i := 2) (oi := ⟨some 22, _, _, _, _, _⟩) (v := .bool false) rfl (by kernel_rfl) (by kernel_rfl) (by kernel_rfl) (by decide) (fun _ _ _ h => h) h01 rfl hHeld (Or.inl ⟨by rfl, ?_⟩) ?_
        · (intro W9 hSw; go_simp; (try (first | with_reducible rfl | rfl | (exact HWR.out) | (rw [HWR.out]; rfl) | (have := HZI.out; omega) | (have := HIX.out; omega) | (simp; done))))
        try simp only [Act.put, List.setIfInBounds_toArray, List.set_cons_zero, List.set_cons_succ]
        refine wpG_takeB (i := 3) (oi := ⟨some 23, _, _, _, _, _⟩) (v := undef) rfl (by kernel_rfl) (by kernel_rfl) (by kernel_rfl) (by decide) (fun _ _ _ h => h) h01 rfl hHeld (Or.inr ⟨by rfl, rfl⟩) ?_
        try simp only [Act.put, List.setIfInBounds_toArray, List.set_cons_zero, List.set_cons_succ]
        refine wpG_takeB (i := 4) (oi := ⟨some 24, _, _, _, _, _⟩) (v := undef) rfl (by kernel_rfl) (by kernel_rfl) (by kernel_rfl) (by decide) (fun _ _ _ h => h) h01 rfl hHeld (Or.inr ⟨by rfl, rfl⟩) ?_
        try simp only [Act.put, List.setIfInBounds_toArray, List.set_cons_zero, List.set_cons_succ]
        refine wpG_takeB (i := 5) (oi := ⟨some 25, _, _, _, _, _⟩) (v := undef) rfl (by kernel_rfl) (by kernel_rfl) (by kernel_rfl) (by decide) (fun _ _ _ h => h) h01 rfl hHeld (Or.inr ⟨by rfl, rfl⟩) ?_
        try simp only [Act.put, List.setIfInBounds_toArray, List.set_cons_zero, List.set_cons_succ]
        refine wpG_takeB (i := 6) (oi := ⟨some 26, _, _, _, _, _⟩) (v := undef) rfl (by kernel_rfl) (by kernel_rfl) (by kernel_rfl) (by decide) (fun _ _ _ h => h) h01 rfl hHeld (Or.inr ⟨by rfl, rfl⟩) ?_
        try simp only [Act.put, List.setIfInBounds_toArray, List.set_cons_zero, List.set_cons_succ]
        refine wpG_takeB (i := 7) (oi := ⟨some 27, _, _, _, _, _⟩) (v := undef) rfl (by kernel_rfl) (by kernel_rfl) (by kernel_rfl) (by decide) (fun _ _ _ h => h) h01 rfl hHeld (Or.inr ⟨by rfl, rfl⟩) ?_
        try simp only [Act.put, List.setIfInBounds_toArray, List.set_cons_zero, List.set_cons_succ]
        refine wpG_takeB (i := 8) (oi := ⟨some 28, _, _, _, _, _⟩) (v := undef) rfl (by kernel_rfl) (by kernel_rfl) (by kernel_rfl) (by decide) (fun _ _ _ h => h) h01 rfl hHeld (Or.inr ⟨by rfl, rfl⟩) ?_
        try simp only [Act.put, List.setIfInBounds_toArray, List.set_cons_zero, List.set_cons_succ]
        refine wpG_takeB (i := 9) (oi := ⟨some 29, _, _, _, _, _⟩) (v := undef) rfl (by kernel_rfl) (by kernel_rfl) (by kernel_rfl) (by decide) (fun _ _ _ h => h) h01 rfl hHeld (Or.inr ⟨by rfl, rfl⟩) ?_
        try simp only [Act.put, List.setIfInBounds_toArray, List.set_cons_zero, List.set_cons_succ]
        refine wpG_takeB (i := 10) (oi := ⟨some 30, _, _, _, _, _⟩) (v := undef) rfl (by kernel_rfl) (by kernel_rfl) (by kernel_rfl) (by decide) (fun _ _ _ h => h) h01 rfl hHeld (Or.inr ⟨by rfl, rfl⟩) ?_
        try simp only [Act.put, List.setIfInBounds_toArray, List.set_cons_zero, List.set_cons_succ]
        refine wpG_takeB (i := 11) (oi := ⟨some 31, _, _, _, _, _⟩) (v := undef) rfl (by kernel_rfl) (by kernel_rfl) (by kernel_rfl) (by decide) (fun _ _ _ h => h) h01 rfl hHeld (Or.inr ⟨by rfl, rfl⟩) ?_
        try simp only [Act.put, List.setIfInBounds_toArray, List.set_cons_zero, List.set_cons_succ]
        refine wpG_takeB (i := 12) (oi := ⟨some 32, _, _, _, _, _⟩) (v := undef) rfl (by kernel_rfl) (by kernel_rfl) (by kernel_rfl) (by decide) (fun _ _ _ h => h) h01 rfl hHeld (Or.inr ⟨by rfl, rfl⟩) ?_
        try simp only [Act.put, List.setIfInBounds_toArray, List.set_cons_zero, List.set_cons_succ]
        refine wpG_takeB (i := 13) (oi := ⟨some 33, _, _, _, _, _⟩) (v := undef) rfl (by kernel_rfl) (by kernel_rfl) (by kernel_rfl) (by decide) (fun _ _ _ h => h) h01 rfl hHeld (Or.inr ⟨by rfl, rfl⟩) ?_
        try simp only [Act.put, List.setIfInBounds_toArray, List.set_cons_zero, List.set_cons_succ]
        refine wpG_takeB (i := 14) (oi := ⟨some 34, _, _, _, _, _⟩) (v := undef) rfl (by kernel_rfl) (by kernel_rfl) (by kernel_rfl) (by decide) (fun _ _ _ h => h) h01 rfl hHeld (Or.inr ⟨by rfl, rfl⟩) ?_
        try simp only [Act.put, List.setIfInBounds_toArray, List.set_cons_zero, List.set_cons_succ]
        refine wpG_takeB (i := 15) (oi := ⟨some 35, _, _, _, _, _⟩) (v := .bool false) rfl (by kernel_rfl) (by kernel_rfl) (by kernel_rfl) (by decide) (fun _ _ _ h => h) h01 rfl hHeld (Or.inl ⟨by rfl, ?_⟩) ?_
        · (intro W9 hSw; go_simp; (try (first | with_reducible rfl | rfl | (exact HWR.out) | (rw [HWR.out]; rfl) | (have := HZI.out; omega) | (have := HIX.out; omega) | (simp; done))))
        try simp only [Act.put, List.setIfInBounds_toArray, List.set_cons_zero, List.set_cons_succ]
        refine wpG_done (by kernel_rfl) ?_ _
        clear hHeld h01
        go_wp2_with fail
        go_roundw
        case rel => exact ⟨i + 1, by omega, by go_num, by rw [HS.out]; exact congrArg (Value.int .i64) (by have := HX.out; have := HDL.out; have := HPN.out; omega), HREL, Lib.hid (below_drew HB.out)⟩
        case measure => simp [intOf]; omega
      case pos =>
        have q1 : decide ((0 : Int) < i) = true := decide_eq_true (by omega)
        have HS6 := Lib.hid (show Tw14 b (o + i * 3) (o + (i - 1) * 3) t1 t0 wo.drew from ⟨HF0.out, hprev.out (by omega)⟩)
        have HWR : Hid (IntKind.i64.wrap ((i : Int) - 1) = (i : Int) - 1) := Lib.hid (by rw [IntKind.wrap_i64]; omega)
        have HIX := Lib.hid (show (i : Int) < n ∧ ((i : Int) - 1) < n ∧ 0 ≤ (i : Int) - 1 ∧ ((i : Int) - 1).toNat = i - 1 by omega)
        have HNG := Lib.hid (show ¬ ((i : Int) - 1 < 0) by omega)
        have HI1 := Lib.hid (show 1 ≤ i by omega)
        have HZI := Lib.hid (show 1 ≤ i by omega)
        by_cases hq : t1 < t0
        · have HQ2 := Lib.hid (show decide (t1 < t0) = true from decide_eq_true hq)
          have HFF := Lib.hid (HFAIL.out HI1.out hq)
          clear hi2 hq f2 hi0 hlt hn0 hx0 hx1 hy0 hy1 hi
          refine wp_region_G (S0 := (Tw14 b (o + i * 3) (o + (i - 1) * 3) t1 t0)) (S1 := (Tw14 b (o + i * 3) (o + (i - 1) * 3) t1 t0)) (c := 99) (by kernel_rfl) ?_
          have hHeld := HS6.out
          have h01 := (fun (W : World) (h : (Tw14 b (o + i * 3) (o + (i - 1) * 3) t1 t0) W) => h)
          refine wpG_takeB (i := 0) (oi := ⟨some 20, _, _, _, _, _⟩) (v := .int .i64 (i : Int)) rfl (by kernel_rfl) (by kernel_rfl) (by kernel_rfl) (by decide) (fun _ _ _ h => h) h01 rfl hHeld (Or.inl ⟨by rfl, ?_⟩) ?_
          · (intro W9 hSw; obtain ⟨v1, v2⟩ := hSw; have w1 := HWR.out; have w2 := HIX.out; have w3 := HQ2.out; have w4 := HNG.out; go_simp; (try (first | with_reducible rfl | rfl | (exact HWR.out) | (rw [HWR.out]; rfl) | (have := HZI.out; omega) | (have := HIX.out; omega) | (simp; done))))
          try simp only [Act.put, List.setIfInBounds_toArray, List.set_cons_zero, List.set_cons_succ]
          refine wpG_takeB (i := 1) (oi := ⟨some 21, _, _, _, _, _⟩) (v := .bool true) rfl (by kernel_rfl) (by kernel_rfl) (by kernel_rfl) (by decide) (fun _ _ _ h => h) h01 rfl hHeld (Or.inl ⟨by rfl, ?_⟩) ?_
          · (intro W9 hSw; obtain ⟨v1, v2⟩ := hSw; have w1 := HWR.out; have w2 := HIX.out; have w3 := HQ2.out; have w4 := HNG.out; go_simp; (try (first | with_reducible rfl | rfl | (exact HWR.out) | (rw [HWR.out]; rfl) | (have := HZI.out; omega) | (have := HIX.out; omega) | (simp; done))))
          try simp only [Act.put, List.setIfInBounds_toArray, List.set_cons_zero, List.set_cons_succ]
          refine wpG_takeB (i := 2) (oi := ⟨some 22, _, _, _, _, _⟩) (v := .bool true) rfl (by kernel_rfl) (by kernel_rfl) (by kernel_rfl) (by decide) (fun _ _ _ h => h) h01 rfl hHeld (Or.inl ⟨by rfl, ?_⟩) ?_
          · (intro W9 hSw; obtain ⟨v1, v2⟩ := hSw; have w1 := HWR.out; have w2 := HIX.out; have w3 := HQ2.out; have w4 := HNG.out; go_simp; (try (first | with_reducible rfl | rfl | (exact HWR.out) | (rw [HWR.out]; rfl) | (have := HZI.out; omega) | (have := HIX.out; omega) | (simp; done))))
          try simp only [Act.put, List.setIfInBounds_toArray, List.set_cons_zero, List.set_cons_succ]
          refine wpG_takeB (i := 3) (oi := ⟨some 23, _, _, _, _, _⟩) (v := .slice (some ⟨b, o, none⟩) n c) rfl (by kernel_rfl) (by kernel_rfl) (by kernel_rfl) (by decide) (fun _ _ _ h => h) h01 rfl hHeld (Or.inl ⟨by rfl, ?_⟩) ?_
          · (intro W9 hSw; obtain ⟨v1, v2⟩ := hSw; have w1 := HWR.out; have w2 := HIX.out; have w3 := HQ2.out; have w4 := HNG.out; go_simp; (try (first | with_reducible rfl | rfl | (exact HWR.out) | (rw [HWR.out]; rfl) | (have := HZI.out; omega) | (have := HIX.out; omega) | (simp; done))))
          try simp only [Act.put, List.setIfInBounds_toArray, List.set_cons_zero, List.set_cons_succ]
          refine wpG_takeB (i := 4) (oi := ⟨some 24, _, _, _, _, _⟩) (v := .int .i64 (i : Int)) rfl (by kernel_rfl) (by kernel_rfl) (by kernel_rfl) (by decide) (fun _ _ _ h => h) h01 rfl hHeld (Or.inl ⟨by rfl, ?_⟩) ?_
          · (intro W9 hSw; obtain ⟨v1, v2⟩ := hSw; have w1 := HWR.out; have w2 := HIX.out; have w3 := HQ2.out; have w4 := HNG.out; go_simp; (try (first | with_reducible rfl | rfl | (exact HWR.out) | (rw [HWR.out]; rfl) | (have := HZI.out; omega) | (have := HIX.out; omega) | (simp; done))))
          try simp only [Act.put, List.setIfInBounds_toArray, List.set_cons_zero, List.set_cons_succ]
          refine wpG_takeB (i := 5) (oi := ⟨some 25, _, _, _, _, _⟩) (v := .pointer (some ⟨b, o + i * 3, none⟩)) rfl (by kernel_rfl) (by kernel_rfl) (by kernel_rfl) (by decide) (fun _ _ _ h => h) h01 rfl hHeld (Or.inl ⟨by rfl, ?_⟩) ?_
          · (intro W9 hSw; obtain ⟨v1, v2⟩ := hSw; have w1 := HWR.out; have w2 := HIX.out; have w3 := HQ2.out; have w4 := HNG.out; go_simp; (try (first | with_reducible rfl | rfl | (exact HWR.out) | (rw [HWR.out]; rfl) | (have := HZI.out; omega) | (have := HIX.out; omega) | (simp; done))))
          try simp only [Act.put, List.setIfInBounds_toArray, List.set_cons_zero, List.set_cons_succ]
          refine wpG_takeB (i := 6) (oi := ⟨some 26, _, _, _, _, _⟩) (v := .pointer (some ⟨b, o + i * 3, none⟩)) rfl (by kernel_rfl) (by kernel_rfl) (by kernel_rfl) (by decide) (fun _ _ _ h => h) h01 rfl hHeld (Or.inl ⟨by rfl, ?_⟩) ?_
          · (intro W9 hSw; obtain ⟨v1, v2⟩ := hSw; have w1 := HWR.out; have w2 := HIX.out; have w3 := HQ2.out; have w4 := HNG.out; go_simp; (try (first | with_reducible rfl | rfl | (exact HWR.out) | (rw [HWR.out]; rfl) | (have := HZI.out; omega) | (have := HIX.out; omega) | (simp; done))))
          try simp only [Act.put, List.setIfInBounds_toArray, List.set_cons_zero, List.set_cons_succ]
          refine wpG_takeB (i := 7) (oi := ⟨some 27, _, _, _, _, _⟩) (v := .int .i64 t1) rfl (by kernel_rfl) (by kernel_rfl) (by kernel_rfl) (by decide) (fun _ _ _ h => h) h01 rfl hHeld (Or.inl ⟨by rfl, ?_⟩) ?_
          · (intro W9 hSw; obtain ⟨v1, v2⟩ := hSw; have w1 := HWR.out; have w2 := HIX.out; have w3 := HQ2.out; have w4 := HNG.out; go_simp; (try (first | with_reducible rfl | rfl | (exact HWR.out) | (rw [HWR.out]; rfl) | (have := HZI.out; omega) | (have := HIX.out; omega) | (simp; done))))
          try simp only [Act.put, List.setIfInBounds_toArray, List.set_cons_zero, List.set_cons_succ]
          refine wpG_takeB (i := 8) (oi := ⟨some 28, _, _, _, _, _⟩) (v := .slice (some ⟨b, o, none⟩) n c) rfl (by kernel_rfl) (by kernel_rfl) (by kernel_rfl) (by decide) (fun _ _ _ h => h) h01 rfl hHeld (Or.inl ⟨by rfl, ?_⟩) ?_
          · (intro W9 hSw; obtain ⟨v1, v2⟩ := hSw; have w1 := HWR.out; have w2 := HIX.out; have w3 := HQ2.out; have w4 := HNG.out; go_simp; (try (first | with_reducible rfl | rfl | (exact HWR.out) | (rw [HWR.out]; rfl) | (have := HZI.out; omega) | (have := HIX.out; omega) | (simp; done))))
          try simp only [Act.put, List.setIfInBounds_toArray, List.set_cons_zero, List.set_cons_succ]
          refine wpG_takeB (i := 9) (oi := ⟨some 29, _, _, _, _, _⟩) (v := .int .i64 (i : Int)) rfl (by kernel_rfl) (by kernel_rfl) (by kernel_rfl) (by decide) (fun _ _ _ h => h) h01 rfl hHeld (Or.inl ⟨by rfl, ?_⟩) ?_
          · (intro W9 hSw; obtain ⟨v1, v2⟩ := hSw; have w1 := HWR.out; have w2 := HIX.out; have w3 := HQ2.out; have w4 := HNG.out; go_simp; (try (first | with_reducible rfl | rfl | (exact HWR.out) | (rw [HWR.out]; rfl) | (have := HZI.out; omega) | (have := HIX.out; omega) | (simp; done))))
          try simp only [Act.put, List.setIfInBounds_toArray, List.set_cons_zero, List.set_cons_succ]
          refine wpG_takeB (i := 10) (oi := ⟨some 30, _, _, _, _, _⟩) (v := .int .i64 ((i : Int) - 1)) rfl (by kernel_rfl) (by kernel_rfl) (by kernel_rfl) (by decide) (fun _ _ _ h => h) h01 rfl hHeld (Or.inl ⟨by rfl, ?_⟩) ?_
          · (intro W9 hSw; obtain ⟨v1, v2⟩ := hSw; have w1 := HWR.out; have w2 := HIX.out; have w3 := HQ2.out; have w4 := HNG.out; go_simp; (try (first | with_reducible rfl | rfl | (exact HWR.out) | (rw [HWR.out]; rfl) | (have := HZI.out; omega) | (have := HIX.out; omega) | (simp; done))))
          try simp only [Act.put, List.setIfInBounds_toArray, List.set_cons_zero, List.set_cons_succ]
          refine wpG_takeB (i := 11) (oi := ⟨some 31, _, _, _, _, _⟩) (v := .pointer (some ⟨b, o + (i - 1) * 3, none⟩)) rfl (by kernel_rfl) (by kernel_rfl) (by kernel_rfl) (by decide) (fun _ _ _ h => h) h01 rfl hHeld (Or.inl ⟨by rfl, ?_⟩) ?_
          · (intro W9 hSw; obtain ⟨v1, v2⟩ := hSw; have w1 := HWR.out; have w2 := HIX.out; have w3 := HQ2.out; have w4 := HNG.out; go_simp; (try (first | with_reducible rfl | rfl | (exact HWR.out) | (rw [HWR.out]; rfl) | (have := HZI.out; omega) | (have := HIX.out; omega) | (simp; done))))
          try simp only [Act.put, List.setIfInBounds_toArray, List.set_cons_zero, List.set_cons_succ]
          refine wpG_takeB (i := 12) (oi := ⟨some 32, _, _, _, _, _⟩) (v := .pointer (some ⟨b, o + (i - 1) * 3, none⟩)) rfl (by kernel_rfl) (by kernel_rfl) (by kernel_rfl) (by decide) (fun _ _ _ h => h) h01 rfl hHeld (Or.inl ⟨by rfl, ?_⟩) ?_
          · (intro W9 hSw; obtain ⟨v1, v2⟩ := hSw; have w1 := HWR.out; have w2 := HIX.out; have w3 := HQ2.out; have w4 := HNG.out; go_simp; (try (first | with_reducible rfl | rfl | (exact HWR.out) | (rw [HWR.out]; rfl) | (have := HZI.out; omega) | (have := HIX.out; omega) | (simp; done))))
          try simp only [Act.put, List.setIfInBounds_toArray, List.set_cons_zero, List.set_cons_succ]
          refine wpG_takeB (i := 13) (oi := ⟨some 33, _, _, _, _, _⟩) (v := .int .i64 t0) rfl (by kernel_rfl) (by kernel_rfl) (by kernel_rfl) (by decide) (fun _ _ _ h => h) h01 rfl hHeld (Or.inl ⟨by rfl, ?_⟩) ?_
          · (intro W9 hSw; obtain ⟨v1, v2⟩ := hSw; have w1 := HWR.out; have w2 := HIX.out; have w3 := HQ2.out; have w4 := HNG.out; go_simp; (try (first | with_reducible rfl | rfl | (exact HWR.out) | (rw [HWR.out]; rfl) | (have := HZI.out; omega) | (have := HIX.out; omega) | (simp; done))))
          try simp only [Act.put, List.setIfInBounds_toArray, List.set_cons_zero, List.set_cons_succ]
          refine wpG_takeB (i := 14) (oi := ⟨some 34, _, _, _, _, _⟩) (v := .bool true) rfl (by kernel_rfl) (by kernel_rfl) (by kernel_rfl) (by decide) (fun _ _ _ h => h) h01 rfl hHeld (Or.inl ⟨by rfl, ?_⟩) ?_
          · (intro W9 hSw; obtain ⟨v1, v2⟩ := hSw; have w1 := HWR.out; have w2 := HIX.out; have w3 := HQ2.out; have w4 := HNG.out; go_simp; (try (first | with_reducible rfl | rfl | (exact HWR.out) | (rw [HWR.out]; rfl) | (have := HZI.out; omega) | (have := HIX.out; omega) | (simp; done))))
          try simp only [Act.put, List.setIfInBounds_toArray, List.set_cons_zero, List.set_cons_succ]
          refine wpG_takeB (i := 15) (oi := ⟨some 35, _, _, _, _, _⟩) (v := .bool true) rfl (by kernel_rfl) (by kernel_rfl) (by kernel_rfl) (by decide) (fun _ _ _ h => h) h01 rfl hHeld (Or.inl ⟨by rfl, ?_⟩) ?_
          · (intro W9 hSw; obtain ⟨v1, v2⟩ := hSw; have w1 := HWR.out; have w2 := HIX.out; have w3 := HQ2.out; have w4 := HNG.out; go_simp; (try (first | with_reducible rfl | rfl | (exact HWR.out) | (rw [HWR.out]; rfl) | (have := HZI.out; omega) | (have := HIX.out; omega) | (simp; done))))
          try simp only [Act.put, List.setIfInBounds_toArray, List.set_cons_zero, List.set_cons_succ]
          refine wpG_done (by kernel_rfl) ?_ _
          clear hHeld h01
          go_wp2_with fail
          go_ret
          rw [HFF.out]
          exact ⟨rfl, below_drew HB.out⟩
        · have HQ2 := Lib.hid (show decide (t1 < t0) = false from decide_eq_false hq)
          have HREL := Lib.hid (HNEXT.out (fun _ => hq))
          clear hi2 hq f2 hi0 hlt hn0 hx0 hx1 hy0 hy1 hi
          refine wp_region_G (S0 := (Tw14 b (o + i * 3) (o + (i - 1) * 3) t1 t0)) (S1 := (Tw14 b (o + i * 3) (o + (i - 1) * 3) t1 t0)) (c := 99) (by kernel_rfl) ?_
          have hHeld := HS6.out
          have h01 := (fun (W : World) (h : (Tw14 b (o + i * 3) (o + (i - 1) * 3) t1 t0) W) => h)
          refine wpG_takeB (i := 0) (oi := ⟨some 20, _, _, _, _, _⟩) (v := .int .i64 (i : Int)) rfl (by kernel_rfl) (by kernel_rfl) (by kernel_rfl) (by decide) (fun _ _ _ h => h) h01 rfl hHeld (Or.inl ⟨by rfl, ?_⟩) ?_
          · (intro W9 hSw; obtain ⟨v1, v2⟩ := hSw; have w1 := HWR.out; have w2 := HIX.out; have w3 := HQ2.out; have w4 := HNG.out; go_simp; (try (first | with_reducible rfl | rfl | (exact HWR.out) | (rw [HWR.out]; rfl) | (have := HZI.out; omega) | (have := HIX.out; omega) | (simp; done))))
          try simp only [Act.put, List.setIfInBounds_toArray, List.set_cons_zero, List.set_cons_succ]
          refine wpG_takeB (i := 1) (oi := ⟨some 21, _, _, _, _, _⟩) (v := .bool true) rfl (by kernel_rfl) (by kernel_rfl) (by kernel_rfl) (by decide) (fun _ _ _ h => h) h01 rfl hHeld (Or.inl ⟨by rfl, ?_⟩) ?_
          · (intro W9 hSw; obtain ⟨v1, v2⟩ := hSw; have w1 := HWR.out; have w2 := HIX.out; have w3 := HQ2.out; have w4 := HNG.out; go_simp; (try (first | with_reducible rfl | rfl | (exact HWR.out) | (rw [HWR.out]; rfl) | (have := HZI.out; omega) | (have := HIX.out; omega) | (simp; done))))
          try simp only [Act.put, List.setIfInBounds_toArray, List.set_cons_zero, List.set_cons_succ]
          refine wpG_takeB (i := 2) (oi := ⟨some 22, _, _, _, _, _⟩) (v := .bool true) rfl (by kernel_rfl) (by kernel_rfl) (by kernel_rfl) (by decide) (fun _ _ _ h => h) h01 rfl hHeld (Or.inl ⟨by rfl, ?_⟩) ?_
          · (intro W9 hSw; obtain ⟨v1, v2⟩ := hSw; have w1 := HWR.out; have w2 := HIX.out; have w3 := HQ2.out; have w4 := HNG.out; go_simp; (try (first | with_reducible rfl | rfl | (exact HWR.out) | (rw [HWR.out]; rfl) | (have := HZI.out; omega) | (have := HIX.out; omega) | (simp; done))))
          try simp only [Act.put, List.setIfInBounds_toArray, List.set_cons_zero, List.set_cons_succ]
          refine wpG_takeB (i := 3) (oi := ⟨some 23, _, _, _, _, _⟩) (v := .slice (some ⟨b, o, none⟩) n c) rfl (by kernel_rfl) (by kernel_rfl) (by kernel_rfl) (by decide) (fun _ _ _ h => h) h01 rfl hHeld (Or.inl ⟨by rfl, ?_⟩) ?_
          · (intro W9 hSw; obtain ⟨v1, v2⟩ := hSw; have w1 := HWR.out; have w2 := HIX.out; have w3 := HQ2.out; have w4 := HNG.out; go_simp; (try (first | with_reducible rfl | rfl | (exact HWR.out) | (rw [HWR.out]; rfl) | (have := HZI.out; omega) | (have := HIX.out; omega) | (simp; done))))
          try simp only [Act.put, List.setIfInBounds_toArray, List.set_cons_zero, List.set_cons_succ]
          refine wpG_takeB (i := 4) (oi := ⟨some 24, _, _, _, _, _⟩) (v := .int .i64 (i : Int)) rfl (by kernel_rfl) (by kernel_rfl) (by kernel_rfl) (by decide) (fun _ _ _ h => h) h01 rfl hHeld (Or.inl ⟨by rfl, ?_⟩) ?_
          · (intro W9 hSw; obtain ⟨v1, v2⟩ := hSw; have w1 := HWR.out; have w2 := HIX.out; have w3 := HQ2.out; have w4 := HNG.out; go_simp; (try (first | with_reducible rfl | rfl | (exact HWR.out) | (rw [HWR.out]; rfl) | (have := HZI.out; omega) | (have := HIX.out; omega) | (simp; done))))
          try simp only [Act.put, List.setIfInBounds_toArray, List.set_cons_zero, List.set_cons_succ]
          refine wpG_takeB (i := 5) (oi := ⟨some 25, _, _, _, _, _⟩) (v := .pointer (some ⟨b, o + i * 3, none⟩)) rfl (by kernel_rfl) (by kernel_rfl) (by kernel_rfl) (by decide) (fun _ _ _ h => h) h01 rfl hHeld (Or.inl ⟨by rfl, ?_⟩) ?_
          · (intro W9 hSw; obtain ⟨v1, v2⟩ := hSw; have w1 := HWR.out; have w2 := HIX.out; have w3 := HQ2.out; have w4 := HNG.out; go_simp; (try (first | with_reducible rfl | rfl | (exact HWR.out) | (rw [HWR.out]; rfl) | (have := HZI.out; omega) | (have := HIX.out; omega) | (simp; done))))
          try simp only [Act.put, List.setIfInBounds_toArray, List.set_cons_zero, List.set_cons_succ]
          refine wpG_takeB (i := 6) (oi := ⟨some 26, _, _, _, _, _⟩) (v := .pointer (some ⟨b, o + i * 3, none⟩)) rfl (by kernel_rfl) (by kernel_rfl) (by kernel_rfl) (by decide) (fun _ _ _ h => h) h01 rfl hHeld (Or.inl ⟨by rfl, ?_⟩) ?_
          · (intro W9 hSw; obtain ⟨v1, v2⟩ := hSw; have w1 := HWR.out; have w2 := HIX.out; have w3 := HQ2.out; have w4 := HNG.out; go_simp; (try (first | with_reducible rfl | rfl | (exact HWR.out) | (rw [HWR.out]; rfl) | (have := HZI.out; omega) | (have := HIX.out; omega) | (simp; done))))
          try simp only [Act.put, List.setIfInBounds_toArray, List.set_cons_zero, List.set_cons_succ]
          refine wpG_takeB (i := 7) (oi := ⟨some 27, _, _, _, _, _⟩) (v := .int .i64 t1) rfl (by kernel_rfl) (by kernel_rfl) (by kernel_rfl) (by decide) (fun _ _ _ h => h) h01 rfl hHeld (Or.inl ⟨by rfl, ?_⟩) ?_
          · (intro W9 hSw; obtain ⟨v1, v2⟩ := hSw; have w1 := HWR.out; have w2 := HIX.out; have w3 := HQ2.out; have w4 := HNG.out; go_simp; (try (first | with_reducible rfl | rfl | (exact HWR.out) | (rw [HWR.out]; rfl) | (have := HZI.out; omega) | (have := HIX.out; omega) | (simp; done))))
          try simp only [Act.put, List.setIfInBounds_toArray, List.set_cons_zero, List.set_cons_succ]
          refine wpG_takeB (i := 8) (oi := ⟨some 28, _, _, _, _, _⟩) (v := .slice (some ⟨b, o, none⟩) n c) rfl (by kernel_rfl) (by kernel_rfl) (by kernel_rfl) (by decide) (fun _ _ _ h => h) h01 rfl hHeld (Or.inl ⟨by rfl, ?_⟩) ?_
          · (intro W9 hSw; obtain ⟨v1, v2⟩ := hSw; have w1 := HWR.out; have w2 := HIX.out; have w3 := HQ2.out; have w4 := HNG.out; go_simp; (try (first | with_reducible rfl | rfl | (exact HWR.out) | (rw [HWR.out]; rfl) | (have := HZI.out; omega) | (have := HIX.out; omega) | (simp; done))))
          try simp only [Act.put, List.setIfInBounds_toArray, List.set_cons_zero, List.set_cons_succ]
          refine wpG_takeB (i := 9) (oi := ⟨some 29, _, _, _, _, _⟩) (v := .int .i64 (i : Int)) rfl (by kernel_rfl) (by kernel_rfl) (by kernel_rfl) (by decide) (fun _ _ _ h => h) h01 rfl hHeld (Or.inl ⟨by rfl, ?_⟩) ?_
          · (intro W9 hSw; obtain ⟨v1, v2⟩ := hSw; have w1 := HWR.out; have w2 := HIX.out; have w3 := HQ2.out; have w4 := HNG.out; go_simp; (try (first | with_reducible rfl | rfl | (exact HWR.out) | (rw [HWR.out]; rfl) | (have := HZI.out; omega) | (have := HIX.out; omega) | (simp; done))))
          try simp only [Act.put, List.setIfInBounds_toArray, List.set_cons_zero, List.set_cons_succ]
          refine wpG_takeB (i := 10) (oi := ⟨some 30, _, _, _, _, _⟩) (v := .int .i64 ((i : Int) - 1)) rfl (by kernel_rfl) (by kernel_rfl) (by kernel_rfl) (by decide) (fun _ _ _ h => h) h01 rfl hHeld (Or.inl ⟨by rfl, ?_⟩) ?_
          · (intro W9 hSw; obtain ⟨v1, v2⟩ := hSw; have w1 := HWR.out; have w2 := HIX.out; have w3 := HQ2.out; have w4 := HNG.out; go_simp; (try (first | with_reducible rfl | rfl | (exact HWR.out) | (rw [HWR.out]; rfl) | (have := HZI.out; omega) | (have := HIX.out; omega) | (simp; done))))
          try simp only [Act.put, List.setIfInBounds_toArray, List.set_cons_zero, List.set_cons_succ]
          refine wpG_takeB (i := 11) (oi := ⟨some 31, _, _, _, _, _⟩) (v := .pointer (some ⟨b, o + (i - 1) * 3, none⟩)) rfl (by kernel_rfl) (by kernel_rfl) (by kernel_rfl) (by decide) (fun _ _ _ h => h) h01 rfl hHeld (Or.inl ⟨by rfl, ?_⟩) ?_
          · (intro W9 hSw; obtain ⟨v1, v2⟩ := hSw; have w1 := HWR.out; have w2 := HIX.out; have w3 := HQ2.out; have w4 := HNG.out; go_simp; (try (first | with_reducible rfl | rfl | (exact HWR.out) | (rw [HWR.out]; rfl) | (have := HZI.out; omega) | (have := HIX.out; omega) | (simp; done))))
          try simp only [Act.put, List.setIfInBounds_toArray, List.set_cons_zero, List.set_cons_succ]
          refine wpG_takeB (i := 12) (oi := ⟨some 32, _, _, _, _, _⟩) (v := .pointer (some ⟨b, o + (i - 1) * 3, none⟩)) rfl (by kernel_rfl) (by kernel_rfl) (by kernel_rfl) (by decide) (fun _ _ _ h => h) h01 rfl hHeld (Or.inl ⟨by rfl, ?_⟩) ?_
          · (intro W9 hSw; obtain ⟨v1, v2⟩ := hSw; have w1 := HWR.out; have w2 := HIX.out; have w3 := HQ2.out; have w4 := HNG.out; go_simp; (try (first | with_reducible rfl | rfl | (exact HWR.out) | (rw [HWR.out]; rfl) | (have := HZI.out; omega) | (have := HIX.out; omega) | (simp; done))))
          try simp only [Act.put, List.setIfInBounds_toArray, List.set_cons_zero, List.set_cons_succ]
          refine wpG_takeB (i := 13) (oi := ⟨some 33, _, _, _, _, _⟩) (v := .int .i64 t0) rfl (by kernel_rfl) (by kernel_rfl) (by kernel_rfl) (by decide) (fun _ _ _ h => h) h01 rfl hHeld (Or.inl ⟨by rfl, ?_⟩) ?_
          · (intro W9 hSw; obtain ⟨v1, v2⟩ := hSw; have w1 := HWR.out; have w2 := HIX.out; have w3 := HQ2.out; have w4 := HNG.out; go_simp; (try (first | with_reducible rfl | rfl | (exact HWR.out) | (rw [HWR.out]; rfl) | (have := HZI.out; omega) | (have := HIX.out; omega) | (simp; done))))
          try simp only [Act.put, List.setIfInBounds_toArray, List.set_cons_zero, List.set_cons_succ]
          refine wpG_takeB (i := 14) (oi := ⟨some 34, _, _, _, _, _⟩) (v := .bool false) rfl (by kernel_rfl) (by kernel_rfl) (by kernel_rfl) (by decide) (fun _ _ _ h => h) h01 rfl hHeld (Or.inl ⟨by rfl, ?_⟩) ?_
          · (intro W9 hSw; obtain ⟨v1, v2⟩ := hSw; have w1 := HWR.out; have w2 := HIX.out; have w3 := HQ2.out; have w4 := HNG.out; go_simp; (try (first | with_reducible rfl | rfl | (exact HWR.out) | (rw [HWR.out]; rfl) | (have := HZI.out; omega) | (have := HIX.out; omega) | (simp; done))))
          try simp only [Act.put, List.setIfInBounds_toArray, List.set_cons_zero, List.set_cons_succ]
          refine wpG_takeB (i := 15) (oi := ⟨some 35, _, _, _, _, _⟩) (v := .bool false) rfl (by kernel_rfl) (by kernel_rfl) (by kernel_rfl) (by decide) (fun _ _ _ h => h) h01 rfl hHeld (Or.inl ⟨by rfl, ?_⟩) ?_
          · (intro W9 hSw; obtain ⟨v1, v2⟩ := hSw; have w1 := HWR.out; have w2 := HIX.out; have w3 := HQ2.out; have w4 := HNG.out; go_simp; (try (first | with_reducible rfl | rfl | (exact HWR.out) | (rw [HWR.out]; rfl) | (have := HZI.out; omega) | (have := HIX.out; omega) | (simp; done))))
          try simp only [Act.put, List.setIfInBounds_toArray, List.set_cons_zero, List.set_cons_succ]
          refine wpG_done (by kernel_rfl) ?_ _
          clear hHeld h01
          obtain ⟨hi0, hlt, hn0, hx0, hx1, hy0, hy1⟩ := HI.out
          go_wp2_with fail
          go_roundw
          case rel => exact ⟨i + 1, by omega, by go_num, by rw [HS.out]; exact congrArg (Value.int .i64) (by have := HX.out; have := HDL.out; have := HPN.out; omega), HREL, Lib.hid (below_drew HB.out)⟩
          case measure => simp [intOf]; omega
    · have HLE := Lib.hid (show ps.take i = ps by rw [List.take_of_length_le]; rw [HL.out]; omega)
      have HOR := Lib.hid (show ordP (pks ps) = true from by
        rw [ordP_iff]
        intro m hm
        have hm2 : m + 1 < ps.length := by simpa [pks] using hm
        have := HO.out m hm2 (by have := HL.out; omega)
        simpa [pks, Pd.pk] using this)
      rw [HLE.out]
      have hs0 : (0 : Int) ≤ (sizeP (pks ps) : Int) := by omega
      have HE2 := Lib.hid HE.out
      rw [HOR.out] at HE2
      generalize (sizeP (pks ps) : Int) = s at *
      by_cases h1 : 1 ≤ (n : Int)
      · have q1 : decide (1 ≤ (n : Int)) = true := decide_eq_true h1
        by_cases h2 : (n : Int) ≤ 64
        · have q2 : decide ((n : Int) ≤ 64) = true := decide_eq_true h2
          by_cases h3 : s ≤ 8192
          · have q3 : decide (s ≤ 8192) = true := decide_eq_true h3
            have HFF := Lib.hid (show F = true by rw [HE2.out, q1, q2, q3]; rfl)
            go_wp2_with fail
            go_ret
            rw [HFF.out]
            exact ⟨rfl, HB.out⟩
          · have q3 : decide (s ≤ 8192) = false := decide_eq_false h3
            have HFF := Lib.hid (show F = false by rw [HE2.out, q1, q2, q3]; rfl)
            go_wp2_with fail
            go_ret
            rw [HFF.out]
            exact ⟨rfl, HB.out⟩
        · have q2 : decide ((n : Int) ≤ 64) = false := decide_eq_false h2
          have HFF := Lib.hid (show F = false by rw [HE2.out, q1, q2]; rfl)
          go_wp2_with fail
          go_ret
          rw [HFF.out]
          exact ⟨rfl, HB.out⟩
      · have q1 : decide (1 ≤ (n : Int)) = false := decide_eq_false h1
        have HFF := Lib.hid (show F = false by rw [HE2.out, q1]; rfl)
        go_wp2_with fail
        go_ret
        rw [HFF.out]
        exact ⟨rfl, HB.out⟩
end Go.Proofs.Ytgbkoegmoelheaa
