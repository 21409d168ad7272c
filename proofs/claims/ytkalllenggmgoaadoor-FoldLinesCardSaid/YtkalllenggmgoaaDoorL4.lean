/- The reference: Read. The walk of FoldReads. -/
import Derived.Test.YtkalllenggmgoaaDoorGc
import Derived.Test.YtkalllenggmgoaaDoorHr
namespace Go.Proofs.YtkalllenggmgoaaDoor
open Go.RowKit
set_option linter.unusedVariables false
set_option linter.unusedSimpArgs false

theorem own_HL2 {w : World} {B n : Nat} {v : Value} {hs : List Hd} (h : w.ownsRow B 25 2 v n (hs.flatMap Hd.cells)) (hn : hs.length = n) : ∃ A c, v = .slice A n c ∧ HL w A n c hs := by
  obtain ⟨A, c, rfl, h1, h2, h3, h4⟩ := own_formS h
  exact ⟨A, c, rfl, hn, HoldsS.own h, h1, h2, fun e => (h3 e).2⟩
theorem rlines_any (A : Option Addr) (n c : Nat) (b : List UInt8) (lo : Bool) (w : World) (h : RB w A n c b) (hn : n ≤ 1000000) : Calls Tryd.prog 25 #[.slice A n c, .bool lo] w (RLn (linesF b lo) w) := by
  rcases ends b lo with ⟨h1, p, r⟩ | ⟨h1, p, r⟩ | ⟨nm, ln, h1, lo', nn, r⟩
  · obtain ⟨rs, hb⟩ := scanF_blok b lo h1
    have e : linesF b lo = linesAt 0 rs := by unfold linesF; rw [r]; simp only; rw [if_neg (by omega), hb.lines]
    rw [e]
    exact rlines_blk A n c b lo w h hn ((scanF b lo).2.place + 1) rs _ hb r
  · have e : linesF b lo = [] := by unfold linesF; rw [r]; simp
    rw [e]
    exact rlines_none A n c b lo w h hn _ _ r
  · have e : linesF b lo = [] := by unfold linesF; rw [r]; simp
    rw [e]
    exact rlines_none A n c b lo w h hn _ _ r
theorem ln_get (ds : List (Nat × List UInt8 × List UInt8)) : ∀ (i : Nat) (hi : i < ds.length), (ds.flatMap LnC)[i * 3]? = some (.int .i64 ((ds[i]).1 : Int)) ∧ (ds.flatMap LnC)[i * 3 + 1]? = some (.string ⟨(ds[i]).2.1.toArray⟩) ∧ (ds.flatMap LnC)[i * 3 + 2]? = some (.string ⟨(ds[i]).2.2.toArray⟩) := by
  induction ds with
  | nil => intro i hi; simp at hi
  | cons d ds ih =>
    intro i hi
    cases i with
    | zero => simp [LnC]
    | succ i =>
      have := ih i (by simpa using hi)
      have e : (i + 1) * 3 = 3 + i * 3 := by omega
      have h3 : (LnC d).length = 3 := rfl
      simp only [List.flatMap_cons, List.getElem_cons_succ]
      rw [e, List.getElem?_append_right (by omega), List.getElem?_append_right (by omega), List.getElem?_append_right (by omega), h3]
      simpa [Nat.add_assoc] using this
theorem map_take_succ {L : List (Nat × List UInt8 × List UInt8)} {i : Nat} (hi : i < L.length) : (L.take (i + 1)).map kHd = (L.take i).map kHd ++ [kHd L[i]] := by
  rw [List.take_succ_eq_append_getElem hi, List.map_append]
  rfl
set_option maxRecDepth 100000 in
set_option maxHeartbeats 1000000 in
theorem rread_bad (A : Option Addr) (n c : Nat) (l : List UInt8) (lo : Bool) (W : World) (h : RB W A n c l) (hn : n ≤ 1000000) (p : Int) (hp : 0 ≤ p) (hr : scanR l lo = ⟨-1, 0, p⟩) :
    Calls Tryd.prog 21 #[.slice A n c, .bool lo] W (ReadE l lo W) := by
  have C23 := Lib.hid (rscan_any A n c l lo W h hn)
  have HR : Hid (readF l lo = (6, [])) := Lib.hid (by unfold readF; rw [hr]; simp only; rw [if_pos (by omega)])
  unfold ScdV at C23
  rw [hr] at C23
  simp only [] at C23
  clear h hn hr
  go_enter Tryd.func21, Tryd.ntmps21
  go_wp2_with (go_at_call 23; (with_reducible refine C23.out.mono ?_); rintro e w1 ⟨rfl, hb⟩; have HB := Lib.hid hb; clear hb)
  go_ret2
  exact ⟨_, by rw [HR.out]; rfl, by rw [HR.out]; exact World.ownsRow_nil _ _ 25 2, HB.out⟩
set_option maxRecDepth 100000 in
set_option maxHeartbeats 1000000 in
theorem rread_short (A : Option Addr) (n c : Nat) (l : List UInt8) (lo : Bool) (W : World) (h : RB W A n c l) (hn : n ≤ 1000000) (p : Int) (hp : 0 < p) (hr : scanR l lo = ⟨-1, p, -1⟩) :
    Calls Tryd.prog 21 #[.slice A n c, .bool lo] W (ReadE l lo W) := by
  have C23 := Lib.hid (rscan_any A n c l lo W h hn)
  have HR : Hid (readF l lo = (4, [])) := Lib.hid (by unfold readF; rw [hr]; simp only; rw [if_neg (by omega), if_pos (by omega)])
  unfold ScdV at C23
  rw [hr] at C23
  simp only [] at C23
  clear h hn hr
  go_enter Tryd.func21, Tryd.ntmps21
  go_wp2_with (go_at_call 23; (with_reducible refine C23.out.mono ?_); rintro e w1 ⟨rfl, hb⟩; have HB := Lib.hid hb; clear hb)
  go_ret2
  exact ⟨_, by rw [HR.out]; rfl, by rw [HR.out]; exact World.ownsRow_nil _ _ 25 2, HB.out⟩
set_option maxRecDepth 100000 in
set_option maxHeartbeats 1000000 in
theorem rread_long (A : Option Addr) (n c : Nat) (l : List UInt8) (lo : Bool) (W : World) (h : RB W A n c l) (hn : n ≤ 1000000) (p : Int) (hp0 : 0 ≤ p) (hp : p < (n : Int)) (hr : scanR l lo = ⟨p, 0, -1⟩) :
    Calls Tryd.prog 21 #[.slice A n c, .bool lo] W (ReadE l lo W) := by
  have C23 := Lib.hid (rscan_any A n c l lo W h hn)
  have HR : Hid (readF l lo = (5, [])) := Lib.hid (by unfold readF; rw [hr]; simp only; rw [h.len, if_neg (by omega), if_neg (by omega), if_pos (by omega)])
  unfold ScdV at C23
  rw [hr] at C23
  simp only [] at C23
  clear h hn hr
  go_enter Tryd.func21, Tryd.ntmps21
  go_wp2_with (go_at_call 23; (with_reducible refine C23.out.mono ?_); rintro e w1 ⟨rfl, hb⟩; have HB := Lib.hid hb; clear hb)
  go_ret2
  exact ⟨_, by rw [HR.out]; rfl, by rw [HR.out]; exact World.ownsRow_nil _ _ 25 2, HB.out⟩
set_option maxRecDepth 100000 in
set_option maxHeartbeats 1000000 in
theorem rread_ok (A : Option Addr) (n c : Nat) (l : List UInt8) (lo : Bool) (w : World) (h : RB w A n c l) (hn : n ≤ 1000000) (hr : scanR l lo = ⟨(n : Int), 0, -1⟩) (hR : readF l lo = (0, (linesF l lo).map kHd)) :
    Calls Tryd.prog 21 #[.slice A n c, .bool lo] w (ReadE l lo w) := by
  have HP := Lib.hid h
  have C23 := Lib.hid (rscan_any A n c l lo w h hn)
  have C25 := Lib.hid (fun W (h2 : RB W A n c l) => rlines_any A n c l lo W h2 hn)
  unfold RLn at C25
  have hf := linesF_few l lo
  have HR := Lib.hid hR
  unfold ScdV at C23
  rw [hr] at C23
  simp only [] at C23
  generalize linesF l lo = L at *
  obtain ⟨m, hm⟩ : ∃ m, L.length = m := ⟨_, rfl⟩
  rw [hm] at hf C25
  have HM := Lib.hid hm
  have hm0 : (m : Int) ≤ 100 := by omega
  clear h hn hr hR hf hm
  go_enter Tryd.func21, Tryd.ntmps21
  go_upto_region 9 with (go_at_call 23; (with_reducible refine C23.out.mono ?_); rintro e w1 ⟨rfl, hb⟩; have HB := Lib.hid hb; clear hb)
  go_upto_region 11 with (go_at_call 25; (with_reducible refine (C25.out _ (HP.out.below HB.out)).mono ?_); rintro e w2 ⟨v2, rfl, ho2, hb2⟩; obtain ⟨A2, c2, e2, -, -, -, hp2⟩ := own_formS ho2; subst e2; have HO2 := Lib.hid ho2; have HP2 := Lib.hid hp2; have HB2 := Lib.hid (HB.out.trans (hb2.mono HB.out.size)); clear ho2 hb2 hp2)
  go_loopw [11, 9] (fun iv ov wr => ∃ i : Nat, (i : Int) ≤ m ∧ iv = .int .i64 i ∧ Hid (wr.ownsRow w2.heap.size 25 2 ov i (((L.take i).map kHd).flatMap Hd.cells)) ∧ Hid (Below w2.heap.size w2 wr)) (fun iv _ _ => m - (intOf iv).toNat)
  case atStart => exact ⟨0, by omega, rfl, Lib.hid (World.ownsRow_nil _ _ 25 2), Lib.hid (Below.refl _ _)⟩
  case round =>
    obtain ⟨i, hi, rfl, HO, HBX⟩ := hrel
    obtain ⟨Ao, co, eo, -⟩ := own_formS HO.out
    subst eo
    by_cases hlt : (i : Int) < m
    · have hi1 : i < L.length := by rw [HM.out]; omega
      obtain ⟨g, eg, -⟩ := HP2.out (by omega)
      subst eg
      obtain ⟨q0, q1, q2⟩ := ln_get L i hi1
      have hh := HoldsS.own HO2.out
      have key : ∀ {k : Nat} {u : Value}, (L.flatMap LnC)[k]? = some u → wr.cell? ⟨g, k, none⟩ = some u := fun {k u} hk => by
        have h9 := hh.2.2 _ rfl k u hk
        rw [Addr.add_lit, Nat.zero_add] at h9
        exact (HBX.out.cell (World.block_lt_of_cell? _ _ h9)).trans h9
      have f1 := key q1
      have f2 := key q2
      have HTK := Lib.hid (map_take_succ hi1)
      generalize L[i] = p at *
      obtain ⟨sn, hsn⟩ : ∃ sn, (⟨p.2.1.toArray⟩ : ByteArray) = sn := ⟨_, rfl⟩
      obtain ⟨sx, hsx⟩ : ∃ sx, (⟨p.2.2.toArray⟩ : ByteArray) = sx := ⟨_, rfl⟩
      rw [hsn] at f1
      rw [hsx] at f2
      have HSN := Lib.hid hsn
      have HSX := Lib.hid hsx
      clear q0 q1 q2 hh key hi1 hsn hsx
      go_wp2_with (at_builtin; go_must (refine wpList_app_sz (base := w2.heap.size) (n := i) (m := 1) (xs := ((L.take i).map kHd).flatMap Hd.cells) (news := [.string sn, .string sx]) rfl (.tmp 36) (.tmp 42) 22 rfl elH rfl (own_alloc HO.out) rfl (HoldsS.new _ 2 1 [.string sn, .string sx] 25 rfl) (by simp [Value.oneCell']) (by unfold maxLen; omega) (by omega) (by have := HBX.out.size; simp; omega) (by simp) ?_; intro v3 w3 hown hg; refine Hid.out ?_))
      have HB3 := Lib.hid (below_own (HBX.out.alloc HBX.out.size _) (by have := HBX.out.size; simp; omega) (own_alloc HO.out) hg)
      have HO3 : Hid (w3.ownsRow w2.heap.size 25 2 v3 (i + 1) (((L.take (i + 1)).map kHd).flatMap Hd.cells)) := Lib.hid (by rw [HTK.out, List.flatMap_append]; simp only [List.flatMap_cons, List.flatMap_nil, List.append_nil, Hd.cells, kHd, HSN.out, HSX.out]; exact hown)
      clear hown hg
      refine Lib.hid ?_
      go_wp2_with fail
      go_roundw
      case rel => exact ⟨i + 1, by omega, by go_num, HO3, HB3⟩
      case measure => simp [intOf]; omega
    · obtain rfl : i = m := by omega
      go_wp2_with fail
      go_ret2
      refine ⟨_, by rw [HR.out]; rfl, ?_, HB2.out.trans (HBX.out.mono HB2.out.size)⟩
      rw [HR.out]
      have := HO.out
      rw [List.take_of_length_le (by rw [HM.out]; omega)] at this
      have h8 := own_base this HB2.out.size
      simpa [HM.out] using h8

theorem rread_any (A : Option Addr) (n c : Nat) (l : List UInt8) (lo : Bool) (W : World) (h : RB W A n c l) (hn : n ≤ 1000000) : Calls Tryd.prog 21 #[.slice A n c, .bool lo] W (ReadE l lo W) := by
  rcases ends l lo with ⟨h1, p, r⟩ | ⟨h1, p, r⟩ | ⟨nm, ln, h1, lo', nn, r⟩
  · by_cases hlt : ((scanF l lo).2.place : Int) + 1 < n
    · exact rread_long A n c l lo W h hn _ (by omega) hlt r
    · have r' : scanR l lo = ⟨(n : Int), 0, -1⟩ := by
        rw [r]
        have := h.len
        congr 1
        omega
      refine rread_ok A n c l lo W h hn r' ?_
      obtain ⟨rs, hb⟩ := scanF_blok l lo h1
      have hz : (readF l lo).1 = 0 := by
        unfold readF
        rw [r']
        simp only
        rw [h.len, if_neg (by omega), if_neg (by omega), if_neg (by omega)]
      obtain ⟨rs', hb', e'⟩ := readF_0 hz
      have e : linesF l lo = (scanF l lo).2.done.map Ln.key := by unfold linesF; rw [r']; simp only; rw [if_neg (by omega)]
      rw [e, List.map_map]
      exact Prod.ext hz e'
  · exact rread_bad A n c l lo W h hn _ (by omega) r
  · exact rread_short A n c l lo W h hn _ (by omega) r
set_option maxRecDepth 100000 in
set_option maxHeartbeats 1000000 in
theorem reads_law (A : Option Addr) (n c : Nat) (l : List UInt8) (lo : Bool) (w : World) (h : RB w A n c l) :
    Calls Tryd.prog 4 #[.slice A n c, .bool lo] w fun e w' => e = .returned (.bool true) ∧ Below w.heap.size w w' := by
  by_cases hbig : (2000 : Int) < n
  · clear h
    go_enter Tryd.func4, Tryd.ntmps4
    go_wp2_with (go_at_call 11; (with_reducible refine (known_any _).mono ?_); rintro e9 w9 ⟨rfl, hb9⟩; have HB9 := Lib.hid hb9; clear hb9)
    go_ret
    exact ⟨rfl, HB9.out⟩
  · have C20 := Lib.hid (read_any A n c l lo w h (by omega))
    have C21 := Lib.hid (fun W (h2 : RB W A n c l) => rread_any A n c l lo W h2 (by omega))
    have C18 := Lib.hid (fun W A2 c2 A3 c3 (h3 : HL W A2 (readF l lo).2.length c2 (readF l lo).2) (h4 : HL W A3 (readF l lo).2.length c3 (readF l lo).2) (hk : (readF l lo).2.length ≤ 100000) => by have := same_any A2 A3 _ c2 _ c3 _ _ W h3 h4 hk; rw [decide_eq_true rfl] at this; exact this)
    have HK : Hid ((readF l lo).2.length ≤ 100000) := Lib.hid (by
      by_cases hz : (readF l lo).1 = 0
      · have := ((validL_iff _).1 (readF_valid hz)).1; omega
      · rw [readF_nil hz]; simp)
    unfold ReadE at C20 C21
    have HP := Lib.hid h
    clear h
    generalize (readF l lo).2 = L at *
    generalize (readF l lo).1 = k at *
    go_enter Tryd.func4, Tryd.ntmps4
    go_upto_region 4 with (go_at_call 20; (with_reducible refine C20.out.mono ?_); rintro e9 w1 ⟨v1, rfl, ho1, hb1⟩; obtain ⟨A1, c1, e1, h1⟩ := own_HL2 ho1 rfl; subst e1; have H1 := Lib.hid h1; have HB1 := Lib.hid hb1; clear ho1 h1 hb1)
    go_upto_region 5 with (go_at_call 21; (with_reducible refine (C21.out _ (HP.out.below HB1.out)).mono ?_); rintro e9 w2 ⟨v2, rfl, ho2, hb2⟩; obtain ⟨A2, c2, e2, h2⟩ := own_HL2 ho2 rfl; subst e2; have H2 := Lib.hid h2; have H12 := Lib.hid (H1.out.below hb2); have HB2 := Lib.hid (HB1.out.trans (hb2.mono HB1.out.size)); clear ho2 h2 hb2)
    go_wp2_with (first | (go_at_call 18; (with_reducible refine (C18.out _ _ _ _ _ H12.out H2.out HK.out).mono ?_); rintro e9 w3 ⟨rfl, hb3⟩; have HB3 := Lib.hid (HB2.out.trans (hb3.mono HB2.out.size)); clear hb3) | (go_at_call 11; (with_reducible refine (known_any _).mono ?_); rintro e9 w9 ⟨rfl, hb9⟩; have HB9 := Lib.hid (HB3.out.trans (hb9.mono HB3.out.size)); clear hb9))
    go_ret
    exact ⟨rfl, HB9.out⟩

end Go.Proofs.YtkalllenggmgoaaDoor
