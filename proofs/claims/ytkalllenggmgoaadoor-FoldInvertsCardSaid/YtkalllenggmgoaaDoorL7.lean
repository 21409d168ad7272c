/- The walk of FoldInverts. -/
import Derived.Test.YtkalllenggmgoaaDoorL3
import Derived.Test.YtkalllenggmgoaaDoorFx
namespace Go.Proofs.YtkalllenggmgoaaDoor
open Go.RowKit
set_option linter.unusedVariables false
set_option linter.unusedSimpArgs false

set_option maxRecDepth 100000 in
set_option maxHeartbeats 1000000 in
theorem inverts_va (A : Option Addr) (n c : Nat) (l : List Hd) (D : Option Addr) (m d : Nat) (bs : List UInt8) (w : World) (h : HL w A n c l) (hq : RB w D m d bs) (hn : (n : Int) ≤ 110) (hm : (m : Int) ≤ 2000) (hv : validL l = true) (e1 e2 : Nat) (l2 : List Hd) (h1 : readF bs true = (e1, [])) (h2 : readF bs false = (e2, l2)) (he1 : e1 ≠ 0) (he2 : e2 ≠ 0) :
    Calls Tryd.prog 7 #[.slice A n c, .slice D m d] w fun e w' => e = .returned (.bool true) ∧ Below w.heap.size w w' := by
  have HP := Lib.hid h
  have HQ := Lib.hid hq
  have HLEN := Lib.hid h.len
  have HV := Lib.hid hv
  have q1 : ((e1 : Int) != 0) = true := by simp; omega
  have q2 : ((e1 : Int) == 0) = false := by simp; omega
  have q3 : ((e2 : Int) == 0) = false := by simp; omega
  have D1 := Lib.hid (fun W (h3 : RB W D m d bs) => by have := read_any D m d bs true W h3 (by omega); unfold ReadE at this; rw [h1] at this; exact this)
  have D2 := Lib.hid (fun W (h3 : RB W D m d bs) => by have := read_any D m d bs false W h3 (by omega); unfold ReadE at this; rw [h2] at this; exact this)
  have C16 : Small l → Hid (∀ W (_ : HL W A n c l), Calls Tryd.prog 16 #[.slice A n c] W fun e w' => e = .returned (.bool true) ∧ Below W.heap.size W w') := fun hd => Lib.hid fun W h2 => by have := validL_any A n c l W h2 (by omega) hd; rw [hv] at this; exact this
  clear h hq hv h1 h2 he1 he2
  go_enter Tryd.func7, Tryd.ntmps7
  · go_upto_region 4 with fail
    go_loopw [5] (fun ii wr => ∃ i : Nat, (i : Int) ≤ n ∧ ii = .int .i64 i ∧ Hid (∀ x ∈ l.take i, x.n.length ≤ 200 ∧ x.t.length ≤ 200) ∧ Hid (Below w.heap.size w wr)) (fun ii _ => n - (intOf ii).toNat)
    case atStart => exact ⟨0, by omega, rfl, Lib.hid (fun x hx => by simp at hx), Lib.hid (Below.refl _ _)⟩
    case round =>
      obtain ⟨i, hi, rfl, HS, HBR⟩ := hrel
      by_cases hlt : (i : Int) < n
      · have hi1 : i < l.length := by rw [HLEN.out]; omega
        obtain ⟨b, o, e, hat⟩ := HP.out.at (by omega)
        subst e
        obtain ⟨f0, f1⟩ := (hat i hi1).below HBR.out
        have hs9 : ∀ (h1 : (l[i]).n.length ≤ 200) (h2 : (l[i]).t.length ≤ 200), ∀ x ∈ l.take (i + 1), x.n.length ≤ 200 ∧ x.t.length ≤ 200 := fun h1 h2 => take_all (p := fun x => x.n.length ≤ 200 ∧ x.t.length ≤ 200) HS.out hi1 ⟨h1, h2⟩
        have zn := size_str (l[i]).n
        have zt := size_str (l[i]).t
        have HS9 := Lib.hid hs9
        generalize l[i] = p at *
        generalize (⟨p.n.toArray⟩ : ByteArray) = sn at *
        generalize (⟨p.t.toArray⟩ : ByteArray) = st at *
        clear hat hs9 hi1
        by_cases hq1 : (200 : Int) < p.n.length
        · go_wp2_with (go_at_call 11; (with_reducible refine (known_any _).mono ?_); rintro e9 w9 ⟨rfl, hb9⟩; have HB9 := Lib.hid (HBR.out.trans (hb9.mono HBR.out.size)); clear hb9)
          go_ret
          exact ⟨rfl, HB9.out⟩
        · by_cases hq2 : (200 : Int) < p.t.length
          · go_wp2_with (go_at_call 11; (with_reducible refine (known_any _).mono ?_); rintro e9 w9 ⟨rfl, hb9⟩; have HB9 := Lib.hid (HBR.out.trans (hb9.mono HBR.out.size)); clear hb9)
            go_ret
            exact ⟨rfl, HB9.out⟩
          · go_wp2_with fail
            go_roundw
            case rel => exact ⟨i + 1, by omega, by go_num, Lib.hid (HS9.out (by omega) (by omega)), Lib.hid (by first | exact HBR.out | exact below_drewN HBR.out _)⟩
            case measure => simp [intOf]; omega
      · obtain rfl : i = n := by omega
        have HD : Hid (Small l) := Lib.hid (fun x hx => by have := HS.out x (by rw [List.take_of_length_le (by rw [HLEN.out]; omega)]; exact hx); omega)
        have HS2 : Hid (∀ x ∈ l, x.n.length ≤ 200 ∧ x.t.length ≤ 200) := Lib.hid (fun x hx => HS.out x (by rw [List.take_of_length_le (by rw [HLEN.out]; omega)]; exact hx))
        have HBW := HBR
        replace C16 := C16 HD.out
        have hsz := writeL_len l 200 200 HS2.out
        have hl9 : l.length ≤ 100 := ((validL_iff l).1 HV.out).1
        have HSZ : Hid ((writeL l).length ≤ 1000000) := Lib.hid (by have : l.length * (200 + 200 + 4) ≤ 100 * 404 := Nat.mul_le_mul hl9 (Nat.le_refl _); omega)
        clear hsz hl9
        have C12 := Lib.hid (fun W (h2 : HL W A i c l) => write_ok A i c l W h2 HD.out HV.out)
        unfold Fresh at C12
        have C20 := Lib.hid (fun W D2 d2 lo (h2 : RB W D2 (writeL l).length d2 (writeL l)) => by have := read_any D2 _ d2 (writeL l) lo W h2 HSZ.out; unfold ReadE at this; rw [readF_write l HV.out] at this; exact this)
        have C18 := Lib.hid (fun W A2 c2 (h2 : HL W A2 l.length c2 l) (h3 : HL W A i c l) => by have := same_any A2 A l.length c2 i c l l W h2 h3 (by have := HLEN.out; omega); rw [decide_eq_true rfl] at this; exact this)
        go_upto_region 10 with (first | (go_at_call 16; (with_reducible refine (C16.out _ (HP.out.below HBW.out)).mono ?_); rintro e9 w9 ⟨rfl, hb9⟩; replace HBW := Lib.hid (HBW.out.trans (hb9.mono HBW.out.size)); clear hb9) | (go_at_call 12; (with_reducible refine (C12.out _ (HP.out.below HBW.out)).mono ?_); rintro e9 w9 ⟨v9, rfl, ho9, hb9⟩; obtain ⟨A6, c6, e9, -⟩ := own_form ho9; subst e9; have HO6 := Lib.hid ho9; have HB6 := Lib.hid (Below.refl w9.heap.size w9); clear ho9; replace HBW := Lib.hid (HBW.out.trans (hb9.mono HBW.out.size)); clear hb9))
        go_upto_region 11 with (go_at_call 20; (with_reducible refine (C20.out _ _ _ _ (own_RB3 (own_keeps HO6.out fun g hg => HB6.out.block g (own_lt HO6.out g hg)))).mono ?_); rintro e9 w9 ⟨v9, rfl, ho9, hb9⟩; obtain ⟨A8, c8, e9, h9⟩ := own_HL' ho9 rfl; subst e9; have HO8 := Lib.hid h9; have HB8 := Lib.hid (Below.refl w9.heap.size w9); clear ho9 h9; replace HBW := Lib.hid (HBW.out.trans (hb9.mono HBW.out.size)); replace HB6 := Lib.hid (HB6.out.trans (hb9.mono HB6.out.size)); clear hb9)
        go_upto_region 12 with (go_at_call 20; (with_reducible refine (C20.out _ _ _ _ (own_RB3 (own_keeps HO6.out fun g hg => HB6.out.block g (own_lt HO6.out g hg)))).mono ?_); rintro e9 w9 ⟨v9, rfl, ho9, hb9⟩; obtain ⟨A10, c10, e9, h9⟩ := own_HL' ho9 rfl; subst e9; have HO10 := Lib.hid h9; have HB10 := Lib.hid (Below.refl w9.heap.size w9); clear ho9 h9; replace HBW := Lib.hid (HBW.out.trans (hb9.mono HBW.out.size)); replace HB6 := Lib.hid (HB6.out.trans (hb9.mono HB6.out.size)); replace HB8 := Lib.hid (HB8.out.trans (hb9.mono HB8.out.size)); clear hb9)
        go_upto_region 14 with (first | (go_at_call 18; (with_reducible refine (C18.out _ _ _ (HO8.out.below HB8.out) (HP.out.below HBW.out)).mono ?_); rintro e9 w9 ⟨rfl, hb9⟩; replace HBW := Lib.hid (HBW.out.trans (hb9.mono HBW.out.size)); replace HB6 := Lib.hid (HB6.out.trans (hb9.mono HB6.out.size)); replace HB8 := Lib.hid (HB8.out.trans (hb9.mono HB8.out.size)); replace HB10 := Lib.hid (HB10.out.trans (hb9.mono HB10.out.size)); clear hb9) | (go_at_call 18; (with_reducible refine (C18.out _ _ _ (HO10.out.below HB10.out) (HP.out.below HBW.out)).mono ?_); rintro e9 w9 ⟨rfl, hb9⟩; replace HBW := Lib.hid (HBW.out.trans (hb9.mono HBW.out.size)); replace HB6 := Lib.hid (HB6.out.trans (hb9.mono HB6.out.size)); replace HB8 := Lib.hid (HB8.out.trans (hb9.mono HB8.out.size)); replace HB10 := Lib.hid (HB10.out.trans (hb9.mono HB10.out.size)); clear hb9))
        clear C12 C18 C20 HO6 HB6 HO8 HB8 HO10 HB10 HSZ C16
        go_upto_region 15 with (go_at_call 20; (with_reducible refine (D1.out _ (HQ.out.below HBW.out)).mono ?_); rintro e9 w9 ⟨v9, rfl, ho9, hb9⟩; obtain ⟨A12, c12, e9, h9⟩ := own_HL' ho9 rfl; subst e9; have HO12 := Lib.hid h9; have HB12 := Lib.hid (Below.refl w9.heap.size w9); clear ho9 h9; replace HBW := Lib.hid (HBW.out.trans (hb9.mono HBW.out.size)); clear hb9)
        go_upto_region 16 with (go_at_call 20; (with_reducible refine (D2.out _ (HQ.out.below HBW.out)).mono ?_); rintro e9 w9 ⟨v9, rfl, ho9, hb9⟩; obtain ⟨A14, c14, e9, h9⟩ := own_HL' ho9 rfl; subst e9; have HO14 := Lib.hid h9; have HB14 := Lib.hid (Below.refl w9.heap.size w9); clear ho9 h9; replace HBW := Lib.hid (HBW.out.trans (hb9.mono HBW.out.size)); replace HB12 := Lib.hid (HB12.out.trans (hb9.mono HB12.out.size)); clear hb9)
        go_wp2_with (go_at_call 11; (with_reducible refine (known_any _).mono ?_); rintro e9 w9 ⟨rfl, hb9⟩; have HB9 := Lib.hid (HBW.out.trans (hb9.mono HBW.out.size)); clear hb9)
        go_ret
        exact ⟨rfl, HB9.out⟩

set_option maxRecDepth 100000 in
set_option maxHeartbeats 1000000 in
theorem inverts_vb (A : Option Addr) (n c : Nat) (l : List Hd) (D : Option Addr) (m d : Nat) (bs : List UInt8) (w : World) (h : HL w A n c l) (hq : RB w D m d bs) (hn : (n : Int) ≤ 110) (hm : (m : Int) ≤ 2000) (hv : validL l = true) (e2 : Nat) (l1 l2 : List Hd) (h1 : readF bs true = (0, l1)) (h2 : readF bs false = (e2, l2)) (he2 : e2 ≠ 0) :
    Calls Tryd.prog 7 #[.slice A n c, .slice D m d] w fun e w' => e = .returned (.bool true) ∧ Below w.heap.size w w' := by
  have HP := Lib.hid h
  have HQ := Lib.hid hq
  have HLEN := Lib.hid h.len
  have HV := Lib.hid hv
  have q3 : ((e2 : Int) == 0) = false := by simp; omega
  have q4 : ((e2 : Int) != 0) = true := by simp; omega
  have hv1 : validL l1 = true := by have := readF_valid (l := bs) (loose := true) (by rw [h1]); rwa [h1] at this
  have hl1 := readF_len (l := bs) (lo := true) (by rw [h1])
  rw [h1] at hl1
  have hs1 : Small l1 := fun x hx => by have := hl1 x hx; have := hq.len; exact ⟨by omega, by omega⟩
  have hz1 : (writeL l1).length ≤ 1000000 := by
    have h3 := writeL_len l1 32 2000 (fun x hx => by have := hl1 x hx; have := hq.len; exact ⟨(hl1 x hx).1, by have := (hl1 x hx).2; omega⟩)
    have h4 : l1.length ≤ 100 := ((validL_iff l1).1 hv1).1
    have : l1.length * (32 + 2000 + 4) ≤ 100 * 2036 := Nat.mul_le_mul h4 (Nat.le_refl _)
    omega
  have hk1 : l1.length ≤ 100 := ((validL_iff l1).1 hv1).1
  have D12 := Lib.hid (fun W A2 c2 (h3 : HL W A2 l1.length c2 l1) => write_ok A2 l1.length c2 l1 W h3 hs1 hv1)
  unfold Fresh at D12
  have D20 := Lib.hid (fun W D2 d2 (h3 : RB W D2 (writeL l1).length d2 (writeL l1)) => by have := read_any D2 _ d2 (writeL l1) false W h3 hz1; unfold ReadE at this; rw [readF_write l1 hv1] at this; exact this)
  have D18 := Lib.hid (fun W A2 c2 A3 c3 (h3 : HL W A2 l1.length c2 l1) (h4 : HL W A3 l1.length c3 l1) => by have := same_any A2 A3 l1.length c2 l1.length c3 l1 l1 W h3 h4 (by omega); rw [decide_eq_true rfl] at this; exact this)
  have D16 := Lib.hid (fun W A2 c2 (h3 : HL W A2 l1.length c2 l1) => by have := validL_any A2 l1.length c2 l1 W h3 (by omega) hs1; rw [hv1] at this; exact this)
  clear hv1 hl1 hs1 hz1 hk1
  have D1 := Lib.hid (fun W (h3 : RB W D m d bs) => by have := read_any D m d bs true W h3 (by omega); unfold ReadE at this; rw [h1] at this; exact this)
  have D2 := Lib.hid (fun W (h3 : RB W D m d bs) => by have := read_any D m d bs false W h3 (by omega); unfold ReadE at this; rw [h2] at this; exact this)
  have C16 : Small l → Hid (∀ W (_ : HL W A n c l), Calls Tryd.prog 16 #[.slice A n c] W fun e w' => e = .returned (.bool true) ∧ Below W.heap.size W w') := fun hd => Lib.hid fun W h2 => by have := validL_any A n c l W h2 (by omega) hd; rw [hv] at this; exact this
  clear h hq hv h1 h2 he2
  go_enter Tryd.func7, Tryd.ntmps7
  · go_upto_region 4 with fail
    go_loopw [5] (fun ii wr => ∃ i : Nat, (i : Int) ≤ n ∧ ii = .int .i64 i ∧ Hid (∀ x ∈ l.take i, x.n.length ≤ 200 ∧ x.t.length ≤ 200) ∧ Hid (Below w.heap.size w wr)) (fun ii _ => n - (intOf ii).toNat)
    case atStart => exact ⟨0, by omega, rfl, Lib.hid (fun x hx => by simp at hx), Lib.hid (Below.refl _ _)⟩
    case round =>
      obtain ⟨i, hi, rfl, HS, HBR⟩ := hrel
      by_cases hlt : (i : Int) < n
      · have hi1 : i < l.length := by rw [HLEN.out]; omega
        obtain ⟨b, o, e, hat⟩ := HP.out.at (by omega)
        subst e
        obtain ⟨f0, f1⟩ := (hat i hi1).below HBR.out
        have hs9 : ∀ (h1 : (l[i]).n.length ≤ 200) (h2 : (l[i]).t.length ≤ 200), ∀ x ∈ l.take (i + 1), x.n.length ≤ 200 ∧ x.t.length ≤ 200 := fun h1 h2 => take_all (p := fun x => x.n.length ≤ 200 ∧ x.t.length ≤ 200) HS.out hi1 ⟨h1, h2⟩
        have zn := size_str (l[i]).n
        have zt := size_str (l[i]).t
        have HS9 := Lib.hid hs9
        generalize l[i] = p at *
        generalize (⟨p.n.toArray⟩ : ByteArray) = sn at *
        generalize (⟨p.t.toArray⟩ : ByteArray) = st at *
        clear hat hs9 hi1
        by_cases hq1 : (200 : Int) < p.n.length
        · go_wp2_with (go_at_call 11; (with_reducible refine (known_any _).mono ?_); rintro e9 w9 ⟨rfl, hb9⟩; have HB9 := Lib.hid (HBR.out.trans (hb9.mono HBR.out.size)); clear hb9)
          go_ret
          exact ⟨rfl, HB9.out⟩
        · by_cases hq2 : (200 : Int) < p.t.length
          · go_wp2_with (go_at_call 11; (with_reducible refine (known_any _).mono ?_); rintro e9 w9 ⟨rfl, hb9⟩; have HB9 := Lib.hid (HBR.out.trans (hb9.mono HBR.out.size)); clear hb9)
            go_ret
            exact ⟨rfl, HB9.out⟩
          · go_wp2_with fail
            go_roundw
            case rel => exact ⟨i + 1, by omega, by go_num, Lib.hid (HS9.out (by omega) (by omega)), Lib.hid (by first | exact HBR.out | exact below_drewN HBR.out _)⟩
            case measure => simp [intOf]; omega
      · obtain rfl : i = n := by omega
        have HD : Hid (Small l) := Lib.hid (fun x hx => by have := HS.out x (by rw [List.take_of_length_le (by rw [HLEN.out]; omega)]; exact hx); omega)
        have HS2 : Hid (∀ x ∈ l, x.n.length ≤ 200 ∧ x.t.length ≤ 200) := Lib.hid (fun x hx => HS.out x (by rw [List.take_of_length_le (by rw [HLEN.out]; omega)]; exact hx))
        have HBW := HBR
        replace C16 := C16 HD.out
        have hsz := writeL_len l 200 200 HS2.out
        have hl9 : l.length ≤ 100 := ((validL_iff l).1 HV.out).1
        have HSZ : Hid ((writeL l).length ≤ 1000000) := Lib.hid (by have : l.length * (200 + 200 + 4) ≤ 100 * 404 := Nat.mul_le_mul hl9 (Nat.le_refl _); omega)
        clear hsz hl9
        have C12 := Lib.hid (fun W (h2 : HL W A i c l) => write_ok A i c l W h2 HD.out HV.out)
        unfold Fresh at C12
        have C20 := Lib.hid (fun W D2 d2 lo (h2 : RB W D2 (writeL l).length d2 (writeL l)) => by have := read_any D2 _ d2 (writeL l) lo W h2 HSZ.out; unfold ReadE at this; rw [readF_write l HV.out] at this; exact this)
        have C18 := Lib.hid (fun W A2 c2 (h2 : HL W A2 l.length c2 l) (h3 : HL W A i c l) => by have := same_any A2 A l.length c2 i c l l W h2 h3 (by have := HLEN.out; omega); rw [decide_eq_true rfl] at this; exact this)
        go_upto_region 10 with (first | (go_at_call 16; (with_reducible refine (C16.out _ (HP.out.below HBW.out)).mono ?_); rintro e9 w9 ⟨rfl, hb9⟩; replace HBW := Lib.hid (HBW.out.trans (hb9.mono HBW.out.size)); clear hb9) | (go_at_call 12; (with_reducible refine (C12.out _ (HP.out.below HBW.out)).mono ?_); rintro e9 w9 ⟨v9, rfl, ho9, hb9⟩; obtain ⟨A6, c6, e9, -⟩ := own_form ho9; subst e9; have HO6 := Lib.hid ho9; have HB6 := Lib.hid (Below.refl w9.heap.size w9); clear ho9; replace HBW := Lib.hid (HBW.out.trans (hb9.mono HBW.out.size)); clear hb9))
        go_upto_region 11 with (go_at_call 20; (with_reducible refine (C20.out _ _ _ _ (own_RB3 (own_keeps HO6.out fun g hg => HB6.out.block g (own_lt HO6.out g hg)))).mono ?_); rintro e9 w9 ⟨v9, rfl, ho9, hb9⟩; obtain ⟨A8, c8, e9, h9⟩ := own_HL' ho9 rfl; subst e9; have HO8 := Lib.hid h9; have HB8 := Lib.hid (Below.refl w9.heap.size w9); clear ho9 h9; replace HBW := Lib.hid (HBW.out.trans (hb9.mono HBW.out.size)); replace HB6 := Lib.hid (HB6.out.trans (hb9.mono HB6.out.size)); clear hb9)
        go_upto_region 12 with (go_at_call 20; (with_reducible refine (C20.out _ _ _ _ (own_RB3 (own_keeps HO6.out fun g hg => HB6.out.block g (own_lt HO6.out g hg)))).mono ?_); rintro e9 w9 ⟨v9, rfl, ho9, hb9⟩; obtain ⟨A10, c10, e9, h9⟩ := own_HL' ho9 rfl; subst e9; have HO10 := Lib.hid h9; have HB10 := Lib.hid (Below.refl w9.heap.size w9); clear ho9 h9; replace HBW := Lib.hid (HBW.out.trans (hb9.mono HBW.out.size)); replace HB6 := Lib.hid (HB6.out.trans (hb9.mono HB6.out.size)); replace HB8 := Lib.hid (HB8.out.trans (hb9.mono HB8.out.size)); clear hb9)
        go_upto_region 14 with (first | (go_at_call 18; (with_reducible refine (C18.out _ _ _ (HO8.out.below HB8.out) (HP.out.below HBW.out)).mono ?_); rintro e9 w9 ⟨rfl, hb9⟩; replace HBW := Lib.hid (HBW.out.trans (hb9.mono HBW.out.size)); replace HB6 := Lib.hid (HB6.out.trans (hb9.mono HB6.out.size)); replace HB8 := Lib.hid (HB8.out.trans (hb9.mono HB8.out.size)); replace HB10 := Lib.hid (HB10.out.trans (hb9.mono HB10.out.size)); clear hb9) | (go_at_call 18; (with_reducible refine (C18.out _ _ _ (HO10.out.below HB10.out) (HP.out.below HBW.out)).mono ?_); rintro e9 w9 ⟨rfl, hb9⟩; replace HBW := Lib.hid (HBW.out.trans (hb9.mono HBW.out.size)); replace HB6 := Lib.hid (HB6.out.trans (hb9.mono HB6.out.size)); replace HB8 := Lib.hid (HB8.out.trans (hb9.mono HB8.out.size)); replace HB10 := Lib.hid (HB10.out.trans (hb9.mono HB10.out.size)); clear hb9))
        clear C12 C18 C20 HO6 HB6 HO8 HB8 HO10 HB10 HSZ C16
        go_upto_region 15 with (go_at_call 20; (with_reducible refine (D1.out _ (HQ.out.below HBW.out)).mono ?_); rintro e9 w9 ⟨v9, rfl, ho9, hb9⟩; obtain ⟨A12, c12, e9, h9⟩ := own_HL' ho9 rfl; subst e9; have HO12 := Lib.hid h9; have HB12 := Lib.hid (Below.refl w9.heap.size w9); clear ho9 h9; replace HBW := Lib.hid (HBW.out.trans (hb9.mono HBW.out.size)); clear hb9)
        go_upto_region 16 with (go_at_call 20; (with_reducible refine (D2.out _ (HQ.out.below HBW.out)).mono ?_); rintro e9 w9 ⟨v9, rfl, ho9, hb9⟩; obtain ⟨A14, c14, e9, h9⟩ := own_HL' ho9 rfl; subst e9; have HO14 := Lib.hid h9; have HB14 := Lib.hid (Below.refl w9.heap.size w9); clear ho9 h9; replace HBW := Lib.hid (HBW.out.trans (hb9.mono HBW.out.size)); replace HB12 := Lib.hid (HB12.out.trans (hb9.mono HB12.out.size)); clear hb9)
        go_upto_region 18 with fail
        go_upto_region 21 with (go_at_call 12; (with_reducible refine (D12.out _ _ _ (HO12.out.below HB12.out)).mono ?_); rintro e9 w9 ⟨v9, rfl, ho9, hb9⟩; obtain ⟨A16, c16, e9, -⟩ := own_form ho9; subst e9; have HO16 := Lib.hid ho9; have HB16 := Lib.hid (Below.refl w9.heap.size w9); clear ho9; replace HBW := Lib.hid (HBW.out.trans (hb9.mono HBW.out.size)); replace HB12 := Lib.hid (HB12.out.trans (hb9.mono HB12.out.size)); replace HB14 := Lib.hid (HB14.out.trans (hb9.mono HB14.out.size)); clear hb9)
        go_upto_region 22 with (go_at_call 20; (with_reducible refine (D20.out _ _ _ (own_RB3 (own_keeps HO16.out fun g hg => HB16.out.block g (own_lt HO16.out g hg)))).mono ?_); rintro e9 w9 ⟨v9, rfl, ho9, hb9⟩; obtain ⟨A18, c18, e9, h9⟩ := own_HL' ho9 rfl; subst e9; have HO18 := Lib.hid h9; have HB18 := Lib.hid (Below.refl w9.heap.size w9); clear ho9 h9; replace HBW := Lib.hid (HBW.out.trans (hb9.mono HBW.out.size)); replace HB12 := Lib.hid (HB12.out.trans (hb9.mono HB12.out.size)); replace HB14 := Lib.hid (HB14.out.trans (hb9.mono HB14.out.size)); replace HB16 := Lib.hid (HB16.out.trans (hb9.mono HB16.out.size)); clear hb9)
        go_wp2_with (first | (go_at_call 16; (with_reducible refine (D16.out _ _ _ (HO12.out.below HB12.out)).mono ?_); rintro e9 w9 ⟨rfl, hb9⟩; replace HBW := Lib.hid (HBW.out.trans (hb9.mono HBW.out.size)); replace HB12 := Lib.hid (HB12.out.trans (hb9.mono HB12.out.size)); replace HB14 := Lib.hid (HB14.out.trans (hb9.mono HB14.out.size)); replace HB16 := Lib.hid (HB16.out.trans (hb9.mono HB16.out.size)); replace HB18 := Lib.hid (HB18.out.trans (hb9.mono HB18.out.size)); clear hb9) | (go_at_call 18; (with_reducible refine (D18.out _ _ _ _ _ (HO12.out.below HB12.out) (HO18.out.below HB18.out)).mono ?_); rintro e9 w9 ⟨rfl, hb9⟩; replace HBW := Lib.hid (HBW.out.trans (hb9.mono HBW.out.size)); replace HB12 := Lib.hid (HB12.out.trans (hb9.mono HB12.out.size)); replace HB14 := Lib.hid (HB14.out.trans (hb9.mono HB14.out.size)); replace HB16 := Lib.hid (HB16.out.trans (hb9.mono HB16.out.size)); replace HB18 := Lib.hid (HB18.out.trans (hb9.mono HB18.out.size)); clear hb9) | (go_at_call 11; (with_reducible refine (known_any _).mono ?_); rintro e9 w9 ⟨rfl, hb9⟩; have HB9 := Lib.hid (HBW.out.trans (hb9.mono HBW.out.size)); clear hb9))
        go_ret
        exact ⟨rfl, HB9.out⟩

set_option maxRecDepth 100000 in
set_option maxHeartbeats 1000000 in
theorem inverts_vc (A : Option Addr) (n c : Nat) (l : List Hd) (D : Option Addr) (m d : Nat) (bs : List UInt8) (w : World) (h : HL w A n c l) (hq : RB w D m d bs) (hn : (n : Int) ≤ 110) (hm : (m : Int) ≤ 2000) (hv : validL l = true) (l1 : List Hd) (h1 : readF bs true = (0, l1)) (h2 : readF bs false = (0, l1)) (hwb : writeL l1 = bs) :
    Calls Tryd.prog 7 #[.slice A n c, .slice D m d] w fun e w' => e = .returned (.bool true) ∧ Below w.heap.size w w' := by
  have HP := Lib.hid h
  have HQ := Lib.hid hq
  have HLEN := Lib.hid h.len
  have HV := Lib.hid hv
  have hv1 : validL l1 = true := by have := readF_valid (l := bs) (loose := true) (by rw [h1]); rwa [h1] at this
  have hl1 := readF_len (l := bs) (lo := true) (by rw [h1])
  rw [h1] at hl1
  have hs1 : Small l1 := fun x hx => by have := hl1 x hx; have := hq.len; exact ⟨by omega, by omega⟩
  have hz1 : (writeL l1).length ≤ 1000000 := by
    have h3 := writeL_len l1 32 2000 (fun x hx => by have := hl1 x hx; have := hq.len; exact ⟨(hl1 x hx).1, by have := (hl1 x hx).2; omega⟩)
    have h4 : l1.length ≤ 100 := ((validL_iff l1).1 hv1).1
    have : l1.length * (32 + 2000 + 4) ≤ 100 * 2036 := Nat.mul_le_mul h4 (Nat.le_refl _)
    omega
  have hk1 : l1.length ≤ 100 := ((validL_iff l1).1 hv1).1
  have D12 := Lib.hid (fun W A2 c2 (h3 : HL W A2 l1.length c2 l1) => write_ok A2 l1.length c2 l1 W h3 hs1 hv1)
  unfold Fresh at D12
  have D20 := Lib.hid (fun W D2 d2 (h3 : RB W D2 (writeL l1).length d2 (writeL l1)) => by have := read_any D2 _ d2 (writeL l1) false W h3 hz1; unfold ReadE at this; rw [readF_write l1 hv1] at this; exact this)
  have D18 := Lib.hid (fun W A2 c2 A3 c3 (h3 : HL W A2 l1.length c2 l1) (h4 : HL W A3 l1.length c3 l1) => by have := same_any A2 A3 l1.length c2 l1.length c3 l1 l1 W h3 h4 (by omega); rw [decide_eq_true rfl] at this; exact this)
  have D16 := Lib.hid (fun W A2 c2 (h3 : HL W A2 l1.length c2 l1) => by have := validL_any A2 l1.length c2 l1 W h3 (by omega) hs1; rw [hv1] at this; exact this)
  clear hv1 hl1 hs1 hz1 hk1
  have HSTR : Hid ((⟨(writeL l1).toArray⟩ : ByteArray) = ⟨bs.toArray⟩) := Lib.hid (by rw [hwb])
  clear hwb
  have D1 := Lib.hid (fun W (h3 : RB W D m d bs) => by have := read_any D m d bs true W h3 (by omega); unfold ReadE at this; rw [h1] at this; exact this)
  have D2 := Lib.hid (fun W (h3 : RB W D m d bs) => by have := read_any D m d bs false W h3 (by omega); unfold ReadE at this; rw [h2] at this; exact this)
  have C16 : Small l → Hid (∀ W (_ : HL W A n c l), Calls Tryd.prog 16 #[.slice A n c] W fun e w' => e = .returned (.bool true) ∧ Below W.heap.size W w') := fun hd => Lib.hid fun W h2 => by have := validL_any A n c l W h2 (by omega) hd; rw [hv] at this; exact this
  clear h hq hv h1 h2 
  go_enter Tryd.func7, Tryd.ntmps7
  · go_upto_region 4 with fail
    go_loopw [5] (fun ii wr => ∃ i : Nat, (i : Int) ≤ n ∧ ii = .int .i64 i ∧ Hid (∀ x ∈ l.take i, x.n.length ≤ 200 ∧ x.t.length ≤ 200) ∧ Hid (Below w.heap.size w wr)) (fun ii _ => n - (intOf ii).toNat)
    case atStart => exact ⟨0, by omega, rfl, Lib.hid (fun x hx => by simp at hx), Lib.hid (Below.refl _ _)⟩
    case round =>
      obtain ⟨i, hi, rfl, HS, HBR⟩ := hrel
      by_cases hlt : (i : Int) < n
      · have hi1 : i < l.length := by rw [HLEN.out]; omega
        obtain ⟨b, o, e, hat⟩ := HP.out.at (by omega)
        subst e
        obtain ⟨f0, f1⟩ := (hat i hi1).below HBR.out
        have hs9 : ∀ (h1 : (l[i]).n.length ≤ 200) (h2 : (l[i]).t.length ≤ 200), ∀ x ∈ l.take (i + 1), x.n.length ≤ 200 ∧ x.t.length ≤ 200 := fun h1 h2 => take_all (p := fun x => x.n.length ≤ 200 ∧ x.t.length ≤ 200) HS.out hi1 ⟨h1, h2⟩
        have zn := size_str (l[i]).n
        have zt := size_str (l[i]).t
        have HS9 := Lib.hid hs9
        generalize l[i] = p at *
        generalize (⟨p.n.toArray⟩ : ByteArray) = sn at *
        generalize (⟨p.t.toArray⟩ : ByteArray) = st at *
        clear hat hs9 hi1
        by_cases hq1 : (200 : Int) < p.n.length
        · go_wp2_with (go_at_call 11; (with_reducible refine (known_any _).mono ?_); rintro e9 w9 ⟨rfl, hb9⟩; have HB9 := Lib.hid (HBR.out.trans (hb9.mono HBR.out.size)); clear hb9)
          go_ret
          exact ⟨rfl, HB9.out⟩
        · by_cases hq2 : (200 : Int) < p.t.length
          · go_wp2_with (go_at_call 11; (with_reducible refine (known_any _).mono ?_); rintro e9 w9 ⟨rfl, hb9⟩; have HB9 := Lib.hid (HBR.out.trans (hb9.mono HBR.out.size)); clear hb9)
            go_ret
            exact ⟨rfl, HB9.out⟩
          · go_wp2_with fail
            go_roundw
            case rel => exact ⟨i + 1, by omega, by go_num, Lib.hid (HS9.out (by omega) (by omega)), Lib.hid (by first | exact HBR.out | exact below_drewN HBR.out _)⟩
            case measure => simp [intOf]; omega
      · obtain rfl : i = n := by omega
        have HD : Hid (Small l) := Lib.hid (fun x hx => by have := HS.out x (by rw [List.take_of_length_le (by rw [HLEN.out]; omega)]; exact hx); omega)
        have HS2 : Hid (∀ x ∈ l, x.n.length ≤ 200 ∧ x.t.length ≤ 200) := Lib.hid (fun x hx => HS.out x (by rw [List.take_of_length_le (by rw [HLEN.out]; omega)]; exact hx))
        have HBW := HBR
        replace C16 := C16 HD.out
        have hsz := writeL_len l 200 200 HS2.out
        have hl9 : l.length ≤ 100 := ((validL_iff l).1 HV.out).1
        have HSZ : Hid ((writeL l).length ≤ 1000000) := Lib.hid (by have : l.length * (200 + 200 + 4) ≤ 100 * 404 := Nat.mul_le_mul hl9 (Nat.le_refl _); omega)
        clear hsz hl9
        have C12 := Lib.hid (fun W (h2 : HL W A i c l) => write_ok A i c l W h2 HD.out HV.out)
        unfold Fresh at C12
        have C20 := Lib.hid (fun W D2 d2 lo (h2 : RB W D2 (writeL l).length d2 (writeL l)) => by have := read_any D2 _ d2 (writeL l) lo W h2 HSZ.out; unfold ReadE at this; rw [readF_write l HV.out] at this; exact this)
        have C18 := Lib.hid (fun W A2 c2 (h2 : HL W A2 l.length c2 l) (h3 : HL W A i c l) => by have := same_any A2 A l.length c2 i c l l W h2 h3 (by have := HLEN.out; omega); rw [decide_eq_true rfl] at this; exact this)
        go_upto_region 10 with (first | (go_at_call 16; (with_reducible refine (C16.out _ (HP.out.below HBW.out)).mono ?_); rintro e9 w9 ⟨rfl, hb9⟩; replace HBW := Lib.hid (HBW.out.trans (hb9.mono HBW.out.size)); clear hb9) | (go_at_call 12; (with_reducible refine (C12.out _ (HP.out.below HBW.out)).mono ?_); rintro e9 w9 ⟨v9, rfl, ho9, hb9⟩; obtain ⟨A6, c6, e9, -⟩ := own_form ho9; subst e9; have HO6 := Lib.hid ho9; have HB6 := Lib.hid (Below.refl w9.heap.size w9); clear ho9; replace HBW := Lib.hid (HBW.out.trans (hb9.mono HBW.out.size)); clear hb9))
        go_upto_region 11 with (go_at_call 20; (with_reducible refine (C20.out _ _ _ _ (own_RB3 (own_keeps HO6.out fun g hg => HB6.out.block g (own_lt HO6.out g hg)))).mono ?_); rintro e9 w9 ⟨v9, rfl, ho9, hb9⟩; obtain ⟨A8, c8, e9, h9⟩ := own_HL' ho9 rfl; subst e9; have HO8 := Lib.hid h9; have HB8 := Lib.hid (Below.refl w9.heap.size w9); clear ho9 h9; replace HBW := Lib.hid (HBW.out.trans (hb9.mono HBW.out.size)); replace HB6 := Lib.hid (HB6.out.trans (hb9.mono HB6.out.size)); clear hb9)
        go_upto_region 12 with (go_at_call 20; (with_reducible refine (C20.out _ _ _ _ (own_RB3 (own_keeps HO6.out fun g hg => HB6.out.block g (own_lt HO6.out g hg)))).mono ?_); rintro e9 w9 ⟨v9, rfl, ho9, hb9⟩; obtain ⟨A10, c10, e9, h9⟩ := own_HL' ho9 rfl; subst e9; have HO10 := Lib.hid h9; have HB10 := Lib.hid (Below.refl w9.heap.size w9); clear ho9 h9; replace HBW := Lib.hid (HBW.out.trans (hb9.mono HBW.out.size)); replace HB6 := Lib.hid (HB6.out.trans (hb9.mono HB6.out.size)); replace HB8 := Lib.hid (HB8.out.trans (hb9.mono HB8.out.size)); clear hb9)
        go_upto_region 14 with (first | (go_at_call 18; (with_reducible refine (C18.out _ _ _ (HO8.out.below HB8.out) (HP.out.below HBW.out)).mono ?_); rintro e9 w9 ⟨rfl, hb9⟩; replace HBW := Lib.hid (HBW.out.trans (hb9.mono HBW.out.size)); replace HB6 := Lib.hid (HB6.out.trans (hb9.mono HB6.out.size)); replace HB8 := Lib.hid (HB8.out.trans (hb9.mono HB8.out.size)); replace HB10 := Lib.hid (HB10.out.trans (hb9.mono HB10.out.size)); clear hb9) | (go_at_call 18; (with_reducible refine (C18.out _ _ _ (HO10.out.below HB10.out) (HP.out.below HBW.out)).mono ?_); rintro e9 w9 ⟨rfl, hb9⟩; replace HBW := Lib.hid (HBW.out.trans (hb9.mono HBW.out.size)); replace HB6 := Lib.hid (HB6.out.trans (hb9.mono HB6.out.size)); replace HB8 := Lib.hid (HB8.out.trans (hb9.mono HB8.out.size)); replace HB10 := Lib.hid (HB10.out.trans (hb9.mono HB10.out.size)); clear hb9))
        clear C12 C18 C20 HO6 HB6 HO8 HB8 HO10 HB10 HSZ C16
        go_upto_region 15 with (go_at_call 20; (with_reducible refine (D1.out _ (HQ.out.below HBW.out)).mono ?_); rintro e9 w9 ⟨v9, rfl, ho9, hb9⟩; obtain ⟨A12, c12, e9, h9⟩ := own_HL' ho9 rfl; subst e9; have HO12 := Lib.hid h9; have HB12 := Lib.hid (Below.refl w9.heap.size w9); clear ho9 h9; replace HBW := Lib.hid (HBW.out.trans (hb9.mono HBW.out.size)); clear hb9)
        go_upto_region 16 with (go_at_call 20; (with_reducible refine (D2.out _ (HQ.out.below HBW.out)).mono ?_); rintro e9 w9 ⟨v9, rfl, ho9, hb9⟩; obtain ⟨A14, c14, e9, h9⟩ := own_HL' ho9 rfl; subst e9; have HO14 := Lib.hid h9; have HB14 := Lib.hid (Below.refl w9.heap.size w9); clear ho9 h9; replace HBW := Lib.hid (HBW.out.trans (hb9.mono HBW.out.size)); replace HB12 := Lib.hid (HB12.out.trans (hb9.mono HB12.out.size)); clear hb9)
        go_upto_region 18 with (go_at_call 18; (with_reducible refine (D18.out _ _ _ _ _ (HO12.out.below HB12.out) (HO14.out.below HB14.out)).mono ?_); rintro e9 w9 ⟨rfl, hb9⟩; replace HBW := Lib.hid (HBW.out.trans (hb9.mono HBW.out.size)); replace HB12 := Lib.hid (HB12.out.trans (hb9.mono HB12.out.size)); replace HB14 := Lib.hid (HB14.out.trans (hb9.mono HB14.out.size)); clear hb9)
        go_upto_region 21 with (go_at_call 12; (with_reducible refine (D12.out _ _ _ (HO12.out.below HB12.out)).mono ?_); rintro e9 w9 ⟨v9, rfl, ho9, hb9⟩; obtain ⟨A16, c16, e9, -⟩ := own_form ho9; subst e9; have HO16 := Lib.hid ho9; have HB16 := Lib.hid (Below.refl w9.heap.size w9); clear ho9; replace HBW := Lib.hid (HBW.out.trans (hb9.mono HBW.out.size)); replace HB12 := Lib.hid (HB12.out.trans (hb9.mono HB12.out.size)); replace HB14 := Lib.hid (HB14.out.trans (hb9.mono HB14.out.size)); clear hb9)
        go_upto_region 22 with (go_at_call 20; (with_reducible refine (D20.out _ _ _ (own_RB3 (own_keeps HO16.out fun g hg => HB16.out.block g (own_lt HO16.out g hg)))).mono ?_); rintro e9 w9 ⟨v9, rfl, ho9, hb9⟩; obtain ⟨A18, c18, e9, h9⟩ := own_HL' ho9 rfl; subst e9; have HO18 := Lib.hid h9; have HB18 := Lib.hid (Below.refl w9.heap.size w9); clear ho9 h9; replace HBW := Lib.hid (HBW.out.trans (hb9.mono HBW.out.size)); replace HB12 := Lib.hid (HB12.out.trans (hb9.mono HB12.out.size)); replace HB14 := Lib.hid (HB14.out.trans (hb9.mono HB14.out.size)); replace HB16 := Lib.hid (HB16.out.trans (hb9.mono HB16.out.size)); clear hb9)
        have HCV := Lib.hid (fun W (k1 : Below w9.heap.size w9 W) => conv_RB (own_RB3 (own_keeps HO16.out fun g hg => (HB16.out.trans (k1.mono HB16.out.size)).block g (own_lt HO16.out g hg))))
        have HBL := Lib.hid (Below.refl w9.heap.size w9)
        go_wp2_with (first | (go_at_call 16; (with_reducible refine (D16.out _ _ _ (HO12.out.below HB12.out)).mono ?_); rintro e9 w9 ⟨rfl, hb9⟩; replace HBW := Lib.hid (HBW.out.trans (hb9.mono HBW.out.size)); replace HB12 := Lib.hid (HB12.out.trans (hb9.mono HB12.out.size)); replace HB14 := Lib.hid (HB14.out.trans (hb9.mono HB14.out.size)); replace HB16 := Lib.hid (HB16.out.trans (hb9.mono HB16.out.size)); replace HB18 := Lib.hid (HB18.out.trans (hb9.mono HB18.out.size)); replace HBL := Lib.hid (HBL.out.trans (hb9.mono HBL.out.size)); clear hb9) | (go_at_call 18; (with_reducible refine (D18.out _ _ _ _ _ (HO12.out.below HB12.out) (HO18.out.below HB18.out)).mono ?_); rintro e9 w9 ⟨rfl, hb9⟩; replace HBW := Lib.hid (HBW.out.trans (hb9.mono HBW.out.size)); replace HB12 := Lib.hid (HB12.out.trans (hb9.mono HB12.out.size)); replace HB14 := Lib.hid (HB14.out.trans (hb9.mono HB14.out.size)); replace HB16 := Lib.hid (HB16.out.trans (hb9.mono HB16.out.size)); replace HB18 := Lib.hid (HB18.out.trans (hb9.mono HB18.out.size)); replace HBL := Lib.hid (HBL.out.trans (hb9.mono HBL.out.size)); clear hb9; have u16 := HCV.out _ HBL.out; have ub := conv_RB (HQ.out.below HBW.out); rw [HSTR.out] at u16; refine Hid.out ?_))
        generalize (⟨bs.toArray⟩ : ByteArray) = sw at *
        refine Lib.hid ?_
        go_wp2_with (go_at_call 11; (with_reducible refine (known_any _).mono ?_); rintro e9 w9 ⟨rfl, hb9⟩; have HB9 := Lib.hid (HBW.out.trans (hb9.mono HBW.out.size)); clear hb9)
        go_ret
        exact ⟨rfl, HB9.out⟩

set_option maxRecDepth 100000 in
set_option maxHeartbeats 1000000 in
theorem inverts_na (A : Option Addr) (n c : Nat) (l : List Hd) (D : Option Addr) (m d : Nat) (bs : List UInt8) (w : World) (h : HL w A n c l) (hq : RB w D m d bs) (hn : (n : Int) ≤ 110) (hm : (m : Int) ≤ 2000) (hv : validL l = false) (e1 e2 : Nat) (l2 : List Hd) (h1 : readF bs true = (e1, [])) (h2 : readF bs false = (e2, l2)) (he1 : e1 ≠ 0) (he2 : e2 ≠ 0) :
    Calls Tryd.prog 7 #[.slice A n c, .slice D m d] w fun e w' => e = .returned (.bool true) ∧ Below w.heap.size w w' := by
  have HP := Lib.hid h
  have HQ := Lib.hid hq
  have HLEN := Lib.hid h.len
  have HV := Lib.hid hv
  have q1 : ((e1 : Int) != 0) = true := by simp; omega
  have q2 : ((e1 : Int) == 0) = false := by simp; omega
  have q3 : ((e2 : Int) == 0) = false := by simp; omega
  have D1 := Lib.hid (fun W (h3 : RB W D m d bs) => by have := read_any D m d bs true W h3 (by omega); unfold ReadE at this; rw [h1] at this; exact this)
  have D2 := Lib.hid (fun W (h3 : RB W D m d bs) => by have := read_any D m d bs false W h3 (by omega); unfold ReadE at this; rw [h2] at this; exact this)
  have C16 : Small l → Hid (∀ W (_ : HL W A n c l), Calls Tryd.prog 16 #[.slice A n c] W fun e w' => e = .returned (.bool false) ∧ Below W.heap.size W w') := fun hd => Lib.hid fun W h2 => by have := validL_any A n c l W h2 (by omega) hd; rw [hv] at this; exact this
  clear h hq hv h1 h2 he1 he2
  go_enter Tryd.func7, Tryd.ntmps7
  · go_upto_region 4 with fail
    go_loopw [5] (fun ii wr => ∃ i : Nat, (i : Int) ≤ n ∧ ii = .int .i64 i ∧ Hid (∀ x ∈ l.take i, x.n.length ≤ 200 ∧ x.t.length ≤ 200) ∧ Hid (Below w.heap.size w wr)) (fun ii _ => n - (intOf ii).toNat)
    case atStart => exact ⟨0, by omega, rfl, Lib.hid (fun x hx => by simp at hx), Lib.hid (Below.refl _ _)⟩
    case round =>
      obtain ⟨i, hi, rfl, HS, HBR⟩ := hrel
      by_cases hlt : (i : Int) < n
      · have hi1 : i < l.length := by rw [HLEN.out]; omega
        obtain ⟨b, o, e, hat⟩ := HP.out.at (by omega)
        subst e
        obtain ⟨f0, f1⟩ := (hat i hi1).below HBR.out
        have hs9 : ∀ (h1 : (l[i]).n.length ≤ 200) (h2 : (l[i]).t.length ≤ 200), ∀ x ∈ l.take (i + 1), x.n.length ≤ 200 ∧ x.t.length ≤ 200 := fun h1 h2 => take_all (p := fun x => x.n.length ≤ 200 ∧ x.t.length ≤ 200) HS.out hi1 ⟨h1, h2⟩
        have zn := size_str (l[i]).n
        have zt := size_str (l[i]).t
        have HS9 := Lib.hid hs9
        generalize l[i] = p at *
        generalize (⟨p.n.toArray⟩ : ByteArray) = sn at *
        generalize (⟨p.t.toArray⟩ : ByteArray) = st at *
        clear hat hs9 hi1
        by_cases hq1 : (200 : Int) < p.n.length
        · go_wp2_with (go_at_call 11; (with_reducible refine (known_any _).mono ?_); rintro e9 w9 ⟨rfl, hb9⟩; have HB9 := Lib.hid (HBR.out.trans (hb9.mono HBR.out.size)); clear hb9)
          go_ret
          exact ⟨rfl, HB9.out⟩
        · by_cases hq2 : (200 : Int) < p.t.length
          · go_wp2_with (go_at_call 11; (with_reducible refine (known_any _).mono ?_); rintro e9 w9 ⟨rfl, hb9⟩; have HB9 := Lib.hid (HBR.out.trans (hb9.mono HBR.out.size)); clear hb9)
            go_ret
            exact ⟨rfl, HB9.out⟩
          · go_wp2_with fail
            go_roundw
            case rel => exact ⟨i + 1, by omega, by go_num, Lib.hid (HS9.out (by omega) (by omega)), Lib.hid (by first | exact HBR.out | exact below_drewN HBR.out _)⟩
            case measure => simp [intOf]; omega
      · obtain rfl : i = n := by omega
        have HD : Hid (Small l) := Lib.hid (fun x hx => by have := HS.out x (by rw [List.take_of_length_le (by rw [HLEN.out]; omega)]; exact hx); omega)
        have HS2 : Hid (∀ x ∈ l, x.n.length ≤ 200 ∧ x.t.length ≤ 200) := Lib.hid (fun x hx => HS.out x (by rw [List.take_of_length_le (by rw [HLEN.out]; omega)]; exact hx))
        have HBW := HBR
        replace C16 := C16 HD.out
        go_upto_region 14 with (go_at_call 16; (with_reducible refine (C16.out _ (HP.out.below HBW.out)).mono ?_); rintro e9 w9 ⟨rfl, hb9⟩; replace HBW := Lib.hid (HBW.out.trans (hb9.mono HBW.out.size)); clear hb9)
        clear C16
        go_upto_region 15 with (go_at_call 20; (with_reducible refine (D1.out _ (HQ.out.below HBW.out)).mono ?_); rintro e9 w9 ⟨v9, rfl, ho9, hb9⟩; obtain ⟨A12, c12, e9, h9⟩ := own_HL' ho9 rfl; subst e9; have HO12 := Lib.hid h9; have HB12 := Lib.hid (Below.refl w9.heap.size w9); clear ho9 h9; replace HBW := Lib.hid (HBW.out.trans (hb9.mono HBW.out.size)); clear hb9)
        go_upto_region 16 with (go_at_call 20; (with_reducible refine (D2.out _ (HQ.out.below HBW.out)).mono ?_); rintro e9 w9 ⟨v9, rfl, ho9, hb9⟩; obtain ⟨A14, c14, e9, h9⟩ := own_HL' ho9 rfl; subst e9; have HO14 := Lib.hid h9; have HB14 := Lib.hid (Below.refl w9.heap.size w9); clear ho9 h9; replace HBW := Lib.hid (HBW.out.trans (hb9.mono HBW.out.size)); replace HB12 := Lib.hid (HB12.out.trans (hb9.mono HB12.out.size)); clear hb9)
        go_wp2_with (go_at_call 11; (with_reducible refine (known_any _).mono ?_); rintro e9 w9 ⟨rfl, hb9⟩; have HB9 := Lib.hid (HBW.out.trans (hb9.mono HBW.out.size)); clear hb9)
        go_ret
        exact ⟨rfl, HB9.out⟩

set_option maxRecDepth 100000 in
set_option maxHeartbeats 1000000 in
theorem inverts_nb (A : Option Addr) (n c : Nat) (l : List Hd) (D : Option Addr) (m d : Nat) (bs : List UInt8) (w : World) (h : HL w A n c l) (hq : RB w D m d bs) (hn : (n : Int) ≤ 110) (hm : (m : Int) ≤ 2000) (hv : validL l = false) (e2 : Nat) (l1 l2 : List Hd) (h1 : readF bs true = (0, l1)) (h2 : readF bs false = (e2, l2)) (he2 : e2 ≠ 0) :
    Calls Tryd.prog 7 #[.slice A n c, .slice D m d] w fun e w' => e = .returned (.bool true) ∧ Below w.heap.size w w' := by
  have HP := Lib.hid h
  have HQ := Lib.hid hq
  have HLEN := Lib.hid h.len
  have HV := Lib.hid hv
  have q3 : ((e2 : Int) == 0) = false := by simp; omega
  have q4 : ((e2 : Int) != 0) = true := by simp; omega
  have hv1 : validL l1 = true := by have := readF_valid (l := bs) (loose := true) (by rw [h1]); rwa [h1] at this
  have hl1 := readF_len (l := bs) (lo := true) (by rw [h1])
  rw [h1] at hl1
  have hs1 : Small l1 := fun x hx => by have := hl1 x hx; have := hq.len; exact ⟨by omega, by omega⟩
  have hz1 : (writeL l1).length ≤ 1000000 := by
    have h3 := writeL_len l1 32 2000 (fun x hx => by have := hl1 x hx; have := hq.len; exact ⟨(hl1 x hx).1, by have := (hl1 x hx).2; omega⟩)
    have h4 : l1.length ≤ 100 := ((validL_iff l1).1 hv1).1
    have : l1.length * (32 + 2000 + 4) ≤ 100 * 2036 := Nat.mul_le_mul h4 (Nat.le_refl _)
    omega
  have hk1 : l1.length ≤ 100 := ((validL_iff l1).1 hv1).1
  have D12 := Lib.hid (fun W A2 c2 (h3 : HL W A2 l1.length c2 l1) => write_ok A2 l1.length c2 l1 W h3 hs1 hv1)
  unfold Fresh at D12
  have D20 := Lib.hid (fun W D2 d2 (h3 : RB W D2 (writeL l1).length d2 (writeL l1)) => by have := read_any D2 _ d2 (writeL l1) false W h3 hz1; unfold ReadE at this; rw [readF_write l1 hv1] at this; exact this)
  have D18 := Lib.hid (fun W A2 c2 A3 c3 (h3 : HL W A2 l1.length c2 l1) (h4 : HL W A3 l1.length c3 l1) => by have := same_any A2 A3 l1.length c2 l1.length c3 l1 l1 W h3 h4 (by omega); rw [decide_eq_true rfl] at this; exact this)
  have D16 := Lib.hid (fun W A2 c2 (h3 : HL W A2 l1.length c2 l1) => by have := validL_any A2 l1.length c2 l1 W h3 (by omega) hs1; rw [hv1] at this; exact this)
  clear hv1 hl1 hs1 hz1 hk1
  have D1 := Lib.hid (fun W (h3 : RB W D m d bs) => by have := read_any D m d bs true W h3 (by omega); unfold ReadE at this; rw [h1] at this; exact this)
  have D2 := Lib.hid (fun W (h3 : RB W D m d bs) => by have := read_any D m d bs false W h3 (by omega); unfold ReadE at this; rw [h2] at this; exact this)
  have C16 : Small l → Hid (∀ W (_ : HL W A n c l), Calls Tryd.prog 16 #[.slice A n c] W fun e w' => e = .returned (.bool false) ∧ Below W.heap.size W w') := fun hd => Lib.hid fun W h2 => by have := validL_any A n c l W h2 (by omega) hd; rw [hv] at this; exact this
  clear h hq hv h1 h2 he2
  go_enter Tryd.func7, Tryd.ntmps7
  · go_upto_region 4 with fail
    go_loopw [5] (fun ii wr => ∃ i : Nat, (i : Int) ≤ n ∧ ii = .int .i64 i ∧ Hid (∀ x ∈ l.take i, x.n.length ≤ 200 ∧ x.t.length ≤ 200) ∧ Hid (Below w.heap.size w wr)) (fun ii _ => n - (intOf ii).toNat)
    case atStart => exact ⟨0, by omega, rfl, Lib.hid (fun x hx => by simp at hx), Lib.hid (Below.refl _ _)⟩
    case round =>
      obtain ⟨i, hi, rfl, HS, HBR⟩ := hrel
      by_cases hlt : (i : Int) < n
      · have hi1 : i < l.length := by rw [HLEN.out]; omega
        obtain ⟨b, o, e, hat⟩ := HP.out.at (by omega)
        subst e
        obtain ⟨f0, f1⟩ := (hat i hi1).below HBR.out
        have hs9 : ∀ (h1 : (l[i]).n.length ≤ 200) (h2 : (l[i]).t.length ≤ 200), ∀ x ∈ l.take (i + 1), x.n.length ≤ 200 ∧ x.t.length ≤ 200 := fun h1 h2 => take_all (p := fun x => x.n.length ≤ 200 ∧ x.t.length ≤ 200) HS.out hi1 ⟨h1, h2⟩
        have zn := size_str (l[i]).n
        have zt := size_str (l[i]).t
        have HS9 := Lib.hid hs9
        generalize l[i] = p at *
        generalize (⟨p.n.toArray⟩ : ByteArray) = sn at *
        generalize (⟨p.t.toArray⟩ : ByteArray) = st at *
        clear hat hs9 hi1
        by_cases hq1 : (200 : Int) < p.n.length
        · go_wp2_with (go_at_call 11; (with_reducible refine (known_any _).mono ?_); rintro e9 w9 ⟨rfl, hb9⟩; have HB9 := Lib.hid (HBR.out.trans (hb9.mono HBR.out.size)); clear hb9)
          go_ret
          exact ⟨rfl, HB9.out⟩
        · by_cases hq2 : (200 : Int) < p.t.length
          · go_wp2_with (go_at_call 11; (with_reducible refine (known_any _).mono ?_); rintro e9 w9 ⟨rfl, hb9⟩; have HB9 := Lib.hid (HBR.out.trans (hb9.mono HBR.out.size)); clear hb9)
            go_ret
            exact ⟨rfl, HB9.out⟩
          · go_wp2_with fail
            go_roundw
            case rel => exact ⟨i + 1, by omega, by go_num, Lib.hid (HS9.out (by omega) (by omega)), Lib.hid (by first | exact HBR.out | exact below_drewN HBR.out _)⟩
            case measure => simp [intOf]; omega
      · obtain rfl : i = n := by omega
        have HD : Hid (Small l) := Lib.hid (fun x hx => by have := HS.out x (by rw [List.take_of_length_le (by rw [HLEN.out]; omega)]; exact hx); omega)
        have HS2 : Hid (∀ x ∈ l, x.n.length ≤ 200 ∧ x.t.length ≤ 200) := Lib.hid (fun x hx => HS.out x (by rw [List.take_of_length_le (by rw [HLEN.out]; omega)]; exact hx))
        have HBW := HBR
        replace C16 := C16 HD.out
        go_upto_region 14 with (go_at_call 16; (with_reducible refine (C16.out _ (HP.out.below HBW.out)).mono ?_); rintro e9 w9 ⟨rfl, hb9⟩; replace HBW := Lib.hid (HBW.out.trans (hb9.mono HBW.out.size)); clear hb9)
        clear C16
        go_upto_region 15 with (go_at_call 20; (with_reducible refine (D1.out _ (HQ.out.below HBW.out)).mono ?_); rintro e9 w9 ⟨v9, rfl, ho9, hb9⟩; obtain ⟨A12, c12, e9, h9⟩ := own_HL' ho9 rfl; subst e9; have HO12 := Lib.hid h9; have HB12 := Lib.hid (Below.refl w9.heap.size w9); clear ho9 h9; replace HBW := Lib.hid (HBW.out.trans (hb9.mono HBW.out.size)); clear hb9)
        go_upto_region 16 with (go_at_call 20; (with_reducible refine (D2.out _ (HQ.out.below HBW.out)).mono ?_); rintro e9 w9 ⟨v9, rfl, ho9, hb9⟩; obtain ⟨A14, c14, e9, h9⟩ := own_HL' ho9 rfl; subst e9; have HO14 := Lib.hid h9; have HB14 := Lib.hid (Below.refl w9.heap.size w9); clear ho9 h9; replace HBW := Lib.hid (HBW.out.trans (hb9.mono HBW.out.size)); replace HB12 := Lib.hid (HB12.out.trans (hb9.mono HB12.out.size)); clear hb9)
        go_upto_region 18 with fail
        go_upto_region 21 with (go_at_call 12; (with_reducible refine (D12.out _ _ _ (HO12.out.below HB12.out)).mono ?_); rintro e9 w9 ⟨v9, rfl, ho9, hb9⟩; obtain ⟨A16, c16, e9, -⟩ := own_form ho9; subst e9; have HO16 := Lib.hid ho9; have HB16 := Lib.hid (Below.refl w9.heap.size w9); clear ho9; replace HBW := Lib.hid (HBW.out.trans (hb9.mono HBW.out.size)); replace HB12 := Lib.hid (HB12.out.trans (hb9.mono HB12.out.size)); replace HB14 := Lib.hid (HB14.out.trans (hb9.mono HB14.out.size)); clear hb9)
        go_upto_region 22 with (go_at_call 20; (with_reducible refine (D20.out _ _ _ (own_RB3 (own_keeps HO16.out fun g hg => HB16.out.block g (own_lt HO16.out g hg)))).mono ?_); rintro e9 w9 ⟨v9, rfl, ho9, hb9⟩; obtain ⟨A18, c18, e9, h9⟩ := own_HL' ho9 rfl; subst e9; have HO18 := Lib.hid h9; have HB18 := Lib.hid (Below.refl w9.heap.size w9); clear ho9 h9; replace HBW := Lib.hid (HBW.out.trans (hb9.mono HBW.out.size)); replace HB12 := Lib.hid (HB12.out.trans (hb9.mono HB12.out.size)); replace HB14 := Lib.hid (HB14.out.trans (hb9.mono HB14.out.size)); replace HB16 := Lib.hid (HB16.out.trans (hb9.mono HB16.out.size)); clear hb9)
        go_wp2_with (first | (go_at_call 16; (with_reducible refine (D16.out _ _ _ (HO12.out.below HB12.out)).mono ?_); rintro e9 w9 ⟨rfl, hb9⟩; replace HBW := Lib.hid (HBW.out.trans (hb9.mono HBW.out.size)); replace HB12 := Lib.hid (HB12.out.trans (hb9.mono HB12.out.size)); replace HB14 := Lib.hid (HB14.out.trans (hb9.mono HB14.out.size)); replace HB16 := Lib.hid (HB16.out.trans (hb9.mono HB16.out.size)); replace HB18 := Lib.hid (HB18.out.trans (hb9.mono HB18.out.size)); clear hb9) | (go_at_call 18; (with_reducible refine (D18.out _ _ _ _ _ (HO12.out.below HB12.out) (HO18.out.below HB18.out)).mono ?_); rintro e9 w9 ⟨rfl, hb9⟩; replace HBW := Lib.hid (HBW.out.trans (hb9.mono HBW.out.size)); replace HB12 := Lib.hid (HB12.out.trans (hb9.mono HB12.out.size)); replace HB14 := Lib.hid (HB14.out.trans (hb9.mono HB14.out.size)); replace HB16 := Lib.hid (HB16.out.trans (hb9.mono HB16.out.size)); replace HB18 := Lib.hid (HB18.out.trans (hb9.mono HB18.out.size)); clear hb9) | (go_at_call 11; (with_reducible refine (known_any _).mono ?_); rintro e9 w9 ⟨rfl, hb9⟩; have HB9 := Lib.hid (HBW.out.trans (hb9.mono HBW.out.size)); clear hb9))
        go_ret
        exact ⟨rfl, HB9.out⟩

set_option maxRecDepth 100000 in
set_option maxHeartbeats 1000000 in
theorem inverts_nc (A : Option Addr) (n c : Nat) (l : List Hd) (D : Option Addr) (m d : Nat) (bs : List UInt8) (w : World) (h : HL w A n c l) (hq : RB w D m d bs) (hn : (n : Int) ≤ 110) (hm : (m : Int) ≤ 2000) (hv : validL l = false) (l1 : List Hd) (h1 : readF bs true = (0, l1)) (h2 : readF bs false = (0, l1)) (hwb : writeL l1 = bs) :
    Calls Tryd.prog 7 #[.slice A n c, .slice D m d] w fun e w' => e = .returned (.bool true) ∧ Below w.heap.size w w' := by
  have HP := Lib.hid h
  have HQ := Lib.hid hq
  have HLEN := Lib.hid h.len
  have HV := Lib.hid hv
  have hv1 : validL l1 = true := by have := readF_valid (l := bs) (loose := true) (by rw [h1]); rwa [h1] at this
  have hl1 := readF_len (l := bs) (lo := true) (by rw [h1])
  rw [h1] at hl1
  have hs1 : Small l1 := fun x hx => by have := hl1 x hx; have := hq.len; exact ⟨by omega, by omega⟩
  have hz1 : (writeL l1).length ≤ 1000000 := by
    have h3 := writeL_len l1 32 2000 (fun x hx => by have := hl1 x hx; have := hq.len; exact ⟨(hl1 x hx).1, by have := (hl1 x hx).2; omega⟩)
    have h4 : l1.length ≤ 100 := ((validL_iff l1).1 hv1).1
    have : l1.length * (32 + 2000 + 4) ≤ 100 * 2036 := Nat.mul_le_mul h4 (Nat.le_refl _)
    omega
  have hk1 : l1.length ≤ 100 := ((validL_iff l1).1 hv1).1
  have D12 := Lib.hid (fun W A2 c2 (h3 : HL W A2 l1.length c2 l1) => write_ok A2 l1.length c2 l1 W h3 hs1 hv1)
  unfold Fresh at D12
  have D20 := Lib.hid (fun W D2 d2 (h3 : RB W D2 (writeL l1).length d2 (writeL l1)) => by have := read_any D2 _ d2 (writeL l1) false W h3 hz1; unfold ReadE at this; rw [readF_write l1 hv1] at this; exact this)
  have D18 := Lib.hid (fun W A2 c2 A3 c3 (h3 : HL W A2 l1.length c2 l1) (h4 : HL W A3 l1.length c3 l1) => by have := same_any A2 A3 l1.length c2 l1.length c3 l1 l1 W h3 h4 (by omega); rw [decide_eq_true rfl] at this; exact this)
  have D16 := Lib.hid (fun W A2 c2 (h3 : HL W A2 l1.length c2 l1) => by have := validL_any A2 l1.length c2 l1 W h3 (by omega) hs1; rw [hv1] at this; exact this)
  clear hv1 hl1 hs1 hz1 hk1
  have HSTR : Hid ((⟨(writeL l1).toArray⟩ : ByteArray) = ⟨bs.toArray⟩) := Lib.hid (by rw [hwb])
  clear hwb
  have D1 := Lib.hid (fun W (h3 : RB W D m d bs) => by have := read_any D m d bs true W h3 (by omega); unfold ReadE at this; rw [h1] at this; exact this)
  have D2 := Lib.hid (fun W (h3 : RB W D m d bs) => by have := read_any D m d bs false W h3 (by omega); unfold ReadE at this; rw [h2] at this; exact this)
  have C16 : Small l → Hid (∀ W (_ : HL W A n c l), Calls Tryd.prog 16 #[.slice A n c] W fun e w' => e = .returned (.bool false) ∧ Below W.heap.size W w') := fun hd => Lib.hid fun W h2 => by have := validL_any A n c l W h2 (by omega) hd; rw [hv] at this; exact this
  clear h hq hv h1 h2 
  go_enter Tryd.func7, Tryd.ntmps7
  · go_upto_region 4 with fail
    go_loopw [5] (fun ii wr => ∃ i : Nat, (i : Int) ≤ n ∧ ii = .int .i64 i ∧ Hid (∀ x ∈ l.take i, x.n.length ≤ 200 ∧ x.t.length ≤ 200) ∧ Hid (Below w.heap.size w wr)) (fun ii _ => n - (intOf ii).toNat)
    case atStart => exact ⟨0, by omega, rfl, Lib.hid (fun x hx => by simp at hx), Lib.hid (Below.refl _ _)⟩
    case round =>
      obtain ⟨i, hi, rfl, HS, HBR⟩ := hrel
      by_cases hlt : (i : Int) < n
      · have hi1 : i < l.length := by rw [HLEN.out]; omega
        obtain ⟨b, o, e, hat⟩ := HP.out.at (by omega)
        subst e
        obtain ⟨f0, f1⟩ := (hat i hi1).below HBR.out
        have hs9 : ∀ (h1 : (l[i]).n.length ≤ 200) (h2 : (l[i]).t.length ≤ 200), ∀ x ∈ l.take (i + 1), x.n.length ≤ 200 ∧ x.t.length ≤ 200 := fun h1 h2 => take_all (p := fun x => x.n.length ≤ 200 ∧ x.t.length ≤ 200) HS.out hi1 ⟨h1, h2⟩
        have zn := size_str (l[i]).n
        have zt := size_str (l[i]).t
        have HS9 := Lib.hid hs9
        generalize l[i] = p at *
        generalize (⟨p.n.toArray⟩ : ByteArray) = sn at *
        generalize (⟨p.t.toArray⟩ : ByteArray) = st at *
        clear hat hs9 hi1
        by_cases hq1 : (200 : Int) < p.n.length
        · go_wp2_with (go_at_call 11; (with_reducible refine (known_any _).mono ?_); rintro e9 w9 ⟨rfl, hb9⟩; have HB9 := Lib.hid (HBR.out.trans (hb9.mono HBR.out.size)); clear hb9)
          go_ret
          exact ⟨rfl, HB9.out⟩
        · by_cases hq2 : (200 : Int) < p.t.length
          · go_wp2_with (go_at_call 11; (with_reducible refine (known_any _).mono ?_); rintro e9 w9 ⟨rfl, hb9⟩; have HB9 := Lib.hid (HBR.out.trans (hb9.mono HBR.out.size)); clear hb9)
            go_ret
            exact ⟨rfl, HB9.out⟩
          · go_wp2_with fail
            go_roundw
            case rel => exact ⟨i + 1, by omega, by go_num, Lib.hid (HS9.out (by omega) (by omega)), Lib.hid (by first | exact HBR.out | exact below_drewN HBR.out _)⟩
            case measure => simp [intOf]; omega
      · obtain rfl : i = n := by omega
        have HD : Hid (Small l) := Lib.hid (fun x hx => by have := HS.out x (by rw [List.take_of_length_le (by rw [HLEN.out]; omega)]; exact hx); omega)
        have HS2 : Hid (∀ x ∈ l, x.n.length ≤ 200 ∧ x.t.length ≤ 200) := Lib.hid (fun x hx => HS.out x (by rw [List.take_of_length_le (by rw [HLEN.out]; omega)]; exact hx))
        have HBW := HBR
        replace C16 := C16 HD.out
        go_upto_region 14 with (go_at_call 16; (with_reducible refine (C16.out _ (HP.out.below HBW.out)).mono ?_); rintro e9 w9 ⟨rfl, hb9⟩; replace HBW := Lib.hid (HBW.out.trans (hb9.mono HBW.out.size)); clear hb9)
        clear C16
        go_upto_region 15 with (go_at_call 20; (with_reducible refine (D1.out _ (HQ.out.below HBW.out)).mono ?_); rintro e9 w9 ⟨v9, rfl, ho9, hb9⟩; obtain ⟨A12, c12, e9, h9⟩ := own_HL' ho9 rfl; subst e9; have HO12 := Lib.hid h9; have HB12 := Lib.hid (Below.refl w9.heap.size w9); clear ho9 h9; replace HBW := Lib.hid (HBW.out.trans (hb9.mono HBW.out.size)); clear hb9)
        go_upto_region 16 with (go_at_call 20; (with_reducible refine (D2.out _ (HQ.out.below HBW.out)).mono ?_); rintro e9 w9 ⟨v9, rfl, ho9, hb9⟩; obtain ⟨A14, c14, e9, h9⟩ := own_HL' ho9 rfl; subst e9; have HO14 := Lib.hid h9; have HB14 := Lib.hid (Below.refl w9.heap.size w9); clear ho9 h9; replace HBW := Lib.hid (HBW.out.trans (hb9.mono HBW.out.size)); replace HB12 := Lib.hid (HB12.out.trans (hb9.mono HB12.out.size)); clear hb9)
        go_upto_region 18 with (go_at_call 18; (with_reducible refine (D18.out _ _ _ _ _ (HO12.out.below HB12.out) (HO14.out.below HB14.out)).mono ?_); rintro e9 w9 ⟨rfl, hb9⟩; replace HBW := Lib.hid (HBW.out.trans (hb9.mono HBW.out.size)); replace HB12 := Lib.hid (HB12.out.trans (hb9.mono HB12.out.size)); replace HB14 := Lib.hid (HB14.out.trans (hb9.mono HB14.out.size)); clear hb9)
        go_upto_region 21 with (go_at_call 12; (with_reducible refine (D12.out _ _ _ (HO12.out.below HB12.out)).mono ?_); rintro e9 w9 ⟨v9, rfl, ho9, hb9⟩; obtain ⟨A16, c16, e9, -⟩ := own_form ho9; subst e9; have HO16 := Lib.hid ho9; have HB16 := Lib.hid (Below.refl w9.heap.size w9); clear ho9; replace HBW := Lib.hid (HBW.out.trans (hb9.mono HBW.out.size)); replace HB12 := Lib.hid (HB12.out.trans (hb9.mono HB12.out.size)); replace HB14 := Lib.hid (HB14.out.trans (hb9.mono HB14.out.size)); clear hb9)
        go_upto_region 22 with (go_at_call 20; (with_reducible refine (D20.out _ _ _ (own_RB3 (own_keeps HO16.out fun g hg => HB16.out.block g (own_lt HO16.out g hg)))).mono ?_); rintro e9 w9 ⟨v9, rfl, ho9, hb9⟩; obtain ⟨A18, c18, e9, h9⟩ := own_HL' ho9 rfl; subst e9; have HO18 := Lib.hid h9; have HB18 := Lib.hid (Below.refl w9.heap.size w9); clear ho9 h9; replace HBW := Lib.hid (HBW.out.trans (hb9.mono HBW.out.size)); replace HB12 := Lib.hid (HB12.out.trans (hb9.mono HB12.out.size)); replace HB14 := Lib.hid (HB14.out.trans (hb9.mono HB14.out.size)); replace HB16 := Lib.hid (HB16.out.trans (hb9.mono HB16.out.size)); clear hb9)
        have HCV := Lib.hid (fun W (k1 : Below w9.heap.size w9 W) => conv_RB (own_RB3 (own_keeps HO16.out fun g hg => (HB16.out.trans (k1.mono HB16.out.size)).block g (own_lt HO16.out g hg))))
        have HBL := Lib.hid (Below.refl w9.heap.size w9)
        go_wp2_with (first | (go_at_call 16; (with_reducible refine (D16.out _ _ _ (HO12.out.below HB12.out)).mono ?_); rintro e9 w9 ⟨rfl, hb9⟩; replace HBW := Lib.hid (HBW.out.trans (hb9.mono HBW.out.size)); replace HB12 := Lib.hid (HB12.out.trans (hb9.mono HB12.out.size)); replace HB14 := Lib.hid (HB14.out.trans (hb9.mono HB14.out.size)); replace HB16 := Lib.hid (HB16.out.trans (hb9.mono HB16.out.size)); replace HB18 := Lib.hid (HB18.out.trans (hb9.mono HB18.out.size)); replace HBL := Lib.hid (HBL.out.trans (hb9.mono HBL.out.size)); clear hb9) | (go_at_call 18; (with_reducible refine (D18.out _ _ _ _ _ (HO12.out.below HB12.out) (HO18.out.below HB18.out)).mono ?_); rintro e9 w9 ⟨rfl, hb9⟩; replace HBW := Lib.hid (HBW.out.trans (hb9.mono HBW.out.size)); replace HB12 := Lib.hid (HB12.out.trans (hb9.mono HB12.out.size)); replace HB14 := Lib.hid (HB14.out.trans (hb9.mono HB14.out.size)); replace HB16 := Lib.hid (HB16.out.trans (hb9.mono HB16.out.size)); replace HB18 := Lib.hid (HB18.out.trans (hb9.mono HB18.out.size)); replace HBL := Lib.hid (HBL.out.trans (hb9.mono HBL.out.size)); clear hb9; have u16 := HCV.out _ HBL.out; have ub := conv_RB (HQ.out.below HBW.out); rw [HSTR.out] at u16; refine Hid.out ?_))
        generalize (⟨bs.toArray⟩ : ByteArray) = sw at *
        refine Lib.hid ?_
        go_wp2_with (go_at_call 11; (with_reducible refine (known_any _).mono ?_); rintro e9 w9 ⟨rfl, hb9⟩; have HB9 := Lib.hid (HBW.out.trans (hb9.mono HBW.out.size)); clear hb9)
        go_ret
        exact ⟨rfl, HB9.out⟩

set_option maxRecDepth 100000 in
set_option maxHeartbeats 1000000 in
theorem inverts_law (A : Option Addr) (n c : Nat) (l : List Hd) (D : Option Addr) (m d : Nat) (bs : List UInt8) (w : World) (h : HL w A n c l) (hq : RB w D m d bs) :
    Calls Tryd.prog 7 #[.slice A n c, .slice D m d] w fun e w' => e = .returned (.bool true) ∧ Below w.heap.size w w' := by
  by_cases hn : (110 : Int) < n
  · clear hq h
    go_enter Tryd.func7, Tryd.ntmps7
    go_wp2_with (go_at_call 11; (with_reducible refine (known_any _).mono ?_); rintro e9 w9 ⟨rfl, hb9⟩; have HB9 := Lib.hid hb9; clear hb9)
    go_ret
    exact ⟨rfl, HB9.out⟩
  · by_cases hs : (2000 : Int) < m
    · clear hq h
      go_enter Tryd.func7, Tryd.ntmps7
      go_wp2_with (go_at_call 11; (with_reducible refine (known_any _).mono ?_); rintro e9 w9 ⟨rfl, hb9⟩; have HB9 := Lib.hid hb9; clear hb9)
      go_ret
      exact ⟨rfl, HB9.out⟩
    · cases hv : validL l with
      | true =>
        by_cases e1 : (readF bs true).1 = 0
        · by_cases e2 : (readF bs false).1 = 0
          · obtain ⟨p1, p2⟩ := readF_strict e2
            exact inverts_vc A n c l D m d bs w h hq (by omega) (by omega) hv (readF bs false).2 p2 (by rw [← e2]) p1.symm
          · exact inverts_vb A n c l D m d bs w h hq (by omega) (by omega) hv (readF bs false).1 (readF bs true).2 (readF bs false).2 (by rw [← e1]) rfl e2
        · have e2 : (readF bs false).1 ≠ 0 := fun e2 => by
            obtain ⟨p1, p2⟩ := readF_strict e2
            rw [p2] at e1
            exact e1 rfl
          exact inverts_va A n c l D m d bs w h hq (by omega) (by omega) hv (readF bs true).1 (readF bs false).1 (readF bs false).2 (by rw [← readF_nil e1]) rfl e1 e2

      | false =>
        by_cases e1 : (readF bs true).1 = 0
        · by_cases e2 : (readF bs false).1 = 0
          · obtain ⟨p1, p2⟩ := readF_strict e2
            exact inverts_nc A n c l D m d bs w h hq (by omega) (by omega) hv (readF bs false).2 p2 (by rw [← e2]) p1.symm
          · exact inverts_nb A n c l D m d bs w h hq (by omega) (by omega) hv (readF bs false).1 (readF bs true).2 (readF bs false).2 (by rw [← e1]) rfl e2
        · have e2 : (readF bs false).1 ≠ 0 := fun e2 => by
            obtain ⟨p1, p2⟩ := readF_strict e2
            rw [p2] at e1
            exact e1 rfl
          exact inverts_na A n c l D m d bs w h hq (by omega) (by omega) hv (readF bs true).1 (readF bs false).1 (readF bs false).2 (by rw [← readF_nil e1]) rfl e1 e2


end Go.Proofs.YtkalllenggmgoaaDoor
