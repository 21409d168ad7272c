/- Find; the walk of FoldFinds. -/
import Derived.Test.YtkalllenggmgoaaDoorFy
import Derived.Test.YtkalllenggmgoaaDoorL3
namespace Go.Proofs.YtkalllenggmgoaaDoor
open Go.RowKit
set_option linter.unusedVariables false
set_option linter.unusedSimpArgs false

def fnd (l : List Hd) (name : List UInt8) : Option Hd := l.find? fun h => eqF h.n name
def fndV (r : Option Hd) : Value := match r with | some h => .tuple #[.string ⟨h.t.toArray⟩, .int .i64 0] | none => .tuple #[.string { data := #[] }, .int .i64 9]
theorem fnd_some {l : List Hd} {name : List UInt8} {i : Nat} (hi : i < l.length) (h : eqF (l[i]).n name = true) (hp : ∀ j (hj : j < i), eqF (l[j]'(Nat.lt_trans hj hi)).n name = false) : fnd l name = some l[i] := by
  unfold fnd
  rw [List.find?_eq_some_iff_getElem]
  exact ⟨h, i, hi, rfl, fun j hj => by rw [hp j hj]; rfl⟩
theorem fnd_none {l : List Hd} {name : List UInt8} (h : ∀ j (hj : j < l.length), eqF (l[j]).n name = false) : fnd l name = none := by
  unfold fnd
  rw [List.find?_eq_none]
  intro x hx
  obtain ⟨j, hj, rfl⟩ := List.getElem_of_mem hx
  rw [h j hj]
  simp
set_option maxRecDepth 100000 in
set_option maxHeartbeats 1000000 in
theorem find_any (A : Option Addr) (n c : Nat) (l : List Hd) (name : List UInt8) (w : World) (h : HL w A n c l) (hn : n ≤ 1000) (hd : ∀ x ∈ l, x.n.length ≤ 50) (hm : name.length ≤ 1000000) :
    Calls Tryd.prog 27 #[.slice A n c, .string ⟨name.toArray⟩] w fun e w' => e = .returned (fndV (fnd l name)) ∧ Below w.heap.size w w' := by
  have HP := Lib.hid h
  have HD := Lib.hid hd
  have HLEN := Lib.hid h.len
  have HM := Lib.hid hm
  have HCN := Lib.hid (fun W => conv_sr W name hm)
  have hn0 : (n : Int) ≤ 1000 := by omega
  clear h hd hm hn
  generalize (⟨name.toArray⟩ : ByteArray) = sq at *
  go_enter Tryd.func27, Tryd.ntmps27
  go_wp2_with fail
  go_loopw [10] (fun ii wr => ∃ i : Nat, (i : Int) ≤ n ∧ ii = .int .i64 i ∧ Hid (∀ j (hj : j < i) (hl : j < l.length), eqF (l[j]).n name = false) ∧ Hid (Below w.heap.size w wr)) (fun ii _ => n - (intOf ii).toNat)
  case atStart => exact ⟨0, by omega, rfl, Lib.hid (fun j hj => absurd hj (Nat.not_lt_zero _)), Lib.hid (Below.refl _ _)⟩
  case round =>
    obtain ⟨i, hi, rfl, HS, HBR⟩ := hrel
    by_cases hlt : (i : Int) < n
    · have hi1 : i < l.length := by rw [HLEN.out]; omega
      obtain ⟨b, o, e, hat⟩ := HP.out.at (by omega)
      subst e
      obtain ⟨f0, f1⟩ := (hat i hi1).below HBR.out
      have hdn := HD.out _ (List.getElem_mem hi1)
      have HF := Lib.hid (fun (he : eqF (l[i]).n name = true) => fnd_some hi1 he (fun j hj => HS.out j hj _))
      have HG := Lib.hid (show eqF (l[i]).n name = false → ∀ j (hj : j < i + 1) (hl : j < l.length), eqF (l[j]).n name = false from fun he j hj hl => by
        rcases Nat.lt_succ_iff_lt_or_eq.1 hj with h9 | h9
        · exact HS.out j h9 hl
        · subst h9; exact he)
      generalize l[i] = p at *
      obtain ⟨sn, hsn⟩ : ∃ sn, (⟨p.n.toArray⟩ : ByteArray) = sn := ⟨_, rfl⟩
      obtain ⟨st, hst⟩ : ∃ st, (⟨p.t.toArray⟩ : ByteArray) = st := ⟨_, rfl⟩
      rw [hsn] at f0
      rw [hst] at f1
      have HST := Lib.hid hst
      clear hat hi1
      obtain ⟨W1, hW1⟩ : ∃ W1, wr.alloc (.cells #[.string sn, .string st] 25) = W1 := ⟨_, rfl⟩
      have hB1 : Below wr.heap.size wr W1 := hW1 ▸ (Below.refl _ wr).alloc (Nat.le_refl _) _
      have hk1 : Blk W1 wr.heap.size 25 #[.string sn, .string st] := by rw [← hW1]; exact Blk.new wr 25 _
      obtain ⟨c1, W2, hcv1, hr1, hb1, -⟩ := conv_sr W1 p.n (by omega)
      rw [hsn] at hcv1
      obtain ⟨c2, W3, hcv2, hr2, hb2, -⟩ := HCN.out W2
      have C46 := Lib.hid (eqfunc_any _ _ c1 p.n _ _ c2 name W3 (hr1.below hb2) hr2 (by omega))
      have HB3 := Lib.hid ((hB1.trans (hb1.mono hB1.size)).trans (hb2.mono (hB1.trans (hb1.mono hB1.size)).size))
      have HK3 := Lib.hid ((hk1.below hb1 hk1.lt).below hb2 (Nat.lt_of_lt_of_le hk1.lt hb1.size))
      have y0 := hk1.cell 0
      simp at y0
      clear hr1 hr2 hb1 hb2 hB1 hk1 hsn hst hdn
      generalize hq : eqF p.n name = q at *
      clear hq
      generalize p.n.length = pn at *
      generalize name.length = nn at *
      go_upto_region 4 with fail
      try rw [hW1]
      cases q with
      | true =>
        have hfin := HF.out rfl
        go_upto_region 5 with (go_at_call 46; (with_reducible refine C46.out.mono ?_); rintro e9 w4 ⟨rfl, hb9⟩; have HK4 := Lib.hid (HK3.out.below hb9 HK3.out.lt); have HB4 := Lib.hid (HB3.out.trans (hb9.mono HB3.out.size)); clear hb9)
        have y1 := HK4.out.cell 1
        simp at y1
        have HFIN := Lib.hid hfin
        clear hfin
        go_wp2_with fail
        go_ret2
        refine ⟨by rw [HFIN.out]; show _ = Ending.returned (.tuple #[.string ⟨p.t.toArray⟩, .int .i64 0]); rw [HST.out]; rfl, ?_⟩
        exact HBR.out.trans (HB4.out.mono HBR.out.size)
      | false =>
        have HG2 := Lib.hid (HG.out rfl)
        go_wp2_with (go_at_call 46; (with_reducible refine C46.out.mono ?_); rintro e9 w4 ⟨rfl, hb9⟩; have HB4 := Lib.hid (HB3.out.trans (hb9.mono HB3.out.size)); clear hb9)
        go_roundw
        case rel => exact ⟨i + 1, by omega, by go_num, HG2, Lib.hid (HBR.out.trans (HB4.out.mono HBR.out.size))⟩
        case measure => simp [intOf]; omega
    · have HN := Lib.hid (fnd_none (l := l) (name := name) (fun j hj => HS.out j (by have := HLEN.out; omega) hj))
      go_wp2_with fail
      go_ret2
      exact ⟨by rw [HN.out]; rfl, HBR.out⟩

/-- The first that is found among those from k on. -/
def AtI (l : List Hd) (name : List UInt8) (k : Nat) (a : Int) : Prop :=
  (a = -1 ∧ ∀ j (hl : j < l.length), k ≤ j → eqF (l[j]).n name = false) ∨ ∃ (p : Nat) (hp : p < l.length), a = p ∧ k ≤ p ∧ eqF (l[p]).n name = true ∧ ∀ j (hl : j < l.length), k ≤ j → j < p → eqF (l[j]).n name = false
theorem AtI.hit {l : List Hd} {name : List UInt8} {k : Nat} (hk : k < l.length) (h : eqF (l[k]).n name = true) : AtI l name k k := .inr ⟨k, hk, rfl, Nat.le_refl _, h, fun j hl h1 h2 => by omega⟩
theorem AtI.miss {l : List Hd} {name : List UInt8} {k : Nat} {a : Int} (hk : k < l.length) (hA : AtI l name (k + 1) a) (h : eqF (l[k]).n name = false) : AtI l name k a := by
  have key : ∀ j (hl : j < l.length), k ≤ j → ¬ k + 1 ≤ j → eqF (l[j]).n name = false := fun j hl h1 h2 => by
    obtain rfl : j = k := by omega
    exact h
  rcases hA with ⟨rfl, h1⟩ | ⟨p, hp, rfl, h1, h2, h3⟩
  · exact .inl ⟨rfl, fun j hl h4 => by
      by_cases h5 : k + 1 ≤ j
      · exact h1 j hl h5
      · exact key j hl h4 h5⟩
  · exact .inr ⟨p, hp, rfl, by omega, h2, fun j hl h4 h6 => by
      by_cases h5 : k + 1 ≤ j
      · exact h3 j hl h5 h6
      · exact key j hl h4 h5⟩
theorem AtI.fin {l : List Hd} {name : List UInt8} {a : Int} (h : AtI l name 0 a) : (a = -1 ∧ fnd l name = none) ∨ ∃ (p : Nat) (hp : p < l.length), a = p ∧ fnd l name = some l[p] := by
  rcases h with ⟨rfl, h1⟩ | ⟨p, hp, rfl, h1, h2, h3⟩
  · exact .inl ⟨rfl, fnd_none fun j hj => h1 j hj (Nat.zero_le _)⟩
  · exact .inr ⟨p, hp, rfl, fnd_some hp h2 fun j hj => h3 j _ (Nat.zero_le _) hj⟩
set_option maxRecDepth 100000 in
set_option maxHeartbeats 1000000 in
theorem finds_few (A : Option Addr) (n c : Nat) (l : List Hd) (sb : ByteArray) (w : World) (h : HL w A n c l) (hn : (n : Int) ≤ 30) (hs : (sb.size : Int) ≤ 50) :
    Calls Tryd.prog 10 #[.slice A n c, .string sb] w fun e w' => e = .returned (.bool true) ∧ Below w.heap.size w w' := by
  have HP := Lib.hid h
  have HLEN := Lib.hid h.len
  obtain ⟨name, hname⟩ : ∃ name, sb.data.toList = name := ⟨_, rfl⟩
  have hnm : name.length ≤ 1000000 := by
    have := size_str sb.data.toList
    rw [bstr, hname] at this
    omega
  have hsq : (⟨name.toArray⟩ : ByteArray) = sb := by subst hname; exact bstr sb
  have C26 := Lib.hid (fun W (a : List UInt8) (ha : a.length ≤ 1000000) => rsame_any a name W ha hnm)
  have C27 : (∀ x ∈ l, x.n.length ≤ 50) → Hid (∀ W (_ : HL W A n c l), Calls Tryd.prog 27 #[.slice A n c, .string ⟨name.toArray⟩] W fun e w' => e = .returned (fndV (fnd l name)) ∧ Below W.heap.size W w') := fun hd => Lib.hid fun W h2 => find_any A n c l name W h2 (by omega) hd hnm
  rw [hsq] at C26 C27
  clear h hname hnm hsq
  go_enter Tryd.func10, Tryd.ntmps10
  go_upto_region 5 with fail
  go_loopw [5, 6] (fun av iv wr => ∃ (k : Nat) (a : Int), (k : Int) ≤ n ∧ av = .int .i64 a ∧ iv = .int .i64 ((k : Int) - 1) ∧ Hid (AtI l name k a) ∧ Hid (∀ j (hl : j < l.length), k ≤ j → (l[j]).n.length ≤ 50) ∧ Hid (Below w.heap.size w wr)) (fun _ iv _ => (intOf iv + 1).toNat)
  case atStart => exact ⟨n, -1, by omega, rfl, rfl, Lib.hid (.inl ⟨rfl, fun j hl h1 => by have := HLEN.out; omega⟩), Lib.hid (fun j hl h1 => by have := HLEN.out; omega), Lib.hid (Below.refl _ _)⟩
  case round =>
    obtain ⟨k, a, hk, rfl, rfl, HA, HD, HBR⟩ := hrel
    by_cases hlt : (0 : Int) < k
    · obtain ⟨i, rfl⟩ : ∃ i, k = i + 1 := ⟨k - 1, by omega⟩
      have hci : ((i + 1 : Nat) : Int) - 1 = i := by omega
      rw [hci]
      have hi1 : i < l.length := by rw [HLEN.out]; omega
      obtain ⟨b, o, e, hat⟩ := HP.out.at (by omega)
      subst e
      obtain ⟨f0, f1⟩ := (hat i hi1).below HBR.out
      have hin : (i : Int) < n := by omega
      have HHIT := Lib.hid (AtI.hit (l := l) (name := name) hi1)
      have HMISS := Lib.hid (AtI.miss (l := l) (name := name) (a := a) hi1 HA.out)
      have HD2 := Lib.hid (show (l[i]).n.length ≤ 50 → ∀ j (hl : j < l.length), i ≤ j → (l[j]).n.length ≤ 50 from fun h9 j hl h1 => by
        by_cases h5 : i + 1 ≤ j
        · exact HD.out j hl h5
        · obtain rfl : j = i := by omega
          exact h9)
      generalize l[i] = p at *
      have zn := size_str p.n
      have C26b := Lib.hid (fun (hp : p.n.length ≤ 1000000) => C26.out wr p.n hp)
      obtain ⟨sn, hsn⟩ : ∃ sn, (⟨p.n.toArray⟩ : ByteArray) = sn := ⟨_, rfl⟩
      rw [hsn] at f0 zn C26b
      clear hat hi1 hsn f1 hk hlt
      have hz0 : (sn.size : Int) = p.n.length := by omega
      generalize hpl : (p.n.length : Int) = pl at *
      have HPL := Lib.hid hpl
      clear hpl zn
      by_cases hq1 : (50 : Int) < pl
      · go_wp2_with (go_at_call 11; (with_reducible refine (known_any _).mono ?_); rintro e9 w9 ⟨rfl, hb9⟩; have HB9 := Lib.hid (HBR.out.trans (hb9.mono HBR.out.size)); clear hb9)
        go_ret
        exact ⟨rfl, HB9.out⟩
      · have C26c := Lib.hid (C26b.out (by have := HPL.out; omega))
        have HD3 := Lib.hid (HD2.out (by have := HPL.out; omega))
        generalize eqF p.n name = q at *
        cases q with
        | true =>
          have HH := Lib.hid (HHIT.out rfl)
          go_wp2_with (go_at_call 26; (with_reducible refine C26c.out.mono ?_); rintro e9 w9 ⟨rfl, hb9⟩; have HB2 := Lib.hid (HBR.out.trans (hb9.mono HBR.out.size)); clear hb9)
          go_roundw
          case rel => exact ⟨i, i, by omega, rfl, by go_num, HH, HD3, HB2⟩
          case measure => simp [intOf]
        | false =>
          have HH := Lib.hid (HMISS.out rfl)
          go_wp2_with (go_at_call 26; (with_reducible refine C26c.out.mono ?_); rintro e9 w9 ⟨rfl, hb9⟩; have HB2 := Lib.hid (HBR.out.trans (hb9.mono HBR.out.size)); clear hb9)
          go_roundw
          case rel => exact ⟨i, a, by omega, rfl, by go_num, HH, HD3, HB2⟩
          case measure => simp [intOf]
    · obtain rfl : k = 0 := by omega
      have C27b := C27 (fun x hx => by
        obtain ⟨j, hj, rfl⟩ := List.getElem_of_mem hx
        exact HD.out j hj (Nat.zero_le _))
      have C27c := Lib.hid (C27b.out wr (HP.out.below HBR.out))
      rcases HA.out.fin with ⟨rfl, hf⟩ | ⟨p, hp, rfl, hf⟩
      · rw [hf] at C27c
        unfold fndV at C27c
        simp only [] at C27c
        clear hf
        go_wp2_with (first | (go_at_call 27; (with_reducible refine C27c.out.mono ?_); rintro e9 w9 ⟨rfl, hb9⟩; have HB2 := Lib.hid (HBR.out.trans (hb9.mono HBR.out.size)); clear hb9) | (go_at_call 11; (with_reducible refine (known_any _).mono ?_); rintro e9 w9 ⟨rfl, hb9⟩; have HB9 := Lib.hid (HB2.out.trans (hb9.mono HB2.out.size)); clear hb9))
        go_ret
        exact ⟨rfl, HB9.out⟩
      · rw [hf] at C27c
        unfold fndV at C27c
        simp only [] at C27c
        have hpn : (p : Int) < n := by have := HLEN.out; omega
        have hp0 : (0 : Int) ≤ p := by omega
        obtain ⟨b, o, e, hat⟩ := HP.out.at (by omega)
        subst e
        have HAT := Lib.hid ((hat p hp).below HBR.out)
        clear hf hat
        generalize l[p] = q at *
        obtain ⟨st, hst⟩ : ∃ st, (⟨q.t.toArray⟩ : ByteArray) = st := ⟨_, rfl⟩
        rw [hst] at C27c
        have HST := Lib.hid hst
        clear hp hst
        go_upto_region 12 with (go_at_call 27; (with_reducible refine C27c.out.mono ?_); rintro e9 w9 ⟨rfl, hb9⟩; have HAT2 := Lib.hid (HAT.out.below hb9); have HB2 := Lib.hid (HBR.out.trans (hb9.mono HBR.out.size)); clear hb9)
        obtain ⟨f0, f1⟩ := HAT2.out
        rw [HST.out] at f1
        go_wp2_with (go_at_call 11; (with_reducible refine (known_any _).mono ?_); rintro e9 w9 ⟨rfl, hb9⟩; have HB9 := Lib.hid (HB2.out.trans (hb9.mono HB2.out.size)); clear hb9)
        go_ret
        exact ⟨rfl, HB9.out⟩
set_option maxRecDepth 100000 in
set_option maxHeartbeats 1000000 in
theorem finds_law (A : Option Addr) (n c : Nat) (l : List Hd) (sb : ByteArray) (w : World) (h : HL w A n c l) (hs0 : sb.size ≤ maxLen) :
    Calls Tryd.prog 10 #[.slice A n c, .string sb] w fun e w' => e = .returned (.bool true) ∧ Below w.heap.size w w' := by
  by_cases hn : (30 : Int) < n
  · clear hs0 h
    go_enter Tryd.func10, Tryd.ntmps10
    go_wp2_with (go_at_call 11; (with_reducible refine (known_any _).mono ?_); rintro e9 w9 ⟨rfl, hb9⟩; have HB9 := Lib.hid hb9; clear hb9)
    go_ret
    exact ⟨rfl, HB9.out⟩
  · by_cases hs : (50 : Int) < sb.size
    · clear hs0 h
      go_enter Tryd.func10, Tryd.ntmps10
      go_wp2_with (go_at_call 11; (with_reducible refine (known_any _).mono ?_); rintro e9 w9 ⟨rfl, hb9⟩; have HB9 := Lib.hid hb9; clear hb9)
      go_ret
      exact ⟨rfl, HB9.out⟩
    · exact finds_few A n c l sb w h (by omega) (by omega)

end Go.Proofs.YtkalllenggmgoaaDoor
