/- Strings: slices, HasPrefix, Trim at a quotation mark. -/
import Derived.Test.YtkihoekldklkhaaDoorTc
import Derived.Lib.TrimByte
import Derived.Shelf.RegionOpenPlain
namespace Go.Proofs.YtkihoekldklkhaaDoor
open Go.RowKit
set_option linter.unusedVariables false
set_option linter.unusedSimpArgs false

theorem run_from (L : List UInt8) (i : Nat) (hi : i ≤ L.length) (hn : L.length ≤ 1000000) (W : World) : (Instr.slice 9 (.string ⟨L.toArray⟩) (some (.int .i64 (i : Int))) none none).run Tryd.prog W = .ok (.string ⟨(L.drop i).toArray⟩) W := by
  have h1 : (⟨L.toArray⟩ : ByteArray).size = L.length := Lib.size_mk L
  have h2 : (⟨L.toArray⟩ : ByteArray).extract i L.length = ⟨(L.drop i).toArray⟩ := by rw [Lib.extract_mk, List.take_of_length_le (by simp)]
  have h3 : (i : Int) ≤ (L.length : Int) := by omega
  have h4 : i ≤ L.length := hi
  simp [Instr.slice, go_sem, h1, h2, h3, h4]
theorem run_betw (L : List UInt8) (i j : Nat) (hi : i ≤ j) (hj : j ≤ L.length) (hn : L.length ≤ 1000000) (W : World) : (Instr.slice 9 (.string ⟨L.toArray⟩) (some (.int .i64 (i : Int))) (some (.int .i64 (j : Int))) none).run Tryd.prog W = .ok (.string ⟨((L.drop i).take (j - i)).toArray⟩) W := by
  have h1 : (⟨L.toArray⟩ : ByteArray).size = L.length := Lib.size_mk L
  have h2 : (⟨L.toArray⟩ : ByteArray).extract i j = ⟨((L.drop i).take (j - i)).toArray⟩ := by rw [Lib.extract_mk]
  have h3 : (i : Int) ≤ (j : Int) := by omega
  have h4 : (j : Int) ≤ (L.length : Int) := by omega
  simp [Instr.slice, go_sem, h1, h2, h3, h4]
  all_goals (intro h; omega)
theorem run_upto (L : List UInt8) (j : Nat) (hj : j ≤ L.length) (hn : L.length ≤ 1000000) (W : World) : (Instr.slice 9 (.string ⟨L.toArray⟩) none (some (.int .i64 (j : Int))) none).run Tryd.prog W = .ok (.string ⟨(L.take j).toArray⟩) W := by
  have h1 : (⟨L.toArray⟩ : ByteArray).size = L.length := Lib.size_mk L
  have h2 : (⟨L.toArray⟩ : ByteArray).extract 0 j = ⟨(L.take j).toArray⟩ := by rw [Lib.extract_mk]; simp
  have h4 : (j : Int) ≤ (L.length : Int) := by omega
  simp [Instr.slice, go_sem, h1, h2, h4]
set_option maxHeartbeats 2000000 in
set_option maxRecDepth 1000000 in
theorem trimLeftByte_any (s : ByteArray) (c : UInt8) (w : World) :
    Calls Tryd.prog 83 #[.string s, .int .u8 c.toNat] w fun e w' => e = .returned (.string ⟨(Lib.trimLeftB s.data.toList c).toArray⟩) ∧ w' = w := by
  go_enter Tryd.func83, Tryd.ntmps83
  go_wp2
  go_loop [0] (fun v => ∃ k : Nat, k ≤ s.size ∧ v = .string ⟨(s.data.toList.drop k).toArray⟩ ∧ ∀ (j : Nat) b, j < k → s.data.toList[j]? = some b → b = c) (fun v => Lib.strSize v)
  case atStart => exact ⟨0, Nat.zero_le _, by simp, fun j b hj => absurd hj (Nat.not_lt_zero _)⟩
  case round =>
    obtain ⟨k, hk, rfl, hc⟩ := hrel
    have hts : (⟨(s.data.toList.drop k).toArray⟩ : ByteArray).size = s.size - k := by rw [Lib.size_mk, List.length_drop, ← Lib.size_eq]
    have hb0 : ∀ h, s.data.toList[k]? = some ((⟨(s.data.toList.drop k).toArray⟩ : ByteArray)[0]'h) := by
      intro h
      rw [← Lib.getElem_mk (s.data.toList.drop k) 0 h, List.getElem?_drop]
      rfl
    have hx1 : (⟨(s.data.toList.drop k).toArray⟩ : ByteArray).extract 1 (s.size - k) = ⟨(s.data.toList.drop (k + 1)).toArray⟩ := by
      rw [Lib.extract_mk, List.drop_drop, List.take_of_length_le (by simp; omega)]
    have hK : Lib.Kept (∀ (j : Nat) b, j < k → s.data.toList[j]? = some b → b = c) := hc
    clear hc
    generalize ht : (⟨(s.data.toList.drop k).toArray⟩ : ByteArray) = t at hts hb0 hx1 ⊢
    have hK3 : Lib.Kept ((⟨(s.data.toList.drop k).toArray⟩ : ByteArray) = t) := ht
    clear ht
    have hkl : Lib.Kept (k ≤ s.data.toList.length) := by rw [← Lib.size_eq]; exact hk
    by_cases h0 : 0 < t.size
    · have hbk := hb0 h0
      clear hb0
      by_cases heq : t[0]'h0 = c
      · have heq' : ((t[0]'h0).toNat : Int) = (c.toNat : Int) := by rw [heq]
        have hK2 : Lib.Kept (s.data.toList[k]? = some (t[0]'h0)) := hbk
        clear hbk
        go_wp2
        refine ⟨⟨k + 1, by omega, rfl, fun j b hj hb => ?_⟩, ?_⟩
        · by_cases e : j = k
          · subst e
            have h2 : s.data.toList[j]? = some (t[0]'h0) := hK2
            have h3 : s.data.toList[j]? = some b := by simpa using hb
            rw [h2] at h3
            rw [← Option.some.inj h3, heq]
          · exact hK j b (by omega) (by simpa using hb)
        · rw [Lib.strSize_string, Lib.strSize_string, Lib.size_mk, List.length_drop, ← Lib.size_eq]
          omega
      · have hne' : ¬ ((t[0]'h0).toNat : Int) = (c.toNat : Int) := by
          intro e
          exact heq (UInt8.toNat_inj.1 (by exact_mod_cast e))
        have hbeq : (((t[0]'h0).toNat : Int) == (c.toNat : Int)) = false := by simpa using hne'
        have hK2 : Lib.Kept (s.data.toList[k]? = some (t[0]'h0)) := hbk
        clear hbk
        go_wp2
        go_ret
        refine ⟨?_, rfl⟩
        have ht' : (⟨(s.data.toList.drop k).toArray⟩ : ByteArray) = t := hK3
        show Ending.returned (Value.string t) = _
        rw [Lib.trimLeftB_drop s.data.toList c k hkl hK (fun b hb => by
          have h2 : s.data.toList[k]? = some (t[0]'h0) := hK2
          rw [h2] at hb
          rw [← Option.some.inj hb]
          exact heq), ht']
    · clear hb0
      go_wp2
      go_ret
      refine ⟨?_, rfl⟩
      have ht' : (⟨(s.data.toList.drop k).toArray⟩ : ByteArray) = t := hK3
      show Ending.returned (Value.string t) = _
      rw [Lib.trimLeftB_drop s.data.toList c k hkl hK (fun b hb => by
        have : s.data.toList.length ≤ k := by rw [← Lib.size_eq]; omega
        simp [List.getElem?_eq_none this] at hb), ht']
set_option maxHeartbeats 2000000 in
set_option maxRecDepth 1000000 in
theorem trimRightByte_any (s : ByteArray) (c : UInt8) (w : World) (hs : s.size ≤ 9223372036854775807) :
    Calls Tryd.prog 84 #[.string s, .int .u8 c.toNat] w fun e w' => e = .returned (.string ⟨(Lib.trimRightB s.data.toList c).toArray⟩) ∧ w' = w := by
  go_enter Tryd.func84, Tryd.ntmps84
  go_wp2
  go_loop [0] (fun v => ∃ k : Nat, k ≤ s.size ∧ v = .string ⟨(s.data.toList.take k).toArray⟩ ∧ ∀ (j : Nat) b, k ≤ j → s.data.toList[j]? = some b → b = c) (fun v => Lib.strSize v)
  case atStart =>
    refine ⟨s.size, Nat.le_refl _, ?_, fun j b hj hb => ?_⟩
    · rw [Lib.size_eq, List.take_length, Lib.mk_data]
    · have : s.data.toList.length ≤ j := by rw [← Lib.size_eq]; exact hj
      simp [List.getElem?_eq_none this] at hb
  case round =>
    obtain ⟨k, hk, rfl, hc⟩ := hrel
    have hkl : k ≤ s.data.toList.length := by rw [← Lib.size_eq]; exact hk
    have hts : (⟨(s.data.toList.take k).toArray⟩ : ByteArray).size = k := by rw [Lib.size_mk, List.length_take]; omega
    have hb0 : ∀ h, s.data.toList[k - 1]? = some ((⟨(s.data.toList.take k).toArray⟩ : ByteArray)[k - 1]'h) := by
      intro h
      rw [← Lib.getElem_mk (s.data.toList.take k) (k - 1) h, List.getElem?_take]
      rw [hts] at h
      rw [if_pos h]
    have hx1 : (⟨(s.data.toList.take k).toArray⟩ : ByteArray).extract 0 (k - 1) = ⟨(s.data.toList.take (k - 1)).toArray⟩ := by
      rw [Lib.extract_mk, List.drop_zero, List.take_take]
      congr 3
      omega
    have hK : Lib.Kept (∀ (j : Nat) b, k ≤ j → s.data.toList[j]? = some b → b = c) := hc
    clear hc
    have hkl' : Lib.Kept (k ≤ s.data.toList.length) := hkl
    clear hkl
    generalize ht : (⟨(s.data.toList.take k).toArray⟩ : ByteArray) = t at hts hb0 hx1 ⊢
    have hK3 : Lib.Kept ((⟨(s.data.toList.take k).toArray⟩ : ByteArray) = t) := ht
    clear ht
    by_cases h0 : 0 < k
    · have h1 : k - 1 < t.size := by omega
      have hwr : ((k : Int) - 1 + 9223372036854775808) % 18446744073709551616 - 9223372036854775808 = ((k - 1 : Nat) : Int) := by omega
      have hbk := hb0 h1
      clear hb0
      by_cases heq : t[k - 1]'h1 = c
      · have heq' : ((t[k - 1]'h1).toNat : Int) = (c.toNat : Int) := by rw [heq]
        have hK2 : Lib.Kept (s.data.toList[k - 1]? = some (t[k - 1]'h1)) := hbk
        clear hbk
        go_wp2
        refine ⟨⟨k - 1, by omega, rfl, fun j b hj hb => ?_⟩, ?_⟩
        · by_cases e : j = k - 1
          · subst e
            have h2 : s.data.toList[k - 1]? = some (t[k - 1]'h1) := hK2
            have h3 : s.data.toList[k - 1]? = some b := by simpa using hb
            rw [h2] at h3
            rw [← Option.some.inj h3, heq]
          · exact hK j b (by omega) (by simpa using hb)
        · have hkl : k ≤ s.data.toList.length := hkl'
          rw [Lib.strSize_string, Lib.strSize_string, Lib.size_mk, List.length_take]
          omega
      · have hne' : ¬ ((t[k - 1]'h1).toNat : Int) = (c.toNat : Int) := by
          intro e
          exact heq (UInt8.toNat_inj.1 (by exact_mod_cast e))
        have hbeq : (((t[k - 1]'h1).toNat : Int) == (c.toNat : Int)) = false := by simpa using hne'
        have hK2 : Lib.Kept (s.data.toList[k - 1]? = some (t[k - 1]'h1)) := hbk
        clear hbk
        go_wp2
        go_ret
        refine ⟨?_, rfl⟩
        have ht' : (⟨(s.data.toList.take k).toArray⟩ : ByteArray) = t := hK3
        show Ending.returned (Value.string t) = _
        rw [Lib.trimRightB_take s.data.toList c k hkl' hK (fun b _ hb => by
          have h2 : s.data.toList[k - 1]? = some (t[k - 1]'h1) := hK2
          rw [h2] at hb
          rw [← Option.some.inj hb]
          exact heq), ht']
    · clear hb0
      go_wp2
      go_ret
      refine ⟨?_, rfl⟩
      have ht' : (⟨(s.data.toList.take k).toArray⟩ : ByteArray) = t := hK3
      show Ending.returned (Value.string t) = _
      rw [Lib.trimRightB_take s.data.toList c k hkl' hK (fun b hk0 _ => absurd hk0 h0), ht']

set_option maxHeartbeats 2000000 in
set_option maxRecDepth 1000000 in
theorem trim_any (s : ByteArray) (w : World) (hs : s.size ≤ 9223372036854775807) :
    Calls Tryd.prog 63 #[.string s, .string ⟨#[34]⟩] w fun e w' => e = .returned (.string ⟨(Lib.trimB s.data.toList 34).toArray⟩) ∧ (w' = w ∨ w' = w.drew) := by
  have mixed : Tryd.prog.follows Departure.mixedOrders = true := by kernel_rfl
  have h128 : (((({ data := #[34] } : ByteArray)[0]'(by decide)).toNat : Nat) : Int) = 34 := rfl
  go_enter Tryd.func63, Tryd.ntmps63
  go_wp2
  · have hl : s.data.toList = [] := by rw [← Lib.toList_data]; assumption
    go_ret
    refine ⟨?_, Or.inl rfl⟩
    show Ending.returned (Value.string s) = _
    have hs0 : s = ⟨#[]⟩ := by rw [← Lib.mk_data s, hl]
    rw [hl]
    simp [Lib.trimB, Lib.trimLeftB, Lib.trimRightB, hs0]
  · exfalso
    have h1 : ¬ s.toList = [] := by assumption
    have h2 : s.toList.isEmpty = true := by assumption
    exact h1 (by simpa using h2)
  · go_region_with_o (first
      | (refine (trimRightByte_any s 34 _ hs).mono ?_; rintro e w' ⟨rfl, rfl⟩)
      | (refine (trimLeftByte_any ⟨(Lib.trimRightB s.data.toList 34).toArray⟩ 34 _).mono ?_; rintro e w' ⟨rfl, rfl⟩))
    all_goals (go_wp2; go_ret; exact ⟨rfl, Or.inr rfl⟩)
set_option maxRecDepth 100000 in
set_option maxHeartbeats 1000000 in
theorem pre93 (l : List UInt8) (p : ByteArray) (a b : UInt8) (hp : p = ⟨#[a, b]⟩) (w : World) (hn : l.length ≤ 1000000) :
    Calls Tryd.prog 93 #[.string ⟨l.toArray⟩, .string p] w fun e w' => e = .returned (.bool (headP (isI a.toNat) l && headP (isI b.toNat) (l.drop 1))) ∧ w' = w := by
  have h2 : p.size = 2 := by rw [hp]; rfl
  have hsz : (⟨l.toArray⟩ : ByteArray).size = l.length := Lib.size_mk l
  by_cases h : 2 ≤ l.length
  · have HSL : ∀ W, (Instr.slice 9 (.string ⟨l.toArray⟩) none (some (.int .i64 2)) none).run Tryd.prog W = .ok (.string ⟨(l.take 2).toArray⟩) W := fun W => run_upto l 2 h hn W
    obtain ⟨c, d, r, rfl⟩ : ∃ c d r, l = c :: d :: r := by
      match l, h with
      | c :: d :: r, _ => exact ⟨c, d, r, rfl⟩
    have hE : ((⟨((c :: d :: r).take 2).toArray⟩ : ByteArray).toList == p.toList) = (headP (isI a.toNat) (c :: d :: r) && headP (isI b.toNat) ((c :: d :: r).drop 1)) := by
      rw [hp, Lib.toList_data, Lib.toList_data]
      show (([c, d] : List UInt8) == [a, b]) = (((c.toNat : Int) == a.toNat) && ((d.toNat : Int) == b.toNat))
      have key : ∀ x y : UInt8, ((x.toNat : Int) == (y.toNat : Int)) = (x == y) := fun x y => by
        rw [Bool.eq_iff_iff, beq_iff_eq, beq_iff_eq]
        exact ⟨fun h => UInt8.toNat_inj.1 (by omega), fun h => by rw [h]⟩
      rw [key, key]
      simp [Bool.eq_iff_iff]
    rw [← hE]
    have q0 : decide ((2 : Int) ≤ ((⟨(c :: d :: r).toArray⟩ : ByteArray).size : Int)) = true := by rw [hsz]; simp; omega
    generalize (⟨((c :: d :: r).take 2).toArray⟩ : ByteArray) = T at *
    generalize (⟨(c :: d :: r).toArray⟩ : ByteArray) = St at *
    clear hp hE hsz h hn
    go_enter Tryd.func93, Tryd.ntmps93
    go_wp2_with fail
    go_ret
    exact ⟨rfl, rfl⟩
  · have hE : (headP (isI a.toNat) l && headP (isI b.toNat) (l.drop 1)) = false := by
      match l, h with
      | [], _ => rfl
      | [c], _ => simp [headP]
      | c :: d :: r, h => simp at h
    rw [hE]
    have q0 : decide ((2 : Int) ≤ ((⟨l.toArray⟩ : ByteArray).size : Int)) = false := by rw [hsz]; simp; omega
    generalize (⟨l.toArray⟩ : ByteArray) = St at *
    clear hp hE hsz h hn
    go_enter Tryd.func93, Tryd.ntmps93
    go_wp2_with fail
    go_ret
    exact ⟨rfl, rfl⟩
set_option maxRecDepth 100000 in
set_option maxHeartbeats 1000000 in
theorem pre72 (l : List UInt8) (p : ByteArray) (a b : UInt8) (hp : p = ⟨#[a, b]⟩) (w : World) (hn : l.length ≤ 1000000) :
    Calls Tryd.prog 72 #[.string ⟨l.toArray⟩, .string p] w fun e w' => e = .returned (.bool (headP (isI a.toNat) l && headP (isI b.toNat) (l.drop 1))) ∧ w' = w := by
  have C1 := Lib.hid (pre93 l p a b hp w hn)
  generalize (headP (isI a.toNat) l && headP (isI b.toNat) (l.drop 1)) = y at *
  generalize (⟨l.toArray⟩ : ByteArray) = St at *
  clear hp hn
  go_enter Tryd.func72, Tryd.ntmps72
  go_wp2_with (go_at_call 93; (with_reducible refine C1.out.mono ?_); rintro e w1 ⟨rfl, rfl⟩)
  go_ret
  exact ⟨rfl, rfl⟩

end Go.Proofs.YtkihoekldklkhaaDoor
