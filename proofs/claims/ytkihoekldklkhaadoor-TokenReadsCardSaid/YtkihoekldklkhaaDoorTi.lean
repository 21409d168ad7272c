/- The kinds, one behind the other: IndexFunc, ContainsFunc. -/
import Derived.Test.YtkihoekldklkhaaDoorTh
namespace Go.Proofs.YtkihoekldklkhaaDoor
open Go.RowKit
set_option linter.unusedVariables false
set_option linter.unusedSimpArgs false

def kO (k : Nat) (r : List UInt8) : Option TR := match k with
  | 0 => if headP ltrI r = true then some (wordL r) else none
  | 1 => if headP digI r = true then some (numL r) else none
  | 2 => if headP (isI 34) r = true then some (quoL r) else none
  | _ => if headP symI r = true then some (symL r) else none
def tokO (r : List UInt8) : Option TR := (kO 0 r).or ((kO 1 r).or ((kO 2 r).or (kO 3 r)))
theorem tokO_some {k : Nat} {r : List UInt8} {t : TR} (hk : k < 4) (h : ∀ j, j < k → kO j r = none) (ht : kO k r = some t) : tokO r = some t := by
  unfold tokO
  rcases (by omega : k = 0 ∨ k = 1 ∨ k = 2 ∨ k = 3) with rfl | rfl | rfl | rfl
  · rw [ht]; rfl
  · rw [h 0 (by omega), ht]; rfl
  · rw [h 0 (by omega), h 1 (by omega), ht]; rfl
  · rw [h 0 (by omega), h 1 (by omega), h 2 (by omega), ht]; rfl
theorem tokO_none {r : List UInt8} (h : ∀ j, j < 4 → kO j r = none) : tokO r = none := by
  unfold tokO
  rw [h 0 (by omega), h 1 (by omega), h 2 (by omega), h 3 (by omega)]
  rfl
theorem tokO_eq (r : List UInt8) : tokL r = match tokO r with | some t => t | none => .bad 0 := by
  unfold tokL tokO kO
  by_cases h1 : headP ltrI r = true
  · simp [h1]
  · by_cases h2 : headP digI r = true
    · simp [h1, h2]
    · by_cases h3 : headP (isI 34) r = true
      · simp [h1, h2, h3]
      · by_cases h4 : headP symI r = true
        · simp [h1, h2, h3, h4]
        · simp [h1, h2, h3, h4]
theorem kind_any (k : Nat) (hk : k < 4) (L : List UInt8) (sb tb i : Nat) (tx : ByteArray) (ln cl : Int) (w : World) (h : Sc L sb i w) (ht : TB tb 0 tx 0 ln cl w) (hn : L.length ≤ 1000000) (hi0 : i ≤ L.length) : Calls Tryd.prog (55 + k) #[.pointer (some ⟨sb, 0, none⟩), .pointer (some ⟨tb, 0, none⟩)] w (KindR L sb tb i tx ln cl (kO k (L.drop i)) w) := by
  rcases (by omega : k = 0 ∨ k = 1 ∨ k = 2 ∨ k = 3) with rfl | rfl | rfl | rfl
  · exact word_any L sb tb i tx ln cl w h ht hn hi0
  · exact number_any L sb tb i tx ln cl w h ht hn hi0
  · exact quoted_any L sb tb i tx ln cl w h ht hn hi0
  · exact symbol_any L sb tb i tx ln cl w h ht hn hi0
theorem kind_enters (k : Nat) (hk : k < 4) : Enters Tryd.prog (55 + k) := by
  rcases (by omega : k = 0 ∨ k = 1 ∨ k = 2 ∨ k = 3) with rfl | rfl | rfl | rfl
  · exact enters_of Tryd.func55 (by kernel_rfl) rfl
  · exact enters_of Tryd.func56 (by kernel_rfl) rfl
  · exact enters_of Tryd.func57 (by kernel_rfl) rfl
  · exact enters_of Tryd.func58 (by kernel_rfl) rfl
set_option maxRecDepth 100000 in
set_option maxHeartbeats 2000000 in
theorem try_any (k : Nat) (hk : k < 4) (L : List UInt8) (sb tb i : Nat) (tx : ByteArray) (ln cl : Int) (w : World) (h : Sc L sb i w) (ht : TB tb 0 tx 0 ln cl w) (hn : L.length ≤ 1000000) (hi0 : i ≤ L.length) : Calls Tryd.prog 62 #[.func (.func (55 + k)) #[.pointer (some ⟨sb, 0, none⟩)] #[], .pointer (some ⟨tb, 0, none⟩)] w (KindR L sb tb i tx ln cl (kO k (L.drop i)) w) := by
  have C := Lib.hid (kind_any k hk L sb tb i tx ln cl w h ht hn hi0)
  have hen : ∀ args w, (callFunc (55 + k) args).run Tryd.prog w = .ok (.enter (55 + k) args) w := kind_enters k hk
  obtain ⟨F, hF⟩ : ∃ F, 55 + k = F := ⟨_, rfl⟩
  rw [hF] at C hen ⊢
  generalize kO k (L.drop i) = O at *
  clear h ht hn hi0 hF hk
  cases O with
  | none =>
    go_enter Tryd.func62, Tryd.ntmps62
    go_wp2_with (go_at_fn F; (with_reducible refine C.out.mono ?_); rintro e w1 ⟨ho, rfl, hs, ht⟩; have HO := Lib.hid ho; have HS := Lib.hid hs; have HT := Lib.hid ht; clear ho hs ht)
    go_ret
    exact ⟨HO.out, rfl, HS.out, HT.out⟩
  | some t =>
    cases t with
    | ok a v n =>
      go_enter Tryd.func62, Tryd.ntmps62
      go_wp2_with (go_at_fn F; (with_reducible refine C.out.mono ?_); rintro e w1 ⟨ho, rfl, hs, ht⟩; have HO := Lib.hid ho; have HS := Lib.hid hs; have HT := Lib.hid ht; clear ho hs ht)
      go_ret
      exact ⟨HO.out, rfl, HS.out, HT.out⟩
    | bad n =>
      go_enter Tryd.func62, Tryd.ntmps62
      go_wp2_with (go_at_fn F; (with_reducible refine C.out.mono ?_); rintro e w1 ⟨ho, rfl, hs⟩; have HO := Lib.hid ho; have HS := Lib.hid hs; clear ho hs)
      exact ⟨rfl, HO.out, rfl, HS.out⟩
def fnK (sb k : Nat) : Value := .func (.func (55 + k)) #[.pointer (some ⟨sb, 0, none⟩)] #[]
/-- The kinds' functions in their block. -/
def FnB (kb sb : Nat) (w : World) : Prop := Blk w kb 103 #[fnK sb 0, fnK sb 1, fnK sb 2, fnK sb 3]
theorem FnB.at {kb sb : Nat} {w : World} (h : FnB kb sb w) (k : Nat) (hk : k < 4) : w.cell? ⟨kb, k, none⟩ = some (fnK sb k) := by
  have := Blk.cell h k
  rw [this]
  rcases (by omega : k = 0 ∨ k = 1 ∨ k = 2 ∨ k = 3) with rfl | rfl | rfl | rfl <;> rfl
/-- How IndexFunc ends. -/
def IxR (L : List UInt8) (sb tb i : Nat) (tx : ByteArray) (ln cl : Int) (o : Option TR) (w : World) (e : Ending) (w' : World) : Prop := Only (fun b => b = sb ∨ b = tb) w w' ∧ match o with
  | none => e = .returned (.int .i64 (-1)) ∧ Sc L sb i w' ∧ TB tb 0 tx 0 ln cl w'
  | some (.ok k v n) => (∃ j : Nat, e = .returned (.int .i64 (j : Int))) ∧ Sc L sb (i + n) w' ∧ TB tb k tx v ln cl w'
  | some (.bad n) => e = .panicked [errV (errN L (i + n))] ∧ Sc L sb (i + n) w'
set_option maxRecDepth 100000 in
set_option maxHeartbeats 2000000 in
theorem index_any (kb : Nat) (L : List UInt8) (sb tb i : Nat) (tx : ByteArray) (ln cl : Int) (w : World) (h : Sc L sb i w) (ht : TB tb 0 tx 0 ln cl w) (hn : L.length ≤ 1000000) (hi0 : i ≤ L.length) (hk : FnB kb sb w) : Calls Tryd.prog 82 #[.slice (some ⟨kb, 0, none⟩) 4 4, .func (.func 62) #[] #[.pointer (some ⟨tb, 0, none⟩)]] w (IxR L sb tb i tx ln cl (tokO (L.drop i)) w) := by
  have HS := Lib.hid h
  have HT := Lib.hid ht
  have HK := Lib.hid hk
  have HN := Lib.hid (And.intro hn hi0)
  have HNE := Lib.hid (And.intro (Blk.ne hk h (by decide)) (Blk.ne hk ht (by decide)))
  clear h ht hk hn hi0
  go_enter Tryd.func82, Tryd.ntmps82
  go_wp2_with fail
  go_loopw [8] (fun kv wr => ∃ k : Nat, (k : Int) ≤ 4 ∧ kv = .int .i64 k ∧ Hid (∀ j, j < k → kO j (L.drop i) = none) ∧ Hid (Sc L sb i wr) ∧ Hid (TB tb 0 tx 0 ln cl wr) ∧ Hid (FnB kb sb wr) ∧ Hid (Only (fun b => b = sb ∨ b = tb) w wr)) (fun kv _ => 4 - (intOf kv).toNat)
  case atStart => exact ⟨0, by omega, rfl, Lib.hid (fun j hj => by omega), HS.out, HT.out, HK.out, Lib.hid (Only.refl _ _)⟩
  case round =>
    obtain ⟨k, hk4, rfl, HP, HSk, HTk, HKk, HOk⟩ := hrel
    by_cases hlt : (k : Int) < 4
    · have hk : k < 4 := by omega
      have hc := HKk.out.at k hk
      unfold fnK at hc
      have C := Lib.hid (try_any k hk L sb tb i tx ln cl wr HSk.out HTk.out HN.out.1 HN.out.2)
      have HNX : Hid (∀ t, kO k (L.drop i) = some t → tokO (L.drop i) = some t) := Lib.hid (fun t ht => tokO_some hk HP.out ht)
      have HNN : Hid (kO k (L.drop i) = none → ∀ j, j < k + 1 → kO j (L.drop i) = none) := Lib.hid (fun h0 j hj => by
        rcases (by omega : j < k ∨ j = k) with h1 | rfl
        · exact HP.out j h1
        · exact h0)
      have h62 : ∀ args w, (callFunc 62 args).run Tryd.prog w = .ok (.enter 62 args) w := enters_of Tryd.func62 (by kernel_rfl) rfl
      cases hO : kO k (L.drop i) with
      | none =>
        rw [hO] at C
        have HN2 := Lib.hid (HNN.out hO)
        clear hO hk
        go_wp2_with (go_at_fn 62; (with_reducible refine C.out.mono ?_); rintro e w1 ⟨ho, rfl, hs, ht⟩; have HO2 := Lib.hid ho; have HS2 := Lib.hid hs; have HT2 := Lib.hid ht; clear ho hs ht)
        go_roundw
        case rel => exact ⟨k + 1, by omega, by go_num, HN2, HS2, HT2, Lib.hid (Blk.only HKk.out HO2.out (fun e => e.elim HNE.out.1 HNE.out.2)), Lib.hid (HOk.out.tr HO2.out)⟩
        case measure => simp [intOf]; omega
      | some t =>
        rw [hO] at C
        have hO2 := HNX.out t hO
        rw [hO2]
        clear hO hO2 hk
        cases t with
        | ok a v n =>
          go_wp2_with (go_at_fn 62; (with_reducible refine C.out.mono ?_); rintro e w1 ⟨ho, rfl, hs, ht⟩; have HO2 := Lib.hid ho; have HS2 := Lib.hid hs; have HT2 := Lib.hid ht; clear ho hs ht)
          go_ret
          exact ⟨HOk.out.tr HO2.out, ⟨k, rfl⟩, HS2.out, HT2.out⟩
        | bad n =>
          go_wp2_with (go_at_fn 62; (with_reducible refine C.out.mono ?_); rintro e w1 ⟨ho, rfl, hs⟩; have HO2 := Lib.hid ho; have HS2 := Lib.hid hs; clear ho hs)
          exact ⟨rfl, HOk.out.tr HO2.out, rfl, HS2.out⟩
    · have hO : tokO (L.drop i) = none := tokO_none (fun j hj => HP.out j (by omega))
      have HO9 := Lib.hid hO
      clear hO
      go_wp2_with fail
      go_ret
      refine ⟨HOk.out, ?_⟩
      rw [HO9.out]
      exact ⟨rfl, HSk.out, HTk.out⟩
set_option maxRecDepth 100000 in
set_option maxHeartbeats 2000000 in
theorem kinds_any (kb : Nat) (L : List UInt8) (sb tb i : Nat) (tx : ByteArray) (ln cl : Int) (w : World) (h : Sc L sb i w) (ht : TB tb 0 tx 0 ln cl w) (hn : L.length ≤ 1000000) (hi0 : i ≤ L.length) (hk : FnB kb sb w) : Calls Tryd.prog 61 #[.slice (some ⟨kb, 0, none⟩) 4 4, .func (.func 62) #[] #[.pointer (some ⟨tb, 0, none⟩)]] w (KindR L sb tb i tx ln cl (tokO (L.drop i)) w) := by
  have C := Lib.hid (index_any kb L sb tb i tx ln cl w h ht hn hi0 hk)
  generalize tokO (L.drop i) = O at *
  clear h ht hn hi0 hk
  cases O with
  | none =>
    go_enter Tryd.func61, Tryd.ntmps61
    go_wp2_with (go_at_call 82; (with_reducible refine C.out.mono ?_); rintro e w1 ⟨ho, rfl, hs, ht⟩; have HO := Lib.hid ho; have HS := Lib.hid hs; have HT := Lib.hid ht; clear ho hs ht)
    go_ret
    exact ⟨HO.out, rfl, HS.out, HT.out⟩
  | some t =>
    cases t with
    | ok a v n =>
      go_enter Tryd.func61, Tryd.ntmps61
      go_wp2_with (go_at_call 82; (with_reducible refine C.out.mono ?_); rintro e w1 ⟨ho, ⟨j, rfl⟩, hs, ht⟩; have HO := Lib.hid ho; have HS := Lib.hid hs; have HT := Lib.hid ht; have hj : decide ((0 : Int) ≤ (j : Int)) = true := (by simp); clear ho hs ht)
      go_ret
      exact ⟨HO.out, by first | rfl | simp, HS.out, HT.out⟩
    | bad n =>
      go_enter Tryd.func61, Tryd.ntmps61
      go_wp2_with (go_at_call 82; (with_reducible refine C.out.mono ?_); rintro e w1 ⟨ho, rfl, hs⟩; have HO := Lib.hid ho; have HS := Lib.hid hs; clear ho hs)
      exact ⟨rfl, HO.out, rfl, HS.out⟩

end Go.Proofs.YtkihoekldklkhaaDoor
