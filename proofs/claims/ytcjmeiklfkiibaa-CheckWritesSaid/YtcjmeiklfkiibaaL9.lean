/- The walk of CheckWrites. -/
import Derived.Test.YtcjmeiklfkiibaaL8
import Derived.Test.YtcjmeiklfkiibaaL3
import Derived.Test.YtcjmeiklfkiibaaRw
import Derived.Outline
namespace Go.Proofs.Ytcjmeiklfkiibaa
open Go.RowKit

def catB (L : List Sl) (j : Nat) : List UInt8 := (L.take j).flatMap (·.l)
theorem catB_zero (L : List Sl) : catB L 0 = [] := rfl
theorem catB_succ (L : List Sl) (j : Nat) (h : j < L.length) : catB L (j + 1) = catB L j ++ L[j].l := by
  unfold catB
  rw [List.take_succ_eq_append_getElem h, List.flatMap_append]
  simp
/-- Two slices of the call's own lie apart. -/
def Sep (v u : Value) : Prop := v.ownBlock = none ∨ v.ownBlock ≠ u.ownBlock
theorem blk_far {w w' : World} {B n sz g : Nat} {e t : TypeId} {v : Value} {xs : List Value} {cs : Array Value} (hg : Blk w g t cs) (h : w.ownsRow B e sz v n xs) (hne : e ≠ t) (hb : w.grownBy w' v.ownBlock) : Blk w' g t cs := by
  refine hg.grown hb ?_
  rcases h.2 with ⟨rfl, _⟩ | ⟨g', cap, cur, rfl, _, hh, _⟩
  · simp [Value.ownBlock]
  · intro he
    have hgg : g = g' := by simpa [Value.ownBlock] using he
    subst hgg
    have hq : Blk w g e cur := hh
    unfold Blk at hq hg
    rw [hq] at hg
    injection hg with hg
    injection hg with _ ht
    exact hne ht
theorem own_lt {w : World} {B n sz : Nat} {e : TypeId} {v : Value} {xs : List Value} (h : w.ownsRow B e sz v n xs) : ∀ g, v.ownBlock = some g → g < w.heap.size := fun g hg => (h.lt g hg).2
/-- Before the copy is made there is none; behind it, it holds the first c0 pieces. -/
def EarlyS (w0 w : World) (k : Int) (g c0 j : Nat) (L : List Sl) (all o early : Value) : Prop :=
  (j ≤ c0 ∧ o = .pointer none ∧ early = .slice none 0 0) ∨
  (c0 < j ∧ ∃ g2 A m cap, o = .pointer (some ⟨g2, 0, none⟩) ∧ early = .slice A m cap ∧ g2 ≠ g ∧ w0.heap.size ≤ g2 ∧ SumS w g2 k (catB L c0) ∧ (catB L c0).length = m ∧ m ≤ 100 * c0 ∧ w.ownsRow w0.heap.size 5 1 early m ((catB L c0).map u8) ∧ Sep early all)
theorem EarlyS.below {w0 w w' : World} {k : Int} {g c0 j : Nat} {L : List Sl} {all o early : Value} (h : EarlyS w0 w k g c0 j L all o early) (hb : Below w.heap.size w w') : EarlyS w0 w' k g c0 j L all o early := by
  rcases h with h | ⟨h1, g2, A, m, cap, h2, h3, h4, h5, h6, h7, h8, h9, h10⟩
  · exact .inl h
  · exact .inr ⟨h1, g2, A, m, cap, h2, h3, h4, h5, Blk.below h6 hb h6.lt, h7, h8, own_none h9 (grown_of_below hb), h10⟩
theorem EarlyS.wrote {w0 w w' : World} {k : Int} {g c0 j : Nat} {L : List Sl} {all o early : Value} {t : TypeId} {cs : Array Value} (h : EarlyS w0 w k g c0 j L all o early) (hg : Blk w g t cs) (ht : 5 ≠ t) (hb : w.grownBy w' (some g)) : EarlyS w0 w' k g c0 j L all o early := by
  rcases h with h | ⟨h1, g2, A, m, cap, h2, h3, h4, h5, h6, h7, h8, h9, h10⟩
  · exact .inl h
  · exact .inr ⟨h1, g2, A, m, cap, h2, h3, h4, h5, Blk.grown h6 hb (by simpa using h4), h7, h8, own_far h9 hg ht hb, h10⟩
theorem EarlyS.app {w0 w w' : World} {k : Int} {g c0 j n : Nat} {L : List Sl} {all all' o early : Value} {xs : List Value} (h : EarlyS w0 w k g c0 j L all o early) (ho : w.ownsRow w0.heap.size 5 1 all n xs) (hb : w.grownBy w' all.ownBlock) (hat : all'.ownBlock = all.ownBlock ∨ all'.ownBlock = some w.heap.size) : EarlyS w0 w' k g c0 j L all' o early := by
  rcases h with h | ⟨h1, g2, A, m, cap, h2, h3, h4, h5, h6, h7, h8, h9, h10⟩
  · exact .inl h
  · refine .inr ⟨h1, g2, A, m, cap, h2, h3, h4, h5, blk_far h6 ho (by decide) hb, h7, h8, h9.kept hb h10, ?_⟩
    rcases h10 with h10 | h10
    · exact .inl h10
    · rcases hat with hat | hat
      · rw [Sep, hat]; exact .inr h10
      · refine .inr fun he => ?_
        rw [hat] at he
        exact absurd (own_lt h9 _ he) (by omega)

/-- What holds at the head of a round. -/
def WrS (w0 w : World) (k : Int) (g c0 j : Nat) (L : List Sl) (all o early : Value) : Prop :=
  ∃ A m cap, all = .slice A m cap ∧ (catB L j).length = m ∧ m ≤ 100 * j ∧ w.ownsRow w0.heap.size 5 1 all m ((catB L j).map u8) ∧ SumS w g k (catB L j) ∧ Below w0.heap.size w0 w ∧ EarlyS w0 w k g c0 j L all o early
theorem SumS.lt {w : World} {g : Nat} {k : Int} {l : List UInt8} (h : SumS w g k l) : g < w.heap.size := Blk.lt h
theorem SumS.alloc {w : World} {g : Nat} {k : Int} {l : List UInt8} (h : SumS w g k l) (o : Obj) : SumS (w.alloc o) g k l := Blk.alloc h o
theorem val_ok {k : Int} (hk : 1 ≤ k ∧ k ≤ 3) (l : List UInt8) : valS k l = chkS k l := by unfold valS; rw [if_pos hk]
theorem no_ok {k : Int} (hk : 1 ≤ k ∧ k ≤ 3) : noS k = 0 := by unfold noS; rw [if_pos hk]
theorem rsum_ok (k : Int) (hk : 1 ≤ k ∧ k ≤ 3) (A : Option Addr) (n c : Nat) (l : List UInt8) (w : World) (hl : l.length = n) (hn : n ≤ 60000) (hb : BS w w.heap.size A l) :
    Calls Try.prog 15 #[.int .i64 k, .slice A n c] w fun e w' => e = .returned (.tuple #[.int .i64 (chkS k l), .int .i64 0]) ∧ w = w' := by
  have h := rsum_any k A n c l w hl hn hb
  rw [val_ok hk, no_ok hk] at h
  exact h

theorem EarlyS.step {w0 w : World} {k : Int} {g c0 j : Nat} {L : List Sl} {all o early : Value} (h : EarlyS w0 w k g c0 j L all o early) (hc : j ≠ c0) : EarlyS w0 w k g c0 (j + 1) L all o early := by
  rcases h with ⟨h1, h2⟩ | ⟨h1, h2⟩
  · exact .inl ⟨by omega, h2⟩
  · exact .inr ⟨by omega, h2⟩
theorem blk_BS2 (w : World) (g : Nat) (h : Blk w g 5 #[.int .u8 1, .int .u8 2]) : BS w w.heap.size (some ⟨g, 0, none⟩) [1, 2] := fun _ => ⟨g, 0, rfl, h.lt, fun i hi => by
  rw [Nat.zero_add, h.cell]
  match i, hi with
  | 0, _ => rfl
  | 1, _ => rfl
  | (_ + 2), h => exact absurd h (by simp)⟩

set_option maxRecDepth 100000 in
set_option maxHeartbeats 4000000 in
theorem writes_ok (k : Int) (hk : 1 ≤ k ∧ k ≤ 3) (A : Option Addr) (n c : Nat) (L : List Sl) (c0 : Nat) (w : World) (hl : L.length = n) (hn : (n : Int) ≤ 20) (hc0 : (c0 : Int) < 256) (hb : BSS w w.heap.size A L) :
    Calls Try.prog 9 #[.int .i64 k, .slice A n c, .int .u8 c0] w fun e w' => e = .returned (.bool true) ∧ Below w.heap.size w w' := by
  have HK := Lib.hid hk
  have HL := Lib.hid hl
  have HB := Lib.hid hb
  have c14 := fun W => rbits_any k W
  have hno := no_ok hk
  rw [hno] at c14
  generalize bitsS k = bb at c14
  have C14 := Lib.hid c14
  clear hk hl hb c14 hno
  go_enter Try.func9, Try.ntmps9
  go_wp2_with fail
  (with_reducible refine (new_ok k HK.out _).mono ?_); rintro e w1 ⟨g, rfl, hg, hs, b1⟩
  have HS1 := Lib.hid hs
  have HGW := Lib.hid hg
  have HB1 := Lib.hid b1
  have HP1 := hs.lt
  have HPN : ∀ W : World, (binOp .eql 43 (.pointer (some ⟨g, 0, none⟩)) (.pointer none)).run Try.prog W = .ok (.bool false) W := fun W => by kernel_rfl
  clear hs hg b1
  go_wp2_with (go_at_call 14; (with_reducible refine (C14.out _).mono ?_); rintro e w2 ⟨rfl, rfl⟩)
  go_loopw [14, 11, 12, 13] (fun i all early o wr => ∃ j : Nat, j ≤ n ∧ i = .int .i64 j ∧ WrS w wr k g c0 j L all o early) (fun i _ _ _ _ => n - (intOf i).toNat)
  case atStart => exact ⟨0, Nat.zero_le _, rfl, none, 0, 0, rfl, rfl, by omega, World.ownsRow_nil _ _ 5 1, HS1.out, HB1.out, .inl ⟨Nat.zero_le _, rfl, rfl⟩⟩
  case round =>
    obtain ⟨j, hj, rfl, A2, m, cap2, rfl, hm, hm2, hown, hs, hbw, he⟩ := hrel
    have HM := Lib.hid hm
    have HO2 := Lib.hid hown
    have HS2 := Lib.hid hs
    have HB2 := Lib.hid hbw
    have HE2 := Lib.hid he
    clear hm hown hs hbw he
    by_cases hlt : (j : Int) < n
    · have hjl : j < L.length := by rw [HL.out]; omega
      obtain ⟨b, o, hA, hbb, hrow⟩ := HB.out (by omega)
      subst hA
      obtain ⟨r1, r2, r3, r4, r5⟩ := hrow j hjl
      have hcs := catB_succ L j hjl
      obtain ⟨R, hR⟩ : ∃ R, L[j] = R := ⟨_, rfl⟩
      rw [hR] at r1 r2 r3 r4 r5 hcs
      obtain ⟨rA, rn, rc, rl⟩ := R
      simp only at r1 r2 r3 r4 r5 hcs
      have HR1 := Lib.hid r1
      have hcell := (HB2.out.cell (p := ⟨b, o + j, none⟩) hbb).trans r1
      have HRB := Lib.hid r5
      have HRL := Lib.hid r2
      have HCS := Lib.hid hcs
      have hrc : (rn : Int) ≤ rc := by omega
      have HM6 := Lib.hid (show (catB L j ++ rl).length = m + rn by rw [List.length_append, HM.out, HRL.out])
      clear hrow r1 r2 r3 r4 r5 hcs hR hjl
      by_cases h100 : (rn : Int) ≤ 100
      · by_cases hc : j = c0
        · subst hc
          have he0 : ((j : Int) == (j : Int)) = true := by simp
          rcases HE2.out with ⟨_, rfl, rfl⟩ | ⟨hbad, _⟩
          · go_wp2_with fail
            (with_reducible refine (copy_ok k HK.out g (catB L j) _ HS2.out).mono ?_); rintro e w3 ⟨g2, rfl, hg2, hs2, b3⟩
            have HG2 := Lib.hid (show g2 ≠ g by have := HS2.out.lt; omega)
            have HGW2 := Lib.hid (Nat.le_trans HB2.out.size hg2)
            have HT3 := Lib.hid hs2
            have HB3 := Lib.hid (HB2.out.trans (b3.mono HB2.out.size))
            have HO3 := Lib.hid (own_none HO2.out (grown_of_below b3))
            have HS3 := Lib.hid (show SumS w3 g k (catB L j) from Blk.below HS2.out b3 HS2.out.lt)
            clear hs2 b3 hg2
            go_wp2_with (at_builtin; go_must (refine wpList_app_own (base := w3.heap.size) (n := 0) (m := m) (xs := []) (news := (catB L j).map Ytcjmeiklfkiibaa.u8) rfl (.tmp 78) (.tmp 79) 22 rfl el22 rfl (own_none00 w3 5) rfl ((holds_own HO3.out).alloc _) (u8_one _) (by unfold maxLen; omega) (by omega) (by simp) ?_; intro v4 w4 hown hg hat; rw [Nat.zero_add, List.nil_append] at hown; have b4 := Lib.hid (below_own ((Below.refl w3.heap.size w3).alloc (Nat.le_refl _) _) (by simp) (own_none00 w3 5) hg); have HO4 := Lib.hid hown; clear hown hg; refine Hid.out ?_))
            refine Lib.hid ?_
            have HSEP : Hid (Sep v4 (.slice A2 m cap2)) := Lib.hid (by
              by_cases hn4 : v4.ownBlock = none
              · exact .inl hn4
              · refine .inr fun he => ?_
                have hlt3 := own_lt HO3.out
                rw [← he] at hlt3
                rcases hat with hat | hat
                · rw [hat] at hlt3
                  have := hlt3 w3.heap.size rfl
                  omega
                · rw [hat] at hlt3
                  have := hlt3 _ rfl
                  simp at this
                  omega)
            clear hat
            obtain ⟨A4, cap4, rfl, -⟩ := own_form HO4.out
            have HB4 := Lib.hid (HB3.out.trans (b4.out.mono HB3.out.size))
            have HOA4 := Lib.hid (own_none HO3.out (grown_of_below b4.out))
            have HS4 := Lib.hid (show SumS w4 g k (catB L j) from Blk.below HS3.out b4.out HS3.out.lt)
            have HE4 := Lib.hid (show EarlyS w w4 k g j (j + 1) L (.slice A2 m cap2) (.pointer (some ⟨g2, 0, none⟩)) (.slice A4 m cap4) from .inr ⟨by omega, g2, A4, m, cap4, rfl, rfl, HG2.out, HGW2.out, Blk.below HT3.out b4.out HT3.out.lt, HM.out, by omega, own_base HO4.out HB3.out.size, HSEP.out⟩)
            have hcell4 := (HB4.out.cell (p := ⟨b, o + j, none⟩) hbb).trans HR1.out
            clear b4
            go_wp2_with (at_builtin; go_must (refine wpList_app_own (base := w.heap.size) (n := m) (m := rn) (xs := (catB L j).map Ytcjmeiklfkiibaa.u8) (news := rl.map Ytcjmeiklfkiibaa.u8) rfl (.tmp 81) (.tmp 85) 22 rfl el22 rfl HOA4.out rfl ((HRB.out.holds HRL.out).keep HB4.out) (u8_one rl) (by unfold maxLen; omega) (by omega) HB4.out.size ?_; intro v6 w6 hown hg hat; rw [← List.map_append] at hown; have HO6 := Lib.hid hown; have HB6 := Lib.hid (below_own HB4.out HB4.out.size HOA4.out hg); have HS6 := Lib.hid (show SumS w6 g k (catB L j) from blk_far HS4.out HOA4.out (by decide) hg); have HE6 := Lib.hid (EarlyS.app HE4.out HOA4.out hg hat); have hcell6 := (HB6.out.cell (p := ⟨b, o + j, none⟩) hbb).trans HR1.out; clear hown hg hat; obtain ⟨A6, cap6, rfl, hc6, -⟩ := own_form HO6.out))
            (with_reducible refine (write_ok k HK.out rA rn rc g (catB L j) rl _ HRL.out (by omega) (by rw [HM.out]; omega) ((HRB.out.below HB6.out).more HB6.out.size) (bs_ne HRB.out HRL.out HGW.out) HS6.out).mono ?_); rintro e w7 ⟨⟨rfl, hs⟩, b7⟩
            have HS7 := Lib.hid hs
            have HB7 := Lib.hid (below_grown HB6.out HB6.out.size HGW.out b7)
            have HO7 := Lib.hid (own_far HO6.out HS6.out (by decide) b7)
            have HE7 := Lib.hid (EarlyS.wrote HE6.out HS6.out (by decide) b7)
            clear hs b7
            go_wp2_with fail
            (with_reducible refine (sum_ok k HK.out g (catB L j ++ rl) _ HS7.out).mono ?_); rintro e w8 ⟨rfl, b8⟩
            have HB8 := Lib.hid (HB7.out.trans (b8.mono HB7.out.size))
            have HO8 := Lib.hid (own_none HO7.out (grown_of_below b8))
            have HS8 := Lib.hid (show SumS w8 g k (catB L j ++ rl) from Blk.below HS7.out b8 HS7.out.lt)
            have HE8 := Lib.hid (HE7.out.below b8)
            clear b8
            go_wp2_with fail
            (with_reducible refine (rsum_ok k HK.out A6 (m + rn) cap6 (catB L j ++ rl) _ HM6.out (by omega) (own_BS HO8.out)).mono ?_); rintro e w9 ⟨rfl, rfl⟩
            go_wp2_with (go_at_call 24; (with_reducible refine (len_ok k HK.out g (catB L j ++ rl) _ HS8.out).mono ?_); rintro e w9 ⟨rfl, rfl⟩; rw [HM6.out])
            go_roundw
            case rel => exact ⟨j + 1, by omega, by go_num, A6, m + rn, cap6, rfl, by rw [HCS.out]; exact HM6.out, by omega, by rw [HCS.out]; exact HO8.out, by rw [HCS.out]; exact HS8.out, HB8.out, HE8.out⟩
            case measure => simp [intOf]; omega
          · omega
        · have he0 : ((j : Int) == (c0 : Int)) = false := by simp; omega
          have HCN := Lib.hid hc
          go_wp2_with (at_builtin; go_must (refine wpList_app_own (base := w.heap.size) (n := m) (m := rn) (xs := (catB L j).map Ytcjmeiklfkiibaa.u8) (news := rl.map Ytcjmeiklfkiibaa.u8) rfl (.tmp 81) (.tmp 85) 22 rfl el22 rfl HO2.out rfl ((HRB.out.holds HRL.out).keep HB2.out) (u8_one rl) (by unfold maxLen; omega) (by omega) HB2.out.size ?_; intro v6 w6 hown hg hat; rw [← List.map_append] at hown; have HO6 := Lib.hid hown; have HB6 := Lib.hid (below_own HB2.out HB2.out.size HO2.out hg); have HS6 := Lib.hid (show SumS w6 g k (catB L j) from blk_far HS2.out HO2.out (by decide) hg); have HE6 := Lib.hid (EarlyS.app HE2.out HO2.out hg hat); have hcell6 := (HB6.out.cell (p := ⟨b, o + j, none⟩) hbb).trans HR1.out; clear hown hg hat; obtain ⟨A6, cap6, rfl, hc6, -⟩ := own_form HO6.out))
          (with_reducible refine (write_ok k HK.out rA rn rc g (catB L j) rl _ HRL.out (by omega) (by rw [HM.out]; omega) ((HRB.out.below HB6.out).more HB6.out.size) (bs_ne HRB.out HRL.out HGW.out) HS6.out).mono ?_); rintro e w7 ⟨⟨rfl, hs⟩, b7⟩
          have HS7 := Lib.hid hs
          have HB7 := Lib.hid (below_grown HB6.out HB6.out.size HGW.out b7)
          have HO7 := Lib.hid (own_far HO6.out HS6.out (by decide) b7)
          have HE7 := Lib.hid (EarlyS.wrote HE6.out HS6.out (by decide) b7)
          clear hs b7
          go_wp2_with fail
          (with_reducible refine (sum_ok k HK.out g (catB L j ++ rl) _ HS7.out).mono ?_); rintro e w8 ⟨rfl, b8⟩
          have HB8 := Lib.hid (HB7.out.trans (b8.mono HB7.out.size))
          have HO8 := Lib.hid (own_none HO7.out (grown_of_below b8))
          have HS8 := Lib.hid (show SumS w8 g k (catB L j ++ rl) from Blk.below HS7.out b8 HS7.out.lt)
          have HE8 := Lib.hid (HE7.out.below b8)
          clear b8
          go_wp2_with fail
          (with_reducible refine (rsum_ok k HK.out A6 (m + rn) cap6 (catB L j ++ rl) _ HM6.out (by omega) (own_BS HO8.out)).mono ?_); rintro e w9 ⟨rfl, rfl⟩
          go_wp2_with (go_at_call 24; (with_reducible refine (len_ok k HK.out g (catB L j ++ rl) _ HS8.out).mono ?_); rintro e w9 ⟨rfl, rfl⟩; rw [HM6.out])
          go_roundw
          case rel => exact ⟨j + 1, by omega, by go_num, A6, m + rn, cap6, rfl, by rw [HCS.out]; exact HM6.out, by omega, by rw [HCS.out]; exact HO8.out, by rw [HCS.out]; exact HS8.out, HB8.out, HE8.out.step HCN.out⟩
          case measure => simp [intOf]; omega
      · go_wp2_with (go_at_call 11; (with_reducible refine (known_any _).mono ?_); rintro e w5 ⟨rfl, b5⟩; have B5 := Lib.hid (HB2.out.trans (b5.mono HB2.out.size)); clear b5)
        go_ret
        exact ⟨rfl, B5.out⟩
    · obtain rfl : j = n := by omega
      have HLL := Lib.hid (show (catB L j).length = m from HM.out)
      by_cases hc : (j : Int) ≤ c0
      · go_wp2_with (go_at_call 11; (with_reducible refine (known_any _).mono ?_); rintro e w5 ⟨rfl, b5⟩; have B5 := Lib.hid (HB2.out.trans (b5.mono HB2.out.size)); clear b5)
        go_ret
        exact ⟨rfl, B5.out⟩
      · rcases HE2.out with ⟨hbad, _⟩ | ⟨_, g2, A3, m3, cap3, rfl, rfl, hg2, hgw2, hs2, hm3, hm32, ho3, hsep⟩
        · omega
        · have HG2 := Lib.hid hg2
          have HGW2 := Lib.hid hgw2
          have HT2 := Lib.hid hs2
          have HM3 := Lib.hid hm3
          have HO3 := Lib.hid ho3
          clear hg2 hgw2 hs2 hm3 ho3 hsep
          have HPN2 : ∀ W : World, (binOp .eql 43 (.pointer (some ⟨g2, 0, none⟩)) (.pointer none)).run Try.prog W = .ok (.bool false) W := fun W => by kernel_rfl
          go_wp2_with fail
          (with_reducible refine (sum_ok k HK.out g2 (catB L c0) _ HT2.out).mono ?_); rintro e w3 ⟨rfl, b3⟩
          have HB3 := Lib.hid (HB2.out.trans (b3.mono HB2.out.size))
          have HOA3 := Lib.hid (own_none HO2.out (grown_of_below b3))
          have HOE3 := Lib.hid (own_none HO3.out (grown_of_below b3))
          have HS3 := Lib.hid (show SumS w3 g k (catB L j) from Blk.below HS2.out b3 HS2.out.lt)
          have HT3 := Lib.hid (show SumS w3 g2 k (catB L c0) from Blk.below HT2.out b3 HT2.out.lt)
          clear b3
          go_wp2_with fail
          (with_reducible refine (rsum_ok k HK.out A3 m3 cap3 (catB L c0) _ HM3.out (by omega) (own_BS HOE3.out)).mono ?_); rintro e w4 ⟨rfl, rfl⟩
          go_wp2_with (go_at_call 24; (with_reducible refine (len_ok k HK.out g2 (catB L c0) _ HT3.out).mono ?_); rintro e w4 ⟨rfl, rfl⟩; rw [HM3.out])
          have HB12 := Lib.hid (Blk.new w3 5 #[.int .u8 1, .int .u8 2])
          (with_reducible refine (write_ok k HK.out _ 2 2 g2 (catB L c0) [1, 2] _ rfl (by omega) (by rw [HM3.out]; omega) (blk_BS2 _ _ HB12.out) (fun _ p hp => by cases hp; have := HT3.out.lt; simp; omega) (HT3.out.alloc _)).mono ?_); rintro e w6 ⟨⟨rfl, hs6⟩, b6⟩
          have HB6 := Lib.hid (below_grown (HB3.out.alloc HB3.out.size (.cells #[.int .u8 1, .int .u8 2] 5)) (by have := HB3.out.size; simp; omega) HGW2.out b6)
          have HO6 := Lib.hid (own_far (own_alloc HOA3.out) (HT3.out.alloc _) (by decide) b6)
          have HS6 := Lib.hid (show SumS w6 g k (catB L j) from Blk.grown (HS3.out.alloc _) b6 (by simpa using HG2.out.symm))
          clear hs6 b6
          go_wp2_with fail
          (with_reducible refine (sum_ok k HK.out g (catB L j) _ HS6.out).mono ?_); rintro e w7 ⟨rfl, b7⟩
          have HB7 := Lib.hid (HB6.out.trans (b7.mono HB6.out.size))
          have HO7 := Lib.hid (own_none HO6.out (grown_of_below b7))
          have HS7 := Lib.hid (show SumS w7 g k (catB L j) from Blk.below HS6.out b7 HS6.out.lt)
          clear b7
          go_wp2_with fail
          (with_reducible refine (rsum_ok k HK.out A2 m cap2 (catB L j) _ HM.out (by omega) (own_BS HO7.out)).mono ?_); rintro e w8 ⟨rfl, rfl⟩
          go_wp2_with (first
            | (go_at_call 24; (with_reducible refine (len_ok k HK.out g (catB L j) _ HS7.out).mono ?_); rintro e w9 ⟨rfl, rfl⟩; rw [HM.out])
            | (go_at_call 11; (with_reducible refine (known_any _).mono ?_); rintro e w5 ⟨rfl, b5⟩; have B5 := Lib.hid (HB7.out.trans (b5.mono HB7.out.size)); clear b5))
          go_ret
          exact ⟨rfl, B5.out⟩

set_option maxRecDepth 100000 in
set_option maxHeartbeats 2000000 in
theorem writes_law (k : Int) (A : Option Addr) (n c : Nat) (L : List Sl) (cv : Int) (w : World) (_ : (Lit.int .i64 k).wf = true) (hl : L.length = n) (_ : n ≤ c) (_ : c ≤ maxLen) (hb : BSS w w.heap.size A L) (hcv : (Lit.int .u8 cv).wf = true) :
    Calls Try.prog 9 #[.int .i64 k, .slice A n c, .int .u8 cv] w fun e w' => e = .returned (.bool true) ∧ Below w.heap.size w w' := by
  by_cases hn : (n : Int) ≤ 20
  · by_cases hk : 1 ≤ k ∧ k ≤ 3
    · obtain ⟨h0, h1⟩ := byte_wf hcv
      obtain ⟨c0, rfl⟩ := Int.eq_ofNat_of_zero_le h0
      exact writes_ok k hk A n c L c0 w hl hn h1 hb
    · have c20 := new_bad k w (by omega)
      have c14 := fun W => rbits_any k W
      have hno : noS k = 2 := by unfold noS; rw [if_neg hk]
      rw [hno] at c14
      generalize bitsS k = bb at c14
      have C14 := Lib.hid c14
      have C20 := Lib.hid c20
      clear hl hb hcv c14 c20 hno hk
      have hpn : ∀ W : World, (binOp .eql 43 (.pointer none) (.pointer none)).run Try.prog W = .ok (.bool true) W := fun W => by kernel_rfl
      go_enter Try.func9, Try.ntmps9
      go_wp2_with (first
        | (go_at_call 20; (with_reducible refine C20.out.mono ?_); rintro e w1 ⟨rfl, b1⟩; have B1 := Lib.hid b1; clear b1)
        | (go_at_call 14; (with_reducible refine (C14.out _).mono ?_); rintro e w2 ⟨rfl, rfl⟩)
        | (go_at_call 11; (with_reducible refine (known_any _).mono ?_); rintro e w5 ⟨rfl, b5⟩; have B5 := Lib.hid (B1.out.trans (b5.mono B1.out.size)); clear b5))
      go_ret
      exact ⟨rfl, B5.out⟩
  · clear hl hb hcv
    go_enter Try.func9, Try.ntmps9
    go_wp2_with (go_at_call 11; (with_reducible refine (known_any _).mono ?_); rintro e w5 ⟨rfl, b5⟩; have B5 := Lib.hid b5; clear b5)
    go_ret
    exact ⟨rfl, B5.out⟩
end Go.Proofs.Ytcjmeiklfkiibaa
