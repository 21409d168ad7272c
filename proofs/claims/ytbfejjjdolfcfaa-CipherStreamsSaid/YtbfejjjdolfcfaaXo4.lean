/- The contract of the reference's Xor. -/
import Derived.Test.YtbfejjjdolfcfaaRb3
import Derived.Test.YtbfejjjdolfcfaaXo3
namespace Go.Proofs.Ytbfejjjdolfcfaa
open Go.RowKit
set_option linter.unusedVariables false
set_option linter.unusedSimpArgs false

theorem holds_cell {w : World} {A : Option Addr} {n : Nat} {xs : List Value} {u : Value} (h : Holds w A n xs) {i : Nat} (hi : (i : Int) < n) (hu : xs[i]? = some u) : ∃ b o, A = some ⟨b, o, none⟩ ∧ w.cell? ⟨b, o + i, none⟩ = some u := by
  cases A with
  | none => have := (h.2.1 rfl).1; omega
  | some p =>
    have hl : xs.length = n := by have := h.1; simpa using this
    have h0 : 0 < xs.length := by omega
    have hc0 := h.2.2 _ rfl 0 xs[0] (by simp)
    have hc := h.2.2 _ rfl i _ hu
    obtain ⟨b, o, spot⟩ := p
    have hs : spot = none := by simpa [Addr.add] using World.cell?_spot hc0
    subst hs
    rw [Addr.add_lit] at hc
    exact ⟨b, o, rfl, hc⟩

theorem rblk_key (key : Int) (hk : isW key = true) (c : Nat) (hc : c < 4294967296) (g g' : Nat) (w : World) (h1 : Blk w g 3 #[.int .i64 key, .int .i64 key, .int .i64 key, .int .i64 key, .int .i64 key, .int .i64 key, .int .i64 key, .int .i64 key]) (h2 : Blk w g' 3 #[.int .i64 0, .int .i64 0, .int .i64 0]) :
    Calls Try.prog 13 #[.slice (some ⟨g, 0, none⟩) 8 8, .slice (some ⟨g', 0, none⟩) 3 3, .int .i64 c] w fun e w' => Rowed w 5 64 ((blkB (List.replicate 8 key) [0, 0, 0] (c : Int)).map u8) (fun v => .tuple #[v, .int .i64 0]) e w' := by
  have h := rblk_any (some ⟨g, 0, none⟩) (some ⟨g', 0, none⟩) 8 8 3 3 (List.replicate 8 key) [0, 0, 0] c (blkB (List.replicate 8 key) [0, 0, 0] (c : Int)) 0 (fun _ => ⟨rfl, rfl⟩) (fun h => absurd (good_key hk hc) h) w (holds_blk h1 rfl rfl) (holds_blk h2 rfl rfl) (by omega) (by omega)
  rw [blkB_length] at h
  exact h

theorem isW_out {key : Int} (h : isW key = false) : key < 0 ∨ 4294967296 ≤ key := by
  simp [isW] at h
  omega

set_option maxRecDepth 100000 in
set_option maxHeartbeats 2000000 in
theorem rxor_bad (A : Option Addr) (n c : Nat) (key a : Int) (w : World) (hn : n ≤ 3000) (he : errP key a n ≠ 0) :
    Calls Try.prog 15 #[.int .i64 key, .int .i64 a, .slice A n c] w fun e w' => Rowed w 5 0 [] (fun v => .tuple #[v, .int .i64 (errP key a n)]) e w' := by
  have R : ∀ E, Rowed w 5 0 [] (fun v => .tuple #[v, .int .i64 E]) (.returned (.tuple #[.slice none 0 0, .int .i64 E])) w := fun E => ⟨_, rfl, World.ownsRow_nil _ _ 5 1, Below.refl _ _⟩
  have RR := Lib.hid R
  clear R
  unfold errP at he ⊢
  by_cases h1 : isW key = false ∨ a < 0
  · rw [if_pos h1]
    clear he
    go_enter Try.func15, Try.ntmps15
    by_cases k1 : key < 0
    · have q1 : decide (key < 0) = true := by simp <;> omega
      go_wp2_with fail
      go_ret2
      exact RR.out 2
    have q1 : decide (key < 0) = false := by simp <;> omega
    by_cases k2 : 4294967296 ≤ key
    · have q2 : decide (4294967296 ≤ key) = true := by simp <;> omega
      go_wp2_with fail
      go_ret2
      exact RR.out 2
    have q2 : decide (4294967296 ≤ key) = false := by simp <;> omega
    have k3 : a < 0 := by
      rcases h1 with h1 | h1
      · have := isW_out h1; omega
      · exact h1
    have q3 : decide (a < 0) = true := by simp <;> omega
    clear h1 k1 k2 k3
    go_wp2_with fail
    go_ret2
    exact RR.out 2
  · rw [if_neg h1] at he ⊢
    have h2 : 274877906944 - (n : Int) < a := by
      by_cases h : 274877906944 - (n : Int) < a
      · exact h
      · rw [if_neg h] at he; exact absurd rfl he
    rw [if_pos h2]
    have hk : isW key = true := by
      cases h : isW key with
      | false => exact absurd (Or.inl h) h1
      | true => rfl
    have ha : 0 ≤ a := by
      rcases Int.lt_or_le a 0 with h | h
      · exact absurd (Or.inr h) h1
      · exact h
    simp [isW] at hk
    have q1 : decide (key < 0) = false := by simp <;> omega
    have q2 : decide (4294967296 ≤ key) = false := by simp <;> omega
    have q3 : decide (a < 0) = false := by simp <;> omega
    clear he h1 hk
    go_enter Try.func15, Try.ntmps15
    by_cases h4 : 274877906944 < a
    · have q4 : decide (274877906944 < a) = true := by simp <;> omega
      clear h2 h4
      go_wp2_with fail
      go_ret2
      exact RR.out 3
    · have q4 : decide (274877906944 < a) = false := by simp <;> omega
      have q5 : decide (274877906944 < a + n) = true := by simp <;> omega
      have h5 : a ≤ 274877906944 := by omega
      clear h2 h4
      go_wp2_with fail
      go_ret2
      exact RR.out 3

set_option maxRecDepth 100000 in
set_option maxHeartbeats 2000000 in
theorem rxor_good (A : Option Addr) (n c a : Nat) (key : Int) (l : List UInt8) (w : World) (hl : l.length = n) (hn : n ≤ 3000) (hb : Holds w A n (l.map u8)) (hk : isW key = true) (ha : a + n ≤ 274877906944) :
    Calls Try.prog 15 #[.int .i64 key, .int .i64 a, .slice A n c] w fun e w' => Rowed w 5 n ((xorS key a l).map u8) (fun v => .tuple #[v, .int .i64 0]) e w' := by
  have HL := Lib.hid hl
  have HIN := Lib.hid hb
  have HK := Lib.hid hk
  have HA := Lib.hid ha
  have HU := Lib.hid (u8_one l)
  simp [isW] at hk
  have ha0 : (0 : Int) ≤ a := by omega
  have ha2 : (a : Int) + n ≤ 274877906944 := by omega
  have ha3 : (a : Int) ≤ 274877906944 := by omega
  have q1 : decide (key < 0) = false := by simp <;> omega
  have q2 : decide (4294967296 ≤ key) = false := by simp <;> omega
  have q3 : decide ((a : Int) < 0) = false := by simp <;> omega
  have q4 : decide (274877906944 < (a : Int)) = false := by simp <;> omega
  have q5 : decide (274877906944 < (a : Int) + n) = false := by simp <;> omega
  clear hl hb hk ha
  go_enter Try.func15, Try.ntmps15
  go_wp2_with (at_builtin; go_must (refine wpList_app_own (base := w.heap.size) (n := 0) (m := n) (xs := []) (news := l.map Ytbfejjjdolfcfaa.u8) rfl (.tmp 32) (.tmp 33) 30 rfl el30 rfl (own_none00 w 5) rfl (HIN.out.alloc _) HU.out (by unfold maxLen; omega) (by omega) (by simp) ?_; intro v2 w2 hown hg hat; refine Hid.out ?_))
  refine Lib.hid ?_
  rw [Nat.zero_add, List.nil_append] at hown
  have HO2 := Lib.hid hown
  have HB2 := Lib.hid (below_own ((Below.refl w.heap.size w).alloc (Nat.le_refl _) _) (by simp) (own_none00 w 5) hg)
  clear hown hg hat q1 q2 q3 q4 q5
  obtain ⟨A0, cap0, rfl, -⟩ := own_form HO2.out
  by_cases hk0 : key = 0
  · subst hk0
    go_wp2_with fail
    go_ret2
    exact ⟨_, rfl, by unfold xorS; rw [if_pos rfl]; exact HO2.out, HB2.out⟩
  have hkd : (key == 0) = false := by simp [hk0]
  have HX := Lib.hid (show xorS key a l = xorL key a l by unfold xorS; rw [if_neg hk0])
  clear hk0
  go_wp2_with fail
  have HK3 := Lib.hid (Blk.new w2 3 #[.int .i64 key, .int .i64 key, .int .i64 key, .int .i64 key, .int .i64 key, .int .i64 key, .int .i64 key, .int .i64 key])
  have HO3 := Lib.hid (own_alloc (o := .cells #[.int .i64 key, .int .i64 key, .int .i64 key, .int .i64 key, .int .i64 key, .int .i64 key, .int .i64 key, .int .i64 key] 3) HO2.out)
  have HB3 := Lib.hid (HB2.out.alloc HB2.out.size (.cells #[.int .i64 key, .int .i64 key, .int .i64 key, .int .i64 key, .int .i64 key, .int .i64 key, .int .i64 key, .int .i64 key] 3))
  clear HO2 HB2 hkd
  obtain ⟨g8, hg8⟩ : ∃ g8, w2.heap.size = g8 := ⟨_, rfl⟩
  rw [hg8] at HK3 ⊢
  generalize w2.alloc (.cells #[.int .i64 key, .int .i64 key, .int .i64 key, .int .i64 key, .int .i64 key, .int .i64 key, .int .i64 key, .int .i64 key] 3) = w3 at *
  clear hg8
  go_loopw [10, 11, 12] (fun vb ii _ wz => ∃ d : Nat, (d : Int) ≤ n ∧ ii = .int .i64 d ∧ wz.ownsRow w.heap.size 5 1 (.slice A0 n cap0) n ((xorP key a l d).map Ytbfejjjdolfcfaa.u8) ∧ Blk wz g8 3 #[.int .i64 key, .int .i64 key, .int .i64 key, .int .i64 key, .int .i64 key, .int .i64 key, .int .i64 key, .int .i64 key] ∧ (0 < d → ∃ gb capb q : Nat, vb = .slice (some ⟨gb, 0, none⟩) 64 capb ∧ (a + d - 1) / 64 = q ∧ wz.ownsRow w.heap.size 5 1 (.slice (some ⟨gb, 0, none⟩) 64 capb) 64 ((blkB (List.replicate 8 key) [0, 0, 0] (q : Int)).map Ytbfejjjdolfcfaa.u8) ∧ ∀ g, (Value.slice A0 n cap0).ownBlock = some g → g ≠ gb) ∧ Below w.heap.size w wz) (fun _ ii _ _ => n - (intOf ii).toNat)
  case atStart => exact ⟨0, by omega, rfl, by rw [xorP_zero]; exact HO3.out, HK3.out, fun h => absurd h (Nat.lt_irrefl 0), HB3.out⟩
  clear HK3 HO3 HB3
  case round =>
    obtain ⟨d, hd', rfl, hown, hk8, hvb, hbw⟩ := hrel
    have HO4 := Lib.hid hown
    have HK4 := Lib.hid hk8
    have HV4 := Lib.hid hvb
    have HB4 := Lib.hid hbw
    clear hown hk8 hvb hbw
    have hd0 : (0 : Int) ≤ d := by omega
    by_cases hlt : (d : Int) < n
    · obtain ⟨f, hf⟩ : ∃ f : Nat, (a + d) % 64 = f := ⟨_, rfl⟩
      obtain ⟨q, hq⟩ : ∃ q : Nat, (a + d) / 64 = q := ⟨_, rfl⟩
      have hf1 : ((a : Int) + d) % 64 = f := by omega
      have hq1 : ((a : Int) + d) / 64 = q := by omega
      have hf2 : (f : Int) < 64 := by omega
      have HF := Lib.hid (And.intro hf hq)
      have HQ := Lib.hid (show q < 4294967296 by have := HA.out; omega)
      have hff : (f : Int) = 0 ∨ ((f : Int) == 0) = false := by
        rcases Nat.eq_zero_or_pos f with h | h
        · exact .inl (by omega)
        · exact .inr (by simp <;> omega)
      clear hf hq
      have CB := Lib.hid (fun W g hk hz => rblk_key key HK.out q HQ.out g8 g W hk hz)
      by_cases hnew : (d : Int) = 0 ∨ (f : Int) = 0
      · have W5 : ∀ X : Prop, X → X := fun _ h => h
        clear W5
        have hz : ((d : Int) == 0) = true ∨ (((d : Int) == 0) = false ∧ (f : Int) = 0) := by
          by_cases h : (d : Int) = 0
          · exact .inl (by simp [h])
          · exact .inr ⟨by simp <;> omega, by omega⟩
        clear hnew hff HV4
        rcases hz with hz | ⟨hz, hfz⟩
        · go_wp2_with fail
          clear hz
          have HKA := Lib.hid (HK4.out.alloc (.cells #[.int .i64 0, .int .i64 0, .int .i64 0] 3))
          have HZA := Lib.hid (Blk.new wr 3 #[.int .i64 0, .int .i64 0, .int .i64 0])
          have HOA := Lib.hid (own_alloc (o := .cells #[.int .i64 0, .int .i64 0, .int .i64 0] 3) HO4.out)
          have HBA := Lib.hid (HB4.out.alloc HB4.out.size (.cells #[.int .i64 0, .int .i64 0, .int .i64 0] 3))
          (with_reducible refine (CB.out _ _ HKA.out HZA.out).mono ?_); rintro e w5 ⟨v5, rfl, ho5, hb5⟩
          obtain ⟨gb, capb, rfl, hgb1, hgb2, hgb3, hgb4, hgb5⟩ := own_holds ho5 (by omega)
          have HG5 := Lib.hid (own_base ho5 HBA.out.size)
          have HK5 := Lib.hid (HKA.out.below hb5 HKA.out.lt)
          have HO5 := Lib.hid (own_none HOA.out (grown_of_below hb5))
          have HB5 := Lib.hid (HBA.out.trans (hb5.mono HBA.out.size))
          have HNE := Lib.hid (show ∀ g, (Value.slice A0 n cap0).ownBlock = some g → g ≠ gb from fun g hg => by have := (HOA.out.lt g hg).2; omega)
          clear ho5 hb5 hgb5 hgb1 hgb2 hgb3 hgb4 HKA HZA HOA HBA HK4 HO4 HB4
          obtain ⟨g0, cap1, hA0, hBg0, -, -, -, hcs⟩ := own_holds HO5.out (by omega)
          cases hA0
          have hdl : d < l.length := by rw [HL.out]; omega
          have hc1 := hcs d (Ytbfejjjdolfcfaa.u8 l[d]) (by rw [List.getElem?_map, xorP_get key a l hdl]; rfl)
          rw [Addr.add_lit, Nat.zero_add] at hc1
          have hfr := own_frozen (k := d) HO5.out
          obtain ⟨b1, o1, rfl, hc3⟩ := holds_cell (HIN.out.keep HB5.out) hlt (show (l.map Ytbfejjjdolfcfaa.u8)[d]? = some (Ytbfejjjdolfcfaa.u8 l[d]) by rw [List.getElem?_map, List.getElem?_eq_getElem hdl]; rfl)
          have hlb : f < (blkB (List.replicate 8 key) [0, 0, 0] (q : Int)).length := by rw [blkB_length]; omega
          obtain ⟨_, _, hv2, -, -, -, -, hcs2⟩ := own_holds HG5.out (by omega)
          cases hv2
          have hc2 := hcs2 f (Ytbfejjjdolfcfaa.u8 (blkB (List.replicate 8 key) [0, 0, 0] (q : Int))[f]) (by rw [List.getElem?_map, List.getElem?_eq_getElem hlb]; rfl)
          rw [Addr.add_lit, Nat.zero_add] at hc2
          have hkb : keyB key (a + d) = (blkB (List.replicate 8 key) [0, 0, 0] (q : Int))[f] := by
            unfold keyB
            rw [show (a + d) / 64 = q by have := HF.out; omega, show (a + d) % 64 = f by have := HF.out; omega]
            rw [List.getD_eq_getElem?_getD, List.getElem?_eq_getElem hlb]
            rfl
          have hst := xorP_step key a l hdl
          rw [hkb] at hst
          have hx := u8_xor l[d] (blkB (List.replicate 8 key) [0, 0, 0] (q : Int))[f]
          unfold Ytbfejjjdolfcfaa.u8 at hc1 hc2 hc3
          have hso := own_store (k := d) (own_drew HO5.out) (Ytbfejjjdolfcfaa.u8 (l[d] ^^^ (blkB (List.replicate 8 key) [0, 0, 0] (q : Int))[f]))
          rw [← List.map_set, hst] at hso
          unfold Ytbfejjjdolfcfaa.u8 at hso
          have HSO := Lib.hid hso
          have hb1 : (l[d].toNat : Int) < 256 := by have := l[d].toNat_lt; omega
          have hb2 : ((blkB (List.replicate 8 key) [0, 0, 0] (q : Int))[f].toNat : Int) < 256 := by have := (blkB (List.replicate 8 key) [0, 0, 0] (q : Int))[f].toNat_lt; omega
          have hne := HNE.out g0 rfl
          generalize l[d] ^^^ (blkB (List.replicate 8 key) [0, 0, 0] (q : Int))[f] = z at *
          generalize (l[d].toNat : Int) = x at *
          generalize ((blkB (List.replicate 8 key) [0, 0, 0] (q : Int))[f].toNat : Int) = y at *
          clear hkb hst hcs hcs2 hso hlb hdl
          go_wp2_with fail
          go_region
          go_wp2_with fail
          go_roundw
          case rel => exact ⟨d + 1, by omega, by go_num, HSO.out, HK5.out.drew.far (own_ne_blk HO5.out HK5 (by decide)) _, fun _ => ⟨gb, capb, q, rfl, (by have := HF.out; omega), own_setCell (own_drew HG5.out) (by simpa [Value.ownBlock] using hne.symm) _, fun g hg => by cases hg; exact hne⟩, (below_drew HB5.out).setCell hBg0 _⟩
          case measure => simp [intOf]; omega
        · have HFI := Lib.hid hf1
          rw [hfz] at hf1
          go_wp2_with fail
          clear hz hf1 hfz
          have HKA := Lib.hid (HK4.out.alloc (.cells #[.int .i64 0, .int .i64 0, .int .i64 0] 3))
          have HZA := Lib.hid (Blk.new wr 3 #[.int .i64 0, .int .i64 0, .int .i64 0])
          have HOA := Lib.hid (own_alloc (o := .cells #[.int .i64 0, .int .i64 0, .int .i64 0] 3) HO4.out)
          have HBA := Lib.hid (HB4.out.alloc HB4.out.size (.cells #[.int .i64 0, .int .i64 0, .int .i64 0] 3))
          (with_reducible refine (CB.out _ _ HKA.out HZA.out).mono ?_); rintro e w5 ⟨v5, rfl, ho5, hb5⟩
          obtain ⟨gb, capb, rfl, hgb1, hgb2, hgb3, hgb4, hgb5⟩ := own_holds ho5 (by omega)
          have HG5 := Lib.hid (own_base ho5 HBA.out.size)
          have HK5 := Lib.hid (HKA.out.below hb5 HKA.out.lt)
          have HO5 := Lib.hid (own_none HOA.out (grown_of_below hb5))
          have HB5 := Lib.hid (HBA.out.trans (hb5.mono HBA.out.size))
          have HNE := Lib.hid (show ∀ g, (Value.slice A0 n cap0).ownBlock = some g → g ≠ gb from fun g hg => by have := (HOA.out.lt g hg).2; omega)
          clear ho5 hb5 hgb5 hgb1 hgb2 hgb3 hgb4 HKA HZA HOA HBA HK4 HO4 HB4
          have hf1 := HFI.out
          obtain ⟨g0, cap1, hA0, hBg0, -, -, -, hcs⟩ := own_holds HO5.out (by omega)
          cases hA0
          have hdl : d < l.length := by rw [HL.out]; omega
          have hc1 := hcs d (Ytbfejjjdolfcfaa.u8 l[d]) (by rw [List.getElem?_map, xorP_get key a l hdl]; rfl)
          rw [Addr.add_lit, Nat.zero_add] at hc1
          have hfr := own_frozen (k := d) HO5.out
          obtain ⟨b1, o1, rfl, hc3⟩ := holds_cell (HIN.out.keep HB5.out) hlt (show (l.map Ytbfejjjdolfcfaa.u8)[d]? = some (Ytbfejjjdolfcfaa.u8 l[d]) by rw [List.getElem?_map, List.getElem?_eq_getElem hdl]; rfl)
          have hlb : f < (blkB (List.replicate 8 key) [0, 0, 0] (q : Int)).length := by rw [blkB_length]; omega
          obtain ⟨_, _, hv2, -, -, -, -, hcs2⟩ := own_holds HG5.out (by omega)
          cases hv2
          have hc2 := hcs2 f (Ytbfejjjdolfcfaa.u8 (blkB (List.replicate 8 key) [0, 0, 0] (q : Int))[f]) (by rw [List.getElem?_map, List.getElem?_eq_getElem hlb]; rfl)
          rw [Addr.add_lit, Nat.zero_add] at hc2
          have hkb : keyB key (a + d) = (blkB (List.replicate 8 key) [0, 0, 0] (q : Int))[f] := by
            unfold keyB
            rw [show (a + d) / 64 = q by have := HF.out; omega, show (a + d) % 64 = f by have := HF.out; omega]
            rw [List.getD_eq_getElem?_getD, List.getElem?_eq_getElem hlb]
            rfl
          have hst := xorP_step key a l hdl
          rw [hkb] at hst
          have hx := u8_xor l[d] (blkB (List.replicate 8 key) [0, 0, 0] (q : Int))[f]
          unfold Ytbfejjjdolfcfaa.u8 at hc1 hc2 hc3
          have hso := own_store (k := d) (own_drew HO5.out) (Ytbfejjjdolfcfaa.u8 (l[d] ^^^ (blkB (List.replicate 8 key) [0, 0, 0] (q : Int))[f]))
          rw [← List.map_set, hst] at hso
          unfold Ytbfejjjdolfcfaa.u8 at hso
          have HSO := Lib.hid hso
          have hb1 : (l[d].toNat : Int) < 256 := by have := l[d].toNat_lt; omega
          have hb2 : ((blkB (List.replicate 8 key) [0, 0, 0] (q : Int))[f].toNat : Int) < 256 := by have := (blkB (List.replicate 8 key) [0, 0, 0] (q : Int))[f].toNat_lt; omega
          have hne := HNE.out g0 rfl
          generalize l[d] ^^^ (blkB (List.replicate 8 key) [0, 0, 0] (q : Int))[f] = z at *
          generalize (l[d].toNat : Int) = x at *
          generalize ((blkB (List.replicate 8 key) [0, 0, 0] (q : Int))[f].toNat : Int) = y at *
          clear hkb hst hcs hcs2 hso hlb hdl
          go_wp2_with fail
          go_region
          go_wp2_with fail
          go_roundw
          case rel => exact ⟨d + 1, by omega, by go_num, HSO.out, HK5.out.drew.far (own_ne_blk HO5.out HK5 (by decide)) _, fun _ => ⟨gb, capb, q, rfl, (by have := HF.out; omega), own_setCell (own_drew HG5.out) (by simpa [Value.ownBlock] using hne.symm) _, fun g hg => by cases hg; exact hne⟩, (below_drew HB5.out).setCell hBg0 _⟩
          case measure => simp [intOf]; omega
      · have hz : ((d : Int) == 0) = false := by simp <;> omega
        have hfz : ((f : Int) == 0) = false := by simp <;> omega
        have hdp : 0 < d := by omega
        obtain ⟨gb, capb, q2, rfl, hq2, hgo, hne0⟩ := HV4.out hdp
        obtain rfl : q = q2 := by have := HF.out; omega
        have HG4 := Lib.hid hgo
        have HNE := Lib.hid hne0
        clear hgo hne0 hnew hff HV4 hdp hq2
        obtain ⟨g0, cap1, hA0, hBg0, -, -, -, hcs⟩ := own_holds HO4.out (by omega)
        cases hA0
        have hdl : d < l.length := by rw [HL.out]; omega
        have hc1 := hcs d (Ytbfejjjdolfcfaa.u8 l[d]) (by rw [List.getElem?_map, xorP_get key a l hdl]; rfl)
        rw [Addr.add_lit, Nat.zero_add] at hc1
        have hfr := own_frozen (k := d) HO4.out
        obtain ⟨b1, o1, rfl, hc3⟩ := holds_cell (HIN.out.keep HB4.out) hlt (show (l.map Ytbfejjjdolfcfaa.u8)[d]? = some (Ytbfejjjdolfcfaa.u8 l[d]) by rw [List.getElem?_map, List.getElem?_eq_getElem hdl]; rfl)
        have hlb : f < (blkB (List.replicate 8 key) [0, 0, 0] (q : Int)).length := by rw [blkB_length]; omega
        obtain ⟨_, _, hv2, -, -, -, -, hcs2⟩ := own_holds HG4.out (by omega)
        cases hv2
        have hc2 := hcs2 f (Ytbfejjjdolfcfaa.u8 (blkB (List.replicate 8 key) [0, 0, 0] (q : Int))[f]) (by rw [List.getElem?_map, List.getElem?_eq_getElem hlb]; rfl)
        rw [Addr.add_lit, Nat.zero_add] at hc2
        have hkb : keyB key (a + d) = (blkB (List.replicate 8 key) [0, 0, 0] (q : Int))[f] := by
          unfold keyB
          rw [show (a + d) / 64 = q by have := HF.out; omega, show (a + d) % 64 = f by have := HF.out; omega]
          rw [List.getD_eq_getElem?_getD, List.getElem?_eq_getElem hlb]
          rfl
        have hst := xorP_step key a l hdl
        rw [hkb] at hst
        have hx := u8_xor l[d] (blkB (List.replicate 8 key) [0, 0, 0] (q : Int))[f]
        unfold Ytbfejjjdolfcfaa.u8 at hc1 hc2 hc3
        have hso := own_store (k := d) (own_drew HO4.out) (Ytbfejjjdolfcfaa.u8 (l[d] ^^^ (blkB (List.replicate 8 key) [0, 0, 0] (q : Int))[f]))
        rw [← List.map_set, hst] at hso
        unfold Ytbfejjjdolfcfaa.u8 at hso
        have HSO := Lib.hid hso
        have hb1 : (l[d].toNat : Int) < 256 := by have := l[d].toNat_lt; omega
        have hb2 : ((blkB (List.replicate 8 key) [0, 0, 0] (q : Int))[f].toNat : Int) < 256 := by have := (blkB (List.replicate 8 key) [0, 0, 0] (q : Int))[f].toNat_lt; omega
        have hne := HNE.out g0 rfl
        generalize l[d] ^^^ (blkB (List.replicate 8 key) [0, 0, 0] (q : Int))[f] = z at *
        generalize (l[d].toNat : Int) = x at *
        generalize ((blkB (List.replicate 8 key) [0, 0, 0] (q : Int))[f].toNat : Int) = y at *
        clear hkb hst hcs hcs2 hso hlb hdl
        go_wp2_with fail
        clear hz hfz
        go_region
        go_wp2_with fail
        go_roundw
        case rel => exact ⟨d + 1, by omega, by go_num, HSO.out, HK4.out.drew.far (own_ne_blk HO4.out HK4 (by decide)) _, fun _ => ⟨gb, capb, q, rfl, (by have := HF.out; omega), own_setCell (own_drew HG4.out) (by simpa [Value.ownBlock] using hne.symm) _, fun g hg => by cases hg; exact hne⟩, (below_drew HB4.out).setCell hBg0 _⟩
        case measure => simp [intOf]; omega
    · obtain rfl : d = n := by omega
      have ho := HO4.out
      rw [show xorP key a l d = xorL key a l by rw [← HL.out, xorP_all], ← HX.out] at ho
      have HO := Lib.hid ho
      clear ho hlt
      go_wp2_with fail
      go_ret2
      exact ⟨_, rfl, HO.out, HB4.out⟩

theorem rxor_any (A : Option Addr) (n c : Nat) (key a : Int) (l : List UInt8) (w : World) (hl : l.length = n) (hn : n ≤ 3000) (hb : Holds w A n (l.map u8)) :
    Calls Try.prog 15 #[.int .i64 key, .int .i64 a, .slice A n c] w fun e w' => Rowed w 5 (xorR key a l).length ((xorR key a l).map u8) (fun v => .tuple #[v, .int .i64 (errP key a n)]) e w' := by
  unfold xorR
  rw [hl]
  by_cases he : errP key a n = 0
  · obtain ⟨hk, h0, h1⟩ := errP_ok he
    rw [if_pos he, he]
    obtain ⟨an, rfl⟩ := Int.eq_ofNat_of_zero_le h0
    rw [Int.toNat_natCast, show (xorS key an l).length = n by unfold xorS; split <;> simp [xorL_length, hl]]
    exact rxor_good A n c an key l w hl hn hb hk (by omega)
  · rw [if_neg he]
    exact rxor_bad A n c key a w hn he
end Go.Proofs.Ytbfejjjdolfcfaa
