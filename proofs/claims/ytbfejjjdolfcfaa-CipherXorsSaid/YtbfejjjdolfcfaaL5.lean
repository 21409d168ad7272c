/- The walk of CipherXors. -/
import Derived.Test.YtbfejjjdolfcfaaXo4
import Derived.Test.YtbfejjjdolfcfaaKn
namespace Go.Proofs.Ytbfejjjdolfcfaa
open Go.RowKit
set_option linter.unusedVariables false
set_option linter.unusedSimpArgs false

/-- A list of bytes as numbers. -/
def By (zs : List Int) : Prop := ∀ z ∈ zs, 0 ≤ z ∧ z < 256
theorem by_u8 (l : List UInt8) : ∃ zs : List Int, By zs ∧ zs.length = l.length ∧ l.map u8 = zs.map (Value.int .u8) := by
  refine ⟨l.map fun x => (x.toNat : Int), fun z hz => ?_, by simp, by rw [List.map_map]; rfl⟩
  obtain ⟨x, _, rfl⟩ := List.mem_map.1 hz
  have := x.toNat_lt
  omega
theorem By.set {zs : List Int} (h : By zs) (k : Nat) {v : Int} (h0 : 0 ≤ v) (h1 : v < 256) : By (zs.set k v) := by
  intro z hz
  rcases List.mem_or_eq_of_mem_set hz with hz | rfl
  · exact h z hz
  · exact ⟨h0, h1⟩

theorem xorR_len (key a : Int) (l : List UInt8) : (xorR key a l).length ≤ l.length := by
  unfold xorR xorS
  split
  · split <;> simp [xorL_length]
  · simp

set_option maxRecDepth 100000 in
set_option maxHeartbeats 2000000 in
theorem xors_law (key a : Int) (A : Option Addr) (n c : Nat) (l : List UInt8) (w : World) (_ : (Lit.int .i64 key).wf = true) (_ : (Lit.int .i64 a).wf = true) (hl : l.length = n) (hc : n ≤ c) (hm : c ≤ maxLen) (hb : BS w w.heap.size A l) :
    Calls Try.prog 5 #[.int .i64 key, .int .i64 a, .slice A n c] w fun e w' => e = .returned (.bool true) ∧ Below w.heap.size w w' := by
  have HIN := Lib.hid (hb.holds hl)
  have HU := Lib.hid (u8_one l)
  have HL := Lib.hid hl
  clear hb hc hm
  go_enter Try.func5, Try.ntmps5
  by_cases g0 : 300 < (n : Int)
  · have q0 : decide (300 < (n : Int)) = true := by simp <;> omega
    go_wp2_with (go_at_call 11; (with_reducible refine (known_any _).mono ?_); rintro e w5 ⟨rfl, b5⟩; have B5 := Lib.hid b5; clear b5)
    go_ret
    exact ⟨rfl, B5.out⟩
  have q0 : decide (300 < (n : Int)) = false := by simp <;> omega
  have m0 : (n : Int) ≤ 300 := by omega
  clear g0
  have c14 := fun X cx W h hcx => xor_any X n cx key a l W HL.out (by omega) h hcx
  have c15 := fun X cx W h => rxor_any X n cx key a l W HL.out (by omega) h
  have hol := xorR_len key a l
  rw [hl] at hol
  generalize xorR key a l = out at c14 c15 hol
  have m1 : (out.length : Int) ≤ 300 := by omega
  clear hol
  generalize errP key a n = E at c14 c15
  clear hl
  have C14 := Lib.hid c14
  have C15 := Lib.hid c15
  clear c14 c15
  go_wp2_with (at_builtin; go_must (refine wpList_app_own (base := w.heap.size) (n := 0) (m := n) (xs := []) (news := l.map u8) rfl (.tmp 17) (.tmp 18) 30 rfl el30 rfl (own_none00 w 5) rfl (HIN.out.alloc _) HU.out (by unfold maxLen; omega) (by omega) (by simp) ?_; intro v2 w2 hown hg hat; refine Hid.out ?_))
  refine Lib.hid ?_
  rw [Nat.zero_add, List.nil_append] at hown
  have HK2 := Lib.hid hown
  have HB2 := Lib.hid (below_own ((Below.refl w.heap.size w).alloc (Nat.le_refl _) _) (by simp) (own_none00 w 5) hg)
  clear hown hg hat q0
  obtain ⟨AK, cK, rfl, -, -, hAK, -⟩ := own_form HK2.out
  have HAK := Lib.hid (show AK = none → cK = 0 from fun h => (hAK h).2)
  clear hAK
  go_wp2_with fail
  (with_reducible refine (C14.out AK cK w2 (holds_own HK2.out) HAK.out).mono ?_); rintro e w3 ⟨vx, rfl, ho, b3⟩
  obtain ⟨Ax, cx, rfl, -⟩ := own_form ho
  have HX3 := Lib.hid ho
  have HB3 := Lib.hid b3
  clear ho b3
  go_wp2_with fail
  (with_reducible refine (C15.out A c w3 (HIN.out.keep (HB2.out.trans (HB3.out.mono HB2.out.size)))).mono ?_); rintro e w4 ⟨vy, rfl, ho, b4⟩
  obtain ⟨Ay, cy, rfl, -⟩ := own_form ho
  have hx4 := own_none HX3.out (grown_of_below b4)
  have s1 := conv_bs (P := Try.prog) w4 30 9 5 Try.underlying30 Try.underlying5 Try.underlying9 (c := cx) (l := out) rfl (holds_own hx4)
  have s2 := conv_bs (P := Try.prog) w4 30 9 5 Try.underlying30 Try.underlying5 Try.underlying9 (c := cy) (l := out) rfl (holds_own ho)
  have HX4 := Lib.hid hx4
  have HB4 := Lib.hid (HB3.out.trans (b4.mono HB3.out.size))
  clear ho b4 hx4 HX3 HB3 C14 C15
  go_wp2_with fail
  clear s1 s2
  go_loopw [12] (fun ii wz => ∃ (i : Nat) (zs : List Int), (i : Int) ≤ out.length ∧ ii = .int .i64 i ∧ Hid (By zs) ∧ wz.ownsRow w2.heap.size 5 1 (.slice Ax out.length cx) out.length (zs.map (Value.int .u8)) ∧ Below w2.heap.size w2 wz) (fun ii _ => out.length - (intOf ii).toNat)
  case atStart =>
    obtain ⟨zs, h1, h2, h3⟩ := by_u8 out
    exact ⟨0, zs, by omega, rfl, Lib.hid h1, by rw [← h3]; exact HX4.out, HB4.out⟩
  clear HX4 HB4
  case round =>
    obtain ⟨i, zs, hi, rfl, HZ, hown, hbw⟩ := hrel
    have HX5 := Lib.hid hown
    have HB5 := Lib.hid hbw
    clear hown hbw
    have hi0 : (0 : Int) ≤ i := by omega
    by_cases hlt : (i : Int) < out.length
    · have hzl : zs.length = out.length := by have := HX5.out.1; simpa using this
      have hil : i < zs.length := by omega
      obtain ⟨g0, cap1, hA0, hBg0, -, -, -, hcs⟩ := own_holds HX5.out (by omega)
      cases hA0
      have hc1 := hcs i (.int .u8 zs[i]) (by rw [List.getElem?_map, List.getElem?_eq_getElem hil]; rfl)
      rw [Addr.add_lit, Nat.zero_add] at hc1
      have hfr := own_frozen (k := i) HX5.out
      obtain ⟨z0, z1⟩ := HZ.out zs[i] (List.getElem_mem hil)
      generalize zs[i] = z at *
      clear hcs hzl hil
      go_wp2_with fail
      go_roundw
      case rel =>
        have hso := own_store (k := i) HX5.out (.int .u8 ((z + 1) % 256))
        rw [← List.map_set] at hso
        exact ⟨i + 1, zs.set i ((z + 1) % 256), by omega, by go_num, Lib.hid (HZ.out.set i (by omega) (by omega)), hso, HB5.out.setCell hBg0 _⟩
      case measure => simp [intOf]; omega
    · have hk := (holds_own HK2.out).keep HB5.out
      have hbz := HB2.out.trans (HB5.out.mono HB2.out.size)
      have s3 := conv_bs (P := Try.prog) wr 30 9 5 Try.underlying30 Try.underlying5 Try.underlying9 (c := cK) (l := l) HL.out hk
      have s4 := conv_bs (P := Try.prog) wr 30 9 5 Try.underlying30 Try.underlying5 Try.underlying9 (c := c) (l := l) HL.out (HIN.out.keep hbz)
      have HBZ := Lib.hid hbz
      clear hk hbz
      go_wp2_with (go_at_call 11; (with_reducible refine (known_any _).mono ?_); rintro e w7 ⟨rfl, b7⟩; have B7 := Lib.hid (HBZ.out.trans (b7.mono HBZ.out.size)); clear b7)
      go_ret
      exact ⟨by simp, B7.out⟩
end Go.Proofs.Ytbfejjjdolfcfaa
