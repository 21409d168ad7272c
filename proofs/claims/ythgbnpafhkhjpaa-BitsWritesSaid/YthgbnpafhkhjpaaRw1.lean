/- The reference's Put, Add, Little, Align, and the law's written. The reference's Little and Align, and the law's written. -/
import Derived.Test.YthgbnpafhkhjpaaRr
import Derived.Test.YthgbnpafhkhjpaaRfi
import Derived.Test.YthgbnpafhkhjpaaL4
namespace Go.Proofs.Ythgbnpafhkhjpaa
open Go.RowKit
set_option linter.unusedVariables false
set_option linter.unusedSimpArgs false

/-- The ends: bits of the call's own, and an error. -/
def WrW (B : Nat) (bs : List Bool) (E : Int) (w : World) (e : Ending) (w' : World) : Prop := ∃ A c, e = .returned (.tuple #[.slice A bs.length c, .int .i64 E]) ∧ w'.ownsRow B 4 1 (.slice A bs.length c) bs.length (bs.map Value.bool) ∧ Below w.heap.size w w'
theorem WrW.same {B m c : Nat} {A : Option Addr} {bs : List Bool} {E : Int} {w : World} (h : w.ownsRow B 4 1 (.slice A m c) m (bs.map Value.bool)) (hm : bs.length = m) : WrW B bs E w (.returned (.tuple #[.slice A m c, .int .i64 E])) w := by
  subst hm
  exact ⟨A, c, rfl, h, Below.refl _ _⟩
theorem own_sl {w : World} {B n : Nat} {e : TypeId} {v : Value} {xs : List Value} (h : w.ownsRow B e 1 v n xs) : ∃ A c, v = .slice A n c := by
  obtain ⟨A, c, rfl, -⟩ := own_form h
  exact ⟨A, c, rfl⟩
theorem bools_len {w : World} {B m : Nat} {v : Value} {bs : List Bool} (h : w.ownsRow B 4 1 v m (bs.map Value.bool)) : bs.length = m := by have := h.1; simpa using this

theorem putE_if (bs : List Bool) (v n : Int) (hm : bs.length ≤ 300000) : putE bs v n = if putOk v n then 0 else 2 := by
  unfold putE
  cases h : putOk v n
  · rfl
  · have h1 : 1 ≤ n ∧ n ≤ 32 := by simp [putOk] at h; omega
    have : decide (n ≤ 8388608 - (bs.length : Int)) = true := by simp; omega
    rw [this]
    rfl

set_option maxRecDepth 100000 in
set_option maxHeartbeats 1000000 in
theorem rput_ref (A : Option Addr) (m c B : Nat) (bs : List Bool) (v n : Int) (w : World) (h : w.ownsRow B 4 1 (.slice A m c) m (bs.map Value.bool)) (hB : B ≤ w.heap.size) (hm : m ≤ 300000) :
    Calls Try.prog 56 #[.slice A m c, .int .i64 v, .int .i64 n] w fun e w' => WrW B (if putOk v n then bs ++ numBits v.toNat n.toNat else bs) (if putOk v n then 0 else 2) w e w' := by
  have hl := bools_len h
  have HS := Lib.hid (WrW.same (E := 2) h hl)
  have HO := Lib.hid h
  have HL := Lib.hid hl
  have hm2 : (m : Int) ≤ 300000 := by omega
  have HBB := Lib.hid hB
  clear h hl hB
  cases q1 : decide (n < 1)
  · have g1 : 1 ≤ n := by simpa using q1
    cases q2 : decide (32 < n)
    · have g2 : n ≤ 32 := by simpa using q2
      obtain ⟨k, rfl⟩ := Int.eq_ofNat_of_zero_le (show 0 ≤ n by omega)
      have hf := rfits_any v k (by omega) w
      have hpe : putOk v k = (decide (0 ≤ v) && decide (v < 2 ^ k)) := by
        unfold putOk
        have a1 : (decide (1 ≤ (k : Int)) && decide ((k : Int) ≤ 32)) = true := by simp; omega
        rw [a1, Bool.true_and, Int.toNat_natCast]
        congr 1
        rw [Bool.eq_iff_iff]
        simp
        omega
      rw [← hpe] at hf
      have C68 := Lib.hid hf
      cases hp : putOk v k
      · rw [hp] at C68
        clear hf hpe hp
        go_enter Try.func56, Try.ntmps56
        go_wp2_with (go_at_call 68; (with_reducible refine C68.out.mono ?_); rintro e w1 ⟨rfl, rfl⟩)
        go_ret2
        exact HS.out
      · rw [hp] at C68
        have hv0 : 0 ≤ v ∧ v < 2 ^ k := by rw [hpe] at hp; simpa using hp
        obtain ⟨y, rfl⟩ := Int.eq_ofNat_of_zero_le hv0.1
        have hy : y < 2 ^ k := by
          have hP : (2 : Int) ^ k = ((2 ^ k : Nat) : Int) := by simp
          have := hv0.2
          rw [hP] at this
          omega
        have hy32 : y < 4294967296 := Nat.lt_of_lt_of_le hy (show 2 ^ k ≤ 2 ^ 32 from Nat.pow_le_pow_right (by omega) (by omega))
        have HK := Lib.hid (show k ≤ 32 by omega)
        have HY := Lib.hid hy32
        clear hf hpe hp hv0 hy hy32
        go_enter Try.func56, Try.ntmps56
        go_wp2_with (first
          | (go_at_call 68; (with_reducible refine C68.out.mono ?_); rintro e w1 ⟨rfl, rfl⟩)
          | (at_builtin; (refine wpList_app_own (base := w.heap.size) (n := 0) (m := m) (xs := []) (news := bs.map Value.bool) rfl (.tmp 27) (.tmp 28) 44 rfl el44 rfl (own_none00 w 4) rfl ((holds_own HO.out).alloc _) (bool_one _) (by unfold maxLen; omega) (by omega) (by simp) ?_; intro v1 w1 hown hg hat; rw [Nat.zero_add, List.nil_append] at hown; obtain ⟨A1, c1, rfl⟩ := own_sl hown; have HO1 := Lib.hid hown; have HB1 := Lib.hid (below_own ((Below.refl w.heap.size w).alloc (Nat.le_refl _) _) (by simp) (own_none00 w 4) hg); have C50 := Lib.hid (number_any y k HY.out HK.out w1); clear hown hg hat))
          | (go_at_call 50; (with_reducible refine C50.out.mono ?_); rintro e w2 ⟨v2, rfl, ho, b2⟩; obtain ⟨A2, c2, rfl⟩ := own_sl ho; have HO2 := Lib.hid ho; have HB2 := Lib.hid (HB1.out.trans (b2.mono HB1.out.size)); have HO12 := Lib.hid (own_keeps HO1.out fun k hk => b2.block k (own_lt HO1.out k hk)); clear ho b2)
          | (at_builtin; (refine wpList_app_own (base := w.heap.size) (n := m) (m := k) (xs := bs.map Value.bool) (news := (numBits y k).map Value.bool) rfl (.tmp 29) (.tmp 32) 44 rfl el44 rfl HO12.out rfl (holds_own HO2.out) (bool_one _) (by unfold maxLen; have := HK.out; omega) (by have := HK.out; omega) HB2.out.size ?_; intro v3 w3 hown hg hat; obtain ⟨A3, c3, rfl⟩ := own_sl hown; have HO3 := Lib.hid hown; have HB3 := Lib.hid (below_own HB2.out HB2.out.size HO12.out hg); clear hown hg hat)))
        go_ret2
        refine ⟨A3, c3, ?_, ?_, HB3.out⟩
        · simp [numBits_length, HL.out]
        · simp only [List.map_append, List.length_append, numBits_length, HL.out, Int.toNat_natCast, if_true]
          exact own_base HO3.out HBB.out
    · have hp : putOk v n = false := by
        have g2 : 32 < n := by simpa using q2
        have a1 : (decide (1 ≤ n) && decide (n ≤ 32)) = false := by simp; omega
        unfold putOk
        rw [a1]
        rfl
      rw [hp]
      clear hp
      go_enter Try.func56, Try.ntmps56
      go_wp2_with fail
      go_ret2
      exact HS.out
  · have hp : putOk v n = false := by
      have g2 : n < 1 := by simpa using q1
      have a1 : (decide (1 ≤ n) && decide (n ≤ 32)) = false := by simp; omega
      unfold putOk
      rw [a1]
      rfl
    rw [hp]
    clear hp
    go_enter Try.func56, Try.ntmps56
    go_wp2_with fail
    go_ret2
    exact HS.out

set_option maxRecDepth 100000 in
set_option maxHeartbeats 1000000 in
theorem radd_ref (A A2 : Option Addr) (m c B n c2 : Nat) (bs : List Bool) (l : List UInt8) (w : World) (h : w.ownsRow B 4 1 (.slice A m c) m (bs.map Value.bool)) (hB : B ≤ w.heap.size) (hm : m ≤ 300000) (hs : Holds w A2 n (l.map u8)) (hn : n ≤ 100) :
    Calls Try.prog 58 #[.slice A m c, .slice A2 n c2] w fun e w' => WrW B (if bs.length % 8 = 0 then bs ++ ubits l else bs) (if bs.length % 8 = 0 then 0 else 8) w e w' := by
  have hl := bools_len h
  have HS := Lib.hid (WrW.same (E := 8) h hl)
  have HO := Lib.hid h
  have hll : l.length = n := by have := hs.1; simpa using this
  have HLL := Lib.hid hll
  have HL := Lib.hid hl
  have hm2 : (m : Int) ≤ 300000 := by omega
  have hn2 : (n : Int) ≤ 100 := by omega
  have HBB := Lib.hid hB
  have HSS := Lib.hid hs
  rw [hl]
  clear h hl hB hs hll
  by_cases h8 : m % 8 = 0
  · have q : ((m : Int) % 8 != 0) = false := by simp; omega
    rw [if_pos h8, if_pos h8]
    clear h8
    go_enter Try.func58, Try.ntmps58
    go_wp2_with (first
      | (at_builtin; (refine wpList_app_own (base := w.heap.size) (n := 0) (m := m) (xs := []) (news := bs.map Value.bool) rfl (.tmp 19) (.tmp 20) 44 rfl el44 rfl (own_none00 w 4) rfl ((holds_own HO.out).alloc _) (bool_one _) (by unfold maxLen; omega) (by omega) (by simp) ?_; intro v1 w1 hown hg hat; rw [Nat.zero_add, List.nil_append] at hown; obtain ⟨A1, c1, rfl⟩ := own_sl hown; have HO1 := Lib.hid hown; have HB1 := Lib.hid (below_own ((Below.refl w.heap.size w).alloc (Nat.le_refl _) _) (by simp) (own_none00 w 4) hg); have C25 := Lib.hid (rof_any A2 n c2 l w1 (HSS.out.keep HB1.out) (by omega)); clear hown hg hat))
      | (go_at_call 25; (with_reducible refine C25.out.mono ?_); rintro e w2 ⟨v2, rfl, ho, b2⟩; obtain ⟨A3, c3, rfl⟩ := own_sl ho; have HO2 := Lib.hid ho; have HB2 := Lib.hid (HB1.out.trans (b2.mono HB1.out.size)); have HO12 := Lib.hid (own_keeps HO1.out fun k hk => b2.block k (own_lt HO1.out k hk)); clear ho b2)
      | (at_builtin; (refine wpList_app_own (base := w.heap.size) (n := m) (m := 8 * n) (xs := bs.map Value.bool) (news := (ubits l).map Value.bool) rfl (.tmp 21) (.tmp 23) 44 rfl el44 rfl HO12.out rfl (holds_own HO2.out) (bool_one _) (by unfold maxLen; omega) (by omega) HB2.out.size ?_; intro v3 w3 hown hg hat; obtain ⟨A4, c4, rfl⟩ := own_sl hown; have HO3 := Lib.hid hown; have HB3 := Lib.hid (below_own HB2.out HB2.out.size HO12.out hg); clear hown hg hat)))
    go_ret2
    refine ⟨A4, c4, ?_, ?_, HB3.out⟩
    · simp [ubits_length, HL.out, HLL.out]
    · simp only [List.map_append, List.length_append, ubits_length, HL.out, HLL.out]
      exact own_base HO3.out HBB.out
  · have q : ((m : Int) % 8 != 0) = true := by simp; omega
    rw [if_neg h8, if_neg h8]
    clear h8
    go_enter Try.func58, Try.ntmps58
    go_wp2_with fail
    go_ret2
    exact HS.out
end Go.Proofs.Ythgbnpafhkhjpaa

namespace Go.Proofs.Ythgbnpafhkhjpaa
open Go.RowKit
set_option linter.unusedVariables false
set_option linter.unusedSimpArgs false

theorem ubits_pack (bs : List Bool) (h : bs.length % 8 = 0) : ubits (pack bs) = bs := by
  have h1 : ubits (pack bs) = cut (pack bs) 0 bs.length := by
    unfold ubits cut
    rw [pack_length, show 8 * ((bs.length + 7) / 8) = bs.length by omega]
    simp
  rw [h1, cut_pack]
theorem pack_little (v k : Nat) : pack (littleBits v k) = (List.range k).map fun j => UInt8.ofNat (v / 256 ^ j % 256) := by
  have hl : (littleBits v k).length = 8 * k := by simp [littleBits]
  unfold pack
  rw [hl, show (8 * k + 7) / 8 = k by omega]
  apply List.map_congr_left
  intro j hj
  rw [little_byteK v k j (List.mem_range.1 hj)]

def litN (bs : List Bool) (v n : Int) : List Bool := if littleOk v n then (if bs.length % 8 = 0 then bs ++ littleBits v.toNat n.toNat else bs) else bs
def litE (bs : List Bool) (v n : Int) : Int := if littleOk v n then (if bs.length % 8 = 0 then 0 else 8) else 2
theorem lit_no {bs : List Bool} {v n : Int} (h : littleOk v n = false) : litN bs v n = bs ∧ litE bs v n = 2 := by unfold litN litE; rw [h]; exact ⟨rfl, rfl⟩
theorem lit_yes {bs : List Bool} {v n : Int} (h : littleOk v n = true) : litN bs v n = (if bs.length % 8 = 0 then bs ++ littleBits v.toNat n.toNat else bs) ∧ litE bs v n = (if bs.length % 8 = 0 then 0 else 8) := by unfold litN litE; rw [h]; exact ⟨rfl, rfl⟩

set_option maxRecDepth 100000 in
set_option maxHeartbeats 1000000 in
theorem rlit_ref (A : Option Addr) (m c B : Nat) (bs : List Bool) (v n : Int) (w : World) (h : w.ownsRow B 4 1 (.slice A m c) m (bs.map Value.bool)) (hB : B ≤ w.heap.size) (hm : m ≤ 300000) :
    Calls Try.prog 57 #[.slice A m c, .int .i64 v, .int .i64 n] w fun e w' => WrW B (litN bs v n) (litE bs v n) w e w' := by
  have hl := bools_len h
  have HS := Lib.hid (WrW.same (E := 2) h hl)
  have HO := Lib.hid h
  have HL := Lib.hid hl
  have hm2 : (m : Int) ≤ 300000 := by omega
  have HBB := Lib.hid hB
  clear h hl hB
  cases q1 : decide (n < 1)
  · have g1 : 1 ≤ n := by simpa using q1
    cases q2 : decide (4 < n)
    · have g2 : n ≤ 4 := by simpa using q2
      obtain ⟨k, rfl⟩ := Int.eq_ofNat_of_zero_le (show 0 ≤ n by omega)
      have hf := rfits_any v (8 * k) (by omega) w
      have h8 : ((8 * k : Nat) : Int) = 8 * (k : Int) := by omega
      rw [h8] at hf
      have hpe : littleOk v k = (decide (0 ≤ v) && decide (v < 2 ^ (8 * k))) := by
        unfold littleOk
        have a1 : (decide (1 ≤ (k : Int)) && decide ((k : Int) ≤ 4)) = true := by simp; omega
        rw [a1, Bool.true_and, Int.toNat_natCast]
        congr 1
        rw [Bool.eq_iff_iff]
        simp
        omega
      rw [← hpe] at hf
      have C68 := Lib.hid hf
      cases hp : littleOk v k
      · rw [hp] at C68
        rw [(lit_no hp).1, (lit_no hp).2]
        clear hf hpe hp h8
        go_enter Try.func57, Try.ntmps57
        go_wp2_with (go_at_call 68; (with_reducible refine C68.out.mono ?_); rintro e w1 ⟨rfl, rfl⟩)
        go_ret2
        exact HS.out
      · rw [hp] at C68
        have hv0 : 0 ≤ v ∧ v < 2 ^ (8 * k) := by rw [hpe] at hp; simpa using hp
        obtain ⟨y, rfl⟩ := Int.eq_ofNat_of_zero_le hv0.1
        have hy : y < 2 ^ (8 * k) := by
          have hP : (2 : Int) ^ (8 * k) = ((2 ^ (8 * k) : Nat) : Int) := by simp
          have := hv0.2
          rw [hP] at this
          omega
        have hy32 : y < 4294967296 := Nat.lt_of_lt_of_le hy (show 2 ^ (8 * k) ≤ 2 ^ 32 from Nat.pow_le_pow_right (by omega) (by omega))
        obtain ⟨ly1, ly2⟩ := lit_yes (bs := bs) hp
        obtain ⟨bs', hbs'⟩ : ∃ b, litN bs y k = b := ⟨_, rfl⟩
        obtain ⟨E', hE'⟩ : ∃ b : Int, litE bs y k = b := ⟨_, rfl⟩
        rw [hbs', Int.toNat_natCast, Int.toNat_natCast] at ly1
        rw [hE'] at ly2
        rw [hbs', hE']
        have LY1 := Lib.hid ly1
        have LY2 := Lib.hid ly2
        have HY := Lib.hid hy32
        have hy0 : (0 : Int) ≤ y := by omega
        have hy1 : (y : Int) < 4294967296 := by omega
        have hk4 : (k : Int) ≤ 4 := by omega
        have hk0 : (0 : Int) ≤ k := by omega
        clear hf hpe hp hv0 hy hy32 h8 ly1 ly2 hbs' hE'
        go_enter Try.func57, Try.ntmps57
        go_wp2_with (go_at_call 68; (with_reducible refine C68.out.mono ?_); rintro e w1 ⟨rfl, rfl⟩)
        clear q1 q2 g1 g2
        go_loopw [8, 9] (fun oo ii wr => ∃ j : Nat, (j : Int) ≤ k ∧ ii = .int .i64 j ∧ (∃ Ao co, oo = .slice Ao j co) ∧ Hid (wr.ownsRow w.heap.size 5 1 oo j (((List.range j).map fun q => UInt8.ofNat (y / 256 ^ q % 256)).map Ythgbnpafhkhjpaa.u8)) ∧ Hid (Below w.heap.size w wr)) (fun _ ii _ => k - (intOf ii).toNat)
        case atStart => exact ⟨0, by omega, rfl, ⟨none, 0, rfl⟩, Lib.hid (World.ownsRow_nil _ _ 5 1), Lib.hid (Below.refl _ _)⟩
        case round =>
          obtain ⟨j, hj, rfl, ⟨Ao, co, rfl⟩, HO5, HB5⟩ := hrel
          have hj0 : (0 : Int) ≤ j := by omega
          by_cases hlt : (j : Int) < k
          · obtain ⟨x, hx⟩ : ∃ x : Nat, y / 2 ^ (8 * j) = x := ⟨_, rfl⟩
            have hxi : (y : Int) / 2 ^ (8 * j) = x := by rw [← hx]; simp
            have hxl : x < 4294967296 := by rw [← hx]; exact Nat.lt_of_le_of_lt (Nat.div_le_self _ _) HY.out
            have htn : ((8 : Int) * j).toNat = 8 * j := by omega
            have hj8 : (8 : Int) * j < 64 := by omega
            have HSN := Lib.hid (List.range_succ (n := j))
            have HX := Lib.hid (show y / 256 ^ j = x by rw [← hx, Nat.pow_mul])
            have hwr := wrap_u8_id (Nat.mod_lt x (show 0 < 256 by omega))
            have hx0 : (0 : Int) ≤ x := by omega
            have hx1 : (x : Int) < 4294967296 := by omega
            have hxm : ((x % 256 : Nat) : Int) = (x : Int) % 256 := by omega
            rw [hxm] at hwr
            obtain ⟨z, hz⟩ : ∃ z : Int, (x : Int) = z := ⟨_, rfl⟩
            rw [hz] at hxi hwr hx0 hx1 hxm
            have HXM := Lib.hid hxm
            clear hx hxl hz hxm
            go_wp2_with (at_builtin; (refine wpList_app_own (base := w.heap.size) (n := j) (m := 1) (xs := ((List.range j).map fun q => UInt8.ofNat (y / 256 ^ q % 256)).map Ythgbnpafhkhjpaa.u8) (news := [.int .u8 (z % 256)]) rfl (.tmp 29) (.tmp 36) 27 rfl el27 rfl (own_alloc HO5.out) rfl (Holds.one _ _ _) (by intro u hu; simp at hu; subst hu; rfl) (by unfold maxLen; omega) (by omega) (by have := HB5.out.size; simp; omega) ?_; intro v2 w2 hown hgr hat; have HO6 := Lib.hid hown; have HB6 := Lib.hid (below_own (HB5.out.alloc HB5.out.size _) (by have := HB5.out.size; simp; omega) (own_alloc HO5.out) hgr); clear hown hgr hat))
            go_roundw
            case rel =>
              obtain ⟨A2, c2, rfl⟩ := own_sl HO6.out
              refine ⟨j + 1, by omega, by go_num, ⟨A2, c2, rfl⟩, Lib.hid ?_, HB6⟩
              have h6 := HO6.out
              rw [HSN.out, List.map_append, List.map_append]
              simp only [List.map_cons, List.map_nil, HX.out]
              unfold Ythgbnpafhkhjpaa.u8 at h6 ⊢
              rw [byte_of _ (Nat.mod_lt _ (by omega)), HXM.out]
              exact h6
            case measure => simp [intOf]; omega
          · obtain rfl : j = k := by omega
            have h58 := radd_ref A Ao m c B j co bs _ wr (own_keeps HO.out fun q hq => HB5.out.block q (own_lt HO.out q hq)) (Nat.le_trans HBB.out HB5.out.size) hm (holds_own HO5.out) (by omega)
            rw [← pack_little y j, ubits_pack _ (by simp [littleBits])] at h58
            rw [← LY1.out, ← LY2.out] at h58
            have C58 := Lib.hid h58
            clear h58 C68 hy0 hy1 HS
            go_wp2_with (go_at_call 58; (with_reducible refine C58.out.mono ?_); rintro e w2 ⟨A3, c3, rfl, ho, b2⟩; have HO3 := Lib.hid ho; have HB3 := Lib.hid (HB5.out.trans (b2.mono HB5.out.size)); clear ho b2)
            go_ret2
            exact ⟨A3, c3, rfl, HO3.out, HB3.out⟩
    · have hp : littleOk v n = false := by
        have g2 : 4 < n := by simpa using q2
        have a1 : (decide (1 ≤ n) && decide (n ≤ 4)) = false := by simp; omega
        unfold littleOk
        rw [a1]
        rfl
      rw [(lit_no hp).1, (lit_no hp).2]
      clear hp
      go_enter Try.func57, Try.ntmps57
      go_wp2_with fail
      go_ret2
      exact HS.out
  · have hp : littleOk v n = false := by
      have g2 : n < 1 := by simpa using q1
      have a1 : (decide (1 ≤ n) && decide (n ≤ 4)) = false := by simp; omega
      unfold littleOk
      rw [a1]
      rfl
    rw [(lit_no hp).1, (lit_no hp).2]
    clear hp
    go_enter Try.func57, Try.ntmps57
    go_wp2_with fail
    go_ret2
    exact HS.out

set_option maxRecDepth 100000 in
set_option maxHeartbeats 1000000 in
theorem ralign_ref (A : Option Addr) (m c B : Nat) (bs : List Bool) (n : Int) (w : World) (h : w.ownsRow B 4 1 (.slice A m c) m (bs.map Value.bool)) (hB : B ≤ w.heap.size) (hm : m ≤ 300000) :
    Calls Try.prog 59 #[.slice A m c, .int .i64 n] w fun e w' => WrW B (if alignOk n then bs ++ List.replicate (alignN bs.length n) false else bs) (if alignOk n then 0 else 2) w e w' := by
  have hl := bools_len h
  have HS := Lib.hid (WrW.same (E := 2) h hl)
  have HO := Lib.hid h
  have HL := Lib.hid hl
  have hm2 : (m : Int) ≤ 300000 := by omega
  have HBB := Lib.hid hB
  rw [hl]
  clear h hl hB
  cases q1 : decide (n < 1)
  · have g1 : 1 ≤ n := by simpa using q1
    cases q2 : decide (4096 < n)
    · have g2 : n ≤ 4096 := by simpa using q2
      obtain ⟨k, rfl⟩ := Int.eq_ofNat_of_zero_le (show 0 ≤ n by omega)
      have hok : alignOk (k : Int) = true := by unfold alignOk; simp; omega
      have hal : alignN m (k : Int) = upTo m k := by unfold alignN; rw [if_pos hok, Int.toNat_natCast]
      obtain ⟨u1, u2⟩ := upTo_le m k (by omega)
      have hle := fun j hj => upTo_least m k j (by omega) hj
      obtain ⟨u, hu⟩ : ∃ u, upTo m k = u := ⟨_, rfl⟩
      rw [hu] at hal u1 u2 hle
      rw [if_pos hok, if_pos hok, hal]
      have HLE := Lib.hid hle
      clear hok hal u2 hle hu
      go_enter Try.func59, Try.ntmps59
      go_wp2_with (at_builtin; (refine wpList_app_own (base := w.heap.size) (n := 0) (m := m) (xs := []) (news := bs.map Value.bool) rfl (.tmp 14) (.tmp 15) 44 rfl el44 rfl (own_none00 w 4) rfl ((holds_own HO.out).alloc _) (bool_one _) (by unfold maxLen; omega) (by omega) (by simp) ?_; intro v1 w1 hown hg hat; rw [Nat.zero_add, List.nil_append] at hown; obtain ⟨A1, c1, rfl⟩ := own_sl hown; have HO1 := Lib.hid hown; have HB1 := Lib.hid (below_own ((Below.refl w.heap.size w).alloc (Nat.le_refl _) _) (by simp) (own_none00 w 4) hg); clear hown hg hat))
      clear q1 q2
      go_loopw [6] (fun oo wr => ∃ j : Nat, (j : Int) ≤ u ∧ (∃ Ao co, oo = .slice Ao (m + j) co) ∧ Hid (wr.ownsRow w.heap.size 4 1 oo (m + j) ((bs ++ List.replicate j false).map Value.bool)) ∧ Hid (Below w.heap.size w wr)) (fun oo _ => (m + u) - (match oo with | .slice _ q _ => q | _ => 0))
      case atStart => exact ⟨0, by omega, ⟨A1, c1, rfl⟩, Lib.hid (by simpa using HO1.out), HB1⟩
      case round =>
        obtain ⟨j, hj, ⟨Ao, co, rfl⟩, HO2, HB2⟩ := hrel
        have hiff := HLE.out j (by omega)
        obtain ⟨q, hq⟩ : ∃ q, m + j = q := ⟨_, rfl⟩
        rw [hq] at hiff HO2 ⊢
        have HQ := Lib.hid hq
        have hq0 : (0 : Int) ≤ q := by omega
        have hq1 : (q : Int) ≤ 304096 := by omega
        have hk1 : (k : Int) ≤ 4096 := g2
        clear hq
        by_cases hlt : (j : Int) < u
        · have qq : ((q : Int) % k != 0) = true := by
            rw [← Int.natCast_emod, bne_iff_ne]
            intro e
            have := hiff.1 (Int.ofNat.inj e)
            omega
          clear hiff
          go_wp2_with (at_builtin; (refine wpList_app_own (base := w.heap.size) (n := q) (m := 1) (xs := (bs ++ List.replicate j false).map Value.bool) (news := [.bool false]) rfl (.tmp 22) (.tmp 23) 44 rfl el44 rfl (own_alloc HO2.out) rfl (Holds.one _ _ _) (bool_one [false]) (by unfold maxLen; omega) (by omega) (by have := HB2.out.size; simp; omega) ?_; intro v2 w2 hown hgr hat; have HO3 := Lib.hid hown; have HB3 := Lib.hid (below_own (HB2.out.alloc HB2.out.size _) (by have := HB2.out.size; simp; omega) (own_alloc HO2.out) hgr); clear hown hgr hat))
          have ho3 := HO3.out
          obtain ⟨A2, c2, rfl⟩ := own_sl ho3
          clear ho3
          go_roundw
          case rel =>
            refine ⟨j + 1, by omega, ⟨A2, c2, by have := HQ.out; rw [show m + (j + 1) = q + 1 by omega]⟩, Lib.hid ?_, HB3⟩
            have := HQ.out
            rw [show m + (j + 1) = q + 1 by omega, List.replicate_succ', ← List.append_assoc, List.map_append]
            exact HO3.out
          case measure => have := HQ.out; simp; omega
        · obtain rfl : j = u := by omega
          have qq : ((q : Int) % k != 0) = false := by
            have := hiff.2 rfl
            rw [← Int.natCast_emod, this]
            rfl
          clear hiff
          go_wp2_with fail
          go_ret2
          refine ⟨Ao, co, ?_, ?_, HB2.out⟩
          · simp [HL.out, HQ.out]
          · have := HQ.out
            rw [List.length_append, List.length_replicate, HL.out, HQ.out]
            exact own_base HO2.out HBB.out
    · have hp : alignOk n = false := by
        have g2 : 4096 < n := by simpa using q2
        unfold alignOk; simp; omega
      rw [hp]
      clear hp
      go_enter Try.func59, Try.ntmps59
      go_wp2_with fail
      go_ret2
      exact HS.out
  · have hp : alignOk n = false := by
      have g2 : n < 1 := by simpa using q1
      unfold alignOk; simp; omega
    rw [hp]
    clear hp
    go_enter Try.func59, Try.ntmps59
    go_wp2_with fail
    go_ret2
    exact HS.out

theorem littleE_if (bs : List Bool) (v n : Int) (hm : bs.length ≤ 300000) : littleE bs v n = if littleOk v n then (if bs.length % 8 = 0 then 0 else 8) else 2 := by
  unfold littleE
  cases h : littleOk v n
  · rfl
  · have h1 : 1 ≤ n ∧ n ≤ 4 := by simp [littleOk] at h; omega
    have : decide (8 * n ≤ 8388608 - (bs.length : Int)) = true := by simp; omega
    rw [this]
    by_cases h8 : bs.length % 8 = 0
    · have q : ((bs.length : Int).tmod 8 == 0) = true := by simp; rw [Int.tmod_eq_emod_of_nonneg (by omega)]; omega
      rw [q, if_pos h8]
      rfl
    · have q : ((bs.length : Int).tmod 8 == 0) = false := by simp; rw [Int.tmod_eq_emod_of_nonneg (by omega)]; omega
      rw [q, if_neg h8]
      rfl
theorem bytesE_if (bs : List Bool) (n : Nat) (hm : bs.length ≤ 300000) (hn : n ≤ 100) : bytesE bs n = if bs.length % 8 = 0 then 0 else 8 := by
  unfold bytesE
  have : decide (((8 * n : Nat) : Int) ≤ 8388608 - (bs.length : Int)) = true := by simp; omega
  rw [this]
  by_cases h8 : bs.length % 8 = 0
  · have q : ((bs.length : Int).tmod 8 == 0) = true := by simp; rw [Int.tmod_eq_emod_of_nonneg (by omega)]; omega
    rw [q, if_pos h8]
    rfl
  · have q : ((bs.length : Int).tmod 8 == 0) = false := by simp; rw [Int.tmod_eq_emod_of_nonneg (by omega)]; omega
    rw [q, if_neg h8]
    rfl
theorem alignE_if (bs : List Bool) (n : Int) (hm : bs.length ≤ 300000) : alignE bs n = if alignOk n then 0 else 2 := by
  unfold alignE
  have := alignN_le bs.length n
  have h : decide ((alignN bs.length n : Int) ≤ 8388608 - (bs.length : Int)) = true := by simp; omega
  rw [h]
  cases alignOk n <;> rfl
theorem wr0 {bs : List Bool} {X : ActV} (h4 : X.k % 4 = 0) (hl : bs.length ≤ 300000) (hx : X.m ≤ 100) : wE bs X = (if putOk X.v X.n then 0 else 2) ∧ wN bs X = (if putOk X.v X.n then bs ++ numBits X.v.toNat X.n.toNat else bs) := by
  have he : wE bs X = (if putOk X.v X.n then 0 else 2) := by unfold wE; rw [if_pos h4, putE_if _ _ _ hl]
  refine ⟨he, ?_⟩
  have hB : wB bs X = numBits X.v.toNat X.n.toNat := by unfold wB; rw [if_pos h4]
  unfold wN
  rw [he, hB]
  cases putOk X.v X.n <;> simp
theorem wr1 {bs : List Bool} {X : ActV} (h4 : X.k % 4 = 1) (hl : bs.length ≤ 300000) (hx : X.m ≤ 100) : wE bs X = (if littleOk X.v X.n then (if bs.length % 8 = 0 then 0 else 8) else 2) ∧ wN bs X = (if littleOk X.v X.n then (if bs.length % 8 = 0 then bs ++ littleBits X.v.toNat X.n.toNat else bs) else bs) := by
  have he : wE bs X = (if littleOk X.v X.n then (if bs.length % 8 = 0 then 0 else 8) else 2) := by unfold wE; rw [if_neg (by omega), if_pos h4, littleE_if _ _ _ hl]
  refine ⟨he, ?_⟩
  have hB : wB bs X = littleBits X.v.toNat X.n.toNat := by unfold wB; rw [if_neg (by omega), if_pos h4]
  unfold wN
  rw [he, hB]
  cases littleOk X.v X.n <;> simp <;> split <;> simp
theorem wr2 {bs : List Bool} {X : ActV} (h4 : X.k % 4 = 2) (hl : bs.length ≤ 300000) (hx : X.m ≤ 100) : wE bs X = (if bs.length % 8 = 0 then 0 else 8) ∧ wN bs X = (if bs.length % 8 = 0 then bs ++ ubits X.l else bs) := by
  have he : wE bs X = (if bs.length % 8 = 0 then 0 else 8) := by unfold wE; rw [if_neg (by omega), if_neg (by omega), if_pos h4, bytesE_if _ _ hl hx]
  refine ⟨he, ?_⟩
  have hB : wB bs X = ubits X.l := by unfold wB; rw [if_neg (by omega), if_neg (by omega), if_pos h4]
  unfold wN
  rw [he, hB]
  split <;> simp
theorem wr3 {bs : List Bool} {X : ActV} (h4 : X.k % 4 = 3) (hl : bs.length ≤ 300000) (hx : X.m ≤ 100) : wE bs X = (if alignOk X.n then 0 else 2) ∧ wN bs X = (if alignOk X.n then bs ++ List.replicate (alignN bs.length X.n) false else bs) := by
  have he : wE bs X = (if alignOk X.n then 0 else 2) := by unfold wE; rw [if_neg (by omega), if_neg (by omega), if_neg (by omega), alignE_if _ _ hl]
  refine ⟨he, ?_⟩
  have hB : wB bs X = List.replicate (alignN bs.length X.n) false := by unfold wB; rw [if_neg (by omega), if_neg (by omega), if_neg (by omega)]
  unfold wN
  rw [he, hB]
  cases alignOk X.n <;> simp
set_option maxRecDepth 100000 in
set_option maxHeartbeats 1000000 in
theorem written0 (A : Option Addr) (m c B : Nat) (bs : List Bool) (X : ActV) (w : World) (h : w.ownsRow B 4 1 (.slice A m c) m (bs.map Value.bool)) (hB : B ≤ w.heap.size) (hm : m ≤ 300000) (hX : ActG w X) (hx : X.m ≤ 100) (h4 : X.k % 4 = 0) :
    Calls Try.prog 30 #[.slice A m c, .agg #[.int .u8 X.k, .int .i64 X.v, .int .i64 X.n, .slice X.A X.m X.c]] w fun e w' => WrW B (wN bs X) (wE bs X) w e w' := by
  have hl := bools_len h
  obtain ⟨e1, e2⟩ := wr0 (bs := bs) h4 (by omega) hx
  have hb : Below w.heap.size w (w.alloc (.cells #[.int .u8 X.k, .int .i64 X.v, .int .i64 X.n, .slice X.A X.m X.c] 41)) := (Below.refl _ w).alloc (Nat.le_refl _) _
  have C := Lib.hid (rput_ref A m c B bs X.v X.n _ (own_keeps h fun q hq => hb.block q (own_lt h q hq)) (Nat.le_trans hB hb.size) hm)
  rw [← e1, ← e2] at C
  have h0 := hX.k0
  have hr : X.k.tmod 4 = X.k % 4 := Int.tmod_eq_emod_of_nonneg h0
  have HB := Lib.hid hb
  have q0 : (X.k % 4 == 0) = true := by simp <;> omega
  clear hb h hX e1 e2 hl h4
  go_enter Try.func30, Try.ntmps30
  go_wp2_with (go_at_call 56; (with_reducible refine C.out.mono ?_); rintro e w2 ⟨A3, c3, rfl, ho, b2⟩; have HO3 := Lib.hid ho; have HB3 := Lib.hid (HB.out.trans (b2.mono HB.out.size)); clear ho b2)
  go_ret2
  exact ⟨A3, c3, rfl, HO3.out, HB3.out⟩
set_option maxRecDepth 100000 in
set_option maxHeartbeats 1000000 in
theorem written1 (A : Option Addr) (m c B : Nat) (bs : List Bool) (X : ActV) (w : World) (h : w.ownsRow B 4 1 (.slice A m c) m (bs.map Value.bool)) (hB : B ≤ w.heap.size) (hm : m ≤ 300000) (hX : ActG w X) (hx : X.m ≤ 100) (h4 : X.k % 4 = 1) :
    Calls Try.prog 30 #[.slice A m c, .agg #[.int .u8 X.k, .int .i64 X.v, .int .i64 X.n, .slice X.A X.m X.c]] w fun e w' => WrW B (wN bs X) (wE bs X) w e w' := by
  have hl := bools_len h
  obtain ⟨e1', e2'⟩ := wr1 (bs := bs) h4 (by omega) hx
  have e1 : wE bs X = litE bs X.v X.n := e1'
  have e2 : wN bs X = litN bs X.v X.n := e2'
  clear e1' e2'
  have hb : Below w.heap.size w (w.alloc (.cells #[.int .u8 X.k, .int .i64 X.v, .int .i64 X.n, .slice X.A X.m X.c] 41)) := (Below.refl _ w).alloc (Nat.le_refl _) _
  have C := Lib.hid (rlit_ref A m c B bs X.v X.n _ (own_keeps h fun q hq => hb.block q (own_lt h q hq)) (Nat.le_trans hB hb.size) hm)
  rw [← e1, ← e2] at C
  have h0 := hX.k0
  have hr : X.k.tmod 4 = X.k % 4 := Int.tmod_eq_emod_of_nonneg h0
  have HB := Lib.hid hb
  have q0 : (X.k % 4 == 0) = false := by simp <;> omega
  have q1 : (X.k % 4 == 1) = true := by simp <;> omega
  clear hb h hX e1 e2 hl h4
  go_enter Try.func30, Try.ntmps30
  go_wp2_with (go_at_call 57; (with_reducible refine C.out.mono ?_); rintro e w2 ⟨A3, c3, rfl, ho, b2⟩; have HO3 := Lib.hid ho; have HB3 := Lib.hid (HB.out.trans (b2.mono HB.out.size)); clear ho b2)
  go_ret2
  exact ⟨A3, c3, rfl, HO3.out, HB3.out⟩
set_option maxRecDepth 100000 in
set_option maxHeartbeats 1000000 in
theorem written2 (A : Option Addr) (m c B : Nat) (bs : List Bool) (X : ActV) (w : World) (h : w.ownsRow B 4 1 (.slice A m c) m (bs.map Value.bool)) (hB : B ≤ w.heap.size) (hm : m ≤ 300000) (hX : ActG w X) (hx : X.m ≤ 100) (h4 : X.k % 4 = 2) :
    Calls Try.prog 30 #[.slice A m c, .agg #[.int .u8 X.k, .int .i64 X.v, .int .i64 X.n, .slice X.A X.m X.c]] w fun e w' => WrW B (wN bs X) (wE bs X) w e w' := by
  have hl := bools_len h
  obtain ⟨e1, e2⟩ := wr2 (bs := bs) h4 (by omega) hx
  have hb : Below w.heap.size w (w.alloc (.cells #[.int .u8 X.k, .int .i64 X.v, .int .i64 X.n, .slice X.A X.m X.c] 41)) := (Below.refl _ w).alloc (Nat.le_refl _) _
  have C := Lib.hid (radd_ref A X.A m c B X.m X.c bs X.l _ (own_keeps h fun q hq => hb.block q (own_lt h q hq)) (Nat.le_trans hB hb.size) hm (hX.h.keep hb) (by omega))
  rw [← e1, ← e2] at C
  have h0 := hX.k0
  have hr : X.k.tmod 4 = X.k % 4 := Int.tmod_eq_emod_of_nonneg h0
  have HB := Lib.hid hb
  have q0 : (X.k % 4 == 0) = false := by simp <;> omega
  have q1 : (X.k % 4 == 1) = false := by simp <;> omega
  have q2 : (X.k % 4 == 2) = true := by simp <;> omega
  clear hb h hX e1 e2 hl h4
  go_enter Try.func30, Try.ntmps30
  go_wp2_with (go_at_call 58; (with_reducible refine C.out.mono ?_); rintro e w2 ⟨A3, c3, rfl, ho, b2⟩; have HO3 := Lib.hid ho; have HB3 := Lib.hid (HB.out.trans (b2.mono HB.out.size)); clear ho b2)
  go_ret2
  exact ⟨A3, c3, rfl, HO3.out, HB3.out⟩
set_option maxRecDepth 100000 in
set_option maxHeartbeats 1000000 in
theorem written3 (A : Option Addr) (m c B : Nat) (bs : List Bool) (X : ActV) (w : World) (h : w.ownsRow B 4 1 (.slice A m c) m (bs.map Value.bool)) (hB : B ≤ w.heap.size) (hm : m ≤ 300000) (hX : ActG w X) (hx : X.m ≤ 100) (h4 : X.k % 4 = 3) :
    Calls Try.prog 30 #[.slice A m c, .agg #[.int .u8 X.k, .int .i64 X.v, .int .i64 X.n, .slice X.A X.m X.c]] w fun e w' => WrW B (wN bs X) (wE bs X) w e w' := by
  have hl := bools_len h
  obtain ⟨e1, e2⟩ := wr3 (bs := bs) h4 (by omega) hx
  have hb : Below w.heap.size w (w.alloc (.cells #[.int .u8 X.k, .int .i64 X.v, .int .i64 X.n, .slice X.A X.m X.c] 41)) := (Below.refl _ w).alloc (Nat.le_refl _) _
  have C := Lib.hid (ralign_ref A m c B bs X.n _ (own_keeps h fun q hq => hb.block q (own_lt h q hq)) (Nat.le_trans hB hb.size) hm)
  rw [← e1, ← e2] at C
  have h0 := hX.k0
  have hr : X.k.tmod 4 = X.k % 4 := Int.tmod_eq_emod_of_nonneg h0
  have HB := Lib.hid hb
  have q0 : (X.k % 4 == 0) = false := by simp <;> omega
  have q1 : (X.k % 4 == 1) = false := by simp <;> omega
  have q2 : (X.k % 4 == 2) = false := by simp <;> omega
  clear hb h hX e1 e2 hl h4
  go_enter Try.func30, Try.ntmps30
  go_wp2_with (go_at_call 59; (with_reducible refine C.out.mono ?_); rintro e w2 ⟨A3, c3, rfl, ho, b2⟩; have HO3 := Lib.hid ho; have HB3 := Lib.hid (HB.out.trans (b2.mono HB.out.size)); clear ho b2)
  go_ret2
  exact ⟨A3, c3, rfl, HO3.out, HB3.out⟩
theorem written_any (A : Option Addr) (m c B : Nat) (bs : List Bool) (X : ActV) (w : World) (h : w.ownsRow B 4 1 (.slice A m c) m (bs.map Value.bool)) (hB : B ≤ w.heap.size) (hm : m ≤ 300000) (hX : ActG w X) (hx : X.m ≤ 100) :
    Calls Try.prog 30 #[.slice A m c, .agg #[.int .u8 X.k, .int .i64 X.v, .int .i64 X.n, .slice X.A X.m X.c]] w fun e w' => WrW B (wN bs X) (wE bs X) w e w' := by
  have h0 := hX.k0
  rcases (show X.k % 4 = 0 ∨ X.k % 4 = 1 ∨ X.k % 4 = 2 ∨ X.k % 4 = 3 by omega) with hk | hk | hk | hk
  · exact written0 A m c B bs X w h hB hm hX hx hk
  · exact written1 A m c B bs X w h hB hm hX hx hk
  · exact written2 A m c B bs X w h hB hm hX hx hk
  · exact written3 A m c B bs X w h hB hm hX hx hk
end Go.Proofs.Ythgbnpafhkhjpaa
