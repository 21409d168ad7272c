/- The reference's Number and Value. The reference's Value. The reference's Of. The reference's Read where there are too few bits. The reference's Bytes and Read. The reference's Read, Get, Take, GetLittle and Pad. The reference's GetLittle and Pad. One call of a reader, and of the reference. The law's reading. -/
import Derived.Test.YthgbnpafhkhjpaaPk
import Derived.Test.YthgbnpafhkhjpaaGet
import Derived.Test.YthgbnpafhkhjpaaInv
import Derived.Test.YthgbnpafhkhjpaaSz
import Derived.Test.YthgbnpafhkhjpaaKn
import Derived.Test.YthgbnpafhkhjpaaLrd
import Derived.Test.YthgbnpafhkhjpaaIn2
namespace Go.Proofs.Ythgbnpafhkhjpaa
open Go.RowKit
set_option linter.unusedVariables false
set_option linter.unusedSimpArgs false

theorem el44 : El Try.prog 44 4 1 := El.mk' (z := .bool false) Try.underlying44 (by kernel_rfl) rfl
theorem bool_one (l : List Bool) : ∀ u ∈ l.map Value.bool, u.oneCell' = true := by
  intro u hu
  obtain ⟨x, _, rfl⟩ := List.mem_map.1 hu
  rfl

set_option maxRecDepth 100000 in
set_option maxHeartbeats 1000000 in
theorem number_any (v n : Nat) (hv : v < 4294967296) (hn : n ≤ 32) (w : World) : Calls Try.prog 50 #[.int .i64 v, .int .i64 n] w fun e w' => ∃ val, e = .returned val ∧ w'.ownsRow w.heap.size 4 1 val n ((numBits v n).map Value.bool) ∧ Below w.heap.size w w' := by
  have hn2 : (n : Int) ≤ 32 := by omega
  have hn0 : (0 : Int) ≤ n := by omega
  have hv0 : (0 : Int) ≤ v := by omega
  go_enter Try.func50, Try.ntmps50
  go_wp2_with fail
  go_loopw [5, 6] (fun oo ii wz => ∃ j : Nat, (j : Int) ≤ n ∧ ii = .int .i64 ((n : Int) - 1 - j) ∧ Hid (wz.ownsRow w.heap.size 4 1 oo j (((List.range j).map (nbit v n)).map Value.bool)) ∧ Hid (Below w.heap.size w wz)) (fun _ ii _ => (intOf ii + 1).toNat)
  case atStart => exact ⟨0, by omega, by simp, Lib.hid (World.ownsRow_nil _ _ 4 1), Lib.hid (Below.refl _ _)⟩
  case round =>
    obtain ⟨j, hj, rfl, HO, HB⟩ := hrel
    by_cases hlt : (0 : Int) ≤ (n : Int) - 1 - j
    · obtain ⟨A, cap, rfl, -⟩ := own_form HO.out
      obtain ⟨x, hx⟩ : ∃ x : Nat, v / 2 ^ (n - 1 - j) = x := ⟨_, rfl⟩
      have hx2 : x < 4294967296 := by have := Nat.div_le_self v (2 ^ (n - 1 - j)); omega
      have hxi : (v : Int) / 2 ^ (n - 1 - j) = x := by rw [← hx]; simp
      have htn : ((n : Int) - 1 - j).toNat = n - 1 - j := by omega
      have hb : (((x : Int) % 2) == 1) = nbit v n j := by
        unfold nbit
        rw [hx, Bool.eq_iff_iff]
        simp
        omega
      have HSN := Lib.hid (range_snoc (nbit v n) j)
      have hx0 : (0 : Int) ≤ x := by omega
      clear hx
      generalize nbit v n j = b at *
      go_wp2_with (at_builtin; go_must (refine wpList_app_own (base := w.heap.size) (n := j) (m := 1) (xs := ((List.range j).map (nbit v n)).map Value.bool) (news := [.bool b]) rfl (.tmp 13) (.tmp 19) 44 rfl el44 rfl (own_alloc HO.out) rfl (Holds.one _ _ _) (bool_one [b]) (by unfold maxLen; omega) (by omega) (by have := HB.out.size; simp; omega) ?_; intro v2 w2 hown hgr hat; have HO2 := Lib.hid hown; have HB2 := Lib.hid (below_own (HB.out.alloc HB.out.size _) (by have := HB.out.size; simp; omega) (own_alloc HO.out) hgr); clear hown hgr hat))
      go_roundw
      case rel => exact ⟨j + 1, by omega, congrArg (Value.int .i64) (by omega), Lib.hid (by rw [HSN.out, List.map_append]; exact HO2.out), HB2⟩
      case measure => simp [intOf]; omega
    · obtain rfl : j = n := by omega
      go_wp2_with fail
      go_ret
      exact ⟨_, rfl, HO.out, HB.out⟩
end Go.Proofs.Ythgbnpafhkhjpaa

namespace Go.Proofs.Ythgbnpafhkhjpaa
open Go.RowKit
set_option linter.unusedVariables false
set_option linter.unusedSimpArgs false

set_option maxRecDepth 100000 in
set_option maxHeartbeats 1000000 in
theorem value_any (A : Option Addr) (n c : Nat) (bs : List Bool) (w : World) (hs : Holds w A n (bs.map Value.bool)) (hn : n ≤ 40) : Calls Try.prog 60 #[.slice A n c] w fun e w' => e = .returned (.int .i64 (bitsV bs)) ∧ w = w' := by
  have hll : bs.length = n := by have := hs.1; simpa using this
  have HS := Lib.hid hs
  have HN := Lib.hid hll
  have hn2 : (n : Int) ≤ 40 := by omega
  clear hs hll
  go_enter Try.func60, Try.ntmps60
  go_wp2_with fail
  go_loopw [3, 4] (fun vv ii wz => ∃ j : Nat, (j : Int) ≤ n ∧ vv = .int .i64 (bitsV (bs.take j)) ∧ ii = .int .i64 j ∧ wz = w) (fun _ ii _ => n - (intOf ii).toNat)
  case atStart => exact ⟨0, by omega, by simp [bitsV], rfl, rfl⟩
  case round =>
    obtain ⟨j, hj, rfl, rfl, rfl⟩ := hrel
    have hj0 : (0 : Int) ≤ j := by omega
    by_cases hlt : (j : Int) < n
    · have hjl : j < bs.length := by rw [HN.out]; omega
      obtain ⟨b, o, rfl, hc1⟩ := bs_cell HS.out (by omega) (show (bs.map Value.bool)[j]? = some (Value.bool bs[j]) by rw [List.getElem?_map, List.getElem?_eq_getElem hjl]; rfl)
      have hsn := bitsV_snoc (bs.take j) bs[j]
      rw [List.take_append_getElem hjl] at hsn
      have hV := bitsV_lt (bs.take j)
      have hlt2 : 2 ^ (bs.take j).length ≤ 2 ^ 40 := Nat.pow_le_pow_right (by omega) (by simp; omega)
      obtain ⟨V, hVe⟩ : ∃ V, bitsV (bs.take j) = V := ⟨_, rfl⟩
      rw [hVe] at hsn hV ⊢
      have hV0 : (0 : Int) ≤ V := by omega
      have hV1 : (V : Int) < 1099511627776 := by omega
      have HSN := Lib.hid hsn
      clear hsn hV hlt2 hVe
      cases hb : bs[j]
      · rw [hb] at hc1 HSN
        clear hb
        go_wp2_with fail
        go_roundw
        case rel => exact ⟨j + 1, by omega, by rw [HSN.out]; simp, by go_num, trivial⟩
        case measure => simp [intOf]; omega
      · rw [hb] at hc1 HSN
        clear hb
        go_wp2_with fail
        go_roundw
        case rel => exact ⟨j + 1, by omega, by rw [HSN.out]; simp, by go_num, trivial⟩
        case measure => simp [intOf]; omega
    · obtain rfl : j = n := by omega
      have hta : bs.take j = bs := List.take_of_length_le (by rw [HN.out]; exact Nat.le_refl _)
      rw [hta]
      go_wp2_with fail
      go_ret
      exact ⟨rfl, rfl⟩
end Go.Proofs.Ythgbnpafhkhjpaa

namespace Go.Proofs.Ythgbnpafhkhjpaa
open Go.RowKit
set_option linter.unusedVariables false
set_option linter.unusedSimpArgs false

theorem ubits_snoc (l : List UInt8) (x : UInt8) : ubits (l ++ [x]) = ubits l ++ numBits x.toNat 8 := by
  apply List.ext_getElem
  · simp [ubits, numBits]; omega
  · intro i h1 h2
    by_cases hi : i < 8 * l.length
    · rw [List.getElem_append_left (by rw [ubits_length]; exact hi)]
      simp only [ubits, List.getElem_map, List.getElem_range]
      exact bbit_snoc l i hi x
    · rw [List.getElem_append_right (by rw [ubits_length]; omega)]
      have hi2 : i < 8 * l.length + 8 := by simp [ubits] at h1; omega
      simp only [ubits, numBits, List.getElem_map, List.getElem_range, List.length_map, List.length_range]
      unfold bbit nbit
      rw [show i / 8 = l.length by omega, getD_get _ _ _ (by simp), List.getElem_append_right (Nat.le_refl _)]
      simp only [Nat.sub_self, List.getElem_cons_zero]
      rw [show 8 - 1 - (i - 8 * l.length) = 7 - i % 8 by omega]

set_option maxRecDepth 100000 in
set_option maxHeartbeats 1000000 in
theorem rof_any (A : Option Addr) (n c : Nat) (l : List UInt8) (w : World) (hs : Holds w A n (l.map u8)) (hn : n ≤ 1000) : Calls Try.prog 25 #[.slice A n c] w fun e w' => ∃ val, e = .returned val ∧ w'.ownsRow w.heap.size 4 1 val (8 * n) ((ubits l).map Value.bool) ∧ Below w.heap.size w w' := by
  have hll : l.length = n := by have := hs.1; simpa using this
  have HS := Lib.hid hs
  have HN := Lib.hid hll
  have hn2 : (n : Int) ≤ 1000 := by omega
  clear hs hll
  go_enter Try.func25, Try.ntmps25
  go_wp2_with fail
  go_loopw [3, 4] (fun oo ii wz => ∃ j : Nat, (j : Int) ≤ n ∧ ii = .int .i64 j ∧ Hid (wz.ownsRow w.heap.size 4 1 oo (8 * j) ((ubits (l.take j)).map Value.bool)) ∧ Hid (Below w.heap.size w wz)) (fun _ ii _ => n - (intOf ii).toNat)
  case atStart => exact ⟨0, by omega, rfl, Lib.hid (World.ownsRow_nil _ _ 4 1), Lib.hid (Below.refl _ _)⟩
  case round =>
    obtain ⟨j, hj, rfl, HO, HB⟩ := hrel
    have hj0 : (0 : Int) ≤ j := by omega
    by_cases hlt : (j : Int) < n
    · obtain ⟨A1, cap, rfl, -⟩ := own_form HO.out
      have hjl : j < l.length := by rw [HN.out]; omega
      obtain ⟨b, o, rfl, hc1⟩ := bs_cell (HS.out.keep HB.out) (by omega) (show (l.map Ythgbnpafhkhjpaa.u8)[j]? = some (Ythgbnpafhkhjpaa.u8 l[j]) by rw [List.getElem?_map, List.getElem?_eq_getElem hjl]; rfl)
      unfold Ythgbnpafhkhjpaa.u8 at hc1
      have hsn := ubits_snoc (l.take j) l[j]
      rw [List.take_append_getElem hjl] at hsn
      have HSN := Lib.hid hsn
      have hxl := l[j].toNat_lt
      have h50 := number_any l[j].toNat 8 (by omega) (by omega) wr
      rw [show ((8 : Nat) : Int) = 8 from rfl] at h50
      have C50 := Lib.hid h50
      clear h50
      have hx0 : (0 : Int) ≤ (l[j].toNat : Int) := by omega
      have hx1 : (l[j].toNat : Int) < 256 := by omega
      generalize l[j].toNat = x at *
      clear hsn hxl
      go_wp2_with (first
        | (go_at_call 50; (with_reducible refine C50.out.mono ?_); rintro e w1 ⟨v1, rfl, ho, hb⟩; obtain ⟨A2, c2, rfl, -⟩ := own_form ho; have HN1 := Lib.hid (holds_own ho); have HB1 := Lib.hid (HB.out.trans (hb.mono HB.out.size)); have HO1 := Lib.hid (own_keeps HO.out fun k hk => hb.block k (own_lt HO.out k hk)); clear ho hb)
        | (at_builtin; go_must (refine wpList_app_own (base := w.heap.size) (n := 8 * j) (m := 8) (xs := (ubits (l.take j)).map Value.bool) (news := (numBits x 8).map Value.bool) rfl (.tmp 11) (.tmp 17) 44 rfl el44 rfl HO1.out rfl HN1.out (bool_one _) (by unfold maxLen; omega) (by omega) HB1.out.size ?_; intro v2 w2 hown hgr hat; have HO2 := Lib.hid hown; have HB2 := Lib.hid (below_own HB1.out HB1.out.size HO1.out hgr); clear hown hgr hat)))
      go_roundw
      case rel => exact ⟨j + 1, by omega, by go_num, Lib.hid (by rw [HSN.out, List.map_append]; exact HO2.out), HB2⟩
      case measure => simp [intOf]; omega
    · obtain rfl : j = n := by omega
      have hta : l.take j = l := List.take_of_length_le (by rw [HN.out]; exact Nat.le_refl _)
      rw [hta] at HO
      go_wp2_with fail
      go_ret
      exact ⟨_, rfl, HO.out, HB.out⟩
end Go.Proofs.Ythgbnpafhkhjpaa

namespace Go.Proofs.Ythgbnpafhkhjpaa
open Go.RowKit
set_option linter.unusedVariables false
set_option linter.unusedSimpArgs false

set_option maxRecDepth 100000 in
theorem rread_short (A : Option Addr) (m c pl : Nat) (n : Int) (w : World) (hm : m ≤ 100000) (hp : pl ≤ m) (h : (m : Int) - pl < n) : Calls Try.prog 54 #[.slice A m c, .int .i64 pl, .int .i64 n] w fun e w' => e = .returned (.tuple #[.slice none 0 0, .int .i64 4]) ∧ w = w' := by
  have q : decide ((m : Int) - pl < n) = true := by simpa using h
  have h1 : (m : Int) ≤ 100000 := by omega
  have h2 : (pl : Int) ≤ m := by omega
  have h3 : (0 : Int) ≤ pl := by omega
  clear h
  go_enter Try.func54, Try.ntmps54
  go_wp2_with fail
  go_ret2
  exact ⟨rfl, rfl⟩
set_option maxRecDepth 100000 in
theorem rread_some (b o m c pl n : Nat) (w : World) (hm : m ≤ 100000) (hp : pl + n ≤ m) (hc : m ≤ c) (hc2 : c ≤ 1000000000) : Calls Try.prog 54 #[.slice (some ⟨b, o, none⟩) m c, .int .i64 pl, .int .i64 n] w fun e w' => (∃ q, e = .returned (.tuple #[.slice (some ⟨b, q, none⟩) n (c - pl), .int .i64 0]) ∧ (0 < n → q = o + pl)) ∧ w = w' := by
  have q : decide ((m : Int) - pl < n) = false := by simp; omega
  have h1 : (m : Int) ≤ 100000 := by omega
  have h2 : (pl : Int) + n ≤ m := by omega
  have h3 : (0 : Int) ≤ pl := by omega
  have h4 : (0 : Int) ≤ n := by omega
  have h5 : (m : Int) ≤ c := by omega
  go_enter Try.func54, Try.ntmps54
  go_wp2_with fail
  all_goals
    go_ret2
    first
      | exact ⟨⟨o + pl, rfl, fun _ => rfl⟩, rfl⟩
      | exact ⟨⟨o, by first | (simp; done) | (simp [*]; done) | (simp; omega), fun _ => by omega⟩, rfl⟩
end Go.Proofs.Ythgbnpafhkhjpaa

namespace Go.Proofs.Ythgbnpafhkhjpaa
open Go.RowKit
set_option linter.unusedVariables false
set_option linter.unusedSimpArgs false

/-- A slice of bits. -/
structure RB (w : World) (A : Option Addr) (m c : Nat) (bs : List Bool) : Prop where
  h : Holds w A m (bs.map Value.bool)
  mc : m ≤ c
  cm : c ≤ maxLen
  z : A = none → c = 0
theorem RB.len {w : World} {A : Option Addr} {m c : Nat} {bs : List Bool} (h : RB w A m c bs) : bs.length = m := by have := h.h.1; simpa using this
theorem RB.keep {w w' : World} {A : Option Addr} {m c : Nat} {bs : List Bool} (h : RB w A m c bs) (hb : Below w.heap.size w w') : RB w' A m c bs := ⟨h.h.keep hb, h.mc, h.cm, h.z⟩
theorem RB.nil (w : World) : RB w none 0 0 [] := ⟨⟨rfl, fun _ => ⟨rfl, rfl⟩, fun b hb => by cases hb⟩, Nat.le_refl _, Nat.zero_le _, fun _ => rfl⟩

theorem byteV_range (bs : List Bool) (j : Nat) : byteV bs j = bitsV ((List.range 8).map fun q => bs.getD (8 * j + q) false) := rfl
theorem pack_take_snoc (bs : List Bool) (j : Nat) (h : j < (pack bs).length) : ((pack bs).take (j + 1)).map u8 = ((pack bs).take j).map u8 ++ [.int .u8 (byteV bs j : Int)] := by
  rw [← List.take_append_getElem h, List.map_append, pack_get]
  simp only [List.map_cons, List.map_nil]
  unfold u8
  rw [byte_of _ (byteV_lt _ _)]

set_option maxRecDepth 100000 in
set_option maxHeartbeats 2000000 in
theorem rbytes_any (A : Option Addr) (m c : Nat) (bs : List Bool) (w : World) (hs : RB w A m c bs) (hm : m ≤ 1000000) :
    Calls Try.prog 31 #[.slice A m c] w fun e w' => Rowed w 5 ((m + 7) / 8) ((pack bs).map Ythgbnpafhkhjpaa.u8) (fun v => v) e w' := by
  have hll := hs.len
  have HS := Lib.hid hs
  have HL := Lib.hid hll
  have hm2 : (m : Int) ≤ 1000000 := by omega
  have hpl : (pack bs).length = (m + 7) / 8 := by rw [pack_length, hll]
  have HPL := Lib.hid hpl
  clear hs hll hpl
  go_enter Try.func31, Try.ntmps31
  go_wp2_with fail
  go_loopw [3, 4] (fun oo ii wr => ∃ j : Nat, j ≤ (m + 7) / 8 ∧ ii = .int .i64 ((8 * j : Nat) : Int) ∧ (∃ Ao co, oo = .slice Ao j co) ∧ Hid (wr.ownsRow w.heap.size 5 1 oo j (((pack bs).take j).map Ythgbnpafhkhjpaa.u8)) ∧ Hid (Below w.heap.size w wr)) (fun _ ii _ => m + 8 - (intOf ii).toNat)
  case atStart => exact ⟨0, by omega, rfl, ⟨none, 0, rfl⟩, Lib.hid (World.ownsRow_nil _ _ 5 1), Lib.hid (Below.refl _ _)⟩
  case round =>
    obtain ⟨j, hj, rfl, ⟨Ao, co, rfl⟩, HO, HB⟩ := hrel
    obtain ⟨i, hi⟩ : ∃ i : Nat, 8 * j = i := ⟨_, rfl⟩
    rw [hi]
    have hi0 : (0 : Int) ≤ i := by omega
    have him : (i : Int) ≤ m + 7 := by omega
    by_cases hlt : (i : Int) < m
    · have HI := Lib.hid hi
      have hjp : j < (m + 7) / 8 := by omega
      obtain ⟨w1, rfl⟩ : ∃ w1 : World, w1 = wr := ⟨_, rfl⟩
      clear hi hj
      go_wp2_with fail
      clear hlt
      go_loopw [5, 6] (fun xx kk wr => ∃ r : Nat, (r : Int) ≤ 8 ∧ kk = .int .i64 ((i : Int) + r) ∧ (∃ Ax cx, xx = .slice Ax r cx) ∧ Hid (wr.ownsRow w.heap.size 4 1 xx r (((List.range r).map fun q => bs.getD (i + q) false).map Value.bool)) ∧ Hid (wr.ownsRow w.heap.size 5 1 (.slice Ao j co) j (((pack bs).take j).map Ythgbnpafhkhjpaa.u8)) ∧ Hid (Below w.heap.size w wr)) (fun _ kk _ => (i + 8 - (intOf kk)).toNat)
      case atStart => exact ⟨0, by omega, by simp, ⟨none, 0, rfl⟩, Lib.hid (World.ownsRow_nil _ _ 4 1), HO, HB⟩
      clear HO HB
      case round =>
        obtain ⟨r, hr, rfl, ⟨Ax, cx, rfl⟩, HX, HO, HB⟩ := hrel
        by_cases hr8 : (r : Int) < 8
        · have hr0 : (0 : Int) ≤ r := by omega
          have HSN := Lib.hid (range_snoc (fun q => bs.getD (i + q) false) r)
          by_cases hlt : (i : Int) + r < m
          · have hir : i + r < bs.length := by rw [HL.out]; omega
            obtain ⟨b, o, rfl, hc1⟩ := bs_cell ((HS.out.keep HB.out).h) (by omega) (show (bs.map Value.bool)[i + r]? = some (Value.bool bs[i + r]) by rw [List.getElem?_map, List.getElem?_eq_getElem hir]; rfl)
            have HG := Lib.hid (getD_get bs (i + r) false hir)
            generalize bs[i + r] = bt at *
            clear hir
            go_wp2_with (at_builtin; go_must (refine wpList_app_own (base := w.heap.size) (n := r) (m := 1) (xs := ((List.range r).map fun q => bs.getD (i + q) false).map Value.bool) (news := [.bool bt]) rfl (.tmp 20) (.tmp 31) 44 rfl el44 rfl (own_alloc HX.out) rfl (Holds.one _ _ _) (bool_one [bt]) (by unfold maxLen; omega) (by omega) (by have := HB.out.size; simp; omega) ?_; intro v2 w2 hown hgr hat; have HX2 := Lib.hid hown; have HB2 := Lib.hid (below_own (HB.out.alloc HB.out.size _) (by have := HB.out.size; simp; omega) (own_alloc HX.out) hgr); have HO2 := Lib.hid (own_apart HO.out HX.out (fun e => by cases e) hgr); clear hown hgr hat))
            go_roundw
            case rel =>
              obtain ⟨A2, c2, rfl, -⟩ := own_form HX2.out
              exact ⟨r + 1, by omega, congrArg (Value.int .i64) (by omega), ⟨A2, c2, rfl⟩, Lib.hid (by rw [HSN.out, List.map_append, HG.out]; exact HX2.out), HO2, HB2⟩
            case measure => simp [intOf]; omega
          · have HG := Lib.hid (getD_out bs (i + r) false (by rw [HL.out]; omega))
            go_wp2_with (at_builtin; go_must (refine wpList_app_own (base := w.heap.size) (n := r) (m := 1) (xs := ((List.range r).map fun q => bs.getD (i + q) false).map Value.bool) (news := [.bool false]) rfl (.tmp 20) (.tmp 31) 44 rfl el44 rfl (own_alloc HX.out) rfl (Holds.one _ _ _) (bool_one [false]) (by unfold maxLen; omega) (by omega) (by have := HB.out.size; simp; omega) ?_; intro v2 w2 hown hgr hat; have HX2 := Lib.hid hown; have HB2 := Lib.hid (below_own (HB.out.alloc HB.out.size _) (by have := HB.out.size; simp; omega) (own_alloc HX.out) hgr); have HO2 := Lib.hid (own_apart HO.out HX.out (fun e => by cases e) hgr); clear hown hgr hat))
            go_roundw
            case rel =>
              obtain ⟨A2, c2, rfl, -⟩ := own_form HX2.out
              exact ⟨r + 1, by omega, congrArg (Value.int .i64) (by omega), ⟨A2, c2, rfl⟩, Lib.hid (by rw [HSN.out, List.map_append, HG.out]; exact HX2.out), HO2, HB2⟩
            case measure => simp [intOf]; omega
        · obtain rfl : r = 8 := by omega
          have hv := value_any Ax 8 cx _ wr (holds_own HX.out) (by omega)
          rw [show ((List.range 8).map fun q => bs.getD (i + q) false) = (List.range 8).map fun q => bs.getD (8 * j + q) false by rw [HI.out], ← byteV_range] at hv
          have CV := Lib.hid hv
          have hps := pack_take_snoc bs j (by rw [HPL.out]; omega)
          have HPS := Lib.hid hps
          have hbv := byteV_lt bs j
          have hwr := wrap_u8_id hbv
          clear hv hps
          generalize byteV bs j = y at *
          have hy0 : (0 : Int) ≤ y := by omega
          have hy1 : (y : Int) < 256 := by omega
          clear hbv hwr
          go_wp2_with (first
            | (go_at_call 60; (with_reducible refine CV.out.mono ?_); rintro e w3 ⟨rfl, rfl⟩)
            | (at_builtin; go_must (refine wpList_app_own (base := w.heap.size) (n := j) (m := 1) (xs := ((pack bs).take j).map Ythgbnpafhkhjpaa.u8) (news := [.int .u8 (y : Int)]) rfl (.tmp 33) (.tmp 37) 27 rfl el27 rfl (own_alloc HO.out) rfl (Holds.one _ _ _) (by intro u hu; simp at hu; subst hu; rfl) (by unfold maxLen; omega) (by omega) (by have := HB.out.size; simp; omega) ?_; intro v2 w2 hown hgr hat; have HO2 := Lib.hid hown; have HB2 := Lib.hid (below_own (HB.out.alloc HB.out.size _) (by have := HB.out.size; simp; omega) (own_alloc HO.out) hgr); clear hown hgr hat)))
          go_roundw
          case rel =>
            obtain ⟨A2, c2, rfl, -⟩ := own_form HO2.out
            exact ⟨j + 1, by omega, congrArg (Value.int .i64) (by have := HI.out; omega), ⟨A2, c2, rfl⟩, Lib.hid (by rw [HPS.out]; exact HO2.out), HB2⟩
          case measure => simp [intOf]; omega
    · obtain rfl : j = (m + 7) / 8 := by omega
      have hta : (pack bs).take ((m + 7) / 8) = pack bs := List.take_of_length_le (by rw [HPL.out]; exact Nat.le_refl _)
      rw [hta] at HO
      go_wp2_with fail
      go_ret
      exact ⟨_, rfl, HO.out, HB.out⟩
end Go.Proofs.Ythgbnpafhkhjpaa

namespace Go.Proofs.Ythgbnpafhkhjpaa
open Go.RowKit
set_option linter.unusedVariables false
set_option linter.unusedSimpArgs false

theorem RB.own {w : World} {B m : Nat} {v : Value} {bs : List Bool} (h : w.ownsRow B 4 1 v m (bs.map Value.bool)) : ∃ A c, v = .slice A m c ∧ RB w A m c bs := by
  obtain ⟨A, c, rfl, h1, h2, h3, -⟩ := own_form h
  exact ⟨A, c, rfl, holds_own h, h1, h2, fun e => (h3 e).2⟩
def ReadR (n : Nat) (bs : List Bool) (w : World) (e : Ending) : Prop := ∃ A c, e = .returned (.tuple #[.slice A n c, .int .i64 0]) ∧ RB w A n c bs
theorem holds_part {w : World} {b o q m p n : Nat} {bs : List Bool} (h : Holds w (some ⟨b, o, none⟩) m (bs.map Value.bool)) (hp : p + n ≤ m) (hq : 0 < n → q = o + p) : Holds w (some ⟨b, q, none⟩) n (((bs.drop p).take n).map Value.bool) := by
  have hl : bs.length = m := by have := h.1; simpa using this
  refine ⟨by simp; omega, (fun e => by cases e), fun a ha j u hu => ?_⟩
  cases ha
  have hj : j < n := by
    have := (List.getElem?_eq_some_iff.1 hu).1
    simp at this
    omega
  rw [hq (by omega), Addr.add_lit]
  have hc := h.2.2 _ rfl (p + j) u (by
    rw [List.getElem?_map, List.getElem?_take_of_lt hj, List.getElem?_drop] at hu
    rw [List.getElem?_map]
    exact hu)
  rw [Addr.add_lit, ← Nat.add_assoc] at hc
  exact hc

set_option maxRecDepth 100000 in
theorem rread_rb (A : Option Addr) (m c p n : Nat) (bs : List Bool) (w : World) (h : RB w A m c bs) (hm : m ≤ 100000) (hp : p + n ≤ m) : Calls Try.prog 54 #[.slice A m c, .int .i64 p, .int .i64 n] w fun e w' => ReadR n ((bs.drop p).take n) w e ∧ w = w' := by
  cases A with
  | none =>
    have h0 : m = 0 := (h.h.2.1 rfl).1
    subst h0
    have hc := h.z rfl
    subst hc
    have hl := h.len
    obtain rfl : bs = [] := List.eq_nil_of_length_eq_zero hl
    obtain rfl : p = 0 := by omega
    obtain rfl : n = 0 := by omega
    clear h hm hp hl
    go_enter Try.func54, Try.ntmps54
    go_wp2_with fail
    go_ret2
    exact ⟨⟨none, 0, rfl, RB.nil w⟩, rfl⟩
  | some a =>
    by_cases hm0 : m = 0
    · subst hm0
      have hl := h.len
      obtain rfl : bs = [] := List.eq_nil_of_length_eq_zero hl
      obtain rfl : p = 0 := by omega
      obtain rfl : n = 0 := by omega
      have hcm := h.cm
      unfold maxLen at hcm
      have HCM := Lib.hid h.cm
      have h5 : (0 : Int) ≤ c := by omega
      have h6 : (c : Int) ≤ 9223372036854775807 := by omega
      clear h hm hp hl hcm
      go_enter Try.func54, Try.ntmps54
      go_wp2_with fail
      all_goals
        go_ret2
        first
          | exact ⟨⟨_, _, rfl, ⟨⟨rfl, (fun e => by cases e), fun b hb j u hu => by simp at hu⟩, Nat.zero_le _, HCM.out, fun e => by cases e⟩⟩, rfl⟩
    · have H := Lib.hid h
      obtain ⟨b, o, spot⟩ := a
      have hs : spot = none := by
        have hl := h.len
        have := World.cell?_spot (h.h.2.2 _ rfl 0 (Value.bool (bs[0]'(by omega))) (by rw [List.getElem?_map, List.getElem?_eq_getElem (by omega)]; rfl))
        simpa [Addr.add] using this
      subst hs
      have hmc := h.mc
      have hcm := h.cm
      unfold maxLen at hcm
      have HCM := Lib.hid (show c - p ≤ maxLen from Nat.le_trans (Nat.sub_le _ _) h.cm)
      have q : decide ((m : Int) - p < n) = false := by simp; omega
      have h1 : (m : Int) ≤ 100000 := by omega
      have h2 : (p : Int) + n ≤ m := by omega
      have h3 : (0 : Int) ≤ p := by omega
      have h4 : (0 : Int) ≤ n := by omega
      have h5 : (m : Int) ≤ c := by omega
      have h6 : (c : Int) ≤ 9223372036854775807 := by omega
      clear h hm0 hcm
      go_enter Try.func54, Try.ntmps54
      go_wp2_with fail
      all_goals
        go_ret2
        first
          | exact ⟨⟨_, _, rfl, ⟨holds_part H.out.h hp (fun _ => rfl), by omega, HCM.out, fun e => by cases e⟩⟩, rfl⟩
          | (obtain rfl : n = 0 := by omega
             exact ⟨⟨_, 0, rfl, ⟨⟨by simp, (fun e => by cases e), fun b hb j u hu => by simp at hu⟩, Nat.zero_le _, Nat.zero_le _, fun e => by cases e⟩⟩, rfl⟩)
theorem cut_ubits (l : List UInt8) (p n : Nat) (h : p + n ≤ 8 * l.length) : ((ubits l).drop p).take n = cut l p n := by
  apply List.ext_getElem
  · simp [cut, ubits]; omega
  · intro i h1 h2
    simp [cut, ubits]

theorem rE_get (l : List UInt8) (p : Nat) (n : Int) : (n < 1 ∨ 32 < n → rE l p (getC n) n = 2) ∧ (1 ≤ n → n ≤ 32 → ((8 * l.length : Nat) : Int) - p < n → rE l p (getC n) n = 4) := by
  constructor
  · intro h
    have hd : (decide (1 ≤ n) && decide (n ≤ 32)) = false := by simp; omega
    simp [rE, getC, hd, firstE]
  · intro h1 h2 h3
    have hd : (decide (1 ≤ n) && decide (n ≤ 32)) = true := by simp; omega
    have h4 : decide (n ≤ ((8 * l.length : Nat) : Int) - p) = false := by simp; omega
    simp only [rE, getC, hd, h4]
    rfl
theorem cut_zero (l : List UInt8) (p : Nat) : cut l p 0 = [] := rfl

set_option maxRecDepth 100000 in
set_option maxHeartbeats 1000000 in
theorem rget_any (A : Option Addr) (c p : Nat) (l : List UInt8) (n : Int) (w : World) (h : RB w A (8 * l.length) c (ubits l)) (hm : l.length ≤ 1000) (hp : p ≤ 8 * l.length) :
    Calls Try.prog 51 #[.slice A (8 * l.length : Nat) c, .int .i64 p, .int .i64 n] w fun e w' => e = .returned (.tuple #[.int .i64 (bitsV (cut l p (rN (rE l p (getC n) n) n))), .int .i64 (rE l p (getC n) n)]) ∧ w = w' := by
  obtain ⟨m, hm2⟩ : ∃ m, 8 * l.length = m := ⟨_, rfl⟩
  rw [hm2] at h hp ⊢
  obtain ⟨r1, r2⟩ := rE_get l p n
  rw [hm2] at r2
  cases q1 : decide (n < 1)
  · have g1 : 1 ≤ n := by simpa using q1
    cases q2 : decide (32 < n)
    · have g2 : n ≤ 32 := by simpa using q2
      obtain ⟨k, rfl⟩ := Int.eq_ofNat_of_zero_le (show 0 ≤ n by omega)
      by_cases hs : (m : Int) - p < k
      · have C54 := Lib.hid (rread_short A m c p k w (by omega) hp hs)
        have C60 := Lib.hid (value_any none 0 0 [] w ⟨rfl, fun _ => ⟨rfl, rfl⟩, fun b hb => by cases hb⟩ (by omega))
        rw [r2 g1 g2 hs, show rN 4 k = 0 from rfl, cut_zero]
        clear h r1 r2 hs hm2 hm hp
        go_enter Try.func51, Try.ntmps51
        go_wp2_with (first
          | (go_at_call 54; (with_reducible refine C54.out.mono ?_); rintro e w1 ⟨rfl, rfl⟩)
          | (go_at_call 60; (with_reducible refine C60.out.mono ?_); rintro e w1 ⟨rfl, rfl⟩))
        go_ret2
        exact ⟨rfl, rfl⟩
      · obtain ⟨f1, f2⟩ := get_fine l p k (by omega) (by omega) (by omega)
        have C54 := Lib.hid (rread_rb A m c p k _ w h (by omega) (by omega))
        rw [f2, f1]
        rw [cut_ubits l p k (by omega)] at C54
        have hk : k ≤ 40 := by omega
        clear h r1 r2 hs hm2 hm hp f1 f2
        go_enter Try.func51, Try.ntmps51
        go_wp2_with (first
          | (go_at_call 54; (with_reducible refine C54.out.mono ?_); rintro e w1 ⟨⟨A2, c2, rfl, rb2⟩, rfl⟩; have C60 := Lib.hid (value_any A2 k c2 (cut l p k) w rb2.h hk); clear rb2)
          | (go_at_call 60; (with_reducible refine C60.out.mono ?_); rintro e w1 ⟨rfl, rfl⟩))
        go_ret2
        exact ⟨rfl, rfl⟩
    · have g2 : 32 < n := by simpa using q2
      rw [r1 (.inr g2), show rN 2 n = 0 from rfl, cut_zero]
      clear r1 r2 h hm2 hm hp g2
      go_enter Try.func51, Try.ntmps51
      go_wp2_with fail
      go_ret2
      exact ⟨rfl, rfl⟩
  · have g1 : n < 1 := by simpa using q1
    rw [r1 (.inl g1), show rN 2 n = 0 from rfl, cut_zero]
    clear r1 r2 h hm2 hm hp g1
    go_enter Try.func51, Try.ntmps51
    go_wp2_with fail
    go_ret2
    exact ⟨rfl, rfl⟩

theorem rE_take (l : List UInt8) (p : Nat) (k a b : Int) :
    ((k < a ∨ b < k) → rE l p (takeC k a b p) (takeN k) = 2) ∧ (a ≤ k → k ≤ b → p % 8 ≠ 0 → rE l p (takeC k a b p) (takeN k) = 8) ∧ (a ≤ k → k ≤ b → p % 8 = 0 → ((8 * l.length : Nat) : Int) - p < takeN k → rE l p (takeC k a b p) (takeN k) = 4) := by
  refine ⟨fun h => ?_, fun h1 h2 h3 => ?_, fun h1 h2 h3 h4 => ?_⟩
  · have hd : (decide (a ≤ k) && decide (k ≤ b)) = false := by simp; omega
    simp [rE, takeC, hd, firstE]
  · have hd : (decide (a ≤ k) && decide (k ≤ b)) = true := by simp; omega
    have h4 : ((p : Int).tmod 8 == 0) = false := by simp; rw [Int.tmod_eq_emod_of_nonneg (by omega)]; omega
    simp only [rE, takeC, hd, h4]
    rfl
  · have hd : (decide (a ≤ k) && decide (k ≤ b)) = true := by simp; omega
    have h5 : ((p : Int).tmod 8 == 0) = true := by simp; rw [Int.tmod_eq_emod_of_nonneg (by omega)]; omega
    have h6 : decide (takeN k ≤ ((8 * l.length : Nat) : Int) - p) = false := by simp; omega
    simp only [rE, takeC, hd, h5, h6]
    rfl
def TakeR (w : World) (n : Nat) (l : List UInt8) (E : Int) (e : Ending) (w' : World) : Prop := ∃ v, e = .returned (.tuple #[v, .int .i64 E]) ∧ w'.ownsRow w.heap.size 5 1 v n (l.map u8) ∧ Below w.heap.size w w'
theorem rbytes_nil (w : World) : Calls Try.prog 31 #[.slice none 0 0] w fun e w' => Rowed w 5 0 [] (fun v => v) e w' := rbytes_any none 0 0 [] w (RB.nil w) (by omega)

set_option maxRecDepth 100000 in
set_option maxHeartbeats 1000000 in
theorem rtake_ref (A : Option Addr) (c p : Nat) (l : List UInt8) (k b : Int) (w : World) (h : RB w A (8 * l.length) c (ubits l)) (hm : l.length ≤ 1000) (hp : p ≤ 8 * l.length) (hkb : 0 ≤ k → k ≤ b) :
    Calls Try.prog 53 #[.slice A (8 * l.length : Nat) c, .int .i64 p, .int .i64 k] w fun e w' => TakeR w ((rN (rE l p (takeC k 0 b p) (takeN k)) (takeN k) + 7) / 8) (pack (cut l p (rN (rE l p (takeC k 0 b p) (takeN k)) (takeN k)))) (rE l p (takeC k 0 b p) (takeN k)) e w' := by
  obtain ⟨m, hm2⟩ : ∃ m, 8 * l.length = m := ⟨_, rfl⟩
  rw [hm2] at h hp ⊢
  obtain ⟨r1, r2, r3⟩ := rE_take l p k 0 b
  rw [hm2] at r3
  have hp0 : (0 : Int) ≤ p := by omega
  have hnil : ∀ E : Int, TakeR w 0 [] E (.returned (.tuple #[.slice none 0 0, .int .i64 E])) w := fun E => ⟨_, rfl, World.ownsRow_nil _ _ 5 1, Below.refl _ _⟩
  cases q1 : decide (k < 0)
  · have g1 : 0 ≤ k := by simpa using q1
    obtain ⟨k, rfl⟩ := Int.eq_ofNat_of_zero_le g1
    have hkb' := hkb g1
    by_cases g2 : p % 8 = 0
    · have q2 : ((p : Int) % 8 != 0) = false := by simp; omega
      by_cases g3 : 8388608 < (k : Int)
      · have hs : (m : Int) - p < takeN k := by unfold takeN; omega
        rw [r3 g1 hkb' g2 hs, show rN 4 (takeN k) = 0 from rfl, cut_zero]
        have HN := Lib.hid (hnil 4)
        have q3 : decide (8388608 < (k : Int)) = true := by simpa using g3
        clear h r1 r2 r3 hs hm2 hm hp g1 g2 g3 hkb hkb' hnil
        go_enter Try.func53, Try.ntmps53
        go_wp2_with fail
        go_ret2
        exact HN.out
      · have q3 : decide (8388608 < (k : Int)) = false := by simpa using g3
        have g4 : (k : Int) ≤ 8388608 := by omega
        have hN : takeN k = ((8 * k : Nat) : Int) := by unfold takeN; omega
        have h8 : ((8 * k : Nat) : Int) = 8 * (k : Int) := by omega
        by_cases hs : (m : Int) - p < takeN k
        · rw [r3 g1 hkb' g2 hs, show rN 4 (takeN k) = 0 from rfl, cut_zero]
          rw [hN] at hs
          have h54 := rread_short A m c p ((8 * k : Nat) : Int) w (by omega) hp hs
          rw [h8] at h54
          have C54 := Lib.hid h54
          have C31 := Lib.hid (rbytes_nil w)
          clear h r1 r2 r3 hs hm2 hm hp g2 g3 hkb hkb' hnil hN h8 h54
          go_enter Try.func53, Try.ntmps53
          go_wp2_with (first
            | (go_at_call 54; (with_reducible refine C54.out.mono ?_); rintro e w1 ⟨rfl, rfl⟩)
            | (go_at_call 31; (with_reducible refine C31.out.mono ?_); rintro e w1 ⟨v1, rfl, ho, hb⟩; obtain ⟨A1, c1, rfl, -⟩ := own_form ho; have HO := Lib.hid ho; have HB := Lib.hid hb; clear ho hb))
          go_ret2
          exact ⟨_, rfl, HO.out, HB.out⟩
        · rw [hN] at hs
          obtain ⟨f1, f2⟩ := take_fine l p k 0 b g1 hkb' g2 (by omega) (by omega)
          rw [f2, f1]
          have h54 := rread_rb A m c p (8 * k) _ w h (by omega) (by omega)
          rw [cut_ubits l p (8 * k) (by omega), h8] at h54
          have C54 := Lib.hid h54
          have h8k : 8 * k ≤ 1000000 := by omega
          clear h r1 r2 r3 hs hm2 hm hp g2 g3 hkb hkb' hnil hN h8 h54 f1 f2
          go_enter Try.func53, Try.ntmps53
          go_wp2_with (first
            | (go_at_call 54; (with_reducible refine C54.out.mono ?_); rintro e w1 ⟨⟨A2, c2, rfl, rb2⟩, rfl⟩; have C31 := Lib.hid (rbytes_any A2 (8 * k) c2 (cut l p (8 * k)) w rb2 h8k); clear rb2)
            | (go_at_call 31; (with_reducible refine C31.out.mono ?_); rintro e w1 ⟨v1, rfl, ho, hb⟩; obtain ⟨A1, c1, rfl, -⟩ := own_form ho; have HO := Lib.hid ho; have HB := Lib.hid hb; clear ho hb))
          go_ret2
          exact ⟨_, rfl, HO.out, HB.out⟩
    · have q2 : ((p : Int) % 8 != 0) = true := by simp; omega
      rw [r2 g1 hkb' g2, show rN 8 (takeN k) = 0 from rfl, cut_zero]
      have HN := Lib.hid (hnil 8)
      clear h r1 r2 r3 hm2 hm hp g1 g2 hkb hkb' hnil
      go_enter Try.func53, Try.ntmps53
      go_wp2_with fail
      go_ret2
      exact HN.out
  · have g1 : k < 0 := by simpa using q1
    rw [r1 (.inl g1), show rN 2 (takeN k) = 0 from rfl, cut_zero]
    have HN := Lib.hid (hnil 2)
    clear h r1 r2 r3 hm2 hm hp g1 hkb hnil
    go_enter Try.func53, Try.ntmps53
    go_wp2_with fail
    go_ret2
    exact HN.out
end Go.Proofs.Ythgbnpafhkhjpaa

namespace Go.Proofs.Ythgbnpafhkhjpaa
open Go.RowKit
set_option linter.unusedVariables false
set_option linter.unusedSimpArgs false

theorem leV_drop (L : List UInt8) (j : Nat) (h : j < L.length) : leV (L.drop (L.length - (j + 1))) = 256 * leV (L.drop (L.length - j)) + (L[L.length - (j + 1)]'(by omega)).toNat := by
  have hd := List.drop_eq_getElem_cons (l := L) (i := L.length - (j + 1)) (by omega)
  rw [hd, leV, show L.length - (j + 1) + 1 = L.length - j by omega]
  omega
theorem rE_little (l : List UInt8) (p : Nat) (k : Int) (h1 : 1 ≤ k) (h2 : k ≤ 4) : rE l p (takeC k 0 4 p) (takeN k) = rE l p (takeC k 1 4 p) (takeN k) := by
  have a1 : (decide (0 ≤ k) && decide (k ≤ 4)) = true := by simp; omega
  have a2 : (decide (1 ≤ k) && decide (k ≤ 4)) = true := by simp; omega
  unfold rE takeC
  rw [a1, a2]

set_option maxRecDepth 100000 in
set_option maxHeartbeats 1000000 in
theorem rlittle_ref (A : Option Addr) (c p : Nat) (l : List UInt8) (k : Int) (w : World) (h : RB w A (8 * l.length) c (ubits l)) (hm : l.length ≤ 1000) (hp : p ≤ 8 * l.length) :
    Calls Try.prog 52 #[.slice A (8 * l.length : Nat) c, .int .i64 p, .int .i64 k] w fun e w' => e = .returned (.tuple #[.int .i64 (leV (pack (cut l p (rN (rE l p (takeC k 1 4 p) (takeN k)) (takeN k))))), .int .i64 (rE l p (takeC k 1 4 p) (takeN k))]) ∧ Below w.heap.size w w' := by
  obtain ⟨r1, r2, r3⟩ := rE_take l p k 1 4
  have h53 := rtake_ref A c p l k 4 w h hm hp
  have hlen := rlittle_len l p k
  obtain ⟨m, hm2⟩ : ∃ m, 8 * l.length = m := ⟨_, rfl⟩
  rw [hm2] at h53 ⊢
  cases q1 : decide (k < 1)
  · have g1 : 1 ≤ k := by simpa using q1
    cases q2 : decide (4 < k)
    · have g2 : k ≤ 4 := by simpa using q2
      have h53' := h53 (fun _ => g2)
      rw [rE_little l p k g1 g2] at h53'
      generalize hE : rE l p (takeC k 1 4 p) (takeN k) = E at *
      have hpl : (pack (cut l p (rN E (takeN k)))).length = (rN E (takeN k) + 7) / 8 := by rw [pack_length, cut_length]
      rw [← hpl] at h53'
      generalize pack (cut l p (rN E (takeN k))) = L at *
      obtain ⟨n, hn⟩ : ∃ n, L.length = n := ⟨_, rfl⟩
      rw [hn] at h53' hlen
      have HN := Lib.hid hn
      have C53 := Lib.hid h53'
      have hn4 : (n : Int) ≤ 4 := by omega
      clear h53 h53' r1 r2 r3 h hm hp hm2 hE hpl hn hlen
      go_enter Try.func52, Try.ntmps52
      go_wp2_with (first | (go_at_call 53; (with_reducible refine C53.out.mono ?_); rintro e w1 ⟨v1, rfl, ho, hb⟩; obtain ⟨A1, c1, rfl, -⟩ := own_form ho; have HO := Lib.hid ho; have HB := Lib.hid hb; clear ho hb))
      clear q1 q2 g1 g2 C53
      go_loop [10, 11] (fun vv ii => ∃ j : Nat, (j : Int) ≤ n ∧ vv = .int .i64 (leV (L.drop (n - j))) ∧ ii = .int .i64 ((n : Int) - 1 - j)) (fun _ ii => (intOf ii + 1).toNat)
      case atStart => exact ⟨0, by omega, by rw [Nat.sub_zero, ← HN.out, List.drop_length]; rfl, by simp⟩
      case round =>
        obtain ⟨j, hj, rfl, rfl⟩ := hrel
        by_cases hlt : (0 : Int) ≤ (n : Int) - 1 - j
        · have hjl : j < L.length := by rw [HN.out]; omega
          have hst := leV_drop L j hjl
          have hV := leV_lt (L.drop (n - j))
          have hVl : (L.drop (n - j)).length ≤ 3 := by rw [List.length_drop, HN.out]; omega
          have hV2 : 256 ^ (L.drop (n - j)).length ≤ 256 ^ 3 := Nat.pow_le_pow_right (by omega) hVl
          obtain ⟨g1, cap, hv, -, -, -, -, hcs⟩ := own_holds HO.out (by omega)
          cases hv
          have hil : n - (j + 1) < L.length := by rw [HN.out]; omega
          have hc1 := hcs (n - (j + 1)) (Ythgbnpafhkhjpaa.u8 L[n - (j + 1)]) (by rw [List.getElem?_map, List.getElem?_eq_getElem hil]; rfl)
          rw [Addr.add_lit, Nat.zero_add] at hc1
          unfold Ythgbnpafhkhjpaa.u8 at hc1
          simp only [HN.out] at hst
          have hxl := L[n - (j + 1)].toNat_lt
          obtain ⟨V, hVe⟩ : ∃ V, leV (L.drop (n - j)) = V := ⟨_, rfl⟩
          obtain ⟨x, hx⟩ : ∃ x, L[n - (j + 1)].toNat = x := ⟨_, rfl⟩
          rw [hVe, hx] at hst
          rw [hVe] at hV ⊢
          rw [hx] at hc1 hxl
          have HST := Lib.hid hst
          have hx0 : (0 : Int) ≤ x := by omega
          have hx1 : (x : Int) < 256 := by omega
          have hV0 : (0 : Int) ≤ V := by omega
          have hV1 : (V : Int) < 16777216 := by omega
          have htn : ((n : Int) - 1 - j).toNat = n - (j + 1) := by omega
          obtain ⟨y, hy⟩ : ∃ y : Int, (x : Int) = y := ⟨_, rfl⟩
          obtain ⟨Z, hZ⟩ : ∃ Z : Int, (V : Int) = Z := ⟨_, rfl⟩
          rw [hy] at hc1 hx0 hx1
          rw [hZ] at hV0 hV1 ⊢
          have HY := Lib.hid hy
          have HZ := Lib.hid hZ
          clear hcs hVe hx hst hV hVl hV2 hxl hil hjl hy hZ
          go_wp2_with fail
          go_round
          case rel => exact ⟨j + 1, by omega, congrArg (Value.int .i64) (by rw [HST.out, ← HY.out, ← HZ.out]; omega), congrArg (Value.int .i64) (by omega)⟩
          case measure => simp [intOf]; omega
        · obtain rfl : j = n := by omega
          go_wp2_with fail
          go_ret2
          refine ⟨?_, HB.out⟩
          simp
    · have g2 : 4 < k := by simpa using q2
      rw [r1 (.inr g2), show rN 2 (takeN k) = 0 from rfl, cut_zero]
      clear r1 r2 r3 h hm2 hm hp g1 g2 h53 hlen
      go_enter Try.func52, Try.ntmps52
      go_wp2_with fail
      go_ret2
      exact ⟨rfl, Below.refl _ _⟩
  · have g1 : k < 1 := by simpa using q1
    rw [r1 (.inl g1), show rN 2 (takeN k) = 0 from rfl, cut_zero]
    clear r1 r2 r3 h hm2 hm hp g1 h53 hlen
    go_enter Try.func52, Try.ntmps52
    go_wp2_with fail
    go_ret2
    exact ⟨rfl, Below.refl _ _⟩

theorem upTo_least (p n j : Nat) (hn : 1 ≤ n) (hj : j ≤ upTo p n) : (p + j) % n = 0 ↔ j = upTo p n := by
  obtain ⟨h1, h2⟩ := upTo_le p n hn
  constructor
  · intro h0
    obtain ⟨q, hq⟩ := Nat.dvd_of_mod_eq_zero h0
    by_cases hlt : j < upTo p n
    · exfalso
      have h3 : n * q < (p + n - 1) / n * n := by omega
      rw [Nat.mul_comm] at h3
      have h4 : q < (p + n - 1) / n := Nat.lt_of_mul_lt_mul_right h3
      have h5 : (q + 1) * n ≤ (p + n - 1) / n * n := Nat.mul_le_mul_right _ h4
      have h6 := Nat.div_mul_le_self (p + n - 1) n
      rw [Nat.add_mul, Nat.mul_comm q n] at h5
      omega
    · omega
  · rintro rfl
    rw [h2]
    exact Nat.mul_mod_left _ _
theorem true_mem_iff (bs : List Bool) (i : Nat) (h : ∀ j, j < i → bs.getD j false = false) (hi : bs.length ≤ i) : true ∉ bs := by
  intro hm
  obtain ⟨j, hj, e⟩ := List.getElem_of_mem hm
  have := h j (by omega)
  rw [getD_get _ _ _ hj, e] at this
  cases this

set_option maxRecDepth 100000 in
set_option maxHeartbeats 2000000 in
theorem rpad_ref (A : Option Addr) (c p : Nat) (l : List UInt8) (n : Int) (w : World) (h : RB w A (8 * l.length) c (ubits l)) (hm : l.length ≤ 1000) (hp : p ≤ 8 * l.length) :
    Calls Try.prog 55 #[.slice A (8 * l.length : Nat) c, .int .i64 p, .int .i64 n] w fun e w' => e = .returned (.tuple #[.int .i64 ((p + padN l p n : Nat) : Int), .int .i64 (padE l p n)]) ∧ w = w' := by
  have bad : alignOk n = false → padE l p n = 2 ∧ padN l p n = 0 := fun hd => by
    have h0 : rE l p (padC n) (alignN p n) = 2 := by simp [rE, padC, hd, firstE]
    have h1 : padE l p n = 2 := by unfold padE; rw [h0]; rfl
    exact ⟨h1, by unfold padN; rw [h1]; rfl⟩
  obtain ⟨m, hm2⟩ : ∃ m, 8 * l.length = m := ⟨_, rfl⟩
  rw [hm2] at h hp ⊢
  cases q1 : decide (n < 1)
  · have g1 : 1 ≤ n := by simpa using q1
    cases q2 : decide (4096 < n)
    · have g2 : n ≤ 4096 := by simpa using q2
      obtain ⟨k, rfl⟩ := Int.eq_ofNat_of_zero_le (show 0 ≤ n by omega)
      have hok : alignOk (k : Int) = true := by unfold alignOk; simp; omega
      have hal : alignN p (k : Int) = upTo p k := by unfold alignN; rw [if_pos hok, Int.toNat_natCast]
      obtain ⟨u1, u2⟩ := upTo_le p k (by omega)
      have hle := fun j hj => upTo_least p k j (by omega) hj
      obtain ⟨u, hu⟩ : ∃ u, upTo p k = u := ⟨_, rfl⟩
      rw [hu] at hal u1 u2 hle
      have fits : p + u ≤ m → Calls Try.prog 54 #[.slice A m c, .int .i64 p, .int .i64 u] w fun e w' => ReadR u (cut l p u) w e ∧ w = w' := fun hf => by
        rw [← cut_ubits l p u (by omega)]
        exact rread_rb A m c p u _ w h (by omega) hf
      have short : m < p + u → Calls Try.prog 54 #[.slice A m c, .int .i64 p, .int .i64 u] w fun e w' => e = .returned (.tuple #[.slice none 0 0, .int .i64 4]) ∧ w = w' := fun hf => rread_short A m c p u w (by omega) hp (by omega)
      have hres : (m < p + u → padE l p k = 4) ∧ (p + u ≤ m → true ∈ cut l p u → padE l p k = 6) ∧ (p + u ≤ m → true ∉ cut l p u → padE l p k = 0) := by
        have e0 : ∀ b : Bool, decide ((u : Int) ≤ ((8 * l.length : Nat) : Int) - p) = b → rE l p (padC k) (alignN p k) = if b then 0 else 4 := fun b hb => by
          unfold rE padC
          rw [hok, hal, hb]
          cases b <;> rfl
        refine ⟨fun h => ?_, fun h1 h2 => ?_, fun h1 h2 => ?_⟩
        · have := e0 false (by simp; omega)
          unfold padE; rw [this]; rfl
        · have := e0 true (by simp; omega)
          unfold padE; rw [this, hal, if_pos h2]; rfl
        · have := e0 true (by simp; omega)
          unfold padE; rw [this, hal, if_neg h2]; rfl
      have hresN : padN l p k = if padE l p k = 0 then u else 0 := by unfold padN; rw [hal]
      have HLE := Lib.hid hle
      have HF := Lib.hid fits
      have HSH := Lib.hid short
      have HRES := Lib.hid hres
      have HRN := Lib.hid hresN
      have hp0 : (0 : Int) ≤ p := by omega
      have hpm : (p : Int) ≤ 8000 := by omega
      have hu1 : u < k := u1
      clear h hok hal u1 u2 hle fits short hres hresN hu bad hm2 hm
      go_enter Try.func55, Try.ntmps55
      go_wp2_with fail
      clear q1 q2
      go_loop [8] (fun tt => ∃ j : Nat, (j : Int) ≤ u ∧ tt = .int .i64 ((p : Int) + j)) (fun tt => (p + u - intOf tt).toNat)
      case atStart => exact ⟨0, by omega, by simp⟩
      case round =>
        obtain ⟨j, hj, rfl⟩ := hrel
        have hiff := HLE.out j (by omega)
        by_cases hlt : (j : Int) < u
        · have qq : (((p : Int) + j) % k != 0) = true := by
            rw [show (p : Int) + j = ((p + j : Nat) : Int) by omega, ← Int.natCast_emod, bne_iff_ne]
            intro e
            have := hiff.1 (Int.ofNat.inj e)
            omega
          clear hiff
          go_wp2_with fail
          go_round
          case rel => exact ⟨j + 1, by omega, congrArg (Value.int .i64) (by omega)⟩
          case measure => simp [intOf]; omega
        · obtain rfl : j = u := by omega
          have qq : (((p : Int) + j) % k != 0) = false := by
            have := hiff.2 rfl
            rw [show (p : Int) + j = ((p + j : Nat) : Int) by omega, ← Int.natCast_emod, this]
            rfl
          have hsub : (p : Int) + j - p = j := by omega
          clear hiff hlt hj
          by_cases hf : p + j ≤ m
          · have C54 := Lib.hid (HF.out hf)
            have hj0 : (0 : Int) ≤ j := by omega
            have hj1 : (j : Int) < 4096 := by omega
            go_wp2_with (first | (go_at_call 54; (with_reducible refine C54.out.mono ?_); rintro e w1 ⟨⟨A2, c2, rfl, rb2⟩, rfl⟩; have RB2 := Lib.hid rb2; clear rb2))
            clear qq C54
            go_loop [11] (fun tt => ∃ i : Nat, (i : Int) ≤ j ∧ tt = .int .i64 i ∧ Hid (∀ q, q < i → (cut l p j).getD q false = false)) (fun tt => (j - intOf tt).toNat)
            case atStart => exact ⟨0, by omega, rfl, Lib.hid (fun q hq => absurd hq (Nat.not_lt_zero q))⟩
            case round =>
              obtain ⟨i, hi, rfl, HA⟩ := hrel
              have hi0 : (0 : Int) ≤ i := by omega
              by_cases hlt : (i : Int) < j
              · have hil : i < (cut l p j).length := by rw [cut_length]; omega
                obtain ⟨b, o, rfl, hc1⟩ := bs_cell RB2.out.h (by omega) (show ((cut l p j).map Value.bool)[i]? = some (Value.bool (cut l p j)[i]) by rw [List.getElem?_map, List.getElem?_eq_getElem hil]; rfl)
                have hg := getD_get (cut l p j) i false hil
                have hmem := List.getElem_mem hil
                cases hb : (cut l p j)[i]
                · rw [hb] at hc1 hg
                  have HA2 := Lib.hid (show ∀ q, q < i + 1 → (cut l p j).getD q false = false from fun q hq => by
                    rcases Nat.lt_succ_iff_lt_or_eq.1 hq with h | rfl
                    · exact HA.out q h
                    · exact hg)
                  clear hb hg hmem
                  go_wp2_with fail
                  go_round
                  case rel => exact ⟨i + 1, by omega, by go_num, HA2⟩
                  case measure => simp [intOf]; omega
                · rw [hb] at hc1 hmem
                  have hr := Lib.hid (HRES.out.2.1 hf hmem)
                  clear hb hg hmem
                  go_wp2_with fail
                  go_ret2
                  have hr2 := HRN.out
                  rw [hr.out] at hr2
                  exact ⟨by rw [hr2, hr.out]; rfl, rfl⟩
              · have hno := true_mem_iff (cut l p j) i HA.out (by rw [cut_length]; omega)
                have hr := Lib.hid (HRES.out.2.2 hf hno)
                clear hno
                go_wp2_with fail
                go_ret2
                have hr2 := HRN.out
                rw [hr.out] at hr2
                exact ⟨by rw [hr2, hr.out]; simp, rfl⟩
          · have C54 := Lib.hid (HSH.out (by omega))
            have hr := Lib.hid (HRES.out.1 (by omega))
            clear hf
            go_wp2_with (first | (go_at_call 54; (with_reducible refine C54.out.mono ?_); rintro e w1 ⟨rfl, rfl⟩))
            go_ret2
            have hr2 := HRN.out
            rw [hr.out] at hr2
            exact ⟨by rw [hr2, hr.out]; rfl, rfl⟩
    · have g2 : 4096 < n := by simpa using q2
      obtain ⟨b1, b2⟩ := bad (by unfold alignOk; simp; omega)
      rw [b1, b2]
      clear b1 b2 bad h hm2 hm hp g1 g2
      go_enter Try.func55, Try.ntmps55
      go_wp2_with fail
      go_ret2
      exact ⟨rfl, rfl⟩
  · have g1 : n < 1 := by simpa using q1
    obtain ⟨b1, b2⟩ := bad (by unfold alignOk; simp; omega)
    rw [b1, b2]
    clear b1 b2 bad h hm2 hm hp g1
    go_enter Try.func55, Try.ntmps55
    go_wp2_with fail
    go_ret2
    exact ⟨rfl, rfl⟩
end Go.Proofs.Ythgbnpafhkhjpaa

namespace Go.Proofs.Ythgbnpafhkhjpaa
open Go.RowKit
set_option linter.unusedVariables false
set_option linter.unusedSimpArgs false

/-- A call of a reader at a place: its error, by how much it moves, its number, its bytes. -/
def rdE (l : List UInt8) (p : Nat) (X : ActV) : Int := if X.k % 5 = 0 then rE l p (getC X.n) X.n else if X.k % 5 = 1 then rE l p (takeC X.n 1 4 p) (takeN X.n) else if X.k % 5 = 2 then rE l p (takeC X.n 0 X.n p) (takeN X.n) else if X.k % 5 = 3 then rE l p (skipC X.n) X.n else padE l p X.n
def rdN (l : List UInt8) (p : Nat) (X : ActV) : Nat := if X.k % 5 = 0 then rN (rE l p (getC X.n) X.n) X.n else if X.k % 5 = 1 then rN (rE l p (takeC X.n 1 4 p) (takeN X.n)) (takeN X.n) else if X.k % 5 = 2 then rN (rE l p (takeC X.n 0 X.n p) (takeN X.n)) (takeN X.n) else if X.k % 5 = 3 then rN (rE l p (skipC X.n) X.n) X.n else padN l p X.n
def rdV (l : List UInt8) (p : Nat) (X : ActV) : Nat := if X.k % 5 = 0 then bitsV (cut l p (rN (rE l p (getC X.n) X.n) X.n)) else if X.k % 5 = 1 then leV (pack (cut l p (rN (rE l p (takeC X.n 1 4 p) (takeN X.n)) (takeN X.n)))) else 0
def rdB (l : List UInt8) (p : Nat) (X : ActV) : List UInt8 := if X.k % 5 = 2 then pack (cut l p (rN (rE l p (takeC X.n 0 X.n p) (takeN X.n)) (takeN X.n))) else []
theorem rd0 {l : List UInt8} {p : Nat} {X : ActV} (h : X.k % 5 = 0) : rdE l p X = rE l p (getC X.n) X.n ∧ rdN l p X = rN (rE l p (getC X.n) X.n) X.n ∧ rdV l p X = bitsV (cut l p (rN (rE l p (getC X.n) X.n) X.n)) ∧ rdB l p X = [] := ⟨by unfold rdE; rw [if_pos h], by unfold rdN; rw [if_pos h], by unfold rdV; rw [if_pos h], by unfold rdB; rw [if_neg (by omega)]⟩
theorem rd1 {l : List UInt8} {p : Nat} {X : ActV} (h : X.k % 5 = 1) : rdE l p X = rE l p (takeC X.n 1 4 p) (takeN X.n) ∧ rdN l p X = rN (rE l p (takeC X.n 1 4 p) (takeN X.n)) (takeN X.n) ∧ rdV l p X = leV (pack (cut l p (rN (rE l p (takeC X.n 1 4 p) (takeN X.n)) (takeN X.n)))) ∧ rdB l p X = [] := ⟨by unfold rdE; rw [if_neg (by omega), if_pos h], by unfold rdN; rw [if_neg (by omega), if_pos h], by unfold rdV; rw [if_neg (by omega), if_pos h], by unfold rdB; rw [if_neg (by omega)]⟩
theorem rd2 {l : List UInt8} {p : Nat} {X : ActV} (h : X.k % 5 = 2) : rdE l p X = rE l p (takeC X.n 0 X.n p) (takeN X.n) ∧ rdN l p X = rN (rE l p (takeC X.n 0 X.n p) (takeN X.n)) (takeN X.n) ∧ rdV l p X = 0 ∧ rdB l p X = pack (cut l p (rN (rE l p (takeC X.n 0 X.n p) (takeN X.n)) (takeN X.n))) := ⟨by unfold rdE; rw [if_neg (by omega), if_neg (by omega), if_pos h], by unfold rdN; rw [if_neg (by omega), if_neg (by omega), if_pos h], by unfold rdV; rw [if_neg (by omega), if_neg (by omega)], by unfold rdB; rw [if_pos h]⟩
theorem rd3 {l : List UInt8} {p : Nat} {X : ActV} (h : X.k % 5 = 3) : rdE l p X = rE l p (skipC X.n) X.n ∧ rdN l p X = rN (rE l p (skipC X.n) X.n) X.n ∧ rdV l p X = 0 ∧ rdB l p X = [] := ⟨by unfold rdE; rw [if_neg (by omega), if_neg (by omega), if_neg (by omega), if_pos h], by unfold rdN; rw [if_neg (by omega), if_neg (by omega), if_neg (by omega), if_pos h], by unfold rdV; rw [if_neg (by omega), if_neg (by omega)], by unfold rdB; rw [if_neg (by omega)]⟩
theorem rd4 {l : List UInt8} {p : Nat} {X : ActV} (h : X.k % 5 = 4) : rdE l p X = padE l p X.n ∧ rdN l p X = padN l p X.n ∧ rdV l p X = 0 ∧ rdB l p X = [] := ⟨by unfold rdE; rw [if_neg (by omega), if_neg (by omega), if_neg (by omega), if_neg (by omega)], by unfold rdN; rw [if_neg (by omega), if_neg (by omega), if_neg (by omega), if_neg (by omega)], by unfold rdV; rw [if_neg (by omega), if_neg (by omega)], by unfold rdB; rw [if_neg (by omega)]⟩

/-- The ends of a call of a reader. -/
def RdQ (B g : Nat) (rv : Value) (l : List UInt8) (p : Nat) (X : ActV) (w : World) (x : Int) (u : Value) (E : Int) (w' : World) : Prop :=
  x = rdV l p X ∧ E = rdE l p X ∧ w'.ownsRow w.heap.size 5 1 u (rdB l p X).length ((rdB l p X).map u8) ∧ RS w' B g rv l (p + rdN l p X) ∧ Two g (.slice none 0 0) w w'

theorem lread_rs (B g : Nat) (rv : Value) (l : List UInt8) (p : Nat) (X : ActV) (w : World) (hr : RS w B g rv l p) (h0 : 0 ≤ X.k) (h1 : X.k < 256) :
    Calls Try.prog 27 #[.pointer (some ⟨g, 0, none⟩), .agg #[.int .u8 X.k, .int .i64 X.v, .int .i64 X.n, .slice X.A X.m X.c]] w fun e w' => ∃ x u E, e = .returned (.tuple #[.int .i64 x, u, .int .i64 E]) ∧ RdQ B g rv l p X w x u E w' := by
  refine lread_of _ _ _ _ _ _ _ _ w h0 h1 (fun W hb => (get_some B g rv l p X.n W (hr.below hb (Nat.le_refl _))).mono ?_) (fun W hb => (rlittle_some B g rv l p X.n W (hr.below hb (Nat.le_refl _))).mono ?_) (fun W hb => (rtake_some B g rv l p X.n W (hr.below hb (Nat.le_refl _))).mono ?_) (fun W hb => (skip_some B g rv l p X.n W (hr.below hb (Nat.le_refl _))).mono ?_) (fun W hb => (pad_some B g rv l p X.n W (hr.below hb (Nat.le_refl _))).mono ?_)
  · rintro e w' ⟨rfl, k1, k2⟩
    refine ⟨_, _, rfl, fun h => ?_⟩
    obtain ⟨e1, e2, e3, e4⟩ := rd0 (l := l) (p := p) h
    exact ⟨by rw [e3], by rw [e1], by rw [e4]; exact World.ownsRow_nil _ _ 5 1, by rw [e2]; exact k1, Two.of_below hb k2⟩
  · rintro e w' ⟨rfl, k1, k2⟩
    refine ⟨_, _, rfl, fun h => ?_⟩
    obtain ⟨e1, e2, e3, e4⟩ := rd1 (l := l) (p := p) h
    exact ⟨by rw [e3], by rw [e1], by rw [e4]; exact World.ownsRow_nil _ _ 5 1, by rw [e2]; exact k1, Two.of_below hb k2⟩
  · rintro e w' ⟨v', rfl, ho, k1, k2⟩
    obtain ⟨A2, c2, rfl, -⟩ := own_form ho
    refine ⟨_, _, _, _, rfl, fun h => ?_⟩
    obtain ⟨e1, e2, e3, e4⟩ := rd2 (l := l) (p := p) h
    exact ⟨by rw [e3]; rfl, by rw [e1], by rw [e4, pack_length, cut_length]; exact own_base ho hb.size, by rw [e2]; exact k1, Two.of_below hb k2⟩
  · rintro e w' ⟨rfl, k1, k2⟩
    refine ⟨_, rfl, fun h => ?_⟩
    obtain ⟨e1, e2, e3, e4⟩ := rd3 (l := l) (p := p) h
    exact ⟨by rw [e3]; rfl, by rw [e1], by rw [e4]; exact World.ownsRow_nil _ _ 5 1, by rw [e2]; exact k1, Two.of_below hb k2⟩
  · rintro e w' ⟨rfl, k1, k2⟩
    refine ⟨_, rfl, fun h => ?_⟩
    obtain ⟨e1, e2, e3, e4⟩ := rd4 (l := l) (p := p) h
    exact ⟨by rw [e3]; rfl, by rw [e1], by rw [e4]; exact World.ownsRow_nil _ _ 5 1, by rw [e2]; exact k1, Two.of_below hb k2⟩

theorem results_tmp4 {fn : Func} {t u v x : Tmp} (h : fn.results = #[.tmp t, .tmp u, .tmp v, .tmp x]) (tmps : Array Value) (P : Program) (w : World) :
    (results fn tmps).run P w = .ok (.tuple #[tmps.getD t undef, tmps.getD u undef, tmps.getD v undef, tmps.getD x undef]) w := by simp [results, h]
def RdR (l : List UInt8) (p : Nat) (X : ActV) (w : World) (e : Ending) (w' : World) : Prop := ∃ u, e = .returned (.tuple #[.int .i64 ((p + rdN l p X : Nat) : Int), .int .i64 (rdV l p X), u, .int .i64 (rdE l p X)]) ∧ w'.ownsRow w.heap.size 5 1 u (rdB l p X).length ((rdB l p X).map u8) ∧ Below w.heap.size w w'
theorem rskip_ref (A : Option Addr) (c p : Nat) (l : List UInt8) (n : Int) (w : World) (h : RB w A (8 * l.length) c (ubits l)) (hm : l.length ≤ 1000) (hp : p ≤ 8 * l.length) (hn : 0 ≤ n) :
    Calls Try.prog 54 #[.slice A (8 * l.length : Nat) c, .int .i64 p, .int .i64 n] w fun e w' => (∃ A2 n2 c2, e = .returned (.tuple #[.slice A2 n2 c2, .int .i64 (rE l p (skipC n) n)])) ∧ w = w' := by
  obtain ⟨n, rfl⟩ := Int.eq_ofNat_of_zero_le hn
  by_cases hs : p + n ≤ 8 * l.length
  · obtain ⟨f1, f2⟩ := skip_fine l p n hs
    refine (rread_rb A _ c p n _ w h (by omega) hs).mono ?_
    rintro e w' ⟨⟨A2, c2, rfl, -⟩, rfl⟩
    exact ⟨⟨_, _, _, by rw [f1]⟩, rfl⟩
  · have h4 : rE l p (skipC n) n = 4 := by
      have hd : decide ((n : Int) ≤ ((8 * l.length : Nat) : Int) - p) = false := by simp; omega
      have h0 : decide (0 ≤ (n : Int)) = true := by simp
      simp only [rE, skipC, hd, h0]
      rfl
    refine (rread_short A _ c p n w (by omega) hp (by omega)).mono ?_
    rintro e w' ⟨rfl, rfl⟩
    exact ⟨⟨_, _, _, by rw [h4]⟩, rfl⟩
theorem rN_place (l : List UInt8) (p : Nat) (cs : List (Bool × Int)) (cnt : Int) (hz : ∀ c ∈ cs, c.2 ≠ 0) (hp : p ≤ 8 * l.length) : p + rN (rE l p cs cnt) cnt ≤ 8 * l.length := by
  unfold rN
  split
  · rename_i h
    obtain ⟨_, f2⟩ := firstE_front ([(true, 1)] ++ cs) _ (by intro c hc; simp at hc; rcases hc with rfl | hc; simp; exact hz c hc) (show firstE _ = 0 from h)
    cases hd : decide (cnt ≤ ((8 * l.length : Nat) : Int) - p)
    · rw [hd] at f2; simp [firstE] at f2
    · simp at hd; omega
  · omega
end Go.Proofs.Ythgbnpafhkhjpaa

namespace Go.Proofs.Ythgbnpafhkhjpaa
open Go.RowKit
set_option linter.unusedVariables false
set_option linter.unusedSimpArgs false

/-- The ends of the walk: place, number, bytes, error. -/
def RdW (to V E : Int) (n : Nat) (xs : List Value) (w : World) (e : Ending) (w' : World) : Prop := ∃ u, e = .returned (.tuple #[.int .i64 to, .int .i64 V, u, .int .i64 E]) ∧ w'.ownsRow w.heap.size 5 1 u n xs ∧ Below w.heap.size w w'
set_option maxRecDepth 100000 in
set_option maxHeartbeats 1000000 in
theorem rwalk0 (A XA : Option Addr) (m c Xm Xc : Nat) (p K V0 N : Int) (V E : Int) (w : World) (h0 : 0 ≤ K) (hk : K % 5 = 0) (hp0 : 0 ≤ p) (hp1 : p ≤ 100000) (hE : E = 0 → 0 ≤ N ∧ p + N ≤ 100000)
    (h : ∀ W, Below w.heap.size w W → Calls Try.prog 51 #[.slice A m c, .int .i64 p, .int .i64 N] W fun e w' => e = .returned (.tuple #[.int .i64 V, .int .i64 E]) ∧ W = w') :
    Calls Try.prog 28 #[.slice A m c, .int .i64 p, .agg #[.int .u8 K, .int .i64 V0, .int .i64 N, .slice XA Xm Xc]] w fun e w' => RdW (if E = 0 then p + N else p) V E 0 [] w e w' := by
  have hb : Below w.heap.size w (w.alloc (.cells #[.int .u8 K, .int .i64 V0, .int .i64 N, .slice XA Xm Xc] 41)) := (Below.refl _ w).alloc (Nat.le_refl _) _
  have hr : K.tmod 5 = K % 5 := Int.tmod_eq_emod_of_nonneg h0
  have kb := Blk.new w 41 #[.int .u8 K, .int .i64 V0, .int .i64 N, .slice XA Xm Xc]
  have HB := Lib.hid hb
  have C := Lib.hid (h _ hb)
  have q0 : (K % 5 == 0) = true := by simp <;> omega
  clear h hb hk
  by_cases hz : E = 0
  · obtain ⟨b1, b2⟩ := hE hz
    rw [if_pos hz]
    subst hz
    clear hE
    go_enter Try.func28, Try.ntmps28
    go_wp2_with (first | (go_at_call 51; (with_reducible refine C.out.mono ?_); rintro e w1 ⟨rfl, rfl⟩))
    refine bodyPost_ret (results_tmp4 rfl _ _ _) rfl ⟨_, rfl, World.ownsRow_nil _ _ 5 1, HB.out⟩
  · have hz' : (E == 0) = false := by simpa using hz
    rw [if_neg hz]
    clear hE hz
    go_enter Try.func28, Try.ntmps28
    go_wp2_with (first | (go_at_call 51; (with_reducible refine C.out.mono ?_); rintro e w1 ⟨rfl, rfl⟩))
    refine bodyPost_ret (results_tmp4 rfl _ _ _) rfl ⟨_, rfl, World.ownsRow_nil _ _ 5 1, HB.out⟩
set_option maxRecDepth 100000 in
set_option maxHeartbeats 1000000 in
theorem rwalk1 (A XA : Option Addr) (m c Xm Xc : Nat) (p K V0 N : Int) (V E : Int) (w : World) (h0 : 0 ≤ K) (hk : K % 5 = 1) (hp0 : 0 ≤ p) (hp1 : p ≤ 100000) (hE : E = 0 → 0 ≤ N ∧ p + 8 * N ≤ 100000)
    (h : ∀ W, Below w.heap.size w W → Calls Try.prog 52 #[.slice A m c, .int .i64 p, .int .i64 N] W fun e w' => e = .returned (.tuple #[.int .i64 V, .int .i64 E]) ∧ Below W.heap.size W w') :
    Calls Try.prog 28 #[.slice A m c, .int .i64 p, .agg #[.int .u8 K, .int .i64 V0, .int .i64 N, .slice XA Xm Xc]] w fun e w' => RdW (if E = 0 then p + 8 * N else p) V E 0 [] w e w' := by
  have hb : Below w.heap.size w (w.alloc (.cells #[.int .u8 K, .int .i64 V0, .int .i64 N, .slice XA Xm Xc] 41)) := (Below.refl _ w).alloc (Nat.le_refl _) _
  have hr : K.tmod 5 = K % 5 := Int.tmod_eq_emod_of_nonneg h0
  have kb := Blk.new w 41 #[.int .u8 K, .int .i64 V0, .int .i64 N, .slice XA Xm Xc]
  have HB := Lib.hid hb
  have C := Lib.hid (h _ hb)
  have q0 : (K % 5 == 0) = false := by simp <;> omega
  have q1 : (K % 5 == 1) = true := by simp <;> omega
  clear h hb hk
  by_cases hz : E = 0
  · obtain ⟨b1, b2⟩ := hE hz
    rw [if_pos hz]
    subst hz
    clear hE
    go_enter Try.func28, Try.ntmps28
    go_wp2_with (first | (go_at_call 52; (with_reducible refine C.out.mono ?_); rintro e w1 ⟨rfl, b1⟩; have B1 := Lib.hid (HB.out.trans (b1.mono HB.out.size)); have K1 := kb.below b1 kb.lt; have c1 := K1.cell 2; simp only [List.getElem?_toArray, List.getElem?_cons_zero, List.getElem?_cons_succ] at c1; clear b1 K1))
    refine bodyPost_ret (results_tmp4 rfl _ _ _) rfl ⟨_, rfl, World.ownsRow_nil _ _ 5 1, B1.out⟩
  · have hz' : (E == 0) = false := by simpa using hz
    rw [if_neg hz]
    clear hE hz
    go_enter Try.func28, Try.ntmps28
    go_wp2_with (first | (go_at_call 52; (with_reducible refine C.out.mono ?_); rintro e w1 ⟨rfl, b1⟩; have B1 := Lib.hid (HB.out.trans (b1.mono HB.out.size)); have K1 := kb.below b1 kb.lt; have c1 := K1.cell 2; simp only [List.getElem?_toArray, List.getElem?_cons_zero, List.getElem?_cons_succ] at c1; clear b1 K1))
    refine bodyPost_ret (results_tmp4 rfl _ _ _) rfl ⟨_, rfl, World.ownsRow_nil _ _ 5 1, B1.out⟩
set_option maxRecDepth 100000 in
set_option maxHeartbeats 1000000 in
theorem rwalk2 (A XA : Option Addr) (m c Xm Xc : Nat) (p K V0 N : Int) (E : Int) (n : Nat) (L : List UInt8) (w : World) (h0 : 0 ≤ K) (hk : K % 5 = 2) (hp0 : 0 ≤ p) (hp1 : p ≤ 100000) (hE : E = 0 → 0 ≤ N ∧ p + 8 * N ≤ 100000)
    (h : ∀ W, Below w.heap.size w W → Calls Try.prog 53 #[.slice A m c, .int .i64 p, .int .i64 N] W fun e w' => TakeR W n L E e w') :
    Calls Try.prog 28 #[.slice A m c, .int .i64 p, .agg #[.int .u8 K, .int .i64 V0, .int .i64 N, .slice XA Xm Xc]] w fun e w' => RdW (if E = 0 then p + 8 * N else p) 0 E n (L.map u8) w e w' := by
  have hb : Below w.heap.size w (w.alloc (.cells #[.int .u8 K, .int .i64 V0, .int .i64 N, .slice XA Xm Xc] 41)) := (Below.refl _ w).alloc (Nat.le_refl _) _
  have hr : K.tmod 5 = K % 5 := Int.tmod_eq_emod_of_nonneg h0
  have kb := Blk.new w 41 #[.int .u8 K, .int .i64 V0, .int .i64 N, .slice XA Xm Xc]
  have HB := Lib.hid hb
  have C := Lib.hid (h _ hb)
  have q0 : (K % 5 == 0) = false := by simp <;> omega
  have q1 : (K % 5 == 1) = false := by simp <;> omega
  have q2 : (K % 5 == 2) = true := by simp <;> omega
  clear h hb hk
  by_cases hz : E = 0
  · obtain ⟨b1, b2⟩ := hE hz
    rw [if_pos hz]
    subst hz
    clear hE
    go_enter Try.func28, Try.ntmps28
    go_wp2_with (first | (go_at_call 53; (with_reducible refine C.out.mono ?_); rintro e w1 ⟨v1, rfl, ho, b1⟩; obtain ⟨A1, c1, rfl, -⟩ := own_form ho; have HO := Lib.hid (own_base ho HB.out.size); have B1 := Lib.hid (HB.out.trans (b1.mono HB.out.size)); have K1 := kb.below b1 kb.lt; have d1 := K1.cell 2; simp only [List.getElem?_toArray, List.getElem?_cons_zero, List.getElem?_cons_succ] at d1; clear b1 K1 ho))
    refine bodyPost_ret (results_tmp4 rfl _ _ _) rfl ⟨_, rfl, HO.out, B1.out⟩
  · have hz' : (E == 0) = false := by simpa using hz
    rw [if_neg hz]
    clear hE hz
    go_enter Try.func28, Try.ntmps28
    go_wp2_with (first | (go_at_call 53; (with_reducible refine C.out.mono ?_); rintro e w1 ⟨v1, rfl, ho, b1⟩; obtain ⟨A1, c1, rfl, -⟩ := own_form ho; have HO := Lib.hid (own_base ho HB.out.size); have B1 := Lib.hid (HB.out.trans (b1.mono HB.out.size)); have K1 := kb.below b1 kb.lt; have d1 := K1.cell 2; simp only [List.getElem?_toArray, List.getElem?_cons_zero, List.getElem?_cons_succ] at d1; clear b1 K1 ho))
    refine bodyPost_ret (results_tmp4 rfl _ _ _) rfl ⟨_, rfl, HO.out, B1.out⟩
set_option maxRecDepth 100000 in
set_option maxHeartbeats 1000000 in
theorem rwalk3 (A XA : Option Addr) (m c Xm Xc : Nat) (p K V0 N : Int) (E : Int) (w : World) (h0 : 0 ≤ K) (hk : K % 5 = 3) (hp0 : 0 ≤ p) (hp1 : p ≤ 100000) (hE : E = 0 → 0 ≤ N ∧ p + N ≤ 100000) (hn : 0 ≤ N)
    (h : ∀ W, Below w.heap.size w W → Calls Try.prog 54 #[.slice A m c, .int .i64 p, .int .i64 N] W fun e w' => (∃ A2 n2 c2, e = .returned (.tuple #[.slice A2 n2 c2, .int .i64 E])) ∧ W = w') :
    Calls Try.prog 28 #[.slice A m c, .int .i64 p, .agg #[.int .u8 K, .int .i64 V0, .int .i64 N, .slice XA Xm Xc]] w fun e w' => RdW (if E = 0 then p + N else p) 0 E 0 [] w e w' := by
  have hb : Below w.heap.size w (w.alloc (.cells #[.int .u8 K, .int .i64 V0, .int .i64 N, .slice XA Xm Xc] 41)) := (Below.refl _ w).alloc (Nat.le_refl _) _
  have hr : K.tmod 5 = K % 5 := Int.tmod_eq_emod_of_nonneg h0
  have kb := Blk.new w 41 #[.int .u8 K, .int .i64 V0, .int .i64 N, .slice XA Xm Xc]
  have HB := Lib.hid hb
  have C := Lib.hid (h _ hb)
  have q0 : (K % 5 == 0) = false := by simp <;> omega
  have q1 : (K % 5 == 1) = false := by simp <;> omega
  have q2 : (K % 5 == 2) = false := by simp <;> omega
  have q3 : (K % 5 == 3) = true := by simp <;> omega
  have q9 : decide (N < 0) = false := by simpa using hn
  clear h hb hk
  by_cases hz : E = 0
  · obtain ⟨b1, b2⟩ := hE hz
    rw [if_pos hz]
    subst hz
    clear hE
    go_enter Try.func28, Try.ntmps28
    go_wp2_with (first | (go_at_call 54; (with_reducible refine C.out.mono ?_); rintro e w1 ⟨⟨A2, n2, c2, rfl⟩, rfl⟩))
    refine bodyPost_ret (results_tmp4 rfl _ _ _) rfl ⟨_, rfl, World.ownsRow_nil _ _ 5 1, HB.out⟩
  · have hz' : (E == 0) = false := by simpa using hz
    rw [if_neg hz]
    clear hE hz
    go_enter Try.func28, Try.ntmps28
    go_wp2_with (first | (go_at_call 54; (with_reducible refine C.out.mono ?_); rintro e w1 ⟨⟨A2, n2, c2, rfl⟩, rfl⟩))
    refine bodyPost_ret (results_tmp4 rfl _ _ _) rfl ⟨_, rfl, World.ownsRow_nil _ _ 5 1, HB.out⟩
set_option maxRecDepth 100000 in
set_option maxHeartbeats 1000000 in
theorem rwalk4 (A XA : Option Addr) (m c Xm Xc : Nat) (p K V0 N : Int) (to E : Int) (w : World) (h0 : 0 ≤ K) (hk : K % 5 = 4) (hp0 : 0 ≤ p) (hp1 : p ≤ 100000) 
    (h : ∀ W, Below w.heap.size w W → Calls Try.prog 55 #[.slice A m c, .int .i64 p, .int .i64 N] W fun e w' => e = .returned (.tuple #[.int .i64 to, .int .i64 E]) ∧ W = w') :
    Calls Try.prog 28 #[.slice A m c, .int .i64 p, .agg #[.int .u8 K, .int .i64 V0, .int .i64 N, .slice XA Xm Xc]] w fun e w' => RdW to 0 E 0 [] w e w' := by
  have hb : Below w.heap.size w (w.alloc (.cells #[.int .u8 K, .int .i64 V0, .int .i64 N, .slice XA Xm Xc] 41)) := (Below.refl _ w).alloc (Nat.le_refl _) _
  have hr : K.tmod 5 = K % 5 := Int.tmod_eq_emod_of_nonneg h0
  have kb := Blk.new w 41 #[.int .u8 K, .int .i64 V0, .int .i64 N, .slice XA Xm Xc]
  have HB := Lib.hid hb
  have C := Lib.hid (h _ hb)
  have q0 : (K % 5 == 0) = false := by simp <;> omega
  have q1 : (K % 5 == 1) = false := by simp <;> omega
  have q2 : (K % 5 == 2) = false := by simp <;> omega
  have q3 : (K % 5 == 3) = false := by simp <;> omega
  clear h hb hk
  go_enter Try.func28, Try.ntmps28
  go_wp2_with (first | (go_at_call 55; (with_reducible refine C.out.mono ?_); rintro e w1 ⟨rfl, rfl⟩))
  refine bodyPost_ret (results_tmp4 rfl _ _ _) rfl ⟨_, rfl, World.ownsRow_nil _ _ 5 1, HB.out⟩

set_option maxRecDepth 100000 in
set_option maxHeartbeats 1000000 in
theorem rwalk3n (A XA : Option Addr) (m c Xm Xc : Nat) (p K V0 N : Int) (w : World) (h0 : 0 ≤ K) (hk : K % 5 = 3) (hn : N < 0) :
    Calls Try.prog 28 #[.slice A m c, .int .i64 p, .agg #[.int .u8 K, .int .i64 V0, .int .i64 N, .slice XA Xm Xc]] w fun e w' => RdW p 0 2 0 [] w e w' := by
  have hb : Below w.heap.size w (w.alloc (.cells #[.int .u8 K, .int .i64 V0, .int .i64 N, .slice XA Xm Xc] 41)) := (Below.refl _ w).alloc (Nat.le_refl _) _
  have hr : K.tmod 5 = K % 5 := Int.tmod_eq_emod_of_nonneg h0
  have HB := Lib.hid hb
  have q0 : (K % 5 == 0) = false := by simp <;> omega
  have q1 : (K % 5 == 1) = false := by simp <;> omega
  have q2 : (K % 5 == 2) = false := by simp <;> omega
  have q3 : (K % 5 == 3) = true := by simp <;> omega
  have q9 : decide (N < 0) = true := by simpa using hn
  clear hb hk hn
  go_enter Try.func28, Try.ntmps28
  go_wp2_with fail
  refine bodyPost_ret (results_tmp4 rfl _ _ _) rfl ⟨_, rfl, World.ownsRow_nil _ _ 5 1, HB.out⟩

theorem rd_place {l : List UInt8} {p : Nat} {X : ActV} (hp : p ≤ 8 * l.length) (h0 : 0 ≤ X.k) : p + rdN l p X ≤ 8 * l.length := by
  rcases (show X.k % 5 = 0 ∨ X.k % 5 = 1 ∨ X.k % 5 = 2 ∨ X.k % 5 = 3 ∨ X.k % 5 = 4 by omega) with h | h | h | h | h
  · rw [(rd0 (l := l) (p := p) h).2.1]; exact rN_place l p _ _ (by intro c hc; simp [getC] at hc; subst hc; simp) hp
  · rw [(rd1 (l := l) (p := p) h).2.1]; exact rN_place l p _ _ (takeC_nz _ _ _ _) hp
  · rw [(rd2 (l := l) (p := p) h).2.1]; exact rN_place l p _ _ (takeC_nz _ _ _ _) hp
  · rw [(rd3 (l := l) (p := p) h).2.1]; exact rN_place l p _ _ (by intro c hc; simp [skipC] at hc; subst hc; simp) hp
  · rw [(rd4 (l := l) (p := p) h).2.1]
    unfold padN
    split
    · rename_i h0
      unfold padE at h0
      split at h0
      · rename_i h1
        have := rN_place l p (padC X.n) (alignN p X.n) (by intro c hc; simp [padC] at hc; subst hc; simp) hp
        unfold rN at this
        rw [if_pos h1] at this
        simpa using this
      · rename_i h1; exact absurd h0 h1
    · omega
theorem rE_ok {l : List UInt8} {p : Nat} {cs : List (Bool × Int)} {cnt : Int} (hz : ∀ c ∈ cs, c.2 ≠ 0) (h : rE l p cs cnt = 0) : firstE cs = 0 ∧ (p : Int) + cnt ≤ ((8 * l.length : Nat) : Int) := by
  obtain ⟨f1, f2⟩ := firstE_front ([(true, 1)] ++ cs) _ (by intro c hc; simp at hc; rcases hc with rfl | hc; simp; exact hz c hc) (show firstE _ = 0 from h)
  refine ⟨f1, ?_⟩
  cases hd : decide (cnt ≤ ((8 * l.length : Nat) : Int) - p)
  · rw [hd] at f2; simp [firstE] at f2
  · simp at hd; omega
theorem rN_if (E cnt p : Int) (h : E = 0 → 0 ≤ cnt) : (if E = 0 then p + cnt else p) = p + (rN E cnt : Int) := by
  unfold rN
  split
  · rename_i h0
    have := h h0
    omega
  · simp
theorem RdW.to {l : List UInt8} {p : Nat} {X : ActV} {to V E : Int} {n : Nat} {xs : List Value} {w w' : World} {e : Ending} (h : RdW to V E n xs w e w') (h1 : to = ((p + rdN l p X : Nat) : Int)) (h2 : V = rdV l p X) (h3 : E = rdE l p X) (h4 : n = (rdB l p X).length) (h5 : xs = (rdB l p X).map u8) : RdR l p X w e w' := by
  subst h1 h2 h3 h4 h5
  exact h
theorem reading_any (A : Option Addr) (c p : Nat) (l : List UInt8) (X : ActV) (w : World) (h : RB w A (8 * l.length) c (ubits l)) (hm : l.length ≤ 1000) (hp : p ≤ 8 * l.length) (h0 : 0 ≤ X.k) :
    Calls Try.prog 28 #[.slice A (8 * l.length : Nat) c, .int .i64 p, .agg #[.int .u8 X.k, .int .i64 X.v, .int .i64 X.n, .slice X.A X.m X.c]] w fun e w' => RdR l p X w e w' := by
  have hpl := rd_place (X := X) hp h0
  rcases (show X.k % 5 = 0 ∨ X.k % 5 = 1 ∨ X.k % 5 = 2 ∨ X.k % 5 = 3 ∨ X.k % 5 = 4 by omega) with hk | hk | hk | hk | hk
  · obtain ⟨e1, e2, e3, e4⟩ := rd0 (l := l) (p := p) hk
    have hz : ∀ c ∈ getC X.n, c.2 ≠ 0 := by intro c hc; simp [getC] at hc; subst hc; simp
    have hok : rE l p (getC X.n) X.n = 0 → 0 ≤ X.n ∧ (p : Int) + X.n ≤ 100000 := fun hE => by
      obtain ⟨f1, f2⟩ := rE_ok hz hE
      have : (decide (1 ≤ X.n) && decide (X.n ≤ 32)) = true := by
        cases hd : (decide (1 ≤ X.n) && decide (X.n ≤ 32))
        · simp [getC, hd, firstE] at f1
        · rfl
      simp at this
      omega
    refine (rwalk0 A X.A (8 * l.length) c X.m X.c p X.k X.v X.n _ _ w h0 hk (by omega) (by omega) hok (fun W hb => rget_any A c p l X.n W (h.keep hb) hm hp)).mono fun e w' hr => hr.to ?_ ?_ ?_ ?_ ?_
    · rw [e2, rN_if _ _ _ (fun h => (hok h).1)]; simp
    · rw [e3]
    · rw [e1]
    · rw [e4]; rfl
    · rw [e4]; rfl
  · obtain ⟨e1, e2, e3, e4⟩ := rd1 (l := l) (p := p) hk
    have hok : rE l p (takeC X.n 1 4 p) (takeN X.n) = 0 → 0 ≤ X.n ∧ (p : Int) + 8 * X.n ≤ 100000 := fun hE => by
      obtain ⟨f1, f2⟩ := rE_ok (takeC_nz _ _ _ _) hE
      have := takeC_in f1
      unfold takeN at f2
      omega
    refine (rwalk1 A X.A (8 * l.length) c X.m X.c p X.k X.v X.n _ _ w h0 hk (by omega) (by omega) hok (fun W hb => rlittle_ref A c p l X.n W (h.keep hb) hm hp)).mono fun e w' hr => hr.to ?_ ?_ ?_ ?_ ?_
    · rw [e2]
      have := rN_if (rE l p (takeC X.n 1 4 p) (takeN X.n)) (takeN X.n) p (fun h => by have := (hok h).1; unfold takeN; omega)
      by_cases hE : rE l p (takeC X.n 1 4 p) (takeN X.n) = 0
      · rw [if_pos hE] at this ⊢
        have f := (rE_ok (takeC_nz _ _ _ _) hE)
        have := takeC_in f.1
        unfold takeN at *
        omega
      · rw [if_neg hE] at this ⊢
        omega
    · rw [e3]
    · rw [e1]
    · rw [e4]; rfl
    · rw [e4]; rfl
  · obtain ⟨e1, e2, e3, e4⟩ := rd2 (l := l) (p := p) hk
    have hok : rE l p (takeC X.n 0 X.n p) (takeN X.n) = 0 → 0 ≤ X.n ∧ (p : Int) + 8 * X.n ≤ 100000 := fun hE => by
      obtain ⟨f1, f2⟩ := rE_ok (takeC_nz _ _ _ _) hE
      have := takeC_in f1
      unfold takeN at f2
      omega
    refine (rwalk2 A X.A (8 * l.length) c X.m X.c p X.k X.v X.n _ _ _ w h0 hk (by omega) (by omega) hok (fun W hb => rtake_ref A c p l X.n X.n W (h.keep hb) hm hp (fun h => Int.le_refl _))).mono fun e w' hr => hr.to ?_ ?_ ?_ ?_ ?_
    · rw [e2]
      have := rN_if (rE l p (takeC X.n 0 X.n p) (takeN X.n)) (takeN X.n) p (fun h => by have := (hok h).1; unfold takeN; omega)
      by_cases hE : rE l p (takeC X.n 0 X.n p) (takeN X.n) = 0
      · rw [if_pos hE] at this ⊢
        have f := (rE_ok (takeC_nz _ _ _ _) hE)
        have := takeC_in f.1
        unfold takeN at *
        omega
      · rw [if_neg hE] at this ⊢
        omega
    · rw [e3]; rfl
    · rw [e1]
    · rw [e4, pack_length, cut_length]
    · rw [e4]
  · obtain ⟨e1, e2, e3, e4⟩ := rd3 (l := l) (p := p) hk
    have hz : ∀ c ∈ skipC X.n, c.2 ≠ 0 := by intro c hc; simp [skipC] at hc; subst hc; simp
    by_cases hn : 0 ≤ X.n
    · have hok : rE l p (skipC X.n) X.n = 0 → 0 ≤ X.n ∧ (p : Int) + X.n ≤ 100000 := fun hE => by
        obtain ⟨f1, f2⟩ := rE_ok hz hE
        omega
      refine (rwalk3 A X.A (8 * l.length) c X.m X.c p X.k X.v X.n _ w h0 hk (by omega) (by omega) hok hn (fun W hb => rskip_ref A c p l X.n W (h.keep hb) hm hp hn)).mono fun e w' hr => hr.to ?_ ?_ ?_ ?_ ?_
      · rw [e2, rN_if _ _ _ (fun h => (hok h).1)]; simp
      · rw [e3]; rfl
      · rw [e1]
      · rw [e4]; rfl
      · rw [e4]; rfl
    · have h2 : rE l p (skipC X.n) X.n = 2 := by
        have hd : decide (0 ≤ X.n) = false := by simpa using hn
        simp [rE, skipC, hd, firstE]
      refine (rwalk3n A X.A (8 * l.length) c X.m X.c p X.k X.v X.n w h0 hk (by omega)).mono fun e w' hr => hr.to ?_ ?_ ?_ ?_ ?_
      · rw [e2, h2]; rfl
      · rw [e3]; rfl
      · rw [e1, h2]
      · rw [e4]; rfl
      · rw [e4]; rfl
  · obtain ⟨e1, e2, e3, e4⟩ := rd4 (l := l) (p := p) hk
    refine (rwalk4 A X.A (8 * l.length) c X.m X.c p X.k X.v X.n _ _ w h0 hk (by omega) (by omega) (fun W hb => rpad_ref A c p l X.n W (h.keep hb) hm hp)).mono fun e w' hr => hr.to ?_ ?_ ?_ ?_ ?_
    · rw [e2]
    · rw [e3]; rfl
    · rw [e1]
    · rw [e4]; rfl
    · rw [e4]; rfl
end Go.Proofs.Ythgbnpafhkhjpaa
