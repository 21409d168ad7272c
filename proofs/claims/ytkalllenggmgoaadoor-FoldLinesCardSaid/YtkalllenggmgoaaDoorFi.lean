/- same; Write, Length; the reference's Write. -/
import Derived.Test.YtkalllenggmgoaaDoorFh
import Derived.Lib.AppendStr
import Derived.BigQuiet
namespace Go.Proofs.YtkalllenggmgoaaDoor
open Go.RowKit
set_option linter.unusedVariables false
set_option linter.unusedSimpArgs false

section
variable {P : Program} {w : World} {ops : Array Oper} {rest : List Oper} {o : Oper} {a : Act} {Q : Exit → Act → World → Prop}
/-- An append of a string. -/
theorem wpList_app_str (hgd : o.guard = none) (s x : Operand) (t u : TypeId) (hop : o.op = Op.call { callee := Callee.builtin Builtin.append, args := #[s, x], argTypes := #[t, u] }) {e : TypeId} {i : TypeInfo} (ht : P.underlying t = some (.slice e)) (hu : P.underlying u = some .string) (hi : P.info? e = some i) (hz : i.zero = some (.int .u8 0)) (hsz : i.size = 1) (hby : i.bytes = 1)
    {base n m : Nat} {v : Value} {xs news : List Value} {sb : ByteArray} (hs : a.eval s = v) (hown : w.ownsRow base e 1 v n xs) (hx : a.eval x = .string sb) (hl : Lib.strCells sb = news) (hm : sb.size = m) (h63 : n + m ≤ maxLen) (hb2 : n + m ≤ 140737488355328) (hbase : base ≤ w.heap.size)
    (hK : ∀ v' w', w'.ownsRow base e 1 v' (n + m) (xs ++ news) → w.grownBy w' v.ownBlock → wpList P ops Q rest (a.put o.dst v') w') : wpList P ops Q (o :: rest) a w := by
  obtain ⟨v', w', hrun, p1, p2, -⟩ := Lib.run_append_own_string (P := P) w base t u o.type e i ht hu hi hz hsz hby v n xs hown sb (by omega) (by omega) hbase
  rw [hl, hm] at p1
  refine wpList_plain hgd fun K hK' => ?_
  unfold Oper.wp
  simp [execOp, hop, resolve, invoke, builtin, hs, hx, hrun, Result.andThen]
  exact hK' _ _ (hK v' w' p1 p2)
end
set_option maxRecDepth 100000 in
theorem info5 : ∃ i, Tryd.prog.info? 5 = some i ∧ i.zero = some (.int .u8 0) ∧ i.size = 1 ∧ i.bytes = 1 := by
  have h : (Tryd.prog.info? 5).map (fun i => (i.zero, i.size, i.bytes)) = some (some (.int .u8 0), 1, 1) := by kernel_rfl
  cases hi : Tryd.prog.info? 5 with
  | none => rw [hi] at h; cases h
  | some i =>
    rw [hi] at h
    simp only [Option.map_some, Option.some.injEq, Prod.mk.injEq] at h
    exact ⟨i, rfl, h.1, h.2.1, h.2.2⟩
theorem strCells_mk (l : List UInt8) : Lib.strCells ⟨l.toArray⟩ = l.map u8 := by simp [Lib.strCells, u8]
set_option maxRecDepth 100000 in
theorem neq_hd (W : World) (a b c d : ByteArray) : (binOp .neq 25 (.agg #[.string a, .string b]) (.agg #[.string c, .string d])).run Tryd.prog W = .ok (.bool (!((a.toList == c.toList) && (b.toList == d.toList)))) W := by
  have hp : Tryd.prog.stoodInHeld 25 = false := by kernel_rfl
  have ht : Tryd.prog.underlying 25 = some (.struct (Tryd.prog.fieldsOf 25)) := by kernel_rfl
  rw [run_neq_struct, run_equalIn_agg W _ 25 _ _ ht hp]
  unfold Program.fieldsOf
  rw [Tryd.underlying25]
  have h9 := Tryd.underlying9
  simp [go_sem, part, Op.eqFields]
  by_cases h1 : a.toList = c.toList <;> by_cases h2 : b.toList = d.toList <;> simp [h1, h2]
theorem hd_bne (p q : Hd) : (!(((⟨p.n.toArray⟩ : ByteArray).toList == (⟨q.n.toArray⟩ : ByteArray).toList) && ((⟨p.t.toArray⟩ : ByteArray).toList == (⟨q.t.toArray⟩ : ByteArray).toList))) = !decide (p = q) := by
  congr 1
  rw [Lib.toList_data, Lib.toList_data, Lib.toList_data, Lib.toList_data, Bool.eq_iff_iff, Bool.and_eq_true, beq_iff_eq, beq_iff_eq, decide_eq_true_eq]
  constructor
  · rintro ⟨h1, h2⟩
    cases p; cases q
    simp at h1 h2
    rw [h1, h2]
  · rintro rfl; exact ⟨rfl, rfl⟩
set_option maxRecDepth 100000 in
set_option maxHeartbeats 1000000 in
theorem same_any (A1 A2 : Option Addr) (n1 c1 n2 c2 : Nat) (l1 l2 : List Hd) (w : World) (h1 : HL w A1 n1 c1 l1) (h2 : HL w A2 n2 c2 l2) (hn : n1 ≤ 100000) :
    Calls Tryd.prog 18 #[.slice A1 n1 c1, .slice A2 n2 c2] w fun e w' => e = .returned (.bool (decide (l1 = l2))) ∧ Below w.heap.size w w' := by
  have H1 := Lib.hid h1
  have H2 := Lib.hid h2
  have L1 := Lib.hid h1.len
  have L2 := Lib.hid h2.len
  have hn0 : (n1 : Int) ≤ 100000 := by omega
  clear h1 h2 hn
  by_cases hne : n1 = n2
  · subst hne
    have q0 : ((n1 : Int) != n1) = false := by simp
    go_enter Tryd.func18, Tryd.ntmps18
    go_wp2_with fail
    go_loopw [5] (fun ii wr => ∃ i : Nat, (i : Int) ≤ n1 ∧ ii = .int .i64 i ∧ Hid (l1.take i = l2.take i) ∧ Hid (Below w.heap.size w wr)) (fun ii _ => n1 - (intOf ii).toNat)
    case atStart => exact ⟨0, by omega, rfl, Lib.hid rfl, Lib.hid (Below.refl _ _)⟩
    case round =>
      obtain ⟨i, hi, rfl, HE, HB⟩ := hrel
      have hi0 : (0 : Int) ≤ i := by omega
      by_cases hlt : (i : Int) < n1
      · have hi1 : i < l1.length := by rw [L1.out]; omega
        have hi2 : i < l2.length := by rw [L2.out]; omega
        obtain ⟨b1, o1, rfl, hat1⟩ := H1.out.at (by omega)
        obtain ⟨b2, o2, rfl, hat2⟩ := H2.out.at (by omega)
        have k1 := (hat1 i hi1).below HB.out
        have k2 := (hat2 i hi2).below HB.out
        have HS : Hid (l1[i] = l2[i] → l1.take (i + 1) = l2.take (i + 1)) := Lib.hid fun h => by
          rw [List.take_succ_eq_append_getElem hi1, List.take_succ_eq_append_getElem hi2, HE.out, h]
        have HX : Hid (l1[i] ≠ l2[i] → l1 ≠ l2) := Lib.hid fun h e => by subst e; exact h rfl
        generalize l1[i] = x at *
        generalize l2[i] = y at *
        obtain ⟨k10, k11⟩ := k1
        obtain ⟨k20, k21⟩ := k2
        have hb := hd_bne x y
        have NE := fun W => neq_hd W ⟨x.n.toArray⟩ ⟨x.t.toArray⟩ ⟨y.n.toArray⟩ ⟨y.t.toArray⟩
        rw [hb] at NE
        generalize (⟨x.n.toArray⟩ : ByteArray) = xn at *
        generalize (⟨x.t.toArray⟩ : ByteArray) = xt at *
        generalize (⟨y.n.toArray⟩ : ByteArray) = yn at *
        generalize (⟨y.t.toArray⟩ : ByteArray) = yt at *
        clear hat1 hat2 hi1 hi2 hb
        by_cases he : x = y
        · have HT := Lib.hid (HS.out he)
          rw [decide_eq_true he] at NE
          have NE2 : ∀ W : World, (binOp .neq 25 (.agg #[.string xn, .string xt]) (.agg #[.string yn, .string yt])).run Tryd.prog W = .ok (.bool false) W := NE
          clear he NE
          go_upto_region 6 with fail
          go_quiet (fail)
          go_wp2_with fail
          go_roundw
          case rel => exact ⟨i + 1, by omega, by go_num, HT, Lib.hid (below_drewN HB.out _)⟩
          case measure => simp [intOf]; omega
        · have HT := Lib.hid (HX.out he)
          rw [decide_eq_false he] at NE
          have NE2 : ∀ W : World, (binOp .neq 25 (.agg #[.string xn, .string xt]) (.agg #[.string yn, .string yt])).run Tryd.prog W = .ok (.bool true) W := NE
          clear he NE
          go_upto_region 6 with fail
          go_quiet (fail)
          go_wp2_with fail
          go_ret
          exact ⟨by rw [decide_eq_false HT.out]; rfl, below_drewN HB.out _⟩
      · have HLE := Lib.hid (show l1 = l2 by have h := HE.out; rw [List.take_of_length_le (by rw [L1.out]; omega), List.take_of_length_le (by rw [L2.out]; omega)] at h; exact h)
        go_wp2_with fail
        go_ret
        exact ⟨by rw [decide_eq_true HLE.out]; rfl, HB.out⟩
  · have q0 : ((n1 : Int) != n2) = true := by simp; omega
    have HT := Lib.hid (show l1 ≠ l2 from fun e => hne (by rw [← L1.out, ← L2.out, e]))
    clear hne
    go_enter Tryd.func18, Tryd.ntmps18
    go_wp2_with fail
    go_ret
    exact ⟨by rw [decide_eq_false HT.out]; rfl, Below.refl _ _⟩
theorem lineOf_len (h : Hd) : (lineOf h).length = h.n.length + h.t.length + 4 := by unfold lineOf; simp; omega
theorem conv_sr9 (w : World) (l : List UInt8) (hl : l.length ≤ 1000000000) :
    ∃ cap W1, (convert 9 26 (.string ⟨l.toArray⟩)).run Tryd.prog w = .ok (.slice (some ⟨w.heap.size, 0, none⟩) l.length cap) W1 ∧ RB W1 (some ⟨w.heap.size, 0, none⟩) l.length cap l ∧ Below w.heap.size w W1 ∧ w.heap.size < W1.heap.size := by
  obtain ⟨cap, W1, h1, h2, h3, h4, h5⟩ := conv_sb (P := Tryd.prog) w 9 26 5 ⟨l.toArray⟩ Tryd.underlying9 Tryd.underlying26 Tryd.underlying5
  have hcm : cap ≤ maxLen := by
    have := Lib.run_convert_string_bytes (P := Tryd.prog) w 9 26 5 ⟨l.toArray⟩ Tryd.underlying9 Tryd.underlying26 Tryd.underlying5
    rw [h1] at this
    injection this with e1 e2
    injection e1 with e3 e4 e5
    rw [e5]
    exact grownCap_le_maxLen _ _ _ _ (by show l.toArray.size ≤ maxLen; unfold maxLen; simp; omega)
  refine ⟨cap, W1, h1, ⟨rfl, ⟨by simp, (fun e => by cases e), fun b hb j u hj => ?_⟩, h4, hcm, fun e => by cases e⟩, h3, h5⟩
  cases hb
  obtain ⟨hj1, hj2⟩ := List.getElem?_eq_some_iff.1 hj
  have hj3 : j < l.length := by simpa using hj1
  obtain ⟨b9, o9, e9, -, hc9⟩ := h2 (show 0 < (l.toArray).toList.length by simp; omega)
  cases e9
  have := hc9 j (by simpa using hj3)
  rw [Addr.add_lit, this, ← hj2]
  simp [u8]

def bodyL (l : List Hd) : List UInt8 := l.flatMap lineOf
theorem bodyL_take (l : List Hd) (i : Nat) (h : i < l.length) : bodyL (l.take (i + 1)) = bodyL (l.take i) ++ lineOf l[i] := by
  unfold bodyL
  rw [List.take_add_one, List.getElem?_eq_getElem h, List.flatMap_append]
  simp
theorem bodyL_le (l : List Hd) (h : Small l) : (bodyL l).length ≤ l.length * 2000010 := by
  unfold bodyL
  induction l with
  | nil => simp
  | cons a l ih =>
    have h1 := h a (by simp)
    have h2 := ih fun q hq => h q (by simp [hq])
    rw [List.flatMap_cons, List.length_append, lineOf_len, List.length_cons, Nat.succ_mul]
    omega
theorem small_take {l : List Hd} (h : Small l) (i : Nat) : Small (l.take i) := fun q hq => h q (List.mem_of_mem_take hq)
/-- The strings that Write makes of a line. -/
theorem line_strs (h : Hd) : ∃ s1 s2 s3 : ByteArray, (⟨h.n.toArray⟩ : ByteArray) ++ { data := #[58, 32] } = s1 ∧ s1 ++ (⟨h.t.toArray⟩ : ByteArray) = s2 ∧ s2 ++ { data := #[13, 10] } = s3 ∧ s1.size = h.n.length + 2 ∧ s2.size = h.n.length + 2 + h.t.length ∧ s3.size = h.n.length + h.t.length + 4 ∧ Lib.strCells s3 = (lineOf h).map u8 := by
  refine ⟨_, _, _, rfl, rfl, rfl, ?_, ?_, ?_, ?_⟩
  · simp [ByteArray.size_append, size_str, ByteArray.size]
  · simp [ByteArray.size_append, size_str, ByteArray.size]; omega
  · simp [ByteArray.size_append, size_str, ByteArray.size]; omega
  · have e : (⟨h.n.toArray⟩ : ByteArray) ++ { data := #[58, 32] } ++ (⟨h.t.toArray⟩ : ByteArray) ++ { data := #[13, 10] } = ⟨(lineOf h).toArray⟩ := by
      apply ByteArray.ext
      unfold lineOf
      simp
    rw [e, strCells_mk]

set_option maxRecDepth 100000 in
set_option maxHeartbeats 1000000 in
theorem write_ok (A : Option Addr) (n c : Nat) (l : List Hd) (w : World) (h : HL w A n c l) (hd : Small l) (hv : validL l = true) :
    Calls Tryd.prog 12 #[.slice A n c] w fun e w' => Fresh w (writeL l) (fun v => .tuple #[v, .int .i64 0]) e w' := by
  have hn : n ≤ 100 := by have := ((validL_iff l).1 hv).1; rw [← h.len]; exact this
  have C16 := Lib.hid (validL_any A n c l w h (by omega) hd)
  rw [hv] at C16
  have HP := Lib.hid h
  have HD := Lib.hid hd
  have HL := Lib.hid h.len
  obtain ⟨inf, hi5⟩ := info5
  have HI5 := hi5
  clear h hd hv
  have hn0 : (n : Int) ≤ 100 := by omega
  have HN := Lib.hid hn
  clear hn hi5
  go_enter Tryd.func12, Tryd.ntmps12
  go_wp2_with (go_at_call 16; (with_reducible refine C16.out.mono ?_); rintro e w1 ⟨rfl, hb⟩; have HB1 := Lib.hid hb; clear hb)
  go_loopw [12, 4] (fun ii vv wr => ∃ i : Nat, (i : Int) ≤ n ∧ ii = .int .i64 i ∧ Hid (wr.ownsRow w.heap.size 5 1 vv (bodyL (l.take i)).length ((bodyL (l.take i)).map Go.Proofs.YtkalllenggmgoaaDoor.u8)) ∧ Hid (Below w.heap.size w wr)) (fun ii _ _ => n - (intOf ii).toNat)
  case atStart => exact ⟨0, by omega, rfl, Lib.hid (by simpa [bodyL] using World.ownsRow_nil w1 w.heap.size 5 1), HB1⟩
  case round =>
    obtain ⟨i, hi, rfl, HO, HB⟩ := hrel
    have hi0 : (0 : Int) ≤ i := by omega
    by_cases hlt : (i : Int) < n
    · have hi1 : i < l.length := by rw [HL.out]; omega
      obtain ⟨b, o, rfl, hat⟩ := HP.out.at (by omega)
      have hA := (hat i hi1).below HB.out
      have hm := HD.out _ (List.getElem_mem hi1)
      have hs := bodyL_take l i hi1
      have hle := bodyL_le (l.take i) (small_take HD.out i)
      have hti : (l.take i).length = i := by rw [List.length_take]; omega
      rw [hti] at hle
      generalize l[i] = p at *
      obtain ⟨s1, s2, s3, e1, e2, e3, z1, z2, z3, hc⟩ := line_strs p
      have zn := size_str p.n
      have zt := size_str p.t
      obtain ⟨f0, f1⟩ := hA
      have hll := lineOf_len p
      obtain ⟨hm1, hm2⟩ := hm
      generalize (⟨p.n.toArray⟩ : ByteArray) = sn at *
      generalize (⟨p.t.toArray⟩ : ByteArray) = st at *
      generalize p.n.length = pn at *
      generalize p.t.length = pt at *
      have cc1 : ¬ 9223372036854775807 < pn + 2 := by omega
      have cc2 : ¬ 9223372036854775807 < pn + 2 + pt := by omega
      have cc3 : ¬ 9223372036854775807 < pn + 2 + pt + 2 := by omega
      generalize hbd : bodyL (l.take i) = bd at *
      have HS := Lib.hid hs
      have HBD : Hid (bd.length + (pn + pt + 4) ≤ 300000000) := Lib.hid (by have : i * 2000010 ≤ 100 * 2000010 := Nat.mul_le_mul (by omega) (Nat.le_refl _); omega)
      have HC := Lib.hid hc
      have HLL := Lib.hid hll
      obtain ⟨wo, rfl⟩ : ∃ wo, wo = wr := ⟨_, rfl⟩
      clear hs hle hti hm1 hm2 hll hat hc hbd
      go_wp2_with (at_builtin; go_must (refine wpList_app_str (base := w.heap.size) (n := bd.length) (m := pn + pt + 4) rfl (.tmp 16) (.tmp 23) 26 9 rfl Tryd.underlying26 Tryd.underlying9 HI5.1 HI5.2.1 HI5.2.2.1 HI5.2.2.2 (by rfl) (own_alloc HO.out) (by rfl) HC.out z3 (by have := HBD.out; unfold maxLen; omega) (by have := HBD.out; omega) (by have := HB.out.size; simp; omega) ?_; intro v2 w2 hown hg; refine Hid.out ?_))
      have HO2 : Hid (w2.ownsRow w.heap.size 5 1 v2 (bd ++ lineOf p).length ((bd ++ lineOf p).map Go.Proofs.YtkalllenggmgoaaDoor.u8)) := Lib.hid (by rw [List.length_append, HLL.out, List.map_append]; exact hown)
      have HB2 : Hid (Below w.heap.size w w2) := Lib.hid (below_own (HB.out.alloc HB.out.size _) (by have := HB.out.size; simp; omega) (own_alloc HO.out) hg)
      refine Lib.hid ?_
      clear hown hg
      go_wp2_with fail
      go_roundw
      case rel => exact ⟨i + 1, by omega, by go_num, by rw [HS.out]; exact HO2, HB2⟩
      case measure => simp [intOf]; omega
    · have HLE := Lib.hid (show l.take i = l by rw [List.take_of_length_le]; rw [HL.out]; omega)
      have HLEN : Hid ((bodyL l).length ≤ 300000000) := Lib.hid (by have h1 := bodyL_le l HD.out; rw [HL.out] at h1; have : n * 2000010 ≤ 100 * 2000010 := Nat.mul_le_mul HN.out (Nat.le_refl _); omega)
      rw [HLE.out] at HO
      have hc2 : Lib.strCells ({ data := #[13, 10] } : ByteArray) = ([13, 10] : List UInt8).map Go.Proofs.YtkalllenggmgoaaDoor.u8 := strCells_mk [13, 10]
      have HC2 := Lib.hid hc2
      clear hc2
      go_wp2_with (at_builtin; go_must (refine wpList_app_str (base := w.heap.size) (n := (bodyL l).length) (m := 2) rfl (.tmp 26) (.const (Value.string { data := #[13, 10] })) 26 9 rfl Tryd.underlying26 Tryd.underlying9 HI5.1 HI5.2.1 HI5.2.2.1 HI5.2.2.2 (by rfl) HO.out (by rfl) HC2.out (show ({ data := #[13, 10] } : ByteArray).size = 2 from rfl) (by have := HLEN.out; unfold maxLen; omega) (by have := HLEN.out; omega) HB.out.size ?_; intro v2 w2 hown hg; refine Hid.out ?_))
      have HO2 : Hid (w2.ownsRow w.heap.size 5 1 v2 (writeL l).length ((writeL l).map Go.Proofs.YtkalllenggmgoaaDoor.u8)) := Lib.hid (by show w2.ownsRow w.heap.size 5 1 v2 (bodyL l ++ [13, 10]).length ((bodyL l ++ [13, 10]).map _); rw [List.length_append, List.map_append]; exact hown)
      have HB2 : Hid (Below w.heap.size w w2) := Lib.hid (below_own HB.out HB.out.size HO.out hg)
      refine Lib.hid ?_
      clear hown hg
      go_wp2_with fail
      go_ret2
      exact ⟨v2, rfl, HO2.out, HB2.out⟩
set_option maxRecDepth 100000 in
set_option maxHeartbeats 1000000 in
theorem write_bad (A : Option Addr) (n c : Nat) (l : List Hd) (w : World) (h : HL w A n c l) (hn : n ≤ 1000) (hd : Small l) (hv : validL l = false) :
    Calls Tryd.prog 12 #[.slice A n c] w fun e w' => e = .returned (.tuple #[.slice none 0 0, .int .i64 2]) ∧ Below w.heap.size w w' := by
  have C16 := Lib.hid (validL_any A n c l w h hn hd)
  rw [hv] at C16
  clear h hn hd hv
  go_enter Tryd.func12, Tryd.ntmps12
  go_wp2_with (go_at_call 16; (with_reducible refine C16.out.mono ?_); rintro e w1 ⟨rfl, hb⟩; have HB1 := Lib.hid hb; clear hb)
  go_ret2
  exact ⟨rfl, HB1.out⟩
set_option maxRecDepth 100000 in
set_option maxHeartbeats 1000000 in
theorem length_ok (A : Option Addr) (n c : Nat) (l : List Hd) (w : World) (h : HL w A n c l) (hd : Small l) (hv : validL l = true) :
    Calls Tryd.prog 13 #[.slice A n c] w fun e w' => e = .returned (.tuple #[.int .i64 ((writeL l).length : Int), .int .i64 0]) ∧ Below w.heap.size w w' := by
  have C12 := Lib.hid (write_ok A n c l w h hd hv)
  clear h hd hv
  go_enter Tryd.func13, Tryd.ntmps13
  go_wp2_with (go_at_call 12; (with_reducible refine C12.out.mono ?_); rintro e w1 ⟨v, rfl, ho, hb⟩; have HB := Lib.hid hb; clear hb; obtain ⟨A9, c9, rfl, hr9⟩ := own_RB ho; clear ho hr9)
  go_ret2
  exact ⟨rfl, HB.out⟩
set_option maxRecDepth 100000 in
set_option maxHeartbeats 1000000 in
theorem length_bad (A : Option Addr) (n c : Nat) (l : List Hd) (w : World) (h : HL w A n c l) (hn : n ≤ 1000) (hd : Small l) (hv : validL l = false) :
    Calls Tryd.prog 13 #[.slice A n c] w fun e w' => e = .returned (.tuple #[.int .i64 0, .int .i64 2]) ∧ Below w.heap.size w w' := by
  have C12 := Lib.hid (write_bad A n c l w h hn hd hv)
  clear h hn hd hv
  go_enter Tryd.func13, Tryd.ntmps13
  go_wp2_with (go_at_call 12; (with_reducible refine C12.out.mono ?_); rintro e w1 ⟨rfl, hb⟩; have HB := Lib.hid hb; clear hb)
  go_ret2
  exact ⟨rfl, HB.out⟩

def HAt2 (b o : Nat) (sn st : ByteArray) (W : World) : Prop := W.cell? ⟨b, o, none⟩ = some (.string sn) ∧ W.cell? ⟨b, o + 1, none⟩ = some (.string st)
/-- The strings that the reference makes of a line. -/
theorem rline_strs (a : List UInt8) (h : Hd) : ∃ s0 s1 s2 : ByteArray, (⟨a.toArray⟩ : ByteArray) ++ (⟨h.n.toArray⟩ : ByteArray) = s0 ∧ s0 ++ { data := #[58, 32] } = s1 ∧ s1 ++ (⟨h.t.toArray⟩ : ByteArray) = s2 ∧ s2 ++ { data := #[13, 10] } = ⟨(a ++ lineOf h).toArray⟩ ∧ s0.size = a.length + h.n.length ∧ s1.size = a.length + h.n.length + 2 ∧ s2.size = a.length + h.n.length + 2 + h.t.length := by
  refine ⟨_, _, _, rfl, rfl, rfl, ?_, ?_, ?_, ?_⟩
  · apply ByteArray.ext
    unfold lineOf
    simp
  · simp [ByteArray.size_append, size_str, ByteArray.size]
  · simp [ByteArray.size_append, size_str, ByteArray.size]; omega
  · simp [ByteArray.size_append, size_str, ByteArray.size]; omega
set_option maxRecDepth 100000 in
set_option maxHeartbeats 1000000 in
theorem rwrite_ok (A : Option Addr) (n c : Nat) (l : List Hd) (w : World) (h : HL w A n c l) (hn : n ≤ 110) (hd : Small l) :
    Calls Tryd.prog 19 #[.slice A n c] w fun e w' => ∃ ad cp, e = .returned (.slice (some ⟨ad, 0, none⟩) (writeL l).length cp) ∧ RB w' (some ⟨ad, 0, none⟩) (writeL l).length cp (writeL l) ∧ Below w.heap.size w w' := by
  have HP := Lib.hid h
  have HD := Lib.hid hd
  have HL := Lib.hid h.len
  clear h hd
  have hn0 : (n : Int) ≤ 110 := by omega
  have HN := Lib.hid hn
  clear hn
  go_enter Tryd.func19, Tryd.ntmps19
  go_wp2_with fail
  go_loopw [4, 3] (fun ii vv wr => ∃ i : Nat, (i : Int) ≤ n ∧ ii = .int .i64 i ∧ vv = .string ⟨(bodyL (l.take i)).toArray⟩ ∧ Hid (Below w.heap.size w wr)) (fun ii _ _ => n - (intOf ii).toNat)
  case atStart => exact ⟨0, by omega, rfl, by simp [bodyL], Lib.hid (Below.refl _ _)⟩
  case round =>
    obtain ⟨i, hi, rfl, rfl, HB⟩ := hrel
    have hi0 : (0 : Int) ≤ i := by omega
    by_cases hlt : (i : Int) < n
    · have hi1 : i < l.length := by rw [HL.out]; omega
      obtain ⟨b, o, rfl, hat⟩ := HP.out.at (by omega)
      have hA := (hat i hi1).below HB.out
      have hm := HD.out _ (List.getElem_mem hi1)
      have hs := bodyL_take l i hi1
      have hle := bodyL_le (l.take i) (small_take HD.out i)
      have hti : (l.take i).length = i := by rw [List.length_take]; omega
      rw [hti] at hle
      generalize l[i] = p at *
      obtain ⟨f0, f1⟩ := hA
      obtain ⟨hm1, hm2⟩ := hm
      have HBD : (bodyL (l.take i)).length ≤ 300000000 := by have : i * 2000010 ≤ 110 * 2000010 := Nat.mul_le_mul (by omega) (Nat.le_refl _); omega
      generalize hbd : bodyL (l.take i) = bd at *
      obtain ⟨s0, s1, s2, e0, e1, e2, e3, z0, z1, z2⟩ := rline_strs bd p
      have za := size_str bd
      have zn := size_str p.n
      have zt := size_str p.t
      rw [← hs] at e3
      have HS := Lib.hid hs
      generalize (⟨bd.toArray⟩ : ByteArray) = sa at *
      generalize (⟨p.n.toArray⟩ : ByteArray) = sn at *
      generalize (⟨p.t.toArray⟩ : ByteArray) = st at *
      obtain ⟨s3, hs3⟩ : ∃ s3, (⟨(bodyL (l.take (i + 1))).toArray⟩ : ByteArray) = s3 := ⟨_, rfl⟩
      have HS3 := Lib.hid hs3
      rw [hs3] at e3
      generalize p.n.length = pn at *
      generalize p.t.length = pt at *
      generalize bd.length = bl at *
      have cc0 : ¬ 9223372036854775807 < bl + pn := by omega
      have cc1 : ¬ 9223372036854775807 < bl + pn + 2 := by omega
      have cc2 : ¬ 9223372036854775807 < bl + pn + 2 + pt := by omega
      have cc3 : ¬ 9223372036854775807 < bl + pn + 2 + pt + 2 := by omega
      have HX : Hid (HAt2 b (o + i * 2) sn st wr.drew) := Lib.hid ⟨f0, f1⟩
      clear hs hle hti hm1 hm2 hat f0 f1 hbd HBD hs3
      go_upto_region 5 with fail
      refine wp_region_G (S0 := (HAt2 b (o + i * 2) sn st)) (S1 := (HAt2 b (o + i * 2) sn st)) (c := 99) (by kernel_rfl) ?_
      have hHeld := HX.out
      have h01 := (fun (W : World) (h : (HAt2 b (o + i * 2) sn st) W) => h)
      refine wpG_takeB (i := 0) (oi := ⟨some 11, _, _, _, _, _⟩) (v := .string sa) rfl (by kernel_rfl) (by kernel_rfl) (by kernel_rfl) (by decide) (fun _ _ _ h => h) h01 rfl hHeld (Or.inl ⟨by rfl, ?_⟩) ?_
      · (intro W9 hSw; obtain ⟨v1, v2⟩ := hSw; go_simp; (try (first | with_reducible rfl | rfl | (simp; done) | omega)))
      try simp only [Act.put, List.setIfInBounds_toArray, List.set_cons_zero, List.set_cons_succ]
      refine wpG_takeB (i := 1) (oi := ⟨some 12, _, _, _, _, _⟩) (v := .slice (some ⟨b, o, none⟩) n c) rfl (by kernel_rfl) (by kernel_rfl) (by kernel_rfl) (by decide) (fun _ _ _ h => h) h01 rfl hHeld (Or.inl ⟨by rfl, ?_⟩) ?_
      · (intro W9 hSw; obtain ⟨v1, v2⟩ := hSw; go_simp; (try (first | with_reducible rfl | rfl | (simp; done) | omega)))
      try simp only [Act.put, List.setIfInBounds_toArray, List.set_cons_zero, List.set_cons_succ]
      refine wpG_takeB (i := 2) (oi := ⟨some 13, _, _, _, _, _⟩) (v := .int .i64 (i : Int)) rfl (by kernel_rfl) (by kernel_rfl) (by kernel_rfl) (by decide) (fun _ _ _ h => h) h01 rfl hHeld (Or.inl ⟨by rfl, ?_⟩) ?_
      · (intro W9 hSw; obtain ⟨v1, v2⟩ := hSw; go_simp; (try (first | with_reducible rfl | rfl | (simp; done) | omega)))
      try simp only [Act.put, List.setIfInBounds_toArray, List.set_cons_zero, List.set_cons_succ]
      refine wpG_takeB (i := 3) (oi := ⟨some 14, _, _, _, _, _⟩) (v := .pointer (some ⟨b, o + i * 2, none⟩)) rfl (by kernel_rfl) (by kernel_rfl) (by kernel_rfl) (by decide) (fun _ _ _ h => h) h01 rfl hHeld (Or.inl ⟨by rfl, ?_⟩) ?_
      · (intro W9 hSw; obtain ⟨v1, v2⟩ := hSw; go_simp; (try (first | with_reducible rfl | rfl | (simp; done) | omega)))
      try simp only [Act.put, List.setIfInBounds_toArray, List.set_cons_zero, List.set_cons_succ]
      refine wpG_takeB (i := 4) (oi := ⟨some 15, _, _, _, _, _⟩) (v := .pointer (some ⟨b, o + i * 2, none⟩)) rfl (by kernel_rfl) (by kernel_rfl) (by kernel_rfl) (by decide) (fun _ _ _ h => h) h01 rfl hHeld (Or.inl ⟨by rfl, ?_⟩) ?_
      · (intro W9 hSw; obtain ⟨v1, v2⟩ := hSw; go_simp; (try (first | with_reducible rfl | rfl | (simp; done) | omega)))
      try simp only [Act.put, List.setIfInBounds_toArray, List.set_cons_zero, List.set_cons_succ]
      refine wpG_takeB (i := 5) (oi := ⟨some 16, _, _, _, _, _⟩) (v := .string sn) rfl (by kernel_rfl) (by kernel_rfl) (by kernel_rfl) (by decide) (fun _ _ _ h => h) h01 rfl hHeld (Or.inl ⟨by rfl, ?_⟩) ?_
      · (intro W9 hSw; obtain ⟨v1, v2⟩ := hSw; go_simp; (try (first | with_reducible rfl | rfl | (simp; done) | omega)))
      try simp only [Act.put, List.setIfInBounds_toArray, List.set_cons_zero, List.set_cons_succ]
      refine wpG_takeB (i := 6) (oi := ⟨some 17, _, _, _, _, _⟩) (v := .string s0) rfl (by kernel_rfl) (by kernel_rfl) (by kernel_rfl) (by decide) (fun _ _ _ h => h) h01 rfl hHeld (Or.inl ⟨by rfl, ?_⟩) ?_
      · (intro W9 hSw; obtain ⟨v1, v2⟩ := hSw; go_simp; (try (first | with_reducible rfl | rfl | (simp; done) | omega)))
      try simp only [Act.put, List.setIfInBounds_toArray, List.set_cons_zero, List.set_cons_succ]
      refine wpG_takeB (i := 7) (oi := ⟨some 18, _, _, _, _, _⟩) (v := .string s1) rfl (by kernel_rfl) (by kernel_rfl) (by kernel_rfl) (by decide) (fun _ _ _ h => h) h01 rfl hHeld (Or.inl ⟨by rfl, ?_⟩) ?_
      · (intro W9 hSw; obtain ⟨v1, v2⟩ := hSw; go_simp; (try (first | with_reducible rfl | rfl | (simp; done) | omega)))
      try simp only [Act.put, List.setIfInBounds_toArray, List.set_cons_zero, List.set_cons_succ]
      refine wpG_takeB (i := 8) (oi := ⟨some 19, _, _, _, _, _⟩) (v := .slice (some ⟨b, o, none⟩) n c) rfl (by kernel_rfl) (by kernel_rfl) (by kernel_rfl) (by decide) (fun _ _ _ h => h) h01 rfl hHeld (Or.inl ⟨by rfl, ?_⟩) ?_
      · (intro W9 hSw; obtain ⟨v1, v2⟩ := hSw; go_simp; (try (first | with_reducible rfl | rfl | (simp; done) | omega)))
      try simp only [Act.put, List.setIfInBounds_toArray, List.set_cons_zero, List.set_cons_succ]
      refine wpG_takeB (i := 9) (oi := ⟨some 20, _, _, _, _, _⟩) (v := .int .i64 (i : Int)) rfl (by kernel_rfl) (by kernel_rfl) (by kernel_rfl) (by decide) (fun _ _ _ h => h) h01 rfl hHeld (Or.inl ⟨by rfl, ?_⟩) ?_
      · (intro W9 hSw; obtain ⟨v1, v2⟩ := hSw; go_simp; (try (first | with_reducible rfl | rfl | (simp; done) | omega)))
      try simp only [Act.put, List.setIfInBounds_toArray, List.set_cons_zero, List.set_cons_succ]
      refine wpG_takeB (i := 10) (oi := ⟨some 21, _, _, _, _, _⟩) (v := .pointer (some ⟨b, o + i * 2, none⟩)) rfl (by kernel_rfl) (by kernel_rfl) (by kernel_rfl) (by decide) (fun _ _ _ h => h) h01 rfl hHeld (Or.inl ⟨by rfl, ?_⟩) ?_
      · (intro W9 hSw; obtain ⟨v1, v2⟩ := hSw; go_simp; (try (first | with_reducible rfl | rfl | (simp; done) | omega)))
      try simp only [Act.put, List.setIfInBounds_toArray, List.set_cons_zero, List.set_cons_succ]
      refine wpG_takeB (i := 11) (oi := ⟨some 22, _, _, _, _, _⟩) (v := .pointer (some ⟨b, o + i * 2 + 1, none⟩)) rfl (by kernel_rfl) (by kernel_rfl) (by kernel_rfl) (by decide) (fun _ _ _ h => h) h01 rfl hHeld (Or.inl ⟨by rfl, ?_⟩) ?_
      · (intro W9 hSw; obtain ⟨v1, v2⟩ := hSw; go_simp; (try (first | with_reducible rfl | rfl | (simp; done) | omega)))
      try simp only [Act.put, List.setIfInBounds_toArray, List.set_cons_zero, List.set_cons_succ]
      refine wpG_takeB (i := 12) (oi := ⟨some 23, _, _, _, _, _⟩) (v := .string st) rfl (by kernel_rfl) (by kernel_rfl) (by kernel_rfl) (by decide) (fun _ _ _ h => h) h01 rfl hHeld (Or.inl ⟨by rfl, ?_⟩) ?_
      · (intro W9 hSw; obtain ⟨v1, v2⟩ := hSw; go_simp; (try (first | with_reducible rfl | rfl | (simp; done) | omega)))
      try simp only [Act.put, List.setIfInBounds_toArray, List.set_cons_zero, List.set_cons_succ]
      refine wpG_takeB (i := 13) (oi := ⟨some 24, _, _, _, _, _⟩) (v := .string s2) rfl (by kernel_rfl) (by kernel_rfl) (by kernel_rfl) (by decide) (fun _ _ _ h => h) h01 rfl hHeld (Or.inl ⟨by rfl, ?_⟩) ?_
      · (intro W9 hSw; obtain ⟨v1, v2⟩ := hSw; go_simp; (try (first | with_reducible rfl | rfl | (simp; done) | omega)))
      try simp only [Act.put, List.setIfInBounds_toArray, List.set_cons_zero, List.set_cons_succ]
      refine wpG_takeB (i := 14) (oi := ⟨some 25, _, _, _, _, _⟩) (v := .string s3) rfl (by kernel_rfl) (by kernel_rfl) (by kernel_rfl) (by decide) (fun _ _ _ h => h) h01 rfl hHeld (Or.inl ⟨by rfl, ?_⟩) ?_
      · (intro W9 hSw; obtain ⟨v1, v2⟩ := hSw; go_simp; (try (first | with_reducible rfl | rfl | (simp; done) | omega)))
      try simp only [Act.put, List.setIfInBounds_toArray, List.set_cons_zero, List.set_cons_succ]
      refine wpG_takeB (i := 15) (oi := ⟨some 3, _, _, _, _, _⟩) (v := .string s3) rfl (by kernel_rfl) (by kernel_rfl) (by kernel_rfl) (by decide) (fun _ _ _ h => h) h01 rfl hHeld (Or.inl ⟨by rfl, ?_⟩) ?_
      · (intro W9 hSw; obtain ⟨v1, v2⟩ := hSw; go_simp; (try (first | with_reducible rfl | rfl | (simp; done) | omega)))
      try simp only [Act.put, List.setIfInBounds_toArray, List.set_cons_zero, List.set_cons_succ]
      refine wpG_done (by kernel_rfl) ?_ _
      clear hHeld h01
      go_wp2_with fail
      go_roundw
      case rel => exact ⟨i + 1, by omega, by go_num, by rw [HS3.out], Lib.hid (below_drew HB.out)⟩
      case measure => simp [intOf]; omega
    · have HLE := Lib.hid (show l.take i = l by rw [List.take_of_length_le]; rw [HL.out]; omega)
      have HLEN : (bodyL l).length ≤ 300000000 := by have h1 := bodyL_le l HD.out; rw [HL.out] at h1; have : n * 2000010 ≤ 110 * 2000010 := Nat.mul_le_mul HN.out (Nat.le_refl _); omega
      rw [HLE.out]
      have e1 : (⟨(bodyL l).toArray⟩ : ByteArray) ++ { data := #[13, 10] } = ⟨(writeL l).toArray⟩ := by
        apply ByteArray.ext
        unfold writeL bodyL
        simp
      have za := size_str (bodyL l)
      have hwl : (writeL l).length ≤ 1000000000 := by unfold writeL; rw [List.length_append]; show (bodyL l).length + 2 ≤ _; omega
      obtain ⟨cap, W1, hcv, hr, hb, hlt2⟩ := conv_sr9 wr (writeL l) hwl
      generalize hsa : (⟨(bodyL l).toArray⟩ : ByteArray) = sa at *
      generalize hsb : (⟨(writeL l).toArray⟩ : ByteArray) = sb at *
      generalize (bodyL l).length = bl at *
      have cc0 : ¬ 9223372036854775807 < bl + 2 := by omega
      have HR := Lib.hid hr
      have HB2 := Lib.hid (HB.out.trans (hb.mono HB.out.size))
      clear hr hb hlt2 hwl hsa hsb HLEN
      go_wp2_with fail
      go_ret
      exact ⟨_, _, rfl, HR.out, HB2.out⟩
end Go.Proofs.YtkalllenggmgoaaDoor
