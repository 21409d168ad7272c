/- Strings; a list of headers as it lies in memory; Name. -/
import Derived.Test.YtkalllenggmgoaaDoorFe
namespace Go.Proofs.YtkalllenggmgoaaDoor
open Go.RowKit
set_option linter.unusedVariables false
set_option linter.unusedSimpArgs false
theorem conv_sr (w : World) (l : List UInt8) (hl : l.length ≤ 1000000) :
    ∃ cap W1, (convert 9 26 (.string ⟨l.toArray⟩)).run Tryd.prog w = .ok (.slice (some ⟨w.heap.size, 0, none⟩) l.length cap) W1 ∧ RB W1 (some ⟨w.heap.size, 0, none⟩) l.length cap l ∧ Below w.heap.size w W1 ∧ w.heap.size < W1.heap.size := by
  obtain ⟨cap, W1, h1, h2, h3, h4, h5⟩ := conv_sb (P := Tryd.prog) w 9 26 5 ⟨l.toArray⟩ Tryd.underlying9 Tryd.underlying26 Tryd.underlying5
  have hcm : cap ≤ maxLen := by
    have := Lib.run_convert_string_bytes (P := Tryd.prog) w 9 26 5 ⟨l.toArray⟩ Tryd.underlying9 Tryd.underlying26 Tryd.underlying5
    rw [h1] at this
    injection this with e1 e2
    injection e1 with e3 e4 e5
    rw [e5]
    exact grownCap_le_maxLen _ _ _ _ (by show l.toArray.size ≤ maxLen; unfold maxLen; simp; omega)
  refine ⟨cap, W1, h1, ⟨rfl, ⟨by simp, (fun e => by cases e), fun b hb j u hj => ?_⟩, h4, hcm, fun e => by cases e⟩, h3, h5⟩
  cases hb
  obtain ⟨hj1, hj2⟩ := List.getElem?_eq_some_iff.1 hj
  have hj3 : j < l.length := by simpa using hj1
  obtain ⟨b9, o9, e9, -, hc9⟩ := h2 (show 0 < (l.toArray).toList.length by simp; omega)
  cases e9
  have := hc9 j (by simpa using hj3)
  rw [Addr.add_lit, this, ← hj2]
  simp [u8]

theorem idx_str (W : World) (l : List UInt8) (i : Nat) (h : i < l.length) : (Instr.index 9 (.string ⟨l.toArray⟩) (.int .i64 (i : Int))).run Tryd.prog W = .ok (.int .u8 ((l[i]).toNat : Int)) W := by
  rw [run_index_string W 9 _ _ _ Tryd.underlying9]
  have hs : (⟨l.toArray⟩ : ByteArray).size = l.length := by simp [ByteArray.size]
  rw [dif_pos ⟨by omega, by omega⟩]
  congr 3
theorem size_str (l : List UInt8) : (⟨l.toArray⟩ : ByteArray).size = l.length := by simp [ByteArray.size]
def Hd.val (h : Hd) : Value := .agg #[.string ⟨h.n.toArray⟩, .string ⟨h.t.toArray⟩]
def Hd.cells (h : Hd) : List Value := [.string ⟨h.n.toArray⟩, .string ⟨h.t.toArray⟩]
/-- A slice that reads as headers. -/
structure HL (W : World) (A : Option Addr) (n c : Nat) (hs : List Hd) : Prop where
  len : hs.length = n
  h : HoldsS W 2 A n (hs.flatMap Hd.cells)
  mc : n ≤ c
  cm : c ≤ maxLen
  z : A = none → c = 0
theorem HL.below {W W' : World} {A : Option Addr} {n c : Nat} {hs : List Hd} (h : HL W A n c hs) (hb : Below W.heap.size W W') : HL W' A n c hs := ⟨h.len, h.h.keep hb, h.mc, h.cm, h.z⟩
theorem HL.nil (W : World) : HL W none 0 0 [] := ⟨rfl, ⟨rfl, fun _ => rfl, fun b hb => by cases hb⟩, Nat.le_refl _, by unfold maxLen; omega, fun _ => rfl⟩
theorem hd_get (ds : List Hd) : ∀ (i : Nat) (hi : i < ds.length), (ds.flatMap Hd.cells)[i * 2]? = some (.string ⟨ds[i].n.toArray⟩) ∧ (ds.flatMap Hd.cells)[i * 2 + 1]? = some (.string ⟨ds[i].t.toArray⟩) := by
  induction ds with
  | nil => intro i hi; simp at hi
  | cons d ds ih =>
    intro i hi
    cases i with
    | zero => simp [Hd.cells]
    | succ i =>
      have := ih i (by simpa using hi)
      have e : (i + 1) * 2 = 2 + i * 2 := by omega
      have h3 : d.cells.length = 2 := rfl
      simp only [List.flatMap_cons, List.getElem_cons_succ]
      rw [e, List.getElem?_append_right (by omega), List.getElem?_append_right (by omega), h3]
      simpa [Nat.add_assoc] using this
theorem hd_len (ds : List Hd) : (ds.flatMap Hd.cells).length = ds.length * 2 := by
  induction ds with
  | nil => rfl
  | cons d ds ih => simp only [List.flatMap_cons, List.length_append, ih, List.length_cons]; have : d.cells.length = 2 := rfl; omega
structure HAt (W : World) (b o : Nat) (p : Hd) : Prop where
  h0 : W.cell? ⟨b, o, none⟩ = some (.string ⟨p.n.toArray⟩)
  h1 : W.cell? ⟨b, o + 1, none⟩ = some (.string ⟨p.t.toArray⟩)
theorem HAt.below {W W' : World} {b o : Nat} {p : Hd} (h : HAt W b o p) (hb : Below W.heap.size W W') : HAt W' b o p := by
  have key : ∀ {a : Addr} {u : Value}, W.cell? a = some u → W'.cell? a = some u := fun h => (hb.cell (World.block_lt_of_cell? _ _ h)).trans h
  exact ⟨key h.h0, key h.h1⟩
theorem HL.at {W : World} {A : Option Addr} {n c : Nat} {ps : List Hd} (h : HL W A n c ps) (hn : 0 < n) : ∃ b o, A = some ⟨b, o, none⟩ ∧ ∀ (i : Nat) (hi : i < ps.length), HAt W b (o + i * 2) ps[i] := by
  have h0 : A ≠ none := fun hA => by have := h.h.2.1 hA; omega
  obtain ⟨a, rfl⟩ := Option.ne_none_iff_exists'.1 h0
  have hl : 0 < ps.length := by rw [h.len]; exact hn
  have h1 := h.h.2.2 a rfl 0 _ (hd_get ps 0 hl).1
  have hs : a.spot = none := by have := World.cell?_spot h1; simpa [Addr.add] using this
  obtain ⟨b, o, sp⟩ := a
  simp at hs
  subst hs
  refine ⟨b, o, rfl, fun i hi => ?_⟩
  obtain ⟨q1, q2⟩ := hd_get ps i hi
  have k1 := h.h.2.2 _ rfl _ _ q1
  have k2 := h.h.2.2 _ rfl _ _ q2
  rw [Addr.add_lit] at k1 k2
  exact ⟨k1, by rw [Nat.add_assoc]; exact k2⟩
theorem RB.at {W : World} {A : Option Addr} {n c : Nat} {l : List UInt8} (h : RB W A n c l) (hn : 0 < n) : ∃ b o, A = some ⟨b, o, none⟩ ∧ ∀ (i : Nat) (hi : i < l.length), W.cell? ⟨b, o + i, none⟩ = some (.int .u8 ((l[i]).toNat : Int)) := by
  have h0 : A ≠ none := fun hA => by have := (h.h.2.1 hA).1; omega
  obtain ⟨a, rfl⟩ := Option.ne_none_iff_exists'.1 h0
  have hl : 0 < l.length := by rw [h.len]; exact hn
  have hx : ∀ (i : Nat) (hi : i < l.length), W.cell? (a.add i) = some (.int .u8 ((l[i]).toNat : Int)) := fun i hi => h.h.2.2 a rfl i _ (by rw [List.getElem?_map, List.getElem?_eq_getElem hi]; rfl)
  have h1 := hx 0 hl
  have hs : a.spot = none := by have := World.cell?_spot h1; simpa [Addr.add] using this
  obtain ⟨b, o, sp⟩ := a
  simp at hs
  subst hs
  exact ⟨b, o, rfl, fun i hi => by have := hx i hi; rwa [Addr.add_lit] at this⟩

def allB (g : Int → Bool) (l : List UInt8) : Bool := l.all fun c => g c.toNat
theorem allB_take (g : Int → Bool) (l : List UInt8) (i : Nat) (h : i < l.length) : allB g (l.take (i + 1)) = (allB g (l.take i) && g (l[i]).toNat) := by
  unfold allB
  rw [List.take_add_one, List.getElem?_eq_getElem h, List.all_append]
  simp
theorem allB_false (g : Int → Bool) (l : List UInt8) (i : Nat) (h : i < l.length) (hg : g (l[i]).toNat = false) : allB g l = false := by
  unfold allB
  rw [List.all_eq_false]
  exact ⟨_, List.getElem_mem h, by simpa using hg⟩

set_option maxRecDepth 100000 in
set_option maxHeartbeats 1000000 in
theorem index31_any (A : Option Addr) (n c : Nat) (l : List UInt8) (w : World) (h : RB w A n c l) (hn : n ≤ 1000000) :
    Calls Tryd.prog 49 #[.slice A n c, .func (.func 31) #[] #[]] w fun e w' => (∃ i : Int, e = .returned (.int .i64 i) ∧ decide (0 ≤ i) = !allB namedI l) ∧ w' = w := by
  have HP := Lib.hid h
  have HL := Lib.hid h.len
  clear h
  have hn0 : (n : Int) ≤ 1000000 := by omega
  clear hn
  go_enter Tryd.func49, Tryd.ntmps49
  go_wp2_with fail
  go_loopw [8] (fun ii wr => ∃ i : Nat, (i : Int) ≤ n ∧ ii = .int .i64 i ∧ Hid (allB namedI (l.take i) = true) ∧ wr = w) (fun ii _ => n - (intOf ii).toNat)
  case atStart => exact ⟨0, by omega, rfl, Lib.hid rfl, rfl⟩
  case round =>
    obtain ⟨i, hi, rfl, HF, rfl⟩ := hrel
    have hi0 : (0 : Int) ≤ i := by omega
    by_cases hlt : (i : Int) < n
    · have hi1 : i < l.length := by rw [HL.out]; omega
      obtain ⟨b, o, rfl, hat⟩ := HP.out.at (by omega)
      have hA := hat i hi1
      have hs := allB_take namedI l i hi1
      rw [HF.out, Bool.true_and] at hs
      have hs2 := allB_false namedI l i hi1
      have HS := Lib.hid hs
      have HS2 := Lib.hid hs2
      clear hs hs2 hat
      generalize (l[i]).toNat = y at *
      obtain ⟨x, hx⟩ : ∃ x : Int, ((y : Nat) : Int) = x := ⟨_, rfl⟩
      rw [hx] at HS HS2 hA
      have C1 := Lib.hid (notnamed_any x wr)
      clear hx
      generalize hq : namedI x = q at *
      clear hq
      cases q with
      | true =>
        go_wp2_with (go_at_call 31; (with_reducible refine C1.out.mono ?_); rintro e w1 ⟨rfl, rfl⟩)
        go_roundw
        case rel => exact ⟨i + 1, by omega, by go_num, HS, by first | trivial | rfl⟩
        case measure => simp [intOf]; omega
      | false =>
        go_wp2_with (go_at_call 31; (with_reducible refine C1.out.mono ?_); rintro e w1 ⟨rfl, rfl⟩)
        go_ret
        exact ⟨⟨_, rfl, by rw [HS2.out (by first | trivial | rfl)]; simp⟩, rfl⟩
    · have HLE := Lib.hid (show l.take i = l by rw [List.take_of_length_le]; rw [HL.out]; omega)
      go_wp2_with fail
      go_ret
      have := HF.out
      rw [HLE.out] at this
      exact ⟨⟨_, rfl, by rw [this]; simp⟩, rfl⟩
set_option maxRecDepth 100000 in
set_option maxHeartbeats 1000000 in
theorem contains31_any (A : Option Addr) (n c : Nat) (l : List UInt8) (w : World) (h : RB w A n c l) (hn : n ≤ 1000000) :
    Calls Tryd.prog 30 #[.slice A n c, .func (.func 31) #[] #[]] w fun e w' => e = .returned (.bool (!allB namedI l)) ∧ w' = w := by
  have C1 := Lib.hid (index31_any A n c l w h hn)
  generalize allB namedI l = b at *
  clear h hn
  go_enter Tryd.func30, Tryd.ntmps30
  go_wp2_with (go_at_call 49; (with_reducible refine C1.out.mono ?_); rintro e w1 ⟨⟨i, rfl, hi⟩, rfl⟩; have HI := Lib.hid hi; clear hi)
  go_ret
  exact ⟨by rw [← HI.out]; rfl, rfl⟩

set_option maxRecDepth 100000 in
set_option maxHeartbeats 1000000 in
theorem index53_any (A : Option Addr) (n c : Nat) (l : List UInt8) (w : World) (h : RB w A n c l) (hn : n ≤ 1000000) :
    Calls Tryd.prog 49 #[.slice A n c, .func (.func 53) #[] #[]] w fun e w' => (∃ i : Int, e = .returned (.int .i64 i) ∧ decide (0 ≤ i) = !allB txtI l) ∧ w' = w := by
  have HP := Lib.hid h
  have HL := Lib.hid h.len
  clear h
  have hn0 : (n : Int) ≤ 1000000 := by omega
  clear hn
  go_enter Tryd.func49, Tryd.ntmps49
  go_wp2_with fail
  go_loopw [8] (fun ii wr => ∃ i : Nat, (i : Int) ≤ n ∧ ii = .int .i64 i ∧ Hid (allB txtI (l.take i) = true) ∧ wr = w) (fun ii _ => n - (intOf ii).toNat)
  case atStart => exact ⟨0, by omega, rfl, Lib.hid rfl, rfl⟩
  case round =>
    obtain ⟨i, hi, rfl, HF, rfl⟩ := hrel
    have hi0 : (0 : Int) ≤ i := by omega
    by_cases hlt : (i : Int) < n
    · have hi1 : i < l.length := by rw [HL.out]; omega
      obtain ⟨b, o, rfl, hat⟩ := HP.out.at (by omega)
      have hA := hat i hi1
      have hs := allB_take txtI l i hi1
      rw [HF.out, Bool.true_and] at hs
      have hs2 := allB_false txtI l i hi1
      have HS := Lib.hid hs
      have HS2 := Lib.hid hs2
      clear hs hs2 hat
      generalize (l[i]).toNat = y at *
      obtain ⟨x, hx⟩ : ∃ x : Int, ((y : Nat) : Int) = x := ⟨_, rfl⟩
      rw [hx] at HS HS2 hA
      have C1 := Lib.hid (nottext_any x wr)
      clear hx
      generalize hq : txtI x = q at *
      clear hq
      cases q with
      | true =>
        go_wp2_with (go_at_call 53; (with_reducible refine C1.out.mono ?_); rintro e w1 ⟨rfl, rfl⟩)
        go_roundw
        case rel => exact ⟨i + 1, by omega, by go_num, HS, by first | trivial | rfl⟩
        case measure => simp [intOf]; omega
      | false =>
        go_wp2_with (go_at_call 53; (with_reducible refine C1.out.mono ?_); rintro e w1 ⟨rfl, rfl⟩)
        go_ret
        exact ⟨⟨_, rfl, by rw [HS2.out (by first | trivial | rfl)]; simp⟩, rfl⟩
    · have HLE := Lib.hid (show l.take i = l by rw [List.take_of_length_le]; rw [HL.out]; omega)
      go_wp2_with fail
      go_ret
      have := HF.out
      rw [HLE.out] at this
      exact ⟨⟨_, rfl, by rw [this]; simp⟩, rfl⟩
set_option maxRecDepth 100000 in
set_option maxHeartbeats 1000000 in
theorem contains53_any (A : Option Addr) (n c : Nat) (l : List UInt8) (w : World) (h : RB w A n c l) (hn : n ≤ 1000000) :
    Calls Tryd.prog 30 #[.slice A n c, .func (.func 53) #[] #[]] w fun e w' => e = .returned (.bool (!allB txtI l)) ∧ w' = w := by
  have C1 := Lib.hid (index53_any A n c l w h hn)
  generalize allB txtI l = b at *
  clear h hn
  go_enter Tryd.func30, Tryd.ntmps30
  go_wp2_with (go_at_call 49; (with_reducible refine C1.out.mono ?_); rintro e w1 ⟨⟨i, rfl, hi⟩, rfl⟩; have HI := Lib.hid hi; clear hi)
  go_ret
  exact ⟨by rw [← HI.out]; rfl, rfl⟩

/-- The length of a name, as the program asks it. -/
theorem nameOk_b (n : List UInt8) (k : Int) (h : (n.length : Int) = k) : nameOk n = (decide (1 ≤ k) && (decide (k ≤ 32) && allB namedI n)) := by
  unfold nameOk
  have e1 : decide (1 ≤ n.length) = decide (1 ≤ k) := by congr 1; apply propext; omega
  have e2 : decide (n.length ≤ 32) = decide (k ≤ 32) := by congr 1; apply propext; omega
  rw [e1, e2]
  rfl
set_option maxRecDepth 100000 in
set_option maxHeartbeats 1000000 in
theorem name_any (n : List UInt8) (w : World) (hn : n.length ≤ 1000000) :
    Calls Tryd.prog 14 #[.string ⟨n.toArray⟩] w fun e w' => e = .returned (.bool (nameOk n)) ∧ Below w.heap.size w w' := by
  obtain ⟨k, hk⟩ : ∃ k : Int, (n.length : Int) = k := ⟨_, rfl⟩
  obtain ⟨cap, W1, hcv, hr, hb, hlt⟩ := conv_sr w n hn
  have C1 := Lib.hid (contains31_any _ _ _ n W1 hr hn)
  rw [nameOk_b n k hk]
  have HB := Lib.hid hb
  have hsz : ((⟨n.toArray⟩ : ByteArray).size : Int) = k := by rw [size_str]; exact hk
  generalize (⟨n.toArray⟩ : ByteArray) = sb at *
  generalize allB namedI n = b at *
  clear hr hb hlt hk hn
  cases h1 : decide (1 ≤ k) with
  | false =>
    go_enter Tryd.func14, Tryd.ntmps14
    go_wp2_with fail
    go_ret
    exact ⟨rfl, Below.refl _ _⟩
  | true =>
    cases h2 : decide (k ≤ 32) with
    | false =>
      go_enter Tryd.func14, Tryd.ntmps14
      go_wp2_with fail
      go_ret
      exact ⟨rfl, Below.refl _ _⟩
    | true =>
      go_enter Tryd.func14, Tryd.ntmps14
      go_wp2_with (go_at_call 30; (with_reducible refine C1.out.mono ?_); rintro e w1 ⟨rfl, rfl⟩)
      go_ret
      exact ⟨by simp, HB.out⟩
set_option maxRecDepth 100000 in
set_option maxHeartbeats 1000000 in
theorem rname_any (n : List UInt8) (w : World) (hn : n.length ≤ 1000000) :
    Calls Tryd.prog 15 #[.string ⟨n.toArray⟩] w fun e w' => e = .returned (.bool (nameOk n)) ∧ w' = w := by
  obtain ⟨k, hk⟩ : ∃ k : Int, (n.length : Int) = k := ⟨_, rfl⟩
  rw [nameOk_b n k hk]
  have hsz : ((⟨n.toArray⟩ : ByteArray).size : Int) = k := by rw [size_str]; exact hk
  have HK := Lib.hid hk
  have HIX := Lib.hid (fun i h => idx_str w n i h)
  have hk0 : k ≤ 1000000 := by omega
  have hk1 : 0 ≤ k := by omega
  generalize (⟨n.toArray⟩ : ByteArray) = sb at *
  clear hk hn
  go_enter Tryd.func15, Tryd.ntmps15
  go_wp2_with fail
  go_loopw [3] (fun ii wr => ∃ i : Nat, (i : Int) ≤ k ∧ ii = .int .i64 i ∧ Hid (allB namedI (n.take i) = true) ∧ wr = w) (fun ii _ => (k - intOf ii).toNat)
  case atStart => exact ⟨0, by omega, rfl, Lib.hid rfl, rfl⟩
  case round =>
    obtain ⟨i, hi, rfl, HF, rfl⟩ := hrel
    have hi0 : (0 : Int) ≤ i := by omega
    by_cases hlt : (i : Int) < k
    · have hi1 : i < n.length := by have := HK.out; omega
      have hix := HIX.out i hi1
      have hs := allB_take namedI n i hi1
      rw [HF.out, Bool.true_and] at hs
      have HS := Lib.hid hs
      have HS2 := Lib.hid (allB_false namedI n i hi1)
      have hy2 := (n[i]).toNat_lt
      clear hs
      generalize (n[i]).toNat = y at *
      obtain ⟨x, hx⟩ : ∃ x : Int, ((y : Nat) : Int) = x := ⟨_, rfl⟩
      rw [hx] at HS HS2 hix
      have C1 := Lib.hid (rnamed_any x wr (by omega) (by omega))
      clear hx hy2
      generalize hq : namedI x = q at *
      clear hq
      cases q with
      | true =>
        go_wp2_with (go_at_call 33; (with_reducible refine C1.out.mono ?_); rintro e w1 ⟨rfl, rfl⟩)
        go_roundw
        case rel => exact ⟨i + 1, by omega, by go_num, HS, by first | trivial | rfl⟩
        case measure => simp [intOf]; omega
      | false =>
        go_wp2_with (go_at_call 33; (with_reducible refine C1.out.mono ?_); rintro e w1 ⟨rfl, rfl⟩)
        go_ret
        exact ⟨by rw [HS2.out (by first | trivial | rfl)]; simp, rfl⟩
    · have HLE := Lib.hid (show n.take i = n by rw [List.take_of_length_le]; have := HK.out; omega)
      have HA : Hid (allB namedI n = true) := Lib.hid (by rw [← HF.out, HLE.out])
      cases h1 : decide (1 ≤ k) with
      | false =>
        go_wp2_with fail
        go_ret
        exact ⟨rfl, rfl⟩
      | true =>
        cases h2 : decide (k ≤ 32) <;>
        · go_wp2_with fail
          go_ret
          exact ⟨by first | rfl | (rw [HA.out]; first | rfl | simp), rfl⟩
end Go.Proofs.YtkalllenggmgoaaDoor
