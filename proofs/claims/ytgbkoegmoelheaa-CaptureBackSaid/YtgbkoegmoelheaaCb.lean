/- A slice of packets as it lies in memory. size, number, put, padded. -/
import Derived.Test.YtgbkoegmoelheaaCa
namespace Go.Proofs.Ytgbkoegmoelheaa
open Go.RowKit
set_option linter.unusedVariables false
set_option linter.unusedSimpArgs false

/-- A packet as it lies in memory. -/
structure Pd where
  t : Int
  f : Int
  A : Option Addr
  n : Nat
  c : Nat
  d : List UInt8
def Pd.data (p : Pd) : Value := .slice p.A p.n p.c
def Pd.val (p : Pd) : Value := .agg #[.int .i64 p.t, .int .i64 p.f, .slice p.A p.n p.c]
def Pd.cells (p : Pd) : List Value := [.int .i64 p.t, .int .i64 p.f, .slice p.A p.n p.c]
def Pd.pk (p : Pd) : Pk := ⟨p.t, p.f, p.d⟩
structure PdR (W : World) (p : Pd) : Prop where
  t1 : -9223372036854775808 ≤ p.t
  t2 : p.t < 9223372036854775808
  f1 : -9223372036854775808 ≤ p.f
  f2 : p.f < 9223372036854775808
  r : RB W p.A p.n p.c p.d
theorem PdR.below {W W' : World} {p : Pd} (h : PdR W p) (hb : Below W.heap.size W W') : PdR W' p := ⟨h.t1, h.t2, h.f1, h.f2, h.r.below hb⟩
/-- A slice that reads as packets. -/
structure PL (W : World) (A : Option Addr) (n c : Nat) (ps : List Pd) : Prop where
  len : ps.length = n
  h : HoldsS W 3 A n (ps.flatMap Pd.cells)
  mc : n ≤ c
  cm : c ≤ maxLen
  z : A = none → c = 0
  r : ∀ p ∈ ps, PdR W p
theorem PL.below {W W' : World} {A : Option Addr} {n c : Nat} {ps : List Pd} (h : PL W A n c ps) (hb : Below W.heap.size W W') : PL W' A n c ps := ⟨h.len, h.h.keep hb, h.mc, h.cm, h.z, fun p hp => (h.r p hp).below hb⟩
theorem PL.nil (W : World) : PL W none 0 0 [] := ⟨rfl, ⟨rfl, fun _ => rfl, fun b hb => by cases hb⟩, Nat.le_refl _, by unfold maxLen; omega, fun _ => rfl, fun p hp => by cases hp⟩
theorem pd_get (ds : List Pd) : ∀ (i : Nat) (hi : i < ds.length), (ds.flatMap Pd.cells)[i * 3]? = some (.int .i64 ds[i].t) ∧ (ds.flatMap Pd.cells)[i * 3 + 1]? = some (.int .i64 ds[i].f) ∧ (ds.flatMap Pd.cells)[i * 3 + 2]? = some (.slice ds[i].A ds[i].n ds[i].c) := by
  induction ds with
  | nil => intro i hi; simp at hi
  | cons d ds ih =>
    intro i hi
    cases i with
    | zero => simp [Pd.cells]
    | succ i =>
      have := ih i (by simpa using hi)
      have e : (i + 1) * 3 = 3 + i * 3 := by omega
      have h3 : d.cells.length = 3 := rfl
      simp only [List.flatMap_cons, List.getElem_cons_succ]
      rw [e, List.getElem?_append_right (by omega), List.getElem?_append_right (by omega), List.getElem?_append_right (by omega), h3]
      simpa [Nat.add_assoc] using this
theorem pd_len (ds : List Pd) : (ds.flatMap Pd.cells).length = ds.length * 3 := by
  induction ds with
  | nil => rfl
  | cons d ds ih => simp only [List.flatMap_cons, List.length_append, ih, List.length_cons]; have : d.cells.length = 3 := rfl; omega
/-- An element. -/
structure PAt (W : World) (b o : Nat) (p : Pd) : Prop where
  h0 : W.cell? ⟨b, o, none⟩ = some (.int .i64 p.t)
  h1 : W.cell? ⟨b, o + 1, none⟩ = some (.int .i64 p.f)
  h2 : W.cell? ⟨b, o + 2, none⟩ = some (.slice p.A p.n p.c)
theorem PAt.below {W W' : World} {b o : Nat} {p : Pd} (h : PAt W b o p) (hb : Below W.heap.size W W') : PAt W' b o p := by
  have key : ∀ {a : Addr} {u : Value}, W.cell? a = some u → W'.cell? a = some u := fun h => (hb.cell (World.block_lt_of_cell? _ _ h)).trans h
  exact ⟨key h.h0, key h.h1, key h.h2⟩
theorem PL.at {W : World} {A : Option Addr} {n c : Nat} {ps : List Pd} (h : PL W A n c ps) (hn : 0 < n) : ∃ b o, A = some ⟨b, o, none⟩ ∧ ∀ (i : Nat) (hi : i < ps.length), PAt W b (o + i * 3) ps[i] := by
  have h0 : A ≠ none := fun hA => by have := h.h.2.1 hA; omega
  obtain ⟨a, rfl⟩ := Option.ne_none_iff_exists'.1 h0
  have hl : 0 < ps.length := by rw [h.len]; exact hn
  have h1 := h.h.2.2 a rfl 0 _ (pd_get ps 0 hl).1
  have hs : a.spot = none := by have := World.cell?_spot h1; simpa [Addr.add] using this
  obtain ⟨b, o, sp⟩ := a
  simp at hs
  subst hs
  refine ⟨b, o, rfl, fun i hi => ?_⟩
  obtain ⟨q1, q2, q3⟩ := pd_get ps i hi
  have k1 := h.h.2.2 _ rfl _ _ q1
  have k2 := h.h.2.2 _ rfl _ _ q2
  have k3 := h.h.2.2 _ rfl _ _ q3
  rw [Addr.add_lit] at k1 k2 k3
  exact ⟨k1, by rw [Nat.add_assoc]; exact k2, by rw [Nat.add_assoc]; exact k3⟩
theorem RB.at {W : World} {A : Option Addr} {n c : Nat} {l : List UInt8} (h : RB W A n c l) (hn : 0 < n) : ∃ b o, A = some ⟨b, o, none⟩ ∧ ∀ (i : Nat) (hi : i < l.length), W.cell? ⟨b, o + i, none⟩ = some (.int .u8 ((l[i]).toNat : Int)) := by
  have h0 : A ≠ none := fun hA => by have := (h.h.2.1 hA).1; omega
  obtain ⟨a, rfl⟩ := Option.ne_none_iff_exists'.1 h0
  have hl : 0 < l.length := by rw [h.len]; exact hn
  have hx : ∀ (i : Nat) (hi : i < l.length), W.cell? (a.add i) = some (.int .u8 ((l[i]).toNat : Int)) := fun i hi => h.h.2.2 a rfl i _ (by rw [List.getElem?_map, List.getElem?_eq_getElem hi]; rfl)
  have h1 := hx 0 hl
  have hs : a.spot = none := by have := World.cell?_spot h1; simpa [Addr.add] using this
  obtain ⟨b, o, sp⟩ := a
  simp at hs
  subst hs
  exact ⟨b, o, rfl, fun i hi => by have := hx i hi; rwa [Addr.add_lit] at this⟩
def pks (ps : List Pd) : List Pk := ps.map Pd.pk
theorem sizeP_take (ps : List Pd) (i : Nat) (h : i < ps.length) : sizeP (pks (ps.take (i + 1))) = sizeP (pks (ps.take i)) + (10 + (ps[i]).d.length) := by
  rw [pks, pks, List.take_add_one, List.getElem?_eq_getElem h, List.map_append, sizeP_append]
  simp [sizeP, Pd.pk]
theorem sizeP_le (ps : List Pd) (m : Nat) (h : ∀ p ∈ ps, p.d.length ≤ m) : sizeP (pks ps) ≤ ps.length * (10 + m) := by
  induction ps with
  | nil => simp [pks, sizeP]
  | cons p ps ih =>
    have h1 := h p (by simp)
    have h2 := ih fun q hq => h q (by simp [hq])
    have : pks (p :: ps) = p.pk :: pks ps := rfl
    rw [this, sizeP, List.length_cons, Nat.succ_mul]
    have : p.pk.d = p.d := rfl
    rw [this]
    omega

set_option maxRecDepth 100000 in
set_option maxHeartbeats 1000000 in
theorem size_any (A : Option Addr) (n c : Nat) (ps : List Pd) (w : World) (h : PL w A n c ps) (hn : n ≤ 200) (hd : ∀ p ∈ ps, p.n ≤ 30000) :
    Calls Try.prog 34 #[.slice A n c] w fun e w' => e = .returned (.int .i64 (sizeP (pks ps) : Int)) ∧ Below w.heap.size w w' := by
  have HP := Lib.hid h
  have HD := Lib.hid hd
  have HL := Lib.hid h.len
  clear hd h
  have hn0 : (n : Int) ≤ 200 := by omega
  clear hn
  go_enter Try.func34, Try.ntmps34
  go_wp2_with fail
  go_loopw [7, 2] (fun ii aa wr => ∃ i : Nat, (i : Int) ≤ n ∧ ii = .int .i64 i ∧ aa = .int .i64 (sizeP (pks (ps.take i)) : Int) ∧ Hid (Below w.heap.size w wr)) (fun ii _ _ => n - (intOf ii).toNat)
  case atStart => exact ⟨0, by omega, rfl, rfl, Lib.hid (Below.refl _ _)⟩
  case round =>
    obtain ⟨i, hi, rfl, rfl, HB⟩ := hrel
    have hi0 : (0 : Int) ≤ i := by omega
    by_cases hlt : (i : Int) < n
    · have hi1 : i < ps.length := by rw [HL.out]; omega
      obtain ⟨b, o, rfl, hat⟩ := HP.out.at (by omega)
      have hA := (hat i hi1).below HB.out
      have hp := HP.out.r _ (List.getElem_mem hi1)
      have hs := sizeP_take ps i hi1
      have hdl := hp.r.len
      have hdn := HD.out _ (List.getElem_mem hi1)
      generalize ps[i] = p at *
      have hacc := sizeP_le (ps.take i) 30000 (fun q hq => by have h1 := List.mem_of_mem_take hq; have := HD.out q h1; have := (HP.out.r q h1).r.len; omega)
      have hti : (ps.take i).length = i := by rw [List.length_take]; omega
      rw [hti] at hacc
      have HS := Lib.hid hs
      obtain ⟨x, hx⟩ : ∃ x : Int, ((sizeP (pks (ps.take i)) : Nat) : Int) = x := ⟨_, rfl⟩
      have HX := Lib.hid hx
      have hx0 : 0 ≤ x := by omega
      have hx1 : x ≤ 6100000 := by have : i * (10 + 30000) ≤ 200 * 30010 := Nat.mul_le_mul (by omega) (Nat.le_refl _); omega
      obtain ⟨pn, hpn⟩ : ∃ pn : Nat, p.n = pn := ⟨_, rfl⟩
      have HPN := Lib.hid hpn
      have hy0 : (0 : Int) ≤ pn := by omega
      have hy1 : (pn : Int) ≤ 30000 := by omega
      have HDL := Lib.hid hdl
      obtain ⟨f0, f1, f2⟩ := hA
      rw [hpn] at f2
      rw [hx]
      clear hs hx hacc hti hdl hdn hp hat hpn
      go_wp2_with fail
      go_roundw
      case rel => exact ⟨i + 1, by omega, by go_num, by rw [HS.out]; exact congrArg (Value.int .i64) (by have := HX.out; have := HDL.out; have := HPN.out; omega), Lib.hid (HB.out.trans ((Below.refl w.heap.size _).alloc HB.out.size _))⟩
      case measure => simp [intOf]; omega
    · have HLE := Lib.hid (show ps.take i = ps by rw [List.take_of_length_le]; rw [HL.out]; omega)
      go_wp2_with fail
      go_ret
      rw [HLE.out]
      exact ⟨rfl, HB.out⟩

theorem or_byte (x z : Int) (h0 : 0 ≤ x) (h1 : x < 1099511627776) (h2 : 0 ≤ z) (h3 : z < 256) : bits .or .i64 (x * 256) z = 256 * x + z := by
  obtain ⟨a, rfl⟩ := Int.eq_ofNat_of_zero_le h0
  obtain ⟨b, rfl⟩ := Int.eq_ofNat_of_zero_le h2
  have e : ((a : Int) * 256) = ((2 ^ 8 * a : Nat) : Int) := by omega
  rw [e, Ck.i64_or_nat _ _ (by omega) (by omega), ← Nat.two_pow_add_eq_or_of_lt (i := 8) (by omega)]
  omega
theorem num_take (l : List UInt8) (i : Nat) (h : i < l.length) : num (l.take (i + 1)) = 256 * num (l.take i) + (l[i]).toNat := by
  rw [List.take_add_one, List.getElem?_eq_getElem h]
  exact num_snoc _ _

set_option maxRecDepth 100000 in
set_option maxHeartbeats 1000000 in
theorem number_any (A : Option Addr) (n c : Nat) (l : List UInt8) (w : World) (h : RB w A n c l) (hn : n ≤ 6) :
    Calls Try.prog 41 #[.slice A n c] w fun e w' => e = .returned (.int .i64 (num l : Int)) ∧ Below w.heap.size w w' := by
  have HP := Lib.hid h
  have HL := Lib.hid h.len
  clear h
  have hn0 : (n : Int) ≤ 6 := by omega
  clear hn
  go_enter Try.func41, Try.ntmps41
  go_wp2_with fail
  go_loopw [7, 2] (fun ii aa wr => ∃ i : Nat, (i : Int) ≤ n ∧ ii = .int .i64 i ∧ aa = .int .i64 (num (l.take i) : Int) ∧ Hid (Below w.heap.size w wr)) (fun ii _ _ => n - (intOf ii).toNat)
  case atStart => exact ⟨0, by omega, rfl, rfl, Lib.hid (Below.refl _ _)⟩
  case round =>
    obtain ⟨i, hi, rfl, rfl, HB⟩ := hrel
    have hi0 : (0 : Int) ≤ i := by omega
    by_cases hlt : (i : Int) < n
    · have hi1 : i < l.length := by rw [HL.out]; omega
      obtain ⟨b, o, rfl, hat⟩ := HP.out.at (by omega)
      have hA := (HB.out.cell (World.block_lt_of_cell? _ _ (hat i hi1))).trans (hat i hi1)
      have hs := num_take l i hi1
      have hx2 := (l[i]).toNat_lt
      generalize (l[i]).toNat = y at *
      have hacc := num_lt (l.take i)
      have hti : (l.take i).length = i := by rw [List.length_take]; omega
      rw [hti] at hacc
      have hpw : 256 ^ i ≤ 256 ^ 5 := Nat.pow_le_pow_right (by omega) (by omega)
      have HS := Lib.hid hs
      obtain ⟨x, hx⟩ : ∃ x : Int, ((num (l.take i) : Nat) : Int) = x := ⟨_, rfl⟩
      obtain ⟨z, hz⟩ : ∃ z : Int, ((y : Nat) : Int) = z := ⟨_, rfl⟩
      have HX := Lib.hid hx
      have HZ := Lib.hid hz
      have hx0 : 0 ≤ x := by omega
      have hx1 : x < 1099511627776 := by omega
      have hz0 : 0 ≤ z := by omega
      have hz1 : z < 256 := by omega
      rw [hz] at hA
      rw [hx]
      clear hs hx hz hacc hti hpw hat hx2
      have hor := or_byte x z hx0 hx1 hz0 hz1
      go_wp2_with fail
      go_roundw
      case rel => exact ⟨i + 1, by omega, by go_num, by rw [HS.out]; exact congrArg (Value.int .i64) (by have := HX.out; have := HZ.out; omega), HB⟩
      case measure => simp [intOf]; omega
    · have HLE := Lib.hid (show l.take i = l by rw [List.take_of_length_le]; rw [HL.out]; omega)
      go_wp2_with fail
      go_ret
      rw [HLE.out]
      exact ⟨rfl, HB.out⟩

set_option maxRecDepth 100000 in
set_option maxHeartbeats 1000000 in
theorem padded_any (n : Nat) (w : World) (hn : n ≤ 1000000) :
    Calls Try.prog 35 #[.int .i64 (n : Int)] w fun e w' => e = .returned (.int .i64 (padN n : Int)) ∧ w' = w := by
  have e : ((padN n : Nat) : Int) = ((n : Int) + 3).tdiv 4 * 4 := by
    rw [Int.tdiv_eq_ediv_of_nonneg (by omega)]; unfold padN; omega
  obtain ⟨x, hx⟩ : ∃ x : Int, (n : Int) = x := ⟨_, rfl⟩
  rw [e, hx]
  have hx0 : 0 ≤ x := by omega
  have hx1 : x ≤ 1000000 := by omega
  have hq0 : 0 ≤ (x + 3).tdiv 4 := by rw [Int.tdiv_eq_ediv_of_nonneg (by omega)]; omega
  have hq1 : (x + 3).tdiv 4 ≤ 1000000 := by rw [Int.tdiv_eq_ediv_of_nonneg (by omega)]; omega
  clear e hx hn
  generalize hq : (x + 3).tdiv 4 = q at *
  go_enter Try.func35, Try.ntmps35
  go_wp2_with fail
  go_ret
  exact ⟨rfl, rfl⟩
end Go.Proofs.Ytgbkoegmoelheaa
