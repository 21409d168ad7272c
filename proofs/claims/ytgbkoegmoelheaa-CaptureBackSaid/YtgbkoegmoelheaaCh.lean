/- Block: its contract. -/
import Derived.Test.YtgbkoegmoelheaaCg
import Derived.Lib.SlBytesConst
import Derived.Deep.CutRange
namespace Go.Proofs.Ytgbkoegmoelheaa
open Go.RowKit
set_option linter.unusedVariables false
set_option linter.unusedSimpArgs false

/-- A row of bytes of the call's own. -/
structure RowW (w W : World) (v : Value) (xs : List UInt8) : Prop where
  own : W.ownsRow w.heap.size 5 1 v xs.length (xs.map u8)
  below : Below w.heap.size w W
theorem RowW.put {w W W2 : World} {v v2 : Value} {xs ys : List UInt8} (h : RowW w W v xs) (k : PutS W W2 w.heap.size v ys v2) : RowW w W2 v2 ys :=
  ⟨k.own, h.below.trans (k.only.to_below h.below.size fun b hb e => by have := (h.own.lt b e).1; omega)⟩
theorem RowW.over {w W W2 : World} {v : Value} {xs : List UInt8} (h : RowW w W v xs) (hb : Below W.heap.size W W2) : RowW w W2 v xs :=
  ⟨own_keeps h.own fun g hg => hb.block g (own_lt h.own g hg), h.below.trans (hb.mono h.below.size)⟩
theorem RowW.form {w W : World} {v : Value} {xs : List UInt8} (h : RowW w W v xs) : ∃ A c, v = .slice A xs.length c := by
  obtain ⟨A, c, e, -⟩ := own_form h.own
  exact ⟨A, c, e⟩
theorem RowW.up {w W W2 : World} {v : Value} {xs : List UInt8} (h : RowW W W2 v xs) (hb : Below w.heap.size w W) : RowW w W2 v xs := ⟨own_base h.own hb.size, hb.trans (h.below.mono hb.size)⟩
/-- The packet that a round looks at. -/
structure PAt3 (b tn fn : Nat) (p : Pd) (W : World) : Prop where
  h0 : W.cell? ⟨b, 0, none⟩ = some (.int .i64 (tn : Int))
  h1 : W.cell? ⟨b, 1, none⟩ = some (.int .i64 (fn : Int))
  h2 : W.cell? ⟨b, 2, none⟩ = some (.slice p.A p.n p.c)
theorem PAt3.put {b tn fn B : Nat} {p : Pd} {W W' : World} {v v' : Value} {zs : List UInt8} (h : PAt3 b tn fn p W) (hp : PutS W W' B v zs v') (hne : v.ownBlock ≠ some b) : PAt3 b tn fn p W' := by
  have key : ∀ (k : Nat) {u : Value}, W.cell? ⟨b, k, none⟩ = some u → W'.cell? ⟨b, k, none⟩ = some u := fun k u h => by
    have h1 := hp.only.block b (World.block_lt_of_cell? _ _ h) hne
    rw [← h]
    unfold World.cell?
    rw [h1]
  exact ⟨key 0 h.h0, key 1 h.h1, key 2 h.h2⟩
theorem body_take (ps : List Pd) (i : Nat) (h : i < ps.length) : bodyP (pks (ps.take (i + 1))) = bodyP (pks (ps.take i)) ++ encP (ps[i]).pk := by
  rw [pks, pks, List.take_add_one, List.getElem?_eq_getElem h, List.map_append]
  simp [bodyP]
theorem put1_any (B : Nat) (v : Value) (xs : List UInt8) (x : Nat) (w : World) (h : w.ownsRow B 5 1 v xs.length (xs.map u8)) (hB : B ≤ w.heap.size) (hx : x < 1099511627776 * 256) (hl : xs.length ≤ 1000000) :
    Calls Try.prog 33 #[v, .int .i64 (x : Int), .int .i64 1] w fun e w' => ∃ v', e = .returned v' ∧ PutS w w' B v (xs ++ be x 1) v' := put_any B v xs x 1 w h hB hx (by decide) hl
theorem put2_any (B : Nat) (v : Value) (xs : List UInt8) (x : Nat) (w : World) (h : w.ownsRow B 5 1 v xs.length (xs.map u8)) (hB : B ≤ w.heap.size) (hx : x < 1099511627776 * 256) (hl : xs.length ≤ 1000000) :
    Calls Try.prog 33 #[v, .int .i64 (x : Int), .int .i64 2] w fun e w' => ∃ v', e = .returned v' ∧ PutS w w' B v (xs ++ be x 2) v' := put_any B v xs x 2 w h hB hx (by decide) hl
theorem put4_any (B : Nat) (v : Value) (xs : List UInt8) (x : Nat) (w : World) (h : w.ownsRow B 5 1 v xs.length (xs.map u8)) (hB : B ≤ w.heap.size) (hx : x < 1099511627776 * 256) (hl : xs.length ≤ 1000000) :
    Calls Try.prog 33 #[v, .int .i64 (x : Int), .int .i64 4] w fun e w' => ∃ v', e = .returned v' ∧ PutS w w' B v (xs ++ be x 4) v' := put_any B v xs x 4 w h hB hx (by decide) hl
theorem put6_any (B : Nat) (v : Value) (xs : List UInt8) (x : Nat) (w : World) (h : w.ownsRow B 5 1 v xs.length (xs.map u8)) (hB : B ≤ w.heap.size) (hx : x < 1099511627776 * 256) (hl : xs.length ≤ 1000000) :
    Calls Try.prog 33 #[v, .int .i64 (x : Int), .int .i64 6] w fun e w' => ∃ v', e = .returned v' ∧ PutS w w' B v (xs ++ be x 6) v' := put_any B v xs x 6 w h hB hx (by decide) hl
theorem RB.litM (w : World) (l : List UInt8) (m a b : Nat) (cs : Array Value) (hc : cs = (l.map u8).toArray) (hl : l.length = m) (hm : m ≤ 1000) : RB (w.alloc (.cells cs 5 (a, b))) (some ⟨w.heap.size, 0, none⟩) m m l := by
  subst hc
  have hk : ∀ j, (w.alloc (.cells (l.map u8).toArray 5 (a, b))).cell? ⟨w.heap.size, j, none⟩ = (l.map u8).toArray[j]? := fun j => cell_of_row _ _ _ _ _ (a, b) (heap_alloc_new w _)
  refine ⟨hl, ⟨by simpa using hl, (fun e => by cases e), fun c e j u hj => ?_⟩, Nat.le_refl _, by unfold maxLen; omega, fun e => by cases e⟩
  cases e
  rw [Addr.add_lit, Nat.zero_add, hk j]
  simpa using hj
theorem info5_eq : ∃ i, Try.prog.info? 5 = some i ∧ i.zero = some (.int .u8 0) ∧ i.size = 1 ∧ i.bytes = 1 := info_parts (by kernel_rfl)

set_option maxRecDepth 100000 in
set_option maxHeartbeats 1000000 in
/-- put behind a row that is full. -/
theorem put_full (A : Option Addr) (k : Nat) (xs : List UInt8) (x : Nat) (w : World) (h : RB w A k k xs) (hx : x < 256) (hl : k ≤ 1000000) :
    Calls Try.prog 33 #[.slice A k k, .int .i64 (x : Int), .int .i64 1] w fun e w' => ∃ v', e = .returned v' ∧ RowW w w' v' (xs ++ be x 1) := by
  have HR := Lib.hid h
  have hby : (x : Int) % 256 = (x : Int) := by omega
  obtain ⟨X, hX⟩ : ∃ X : Int, (x : Int) = X := ⟨_, rfl⟩
  have HX := Lib.hid hX
  have hX0 : 0 ≤ X := by omega
  have hX1 : X < 256 := by omega
  have HB1 : Hid ([Value.int .u8 X] = (be x 1).map Go.Proofs.Ytgbkoegmoelheaa.u8) := Lib.hid (by
    rw [← hX]
    simp [be, Go.Proofs.Ytgbkoegmoelheaa.u8]
    omega)
  have HLL := Lib.hid hl
  rw [hX] at hby ⊢
  clear h hx hl hX
  go_enter Try.func33, Try.ntmps33
  go_wp2_with fail
  go_loopw [7, 0] (fun ii vv wr => ∃ j : Nat, j ≤ 1 ∧ ii = .int .i64 ((j : Int) - 1) ∧ (j = 1 → vv = .slice A k k) ∧ Hid (Below w.heap.size w wr) ∧ Hid (j = 0 → RowW w wr vv (xs ++ be x 1))) (fun ii _ _ => (intOf ii + 1).toNat)
  case atStart => exact ⟨1, by omega, rfl, fun _ => rfl, Lib.hid (Below.refl _ _), Lib.hid (by omega)⟩
  case round =>
    obtain ⟨j, hj, rfl, hv, HB, HW⟩ := hrel
    obtain rfl | rfl : j = 0 ∨ j = 1 := by omega
    · go_wp2_with fail
      go_ret
      exact ⟨_, rfl, HW.out (by trivial)⟩
    · obtain rfl := hv rfl
      clear hv HW
      go_wp2_with (at_builtin; go_must (refine wpList_app_grows (n := k) (m := 1) (xs := xs.map Go.Proofs.Ytgbkoegmoelheaa.u8) (news := [.int .u8 X]) rfl (.tmp 14) (.tmp 20) 23 rfl el22 rfl ((HR.out.below HB.out).h.alloc _) (fun e => HR.out.z e) rfl (Holds.one _ _ _) (by simp [Value.oneCell']) (by omega) (Nat.le_refl _) (by have := HLL.out; unfold maxLen; omega) (by have := HLL.out; omega) ?_; intro v2 w2 hown hg; refine Hid.out ?_))
      rw [HB1.out] at hown
      have HW2 := Lib.hid (show RowW w w2 v2 (xs ++ be x 1) from ⟨own_base (by rw [List.length_append, be_length, List.map_append, HR.out.len]; exact hown) (by have := HB.out.size; simp; omega), (HB.out.alloc HB.out.size _).grown hg (by have := HB.out.size; simp; omega) (fun k hk => by cases hk)⟩)
      refine Lib.hid ?_
      clear hown hg
      go_wp2_with fail
      go_roundw
      case rel => exact ⟨0, by omega, by go_num, by omega, Lib.hid HW2.out.below, Lib.hid fun _ => HW2.out⟩
      case measure => simp [intOf]

def hdB (ps : List Pd) (n : Nat) : List UInt8 := magicB ++ be n 1 ++ be (sizeP (pks ps)) 2

set_option maxRecDepth 100000 in
set_option maxHeartbeats 4000000 in
theorem blockB_yes (A : Option Addr) (n c : Nat) (ps : List Pd) (w : World) (h : PL w A n c ps) (hbad : badAt ps = false) (hfit : fitsP (pks ps) = true) :
    Calls Try.prog 11 #[.slice A n c] w fun e w' => Fresh w (encB (pks ps)) (fun v => .tuple #[v, .int .i64 0]) e w' := by
  have hv : ∀ p ∈ ps, validP p.pk = true := fun p hp => by
    unfold badAt at hbad
    have := (List.any_eq_false.1 hbad) p hp
    simpa using this
  have hv2 : ∀ p ∈ ps, 0 ≤ p.t ∧ p.t ≤ 1099511627776 ∧ 0 ≤ p.f ∧ p.f ≤ 65535 ∧ p.n ≤ 4096 := fun p hp => by
    have h1 := validP_iff.1 (hv p hp)
    have h2 := (h.r p hp).r.len
    have e : p.pk.d.length = p.n := h2
    rw [e] at h1
    exact h1
  have hlen : (pks ps).length = n := by unfold pks; rw [List.length_map]; exact h.len
  have hf := hfit
  unfold fitsP at hf
  rw [hlen] at hf
  simp only [Bool.and_eq_true, decide_eq_true_eq] at hf
  obtain ⟨hn1, hn64, hsz, -⟩ := hf
  have C30 := Lib.hid (contains_any A n c ps w h (by omega) (fun p hp => by have := hv2 p hp; omega))
  have C32 := Lib.hid (fun (W : World) (hb : Below w.heap.size w W) => block_any A n c ps W (h.below hb) (by omega) (fun p hp => by have := hv2 p hp; omega) (fun p hp => by have := hv2 p hp; omega))
  have C34 := Lib.hid (fun (W : World) (hb : Below w.heap.size w W) => size_any A n c ps W (h.below hb) (by omega) (fun p hp => by have := hv2 p hp; omega))
  rw [hbad] at C30
  rw [hfit] at C32
  have HP := Lib.hid h
  have HV := Lib.hid hv2
  have HL := Lib.hid h.len
  have HSZ := Lib.hid hsz
  have HN := Lib.hid (And.intro hn1 hn64)
  have hn0 : (n : Int) ≤ 64 := by omega
  clear h hbad hfit hv hv2 hlen hn1 hn64 hsz
  go_enter Try.func11, Try.ntmps11
  go_upto_region 3 with (first | (go_at_call 30; (with_reducible refine C30.out.mono ?_); rintro e w1 ⟨rfl, hb⟩; have HB1 := Lib.hid hb; clear hb) | (go_at_call 32; (with_reducible refine (C32.out _ HB1.out).mono ?_); rintro e w2 ⟨rfl, hb2⟩; have HB2 := Lib.hid (HB1.out.trans (hb2.mono HB1.out.size)); clear hb2))
  have hcv := Lib.run_convert_bytes_const (P := Try.prog) w2 23 5 #[.int .u8 80, .int .u8 66, .int .u8 75, .int .u8 49] 4 4 Try.underlying23 Try.underlying5
  have C33a := Lib.hid (put_full _ 4 magicB n _ (RB.litM w2 magicB 4 4 5 #[.int .u8 80, .int .u8 66, .int .u8 75, .int .u8 49] rfl rfl (by omega)) (by have := HN.out; omega) (by omega))
  have HB2b := Lib.hid (HB2.out.alloc HB2.out.size (.cells #[.int .u8 80, .int .u8 66, .int .u8 75, .int .u8 49] 5 (4, 5)))
  go_wp2_with (go_at_call 33; (with_reducible refine C33a.out.mono ?_); rintro e w3 ⟨v3, rfl, hp⟩; have HR3 := Lib.hid (hp.up HB2b.out); clear hp; refine Hid.out ?_)
  refine Lib.hid ?_
  go_wp2_with (go_at_call 34; (with_reducible refine (C34.out _ HR3.out.below).mono ?_); rintro e w4 ⟨rfl, hb⟩; have HR4 := Lib.hid (HR3.out.over hb); clear hb; refine Hid.out ?_)
  refine Lib.hid ?_
  have C33b := Lib.hid (put2_any w.heap.size v3 (magicB ++ be n 1) (sizeP (pks ps)) w4 HR4.out.own HR4.out.below.size (by have := HSZ.out; omega) (by simp [magicB, be_length]))
  go_wp2_with (go_at_call 33; (with_reducible refine C33b.out.mono ?_); rintro e w5 ⟨v5, rfl, hp⟩; have HR5 := Lib.hid (HR4.out.put hp); clear hp)
  clear C33a C33b hcv
  go_loopw [24, 4] (fun ii vv wr => ∃ (i : Nat) (v : Value), (i : Int) ≤ n ∧ ii = .int .i64 i ∧ v = vv ∧ Hid (RowW w wr v (hdB ps n ++ bodyP (pks (ps.take i))))) (fun ii _ _ => n - (intOf ii).toNat)
  case atStart => exact ⟨0, _, by omega, rfl, rfl, Lib.hid (by simpa [hdB, bodyP, pks] using HR5.out)⟩
  case round =>
    obtain ⟨i, v, hi, rfl, rfl, HR⟩ := hrel
    have hi0 : (0 : Int) ≤ i := by omega
    obtain ⟨wo, rfl⟩ : ∃ wo : World, wo = wr := ⟨_, rfl⟩
    by_cases hlt : (i : Int) < n
    · have hi1 : i < ps.length := by rw [HL.out]; omega
      obtain ⟨b, o, rfl, hat⟩ := HP.out.at (by omega)
      have hA := (hat i hi1).below HR.out.below
      have hbt := body_take ps i hi1
      have hpv := HV.out _ (List.getElem_mem hi1)
      have hpr := ((HP.out.r _ (List.getElem_mem hi1)).r).below HR.out.below
      have hse := fun (a : Addr) (hA : (ps[i]).A = some a) (h0 : 0 < (ps[i]).n) => (HP.out.r _ (List.getElem_mem hi1)).r.lt h0 hA
      have hll : (hdB ps n ++ bodyP (pks (ps.take i))).length ≤ 300000 := by
        rw [List.length_append, bodyP_length]
        have h1 := sizeP_le (ps.take i) 4096 (fun q hq => by have h1 := List.mem_of_mem_take hq; have := HV.out q h1; have := (HP.out.r q h1).r.len; omega)
        have h2 : (ps.take i).length = i := by rw [List.length_take]; omega
        rw [h2] at h1
        have h3 : (hdB ps n).length = 7 := by simp [hdB, magicB, be_length]
        have h4 : i * (10 + 4096) ≤ 64 * 4106 := Nat.mul_le_mul (by omega) (Nat.le_refl _)
        omega
      generalize ps[i] = p at *
      obtain ⟨f0, f1, f2⟩ := hA
      obtain ⟨tn, htn⟩ := Int.eq_ofNat_of_zero_le hpv.1
      obtain ⟨fn, hfn⟩ := Int.eq_ofNat_of_zero_le hpv.2.2.1
      have hbt2 : bodyP (pks (ps.take (i + 1))) = bodyP (pks (ps.take i)) ++ (be tn 6 ++ be fn 2 ++ be p.n 2 ++ p.d) := by
        rw [hbt]
        have e1 : p.pk.t.toNat = tn := by show p.t.toNat = tn; rw [htn]; rfl
        have e2 : p.pk.f.toNat = fn := by show p.f.toNat = fn; rw [hfn]; rfl
        have e3 : p.pk.d.length = p.n := hpr.len
        unfold encP
        rw [e1, e2, e3]
        rfl
      rw [htn] at f0 hpv
      rw [hfn] at f1 hpv
      have HPV := Lib.hid (show (tn : Nat) ≤ 1099511627776 ∧ fn ≤ 65535 ∧ p.n ≤ 4096 by omega)
      have HBT := Lib.hid hbt2
      have HRPW := Lib.hid hpr
      have HSEW := Lib.hid hse
      have HLLW := Lib.hid hll
      clear hat hbt hbt2 hpv hpr hse hll htn hfn hi1
      go_upto_region 7 with fail
      have HB6 := Lib.hid (below_drew (HR.out.below.alloc HR.out.below.size (.cells #[.int .i64 (tn : Int), .int .i64 (fn : Int), .slice p.A p.n p.c] 31)))
      have hb7 := below_drew ((Below.refl wo.heap.size wo).alloc (Nat.le_refl _) (.cells #[.int .i64 (tn : Int), .int .i64 (fn : Int), .slice p.A p.n p.c] 31))
      have HR6 := Lib.hid (HR.out.over hb7)
      have HRP := Lib.hid (HRPW.out.below hb7)
      have HDL := Lib.hid HRP.out.len
      have hS0 : PAt3 wo.heap.size tn fn p (wo.alloc (.cells #[.int .i64 (tn : Int), .int .i64 (fn : Int), .slice p.A p.n p.c] 31)).drew := by
        have k := Blk.new wo 31 #[.int .i64 (tn : Int), .int .i64 (fn : Int), .slice p.A p.n p.c]
        exact ⟨k.cell 0, k.cell 1, k.cell 2⟩
      have HNE := Lib.hid (show v.ownBlock ≠ some wo.heap.size from fun e => by have := (HR.out.own.lt _ e).2; omega)
      have HSE := Lib.hid (show ∀ a, p.A = some a → 0 < p.n → ¬ (v.ownBlock = some a.block) from fun a hA h0 e => by have h1 := HSEW.out a hA h0; have := (HR.out.own.lt _ e).1; omega)
      have HP0 := Lib.hid (PutS.refl HR6.out.own)
      have HI := Lib.hid (And.intro hi0 hlt)
      obtain ⟨zs, hzs⟩ : ∃ zs, hdB ps n ++ bodyP (pks (ps.take i)) = zs := ⟨_, rfl⟩
      rw [hzs] at HP0 HLLW HR6
      have HZS := Lib.hid hzs
      have HLL := Lib.hid HLLW.out
      clear f0 f1 f2 hn0 hi hi0 hlt hb7 hzs
      refine wp_region_G (S0 := (PAt3 wo.heap.size tn fn p)) (S1 := (PAt3 wo.heap.size tn fn p)) (c := 99) (by kernel_rfl) ?_
      have hHeld := hS0
      have h01 := (fun (W : World) (h : (PAt3 wo.heap.size tn fn p) W) => h)
      refine wpG_takeB (i := 0) (oi := ⟨some 28, _, _, _, _, _⟩) (v := v) rfl (by kernel_rfl) (by kernel_rfl) (by kernel_rfl) (by decide) (fun _ _ _ h => h) h01 rfl hHeld (Or.inl ⟨by rfl, ?_⟩) ?_
      · (intro W9 hSw; obtain ⟨q1, q2, q3⟩ := hSw; go_simp; (try (first | with_reducible rfl | rfl | (simp; done) | (exact HWR.out))))
      try simp only [Act.put, List.setIfInBounds_toArray, List.set_cons_zero, List.set_cons_succ]
      refine wpG_takeB (i := 1) (oi := ⟨some 29, _, _, _, _, _⟩) (v := .pointer (some ⟨wo.heap.size, 0, none⟩)) rfl (by kernel_rfl) (by kernel_rfl) (by kernel_rfl) (by decide) (fun _ _ _ h => h) h01 rfl hHeld (Or.inl ⟨by rfl, ?_⟩) ?_
      · (intro W9 hSw; obtain ⟨q1, q2, q3⟩ := hSw; go_simp; (try (first | with_reducible rfl | rfl | (simp; done) | (exact HWR.out))))
      try simp only [Act.put, List.setIfInBounds_toArray, List.set_cons_zero, List.set_cons_succ]
      refine wpG_takeB (i := 2) (oi := ⟨some 30, _, _, _, _, _⟩) (v := .int .i64 (tn : Int)) rfl (by kernel_rfl) (by kernel_rfl) (by kernel_rfl) (by decide) (fun _ _ _ h => h) h01 rfl hHeld (Or.inl ⟨by rfl, ?_⟩) ?_
      · (intro W9 hSw; obtain ⟨q1, q2, q3⟩ := hSw; go_simp; (try (first | with_reducible rfl | rfl | (simp; done) | (exact HWR.out))))
      try simp only [Act.put, List.setIfInBounds_toArray, List.set_cons_zero, List.set_cons_succ]
      refine wpG_takeB (i := 4) (oi := ⟨some 32, _, _, _, _, _⟩) (v := .pointer (some ⟨wo.heap.size, 1, none⟩)) rfl (by kernel_rfl) (by kernel_rfl) (by kernel_rfl) (by decide) (fun _ _ _ h => h) h01 rfl hHeld (Or.inl ⟨by rfl, ?_⟩) ?_
      · (intro W9 hSw; obtain ⟨q1, q2, q3⟩ := hSw; go_simp; (try (first | with_reducible rfl | rfl | (simp; done) | (exact HWR.out))))
      try simp only [Act.put, List.setIfInBounds_toArray, List.set_cons_zero, List.set_cons_succ]
      refine wpG_takeB (i := 5) (oi := ⟨some 33, _, _, _, _, _⟩) (v := .int .i64 (fn : Int)) rfl (by kernel_rfl) (by kernel_rfl) (by kernel_rfl) (by decide) (fun _ _ _ h => h) h01 rfl hHeld (Or.inl ⟨by rfl, ?_⟩) ?_
      · (intro W9 hSw; obtain ⟨q1, q2, q3⟩ := hSw; go_simp; (try (first | with_reducible rfl | rfl | (simp; done) | (exact HWR.out))))
      try simp only [Act.put, List.setIfInBounds_toArray, List.set_cons_zero, List.set_cons_succ]
      refine wpG_takeB (i := 7) (oi := ⟨some 35, _, _, _, _, _⟩) (v := .pointer (some ⟨wo.heap.size, 2, none⟩)) rfl (by kernel_rfl) (by kernel_rfl) (by kernel_rfl) (by decide) (fun _ _ _ h => h) h01 rfl hHeld (Or.inl ⟨by rfl, ?_⟩) ?_
      · (intro W9 hSw; obtain ⟨q1, q2, q3⟩ := hSw; go_simp; (try (first | with_reducible rfl | rfl | (simp; done) | (exact HWR.out))))
      try simp only [Act.put, List.setIfInBounds_toArray, List.set_cons_zero, List.set_cons_succ]
      refine wpG_takeB (i := 8) (oi := ⟨some 36, _, _, _, _, _⟩) (v := .slice p.A p.n p.c) rfl (by kernel_rfl) (by kernel_rfl) (by kernel_rfl) (by decide) (fun _ _ _ h => h) h01 rfl hHeld (Or.inl ⟨by rfl, ?_⟩) ?_
      · (intro W9 hSw; obtain ⟨q1, q2, q3⟩ := hSw; go_simp; (try (first | with_reducible rfl | rfl | (simp; done) | (exact HWR.out))))
      try simp only [Act.put, List.setIfInBounds_toArray, List.set_cons_zero, List.set_cons_succ]
      refine wpG_takeB (i := 9) (oi := ⟨some 37, _, _, _, _, _⟩) (v := .int .i64 (p.n : Int)) rfl (by kernel_rfl) (by kernel_rfl) (by kernel_rfl) (by decide) (fun _ _ _ h => h) h01 rfl hHeld (Or.inl ⟨by rfl, ?_⟩) ?_
      · (intro W9 hSw; obtain ⟨q1, q2, q3⟩ := hSw; go_simp; (try (first | with_reducible rfl | rfl | (simp; done) | (exact HWR.out))))
      try simp only [Act.put, List.setIfInBounds_toArray, List.set_cons_zero, List.set_cons_succ]
      refine wpG_takeB (i := 11) (oi := ⟨some 39, _, _, _, _, _⟩) (v := .pointer (some ⟨wo.heap.size, 2, none⟩)) rfl (by kernel_rfl) (by kernel_rfl) (by kernel_rfl) (by decide) (fun _ _ _ h => h) h01 rfl hHeld (Or.inl ⟨by rfl, ?_⟩) ?_
      · (intro W9 hSw; obtain ⟨q1, q2, q3⟩ := hSw; go_simp; (try (first | with_reducible rfl | rfl | (simp; done) | (exact HWR.out))))
      try simp only [Act.put, List.setIfInBounds_toArray, List.set_cons_zero, List.set_cons_succ]
      refine wpG_takeB (i := 12) (oi := ⟨some 40, _, _, _, _, _⟩) (v := .slice p.A p.n p.c) rfl (by kernel_rfl) (by kernel_rfl) (by kernel_rfl) (by decide) (fun _ _ _ h => h) h01 rfl hHeld (Or.inl ⟨by rfl, ?_⟩) ?_
      · (intro W9 hSw; obtain ⟨q1, q2, q3⟩ := hSw; go_simp; (try (first | with_reducible rfl | rfl | (simp; done) | (exact HWR.out))))
      try simp only [Act.put, List.setIfInBounds_toArray, List.set_cons_zero, List.set_cons_succ]
      refine wpG_oneB (i := 3) (o := ⟨some 31, _, _, _, _, _⟩) (by kernel_rfl) rfl rfl (fun K hK => ?_)
      go_simp
      (with_reducible refine (put6_any w.heap.size v zs tn _ HP0.out.own (Nat.le_trans HB6.out.size HP0.out.only.size) (by have := HPV.out; omega) (by have := HLL.out; (try simp only [List.length_append, be_length]); omega)).mono ?_); rintro e w1 ⟨v1, rfl, hp⟩
      have HP1 := Lib.hid (HP0.out.trans hp)
      clear hp
      refine hK.out _ _ (hS0.put HP1.out HNE.out) (fun hHeld => ?_)
      clear hK K
      try simp only [Act.put, List.setIfInBounds_toArray, List.set_cons_zero, List.set_cons_succ]
      refine wpG_oneB (i := 6) (o := ⟨some 34, _, _, _, _, _⟩) (by kernel_rfl) rfl rfl (fun K hK => ?_)
      go_simp
      (with_reducible refine (put2_any w.heap.size v1 (zs ++ be tn 6) fn _ HP1.out.own (Nat.le_trans HB6.out.size HP1.out.only.size) (by have := HPV.out; omega) (by have := HLL.out; (try simp only [List.length_append, be_length]); omega)).mono ?_); rintro e w2 ⟨v2, rfl, hp⟩
      have HP2 := Lib.hid (HP1.out.trans hp)
      clear hp
      refine hK.out _ _ (hS0.put HP2.out HNE.out) (fun hHeld => ?_)
      clear hK K
      try simp only [Act.put, List.setIfInBounds_toArray, List.set_cons_zero, List.set_cons_succ]
      refine wpG_oneB (i := 10) (o := ⟨some 38, _, _, _, _, _⟩) (by kernel_rfl) rfl rfl (fun K hK => ?_)
      go_simp
      (with_reducible refine (put2_any w.heap.size v2 (zs ++ be tn 6 ++ be fn 2) p.n _ HP2.out.own (Nat.le_trans HB6.out.size HP2.out.only.size) (by have := HPV.out; omega) (by have := HLL.out; (try simp only [List.length_append, be_length]); omega)).mono ?_); rintro e w3 ⟨v3, rfl, hp⟩
      have HP3 := Lib.hid (HP2.out.trans hp)
      clear hp
      refine hK.out _ _ (hS0.put HP3.out HNE.out) (fun hHeld => ?_)
      clear hK K
      try simp only [Act.put, List.setIfInBounds_toArray, List.set_cons_zero, List.set_cons_succ]
      refine wpG_oneB (i := 13) (o := ⟨some 41, _, _, _, _, _⟩) (by kernel_rfl) rfl rfl (fun K hK => ?_)
      refine step_app_own (base := w.heap.size) (n := (zs ++ be tn 6 ++ be fn 2 ++ be p.n 2).length) (m := p.n) (xs := (zs ++ be tn 6 ++ be fn 2 ++ be p.n 2).map Go.Proofs.Ytgbkoegmoelheaa.u8) (news := p.d.map Go.Proofs.Ytgbkoegmoelheaa.u8) rfl (.tmp 38) (.tmp 40) 23 rfl el22 rfl HP3.out.own rfl (HRP.out.only HP3.out.only HSE.out).h (u8_one _) (by have := HLL.out; have := HPV.out; simp only [List.length_append, be_length]; unfold maxLen; omega) (by have := HLL.out; have := HPV.out; simp only [List.length_append, be_length]; omega) (Nat.le_trans HB6.out.size HP3.out.only.size) ?_
      intro v4 w4 hown hg hat
      have hown2 : w4.ownsRow w.heap.size 5 1 v4 ((zs ++ be tn 6 ++ be fn 2 ++ be p.n 2).length + p.d.length) ((zs ++ be tn 6 ++ be fn 2 ++ be p.n 2).map Go.Proofs.Ytgbkoegmoelheaa.u8 ++ p.d.map Go.Proofs.Ytgbkoegmoelheaa.u8) := by rw [HDL.out]; exact hown
      have HP4 := Lib.hid (HP3.out.app0 (ys := p.d) hown2 hg hat)
      clear hown hown2 hg hat
      refine hK.out _ _ (hS0.put HP4.out HNE.out) (fun hHeld => ?_)
      clear hK K
      try simp only [Act.put, List.setIfInBounds_toArray, List.set_cons_zero, List.set_cons_succ]
      refine wpG_takeB (i := 14) (oi := ⟨some 4, _, _, _, _, _⟩) (v := v4) rfl (by kernel_rfl) (by kernel_rfl) (by kernel_rfl) (by decide) (fun _ _ _ h => h) h01 rfl hHeld (Or.inl ⟨by rfl, ?_⟩) ?_
      · (intro W9 hSw; obtain ⟨q1, q2, q3⟩ := hSw; go_simp; (try (first | with_reducible rfl | rfl | (simp; done) | (exact HWR.out))))
      try simp only [Act.put, List.setIfInBounds_toArray, List.set_cons_zero, List.set_cons_succ]
      refine wpG_done (by kernel_rfl) ?_ _
      clear hHeld h01 hS0
      have HRN := Lib.hid (HR6.out.put HP4.out)
      have hlt2 : (i : Int) < n := HI.out.2
      have hi02 : (0 : Int) ≤ i := HI.out.1
      have hn02 : (n : Int) ≤ 64 := by have := HN.out; omega
      go_wp2_with fail
      go_roundw
      case rel => exact ⟨i + 1, _, by omega, by go_num, rfl, by rw [HBT.out, ← List.append_assoc, HZS.out]; have := HRN.out; simp only [List.append_assoc] at this ⊢; exact Lib.hid this⟩
      case measure => simp [intOf]; omega
    · have HLE := Lib.hid (show ps.take i = ps by rw [List.take_of_length_le]; rw [HL.out]; omega)
      rw [HLE.out] at HR
      have hhd : hdB ps n ++ bodyP (pks ps) = headP (pks ps) := by unfold hdB headP; unfold pks; rw [List.length_map, HL.out]
      rw [hhd] at HR
      obtain ⟨zs, hzs⟩ : ∃ zs, headP (pks ps) = zs := ⟨_, rfl⟩
      have hzl : zs.length = 7 + sizeP (pks ps) := by rw [← hzs]; unfold headP; simp only [List.length_append, be_length, bodyP_length, magicB, List.length_cons, List.length_nil]
      have hpad : padN zs.length ≤ zs.length + 3 ∧ zs.length ≤ padN zs.length := by unfold padN; omega
      have hz8 : zs.length ≤ 8199 := by have := HSZ.out; omega
      have hpre : preP (pks ps) = zs ++ List.replicate (padN zs.length - zs.length) 0 := by unfold preP; rw [hzs, hzl]
      rw [hzs] at HR
      obtain ⟨A3, c3, rfl⟩ := HR.out.form
      obtain ⟨g3, rfl⟩ : ∃ g3, A3 = some ⟨g3, 0, none⟩ := by
        rcases HR.out.own.2 with ⟨h0, h1⟩ | ⟨g, cap, cur, h0, _⟩
        · omega
        · cases h0; exact ⟨g, rfl⟩
      have C35 := Lib.hid (padded_any zs.length wo (by omega))
      obtain ⟨i5, hi5, hi5z, hi5s, hi5b⟩ := info5_eq
      have hzer := run_zeros (P := Try.prog) wo 23 3 23 5 i5 .i64 Try.underlying23 Try.underlying3 hi5 hi5z hi5s hi5b (m := padN zs.length - zs.length) HR.out.own (by omega) HR.out.below.size
      obtain ⟨v4, w4, hrun, hown4, hg4, hat4⟩ := hzer
      have hcast : ((padN zs.length - zs.length : Nat) : Int) = ((padN zs.length : Nat) : Int) - (zs.length : Int) := by omega
      rw [hcast] at hrun
      have hlen4 : (zs ++ List.replicate (padN zs.length - zs.length) (0 : UInt8)).length = zs.length + (padN zs.length - zs.length) := by simp
      have hmap4 : zs.map Go.Proofs.Ytgbkoegmoelheaa.u8 ++ List.replicate (padN zs.length - zs.length) (Value.int .u8 0) = (zs ++ List.replicate (padN zs.length - zs.length) (0 : UInt8)).map Go.Proofs.Ytgbkoegmoelheaa.u8 := by rw [List.map_append, List.map_replicate]; rfl
      rw [hmap4, ← hlen4, ← hpre] at hown4
      have HR4' := Lib.hid (show RowW w w4 v4 (preP (pks ps)) from ⟨hown4, HR.out.below.grown hg4 HR.out.below.size (fun k hk => by cases hk; exact (HR.out.own.lt _ rfl).1)⟩)
      have hl4 : (preP (pks ps)).length ≤ 9000 := by rw [hpre, hlen4]; omega
      have HRUN := Lib.hid hrun
      have HL4 := Lib.hid hl4
      obtain ⟨P, hP⟩ : ∃ P : Int, ((padN zs.length : Nat) : Int) = P := ⟨_, rfl⟩
      rw [hP] at C35 HRUN
      obtain ⟨k, hk⟩ : ∃ k : Nat, zs.length = k := ⟨_, rfl⟩
      have hP1 : (k : Int) ≤ P := by omega
      have hP2 : P ≤ 9000 := by omega
      have hk2 : (k : Int) ≤ 8199 := by omega
      rw [hk] at HRUN C35 HR
      obtain ⟨A4, c4, rfl⟩ := HR4'.out.form
      have C36 := Lib.hid (sum_any A4 (preP (pks ps)).length c4 (preP (pks ps)) w4 (own_RB3 HR4'.out.own) (by have := HL4.out; omega))
      rw [hk]
      clear hrun hown4 hg4 hat4 hcast hlen4 hmap4 hl4 hpre hpad hz8 hzl hP hk hzs hhd hi hi0 hn0
      go_wp2_with (first | (go_at_call 35; (with_reducible refine C35.out.mono ?_); rintro e w' ⟨rfl, rfl⟩) | (at_builtin; refine Lib.wpList_append_run _ rfl (.tmp 43) (.tmp 49) 23 3 rfl _ _ rfl rfl _ _ HRUN.out ?_) | (go_at_call 36; (with_reducible refine C36.out.mono ?_); rintro e w6 ⟨v6, rfl, ho6, b6⟩; obtain ⟨A6, c6, rfl, -⟩ := own_form ho6; have HO6 := Lib.hid ho6; have HR6 := Lib.hid (HR4'.out.over b6); clear ho6 b6) | (at_builtin; go_must (refine wpList_app_own (base := w.heap.size) (n := (preP (pks ps)).length) (m := (be (adlN (preP (pks ps))) 4).length) (xs := (preP (pks ps)).map Go.Proofs.Ytgbkoegmoelheaa.u8) (news := (be (adlN (preP (pks ps))) 4).map Go.Proofs.Ytgbkoegmoelheaa.u8) rfl (.tmp 51) (.tmp 53) 23 rfl el22 rfl HR6.out.own rfl (holds_own HO6.out) (u8_one _) (by have := HL4.out; rw [be_length]; unfold maxLen; omega) (by have := HL4.out; rw [be_length]; omega) HR6.out.below.size ?_; intro v7 w7 hown hg _; have HO7 := Lib.hid hown; have HB7 := Lib.hid (below_own HR6.out.below HR6.out.below.size HR6.out.own hg); clear hown hg)))
      go_ret2
      exact ⟨v7, rfl, by unfold encB; rw [List.length_append, List.map_append]; exact HO7.out, HB7.out⟩
end Go.Proofs.Ytgbkoegmoelheaa
