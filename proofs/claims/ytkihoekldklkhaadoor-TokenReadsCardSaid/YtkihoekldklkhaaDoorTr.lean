/- Join. -/
import Derived.Test.YtkihoekldklkhaaDoorTq
namespace Go.Proofs.YtkihoekldklkhaaDoor
open Go.RowKit
set_option linter.unusedVariables false
set_option linter.unusedSimpArgs false

/-- A token as it lies in a list. -/
structure Td where
  k : Int
  t : List UInt8
  v : Int
  ln : Int
  cl : Int
def TdC (x : Td) : List Value := [.int .i64 x.k, .string ⟨x.t.toArray⟩, .int .i64 x.v, .int .i64 x.ln, .int .i64 x.cl]
def Td.wh (x : Td) : List UInt8 := wholeL x.k x.t
/-- Whether a token is one of its kind. -/
def oneT (x : Td) : Bool := match scanL 0 x.wh with
  | ([y], none) => ((y.k : Int) == x.k) && (y.t == x.t) && (y.v == x.v)
  | _ => false
def joinT (xs : List Td) : List UInt8 := Lib.join (xs.map Td.wh) [32]
/-- What Join returns. -/
def JoinE (xs : List Td) (w : World) (e : Ending) (w' : World) : Prop := Below w.heap.size w w' ∧ e = .returned (if xs.all oneT = true then .tuple #[.string ⟨(joinT xs).toArray⟩, .int .i64 0] else .tuple #[.string ⟨#[]⟩, .int .i64 2])
def strV (x : Td) : Value := .string ⟨x.wh.toArray⟩
theorem elS : ElS Tryd.prog 69 9 1 16 := ElS.mk' (z := .string { data := #[] }) Tryd.underlying69 (by kernel_rfl) rfl (by decide)
theorem td_get (xs : List Td) : ∀ (i : Nat) (hi : i < xs.length), (xs.flatMap TdC)[i * 5]? = some (.int .i64 (xs[i]).k) ∧ (xs.flatMap TdC)[i * 5 + 1]? = some (.string ⟨(xs[i]).t.toArray⟩) ∧ (xs.flatMap TdC)[i * 5 + 2]? = some (.int .i64 (xs[i]).v) ∧ (xs.flatMap TdC)[i * 5 + 3]? = some (.int .i64 (xs[i]).ln) ∧ (xs.flatMap TdC)[i * 5 + 4]? = some (.int .i64 (xs[i]).cl) := by
  induction xs with
  | nil => intro i hi; simp at hi
  | cons d ds ih =>
    intro i hi
    cases i with
    | zero => simp [TdC]
    | succ i =>
      have := ih i (by simpa using hi)
      have e : (i + 1) * 5 = 5 + i * 5 := by omega
      have h3 : (TdC d).length = 5 := rfl
      simp only [List.flatMap_cons, List.getElem_cons_succ]
      rw [e, List.getElem?_append_right (by omega), List.getElem?_append_right (by omega), List.getElem?_append_right (by omega), List.getElem?_append_right (by omega), List.getElem?_append_right (by omega), h3]
      simpa [Nat.add_assoc] using this
theorem wh_len (x : Td) : x.wh.length ≤ x.t.length + 2 := by unfold Td.wh wholeL; split <;> simp
theorem joinT_len (xs : List Td) (M : Nat) (h : ∀ x ∈ xs, x.t.length ≤ M) : (joinT xs).length ≤ xs.length * (M + 3) := by
  unfold joinT
  cases xs with
  | nil => simp [Lib.join, List.intercalate]
  | cons x r =>
    rw [List.map_cons, Lib.join_length]
    have hl : ∀ (l : List Td), (∀ x ∈ l, x.t.length ≤ M) → Lib.lens (l.map Td.wh) ≤ l.length * (M + 2) := by
      intro l
      induction l with
      | nil => intro _; simp [Lib.lens]
      | cons a l ih =>
        intro hh
        have h1 := ih fun x hx => hh x (List.mem_cons_of_mem _ hx)
        have h2 := hh a (List.mem_cons_self ..)
        have h3 := wh_len a
        have h4 : Lib.lens ((a :: l).map Td.wh) = a.wh.length + Lib.lens (l.map Td.wh) := by simp [Lib.lens]
        rw [h4, List.length_cons, Nat.add_mul]
        omega
    have h1 := hl (x :: r) h
    rw [List.map_cons] at h1
    have e1 : (r.length + 1) * (M + 3) = (r.length + 1) * (M + 2) + (r.length + 1) := by rw [← Nat.mul_succ]
    simp only [List.length_cons, List.length_nil, List.length_map] at h1 ⊢
    omega
theorem oneT_no {x : Td} {b : Nat} (h : (scanL 0 x.wh).2 = some b) : oneT x = false := by
  unfold oneT
  split
  · rename_i y hy
    rw [hy] at h
    cases h
  · rfl
theorem oneT_len {x : Td} (h : (scanL 0 x.wh).1.length ≠ 1) : oneT x = false := by
  unfold oneT
  split
  · rename_i y hy
    rw [hy] at h
    simp at h
  · rfl
theorem oneT_one {x : Td} {y : Tk} (h : scanL 0 x.wh = ([y], none)) : oneT x = (((y.k : Int) == x.k) && (y.t == x.t) && (y.v == x.v)) := by
  unfold oneT
  rw [h]
theorem byte_list (a b : List UInt8) : ((⟨a.toArray⟩ : ByteArray).toList = (⟨b.toArray⟩ : ByteArray).toList) = (a = b) := by rw [Lib.toList_data, Lib.toList_data]
set_option maxRecDepth 100000 in
set_option maxHeartbeats 1000000 in
theorem join_any (A : Option Addr) (n c : Nat) (xs : List Td) (w : World) (h : HoldsS w 5 A n (xs.flatMap TdC)) (hlen : xs.length = n) (hn : n ≤ 10000) (ht : ∀ x ∈ xs, x.t.length ≤ 100000) :
    Calls Tryd.prog 22 #[.slice A n c] w (JoinE xs w) := by
  have HH := Lib.hid h
  have HL := Lib.hid hlen
  have HT := Lib.hid ht
  have hn0 : (n : Int) ≤ 10000 := by omega
  clear h hlen ht hn
  go_enter Tryd.func22, Tryd.ntmps22
  go_wp2_with fail
  go_loopw [4, 13] (fun ov iv wr => ∃ i : Nat, (i : Int) ≤ n ∧ iv = .int .i64 i ∧ Hid ((xs.take i).all oneT = true) ∧ Hid (wr.ownsRow w.heap.size 9 1 ov i ((xs.take i).map strV)) ∧ Hid (Below w.heap.size w wr)) (fun _ iv _ => n - (intOf iv).toNat)
  case atStart => exact ⟨0, by omega, rfl, Lib.hid rfl, Lib.hid (World.ownsRow_nil _ _ 9 1), Lib.hid (Below.refl _ _)⟩
  case round =>
    obtain ⟨i, hi, rfl, HAL, HWN, HBL⟩ := hrel
    obtain ⟨Ao, no, eo, -⟩ := own_formS HWN.out
    subst eo
    by_cases hlt : (i : Int) < n
    · have hi1 : i < xs.length := by rw [HL.out]; omega
      have hA : ∃ b, A = some b := by
        cases A with
        | none => have := HH.out.2.1 rfl; omega
        | some b => exact ⟨b, rfl⟩
      obtain ⟨⟨gb, go, gs⟩, rfl⟩ := hA
      obtain ⟨l0, l1, l2, l3, l4⟩ := td_get xs i hi1
      have hh := HH.out
      have key : ∀ {k : Nat} {u : Value}, (xs.flatMap TdC)[k]? = some u → wr.cell? ((⟨gb, go, gs⟩ : Addr).add k) = some u := fun {k u} hk => by
        have h9 := hh.2.2 _ rfl k u hk
        exact (HBL.out.cell (World.block_lt_of_cell? _ _ h9)).trans h9
      have hgs : gs = none := by have := World.cell?_spot (key (td_get xs 0 (by omega)).1); simpa [Addr.add] using this
      subst hgs
      have f0 := key l0
      have f1 := key l1
      have f2 := key l2
      have f3 := key l3
      have f4 := key l4
      rw [Addr.add_lit] at f0 f1 f2 f3 f4
      rw [← Nat.add_assoc] at f1 f2 f3 f4
      have hTl := HT.out _ (List.getElem_mem hi1)
      have htk1 : xs.take (i + 1) = xs.take i ++ [xs[i]] := List.take_succ_eq_append_getElem hi1
      have HAL1 : Hid (oneT xs[i] = true → (xs.take (i + 1)).all oneT = true) := Lib.hid (fun h1 => by rw [htk1, List.all_append, HAL.out]; simp [h1])
      have HALL : Hid (oneT xs[i] = false → xs.all oneT = false) := Lib.hid (fun h1 => by
        rw [List.all_eq_false]
        exact ⟨xs[i], List.getElem_mem hi1, by rw [h1]; simp⟩)
      have HTK := Lib.hid htk1
      generalize hx : xs[i] = x at *
      have hwl := wh_len x
      have hwn : x.wh.length ≤ 1000000 := by omega
      have C43 := Lib.hid (whole_any x.k x.t x.v x.ln x.cl (wr.alloc (.cells #[.int .i64 x.k, .string ⟨x.t.toArray⟩, .int .i64 x.v, .int .i64 x.ln, .int .i64 x.cl] 32)) (by omega))
      have C20 := Lib.hid (fun (W : World) => scanT_any x.wh W hwn)
      unfold ScanE at C20
      have HONE := Lib.hid (fun (y : Tk) (hy : scanL 0 x.wh = ([y], none)) => oneT_one hy)
      have HON2 := Lib.hid (fun (b : Nat) (hy : (scanL 0 x.wh).2 = some b) => oneT_no hy)
      have HON3 := Lib.hid (fun (hy : (scanL 0 x.wh).1.length ≠ 1) => oneT_len hy)
      have hst : strV x = .string ⟨x.wh.toArray⟩ := rfl
      have HSV := Lib.hid hst
      have hwx : wholeL x.k x.t = x.wh := rfl
      rw [hwx] at C43
      clear l0 l1 l2 l3 l4 hh key hTl htk1 hx hi1 hwl hwn hst hwx
      obtain ⟨Sw, hSw⟩ : ∃ Sw, (⟨x.wh.toArray⟩ : ByteArray) = Sw := ⟨_, rfl⟩
      rw [hSw] at C43 C20 HSV
      have HX := Lib.hid (rfl : x = x)
      have HTT := Lib.hid (fun (y : Tk) => byte_list y.t x.t)
      obtain ⟨ox, hox⟩ : ∃ ox, oneT x = ox := ⟨_, rfl⟩
      rw [hox] at HAL1 HALL
      have HOX := Lib.hid hox
      obtain ⟨St, hSt⟩ : ∃ St, (⟨x.t.toArray⟩ : ByteArray) = St := ⟨_, rfl⟩
      rw [hSt] at C43 f1
      have hSt0 := hSt
      have HST := Lib.hid hSt
      obtain ⟨k, hk⟩ : ∃ k, x.k = k := ⟨_, rfl⟩
      obtain ⟨v, hv⟩ : ∃ v, x.v = v := ⟨_, rfl⟩
      obtain ⟨ln, hln⟩ : ∃ v, x.ln = v := ⟨_, rfl⟩
      obtain ⟨cl, hcl⟩ : ∃ v, x.cl = v := ⟨_, rfl⟩
      rw [hk] at f0 C43
      rw [hv] at f2 C43
      rw [hln] at f3 C43
      rw [hcl] at f4 C43
      have HKV := Lib.hid (And.intro hk hv)
      clear hSw hox hSt hk hv hln hcl
      cases hR : scanL 0 x.wh with
      | mk ts bo =>
      rw [hR] at C20
      cases bo with
      | some b =>
        simp only [] at C20
        have HNO : Hid (ox = false) := Lib.hid (by rw [← HOX.out]; exact HON2.out b (by rw [hR]))
        have q0 : (errN x.wh b != 0) = true := by rcases errN_cases x.wh b with h | h <;> rw [h] <;> rfl
        generalize errN x.wh b = en at *
        generalize ((lcOf x.wh b).1 : Int) = pl at *
        generalize ((lcOf x.wh b).2 : Int) = pc at *
        clear hR
        go_upto_region 7 with (first | (go_at_call 43; (with_reducible refine C43.out.mono ?_); rintro e w1 ⟨rfl, hb1⟩; have HB1 := Lib.hid hb1; clear hb1) | (go_at_call 20; (with_reducible refine (C20.out w1).mono ?_); rintro e w2 ⟨hb2, rfl⟩; have HB2 := Lib.hid hb2; clear hb2))
        go_quiet (fail)
        have hbx : Below w.heap.size w (wr.alloc (.cells #[.int .i64 k, .string St, .int .i64 v, .int .i64 ln, .int .i64 cl] 32)) := HBL.out.alloc HBL.out.size _
        have HBA := Lib.hid (fun (o : Obj) (q : Nat) => below_drewN (((hbx.trans (HB1.out.mono hbx.size)).trans (HB2.out.mono (Nat.le_trans hbx.size HB1.out.size))).alloc (Nat.le_trans (Nat.le_trans hbx.size HB1.out.size) HB2.out.size) o) q)
        go_wp2_with fail
        go_ret2
        refine ⟨HBA.out _ _, ?_⟩
        rw [if_neg (by rw [HALL.out HNO.out]; simp)]
        rfl
      | none =>
        simp only [] at C20
        by_cases h1 : ts.length = 1
        · obtain ⟨y, rfl⟩ := List.length_eq_one_iff.1 h1
          have ho := HONE.out y hR
          rw [List.length_singleton, List.flatMap_singleton] at C20
          have HO := Lib.hid ho
          clear hR ho h1
          go_upto_region 7 with (first | (go_at_call 43; (with_reducible refine C43.out.mono ?_); rintro e w1 ⟨rfl, hb1⟩; have HB1 := Lib.hid hb1; clear hb1) | (go_at_call 20; (with_reducible refine (C20.out w1).mono ?_); rintro e w2 ⟨hb2, A2, c2, rfl, hown⟩; have HB2 := Lib.hid hb2; have HW2 := Lib.hid hown; clear hb2 hown))
          obtain ⟨W3, hW3⟩ : ∃ W3, w2.alloc (.cells #[.int .i64 0, .int .i64 0] 26) = W3 := ⟨_, rfl⟩
          have hbx : Below w.heap.size w (wr.alloc (.cells #[.int .i64 k, .string St, .int .i64 v, .int .i64 ln, .int .i64 cl] 32)) := HBL.out.alloc HBL.out.size _
          have HBA := Lib.hid (fun (o : Obj) (q : Nat) => below_drewN (((hbx.trans (HB1.out.mono hbx.size)).trans (HB2.out.mono (Nat.le_trans hbx.size HB1.out.size))).alloc (Nat.le_trans (Nat.le_trans hbx.size HB1.out.size) HB2.out.size) o) q)
          have hb3 : Below w.heap.size w W3 := hW3 ▸ HBA.out _ 0
          have hbw2 : Below w2.heap.size w2 W3 := hW3 ▸ (Below.refl _ w2).alloc (Nat.le_refl _) _
          have hb3q : ∀ q, (Value.slice Ao i no).ownBlock = some q → W3.heap[q]? = wr.heap[q]? := fun q hq => by
            have hlt := own_lt HWN.out q hq
            have hb01 : Below wr.heap.size wr w1 := ((Below.refl wr.heap.size wr).alloc (Nat.le_refl _) _).trans (HB1.out.mono (by simp))
            exact (hbw2.block q (by have := HB2.out.size; have := hb01.size; omega)).trans ((HB2.out.block q (by have := hb01.size; omega)).trans (hb01.block q hlt))
          have hbx1 : Blk w1 wr.heap.size 32 #[.int .i64 k, .string St, .int .i64 v, .int .i64 ln, .int .i64 cl] := (Blk.new wr 32 _).below HB1.out (by simp)
          have hbx3 : Blk W3 wr.heap.size 32 #[.int .i64 k, .string St, .int .i64 v, .int .i64 ln, .int .i64 cl] := (hbx1.below HB2.out hbx1.lt).below hbw2 (hbx1.below HB2.out hbx1.lt).lt
          obtain ⟨xb, hxb⟩ : ∃ xb, wr.heap.size = xb := ⟨_, rfl⟩
          rw [hxb] at hbx3
          obtain ⟨A2', c2', e2', -, -, -, hp2⟩ := own_formS HW2.out
          injection e2' with e21 e22 e23
          subst e21 e23
          obtain ⟨g2, rfl, -, hg2⟩ := hp2 (by omega)
          have hh2 := (HoldsS.own HW2.out).2.2 _ rfl
          have key2 : ∀ {j : Nat} {u : Value}, (TkC x.wh y)[j]? = some u → W3.cell? ⟨g2, j, none⟩ = some u := fun {j u} hj => by
            have h9 := hh2 j u hj
            rw [Addr.add_lit, Nat.zero_add] at h9
            exact (hbw2.cell (World.block_lt_of_cell? _ _ h9)).trans h9
          have y0 := key2 (j := 0) rfl
          have y1 := key2 (j := 1) rfl
          have y2 := key2 (j := 2) rfl
          have y3 := key2 (j := 3) rfl
          have y4 := key2 (j := 4) rfl
          have b0 := hbx3.cell 0
          have b1 := hbx3.cell 1
          have b2 := hbx3.cell 2
          simp only [List.getElem?_toArray, List.getElem?_cons_zero, List.getElem?_cons_succ] at b0 b1 b2
          have HB3 := Lib.hid hb3
          have HTY := Lib.hid (HTT.out y)
          have HW3 := Lib.hid (own_keeps HWN.out fun q hq => hb3q q hq)
          rw [hW3, hxb]
          rw [hSt0] at HTY
          generalize ((lcOf x.wh y.a).1 : Int) = pl at *
          generalize ((lcOf x.wh y.a).2 : Int) = pc at *
          obtain ⟨Sy, hSy⟩ : ∃ Sy, (⟨y.t.toArray⟩ : ByteArray) = Sy := ⟨_, rfl⟩
          obtain ⟨yk, hyk⟩ : ∃ yk : Int, (y.k : Int) = yk := ⟨_, rfl⟩
          obtain ⟨yv, hyv⟩ : ∃ yv : Int, y.v = yv := ⟨_, rfl⟩
          rw [hyk] at y0 HO
          rw [hSy] at y1 HTY
          rw [hyv] at y2 HO
          have HB4 := Lib.hid (fun q => below_drewN HB3.out q)
          clear hW3 hb3 hbw2 hbx1 hbx3 hxb hh2 key2 hSy hyk hyv hbx hg2
          by_cases g1 : yk = k
          · by_cases g2' : Sy.toList = St.toList
            · by_cases g3 : yv = v
              ·
                have HNX : Hid (ox = true) := Lib.hid (by rw [← HOX.out, HO.out]; rw [HTY.out] at g2'; rw [g1, g2', g3, HKV.out.1, HKV.out.2]; simp)
                go_quiet (fail)
                obtain ⟨W4, hW4⟩ : ∃ W4, W3.drewN nq = W4 := ⟨_, rfl⟩
                have HW4 : Hid (W4.ownsRow w.heap.size 9 1 (.slice Ao i no) i ((xs.take i).map strV)) := Lib.hid (hW4 ▸ own_keeps HW3.out fun q hq => rfl)
                have HB5 : Hid (Below w.heap.size w W4) := Lib.hid (hW4 ▸ HB4.out nq)
                rw [hW4]
                clear hW4 y0 y1 y2 y3 y4 b0 b1 b2 g1 g2' g3
                go_wp2_with (at_builtin; go_must (refine wpList_app_sz (base := w.heap.size) (n := i) (m := 1) (xs := (xs.take i).map strV) (news := [.string Sw]) rfl (.tmp 49) (.tmp 51) 69 rfl elS rfl (own_alloc HW4.out) rfl (HoldsS.new _ 1 1 [.string Sw] 9 rfl) (by simp [Value.oneCell']) (by unfold maxLen; omega) (by omega) (by have := HB5.out.size; simp; omega) (by simp) ?_; intro v3 w3 hown hg; refine Hid.out ?_))
                have HB6 := Lib.hid (below_own (HB5.out.alloc HB5.out.size _) (by have := HB5.out.size; simp; omega) (own_alloc HW4.out) hg)
                have HW6 : Hid (w3.ownsRow w.heap.size 9 1 v3 (i + 1) ((xs.take (i + 1)).map strV)) := Lib.hid (by rw [HTK.out, List.map_append, List.map_singleton, HSV.out]; exact hown)
                clear hown hg
                refine Lib.hid ?_
                go_wp2_with fail
                go_roundw
                case rel => exact ⟨i + 1, by omega, by go_num, Lib.hid (HAL1.out HNX.out), HW6, HB6⟩
                case measure => simp [intOf]; omega
              · have HNX : Hid ((yv == x.v) = false) := Lib.hid (by rw [HKV.out.2]; simpa using g3)
                go_quiet (fail)
                have HNO : Hid (ox = false) := Lib.hid (by rw [← HOX.out, HO.out]; simp [HNX.out])
                go_wp2_with fail
                go_ret2
                refine ⟨HB4.out _, ?_⟩
                rw [if_neg (by rw [HALL.out HNO.out]; simp)]
                rfl
            · have HNX : Hid ((y.t == x.t) = false) := Lib.hid (by rw [HTY.out] at g2'; simpa using g2')
              go_quiet (fail)
              have HNO : Hid (ox = false) := Lib.hid (by rw [← HOX.out, HO.out]; simp [HNX.out])
              go_wp2_with fail
              go_ret2
              refine ⟨HB4.out _, ?_⟩
              rw [if_neg (by rw [HALL.out HNO.out]; simp)]
              rfl
          · have HNX : Hid ((yk == x.k) = false) := Lib.hid (by rw [HKV.out.1]; simpa using g1)
            go_quiet (fail)
            have HNO : Hid (ox = false) := Lib.hid (by rw [← HOX.out, HO.out]; simp [HNX.out])
            go_wp2_with fail
            go_ret2
            refine ⟨HB4.out _, ?_⟩
            rw [if_neg (by rw [HALL.out HNO.out]; simp)]
            rfl
        · have HNO : Hid (ox = false) := Lib.hid (by rw [← HOX.out]; exact HON3.out (by rw [hR]; exact h1))
          have q0 : ((ts.length : Int) != 1) = true := by simp; omega
          clear hR h1
          go_upto_region 7 with (first | (go_at_call 43; (with_reducible refine C43.out.mono ?_); rintro e w1 ⟨rfl, hb1⟩; have HB1 := Lib.hid hb1; clear hb1) | (go_at_call 20; (with_reducible refine (C20.out w1).mono ?_); rintro e w2 ⟨hb2, A2, c2, rfl, hown⟩; have HB2 := Lib.hid hb2; have HW2 := Lib.hid hown; clear hb2 hown))
          go_quiet (fail)
          have hbx : Below w.heap.size w (wr.alloc (.cells #[.int .i64 k, .string St, .int .i64 v, .int .i64 ln, .int .i64 cl] 32)) := HBL.out.alloc HBL.out.size _
          have HBA := Lib.hid (fun (o : Obj) (q : Nat) => below_drewN (((hbx.trans (HB1.out.mono hbx.size)).trans (HB2.out.mono (Nat.le_trans hbx.size HB1.out.size))).alloc (Nat.le_trans (Nat.le_trans hbx.size HB1.out.size) HB2.out.size) o) q)
          go_wp2_with fail
          go_ret2
          refine ⟨HBA.out _ _, ?_⟩
          rw [if_neg (by rw [HALL.out HNO.out]; simp)]
          rfl
    · have hin : i = n := by omega
      subst hin
      have HALL : Hid (xs.all oneT = true) := Lib.hid (by have := HAL.out; rwa [List.take_of_length_le (by rw [HL.out]; omega)] at this)
      have hw : wr.ownsRow w.heap.size 9 1 (.slice Ao i no) i (xs.map strV) := by have := HWN.out; rwa [List.take_of_length_le (by rw [HL.out]; omega)] at this
      have HJ : Hid (Calls Tryd.prog 44 #[.slice Ao i no, .string ⟨#[32]⟩] wr fun e w' => e = .returned (.string ⟨(joinT xs).toArray⟩) ∧ Below wr.heap.size wr w') := Lib.hid (by
        obtain ⟨A2', c2', e2', hcap, -, -, hp2⟩ := own_formS hw
        injection e2' with e21 e22 e23
        subst e21 e23
        by_cases h0 : i = 0
        · subst h0
          have hx0 : xs = [] := List.length_eq_zero_iff.1 HL.out
          subst hx0
          exact (joinNone Ao no ⟨#[32]⟩ wr).mono fun e w' ⟨h1, h2⟩ => ⟨h1, h2 ▸ Below.refl _ _⟩
        · obtain ⟨g2, rfl, -, hg2⟩ := hp2 (by omega)
          have hh2 := (HoldsS.own hw).2.2 _ rfl
          have hlb : (xs.map fun x => (⟨x.wh.toArray⟩ : ByteArray)).length = i := by rw [List.length_map]; exact HL.out
          have hjl := joinT_len xs 100000 HT.out
          have hj := joinAll g2 0 no (xs.map fun x => (⟨x.wh.toArray⟩ : ByteArray)) ⟨#[32]⟩ wr (fun j b hb => by
            have h9 := hh2 j (.string b) (by
              rw [List.getElem?_map] at hb ⊢
              cases hxj : xs[j]? with
              | none => rw [hxj] at hb; cases hb
              | some z => rw [hxj] at hb; cases hb; rfl)
            rw [Addr.add_lit] at h9
            exact h9) hg2 (by rw [hlb]; omega) (by rw [hlb]; exact hcap) (by
            have e : (List.map (fun (x : ByteArray) => x.data.toList) (xs.map fun x => (⟨x.wh.toArray⟩ : ByteArray))) = xs.map Td.wh := by rw [List.map_map]; rfl
            rw [e]
            show (joinT xs).length ≤ _
            rw [HL.out] at hjl
            omega)
          rw [hlb] at hj
          refine hj.mono fun e w' ⟨h1, h2⟩ => ⟨?_, h2⟩
          rw [h1]
          have e : (List.map (fun (x : ByteArray) => x.data.toList) (xs.map fun x => (⟨x.wh.toArray⟩ : ByteArray))) = xs.map Td.wh := by rw [List.map_map]; rfl
          rw [e]
          rfl)
      clear hw
      obtain ⟨SJ, hSJ⟩ : ∃ SJ, (⟨(joinT xs).toArray⟩ : ByteArray) = SJ := ⟨_, rfl⟩
      rw [hSJ] at HJ
      have HSJ := Lib.hid hSJ
      clear hSJ
      go_wp2_with (go_at_call 44; (with_reducible refine HJ.out.mono ?_); rintro e w1 ⟨rfl, hb1⟩; have HB1 := Lib.hid hb1; clear hb1)
      go_ret2
      refine ⟨HBL.out.trans (HB1.out.mono HBL.out.size), ?_⟩
      rw [if_pos HALL.out, HSJ.out]
      rfl

end Go.Proofs.YtkihoekldklkhaaDoor
