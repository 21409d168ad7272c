/- known: the examples of the chapter. -/
import Derived.Test.YtibkhjpjneoabaaFq
import Derived.Lib.SlBytesConst
namespace Go.Proofs.Ytibkhjpjneoabaa
open Go.RowKit
set_option linter.unusedVariables false
set_option linter.unusedSimpArgs false

theorem pss_blk {W : World} {b : Nat} (cs : List Pk) (hb : Blk W b 28 (cs.map fun p => Value.slice p.A p.n p.c).toArray) (hr : ∀ p ∈ cs, RB W p.A p.n p.c p.l) (hl : cs.length ≤ 1000) : PSS W (some ⟨b, 0, none⟩) cs.length (fun i => cs.getD i ⟨none, 0, 0, []⟩) :=
  ⟨by unfold maxLen; omega, fun i hi => ⟨b, 0, rfl, hb.lt, by
    rw [Nat.zero_add, hb.cell i]
    simp [hi], by
    have := hr cs[i] (List.getElem_mem hi)
    simpa [List.getD_eq_getElem?_getD, List.getElem?_eq_getElem hi] using this⟩⟩
theorem pks_blk (cs : List Pk) : pks (fun i => cs.getD i ⟨none, 0, 0, []⟩) cs.length = cs.map Pk.l := by
  unfold pks
  apply List.ext_getElem
  · simp
  · intro i h1 h2
    simp at h1 h2 ⊢
    simp [h2]
/-- Encode, of a literal list. -/
theorem enc_lit (k m c : Int) (hF : OkF k m c) {W : World} {b : Nat} (cs : List Pk) (hb : Blk W b 28 (cs.map fun p => Value.slice p.A p.n p.c).toArray) (hr : ∀ p ∈ cs, RB W p.A p.n p.c p.l) (hl : cs.length ≤ 20) (h7 : ∀ p ∈ cs, p.l.length ≤ 700) :
    Calls Try.prog 11 #[FV k m c, .slice (some ⟨b, 0, none⟩) cs.length cs.length] W (Enced W (encErr k m c (cs.map Pk.l)) (encB k m c (cs.map Pk.l))) := by
  have h := enc_any k m c hF (some ⟨b, 0, none⟩) cs.length cs.length (fun i => cs.getD i ⟨none, 0, 0, []⟩) W (pss_blk cs hb hr (by omega)) hl (fun i hi => by
    have := h7 cs[i] (List.getElem_mem hi)
    simpa [List.getD_eq_getElem?_getD, List.getElem?_eq_getElem hi] using this)
  rw [pks_blk] at h
  exact h
/-- A marked row of bytes, as a constant's conversion lays it. -/
theorem RB.litM (w : World) (l : List UInt8) (m a b : Nat) (cs : Array Value) (hc : cs = (l.map u8).toArray) (hl : l.length = m) (hm : m ≤ 1000) : RB (w.alloc (.cells cs 5 (a, b))) (some ⟨w.heap.size, 0, none⟩) m m l := by
  subst hc
  have hb : (w.alloc (.cells (l.map u8).toArray 5 (a, b))).heap[w.heap.size]? = some (.cells (l.map u8).toArray 5 (a, b)) := heap_alloc_new w _
  refine ⟨hl, ⟨by simpa using hl, (fun e => by cases e), fun x e j u hj => ?_⟩, Nat.le_refl _, by unfold maxLen; omega, fun e => by cases e⟩
  cases e
  rw [Addr.add_lit, Nat.zero_add, cell_of_row _ _ j _ 5 (a, b) hb]
  simpa using hj
theorem frr_lit {W : World} {b : Nat} (ds : List Fd) (hb : Blk W b 44 (ds.flatMap Fd.cells).toArray) (hr : ∀ d ∈ ds, RB W d.A d.n d.cp d.fr.bytes) : FrR W (some ⟨b, 0, none⟩) ds :=
  ⟨fun _ => ⟨b, 0, rfl, fun j u hj => by rw [Nat.zero_add, hb.cell j]; simpa using hj⟩, hr⟩
theorem FrR.nil (W : World) : FrR W none [] := ⟨fun h => absurd h (by simp), fun _ h => by cases h⟩
theorem FrSep.nil (p : Nat → Prop) : FrSep p none [] := ⟨fun _ _ h => (by cases h), fun _ h => by cases h⟩
/-- A reader beside another one whose step it does not touch. -/
theorem RdS.beside {W W2 : World} {B B2 r r2 : Nat} {k m c k2 m2 c2 : Int} {v : Value} {s s2 : St} (h : RdS W B r k m c (.slice none 0 0) s) (h2 : RdS W B2 r2 k2 m2 c2 v s2) (hne : r ≠ r2) (ho : Only (SFo r2 v) W W2) : RdS W2 B r k m c (.slice none 0 0) s :=
  h.only ho fun q hq e => by
    rcases hq with rfl | hq
    · rcases e with e | e
      · exact hne e
      · exact own_ne h2.own h.blk (by decide) e
    · cases hq
theorem okp : OkF 1 3 0 := ⟨.inl rfl, by omega, by omega, by omega, by omega⟩
theorem okq : OkF 2 3 0 := ⟨.inr rfl, by omega, by omega, by omega, by omega⟩
set_option maxRecDepth 100000 in
set_option maxHeartbeats 8000000 in
theorem known_any (w : World) : Calls Try.prog 10 #[] w fun e w' => e = .returned (.bool true) ∧ Below w.heap.size w w' := by
  obtain ⟨w0, hw0⟩ : ∃ w0, (w.alloc (.cells #[.int .i64 1, .int .i64 3, .int .i64 0] 24)).alloc (.cells #[.int .i64 2, .int .i64 3, .int .i64 0] 24) = w0 := ⟨_, rfl⟩
  have hb0 : Below w.heap.size w w0 := hw0 ▸ ((Below.refl _ w).alloc (Nat.le_refl _) _).alloc (by simp) _
  have HP0 := Lib.hid (show Blk w0 w.heap.size 24 #[.int .i64 1, .int .i64 3, .int .i64 0] from hw0 ▸ (Blk.new w 24 _).alloc _)
  have HQ0 := Lib.hid (show Blk w0 (w.heap.size + 1) 24 #[.int .i64 2, .int .i64 3, .int .i64 0] from by have := Blk.new (w.alloc (.cells #[.int .i64 1, .int .i64 3, .int .i64 0] 24)) 24 #[.int .i64 2, .int .i64 3, .int .i64 0]; rw [World.size_alloc, hw0] at this; exact this)
  have HB0 := Lib.hid hb0
  have HW0 := Lib.hid hw0
  have C15 := Lib.hid (fun n W => num_any n W)
  clear hb0 hw0
  go_enter Try.func10, Try.ntmps10
  go_upto_region 2 with fail
  rw [HW0.out]
  clear HW0
  obtain ⟨f0, f1, f2⟩ : w0.cell? ⟨w.heap.size, 0, none⟩ = some (.int .i64 1) ∧ w0.cell? ⟨w.heap.size, 1, none⟩ = some (.int .i64 3) ∧ w0.cell? ⟨w.heap.size, 2, none⟩ = some (.int .i64 0) := ⟨HP0.out.cell 0, HP0.out.cell 1, HP0.out.cell 2⟩
  have c11 := enc_lit 1 3 0 okp (W := ((w0.alloc (.cells #[.int .u8 97, .int .u8 98] 5 (2, 3))).alloc (.cells #[.slice (some ⟨w0.heap.size, 0, none⟩) 2 2, .slice none 0 0] 28))) (b := (w0.heap.size + 1)) [⟨(some ⟨w0.heap.size, 0, none⟩), 2, 2, [97, 98]⟩, ⟨none, 0, 0, []⟩] (by have := Blk.new (w0.alloc (.cells #[.int .u8 97, .int .u8 98] 5 (2, 3))) 28 #[.slice (some ⟨w0.heap.size, 0, none⟩) 2 2, .slice none 0 0]; simp only [World.size_alloc] at this; exact this) (fun p hp => by
    simp only [List.mem_cons, List.mem_nil_iff, or_false] at hp
    rcases hp with rfl | rfl
    all_goals first | exact (RB.litM w0 [97, 98] 2 2 3 _ rfl rfl (by omega)).below ((Below.refl _ _).alloc (Nat.le_refl _) _) | exact RB.nil _) (by simp) (by simp)
  have hbv : Below w0.heap.size w0 ((w0.alloc (.cells #[.int .u8 97, .int .u8 98] 5 (2, 3))).alloc (.cells #[.slice (some ⟨w0.heap.size, 0, none⟩) 2 2, .slice none 0 0] 28)) := ((Below.refl _ _).alloc (Nat.le_refl _) _).alloc (by simp) _
  have HBV := Lib.hid hbv
  simp only [List.map_cons, List.map_nil, List.length_cons, List.length_nil, Nat.zero_add, Nat.reduceAdd, ka.1, ka.2] at c11
  unfold FV Enced at c11
  have hcv := Lib.run_convert_bytes_const (P := Try.prog) w0 28 5 #[.int .u8 97, .int .u8 98] 2 2 Try.underlying28 Try.underlying5
  have C11 := Lib.hid c11
  clear c11 hbv
  go_wp2_with (go_at_call 11; (with_reducible refine C11.out.mono ?_); rintro e w1 ⟨A0, n0, c0, rfl, hn0, ho0, hb0⟩; refine Hid.out ?_)
  refine Lib.hid ?_
  have HO0 := Lib.hid ho0
  have HN0 := Lib.hid hn0
  have hbx := HBV.out.trans (hb0.mono HBV.out.size)
  have HP1 := Lib.hid (HP0.out.below hbx HP0.out.lt)
  have HQ1 := Lib.hid (HQ0.out.below hbx HQ0.out.lt)
  have HS0 := Lib.hid hbx
  have HB1 := Lib.hid (HB0.out.trans (hbx.mono HB0.out.size))
  clear hbx ho0 hn0 hb0 f0 f1 f2 C11 hcv
  obtain ⟨f0, f1, f2⟩ : w1.cell? ⟨(w.heap.size + 1), 0, none⟩ = some (.int .i64 2) ∧ w1.cell? ⟨(w.heap.size + 1), 1, none⟩ = some (.int .i64 3) ∧ w1.cell? ⟨(w.heap.size + 1), 2, none⟩ = some (.int .i64 0) := ⟨HQ1.out.cell 0, HQ1.out.cell 1, HQ1.out.cell 2⟩
  have c11 := enc_lit 2 3 0 okq (W := ((w1.alloc (.cells #[.int .u8 126, .int .u8 97] 5 (2, 3))).alloc (.cells #[.slice (some ⟨w1.heap.size, 0, none⟩) 2 2] 28))) (b := (w1.heap.size + 1)) [⟨(some ⟨w1.heap.size, 0, none⟩), 2, 2, [126, 97]⟩] (by have := Blk.new (w1.alloc (.cells #[.int .u8 126, .int .u8 97] 5 (2, 3))) 28 #[.slice (some ⟨w1.heap.size, 0, none⟩) 2 2]; simp only [World.size_alloc] at this; exact this) (fun p hp => by
    simp only [List.mem_cons, List.mem_nil_iff, or_false] at hp
    subst hp
    all_goals first | exact (RB.litM w1 [126, 97] 2 2 3 _ rfl rfl (by omega)).below ((Below.refl _ _).alloc (Nat.le_refl _) _)) (by simp) (by simp)
  have hbv : Below w1.heap.size w1 ((w1.alloc (.cells #[.int .u8 126, .int .u8 97] 5 (2, 3))).alloc (.cells #[.slice (some ⟨w1.heap.size, 0, none⟩) 2 2] 28)) := ((Below.refl _ _).alloc (Nat.le_refl _) _).alloc (by simp) _
  have HBV := Lib.hid hbv
  simp only [List.map_cons, List.map_nil, List.length_cons, List.length_nil, Nat.zero_add, Nat.reduceAdd, kb.1, kb.2] at c11
  unfold FV Enced at c11
  have hcv := Lib.run_convert_bytes_const (P := Try.prog) w1 28 5 #[.int .u8 126, .int .u8 97] 2 2 Try.underlying28 Try.underlying5
  have C11 := Lib.hid c11
  clear c11 hbv
  go_wp2_with (go_at_call 11; (with_reducible refine C11.out.mono ?_); rintro e w2 ⟨A1, n1, c1, rfl, hn1, ho1, hb1⟩; refine Hid.out ?_)
  refine Lib.hid ?_
  have HO1 := Lib.hid ho1
  have HN1 := Lib.hid hn1
  have hbx := HBV.out.trans (hb1.mono HBV.out.size)
  have HP2 := Lib.hid (HP1.out.below hbx HP1.out.lt)
  have HQ2 := Lib.hid (HQ1.out.below hbx HQ1.out.lt)
  have HS1 := Lib.hid hbx
  have HB2 := Lib.hid (HB1.out.trans (hbx.mono HB1.out.size))
  clear hbx ho1 hn1 hb1 f0 f1 f2 C11 hcv
  obtain ⟨f0, f1, f2⟩ : w2.cell? ⟨(w.heap.size + 1), 0, none⟩ = some (.int .i64 2) ∧ w2.cell? ⟨(w.heap.size + 1), 1, none⟩ = some (.int .i64 3) ∧ w2.cell? ⟨(w.heap.size + 1), 2, none⟩ = some (.int .i64 0) := ⟨HQ2.out.cell 0, HQ2.out.cell 1, HQ2.out.cell 2⟩
  have c11 := enc_lit 2 3 0 okq (W := (w2.alloc (.cells #[.slice none 0 0] 28))) (b := (w2.heap.size)) [⟨none, 0, 0, []⟩] (by have := Blk.new w2 28 #[.slice none 0 0]; exact this) (fun p hp => by
    simp only [List.mem_cons, List.mem_nil_iff, or_false] at hp
    subst hp
    all_goals first | exact RB.nil _) (by simp) (by simp)
  have hbv : Below w2.heap.size w2 (w2.alloc (.cells #[.slice none 0 0] 28)) := (Below.refl _ _).alloc (Nat.le_refl _) _
  have HBV := Lib.hid hbv
  simp only [List.map_cons, List.map_nil, List.length_cons, List.length_nil, Nat.zero_add, Nat.reduceAdd, kc] at c11
  unfold FV Enced at c11
  have hcv := True.intro
  have C11 := Lib.hid c11
  clear c11 hbv
  go_wp2_with (go_at_call 11; (with_reducible refine C11.out.mono ?_); rintro e w3 ⟨A2, n2, c2, rfl, hn2, ho2, hb2⟩; refine Hid.out ?_)
  refine Lib.hid ?_
  have HO2 := Lib.hid ho2
  have HN2 := Lib.hid hn2
  have hbx := HBV.out.trans (hb2.mono HBV.out.size)
  have HP3 := Lib.hid (HP2.out.below hbx HP2.out.lt)
  have HQ3 := Lib.hid (HQ2.out.below hbx HQ2.out.lt)
  have HS2 := Lib.hid hbx
  have HB3 := Lib.hid (HB2.out.trans (hbx.mono HB2.out.size))
  clear hbx ho2 hn2 hb2 f0 f1 f2 C11 hcv
  obtain ⟨f0, f1, f2⟩ : w3.cell? ⟨w.heap.size, 0, none⟩ = some (.int .i64 1) ∧ w3.cell? ⟨w.heap.size, 1, none⟩ = some (.int .i64 3) ∧ w3.cell? ⟨w.heap.size, 2, none⟩ = some (.int .i64 0) := ⟨HP3.out.cell 0, HP3.out.cell 1, HP3.out.cell 2⟩
  have c11 := enc_lit 1 3 0 okp (W := ((w3.alloc (.cells #[.int .u8 97, .int .u8 97, .int .u8 97, .int .u8 97] 5 (4, 5))).alloc (.cells #[.slice (some ⟨w3.heap.size, 0, none⟩) 4 4] 28))) (b := (w3.heap.size + 1)) [⟨(some ⟨w3.heap.size, 0, none⟩), 4, 4, [97, 97, 97, 97]⟩] (by have := Blk.new (w3.alloc (.cells #[.int .u8 97, .int .u8 97, .int .u8 97, .int .u8 97] 5 (4, 5))) 28 #[.slice (some ⟨w3.heap.size, 0, none⟩) 4 4]; simp only [World.size_alloc] at this; exact this) (fun p hp => by
    simp only [List.mem_cons, List.mem_nil_iff, or_false] at hp
    subst hp
    all_goals first | exact (RB.litM w3 [97, 97, 97, 97] 4 4 5 _ rfl rfl (by omega)).below ((Below.refl _ _).alloc (Nat.le_refl _) _)) (by simp) (by simp)
  have hbv : Below w3.heap.size w3 ((w3.alloc (.cells #[.int .u8 97, .int .u8 97, .int .u8 97, .int .u8 97] 5 (4, 5))).alloc (.cells #[.slice (some ⟨w3.heap.size, 0, none⟩) 4 4] 28)) := ((Below.refl _ _).alloc (Nat.le_refl _) _).alloc (by simp) _
  have HBV := Lib.hid hbv
  simp only [List.map_cons, List.map_nil, List.length_cons, List.length_nil, Nat.zero_add, Nat.reduceAdd, kd] at c11
  unfold FV Enced at c11
  have hcv := Lib.run_convert_bytes_const (P := Try.prog) w3 28 5 #[.int .u8 97, .int .u8 97, .int .u8 97, .int .u8 97] 4 4 Try.underlying28 Try.underlying5
  have C11 := Lib.hid c11
  clear c11 hbv
  go_wp2_with (go_at_call 11; (with_reducible refine C11.out.mono ?_); rintro e w4 ⟨A3, n3, c3, rfl, hn3, ho3, hb3⟩; refine Hid.out ?_)
  refine Lib.hid ?_
  have HO3 := Lib.hid ho3
  have HN3 := Lib.hid hn3
  have hbx := HBV.out.trans (hb3.mono HBV.out.size)
  have HP4 := Lib.hid (HP3.out.below hbx HP3.out.lt)
  have HQ4 := Lib.hid (HQ3.out.below hbx HQ3.out.lt)
  have HS3 := Lib.hid hbx
  have HB4 := Lib.hid (HB3.out.trans (hbx.mono HB3.out.size))
  clear hbx ho3 hn3 hb3 f0 f1 f2 C11 hcv
  obtain rfl : n0 = 4 := HN0.out
  obtain rfl : n1 = 4 := HN1.out
  have ca : (convert 28 9 (.slice A0 4 c0)).run Try.prog w4 = .ok (.string { data := #[2, 97, 98, 0] }) w4 := conv_RB (l := ([2, 97, 98, 0] : List UInt8)) (((((own_RB3 HO0.out).below HS1.out).below HS2.out).below HS3.out))
  have cb : (convert 28 9 (.slice A1 4 c1)).run Try.prog w4 = .ok (.string { data := #[125, 94, 97, 126] }) w4 := conv_RB (l := ([125, 94, 97, 126] : List UInt8)) ((((own_RB3 HO1.out).below HS2.out).below HS3.out))
  go_upto_region 8 with (go_at_call 15; (with_reducible refine (C15.out _ _).mono ?_); rintro e w3 ⟨rfl, rfl⟩)
  clear ca cb
  obtain ⟨f0, f1, f2⟩ : w4.cell? ⟨w.heap.size, 0, none⟩ = some (.int .i64 1) ∧ w4.cell? ⟨w.heap.size, 1, none⟩ = some (.int .i64 3) ∧ w4.cell? ⟨w.heap.size, 2, none⟩ = some (.int .i64 0) := ⟨HP4.out.cell 0, HP4.out.cell 1, HP4.out.cell 2⟩
  have c16 := new_yes 1 3 0 okp w4
  unfold FV at c16
  have C16 := Lib.hid c16
  clear c16
  go_wp2_with (go_at_call 16; (with_reducible refine C16.out.mono ?_); rintro e w5 ⟨r1, rfl, hr1, hx, hb⟩; refine Hid.out ?_)
  refine Lib.hid ?_
  have HX5 := Lib.hid hx
  have HQ5 := Lib.hid (HQ4.out.below hb HQ4.out.lt)
  have HB5 := Lib.hid (HB4.out.trans (hb.mono HB4.out.size))
  have HR1 := Lib.hid (show w.heap.size ≤ r1 by have := HB4.out.size; omega)
  have HBB1 := Lib.hid HB4.out.size
  clear hr1 hx hb f0 f1 f2 C16
  obtain ⟨f0, f1, f2⟩ : w5.cell? ⟨w.heap.size + 1, 0, none⟩ = some (.int .i64 2) ∧ w5.cell? ⟨w.heap.size + 1, 1, none⟩ = some (.int .i64 3) ∧ w5.cell? ⟨w.heap.size + 1, 2, none⟩ = some (.int .i64 0) := ⟨HQ5.out.cell 0, HQ5.out.cell 1, HQ5.out.cell 2⟩
  have c16 := new_yes 2 3 0 okq w5
  unfold FV at c16
  have C16 := Lib.hid c16
  clear c16
  go_wp2_with (go_at_call 16; (with_reducible refine C16.out.mono ?_); rintro e w6 ⟨r2, rfl, hr2, hy, hb⟩; refine Hid.out ?_)
  refine Lib.hid ?_
  have HY6 := Lib.hid hy
  have HX6 := Lib.hid (HX5.out.below hb)
  have HB6 := Lib.hid (HB5.out.trans (hb.mono HB5.out.size))
  have HR2 := Lib.hid (show w.heap.size ≤ r2 by have := HB5.out.size; omega)
  have HBB2 := Lib.hid HB5.out.size
  have HNE := Lib.hid (show r2 ≠ r1 by have := HX5.out.blk.lt; omega)
  clear hr2 hy hb f0 f1 f2 C16
  obtain ⟨vr1, hvr⟩ : ∃ v, v = Value.slice none 0 0 := ⟨_, rfl⟩
  rw [← hvr] at HX6
  clear hvr
  have C26 := Lib.hid (show Calls Try.prog 26 #[.int .i64 0, .string { data := #[97] }, .int .i64 0] w6 (fun e w' => ∃ g cp, e = .returned (.agg #[.int .i64 0, .slice (some ⟨g, 0, none⟩) 1 cp, .int .i64 0]) ∧ w6.heap.size ≤ g ∧ RB w' (some ⟨g, 0, none⟩) 1 cp [97] ∧ Below w6.heap.size w6 w') from at_any 0 [97] 0 w6 (by simp))
  go_wp2_with (first
    | (go_at_call 15; (with_reducible refine (C15.out _ _).mono ?_); rintro e _ ⟨rfl, rfl⟩)
    | (go_at_call 26; (with_reducible refine C26.out.mono ?_); rintro e w7 ⟨g10, cg10, rfl, hg, hr, hb⟩; refine Hid.out ?_))
  refine Lib.hid ?_
  have HG10 := Lib.hid hg
  have HRB10 := Lib.hid hr
  have HS10a := Lib.hid hb
  have HX7 := Lib.hid (HX6.out.below hb)
  have HY7 := Lib.hid (HY6.out.below hb)
  have HB7 := Lib.hid (HB6.out.trans (hb.mono HB6.out.size))
  clear hg hr hb C26
  have hfr : FrR (w7.alloc (.cells #[.int .i64 0, .slice (some ⟨g10, 0, none⟩) 1 cg10, .int .i64 0] 44)) (some ⟨w7.heap.size, 0, none⟩) [⟨⟨0, [97], 0⟩, some ⟨g10, 0, none⟩, 1, cg10⟩] := frr_lit _ (Blk.new w7 44 _) (fun d hd => by
    simp only [List.mem_cons, List.mem_nil_iff, or_false] at hd
    subst hd
    all_goals first | exact (HRB10.out).below ((Below.refl _ w7).alloc (Nat.le_refl _) _))
  have hsp : ∀ q, SFo r1 vr1 q → q < w7.heap.size := fun q hq => HX7.out.lt q hq
  have hsp2 : FrSep (SFo r1 vr1) (some ⟨w7.heap.size, 0, none⟩) [⟨⟨0, [97], 0⟩, some ⟨g10, 0, none⟩, 1, cg10⟩] := ⟨fun b o e h0 hq => by cases e; have := hsp _ hq; omega, fun d hd a hA h0 hq => by
    have h1 := HX6.out.lt _ hq
    simp only [List.mem_cons, List.mem_nil_iff, or_false] at hd
    subst hd
    all_goals (cases hA; have := HG10.out; simp at h1; omega)⟩
  have c25 := feeds_any _ r1 1 3 0 vr1 _ [1, 97, 2] _ 1 _ (w7.alloc (.cells #[.int .i64 0, .slice (some ⟨g10, 0, none⟩) 1 cg10, .int .i64 0] 44)) okp (HX7.out.below ((Below.refl _ w7).alloc (Nat.le_refl _) _)) (by decide) (by decide) (by decide) hfr hsp2 (by rw [kx1]; rfl) (by simp)
  rw [kx1] at c25
  have C25 := Lib.hid (show Calls Try.prog 25 #[.pointer (some ⟨r1, 0, none⟩), .string { data := #[1, 97, 2] }, .slice (some ⟨w7.heap.size, 0, none⟩) 1 1] (w7.alloc (.cells #[.int .i64 0, .slice (some ⟨g10, 0, none⟩) 1 cg10, .int .i64 0] 44)) _ from c25)
  clear c25 hfr hsp hsp2
  go_wp2_with (first
    | (go_at_call 15; (with_reducible refine (C15.out _ _).mono ?_); rintro e _ ⟨rfl, rfl⟩)
    | (go_at_call 25; (with_reducible refine C25.out.mono ?_); rintro e w8 ⟨rfl, vn, hd⟩; refine Hid.out ?_))
  refine Lib.hid ?_
  have HX8 := Lib.hid hd.rd
  have HBH := Lib.hid (HB7.out.trans (show Below w.heap.size w7 (w7.alloc (.cells #[.int .i64 0, .slice (some ⟨g10, 0, none⟩) 1 cg10, .int .i64 0] 44)) from ((Below.refl _ w7).alloc (Nat.le_refl _) _).mono HB7.out.size))
  have HB8 := Lib.hid (HBH.out.trans (hd.only.to_below HBH.out.size fun b hb e => by
    rcases e with e | e
    · have := HR1.out; omega
    · have := (HX7.out.own.lt b e).1; have := HBB1.out; omega))
  have HY8 := Lib.hid ((HY7.out.below ((Below.refl _ w7).alloc (Nat.le_refl _) _)).beside (HX7.out.below ((Below.refl _ w7).alloc (Nat.le_refl _) _)) HNE.out hd.only)
  clear hd C25
  obtain ⟨vr1, hvr⟩ : ∃ v, v = vn := ⟨_, rfl⟩
  subst hvr
  have hfr := FrR.nil w8
  have hsp := True.intro
  have hsp2 := FrSep.nil (SFo r1 vr1)
  have c25 := feeds_any _ r1 1 3 0 vr1 _ [97] _ 0 _ w8 okp (HX8.out.below (Below.refl _ w8)) (by decide) (by decide) (by decide) hfr hsp2 (by rw [kx2]; rfl) (by simp)
  rw [kx2] at c25
  have C25 := Lib.hid (show Calls Try.prog 25 #[.pointer (some ⟨r1, 0, none⟩), .string { data := #[97] }, .slice (none) 0 0] w8 _ from c25)
  clear c25 hfr hsp hsp2
  go_wp2_with (first
    | (go_at_call 15; (with_reducible refine (C15.out _ _).mono ?_); rintro e _ ⟨rfl, rfl⟩)
    | (go_at_call 25; (with_reducible refine C25.out.mono ?_); rintro e w9 ⟨rfl, vn, hd⟩; refine Hid.out ?_))
  refine Lib.hid ?_
  have HX9 := Lib.hid hd.rd
  have HBH := Lib.hid (HB8.out.trans (show Below w.heap.size w8 w8 from (Below.refl _ w8).mono HB8.out.size))
  have HB9 := Lib.hid (HBH.out.trans (hd.only.to_below HBH.out.size fun b hb e => by
    rcases e with e | e
    · have := HR1.out; omega
    · have := (HX8.out.own.lt b e).1; have := HBB1.out; omega))
  have HY9 := Lib.hid ((HY8.out.below (Below.refl _ w8)).beside (HX8.out.below (Below.refl _ w8)) HNE.out hd.only)
  clear hd C25
  obtain ⟨vr1, hvr⟩ : ∃ v, v = vn := ⟨_, rfl⟩
  subst hvr
  have C26 := Lib.hid (show Calls Try.prog 26 #[.int .i64 2, .string { data := #[97, 98] }, .int .i64 0] w9 (fun e w' => ∃ g cp, e = .returned (.agg #[.int .i64 2, .slice (some ⟨g, 0, none⟩) 2 cp, .int .i64 0]) ∧ w9.heap.size ≤ g ∧ RB w' (some ⟨g, 0, none⟩) 2 cp [97, 98] ∧ Below w9.heap.size w9 w') from at_any 2 [97, 98] 0 w9 (by simp))
  go_wp2_with (first
    | (go_at_call 15; (with_reducible refine (C15.out _ _).mono ?_); rintro e _ ⟨rfl, rfl⟩)
    | (go_at_call 26; (with_reducible refine C26.out.mono ?_); rintro e w10 ⟨g30, cg30, rfl, hg, hr, hb⟩; refine Hid.out ?_))
  refine Lib.hid ?_
  have HG30 := Lib.hid hg
  have HRB30 := Lib.hid hr
  have HS30a := Lib.hid hb
  have HX10 := Lib.hid (HX9.out.below hb)
  have HY10 := Lib.hid (HY9.out.below hb)
  have HB10 := Lib.hid (HB9.out.trans (hb.mono HB9.out.size))
  clear hg hr hb C26
  have C26 := Lib.hid (show Calls Try.prog 26 #[.int .i64 5, .string { data := #[] }, .int .i64 5] w10 (fun e w' => ∃ g cp, e = .returned (.agg #[.int .i64 5, .slice (some ⟨g, 0, none⟩) 0 cp, .int .i64 5]) ∧ w10.heap.size ≤ g ∧ RB w' (some ⟨g, 0, none⟩) 0 cp [] ∧ Below w10.heap.size w10 w') from at_any 5 [] 5 w10 (by simp))
  go_wp2_with (first
    | (go_at_call 15; (with_reducible refine (C15.out _ _).mono ?_); rintro e _ ⟨rfl, rfl⟩)
    | (go_at_call 26; (with_reducible refine C26.out.mono ?_); rintro e w11 ⟨g31, cg31, rfl, hg, hr, hb⟩; refine Hid.out ?_))
  refine Lib.hid ?_
  have HG31 := Lib.hid hg
  have HRB31 := Lib.hid hr
  have HS31a := Lib.hid hb
  have HX11 := Lib.hid (HX10.out.below hb)
  have HY11 := Lib.hid (HY10.out.below hb)
  have HB11 := Lib.hid (HB10.out.trans (hb.mono HB10.out.size))
  clear hg hr hb C26
  have hfr : FrR (w11.alloc (.cells #[.int .i64 2, .slice (some ⟨g30, 0, none⟩) 2 cg30, .int .i64 0, .int .i64 5, .slice (some ⟨g31, 0, none⟩) 0 cg31, .int .i64 5] 44)) (some ⟨w11.heap.size, 0, none⟩) [⟨⟨2, [97, 98], 0⟩, some ⟨g30, 0, none⟩, 2, cg30⟩, ⟨⟨5, [], 5⟩, some ⟨g31, 0, none⟩, 0, cg31⟩] := frr_lit _ (Blk.new w11 44 _) (fun d hd => by
    simp only [List.mem_cons, List.mem_nil_iff, or_false] at hd
    rcases hd with rfl | rfl
    all_goals first | exact (HRB30.out |>.below HS31a.out).below ((Below.refl _ w11).alloc (Nat.le_refl _) _) | exact (HRB31.out).below ((Below.refl _ w11).alloc (Nat.le_refl _) _))
  have hsp : ∀ q, SFo r1 vr1 q → q < w11.heap.size := fun q hq => HX11.out.lt q hq
  have hsp2 : FrSep (SFo r1 vr1) (some ⟨w11.heap.size, 0, none⟩) [⟨⟨2, [97, 98], 0⟩, some ⟨g30, 0, none⟩, 2, cg30⟩, ⟨⟨5, [], 5⟩, some ⟨g31, 0, none⟩, 0, cg31⟩] := ⟨fun b o e h0 hq => by cases e; have := hsp _ hq; omega, fun d hd a hA h0 hq => by
    have h1 := HX9.out.lt _ hq
    simp only [List.mem_cons, List.mem_nil_iff, or_false] at hd
    rcases hd with rfl | rfl
    all_goals (cases hA; have := HG30.out; have := HG31.out; have := HS30a.out.size; simp at h1; omega)⟩
  have c25 := feeds_any _ r1 1 3 0 vr1 _ [98, 4, 97] _ 2 _ (w11.alloc (.cells #[.int .i64 2, .slice (some ⟨g30, 0, none⟩) 2 cg30, .int .i64 0, .int .i64 5, .slice (some ⟨g31, 0, none⟩) 0 cg31, .int .i64 5] 44)) okp (HX11.out.below ((Below.refl _ w11).alloc (Nat.le_refl _) _)) (by decide) (by decide) (by decide) hfr hsp2 (by rw [kx3]; rfl) (by simp)
  rw [kx3] at c25
  have C25 := Lib.hid (show Calls Try.prog 25 #[.pointer (some ⟨r1, 0, none⟩), .string { data := #[98, 4, 97] }, .slice (some ⟨w11.heap.size, 0, none⟩) 2 2] (w11.alloc (.cells #[.int .i64 2, .slice (some ⟨g30, 0, none⟩) 2 cg30, .int .i64 0, .int .i64 5, .slice (some ⟨g31, 0, none⟩) 0 cg31, .int .i64 5] 44)) _ from c25)
  clear c25 hfr hsp hsp2
  go_wp2_with (first
    | (go_at_call 15; (with_reducible refine (C15.out _ _).mono ?_); rintro e _ ⟨rfl, rfl⟩)
    | (go_at_call 25; (with_reducible refine C25.out.mono ?_); rintro e w12 ⟨rfl, vn, hd⟩; refine Hid.out ?_))
  refine Lib.hid ?_
  have HX12 := Lib.hid hd.rd
  have HBH := Lib.hid (HB11.out.trans (show Below w.heap.size w11 (w11.alloc (.cells #[.int .i64 2, .slice (some ⟨g30, 0, none⟩) 2 cg30, .int .i64 0, .int .i64 5, .slice (some ⟨g31, 0, none⟩) 0 cg31, .int .i64 5] 44)) from ((Below.refl _ w11).alloc (Nat.le_refl _) _).mono HB11.out.size))
  have HB12 := Lib.hid (HBH.out.trans (hd.only.to_below HBH.out.size fun b hb e => by
    rcases e with e | e
    · have := HR1.out; omega
    · have := (HX11.out.own.lt b e).1; have := HBB1.out; omega))
  have HY12 := Lib.hid ((HY11.out.below ((Below.refl _ w11).alloc (Nat.le_refl _) _)).beside (HX11.out.below ((Below.refl _ w11).alloc (Nat.le_refl _) _)) HNE.out hd.only)
  clear hd C25
  obtain ⟨vr1, hvr⟩ : ∃ v, v = vn := ⟨_, rfl⟩
  subst hvr
  have C19 := Lib.hid (show Calls Try.prog 19 #[.pointer (some ⟨r1, 0, none⟩)] w12 (fun e w' => e = .returned (.bool true) ∧ w12 = w') from broken_any _ r1 1 3 0 vr1 _ w12 okp HX12.out)
  have C18 := Lib.hid (closes_off _ r1 1 3 0 vr1 _ none 0 w12 okp HX12.out (by decide) rfl)
  go_wp2_with (first
    | (go_at_call 19; (with_reducible refine C19.out.mono ?_); rintro e _ ⟨rfl, rfl⟩)
    | (go_at_call 18; (with_reducible refine C18.out.mono ?_); rintro e w13 ⟨rfl, hx, ho⟩; refine Hid.out ?_))
  refine Lib.hid ?_
  have HY13 := Lib.hid (HY12.out.only ho fun q hq e => by
    rcases hq with hq | hq
    · exact HNE.out (hq.symm.trans e)
    · cases hq)
  have HB13 := Lib.hid (HB12.out.trans (ho.to_below HB12.out.size fun b hb e => by have := HR1.out; omega))
  clear hx ho C19 C18
  obtain ⟨vr2, hvr⟩ : ∃ v, v = Value.slice none 0 0 := ⟨_, rfl⟩
  rw [← hvr] at HY13
  clear hvr
  have C26 := Lib.hid (show Calls Try.prog 26 #[.int .i64 1, .string { data := #[] }, .int .i64 6] w13 (fun e w' => ∃ g cp, e = .returned (.agg #[.int .i64 1, .slice (some ⟨g, 0, none⟩) 0 cp, .int .i64 6]) ∧ w13.heap.size ≤ g ∧ RB w' (some ⟨g, 0, none⟩) 0 cp [] ∧ Below w13.heap.size w13 w') from at_any 1 [] 6 w13 (by simp))
  go_wp2_with (first
    | (go_at_call 15; (with_reducible refine (C15.out _ _).mono ?_); rintro e _ ⟨rfl, rfl⟩)
    | (go_at_call 26; (with_reducible refine C26.out.mono ?_); rintro e w14 ⟨g40, cg40, rfl, hg, hr, hb⟩; refine Hid.out ?_))
  refine Lib.hid ?_
  have HG40 := Lib.hid hg
  have HRB40 := Lib.hid hr
  have HS40a := Lib.hid hb

  have HY14 := Lib.hid (HY13.out.below hb)
  have HB14 := Lib.hid (HB13.out.trans (hb.mono HB13.out.size))
  clear hg hr hb C26
  have hfr : FrR (w14.alloc (.cells #[.int .i64 1, .slice (some ⟨g40, 0, none⟩) 0 cg40, .int .i64 6] 44)) (some ⟨w14.heap.size, 0, none⟩) [⟨⟨1, [], 6⟩, some ⟨g40, 0, none⟩, 0, cg40⟩] := frr_lit _ (Blk.new w14 44 _) (fun d hd => by
    simp only [List.mem_cons, List.mem_nil_iff, or_false] at hd
    subst hd
    all_goals first | exact (HRB40.out).below ((Below.refl _ w14).alloc (Nat.le_refl _) _))
  have hsp : ∀ q, SFo r2 vr2 q → q < w14.heap.size := fun q hq => HY14.out.lt q hq
  have hsp2 : FrSep (SFo r2 vr2) (some ⟨w14.heap.size, 0, none⟩) [⟨⟨1, [], 6⟩, some ⟨g40, 0, none⟩, 0, cg40⟩] := ⟨fun b o e h0 hq => by cases e; have := hsp _ hq; omega, fun d hd a hA h0 hq => by
    have h1 := HY13.out.lt _ hq
    simp only [List.mem_cons, List.mem_nil_iff, or_false] at hd
    subst hd
    all_goals (cases hA; have := HG40.out; simp at h1; omega)⟩
  have c25 := feeds_any _ r2 2 3 0 vr2 _ [126, 97, 125, 97, 98, 126] _ 1 _ (w14.alloc (.cells #[.int .i64 1, .slice (some ⟨g40, 0, none⟩) 0 cg40, .int .i64 6] 44)) okq (HY14.out.below ((Below.refl _ w14).alloc (Nat.le_refl _) _)) (by decide) (by decide) (by decide) hfr hsp2 (by rw [ky1]; rfl) (by simp)
  rw [ky1] at c25
  have C25 := Lib.hid (show Calls Try.prog 25 #[.pointer (some ⟨r2, 0, none⟩), .string { data := #[126, 97, 125, 97, 98, 126] }, .slice (some ⟨w14.heap.size, 0, none⟩) 1 1] (w14.alloc (.cells #[.int .i64 1, .slice (some ⟨g40, 0, none⟩) 0 cg40, .int .i64 6] 44)) _ from c25)
  clear c25 hfr hsp hsp2
  go_wp2_with (first
    | (go_at_call 15; (with_reducible refine (C15.out _ _).mono ?_); rintro e _ ⟨rfl, rfl⟩)
    | (go_at_call 25; (with_reducible refine C25.out.mono ?_); rintro e w15 ⟨rfl, vn, hd⟩; refine Hid.out ?_))
  refine Lib.hid ?_
  have HY15 := Lib.hid hd.rd
  have HBH := Lib.hid (HB14.out.trans (show Below w.heap.size w14 (w14.alloc (.cells #[.int .i64 1, .slice (some ⟨g40, 0, none⟩) 0 cg40, .int .i64 6] 44)) from ((Below.refl _ w14).alloc (Nat.le_refl _) _).mono HB14.out.size))
  have HB15 := Lib.hid (HBH.out.trans (hd.only.to_below HBH.out.size fun b hb e => by
    rcases e with e | e
    · have := HR2.out; omega
    · have := (HY14.out.own.lt b e).1; have := HBB2.out; omega))
  clear hd C25
  obtain ⟨vr2, hvr⟩ : ∃ v, v = vn := ⟨_, rfl⟩
  subst hvr
  have C26 := Lib.hid (show Calls Try.prog 26 #[.int .i64 6, .string { data := #[] }, .int .i64 5] w15 (fun e w' => ∃ g cp, e = .returned (.agg #[.int .i64 6, .slice (some ⟨g, 0, none⟩) 0 cp, .int .i64 5]) ∧ w15.heap.size ≤ g ∧ RB w' (some ⟨g, 0, none⟩) 0 cp [] ∧ Below w15.heap.size w15 w') from at_any 6 [] 5 w15 (by simp))
  go_wp2_with (first
    | (go_at_call 15; (with_reducible refine (C15.out _ _).mono ?_); rintro e _ ⟨rfl, rfl⟩)
    | (go_at_call 26; (with_reducible refine C26.out.mono ?_); rintro e w16 ⟨g50, cg50, rfl, hg, hr, hb⟩; refine Hid.out ?_))
  refine Lib.hid ?_
  have HG50 := Lib.hid hg
  have HRB50 := Lib.hid hr
  have HS50a := Lib.hid hb

  have HY16 := Lib.hid (HY15.out.below hb)
  have HB16 := Lib.hid (HB15.out.trans (hb.mono HB15.out.size))
  clear hg hr hb C26
  have hfr : FrR (w16.alloc (.cells #[.int .i64 6, .slice (some ⟨g50, 0, none⟩) 0 cg50, .int .i64 5] 44)) (some ⟨w16.heap.size, 0, none⟩) [⟨⟨6, [], 5⟩, some ⟨g50, 0, none⟩, 0, cg50⟩] := frr_lit _ (Blk.new w16 44 _) (fun d hd => by
    simp only [List.mem_cons, List.mem_nil_iff, or_false] at hd
    subst hd
    all_goals first | exact (HRB50.out).below ((Below.refl _ w16).alloc (Nat.le_refl _) _))
  have hsp : ∀ q, SFo r2 vr2 q → q < w16.heap.size := fun q hq => HY16.out.lt q hq
  have hsp2 : FrSep (SFo r2 vr2) (some ⟨w16.heap.size, 0, none⟩) [⟨⟨6, [], 5⟩, some ⟨g50, 0, none⟩, 0, cg50⟩] := ⟨fun b o e h0 hq => by cases e; have := hsp _ hq; omega, fun d hd a hA h0 hq => by
    have h1 := HY15.out.lt _ hq
    simp only [List.mem_cons, List.mem_nil_iff, or_false] at hd
    subst hd
    all_goals (cases hA; have := HG50.out; simp at h1; omega)⟩
  have c25 := feeds_any _ r2 2 3 0 vr2 _ [97, 98, 99, 100] _ 1 _ (w16.alloc (.cells #[.int .i64 6, .slice (some ⟨g50, 0, none⟩) 0 cg50, .int .i64 5] 44)) okq (HY16.out.below ((Below.refl _ w16).alloc (Nat.le_refl _) _)) (by decide) (by decide) (by decide) hfr hsp2 (by rw [ky2]; rfl) (by simp)
  rw [ky2] at c25
  have C25 := Lib.hid (show Calls Try.prog 25 #[.pointer (some ⟨r2, 0, none⟩), .string { data := #[97, 98, 99, 100] }, .slice (some ⟨w16.heap.size, 0, none⟩) 1 1] (w16.alloc (.cells #[.int .i64 6, .slice (some ⟨g50, 0, none⟩) 0 cg50, .int .i64 5] 44)) _ from c25)
  clear c25 hfr hsp hsp2
  go_wp2_with (first
    | (go_at_call 15; (with_reducible refine (C15.out _ _).mono ?_); rintro e _ ⟨rfl, rfl⟩)
    | (go_at_call 25; (with_reducible refine C25.out.mono ?_); rintro e w17 ⟨rfl, vn, hd⟩; refine Hid.out ?_))
  refine Lib.hid ?_
  have HY17 := Lib.hid hd.rd
  have HBH := Lib.hid (HB16.out.trans (show Below w.heap.size w16 (w16.alloc (.cells #[.int .i64 6, .slice (some ⟨g50, 0, none⟩) 0 cg50, .int .i64 5] 44)) from ((Below.refl _ w16).alloc (Nat.le_refl _) _).mono HB16.out.size))
  have HB17 := Lib.hid (HBH.out.trans (hd.only.to_below HBH.out.size fun b hb e => by
    rcases e with e | e
    · have := HR2.out; omega
    · have := (HY16.out.own.lt b e).1; have := HBB2.out; omega))
  clear hd C25
  obtain ⟨vr2, hvr⟩ : ∃ v, v = vn := ⟨_, rfl⟩
  subst hvr
  have hfr := FrR.nil w17
  have hsp := True.intro
  have hsp2 := FrSep.nil (SFo r2 vr2)
  have c25 := feeds_any _ r2 2 3 0 vr2 _ [126, 97] _ 0 _ w17 okq (HY17.out.below (Below.refl _ w17)) (by decide) (by decide) (by decide) hfr hsp2 (by rw [ky3]; rfl) (by simp)
  rw [ky3] at c25
  have C25 := Lib.hid (show Calls Try.prog 25 #[.pointer (some ⟨r2, 0, none⟩), .string { data := #[126, 97] }, .slice (none) 0 0] w17 _ from c25)
  clear c25 hfr hsp hsp2
  go_wp2_with (first
    | (go_at_call 15; (with_reducible refine (C15.out _ _).mono ?_); rintro e _ ⟨rfl, rfl⟩)
    | (go_at_call 25; (with_reducible refine C25.out.mono ?_); rintro e w18 ⟨rfl, vn, hd⟩; refine Hid.out ?_))
  refine Lib.hid ?_
  have HY18 := Lib.hid hd.rd
  have HBH := Lib.hid (HB17.out.trans (show Below w.heap.size w17 w17 from (Below.refl _ w17).mono HB17.out.size))
  have HB18 := Lib.hid (HBH.out.trans (hd.only.to_below HBH.out.size fun b hb e => by
    rcases e with e | e
    · have := HR2.out; omega
    · have := (HY17.out.own.lt b e).1; have := HBB2.out; omega))
  clear hd C25
  obtain ⟨vr2, hvr⟩ : ∃ v, v = vn := ⟨_, rfl⟩
  subst hvr
  have C26 := Lib.hid (show Calls Try.prog 26 #[.int .i64 11, .string { data := #[] }, .int .i64 4] w18 (fun e w' => ∃ g cp, e = .returned (.agg #[.int .i64 11, .slice (some ⟨g, 0, none⟩) 0 cp, .int .i64 4]) ∧ w18.heap.size ≤ g ∧ RB w' (some ⟨g, 0, none⟩) 0 cp [] ∧ Below w18.heap.size w18 w') from at_any 11 [] 4 w18 (by simp))
  go_wp2_with (first
    | (go_at_call 15; (with_reducible refine (C15.out _ _).mono ?_); rintro e _ ⟨rfl, rfl⟩)
    | (go_at_call 26; (with_reducible refine C26.out.mono ?_); rintro e w19 ⟨g70, cg70, rfl, hg, hr, hb⟩; refine Hid.out ?_))
  refine Lib.hid ?_
  have HG70 := Lib.hid hg
  have HRB70 := Lib.hid hr
  have HS70a := Lib.hid hb

  have HY19 := Lib.hid (HY18.out.below hb)
  have HB19 := Lib.hid (HB18.out.trans (hb.mono HB18.out.size))
  clear hg hr hb C26
  have hfr : FrR (w19.alloc (.cells #[.int .i64 11, .slice (some ⟨g70, 0, none⟩) 0 cg70, .int .i64 4] 44)) (some ⟨w19.heap.size, 0, none⟩) [⟨⟨11, [], 4⟩, some ⟨g70, 0, none⟩, 0, cg70⟩] := frr_lit _ (Blk.new w19 44 _) (fun d hd => by
    simp only [List.mem_cons, List.mem_nil_iff, or_false] at hd
    subst hd
    exact HRB70.out.below ((Below.refl _ w19).alloc (Nat.le_refl _) _))
  have hsp2 : FrSep (fun q => q = r2) (some ⟨w19.heap.size, 0, none⟩) [⟨⟨11, [], 4⟩, some ⟨g70, 0, none⟩, 0, cg70⟩] := ⟨fun b o e h0 hq => by cases e; have := HY19.out.blk.lt; omega, fun d hd a hA h0 hq => by
    simp only [List.mem_cons, List.mem_nil_iff, or_false] at hd
    subst hd
    exact absurd h0 (by simp)⟩
  have c18 := closes_on _ r2 2 3 0 vr2 _ _ 1 _ (w19.alloc (.cells #[.int .i64 11, .slice (some ⟨g70, 0, none⟩) 0 cg70, .int .i64 4] 44)) okq (HY19.out.below ((Below.refl _ w19).alloc (Nat.le_refl _) _)) (by decide) rfl hfr hsp2 rfl
  have C18 := Lib.hid (show Calls Try.prog 18 #[.pointer (some ⟨r2, 0, none⟩), .slice (some ⟨w19.heap.size, 0, none⟩) 1 1] (w19.alloc (.cells #[.int .i64 11, .slice (some ⟨g70, 0, none⟩) 0 cg70, .int .i64 4] 44)) _ from c18)
  clear c18 hfr hsp2
  go_wp2_with (go_at_call 18; (with_reducible refine C18.out.mono ?_); rintro e w20 ⟨rfl, hy, ho⟩; refine Hid.out ?_)
  refine Lib.hid ?_
  have HBH := Lib.hid (HB19.out.trans (show Below w.heap.size w19 (w19.alloc (.cells #[.int .i64 11, .slice (some ⟨g70, 0, none⟩) 0 cg70, .int .i64 4] 44)) from ((Below.refl _ w19).alloc (Nat.le_refl _) _).mono HB19.out.size))
  have HBF := Lib.hid (HBH.out.trans (ho.to_below HBH.out.size fun b hb e => by have := HR2.out; omega))
  have hcv := Lib.run_convert_bytes_const (P := Try.prog) w20 28 5 #[.int .u8 97] 1 1 Try.underlying28 Try.underlying5
  have hbc : Below w20.heap.size w20 (w20.alloc (.cells #[.int .u8 97] 5 (1, 2))) := (Below.refl _ _).alloc (Nat.le_refl _) _
  have C17 := Lib.hid (feed_shut _ r2 2 3 0 vr2 _ (some ⟨w20.heap.size, 0, none⟩) 1 1 (w20.alloc (.cells #[.int .u8 97] 5 (1, 2))) okq (hy.below hbc) rfl)
  have HBC := Lib.hid hbc
  clear hy ho C18 hbc
  go_wp2_with (first
    | (go_at_call 15; (with_reducible refine (C15.out _ _).mono ?_); rintro e _ ⟨rfl, rfl⟩)
    | (go_at_call 17; (with_reducible refine C17.out.mono ?_); rintro e wz ⟨rfl, hbz⟩; have HBZ := Lib.hid hbz; clear hbz))
  go_ret
  exact ⟨rfl, HBF.out.trans ((HBC.out.mono HBF.out.size).trans (HBZ.out.mono (Nat.le_trans HBF.out.size HBC.out.size)))⟩
end Go.Proofs.Ytibkhjpjneoabaa
