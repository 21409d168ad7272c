/- The contract of (*Reader).Get; pass at a reader's state; Skip. -/
import Derived.Test.YthgbnpafhkhjpaaPas
namespace Go.Proofs.Ythgbnpafhkhjpaa
open Go.RowKit
attribute [local go_sem] wide_fn wide_depth wide_fn_in wide_depth_in Oper.semAt_some
set_option linter.unusedVariables false
set_option linter.unusedSimpArgs false

theorem bitsV_snoc (l : List Bool) (b : Bool) : bitsV (l ++ [b]) = 2 * bitsV l + b.toNat := by simp [bitsV]
theorem bitsV_lt (l : List Bool) : bitsV l < 2 ^ l.length := by
  induction h : l.length generalizing l with
  | zero => obtain rfl : l = [] := List.eq_nil_of_length_eq_zero h; decide
  | succ n ih =>
    obtain ⟨m, b, rfl⟩ : ∃ m b, l = m ++ [b] := by
      rcases List.eq_nil_or_concat l with rfl | ⟨m, b, rfl⟩
      · simp at h
      · exact ⟨m, b, by simp⟩
    have hm : m.length = n := by simpa using h
    rw [bitsV_snoc, Nat.pow_succ]
    have := ih m hm
    have := b.toNat_le
    omega
theorem cut_pack (bits : List Bool) : cut (pack bits) 0 bits.length = bits := by
  apply List.ext_getElem
  · simp [cut]
  · intro i h1 h2
    simp only [cut, List.getElem_map, List.getElem_range, Nat.zero_add]
    rw [bbit_pack _ _ (by rw [pack_length]; omega), getD_get _ _ _ h2]

/-- The error of a reader's call. -/
def rE (l : List UInt8) (p : Nat) (cs : List (Bool × Int)) (cnt : Int) : Int := firstE ([(true, 1)] ++ cs ++ [(decide (cnt ≤ ((8 * l.length : Nat) : Int) - p), 4)])
/-- How many bits it passes. -/
def rN (E cnt : Int) : Nat := if E = 0 then cnt.toNat else 0

theorem firstE_front : ∀ (cs ds : List (Bool × Int)), (∀ c ∈ cs, c.2 ≠ 0) → firstE (cs ++ ds) = 0 → firstE cs = 0 ∧ firstE ds = 0
  | [], ds, _, h => ⟨rfl, h⟩
  | (true, _) :: cs, ds, hn, h => firstE_front cs ds (fun c hc => hn c (by simp [hc])) h
  | (false, e) :: cs, ds, hn, h => absurd (show e = 0 from h) (hn (false, e) (by simp))

theorem pass_rs (B g : Nat) (v : Value) (l : List UInt8) (p : Nat) (cnt : Int) (b n : Nat) (cs : List (Bool × Int)) (w : World) (hr : RS w B g v l p) (hcs : CS w b 0 cs) (hn : cs.length = n) (h0 : 0 < n) (h1 : n ≤ 100) (hz : ∀ c ∈ cs, c.2 ≠ 0) (hnn : firstE cs = 0 → 0 ≤ cnt) :
    Calls Try.prog 39 #[.pointer (some ⟨g, 0, none⟩), .int .i64 cnt, .slice (some ⟨b, 0, none⟩) n n] w fun e w' => ∃ v', e = .returned (.tuple #[.agg #[v', .int .i64 (rN (rE l p cs cnt) cnt)], .int .i64 (rE l p cs cnt)]) ∧ w'.ownsRow w.heap.size 5 1 v' ((rN (rE l p cs cnt) cnt + 7) / 8) ((pack (cut l p (rN (rE l p cs cnt) cnt))).map u8) ∧ RS w' B g v l (p + rN (rE l p cs cnt) cnt) ∧ Two g (.slice none 0 0) w w' := by
  by_cases hE : rE l p cs cnt = 0
  · obtain ⟨f1, f2⟩ := firstE_front ([(true, 1)] ++ cs) _ (by intro c hc; simp at hc; rcases hc with rfl | hc; decide; exact hz c hc) hE
    have f3 : firstE cs = 0 := f1
    obtain ⟨c, rfl⟩ : ∃ c : Nat, cnt = c := ⟨cnt.toNat, by have := hnn f3; omega⟩
    have hN : rN (rE l p cs c) c = c := by unfold rN; rw [if_pos hE]; rfl
    rw [hN, hE]
    have hcl : p + c ≤ 8 * l.length := by
      have hp := hr.place
      cases hd : decide ((c : Int) ≤ ((8 * l.length : Nat) : Int) - p)
      · rw [hd] at f2; simp [firstE] at f2
      · simp at hd; omega
    exact pass_ok B g v l p c b n cs w hr hcs hn h0 h1 f3 hcl
  · have hN : rN (rE l p cs cnt) cnt = 0 := by unfold rN; rw [if_neg hE]
    rw [hN]
    refine (pass_err (some ⟨g, 0, none⟩) cnt (rE l p cs cnt) b n w (by simpa using hE) fun W hb => ?_).mono ?_
    · exact read_err (some ⟨g, 0, none⟩) cnt _ (rE l p cs cnt) true b n cs W (hcs.keep hb) hn h0 h1 (fun W2 h2 => ris_some g _ _ _ _ W2 ((hr.below hb (Nat.le_refl _)).below h2 (Nat.le_refl _)).blk) (fun W2 h2 => rleft_some g v _ p W2 (by have := hr.small; omega) hr.place ((hr.below hb (Nat.le_refl _)).below h2 (Nat.le_refl _)).blk) rfl (by simpa using hE)
    · rintro e w' ⟨rfl, hb⟩
      exact ⟨_, rfl, by rw [show cut l p 0 = [] from rfl, pack_nil]; exact World.ownsRow_nil _ _ 5 1, hr.below hb (Nat.le_refl _), (Two.refl _ _ _).below hb⟩

theorem pass_none (p : Option Addr) (cnt : Int) (b n : Nat) (cs : List (Bool × Int)) (w : World) (hcs : CS w b 0 cs) (hn : cs.length = n) (h0 : 0 < n) (h1 : n ≤ 100) (h49 : ∀ W, Below w.heap.size w W → Calls Try.prog 49 #[.pointer p] W fun e w' => e = .returned (.bool false) ∧ W = w') :
    Calls Try.prog 39 #[.pointer p, .int .i64 cnt, .slice (some ⟨b, 0, none⟩) n n] w fun e w' => e = .returned (.tuple #[.agg #[.slice none 0 0, .int .i64 0], .int .i64 1]) ∧ Below w.heap.size w w' := by
  refine pass_err p cnt 1 b n w rfl fun W hb => ?_
  refine read_err p cnt 0 1 false b n cs W (hcs.keep hb) hn h0 h1 (fun W2 h2 => h49 W2 (hb.trans (h2.mono hb.size))) (fun W2 h2 => (rleft_none _ W2 (h49 W2 (hb.trans (h2.mono hb.size)))).mono ?_) rfl rfl
  rintro e w' ⟨rfl, rfl⟩
  exact ⟨rfl, Below.refl _ _⟩

theorem cs_at1 {W : World} {b : Nat} {x : Bool} {e : Int} (hb : b = W.heap.size) : CS (W.alloc (.cells #[.bool x, .int .i64 e] 72)) b 0 [(x, e)] := by
  subst hb
  exact cs_new W [(x, e)]

set_option maxRecDepth 100000 in
set_option maxHeartbeats 2000000 in
theorem get_walk (p : Option Addr) (n E : Int) (bits : List Bool) (P : World → Prop) (w : World) (hbits : bits.length ≤ 32)
    (h39 : ∀ b W, Below w.heap.size w W → CS W b 0 [(decide (1 ≤ n) && decide (n ≤ 32), 2)] → Calls Try.prog 39 #[.pointer p, .int .i64 n, .slice (some ⟨b, 0, none⟩) 1 1] W fun e w' => ∃ v', e = .returned (.tuple #[.agg #[v', .int .i64 bits.length], .int .i64 E]) ∧ w'.ownsRow W.heap.size 5 1 v' ((bits.length + 7) / 8) ((pack bits).map u8) ∧ P w' ∧ W.heap.size ≤ w'.heap.size ∧ ∀ k t cs, Blk W k t cs → w.heap.size ≤ k → Blk w' k t cs) :
    Calls Try.prog 16 #[.pointer p, .int .i64 n] w fun e w' => e = .returned (.tuple #[.int .i64 (bitsV bits), .int .i64 E]) ∧ ∃ w1, P w1 ∧ w.heap.size ≤ w1.heap.size ∧ Below w.heap.size w1 w' := by
  have hb1 : Below w.heap.size w ((w.alloc (.cells #[.int .i64 0] 3)).alloc (.cells #[.bool (decide (1 ≤ n) && decide (n ≤ 32)), .int .i64 2] 72)) := ((Below.refl _ w).alloc (Nat.le_refl _) _).alloc (by simp) _
  have C39 := Lib.hid (h39 (w.heap.size + 1) _ hb1 (cs_at1 (by simp)))
  have K0 := Lib.hid (show Blk ((w.alloc (.cells #[.int .i64 0] 3)).alloc (.cells #[.bool (decide (1 ≤ n) && decide (n ≤ 32)), .int .i64 2] 72)) w.heap.size 3 #[.int .i64 0] from (Blk.new w 3 _).alloc _)
  have HS := Lib.hid (show w.heap.size + 2 = ((w.alloc (.cells #[.int .i64 0] 3)).alloc (.cells #[.bool (decide (1 ≤ n) && decide (n ≤ 32)), .int .i64 2] 72)).heap.size by simp)
  have HBI := Lib.hid hbits
  obtain ⟨c, hc⟩ : ∃ c, bits.length = c := ⟨_, rfl⟩
  rw [hc] at C39
  have HC := Lib.hid hc
  clear h39 hb1 hbits hc
  refine (callsIn_wide (n := 100)).1 ?_
  refine callsIn_of_wp_marks Try.func16 rfl trivial ?_ rfl
  refine wpIn_wide.2 ?_
  simp only [Try.ntmps16, List.size_toArray, List.length_cons, List.length_nil, Nat.reduceAdd, Nat.reduceSub, Array.replicate_succ, Array.replicate_zero, List.push_toArray, List.append_toArray, List.nil_append, List.cons_append]
  go_wp2_with (first
    | (go_at_call 37; (with_reducible refine (in_any _ _ _ _).mono ?_); rintro e w1 ⟨rfl, rfl⟩)
    | (go_at_call 39; (with_reducible refine C39.out.mono ?_); rintro e w1 ⟨v1, rfl, ho, hP, hsz1, hk1⟩; obtain ⟨A1, c1, rfl, -⟩ := own_form ho; have HO := Lib.hid ho; have HP := Lib.hid hP; have HSZ := Lib.hid hsz1; have HK1 := Lib.hid (hk1 _ _ _ K0.out (Nat.le_refl _)); clear ho hP hsz1 hk1)
    | (go_at_call 40; (with_reducible refine (from_any _ _ _).mono ?_); rintro e w2 ⟨rfl, rfl⟩))
  obtain ⟨w3, hw3⟩ : ∃ w3, ((w1.alloc (.cells #[.slice A1 ((c + 7) / 8) c1, .int .i64 c] 61)).alloc (.cells #[.pointer (some ⟨w1.heap.size, 0, none⟩)] 98)).alloc (.cells #[.int .i64 0] 3) = w3 := ⟨_, rfl⟩
  rw [hw3]
  have hB3 : Below w1.heap.size w1 w3 := hw3 ▸ (((Below.refl _ w1).alloc (Nat.le_refl _) _).alloc (by simp) _).alloc (by simp; omega) _
  have hz3 : w3.heap.size = w1.heap.size + 3 := by rw [← hw3]; simp
  have kG : Blk w3 w1.heap.size 61 #[.slice A1 ((c + 7) / 8) c1, .int .i64 c] := hw3 ▸ ((Blk.new w1 61 _).alloc _).alloc _
  have kS : Blk w3 (w1.heap.size + 1) 98 #[.pointer (some ⟨w1.heap.size, 0, none⟩)] := by have := (Blk.new (w1.alloc (.cells #[.slice A1 ((c + 7) / 8) c1, .int .i64 c] 61)) 98 #[.pointer (some ⟨w1.heap.size, 0, none⟩)]).alloc (.cells #[.int .i64 0] 3); rw [World.size_alloc] at this; exact hw3 ▸ this
  have kP : Blk w3 (w1.heap.size + 1 + 1) 3 #[.int .i64 ((0 : Nat) : Int)] := by have := Blk.new ((w1.alloc (.cells #[.slice A1 ((c + 7) / 8) c1, .int .i64 c] 61)).alloc (.cells #[.pointer (some ⟨w1.heap.size, 0, none⟩)] 98)) 3 #[.int .i64 0]; rw [World.size_alloc, World.size_alloc] at this; exact hw3 ▸ this
  clear hw3
  have k4 := HK1.out.below hB3 HK1.out.lt
  have hho : Holds w3 A1 ((c + 7) / 8) ((pack bits).map u8) := (holds_own HO.out).keep hB3
  have hAl : ∀ q, A1 = some q → w.heap.size + 2 ≤ q.block ∧ q.block < w1.heap.size := fun q hq => by
    have := HO.out.lt q.block (by rw [hq]; rfl)
    rw [HS.out]
    exact this
  have h4w := HK1.out.lt
  have hc32 : c ≤ 32 := by rw [← HC.out]; exact HBI.out
  refine (wpIn_wide (n := 99)).1 ?_
  refine wpIn_iter (N := c - 0) (At := fun i vs _ => vs = #[.bool (bbit (pack bits) (0 + i))]) (Kp := fun _ X Y => FromS (w1.heap.size + 1) w1.heap.size A1 X Y) (Step := fun X Y => X = Y) rfl (by omega) (gf := 65) (lb := #[.pointer (some ⟨w1.heap.size + 1 + 1, 0, none⟩), .pointer (some ⟨w1.heap.size + 1, 0, none⟩)]) rfl trivial (enters_of Try.func65 (by kernel_rfl) rfl)
    (fun W1 hb1 hz1 => from_iter 98 W1 (w1.heap.size + 1 + 1) (w1.heap.size + 1) w1.heap.size 61 _ 0 c ((c + 7) / 8) c1 A1 (pack bits) (kP.below hb1 kP.lt) (kS.below hb1 kS.lt) (kG.below hb1 kG.lt) rfl rfl (hho.keep hb1) (by omega) (by omega))
    (fun X Y h k _ _ => by rw [h])
    (fun vs X Z k o o' hk hZ ho h => ⟨(World.putObj_heap_other (by omega)).trans h.box, (World.putObj_heap_other (by omega)).trans h.own, fun q hq => (World.putObj_heap_other (by have := hAl q hq; omega)).trans (h.row q hq)⟩)
    (fun i vs X h => by rw [h]; rfl)
    (fun j X => Blk X w.heap.size 3 #[.int .i64 (bitsV (cut (pack bits) 0 j))] ∧ Two w.heap.size (.slice none 0 0) w3 X)
    (fun cd j X => False)
    ?hI ?hIx (fun j X Z h hs => hs ▸ h) (fun cd j X Z h hs => h) ?h0
    (fun j vs X a' Wx => (∃ y0 y1 y2 y3 y5 y6 y8 y9 y10 y11 y12 y13 y14 y15 y16 y17 y18 y19 y20 y21 y22 y23 y24 y25 y26 : Value, a' = { tmps := #[y0, y1, y2, y3, .pointer (some ⟨w.heap.size, 0, none⟩), y5, y6, .bool (bbit (pack bits) j), y8, y9, y10, y11, y12, y13, y14, y15, y16, y17, y18, y19, y20, y21, y22, y23, y24, y25, y26], defers := [] }) ∧ FromS (w1.heap.size + 1) w1.heap.size A1 X Wx ∧ Blk Wx w.heap.size 3 #[.int .i64 (bitsV (cut (pack bits) 0 j))] ∧ Two w.heap.size (.slice none 0 0) w3 Wx)
    ?hAx ?assign ?body ?done ?stop
  case hI => exact fun j X k o o' hk hX ho ⟨h1, h2⟩ => ⟨h1.calm hX ho, h2.calm (by omega) _⟩
  case hIx => exact fun cd j X k o o' hk hX ho h => h
  case h0 => exact fun W1 hb1 hz1 => ⟨k4.below hb1 k4.lt, (Two.refl _ _ _).below hb1⟩
  case hAx => exact fun j vs X0 a' X k o o' hk hX ho ⟨ha, hf, h1, h2⟩ => ⟨ha, ⟨(World.putObj_heap_other (by omega)).trans hf.box, (World.putObj_heap_other (by omega)).trans hf.own, fun q hq => (World.putObj_heap_other (by have := hAl q hq; omega)).trans (hf.row q hq)⟩, h1.calm hX ho, h2.calm (by omega) _⟩
  case assign =>
    rintro l' j vs X K hl hj hI rfl hlt2 hK
    gi_wp2
    exact hK _ _ (KeepsFrom.refl _ _) ⟨⟨_, _, _, _, _, _, _, _, _, _, _, _, _, _, _, _, _, _, _, _, _, _, _, _, _, rfl⟩, FromS.refl _ _ _ _, hI⟩
  case body =>
    rintro l' j vs X a' Wx hl hj hr ⟨⟨y0, y1, y2, y3, y5, y6, y8, y9, y10, y11, y12, y13, y14, y15, y16, y17, y18, y19, y20, y21, y22, y23, y24, y25, y26, rfl⟩, hf, h1, h2⟩
    have e0 := h1.cell 0
    have f0 := h1.frozen 0
    simp at e0
    have hlt := bitsV_lt (cut (pack bits) 0 j)
    rw [cut_length] at hlt
    have hlt2 : 2 ^ j ≤ 2 ^ 31 := Nat.pow_le_pow_right (by omega) (by omega)
    have hst := bitsV_snoc (cut (pack bits) 0 j) (bbit (pack bits) (0 + j))
    rw [← cut_snoc, Nat.zero_add] at hst
    obtain ⟨x, hx⟩ : ∃ x : Int, (bitsV (cut (pack bits) 0 j) : Int) = x := ⟨_, rfl⟩
    have hx0 : (0 : Int) ≤ x := by omega
    have hx1 : x < 2147483648 := by omega
    rw [hx] at e0
    have HX := Lib.hid hx
    have HST := Lib.hid hst
    have H1 := Lib.hid h1
    have H2 := Lib.hid h2
    have HF := Lib.hid hf
    have fin : ∀ (Z : World) (u : Value), FromS (w1.heap.size + 1) w1.heap.size A1 X Z → FromS (w1.heap.size + 1) w1.heap.size A1 X (Z.setCell ⟨w.heap.size, 0, none⟩ u) := fun Z u h =>
      h.trans ⟨Below.heap_setCell _ _ _ _ (by simp; omega), Below.heap_setCell _ _ _ _ (by simp; omega), fun q hq => Below.heap_setCell _ _ _ _ (by have := hAl q hq; simp; omega)⟩
    have FIN := Lib.hid fin
    clear hlt hlt2 hst h1 h2 hf fin hx
    cases hb : bbit (pack bits) j
    · have HBB := Lib.hid hb
      rw [hb] at HST
      clear hb
      gi_wp2_with fail
      refine ⟨(KeepsOthers.setCell _ _ _).from _, FIN.out _ _ HF.out, ?_, H2.out.set (.inl rfl)⟩
      have hv : ((bitsV (cut (pack bits) 0 (j + 1)) : Nat) : Int) = x * 2 := by rw [HST.out, ← HX.out]; simp; omega
      rw [hv]
      exact H1.out.set_ 0 _
    · have HBB := Lib.hid hb
      rw [hb] at HST
      clear hb
      gi_wp2_with fail
      refine ⟨((KeepsOthers.setCell _ _ _).trans (KeepsOthers.setCell _ _ _)).from _, FIN.out _ _ (FIN.out _ _ HF.out), ?_, (H2.out.set (.inl rfl)).set (.inl rfl)⟩
      have hv : ((bitsV (cut (pack bits) 0 (j + 1)) : Nat) : Int) = x * 2 + 1 := by rw [HST.out, ← HX.out]; simp; omega
      rw [hv]
      exact (H1.out.set_ 0 _).set_ 0 _
  case done =>
    rintro D X hD ⟨h1, h2⟩ hK
    simp only [Exit.inBlock, Exit.then]
    go_at_K
    have hcc : cut (pack bits) 0 c = bits := by rw [← HC.out]; exact cut_pack bits
    rw [Nat.sub_zero, hcc] at h1
    have e0 := h1.cell 0
    have f0 := h1.frozen 0
    simp at e0
    have H1 := Lib.hid h1
    have H2 := Lib.hid h2
    have HK := Lib.hid hK
    obtain ⟨x, hx⟩ : ∃ x : Int, (bitsV bits : Int) = x := ⟨_, rfl⟩
    rw [hx] at e0 H1
    have HX := Lib.hid hx
    clear h1 h2 hK hx
    go_wp2_with fail
    have hKs : (X.setCell ⟨w.heap.size, 0, none⟩ (.int .i64 x)).heap[D]? = some (.deferred (some [])) := by
      rw [Below.heap_setCell _ _ _ _ (by simp; omega)]; exact HK.out
    refine ⟨by simp, .inl ⟨_, _, rfl, run_takeDeferred hKs, ?_⟩⟩
    have g1 := ((H1.out.set_ 0 (.int .i64 x)).calm (o' := .deferred none) hKs rfl).cell 0
    have hbz : Below w.heap.size w1 ((X.setCell ⟨w.heap.size, 0, none⟩ (.int .i64 x)).putObj D (.deferred none)) := by
      refine below_calm (Below.setCell ?_ (by simp) _) (by omega) hKs
      exact (hB3.mono (Nat.le_of_lt h4w)).trans ⟨H2.out.os, H2.out.tape, H2.out.output, H2.out.size, fun k hk => H2.out.block k (by omega) (by omega) (by simp [Value.ownBlock])⟩
    generalize (X.setCell ⟨w.heap.size, 0, none⟩ (.int .i64 x)).putObj D (.deferred none) = W9 at *
    refine ⟨.tuple #[.int .i64 x, .int .i64 E], ?_, by rw [HX.out], w1, HP.out, Nat.le_of_lt h4w, hbz⟩
    simp at g1
    simp [results, Try.results16, go_sem, g1]
  case stop => exact fun D cd j X hD hj h hK => h.elim
end Go.Proofs.Ythgbnpafhkhjpaa
