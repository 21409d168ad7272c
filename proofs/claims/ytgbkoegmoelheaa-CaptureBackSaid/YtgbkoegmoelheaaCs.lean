/- Blocks: its contract; the iterator that it returns. -/
import Derived.Test.YtgbkoegmoelheaaCr
namespace Go.Proofs.Ytgbkoegmoelheaa
open Go.RowKit
attribute [local go_sem] wide_fn wide_depth wide_fn_in wide_depth_in Oper.semAt_some
set_option linter.unusedVariables false
set_option linter.unusedSimpArgs false

theorem round_wide {m m' l : Nat} {P : Program} {l' : Nat} {f : FuncId} {tmps : Array Value} {assign body : Code} {w : World} {R : Ending → World → Prop}
    (h : RoundIn Fence.wide m P l f tmps assign body w R) : RoundIn (Fence.wide.inRound l') m' P l f tmps assign body w R := ⟨trivial, fun c cs _ => h.2 c cs (room_wide _)⟩
def BAt (xs : List Fd) (i : Nat) (vs : Array Value) (W : World) : Prop := ∃ x, xs[i]? = some x ∧ vs = #[.int .i64 (x.at_ : Int), .int .i64 (x.l.length : Int)]
def BKp (b a : Nat) (A : Option Addr) (n : Nat) (vs : Array Value) (X Y : World) : Prop := X.heap.size ≤ Y.heap.size ∧ ∀ k, k < X.heap.size → (b ≤ k ∨ k = a ∨ ∃ ad, A = some ad ∧ 0 < n ∧ k = ad.block) → Y.heap[k]? = X.heap[k]?
/-- Between rounds. -/
structure BI (b l a n : Nat) (A : Option Addr) (c : Nat) (J : Nat → World → Prop) (i : Nat) (X : World) : Prop where
  j : J i X
  y : Blk X b 108 #[.func (.yield l) #[] #[]]
  k : Blk X (b + 1) 23 #[.slice A n c]
  s : b + 2 ≤ X.heap.size
  ad : ∀ ad, A = some ad → 0 < n → ad.block < b
def BX (b N : Nat) (Jx : Nat → World → Prop) (cd : Code) (X : World) : Prop := (cd = .ret ∧ b ≤ X.heap.size) ∧ ∃ q, q < N ∧ Jx (q + 1) X
structure BAx (b l a n : Nat) (A : Option Addr) (c : Nat) (J : Nat → World → Prop) (xs : List Fd) (i : Nat) (vs : Array Value) (X0 X : World) (tm : Array Value) (x : Fd) (g5 : Nat) (A5 : Option Addr) (c5 : Nat) (ds5 : List Pd) (v6 : Value) : Prop where
  hx : xs[i]? = some x
  htm : tm = #[.func (.yield l) #[] #[], .pointer (some ⟨a, 0, none⟩), .pointer (some ⟨b, 0, none⟩), .pointer (some ⟨g5, 0, none⟩), .slice A n c, .func (.func 57) #[] #[.pointer (some ⟨b + 1, 0, none⟩)], v6, undef, undef, undef, undef, undef, undef, undef, undef]
  k5 : Blk X g5 95 #[.int .i64 (x.at_ : Int), .int .i64 (x.en : Int), .slice A5 ds5.length c5]
  eq : pks ds5 = x.l
  kp : FKp (b + 1) A n vs X0 X
  bi : BI b l a n A c J i X
def BAxx (b l a n : Nat) (A : Option Addr) (c : Nat) (J : Nat → World → Prop) (xs : List Fd) (i : Nat) (vs : Array Value) (X0 : World) (a' : Act) (X : World) : Prop := a'.defers = [] ∧ ∃ x g5 A5 c5 ds5 v6, BAx b l a n A c J xs i vs X0 X a'.tmps x g5 A5 c5 ds5 v6
theorem FKp.of_bkp {b a n : Nat} {A : Option Addr} {vs vs2 : Array Value} {X Y : World} (h : BKp b a A n vs X Y) (hb : b + 2 ≤ X.heap.size) (hA : ∀ ad, A = some ad → 0 < n → ad.block < b) : FKp (b + 1) A n vs2 X Y :=
  ⟨h.1, fun k hk => by
    rcases hk with rfl | ⟨ad, hA2, h0, rfl⟩
    · exact h.2 _ (by omega) (.inl (by omega))
    · exact h.2 _ (by have := hA ad hA2 h0; omega) (.inr (.inr ⟨ad, hA2, h0, rfl⟩))⟩

set_option maxRecDepth 100000 in
set_option maxHeartbeats 2000000 in
theorem bl_iter (W : World) (L : List UInt8) (a n : Nat) (A : Option Addr) (c : Nat) (hka : Blk W a 23 #[.slice A n c]) (hr : RB W A n c L) (hn : n ≤ 2000000) :
    Iter Fence.wide 99 Try.prog 58 #[.pointer (some ⟨a, 0, none⟩)] (BAt (blks L 0)) (BKp W.heap.size a A n) (Still W.heap.size) (blks L 0).length W := by
  intro l J Jx hJ hJx hY h0
  obtain ⟨xs, hxs⟩ : ∃ xs, blks L 0 = xs := ⟨_, rfl⟩
  rw [hxs] at hY ⊢
  have HXL := Lib.hid hxs
  have HLN := Lib.hid hr.len
  have HJ := Lib.hid hJ
  have HJx := Lib.hid hJx
  have HY := Lib.hid hY
  have HN := Lib.hid hn
  have c1 := (hka.alloc (.cells #[.func (.yield l) #[] #[]] 108)).cell 0
  simp at c1
  have HAD := Lib.hid (show ∀ ad, A = some ad → 0 < n → ad.block < W.heap.size from fun ad hA h0 => hr.lt h0 hA)
  have hb1 : Below W.heap.size W (W.alloc (.cells #[.func (.yield l) #[] #[]] 108)) := (Below.refl _ W).alloc (Nat.le_refl _) _
  have HS0 := Lib.hid (show J 0 (W.alloc (.cells #[.func (.yield l) #[] #[]] 108)) from hJ 0 W _ h0 (Still.below hb1 (Nat.le_refl _)))
  have HR := Lib.hid hr
  clear hJ hJx hY h0 hka hr hn hxs hb1
  refine callsIn_of_wp_marks Try.func58 rfl trivial ?_ rfl
  simp only [Try.ntmps58, List.size_toArray, List.length_cons, List.length_nil, Nat.reduceAdd, Nat.reduceSub, Array.replicate_succ, Array.replicate_zero, List.push_toArray, List.append_toArray, List.nil_append, List.cons_append]
  gi_wp2_with (gi_at_call 51; (with_reducible refine (callsIn_wide.2 (blocks51_any _ _ _ _)).mono ?_); rintro e w' ⟨rfl, rfl⟩; unfold fn57)
  have hsz : (W.alloc (.cells #[.func (.yield l) #[] #[]] 108)).heap.size = W.heap.size + 1 := by simp
  obtain ⟨W0, hW0⟩ : ∃ W0, (W.alloc (.cells #[.func (.yield l) #[] #[]] 108)).alloc (.cells #[.slice A n c] 23) = W0 := ⟨_, rfl⟩
  have hb0 : Below W.heap.size W W0 := hW0 ▸ ((Below.refl _ W).alloc (Nat.le_refl _) _).alloc (by simp) _
  have hz0 : W0.heap.size = W.heap.size + 2 := by rw [← hW0]; simp
  have HB0 : Hid (BI W.heap.size l a n A c J 0 W0) := Lib.hid (by
    have hb2 : Below (W.alloc (.cells #[.func (.yield l) #[] #[]] 108)).heap.size (W.alloc (.cells #[.func (.yield l) #[] #[]] 108)) W0 := hW0 ▸ (Below.refl _ _).alloc (Nat.le_refl _) _
    refine ⟨HJ.out _ _ _ HS0.out (Still.below hb2 (by simp)), (Blk.new W 108 _).below hb2 (by simp), ?_, by omega, HAD.out⟩
    have := Blk.new (W.alloc (.cells #[.func (.yield l) #[] #[]] 108)) 23 #[.slice A n c]
    rw [hW0, hsz] at this
    exact this)
  try rw [hsz]
  rw [hW0]
  obtain ⟨b, hb⟩ : ∃ b, W.heap.size = b := ⟨_, rfl⟩
  have HRW := Lib.hid (HR.out.below hb0)
  have HBB := Lib.hid hb
  have HZ0 := Lib.hid (show W0.heap.size = b + 2 by omega)
  rw [hb] at HB0 HAD HJ HJx HY ⊢
  clear hW0 hb0 hz0 hsz c1 HS0 hb
  refine wpIn_iter (N := xs.length) (At := FAt (W0.heap.size + 2) xs) (Kp := FKp (b + 1) A n) (Step := fun X Y => Below X.heap.size X Y) rfl (by omega) (gf := 57) (lb := #[.pointer (some ⟨b + 1, 0, none⟩)]) rfl trivial (enters_of Try.func57 (by kernel_rfl) rfl)
    (fun W1 hb1 hz1 => by
      have := blocks_iter 98 W1 L (b + 1) A c (by rw [HLN.out]; exact HB0.out.k.below hb1 HB0.out.k.lt) (by rw [HLN.out]; exact HRW.out.below hb1) (by have := HLN.out; have := HN.out; omega)
      rw [HXL.out, HLN.out, hz1] at this
      exact this)
    (fun X Y hXY k hk hkX => hXY.block k hkX)
    (fun vs X => fkp_calm W0.heap.size (b + 1) n A (by have := HZ0.out; omega) (fun ad hA h0 => by have := HAD.out ad hA h0; have := HZ0.out; omega) vs X)
    (fun i vs X ⟨x, v, ds, _, h, _⟩ => by rw [h]; rfl)
    (fun i X => BI b l a n A c J i X)
    (fun cd i X => BX b xs.length Jx cd X)
    ?hI ?hIx ?hIS ?hIxS ?h0
    (fun i vs X a' W => BAxx b l a n A c J xs i vs X a' W)
    ?hAx ?assign ?body ?done ?stop
  case hI => exact fun i X k o o' hk hX ho h => ⟨HJ.out _ _ _ h.j (Still.put hX ho (by have := HZ0.out; omega)), h.y.calm hX ho, h.k.calm hX ho, by rw [size_putObj]; exact h.s, h.ad⟩
  case hIx => exact fun cd i X k o o' hk hX ho ⟨h1, q, h2, h3⟩ => ⟨⟨h1.1, by rw [size_putObj]; exact h1.2⟩, q, h2, HJx.out _ _ _ h3 (Still.put hX ho (by have := HZ0.out; omega))⟩
  case hIS => exact fun i X Y h hs => ⟨HJ.out _ _ _ h.j (Still.below hs (by have := h.s; omega)), h.y.below hs h.y.lt, h.k.below hs h.k.lt, Nat.le_trans h.s hs.size, h.ad⟩
  case hIxS => exact fun cd i X Y ⟨h1, q, h2, h3⟩ hs => ⟨⟨h1.1, Nat.le_trans h1.2 hs.size⟩, q, h2, HJx.out _ _ _ h3 (Still.below hs h1.2)⟩
  case h0 => exact fun W1 hb1 hz1 => ⟨HJ.out _ _ _ HB0.out.j (Still.below hb1 (by have := HZ0.out; omega)), HB0.out.y.below hb1 HB0.out.y.lt, HB0.out.k.below hb1 HB0.out.k.lt, by have := HZ0.out; omega, HAD.out⟩
  case hAx => exact fun i vs X0 a' X k o o' hk hX ho ⟨hd, x, g5, A5, c5, ds5, v6, h⟩ => ⟨hd, x, g5, A5, c5, ds5, v6, h.hx, h.htm, h.k5.calm hX ho, h.eq, fkp_calm W0.heap.size (b + 1) n A (by have := HZ0.out; omega) (fun ad hA h0 => by have := HAD.out ad hA h0; have := HZ0.out; omega) vs X0 X k o o' hk hX ho h.kp,
    ⟨HJ.out _ _ _ h.bi.j (Still.put hX ho (by have := HZ0.out; omega)), h.bi.y.calm hX ho, h.bi.k.calm hX ho, by rw [size_putObj]; exact h.bi.s, h.bi.ad⟩⟩
  case assign =>
    rintro l' i vs X K hl hi hbi ⟨x, v, ds5, hx, rfl, hpo, heq⟩ hlt hK
    obtain ⟨A5, c5, rfl⟩ := hpo.form
    have hb := (Below.refl X.heap.size X).alloc (Nat.le_refl _) (.cells #[.int .i64 (x.at_ : Int), .int .i64 (x.en : Int), .slice A5 ds5.length c5] 95)
    gi_wp2
    refine hK _ _ (keeps_below hb _) ?_
    exact ⟨rfl, x, X.heap.size, A5, c5, ds5, _, hx, rfl, Blk.new X 95 _, heq, FKp.of_below hb hbi.k.lt (fun ad hA h0 => by have := HAD.out ad hA h0; have := hbi.s; omega), ⟨HJ.out _ _ _ hbi.j (Still.below hb (by have := hbi.s; omega)), hbi.y.below hb hbi.y.lt, hbi.k.below hb hbi.k.lt, Nat.le_trans hbi.s hb.size, hbi.ad⟩⟩
  case body =>
    rintro l' i vs X0 ⟨tm, df⟩ WX hl hi hr ⟨hdf, x, g5, A5, c5, ds5, v6, hax⟩
    obtain ⟨hx, htm, hk5, heq5, hkp, hbi⟩ := hax
    dsimp only at hdf htm
    have hd5 : ds5.length = x.l.length := by rw [← heq5]; simp [pks]
    rw [hd5] at hk5
    obtain ⟨n5, hn5⟩ : ∃ n5, x.l.length = n5 := ⟨_, rfl⟩
    rw [hn5] at hk5
    have e0 := hk5.cell 0
    have e2 := hk5.cell 2
    have ey := hbi.y.cell 0
    simp at e0 e2 ey
    subst hdf htm
    obtain ⟨fn, tm, asg, bod, hyr, hR⟩ := HY.out i hi #[.int .i64 (x.at_ : Int), .int .i64 (n5 : Int)] WX hbi.j ⟨x, hx, by rw [hn5]⟩
    have HRo := Lib.hid (fun m' => round_wide (m' := m') (l' := l') hR)
    have HBI := Lib.hid hbi
    have HKP := Lib.hid hkp
    have HI := Lib.hid hi
    clear hR hx hk5 heq5 hkp hbi hd5 hn5 hi
    gi_wp2_with fail
    refine (HRo.out _).mono ?_
    clear hyr
    rintro e w3 ⟨hkf, (⟨rfl, hJ3, hK3⟩ | ⟨rfl, hJx3⟩)⟩
    · have hk2 : KeepsFrom W0.heap.size WX w3 := ⟨hkf.size, fun k o hk hX hc => hkf.same k o (by have := HZ0.out; have := HBB.out; omega) hX hc⟩
      have hs := HBI.out.s
      have hbi3 : BI b l a n A c J (i + 1) w3 := ⟨hJ3, (hK3.2 b (by omega) (.inl (Nat.le_refl _))).trans HBI.out.y, (hK3.2 (b + 1) (by omega) (.inl (by omega))).trans HBI.out.k, Nat.le_trans hs hK3.1, HBI.out.ad⟩
      have hkp3 := HKP.out.trans (FKp.of_bkp (vs2 := vs) hK3 hs HBI.out.ad)
      gi_wp2_with fail
      exact ⟨hk2, hkp3, hbi3⟩
    · have hk2 : KeepsFrom W0.heap.size WX w3 := ⟨hkf.size, fun k o hk hX hc => hkf.same k o (by have := HZ0.out; have := HBB.out; omega) hX hc⟩
      have hi := HI.out
      gi_wp2_with fail
      exact ⟨hk2, ⟨rfl, by have := HBI.out.s; have := hkf.size; omega⟩, i, hi, hJx3⟩
  case done =>
    rintro D X hD hbi hK
    have HBI := Lib.hid hbi
    have HM : Hid (Marks W0.heap.size [D] X) := Lib.hid ⟨by simp, fun E hE => by rw [List.mem_singleton.1 hE]; exact ⟨by omega, hK⟩⟩
    have HD := Lib.hid hD
    clear hbi hK hD
    simp only [Exit.inBlock, Exit.then]
    go_at_K
    gi_wp2_with fail
    exact leaves_marks2 (v := .tuple #[]) [D] X HM.out fun w' hs => ⟨by simp [results, Try.results58], ⟨_, rfl⟩, .inl (HJ.out _ _ _ HBI.out.j (hs.mono (by have := HZ0.out; omega)))⟩
  case stop =>
    rintro D cd i X hD hi ⟨⟨rfl, -⟩, q, hq, hJq⟩ hK
    have HM : Hid (Marks W0.heap.size [D] X) := Lib.hid ⟨by simp, fun E hE => by rw [List.mem_singleton.1 hE]; exact ⟨by omega, hK⟩⟩
    have HQ := Lib.hid hq
    have HJq := Lib.hid hJq
    clear hK hD hq hJq
    gi_wp2_with fail
    exact leaves_marks2 (v := .tuple #[]) [D] X HM.out fun w' hs => ⟨by simp [results, Try.results58], ⟨_, rfl⟩, .inr ⟨q, HQ.out, HJx.out _ _ _ HJq.out (hs.mono (by have := HZ0.out; omega))⟩⟩
def fn58 (a : Nat) : Value := .func (.func 58) #[] #[.pointer (some ⟨a, 0, none⟩)]

set_option maxRecDepth 100000 in
theorem blocks52_any (A : Option Addr) (n c : Nat) (L : List UInt8) (w : World) (h : RB w A n c L) (hn : n ≤ 2000000) :
    Calls Try.prog 52 #[.slice A n c] w fun e w' => ∃ a A2 c2, e = .returned (fn58 a) ∧ Blk w' a 23 #[.slice A2 n c2] ∧ w'.ownsRow w.heap.size 5 1 (.slice A2 n c2) n (L.map u8) ∧ w.heap.size ≤ a ∧ Below w.heap.size w w' := by
  have C49 := Lib.hid (clone_any A n c L w hn h)
  have HLN := Lib.hid h.len
  clear h
  go_enter Try.func52, Try.ntmps52
  go_wp2_with (go_at_call 49; (with_reducible refine C49.out.mono ?_); rintro e w1 ⟨v1, rfl, o1, b1⟩; rw [HLN.out] at o1; obtain ⟨A2, c2, rfl, -⟩ := own_form o1; have HO := Lib.hid o1; have HB := Lib.hid b1; clear o1 b1)
  go_ret
  exact ⟨w1.heap.size, A2, c2, rfl, Blk.new w1 23 _, own_alloc HO.out, HB.out.size, HB.out.alloc HB.out.size _⟩
end Go.Proofs.Ytgbkoegmoelheaa
