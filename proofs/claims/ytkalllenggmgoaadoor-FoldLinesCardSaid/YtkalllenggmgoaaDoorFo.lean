/- Scanning. -/
import Derived.Test.YtkalllenggmgoaaDoorFn
import Derived.Laws.Tables
namespace Go.Proofs.YtkalllenggmgoaaDoor
open Go.RowKit
set_option linter.unusedVariables false
set_option linter.unusedSimpArgs false

theorem idx8 (a0 a1 a2 a3 a4 a5 a6 a7 : Value) (W : World) (k : Nat) (hk : k < 8) : (Instr.index 100 (.agg #[a0, a1, a2, a3, a4, a5, a6, a7]) (.int .i64 (k : Int))).run Tryd.prog W = .ok (#[a0, a1, a2, a3, a4, a5, a6, a7].getD k undef) W := by
  rcases (by omega : k = 0 ∨ k = 1 ∨ k = 2 ∨ k = 3 ∨ k = 4 ∨ k = 5 ∨ k = 6 ∨ k = 7) with e | e | e | e | e | e | e | e <;> subst e <;> simp [Instr.index, asIntOf, run_underlying Tryd.underlying100, go_sem]
set_option maxRecDepth 100000 in
set_option maxHeartbeats 1000000 in
theorem needs_any (st : Nat) (hst : st ≤ 7) (lo : Bool) (W : World) : Calls Tryd.prog 64 #[.int .i64 (st : Int), .bool lo] W fun e w' => e = .returned (.int .i64 (needsF st lo : Int)) ∧ w' = W := by
  cases lo with
  | true =>
    have hix := fun w => idx8 (.int .i64 2) (.int .i64 5) (.int .i64 0) (.int .i64 0) (.int .i64 4) (.int .i64 0) (.int .i64 3) (.int .i64 1) w st (by omega)
    have hv : #[Value.int .i64 2, .int .i64 5, .int .i64 0, .int .i64 0, .int .i64 4, .int .i64 0, .int .i64 3, .int .i64 1].getD st undef = .int .i64 (needsF st true : Int) := by
      rcases (by omega : st = 0 ∨ st = 1 ∨ st = 2 ∨ st = 3 ∨ st = 4 ∨ st = 5 ∨ st = 6 ∨ st = 7) with e | e | e | e | e | e | e | e <;> subst e <;> rfl
    rw [hv] at hix
    have hix2 : ∀ w : World, (Instr.index 100 (.agg #[.int .i64 2, .int .i64 5, .int .i64 0, .int .i64 0, .int .i64 4, .int .i64 0, .int .i64 3, .int .i64 1]) (.int .i64 (st : Int))).run Tryd.prog w = .ok (.int .i64 (needsF st true : Int)) w := hix
    generalize needsF st true = r at *
    clear hix hv hst
    generalize (st : Int) = S at *
    go_enter Tryd.func64, Tryd.ntmps64
    go_wp2_with fail
    go_ret
    exact ⟨rfl, rfl⟩
  | false =>
    have hix := fun w => idx8 (.int .i64 2) (.int .i64 6) (.int .i64 5) (.int .i64 4) (.int .i64 4) (.int .i64 5) (.int .i64 3) (.int .i64 1) w st (by omega)
    have hv : #[Value.int .i64 2, .int .i64 6, .int .i64 5, .int .i64 4, .int .i64 4, .int .i64 5, .int .i64 3, .int .i64 1].getD st undef = .int .i64 (needsF st false : Int) := by
      rcases (by omega : st = 0 ∨ st = 1 ∨ st = 2 ∨ st = 3 ∨ st = 4 ∨ st = 5 ∨ st = 6 ∨ st = 7) with e | e | e | e | e | e | e | e <;> subst e <;> rfl
    rw [hv] at hix
    have hix2 : ∀ w : World, (Instr.index 100 (.agg #[.int .i64 2, .int .i64 6, .int .i64 5, .int .i64 4, .int .i64 4, .int .i64 5, .int .i64 3, .int .i64 1]) (.int .i64 (st : Int))).run Tryd.prog w = .ok (.int .i64 (needsF st false : Int)) w := hix
    generalize needsF st false = r at *
    clear hix hv hst
    generalize (st : Int) = S at *
    go_enter Tryd.func64, Tryd.ntmps64
    go_wp2_with fail
    go_ret
    exact ⟨rfl, rfl⟩
set_option maxRecDepth 100000 in
theorem build88 (w : World) : (Instr.build 88 #[(0, .func (.func 56) #[] #[]), (1, .func (.func 57) #[] #[]), (2, .func (.func 58) #[] #[]), (3, .func (.func 59) #[] #[]), (4, .func (.func 60) #[] #[]), (5, .func (.func 61) #[] #[]), (6, .func (.func 62) #[] #[]), (7, .func (.func 63) #[] #[])]).run Tryd.prog w = .ok (.agg #[.func (.func 56) #[] #[], .func (.func 57) #[] #[], .func (.func 58) #[] #[], .func (.func 59) #[] #[], .func (.func 60) #[] #[], .func (.func 61) #[] #[], .func (.func 62) #[] #[], .func (.func 63) #[] #[]]) w := run_build w 88 _ _ (by kernel_rfl)
theorem run_store_func {P : Program} (w : World) (a : Addr) (f : Fn) (x y : Array Value) (m : Mode) : (store a (.func f x y) m).run P w = stored P w a (.func f x y) m := run_store P w a _ m rfl
theorem sc_res {fn : Func} {tmps : Array Value} {W : World} {bx : Nat} {x y z : Value} (hf : fn.results = Tryd.f38.results) (h4 : tmps.getD 4 undef = .pointer (some ⟨bx, 0, none⟩)) (hb : Blk W bx 43 #[x, y, z]) : (results fn tmps).run Tryd.prog W = .ok (.agg #[x, y, z]) W := by
  have e : results fn tmps = results Tryd.f38 tmps := by unfold results; rw [hf]
  rw [e]
  have c0 : W.cell? ⟨bx, 0, none⟩ = some x := hb.cell 0
  have c1 : W.cell? ⟨bx, 1, none⟩ = some y := hb.cell 1
  have c2 : W.cell? ⟨bx, 2, none⟩ = some z := hb.cell 2
  simp at h4
  simp [results, Tryd.results38, go_sem, h4, c0, c1, c2]
theorem own_nilR (W : World) (B : Nat) : Rows B W (tri (.slice none 0 0) (.slice none 0 0) (.slice none 0 0)) (tri [] [] []) (.slice none 0 0) [] := by
  have hv : ∀ i, i < 3 → tri (Value.slice none 0 0) (.slice none 0 0) (.slice none 0 0) i = .slice none 0 0 := fun i hi => by rcases lt3 hi with e | e | e <;> subst e <;> rfl
  have hl : ∀ i, i < 3 → tri ([] : List UInt8) [] [] i = [] := fun i hi => by rcases lt3 hi with e | e | e <;> subst e <;> rfl
  exact ⟨fun i hi => by rw [hv i hi, hl i hi]; exact own_nil5 W B, fun i hi j hj _ k hk => (by rw [hv i hi] at hk; cases hk), World.ownsRow_nil W B 67 6, fun d hd => (by cases hd), fun d hd => (by cases hd)⟩
theorem Rows.base {B B' : Nat} {W : World} {v : Nat → Value} {l : Nat → List UInt8} {dv : Value} {ds : List Ld} (h : Rows B' W v l dv ds) (hB : B ≤ B') : Rows B W v l dv ds :=
  ⟨fun i hi => own_base (h.cur i hi) hB, h.ap, own_base h.dn hB, fun d hd => ⟨own_base (h.dr d hd).nm hB, own_base (h.dr d hd).tx hB, (h.dr d hd).gf⟩, h.far⟩
theorem ScW.base {B B' g : Nat} {W : World} {s : Sc} {q : ScV} (h : ScW B' W g s q) (hB : B ≤ B') : ScW B W g s q := ⟨Nat.le_trans hB h.hB, h.blk, h.rows.base hB, h.keys⟩
theorem Fp.base {B B' g : Nat} {W W' : World} (h : Fp B' g W W') (hB : B ≤ B') : Fp B g W W' := Only.mono h fun b _ hb => hb.imp id fun h => Nat.le_trans hB h
/-- A scanner as it begins. -/
def scNil : ScV := ⟨.slice none 0 0, .slice none 0 0, .slice none 0 0, .slice none 0 0, []⟩
theorem scan_new {W : World} {g B : Nat} {lo : Bool} (hb : Blk W g 70 (scCells (Sc.init lo) scNil)) (hB : B ≤ W.heap.size) : ScW B W g (Sc.init lo) scNil := ⟨hB, hb, own_nilR W B, rfl⟩
theorem blk_fp {B g k : Nat} {W W' : World} {t : TypeId} {cs : Array Value} (h : Blk W k t cs) (hf : Fp B g W W') (hg : k ≠ g) (hB : k < B) : Blk W' k t cs := h.only hf fun e => by rcases e with e | e <;> omega
/-- Sizes, along the way. -/
theorem step_sz {st : Nat} {s : Sc} {c : UInt8} {M : Nat} (h1 : s.ln.name.length ≤ 32) (h2 : s.ln.text.length + s.ln.gap.length ≤ M) (h3 : s.dn.length ≤ 100) : (stepF st s c).2.ln.name.length ≤ 32 ∧ (stepF st s c).2.ln.text.length + (stepF st s c).2.ln.gap.length ≤ M + 2 ∧ (stepF st s c).2.dn.length ≤ 100 := by
  have hput : (s.ln.put c).text.length + (s.ln.put c).gap.length ≤ M + 2 := by
    have e : (s.ln.put c).text = (if s.ln.text.isEmpty then [] else s.ln.text ++ s.ln.eff) ++ [c] := rfl
    have e2 : (s.ln.put c).gap = [] := rfl
    rw [e, e2]
    have : s.ln.eff.length ≤ s.ln.gap.length + 1 := by unfold Ln.eff; split <;> simp
    split <;> simp <;> omega
  have hwait : (s.ln.wait c).text.length + (s.ln.wait c).gap.length ≤ M + 2 := by
    have e : (s.ln.wait c).text = s.ln.text := rfl
    have e2 : (s.ln.wait c).gap = s.ln.gap ++ [c] := rfl
    rw [e, e2]; simp; omega
  have hd := done_le s
  have same : s.ln.name.length ≤ 32 ∧ s.ln.text.length + s.ln.gap.length ≤ M + 2 ∧ s.dn.length ≤ 100 := ⟨h1, by omega, h3⟩
  have hT : (sText s c).2.ln.name.length ≤ 32 ∧ (sText s c).2.ln.text.length + (sText s c).2.ln.gap.length ≤ M + 2 ∧ (sText s c).2.dn.length ≤ 100 := by
    unfold sText
    split
    · exact ⟨h1, hput, Nat.le_trans (Nat.le_of_eq (dn_opn (t := s) rfl rfl)) h3⟩
    · split
      · exact ⟨h1, hwait, Nat.le_trans (Nat.le_of_eq (dn_opn (t := s) rfl rfl)) h3⟩
      · split
        · exact ⟨h1, hwait, Nat.le_trans (Nat.le_of_eq (dn_opn (t := s) rfl rfl)) h3⟩
        · split <;> exact same
  unfold stepF
  split
  · unfold sBegin
    split
    · exact ⟨h1, hwait, Nat.le_trans (Nat.le_of_eq (dn_opn (t := s) rfl rfl)) h3⟩
    · split
      · exact ⟨by simp [Ln.new], by simp [Ln.new], by rw [done_le]; simpa [Ln.new] using h3⟩
      · split
        · rename_i h; rw [Bool.and_eq_true, decide_eq_true_eq] at h; exact ⟨by simp, by simp [Ln.new], by rw [done_le]; simp; omega⟩
        · exact ⟨by simp [Ln.new], by simp [Ln.new], by rw [done_le]; simpa [Ln.new] using h3⟩
  · unfold sNaming
    split
    · exact same
    · split
      · rename_i h; rw [Bool.and_eq_true, decide_eq_true_eq] at h; exact ⟨by simp; omega, by show s.ln.text.length + s.ln.gap.length ≤ _; omega, Nat.le_trans (Nat.le_of_eq (dn_opn (t := s) rfl rfl)) h3⟩
      · exact same
  · exact same
  · unfold sFirst; split; exact same; exact hT
  · exact hT
  · unfold sSpace; split; exact same; exact hT
  · exact same
  · exact same
  · exact same
theorem run_drop (st : Nat) (s : Sc) (i : Nat) (l : List UInt8) (h : i < l.length) : runF st s i (l.drop i) = if (stepF st (s.to i) l[i]).1 = 8 ∨ (stepF st (s.to i) l[i]).1 = 9 then stepF st (s.to i) l[i] else runF (stepF st (s.to i) l[i]).1 (stepF st (s.to i) l[i]).2 (i + 1) (l.drop (i + 1)) := by
  rw [List.drop_eq_getElem_cons h, runF]
theorem steps_any {B g : Nat} {W : World} {s : Sc} {q : ScV} (st : Nat) (hst : st ≤ 7) (h : ScW B W g s q) (hs : ScSz s 10000000) (c : UInt8) :
    Calls Tryd.prog (56 + st) #[.pointer (some ⟨g, 0, none⟩), .int .u8 (c.toNat : Int)] W fun e w' => e = .returned (.int .i64 ((stepF st s c).1 : Int)) ∧ ScX B g (stepF st s c).2 W w' := by
  rcases (by omega : st = 0 ∨ st = 1 ∨ st = 2 ∨ st = 3 ∨ st = 4 ∨ st = 5 ∨ st = 6 ∨ st = 7) with e | e | e | e | e | e | e | e <;> subst e
  · exact begin_any h hs c
  · exact naming_any h hs c
  · exact colon_any h hs c
  · exact first_any h hs c
  · exact inText_any h hs c
  · exact space_any h hs c
  · exact turn_any h hs c
  · exact last_any h hs c
theorem enters8 (st : Nat) (h : st ≤ 7) : ∀ args w, (callFunc (56 + st) args).run Tryd.prog w = .ok (.enter (56 + st) args) w := by
  rcases (by omega : st = 0 ∨ st = 1 ∨ st = 2 ∨ st = 3 ∨ st = 4 ∨ st = 5 ∨ st = 6 ∨ st = 7) with e | e | e | e | e | e | e | e <;> subst e
  · exact enters_of Tryd.func56 (by kernel_rfl) rfl
  · exact enters_of Tryd.func57 (by kernel_rfl) rfl
  · exact enters_of Tryd.func58 (by kernel_rfl) rfl
  · exact enters_of Tryd.func59 (by kernel_rfl) rfl
  · exact enters_of Tryd.func60 (by kernel_rfl) rfl
  · exact enters_of Tryd.func61 (by kernel_rfl) rfl
  · exact enters_of Tryd.func62 (by kernel_rfl) rfl
  · exact enters_of Tryd.func63 (by kernel_rfl) rfl
/-- The steps' table. -/
def tabC : Array Value := #[.func (.func 56) #[] #[], .func (.func 57) #[] #[], .func (.func 58) #[] #[], .func (.func 59) #[] #[], .func (.func 60) #[] #[], .func (.func 61) #[] #[], .func (.func 62) #[] #[], .func (.func 63) #[] #[]]
/-- Behind some bytes. -/
structure ScI (l : List UInt8) (lo : Bool) (B g : Nat) (W2 wr : World) (i : Nat) (st : Nat) (s : Sc) : Prop where
  st7 : st ≤ 7
  run : runF 0 (Sc.init lo) 0 l = runF st s i (l.drop i)
  sc : ∃ q, ScW B wr g s q
  fp : Fp B g W2 wr
  nm : s.ln.name.length ≤ 32
  tx : s.ln.text.length + s.ln.gap.length ≤ 2 * i + 2
  dn : s.dn.length ≤ 100
  lo : s.loose = lo
theorem stepF_loose {st : Nat} {s : Sc} {c : UInt8} : (stepF st s c).2.loose = s.loose := by
  unfold stepF
  split
  · unfold sBegin; split <;> (try split) <;> (try split) <;> rfl
  · unfold sNaming; split <;> (try split) <;> rfl
  · rfl
  · unfold sFirst sText; split <;> (try split) <;> (try split) <;> (try split) <;> (try split) <;> rfl
  · unfold sText; split <;> (try split) <;> (try split) <;> (try split) <;> rfl
  · unfold sSpace sText; split <;> (try split) <;> (try split) <;> (try split) <;> (try split) <;> rfl
  · rfl
  · rfl
  · rfl
theorem stepF_st {st : Nat} {s : Sc} {c : UInt8} (h : st ≤ 7) : (stepF st s c).1 ≤ 9 := by
  rcases (by omega : st = 0 ∨ st = 1 ∨ st = 2 ∨ st = 3 ∨ st = 4 ∨ st = 5 ∨ st = 6 ∨ st = 7) with e | e | e | e | e | e | e | e <;> subst e <;> simp only [stepF, sBegin, sNaming, sColon, sFirst, sText, sSpace, sTurn, sLast] <;> (repeat' split) <;> simp
theorem blk_set43 {W : World} {r : Nat} {a b c x y z : Value} (h : Blk W r 43 #[a, b, c]) : Blk (((W.setCell ⟨r, 0, none⟩ x).setCell ⟨r, 1, none⟩ y).setCell ⟨r, 2, none⟩ z) r 43 #[x, y, z] := by
  have hk := ((h.set_ 0 x).set_ 1 y).set_ 2 z
  simpa [List.setIfInBounds_toArray] using hk

/-- What scanning leaves. -/
def ScE (l : List UInt8) (lo : Bool) (B g : Nat) (W : World) (e : Ending) (w' : World) : Prop :=
  e = .returned (.agg #[.int .i64 (scanR l lo).e, .int .i64 (scanR l lo).n, .int .i64 (scanR l lo).a]) ∧ (∃ q, ScW B w' g (scanF l lo).2 q) ∧ Fp B g W w'
theorem ScE.of {l : List UInt8} {lo : Bool} {B B2 g r k : Nat} {W W2 w w' : World} {s : Sc} {x y z : Int} {X Y Z : Value} (h2 : Fp B g W W2) (hB : B ≤ B2) (hq : ∃ q, ScW B2 w g s q) (hf : Fp B2 g W2 w) (hrun : scanF l lo = (k, s)) (hr : resF (k, s) = ⟨x, y, z⟩) (hb : Blk w r 43 #[X, Y, Z]) (hrB : B ≤ r) (hrg : r ≠ g)
    (hw : w' = ((w.setCell ⟨r, 0, none⟩ (.int .i64 x)).setCell ⟨r, 1, none⟩ (.int .i64 y)).setCell ⟨r, 2, none⟩ (.int .i64 z)) : ScE l lo B g W (.returned (.agg #[.int .i64 x, .int .i64 y, .int .i64 z])) w' := by
  subst hw
  obtain ⟨q, hq⟩ := hq
  have hon : Only (fun b => b = r) w (((w.setCell ⟨r, 0, none⟩ (.int .i64 x)).setCell ⟨r, 1, none⟩ (.int .i64 y)).setCell ⟨r, 2, none⟩ (.int .i64 z)) := Only.set (p := fun b => b = r) (Only.set (p := fun b => b = r) (Only.set (p := fun b => b = r) (Only.refl _ w) (fun _ => rfl) 0 _) (fun _ => rfl) 1 _) (fun _ => rfl) 2 _
  have e : scanR l lo = ⟨x, y, z⟩ := by unfold scanR; rw [hrun, hr]
  refine ⟨by rw [e], ⟨q, ?_⟩, (h2.trans (hf.base hB)).trans (Only.mono hon fun b _ e => .inr (e ▸ hrB))⟩
  rw [hrun]
  have hq' := hq.base hB
  have h5 : ∀ {t : TypeId} {sz n : Nat} {v : Value} {xs : List Value}, w.ownsRow B t sz v n xs → t ≠ 43 → ∀ k, v.ownBlock = some k → ¬ k = r := fun hv ht k hk e => by
    subst e
    rcases hv.2 with ⟨h0, _⟩ | ⟨g', cap, cur, h0, _, hh, _⟩
    · rw [h0] at hk; cases hk
    · rw [h0] at hk
      cases hk
      unfold Blk at hb
      rw [hb] at hh
      injection hh with hh
      injection hh with _ h2
      exact ht h2.symm
  exact ⟨by simpa using hq'.hB, hq'.blk.only hon (fun e => hrg e.symm), hq'.rows.only hon (fun i hi => h5 (hq'.rows.cur i hi) (by decide)) (h5 hq'.rows.dn (by decide)) (fun d hd k hk => by
    rcases hk with hk | hk
    · exact h5 (hq'.rows.dr d hd).nm (by decide) k hk
    · exact h5 (hq'.rows.dr d hd).tx (by decide) k hk), hq'.keys⟩
set_option maxRecDepth 100000 in
set_option maxHeartbeats 1000000 in
theorem scan_any (A : Option Addr) (n c : Nat) (l : List UInt8) (lo : Bool) (g : Nat) (W : World) (h : RB W A n c l) (hn : n ≤ 1000000) (hb : Blk W g 70 (scCells (Sc.init lo) scNil)) :
    Calls Tryd.prog 38 #[.pointer (some ⟨g, 0, none⟩), .slice A n c] W fun e w' => ScE l lo W.heap.size g W e w' := by
  obtain ⟨r, hr⟩ : ∃ r, W.heap.size = r := ⟨_, rfl⟩
  have hg := hb.lt
  obtain ⟨W2, hW2⟩ : ∃ W2, ((W.alloc (.cells #[.int .i64 0, .int .i64 0, .int .i64 0] 43)).alloc (.cells #[.func (.func 56) #[] #[], .func (.func 57) #[] #[], .func (.func 58) #[] #[], .func (.func 59) #[] #[], .func (.func 60) #[] #[], .func (.func 61) #[] #[], .func (.func 62) #[] #[], .func (.func 63) #[] #[]] 88)) = W2 := ⟨_, rfl⟩
  have hbel : Below W.heap.size W W2 := hW2 ▸ ((Below.refl _ W).alloc (Nat.le_refl _) _).alloc (by simp) _
  have hs2 : W2.heap.size = r + 2 := by rw [← hW2, ← hr]; simp
  have hr2 : Blk W2 r 43 #[.int .i64 0, .int .i64 0, .int .i64 0] := by rw [← hW2, ← hr]; exact (Blk.new W 43 _).alloc _
  have ha2 : Blk W2 (r + 1) 88 #[.func (.func 56) #[] #[], .func (.func 57) #[] #[], .func (.func 58) #[] #[], .func (.func 59) #[] #[], .func (.func 60) #[] #[], .func (.func 61) #[] #[], .func (.func 62) #[] #[], .func (.func 63) #[] #[]] := by
    have := Blk.new (W.alloc (.cells #[.int .i64 0, .int .i64 0, .int .i64 0] 43)) 88 #[.func (.func 56) #[] #[], .func (.func 57) #[] #[], .func (.func 58) #[] #[], .func (.func 59) #[] #[], .func (.func 60) #[] #[], .func (.func 61) #[] #[], .func (.func 62) #[] #[], .func (.func 63) #[] #[]]
    rw [← hW2, ← hr]
    simpa using this
  have hsc : ScW (r + 2) W2 g (Sc.init lo) scNil := scan_new (hb.below hbel hg) (by omega)
  have HRB := Lib.hid (h.below hbel)
  have HLEN := Lib.hid h.len
  have hneg : ∀ a, A = some a → 0 < n → ¬ (a.block = g ∨ r + 2 ≤ a.block) := fun a hA h0 e => by
    rcases e with e | e
    · exact h.ne h0 hA hb (fun j x => by
        intro hj
        have hj8 : j < 9 := by have := (Array.getElem?_eq_some_iff.1 hj).1; simpa [scCells] using this
        rcases (by omega : j = 0 ∨ j = 1 ∨ j = 2 ∨ j = 3 ∨ j = 4 ∨ j = 5 ∨ j = 6 ∨ j = 7 ∨ j = 8) with e | e | e | e | e | e | e | e | e <;> subst e <;> simp [scCells, scNil] at hj) e
    · have := h.lt h0 hA; omega
  have HNEG := Lib.hid hneg
  have HI : Hid (ScI l lo (r + 2) g W2 W2 0 0 (Sc.init lo)) := Lib.hid ⟨by omega, rfl, ⟨_, hsc⟩, Fp.refl _ _ _, by simp [Sc.init, Ln.new], by simp [Sc.init, Ln.new], by show 0 ≤ 100; omega, rfl⟩
  have HW2 := Lib.hid hW2
  have HRR := Lib.hid hr
  have HR2 := Lib.hid hr2
  have HA2 := Lib.hid ha2
  have HGR : Hid (g < r) := Lib.hid (hr ▸ hg)
  have HFP0 : Hid (Fp r g W W2) := Lib.hid (Fp.of (hr ▸ hbel))
  have hn0 : (n : Int) ≤ 1000000 := by omega
  rw [hr]
  clear hr hg hW2 hbel hs2 hr2 ha2 hsc h hneg hn hb
  go_enter Tryd.func38, Tryd.ntmps38
  go_upto_region 1 with fail
  refine wp_scope_straight ?_
  have hbd := build88
  have hst := fun (w : World) (a : Addr) (f : Fn) (x y : Array Value) (m : Mode) => run_store_func (P := Tryd.prog) w a f x y m
  go_wp2_with fail
  refine wp_label ?_
  simp only [Exit.then]
  go_at_K
  rw [HW2.out, HRR.out]
  clear hbd hst
  go_wp2_with fail
  go_loopw [12, 6] (fun ii nn wr => ∃ (i st : Nat) (s : Sc), (i : Int) ≤ n ∧ ii = .int .i64 i ∧ nn = .int .i64 (st : Int) ∧ Hid (ScI l lo (r + 2) g W2 wr i st s)) (fun ii _ _ => n - (intOf ii).toNat)
  case atStart => exact ⟨0, 0, Sc.init lo, by omega, rfl, rfl, HI⟩
  case round =>
    obtain ⟨i, st, s, hi, rfl, rfl, HS⟩ := hrel
    have hi0 : (0 : Int) ≤ i := by omega
    have HST := Lib.hid HS.out.st7
    by_cases hlt : (i : Int) < n
    · have hi1 : i < l.length := by rw [HLEN.out]; omega
      obtain ⟨b, o, rfl, hat⟩ := HRB.out.at (by omega)
      have hA : wr.cell? ⟨b, o + i, none⟩ = some (.int .u8 ((l[i]).toNat : Int)) := by
        have h1 := (HRB.out.only (p := fun k => k = g ∨ r + 2 ≤ k) HS.out.fp (fun a hA h0 => HNEG.out a hA h0)).at (by omega)
        obtain ⟨b', o', e', hat'⟩ := h1
        cases e'
        exact hat' i hi1
      have hrun := HS.out.run.trans (run_drop st s i l hi1)
      obtain ⟨q, hq⟩ := HS.out.sc
      have hq1 := hq.place i
      have hf1 : Fp (r + 2) g wr (wr.setCell ⟨g, 7, none⟩ (.int .i64 (i : Int))) := below_set hq.hB hq.hB 7 _
      have j7 := hq.blk.cell 7
      have j7' : wr.cell? ⟨g, 7, none⟩ = some (.int .i64 (s.place : Int)) := j7
      have j7f := hq.blk.frozen 7
      obtain ⟨w1, hw1⟩ : ∃ w1, wr.setCell ⟨g, 7, none⟩ (.int .i64 (i : Int)) = w1 := ⟨_, rfl⟩
      rw [hw1] at hq1 hf1
      have hf2 := HS.out.fp.trans hf1
      have ht1 := blk_fp HA2.out hf2 (by have := HGR.out; omega) (by omega)
      have hrb1 := blk_fp HR2.out hf2 (by have := HGR.out; omega) (by omega)
      have hsz : ScSz (s.to i) 10000000 := ⟨HS.out.nm, by have := HS.out.tx; show s.ln.text.length + s.ln.gap.length ≤ _; omega, by have := HS.out.dn; rw [done_le] at this; show s.done.length ≤ 100; omega⟩
      have C1 := Lib.hid (steps_any st HS.out.st7 hq1 hsz l[i])
      have hnx := step_sz (st := st) (s := s.to i) (c := l[i]) HS.out.nm HS.out.tx HS.out.dn
      have hst9 := stepF_st (st := st) (s := s.to i) (c := l[i]) HS.out.st7
      have hpl := stepF_place (st := st) (s := s.to i) (c := l[i])
      have hlo := stepF_loose (st := st) (s := s.to i) (c := l[i])
      generalize (l[i]).toNat = y at *
      obtain ⟨x, hx⟩ : ∃ x : Int, ((y : Nat) : Int) = x := ⟨_, rfl⟩
      rw [hx] at hA C1
      generalize hk : (stepF st (s.to i) l[i]).1 = k at *
      generalize hs' : (stepF st (s.to i) l[i]).2 = s' at *
      have hpair : stepF st (s.to i) l[i] = (k, s') := by rw [← hk, ← hs']
      rw [hpair] at hrun
      have HRUN := Lib.hid hrun
      have HNX := Lib.hid hnx
      have HPL : Hid (s'.place = i) := Lib.hid hpl
      have HLO : Hid (s'.loose = lo) := Lib.hid (hlo.trans HS.out.lo)
      have HF2 := Lib.hid hf2
      have HRB1 := Lib.hid hrb1
      have HST9 := Lib.hid hst9
      have tcs : (w1.cell? ⟨r + 1, st, none⟩ = some (.func (.func (56 + st)) #[] #[])) := by
        have := HS.out.st7
        rw [ht1.cell st]
        rcases (by omega : st = 0 ∨ st = 1 ∨ st = 2 ∨ st = 3 ∨ st = 4 ∨ st = 5 ∨ st = 6 ∨ st = 7) with e | e | e | e | e | e | e | e <;> subst e <;> rfl
      have hst7 := HS.out.st7
      have HW1 := Lib.hid hw1
      clear hrun hq hq1 hf1 j7 hf2 ht1 hrb1 hsz hnx hst9 hpl hlo hx hk hs' hpair hat hw1 hi1 q
      have hen := enters8 st HS.out.st7
      obtain ⟨F, hF⟩ : ∃ F, 56 + st = F := ⟨_, rfl⟩
      rw [hF] at C1 tcs hen
      clear hF
      · go_upto_region 7 with fail
        rw [HW1.out]
        clear hA j7' j7f
        by_cases h8 : k = 8
        · subst h8
          have HEQ := Lib.hid (show scanF l lo = (8, s') from HRUN.out.trans (if_pos (by simp)))
          clear HRUN
          go_wp2_with (go_at_fn F; (with_reducible refine C1.out.mono ?_); rintro e w3 ⟨rfl, hx3⟩; have HX3 := Lib.hid hx3; clear hx3; refine Hid.out ?_)
          obtain ⟨⟨q3, hq3⟩, hf3⟩ := HX3.out
          have hrb3 := blk_fp HRB1.out hf3 (by have := HGR.out; omega) (by omega)
          have h7 : w3.cell? ⟨g, 7, none⟩ = some (.int .i64 (s'.place : Int)) := hq3.blk.cell 7
          rw [HPL.out] at h7
          obtain ⟨z0, z1, z2⟩ : w3.cell? ⟨r, 0, none⟩ = some (.int .i64 0) ∧ w3.cell? ⟨r, 1, none⟩ = some (.int .i64 0) ∧ w3.cell? ⟨r, 2, none⟩ = some (.int .i64 0) := ⟨hrb3.cell 0, hrb3.cell 1, hrb3.cell 2⟩
          have y0 := hrb3.frozen 0
          have y1 := hrb3.frozen 1
          have y2 := hrb3.frozen 2
          have HRB3 := Lib.hid hrb3
          have HQ3 := Lib.hid hq3
          have HF3 := Lib.hid (HF2.out.trans hf3)
          have HRES : Hid (resF (8, s') = ⟨(i : Int) + 1, 0, -1⟩) := Lib.hid (by unfold resF; have := HPL.out; simp [this])
          clear hrb3 hq3 hf3
          refine Lib.hid ?_
          go_wp2_with fail
          refine bodyPost_ret (sc_res rfl rfl (blk_set43 HRB3.out)) rfl ?_
          exact ScE.of HFP0.out (by omega) ⟨q3, HQ3.out⟩ HF3.out HEQ.out HRES.out HRB3.out (Nat.le_refl _) (by have := HGR.out; omega) rfl

        · by_cases h9 : k = 9
          · subst h9
            have HEQ := Lib.hid (show scanF l lo = (9, s') from HRUN.out.trans (if_pos (by simp)))
            clear HRUN
            go_wp2_with (go_at_fn F; (with_reducible refine C1.out.mono ?_); rintro e w3 ⟨rfl, hx3⟩; have HX3 := Lib.hid hx3; clear hx3; refine Hid.out ?_)
            obtain ⟨⟨q3, hq3⟩, hf3⟩ := HX3.out
            have hrb3 := blk_fp HRB1.out hf3 (by have := HGR.out; omega) (by omega)
            have h7 : w3.cell? ⟨g, 7, none⟩ = some (.int .i64 (s'.place : Int)) := hq3.blk.cell 7
            rw [HPL.out] at h7
            obtain ⟨z0, z1, z2⟩ : w3.cell? ⟨r, 0, none⟩ = some (.int .i64 0) ∧ w3.cell? ⟨r, 1, none⟩ = some (.int .i64 0) ∧ w3.cell? ⟨r, 2, none⟩ = some (.int .i64 0) := ⟨hrb3.cell 0, hrb3.cell 1, hrb3.cell 2⟩
            have y0 := hrb3.frozen 0
            have y1 := hrb3.frozen 1
            have y2 := hrb3.frozen 2
            have HRB3 := Lib.hid hrb3
            have HQ3 := Lib.hid hq3
            have HF3 := Lib.hid (HF2.out.trans hf3)
            have HRES : Hid (resF (9, s') = ⟨-1, 0, (i : Int)⟩) := Lib.hid (by unfold resF; have := HPL.out; simp [this])
            clear hrb3 hq3 hf3
            refine Lib.hid ?_
            go_wp2_with fail
            refine bodyPost_ret (sc_res rfl rfl (blk_set43 HRB3.out)) rfl ?_
            exact ScE.of HFP0.out (by omega) ⟨q3, HQ3.out⟩ HF3.out HEQ.out HRES.out HRB3.out (Nat.le_refl _) (by have := HGR.out; omega) rfl

          · have HNXT : Hid (∀ w3, ScX (r + 2) g s' w1 w3 → ScI l lo (r + 2) g W2 w3 (i + 1) k s') := Lib.hid (fun w3 hx => ⟨by have := HST9.out; omega, HRUN.out.trans (if_neg (by simp [h8, h9])), hx.1, HF2.out.trans hx.2, HNX.out.1, by have := HNX.out.2.1; omega, HNX.out.2.2, HLO.out⟩)
            obtain ⟨K, hK⟩ : ∃ K : Int, (k : Int) = K := ⟨_, rfl⟩
            have q8 : (K == 8) = false := by simp; omega
            have q9 : (K == 9) = false := by simp; omega
            have HKK := Lib.hid hK
            rw [hK] at C1
            clear h8 h9 hK HRUN
            go_wp2_with (go_at_fn F; (with_reducible refine C1.out.mono ?_); rintro e w3 ⟨rfl, hx3⟩; have HX3 := Lib.hid hx3; clear hx3)
            go_roundw
            case rel => exact ⟨i + 1, k, s', by omega, by go_num, by rw [HKK.out], Lib.hid (HNXT.out _ HX3.out)⟩
            case measure => simp [intOf]; omega
    · have hin : i = n := by omega
      have HEQ : Hid (scanF l lo = (st, s)) := Lib.hid (HS.out.run.trans (by rw [List.drop_of_length_le (by rw [HLEN.out]; omega)]; rfl))
      obtain ⟨q3, hq3⟩ := HS.out.sc
      have hrb3 := blk_fp HR2.out HS.out.fp (by have := HGR.out; omega) (by omega)
      have h6 : wr.cell? ⟨g, 6, none⟩ = some (.bool s.loose) := hq3.blk.cell 6
      rw [HS.out.lo] at h6
      obtain ⟨z0, z1, z2⟩ : wr.cell? ⟨r, 0, none⟩ = some (.int .i64 0) ∧ wr.cell? ⟨r, 1, none⟩ = some (.int .i64 0) ∧ wr.cell? ⟨r, 2, none⟩ = some (.int .i64 0) := ⟨hrb3.cell 0, hrb3.cell 1, hrb3.cell 2⟩
      have y0 := hrb3.frozen 0
      have y1 := hrb3.frozen 1
      have y2 := hrb3.frozen 2
      have HRB3 := Lib.hid hrb3
      have HQ3 := Lib.hid hq3
      have HF3 := Lib.hid HS.out.fp
      have HRES : Hid (resF (st, s) = ⟨-1, needsF st lo, -1⟩) := Lib.hid (by unfold resF; have h1 := HST.out; have h2 := HS.out.lo; rw [if_neg (by simp; omega), if_neg (by simp; omega)]; simp [h2])
      have C64 := Lib.hid (fun w => needs_any st HST.out lo w)
      generalize needsF st lo = nd at *
      obtain ⟨K, hK⟩ : ∃ K : Int, (st : Int) = K := ⟨_, rfl⟩
      have q8 : (K == 8) = false := by have := HST.out; simp; omega
      have q9 : (K == 9) = false := by have := HST.out; simp; omega
      rw [hK] at C64
      rw [hK]
      clear hrb3 hq3 hK hin
      go_wp2_with (go_at_call 64; (with_reducible refine (C64.out _).mono ?_); rintro e w8 ⟨rfl, rfl⟩)
      refine bodyPost_ret (sc_res rfl rfl (blk_set43 HRB3.out)) rfl ?_
      exact ScE.of HFP0.out (by omega) ⟨q3, HQ3.out⟩ HF3.out HEQ.out HRES.out HRB3.out (Nat.le_refl _) (by have := HGR.out; omega) rfl

theorem scn_nil (W : World) (lo : Bool) : Blk (W.alloc (.cells #[.int .i64 0, .slice none 0 0, .slice none 0 0, .slice none 0 0, .bool false, .bool false, .bool lo, .int .i64 0, .slice none 0 0] 70)) W.heap.size 70 (scCells (Sc.init lo) scNil) := Blk.new W 70 _
theorem sc_res22 {fn : Func} {tmps : Array Value} {W : World} {bx : Nat} {x y z : Value} (hf : fn.results = Tryd.f22.results) (h4 : tmps.getD 4 undef = .pointer (some ⟨bx, 0, none⟩)) (hb : Blk W bx 43 #[x, y, z]) : (results fn tmps).run Tryd.prog W = .ok (.agg #[x, y, z]) W := by
  have e : results fn tmps = results Tryd.f22 tmps := by unfold results; rw [hf]
  rw [e]
  have c0 : W.cell? ⟨bx, 0, none⟩ = some x := hb.cell 0
  have c1 : W.cell? ⟨bx, 1, none⟩ = some y := hb.cell 1
  have c2 : W.cell? ⟨bx, 2, none⟩ = some z := hb.cell 2
  simp at h4
  simp [results, Tryd.results22, go_sem, h4, c0, c1, c2]
set_option maxRecDepth 100000 in
set_option maxHeartbeats 1000000 in
theorem scan22_any (A : Option Addr) (n c : Nat) (l : List UInt8) (lo : Bool) (W : World) (h : RB W A n c l) (hn : n ≤ 1000000) :
    Calls Tryd.prog 22 #[.slice A n c, .bool lo] W fun e w' => e = .returned (.agg #[.int .i64 (scanR l lo).e, .int .i64 (scanR l lo).n, .int .i64 (scanR l lo).a]) ∧ Below W.heap.size W w' := by
  obtain ⟨W1, hW1⟩ : ∃ W1, W.alloc (.cells #[.int .i64 0, .int .i64 0, .int .i64 0] 43) = W1 := ⟨_, rfl⟩
  obtain ⟨W2, hW2⟩ : ∃ W2, W1.alloc (.cells #[.int .i64 0, .slice none 0 0, .slice none 0 0, .slice none 0 0, .bool false, .bool false, .bool lo, .int .i64 0, .slice none 0 0] 70) = W2 := ⟨_, rfl⟩
  have hs1 : W1.heap.size = W.heap.size + 1 := by rw [← hW1]; simp
  have hs2 : W2.heap.size = W.heap.size + 2 := by rw [← hW2]; simp [hs1]
  have hb1 : Below W.heap.size W W1 := hW1 ▸ (Below.refl _ W).alloc (Nat.le_refl _) _
  have hb2 : Below W.heap.size W W2 := hb1.trans (hW2 ▸ (Below.refl _ W1).alloc (by omega) _)
  have hr : Blk W2 W.heap.size 43 #[.int .i64 0, .int .i64 0, .int .i64 0] := by rw [← hW2, ← hW1]; exact (Blk.new W 43 _).alloc _
  have hg : Blk W2 (W.heap.size + 1) 70 (scCells (Sc.init lo) scNil) := by rw [← hs1, ← hW2]; exact scn_nil W1 lo
  have C38 := Lib.hid (scan_any A n c l lo (W.heap.size + 1) W2 (h.below hb2) hn hg)
  have HW1 := Lib.hid hW1
  have HW2 := Lib.hid hW2
  have HS1 := Lib.hid hs1
  have HR := Lib.hid hr
  have HB2 := Lib.hid hb2
  have HS2 := Lib.hid hs2
  obtain ⟨bx, hbx⟩ : ∃ bx, W.heap.size = bx := ⟨_, rfl⟩
  have HBX := Lib.hid hbx
  rw [hbx] at C38 HR HS1 HS2
  clear hW1 hW2 hs1 hs2 hb1 hb2 hr hg h hn hbx
  go_enter Tryd.func22, Tryd.ntmps22
  go_upto_region 1 with fail
  rw [HW1.out, HBX.out]
  go_upto_region 2 with fail
  rw [HW2.out, HS1.out]
  clear HW1 HW2
  go_wp2_with (go_at_call 38; (with_reducible refine C38.out.mono ?_); rintro e w1 ⟨rfl, hq, hf⟩; have HF := Lib.hid hf; clear hq hf; refine Hid.out ?_)
  have hr1 := blk_fp HR.out HF.out (by omega) (by have := HS2.out; omega)
  obtain ⟨z0, z1, z2⟩ : w1.cell? ⟨bx, 0, none⟩ = some (.int .i64 0) ∧ w1.cell? ⟨bx, 1, none⟩ = some (.int .i64 0) ∧ w1.cell? ⟨bx, 2, none⟩ = some (.int .i64 0) := ⟨hr1.cell 0, hr1.cell 1, hr1.cell 2⟩
  have y0 := hr1.frozen 0
  have y1 := hr1.frozen 1
  have y2 := hr1.frozen 2
  have HR1 := Lib.hid hr1
  clear hr1
  refine Lib.hid ?_
  go_wp2_with fail
  refine bodyPost_ret (sc_res22 rfl rfl (blk_set43 HR1.out)) rfl ⟨rfl, ?_⟩
  have h0 := HBX.out
  have hon : Only (fun b => b = bx ∨ W.heap.size ≤ b) W2 (((w1.setCell ⟨bx, 0, none⟩ (.int .i64 (scanR l lo).e)).setCell ⟨bx, 1, none⟩ (.int .i64 (scanR l lo).n)).setCell ⟨bx, 2, none⟩ (.int .i64 (scanR l lo).a)) :=
    Only.set (p := fun b => b = bx ∨ W.heap.size ≤ b) (Only.set (p := fun b => b = bx ∨ W.heap.size ≤ b) (Only.set (p := fun b => b = bx ∨ W.heap.size ≤ b) (Only.mono HF.out fun b _ e => by have := HS2.out; omega) (fun _ => .inl rfl) 0 _) (fun _ => .inl rfl) 1 _) (fun _ => .inl rfl) 2 _
  exact HB2.out.trans (hon.to_below HB2.out.size fun b hb e => by omega)
end Go.Proofs.YtkalllenggmgoaaDoor
