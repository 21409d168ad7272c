/- Lines; Read. -/
import Derived.Test.YtkalllenggmgoaaDoorFq
namespace Go.Proofs.YtkalllenggmgoaaDoor
open Go.RowKit
attribute [local go_sem] wide_fn wide_depth wide_fn_in wide_depth_in Oper.semAt_some
set_option linter.unusedVariables false
set_option linter.unusedSimpArgs false
theorem wpListIn_app_sz {P : Program} {w : World} {ops : Array Oper} {rest : List Oper} {o : Oper} {a : Act} {Q : Exit → Act → World → Prop} {F : Fence} {nn : Nat} (hgd : o.guard = none) (s x : Operand) (t : TypeId) (hop : o.op = Op.call { callee := Callee.builtin Builtin.append, args := #[s, x], argTypes := #[t, t] }) {e : TypeId} {size bytes : Nat} (hE : ElS P t e size bytes) {base n m c : Nat} {v : Value} {xs news : List Value} {A : Option Addr} (hs : a.eval s = v) (hown : w.ownsRow base e size v n xs) (hx : a.eval x = .slice A m c) (hsrc : HoldsS w size A m news) (h1 : ∀ u ∈ news, u.oneCell' = true) (h63 : n + m ≤ maxLen) (hby : (n + m) * bytes ≤ 140737488355328) (hbase : base ≤ w.heap.size) (hA : A ≠ none)
    (hK : ∀ v' w', w'.ownsRow base e size v' (n + m) (xs ++ news) → w.grownBy w' v.ownBlock → wpListIn F nn P ops Q rest (a.put o.dst v') w') : wpListIn F nn P ops Q (o :: rest) a w := by
  obtain ⟨v', w', hrun, p1, p2⟩ := run_app_sz (ty := o.type) hE hown hsrc h1 h63 hby hbase hA
  exact wpListIn_run hgd s x t hop hs hx hrun (hK v' w' p1 p2)
theorem keeps_only {p : Nat → Prop} {w w' : World} (h : Only p w w') (hp : ∀ k o, p k → w.heap[k]? = some o → o.isCells = true) (B : Nat) : KeepsFrom B w w' :=
  ⟨h.size, fun k o _ hk hc => (h.block k (Array.getElem?_eq_some_iff.1 hk).1 (fun hpk => by rw [hp k o hpk hk] at hc; cases hc)).trans hk⟩
theorem Blk.cells_ {w : World} {g : Nat} {t : TypeId} {cs : Array Value} (h : Blk w g t cs) {o : Obj} (hk : w.heap[g]? = some o) : o.isCells = true := by
  unfold Blk at h
  rw [h] at hk
  cases hk
  rfl
theorem own_cells_ {w : World} {B n sz k : Nat} {e : TypeId} {v : Value} {xs : List Value} (h : w.ownsRow B e sz v n xs) (hv : v.ownBlock = some k) {o : Obj} (hk : w.heap[k]? = some o) : o.isCells = true := by
  rcases h.2 with ⟨rfl, _⟩ | ⟨g, cap, cur, rfl, hg, hh, _⟩
  · cases hv
  · cases hv
    rw [hh] at hk
    cases hk
    rfl

theorem keeps_below {w w' : World} (hb : Below w.heap.size w w') (B : Nat) : KeepsFrom B w w' := ⟨hb.size, fun k o _ hk _ => (hb.block k (Array.getElem?_eq_some_iff.1 hk).1).trans hk⟩

set_option maxRecDepth 100000 in
theorem elH : ElS Tryd.prog 22 25 2 32 := ElS.mk' (z := .agg #[.string { data := #[] }, .string { data := #[] }]) Tryd.underlying22 (by kernel_rfl) rfl (by decide)
theorem field43 (x y z : Value) (W : World) : (Instr.field 43 (.agg #[x, y, z]) 0).run Tryd.prog W = .ok x W := by
  simp [Instr.field, asAgg, run_underlying Tryd.underlying43, go_sem]
def fn41 (g : Nat) : Value := .func (.func 41) #[] #[.pointer (some ⟨g, 0, none⟩)]
def linesF (l : List UInt8) (lo : Bool) : List (Nat × List UInt8 × List UInt8) := if (scanR l lo).e < 0 then [] else (scanF l lo).2.done.map Ln.key
theorem linesF_few (l : List UInt8) (lo : Bool) : (linesF l lo).length ≤ 100 := by
  unfold linesF
  rcases ends l lo with ⟨h, p, r⟩ | ⟨h, p, r⟩ | ⟨nm, ln, h, lo', n, r⟩
  · obtain ⟨rs, hb⟩ := scanF_blok l lo h
    rw [hb.lines]
    split
    · simp
    · rw [linesAt_length]; exact hb.few
  · rw [r]; simp
  · rw [r]; simp
/-- What Lines returns. -/
structure LinE (l : List UInt8) (lo : Bool) (W : World) (w' : World) (g : Nat) (dv : Value) (ds : List Ld) : Prop where
  blk : ∃ a nv tv gv op sp lv pl, Blk w' g 70 #[a, nv, tv, gv, op, sp, lv, pl, dv]
  dn : DnOk W.heap.size w' dv ds
  keys : ds.map Ld.key = linesF l lo
  ge : W.heap.size ≤ g
  below : Below W.heap.size W w'
theorem Fp.belowG {B g : Nat} {W W' : World} (h : Fp B g W W') {B0 : Nat} (hB : B0 ≤ B) (hg : B0 ≤ g) (hW : B0 ≤ W.heap.size) : Below B0 W W' := Only.to_below h hW fun b hb e => by omega
set_option maxRecDepth 100000 in
set_option maxHeartbeats 1000000 in
theorem lines_any (A : Option Addr) (n c : Nat) (l : List UInt8) (lo : Bool) (W : World) (h : RB W A n c l) (hn : n ≤ 1000000) :
    Calls Tryd.prog 24 #[.slice A n c, .bool lo] W fun e w' => ∃ g dv ds, e = .returned (fn41 g) ∧ LinE l lo W w' g dv ds := by
  obtain ⟨W2, hW2⟩ : ∃ W2, W.alloc (.cells #[.int .i64 0, .slice none 0 0, .slice none 0 0, .slice none 0 0, .bool false, .bool false, .bool lo, .int .i64 0, .slice none 0 0] 70) = W2 := ⟨_, rfl⟩
  have hs2 : W2.heap.size = W.heap.size + 1 := by rw [← hW2]; simp
  have hb2 : Below W.heap.size W W2 := hW2 ▸ (Below.refl _ W).alloc (Nat.le_refl _) _
  have hg : Blk W2 W.heap.size 70 (scCells (Sc.init lo) scNil) := by rw [← hW2]; exact scn_nil W lo
  have C38 := Lib.hid (scan_any A n c l lo W.heap.size W2 (h.below hb2) hn hg)
  obtain ⟨gx, hgx⟩ : ∃ gx, W.heap.size = gx := ⟨_, rfl⟩
  rw [hgx] at C38 hs2
  have HW2 := Lib.hid hW2
  have HGX := Lib.hid hgx
  have HB2 := Lib.hid hb2
  have HS2 := Lib.hid hs2
  have HKEY : Hid (∀ (w1 : World) (q : ScV), ScW W2.heap.size w1 gx (scanF l lo).2 q → Fp W2.heap.size gx W2 w1 → ¬ (scanR l lo).e < 0 → LinE l lo W w1 gx q.dv q.ds) := Lib.hid (fun w1 q hq hf he => ⟨⟨_, _, _, _, _, _, _, _, hq.blk⟩, ⟨own_base hq.rows.dn (by omega), fun d hd => ⟨own_base (hq.rows.dr d hd).nm (by omega), own_base (hq.rows.dr d hd).tx (by omega), (hq.rows.dr d hd).gf⟩⟩, by unfold linesF; rw [if_neg he]; exact hq.keys, by omega, by rw [hgx]; exact (hgx ▸ hb2).trans (hf.belowG (by omega) (Nat.le_refl _) (by omega))⟩)
  have HNIL : Hid (∀ (w1 : World) (q : ScV), ScW W2.heap.size w1 gx (scanF l lo).2 q → Fp W2.heap.size gx W2 w1 → (scanR l lo).e < 0 → LinE l lo W (w1.setCell ⟨gx, 8, none⟩ (.slice none 0 0)) gx (.slice none 0 0) []) := Lib.hid (fun w1 q hq hf he => ⟨⟨_, _, _, _, _, _, _, _, by
      have hk := hq.blk.set_ 8 (.slice none 0 0)
      simp only [scCells, List.setIfInBounds_toArray, List.set_cons_zero, List.set_cons_succ] at hk
      exact hk⟩, ⟨World.ownsRow_nil _ _ 67 6, fun d hd => (by cases hd)⟩, by unfold linesF; rw [if_pos he]; rfl, by omega, by rw [hgx]; exact (hgx ▸ hb2).trans ((hf.trans (below_set hq.hB hq.hB 8 _)).belowG (by omega) (Nat.le_refl _) (by omega))⟩)
  have hfl := field43
  clear h hn hW2 hs2 hb2 hg hgx
  obtain ⟨E, hE⟩ : ∃ E, (scanR l lo).e = E := ⟨_, rfl⟩
  rw [hE] at HKEY HNIL
  unfold ScE at C38
  rw [hE] at C38
  clear hE
  by_cases hlt : E < 0
  · go_enter Tryd.func24, Tryd.ntmps24
    go_upto_region 2 with fail
    rw [HW2.out, HGX.out]
    clear HW2
    go_wp2_with (go_at_call 38; (with_reducible refine C38.out.mono ?_); rintro e w1 ⟨rfl, ⟨q, hq⟩, hf⟩; have HQ := Lib.hid hq; have HF := Lib.hid hf; clear hq hf; obtain ⟨⟨A0, c0, e0⟩, ⟨A1, c1, e1⟩, ⟨A2, c2, e2⟩, A3, c3, e3⟩ := HQ.out.forms; have k8 := HQ.out.blk.cell 8; have k8f := HQ.out.blk.frozen 8; have k8' : w1.cell? ⟨gx, 8, none⟩ = some q.dv := k8; rw [e3] at k8'; clear k8 e0 e1 e2 e3)
    go_ret
    exact ⟨gx, _, _, rfl, HNIL.out w1 q HQ.out HF.out hlt⟩
  · go_enter Tryd.func24, Tryd.ntmps24
    go_upto_region 2 with fail
    rw [HW2.out, HGX.out]
    clear HW2
    go_wp2_with (go_at_call 38; (with_reducible refine C38.out.mono ?_); rintro e w1 ⟨rfl, ⟨q, hq⟩, hf⟩; have HQ := Lib.hid hq; have HF := Lib.hid hf; clear hq hf)
    go_ret
    exact ⟨gx, _, _, rfl, HKEY.out w1 q HQ.out HF.out hlt⟩
/-- What Read returns. -/
def ReadE (l : List UInt8) (lo : Bool) (w : World) (e : Ending) (w' : World) : Prop :=
  ∃ v, e = .returned (.tuple #[v, .int .i64 ((readF l lo).1 : Int)]) ∧ w'.ownsRow w.heap.size 25 2 v (readF l lo).2.length ((readF l lo).2.flatMap Hd.cells) ∧ Below w.heap.size w w'
set_option maxRecDepth 100000 in
set_option maxHeartbeats 1000000 in
theorem read_bad (A : Option Addr) (n c : Nat) (l : List UInt8) (lo : Bool) (W : World) (h : RB W A n c l) (hn : n ≤ 1000000) (p : Int) (hp : 0 ≤ p) (hr : scanR l lo = ⟨-1, 0, p⟩) :
    Calls Tryd.prog 20 #[.slice A n c, .bool lo] W (ReadE l lo W) := by
  have C22 := Lib.hid (scan22_any A n c l lo W h hn)
  have HR : Hid (readF l lo = (6, [])) := Lib.hid (by unfold readF; rw [hr]; simp only; rw [if_pos (by omega)])
  rw [hr] at C22
  clear h hn hr
  go_enter Tryd.func20, Tryd.ntmps20
  go_wp2_with (go_at_call 22; (with_reducible refine C22.out.mono ?_); rintro e w1 ⟨rfl, hb⟩; have HB := Lib.hid hb; clear hb)
  go_ret2
  exact ⟨_, by rw [HR.out]; rfl, by rw [HR.out]; exact World.ownsRow_nil _ _ 25 2, HB.out.alloc HB.out.size _⟩
set_option maxRecDepth 100000 in
set_option maxHeartbeats 1000000 in
theorem read_short (A : Option Addr) (n c : Nat) (l : List UInt8) (lo : Bool) (W : World) (h : RB W A n c l) (hn : n ≤ 1000000) (p : Int) (hp : 0 < p) (hr : scanR l lo = ⟨-1, p, -1⟩) :
    Calls Tryd.prog 20 #[.slice A n c, .bool lo] W (ReadE l lo W) := by
  have C22 := Lib.hid (scan22_any A n c l lo W h hn)
  have HR : Hid (readF l lo = (4, [])) := Lib.hid (by unfold readF; rw [hr]; simp only; rw [if_neg (by omega), if_pos (by omega)])
  rw [hr] at C22
  clear h hn hr
  go_enter Tryd.func20, Tryd.ntmps20
  go_wp2_with (go_at_call 22; (with_reducible refine C22.out.mono ?_); rintro e w1 ⟨rfl, hb⟩; have HB := Lib.hid hb; clear hb)
  go_ret2
  exact ⟨_, by rw [HR.out]; rfl, by rw [HR.out]; exact World.ownsRow_nil _ _ 25 2, HB.out.alloc HB.out.size _⟩
set_option maxRecDepth 100000 in
set_option maxHeartbeats 1000000 in
theorem read_long (A : Option Addr) (n c : Nat) (l : List UInt8) (lo : Bool) (W : World) (h : RB W A n c l) (hn : n ≤ 1000000) (p : Int) (hp : p < (n : Int)) (hr : scanR l lo = ⟨p, 0, -1⟩) :
    Calls Tryd.prog 20 #[.slice A n c, .bool lo] W (ReadE l lo W) := by
  have C22 := Lib.hid (scan22_any A n c l lo W h hn)
  have HR : Hid (readF l lo = (5, [])) := Lib.hid (by unfold readF; rw [hr]; simp only; rw [h.len, if_neg (by omega), if_neg (by omega), if_pos (by omega)])
  rw [hr] at C22
  clear h hn hr
  go_enter Tryd.func20, Tryd.ntmps20
  go_wp2_with (go_at_call 22; (with_reducible refine C22.out.mono ?_); rintro e w1 ⟨rfl, hb⟩; have HB := Lib.hid hb; clear hb)
  go_ret2
  exact ⟨_, by rw [HR.out]; rfl, by rw [HR.out]; exact World.ownsRow_nil _ _ 25 2, HB.out.alloc HB.out.size _⟩

theorem DnOk.calm {B j : Nat} {X : World} {dv : Value} {ds : List Ld} {o o' : Obj} (h : DnOk B X dv ds) (hX : X.heap[j]? = some o) (ho : o.isCells = false) : DnOk B (X.putObj j o') dv ds :=
  ⟨own_calm h.dn hX ho, fun d hd => ⟨own_calm (h.dr d hd).nm hX ho, own_calm (h.dr d hd).tx hX ho, (h.dr d hd).gf⟩⟩
structure RdI (w : World) (Bd ob : Nat) (dv : Value) (ds : List Ld) (k : Nat) (hs : List Hd) (X : World) (ov : Value) : Prop where
  bx : Blk X ob 22 #[ov]
  own : X.ownsRow w.heap.size 25 2 ov k (hs.flatMap Hd.cells)
  len : hs.length = k
  below : Below w.heap.size w X
  dn : DnOk Bd X dv ds
def RdIx (w : World) (Bd ob : Nat) (dv : Value) (ds : List Ld) (hs : List Hd) (X : World) : Prop := ∃ ov, RdI w Bd ob dv ds hs.length hs X ov
def kHd (k : Nat × List UInt8 × List UInt8) : Hd := ⟨k.2.1, k.2.2⟩
theorem RdI.below_ {w : World} {Bd ob k : Nat} {dv : Value} {ds : List Ld} {hs : List Hd} {X Y : World} {ov : Value} (h : RdI w Bd ob dv ds k hs X ov) (hb : Below X.heap.size X Y) : RdI w Bd ob dv ds k hs Y ov :=
  ⟨h.bx.below hb h.bx.lt, own_keeps h.own fun g hg => hb.block g (own_lt h.own g hg), h.len, h.below.trans (hb.mono h.below.size), h.dn.below hb⟩
theorem RdI.calm {w : World} {Bd ob k j : Nat} {dv : Value} {ds : List Ld} {hs : List Hd} {X : World} {ov : Value} {o o' : Obj} (h : RdI w Bd ob dv ds k hs X ov) (hk : w.heap.size ≤ j) (hX : X.heap[j]? = some o) (ho : o.isCells = false) : RdI w Bd ob dv ds k hs (X.putObj j o') ov :=
  ⟨h.bx.calm hX ho, own_calm h.own hX ho, h.len, below_calm h.below hk hX, h.dn.calm hX ho⟩
theorem lkp_calm (B : Nat) (F : Nat → Prop) (hF : ∀ k, F k → k < B) (vs : Array Value) (X : World) : Calm B (LKp F vs X) := fun Y k o o' hk hY ho h =>
  ⟨by rw [size_putObj]; exact h.1, fun j hj => (World.putObj_heap_other (by have := hF j hj; omega)).trans (h.2 j hj)⟩
/-- Behind the assignment of a round. -/
structure RdA (w : World) (Bd ob : Nat) (dv : Value) (ds : List Ld) (F : Nat → Prop) (ks : List (Nat × List UInt8 × List UInt8)) (i : Nat) (vs : Array Value) (X0 X : World) (tm : Array Value) (bx : Nat) (k : Nat × List UInt8 × List UInt8) (tms : Nat → Array Value) : Prop where
  hx : ks[i]? = some k
  htm : tm = tms bx
  bk : Blk X bx 25 #[.string ⟨k.2.1.toArray⟩, .string ⟨k.2.2.toArray⟩]
  kp : LKp F vs X0 X
  ri : RdIx w Bd ob dv ds ((ks.take i).map kHd) X
end Go.Proofs.YtkalllenggmgoaaDoor
