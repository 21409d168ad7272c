/- The walk of TokenReads. -/
import Derived.Test.YtkihoekldklkhaaDoorRi
import Derived.Test.YtkihoekldklkhaaDoorTs
import Derived.Test.YtkihoekldklkhaaDoorL5
import Derived.Test.YtkihoekldklkhaaDoorOi
import Derived.Test.YtkihoekldklkhaaDoorRg
import Derived.Deep.RegionHeld3
import Derived.Deep.CutRange
import Derived.Deep.CutBlock
import Derived.BigQuiet
namespace Go.Proofs.YtkihoekldklkhaaDoor
open Go.RowKit
attribute [local go_sem] wide_fn wide_depth wide_fn_in wide_depth_in Oper.semAt_some
set_option linter.unusedVariables false
set_option linter.unusedSimpArgs false

/-- A call: its kind and its text. -/
structure Ac where
  k : Int
  t : ByteArray
def AcC (x : Ac) : List Value := [.int .u8 x.k, .string x.t]
/-- A slice of calls. -/
structure AL (W : World) (A : Option Addr) (n c : Nat) (xs : List Ac) : Prop where
  len : xs.length = n
  h : HoldsS W 2 A n (xs.flatMap AcC)
  nc : n ≤ c
  cm : c ≤ maxLen
  z : A = none → c = 0
  b : ∀ x ∈ xs, 0 ≤ x.k ∧ x.k < 256
theorem ac_get (xs : List Ac) : ∀ (i : Nat) (hi : i < xs.length), (xs.flatMap AcC)[i * 2]? = some (.int .u8 (xs[i]).k) ∧ (xs.flatMap AcC)[i * 2 + 1]? = some (.string (xs[i]).t) := by
  induction xs with
  | nil => intro i hi; simp at hi
  | cons d ds ih =>
    intro i hi
    cases i with
    | zero => simp [AcC]
    | succ i =>
      have := ih i (by simpa using hi)
      have e : (i + 1) * 2 = 2 + i * 2 := by omega
      have h3 : (AcC d).length = 2 := rfl
      simp only [List.flatMap_cons, List.getElem_cons_succ]
      rw [e, List.getElem?_append_right (by omega), List.getElem?_append_right (by omega), h3]
      simpa [Nat.add_assoc] using this
theorem AL.at {w W : World} {A : Option Addr} {n c : Nat} {xs : List Ac} (h : AL w A n c xs) (h0 : 0 < n) (hb : Below w.heap.size w W) : ∃ g o, A = some ⟨g, o, none⟩ ∧ ∀ j u, (xs.flatMap AcC)[j]? = some u → W.cell? ⟨g, o + j, none⟩ = some u := by
  cases A with
  | none => have := h.h.2.1 rfl; omega
  | some b =>
    obtain ⟨gb, go, gs⟩ := b
    have key : ∀ {k : Nat} {u : Value}, (xs.flatMap AcC)[k]? = some u → W.cell? ((⟨gb, go, gs⟩ : Addr).add k) = some u := fun {k u} hk => by
      have h9 := h.h.2.2 _ rfl k u hk
      exact (hb.cell (World.block_lt_of_cell? _ _ h9)).trans h9
    have hgs : gs = none := by have := World.cell?_spot (key (ac_get xs 0 (by have := h.len; omega)).1); simpa [Addr.add] using this
    subst hgs
    refine ⟨gb, go, rfl, fun j u hj => ?_⟩
    have := key hj
    rwa [Addr.add_lit] at this
theorem own_TS {w : World} {B n c sz : Nat} {e : TypeId} {A : Option Addr} {xs : List Value} (h : w.ownsRow B e sz (.slice A n c) n xs) : TS sz w A n c xs := by
  obtain ⟨A2, c2, e2, h1, h2, h3, -⟩ := own_formS h
  injection e2 with e3 e4 e5
  subst e3 e5
  exact ⟨HoldsS.own h, h1, h2, fun q => (h3 q).2⟩
theorem own_blkT {w : World} {B n c sz g : Nat} {e t : TypeId} {A : Option Addr} {xs : List Value} {cs : Array Value} (h : w.ownsRow B e sz (.slice A n c) n xs) (hg : Blk w g t cs) (hne : e ≠ t) : ∀ a, A = some a → a.block ≠ g := by
  intro a ha
  rcases h.2 with ⟨h0, _⟩ | ⟨q, cap, cur, h0, hq, hh, _⟩
  · injection h0 with h1; rw [h1] at ha; cases ha
  · injection h0 with h1
    rw [h1] at ha
    cases ha
    rintro rfl
    unfold Blk at hg
    rw [hg] at hh
    injection hh with hh
    injection hh with _ hh
    exact hne hh.symm
/-- The cells that the law's own text reads: the text, the answer, the place. -/
def Z8 (s0 g6 : Nat) (St : ByteArray) (x y : Int) (W : World) : Prop := Blk W s0 9 #[.string St] ∧ (∃ v, Blk W (s0 + 1) 4 #[v]) ∧ Blk W g6 26 #[.int .i64 x, .int .i64 y] ∧ g6 ≠ s0 ∧ g6 ≠ s0 + 1
theorem Z8.below {s0 g6 : Nat} {St : ByteArray} {x y : Int} {W W' : World} (h : Z8 s0 g6 St x y W) (hb : Below W.heap.size W W') : Z8 s0 g6 St x y W' := by
  obtain ⟨h1, ⟨v, h2⟩, h3, h4, h5⟩ := h
  exact ⟨h1.below hb h1.lt, ⟨v, h2.below hb h2.lt⟩, h3.below hb h3.lt, h4, h5⟩
theorem Z8.set {s0 g6 : Nat} {St : ByteArray} {x y : Int} {W : World} (h : Z8 s0 g6 St x y W) (u : Value) : Z8 s0 g6 St x y (W.setCell ⟨s0 + 1, 0, none⟩ u) := by
  obtain ⟨h1, ⟨v, h2⟩, h3, h4, h5⟩ := h
  exact ⟨h1.far (by simp) _, ⟨u, by simpa using h2.set_ 0 u⟩, h3.far (by simpa using h5) _, h4, h5⟩
theorem TS.only {sz : Nat} {W W' : World} {A : Option Addr} {n c : Nat} {xs : List Value} {g : Nat} (h : TS sz W A n c xs) (ho : Only (fun q => q = g) W W') (hA : ∀ a, A = some a → a.block ≠ g) : TS sz W' A n c xs :=
  ⟨⟨h.h.1, h.h.2.1, fun a ha j x hx => by
    have hq := h.h.2.2 a ha j x hx
    have e : (a.add j).block = a.block := by by_cases q : j = 0 <;> simp [Addr.add, q]
    have hl := World.block_lt_of_cell? _ _ hq
    have hne := hA a ha
    unfold World.cell? at hq ⊢
    rw [ho.block _ hl (by rw [e]; exact hne)]
    exact hq⟩, h.nc, h.cm, h.z⟩
theorem TS.set {sz : Nat} {W : World} {A : Option Addr} {n c : Nat} {xs : List Value} {g : Nat} (h : TS sz W A n c xs) (hA : ∀ a, A = some a → a.block ≠ g) (i : Nat) (u : Value) : TS sz (W.setCell ⟨g, i, none⟩ u) A n c xs :=
  h.only (Only.set (p := fun q => q = g) (Only.refl _ _) (fun _ => rfl) i u) hA
/-- What the law's own text knows, but for the reader. -/
structure WP (w W : World) (g g8 : Nat) (St : ByteArray) (A A8 : Option Addr) (c8 : Nat) (us : List Tk) : Prop where
  w8 : Blk W g8 49 #[.slice A8 us.length c8]
  ts : TS 4 W A8 us.length c8 (us.flatMap RkC)
  f8 : ∀ a, A8 = some a → a.block ≠ g ∧ a.block ≠ g8
  fA : ∀ a, A = some a → a.block ≠ g8
  b2 : Blk W w.heap.size 9 #[.string St]
  b4 : Blk W (w.heap.size + 1) 4 #[.bool false]
  bl : Below w.heap.size w W
  lt : w.heap.size + 2 ≤ g ∧ w.heap.size + 2 ≤ g8 ∧ g ≠ g8
theorem WP.below {w W W' : World} {g g8 : Nat} {St : ByteArray} {A A8 : Option Addr} {c8 : Nat} {us : List Tk} (h : WP w W g g8 St A A8 c8 us) (hb : Below W.heap.size W W') : WP w W' g g8 St A A8 c8 us :=
  ⟨h.w8.below hb h.w8.lt, h.ts.below hb, h.f8, h.fA, h.b2.below hb h.b2.lt, h.b4.below hb h.b4.lt, h.bl.trans (hb.mono h.bl.size), h.lt⟩
theorem WP.only {w W W' : World} {g g8 : Nat} {St : ByteArray} {A A' A8 : Option Addr} {c8 : Nat} {us : List Tk} (h : WP w W g g8 St A A8 c8 us) (ho : Only (fun q => q = g) W W') (hA : ∀ b, A' = some b → ∃ a, A = some a ∧ b.block = a.block) : WP w W' g g8 St A' A8 c8 us :=
  ⟨h.w8.only ho (fun e => h.lt.2.2 e.symm), h.ts.only ho (fun a ha => (h.f8 a ha).1), h.f8, fun b hb => by obtain ⟨a, ha, e⟩ := hA b hb; rw [e]; exact h.fA a ha, h.b2.only ho (by have := h.lt; omega), h.b4.only ho (by have := h.lt; omega),
   h.bl.trans (ho.to_below h.bl.size (by intro b hb e; have := h.lt; omega)), h.lt⟩
/-- The text's slice is moved on. -/
theorem WP.tail {w W : World} {g g8 : Nat} {St : ByteArray} {A A8 A8' : Option Addr} {c8 : Nat} {t : Tk} {us : List Tk} (h : WP w W g g8 St A A8 c8 (t :: us)) (ht : TS 4 W A8' us.length (c8 - 1) (us.flatMap RkC)) (hA : ∀ b, A8' = some b → ∃ a, A8 = some a ∧ b.block = a.block) : WP w (W.setCell ⟨g8, 0, none⟩ (.slice A8' us.length (c8 - 1))) g g8 St A A8' (c8 - 1) us := by
  have h8 : ∀ b, A8' = some b → b.block ≠ g ∧ b.block ≠ g8 := fun b hb => by obtain ⟨a, ha, e⟩ := hA b hb; rw [e]; exact h.f8 a ha
  exact ⟨by have := h.w8.set_ 0 (.slice A8' us.length (c8 - 1)); simpa using this, ht.set (fun b hb => (h8 b hb).2) 0 _, h8, h.fA, h.b2.far (by have := h.lt; simp; omega) _, h.b4.far (by have := h.lt; simp; omega) _, Below.setCell h.bl (by have := h.lt; simp; omega) _, h.lt⟩
/-- The state of the loop over the calls. -/
def LI (w W : World) (g g8 : Nat) (St : ByteArray) (xe ye : Int) (L : List UInt8) : Prop := ∃ (us : List Tk) (A : Option Addr) (c : Nat) (A8 : Option Addr) (c8 : Nat), RdS W g A us.length c xe ye (us.flatMap (TkC L)) ∧ WP w W g g8 St A A8 c8 us ∧ (∀ t ∈ us, t.a ≤ L.length) ∧ us.length ≤ 500
/-- Whether the next token is not the one that a call asks for. -/
def wrongB (kd k : Int) (s sx : ByteArray) : Bool := (((kd == 1) && !(takeB k s sx)) || ((kd == 2) && !(k == 1))) || ((kd == 3) && !(k == 2))
def wantE (kd : Int) (us : List Tk) (sx : ByteArray) : Int := match us with
  | [] => 9
  | t :: _ => if wrongB kd (t.k : Int) ⟨t.t.toArray⟩ sx = true then 6 else 0
def nextC (us : List Tk) : Array Value := match us with
  | [] => #[.int .i64 0, .string ⟨#[]⟩, .int .i64 0, .int .i64 0]
  | t :: _ => #[.int .i64 (t.k : Int), .string ⟨t.t.toArray⟩, .int .i64 t.v, .int .i64 (t.a : Int)]
theorem TS.head4 {W : World} {A : Option Addr} {t : Tk} {us : List Tk} {c : Nat} (h : TS 4 W A (t :: us).length c ((t :: us).flatMap RkC)) : ∃ g o, A = some ⟨g, o, none⟩ ∧ W.cell? ⟨g, o, none⟩ = some (.int .i64 (t.k : Int)) ∧ W.cell? ⟨g, o + 1, none⟩ = some (.string ⟨t.t.toArray⟩) ∧ W.cell? ⟨g, o + 2, none⟩ = some (.int .i64 t.v) ∧ W.cell? ⟨g, o + 3, none⟩ = some (.int .i64 (t.a : Int)) := by
  cases A with
  | none => have := h.h.2.1 rfl; simp at this
  | some b =>
    obtain ⟨gb, go, gs⟩ := b
    have key : ∀ {k : Nat} {u : Value}, ((t :: us).flatMap RkC)[k]? = some u → W.cell? ((⟨gb, go, gs⟩ : Addr).add k) = some u := fun {k u} hk => h.h.2.2 _ rfl k u hk
    have l0 : ((t :: us).flatMap RkC)[0]? = some (.int .i64 (t.k : Int)) := by simp [RkC]
    have l1 : ((t :: us).flatMap RkC)[1]? = some (.string ⟨t.t.toArray⟩) := by simp [RkC]
    have l2 : ((t :: us).flatMap RkC)[2]? = some (.int .i64 t.v) := by simp [RkC]
    have l3 : ((t :: us).flatMap RkC)[3]? = some (.int .i64 (t.a : Int)) := by simp [RkC]
    have hgs : gs = none := by have := World.cell?_spot (key l0); simpa [Addr.add] using this
    subst hgs
    have f0 := key l0
    have f1 := key l1
    have f2 := key l2
    have f3 := key l3
    rw [Addr.add_lit] at f0 f1 f2 f3
    exact ⟨gb, go, rfl, f0, f1, f2, f3⟩
/-- The tokens that are left behind a call. -/
def restT (kd : Int) (us : List Tk) (sx : ByteArray) : List Tk := if wantE kd us sx = 0 ∧ kd ≠ 4 then us.tail else us
/-- The state behind a call, ahead of the text's own step. -/
def MV (w W : World) (g g8 : Nat) (St : ByteArray) (xe ye : Int) (L : List UInt8) (A9 : Option Addr) (c9 : Nat) (us us2 : List Tk) : Prop := ∃ (A : Option Addr) (c : Nat), RdS W g A us2.length c xe ye (us2.flatMap (TkC L)) ∧ WP w W g g8 St A A9 c9 us
theorem MV.below {w W W' : World} {g g8 : Nat} {St : ByteArray} {xe ye : Int} {L : List UInt8} {A9 : Option Addr} {c9 : Nat} {us us2 : List Tk} (h : MV w W g g8 St xe ye L A9 c9 us us2) (hb : Below W.heap.size W W') : MV w W' g g8 St xe ye L A9 c9 us us2 := by
  obtain ⟨A, c, h1, h2⟩ := h
  exact ⟨A, c, h1.below hb, h2.below hb⟩
theorem MV.move {w W w' : World} {g g8 : Nat} {St : ByteArray} {xe ye : Int} {L : List UInt8} {A A9 : Option Addr} {c c9 : Nat} {t : Tk} {us : List Tk} {X : Prop} (hwp : WP w W g g8 St A A9 c9 (t :: us)) (h : ∃ A', X ∧ Only (fun q => q = g) W w' ∧ RdS w' g A' ((t :: us).length - 1) (c - 1) xe ye (((t :: us).flatMap (TkC L)).drop 5) ∧ ∀ b, A' = some b → ∃ a, A = some a ∧ b.block = a.block) : X ∧ MV w w' g g8 St xe ye L A9 c9 (t :: us) us ∧ Only (fun q => q = g) W w' := by
  obtain ⟨A', h1, h2, h3, h4⟩ := h
  exact ⟨h1, ⟨A', c - 1, h3, hwp.only h2 h4⟩, h2⟩
theorem take5 (L : List UInt8) (t : Tk) (us : List Tk) : ((t :: us).flatMap (TkC L)).take 5 = [.int .i64 (t.k : Int), .string ⟨t.t.toArray⟩, .int .i64 t.v, .int .i64 ((lcOf L t.a).1 : Int), .int .i64 ((lcOf L t.a).2 : Int)] := rfl
theorem wrong0 (k : Int) (s sx : ByteArray) : wrongB 0 k s sx = false := rfl
theorem wrong4 (k : Int) (s sx : ByteArray) : wrongB 4 k s sx = false := rfl
theorem wrong1 (k : Int) (s sx : ByteArray) : wrongB 1 k s sx = !(takeB k s sx) := by unfold wrongB; cases takeB k s sx <;> rfl
theorem wrong2 (k : Int) (s sx : ByteArray) : wrongB 2 k s sx = !(k == 1) := by unfold wrongB; cases (k == 1) <;> rfl
theorem wrong3 (k : Int) (s sx : ByteArray) : wrongB 3 k s sx = !(k == 2) := by unfold wrongB; cases (k == 2) <;> rfl
theorem Blk.onlyg {W W' : World} {gn g : Nat} {t : TypeId} {cs : Array Value} (h : Blk W gn t cs) (ho : Only (fun q => q = g) W W') (hne : gn ≠ g) : Blk W' gn t cs := h.only ho hne
/-- The range's invariant, and how it is left. -/
structure SI (W7 : World) (Bk Bt : Nat) (Ds : List Nat) (sz : Nat) (t j : Nat) (X : World) : Prop where
  k : Blk X Bk 3 #[.int .i64 j]
  bt : Blk X Bt 3 #[.int .i64 t]
  below : Below W7.heap.size W7 X
  marks : Marks W7.heap.size Ds X
  size : sz ≤ X.heap.size
  c : t = 0 → j < 2
structure SX (W7 : World) (Bk Bt : Nat) (Ds : List Nat) (sz : Nat) (t : Nat) (cd : Code) (j : Nat) (X : World) : Prop where
  cd : cd = .exit 5
  k : Blk X Bk 3 #[.int .i64 j]
  bt : Blk X Bt 3 #[.int .i64 t]
  below : Below W7.heap.size W7 X
  marks : Marks W7.heap.size Ds X
  size : sz ≤ X.heap.size
  t0 : t = 0
  c1 : j = 2
def SLoop (s0 g8 gs : Nat) (W7 : World) (a : Act) (W : World) : Prop := ∃ (t Bt : Nat) (Ds : List Nat), a.tmps.size = 325 ∧ a.tmps.getD 2 undef = .pointer (some ⟨s0, 0, none⟩) ∧ a.tmps.getD 4 undef = .pointer (some ⟨s0 + 1, 0, none⟩) ∧ a.tmps.getD 8 undef = .pointer (some ⟨g8, 0, none⟩) ∧ a.tmps.getD 25 undef = .func (.func 47) #[] #[.pointer (some ⟨gs, 0, none⟩)] ∧ a.tmps.getD 26 undef = .pointer (some ⟨Bt, 0, none⟩) ∧ a.defers = Ds.map mark ∧ t ≤ 2 ∧ Blk W Bt 3 #[.int .i64 (t : Int)] ∧ W7.heap.size ≤ Bt ∧ Below W7.heap.size W7 W ∧ Marks W7.heap.size Ds W
structure SReg (Bk g8 gL oL bx s0 j Nn c9 : Nat) (k v ln cl aa : Int) (sn St : ByteArray) (W : World) : Prop where
  a1 : W.cell? ⟨Bk, 0, none⟩ = some (.int .i64 (j : Int))
  a2 : W.cell? ⟨g8, 0, none⟩ = some (.slice (some ⟨gL, oL, none⟩) Nn c9)
  a3 : W.cell? ⟨bx, 0, none⟩ = some (.int .i64 k) ∧ W.cell? ⟨bx, 1, none⟩ = some (.string sn) ∧ W.cell? ⟨bx, 2, none⟩ = some (.int .i64 v) ∧ W.cell? ⟨bx, 3, none⟩ = some (.int .i64 ln) ∧ W.cell? ⟨bx, 4, none⟩ = some (.int .i64 cl)
  a4 : W.cell? ⟨gL, oL + j * 4, none⟩ = some (.int .i64 k) ∧ W.cell? ⟨gL, oL + j * 4 + 1, none⟩ = some (.string sn) ∧ W.cell? ⟨gL, oL + j * 4 + 2, none⟩ = some (.int .i64 v) ∧ W.cell? ⟨gL, oL + j * 4 + 3, none⟩ = some (.int .i64 aa)
  a5 : W.cell? ⟨s0, 0, none⟩ = some (.string St)
theorem SReg.below {Bk g8 gL oL bx s0 j Nn c9 : Nat} {k v ln cl aa : Int} {sn St : ByteArray} {W W' : World} (h : SReg Bk g8 gL oL bx s0 j Nn c9 k v ln cl aa sn St W) (hb : Below W.heap.size W W') : SReg Bk g8 gL oL bx s0 j Nn c9 k v ln cl aa sn St W' := by
  have key : ∀ {p : Addr} {u : Value}, W.cell? p = some u → W'.cell? p = some u := fun {p u} hp => (hb.cell (World.block_lt_of_cell? _ _ hp)).trans hp
  exact ⟨key h.a1, key h.a2, ⟨key h.a3.1, key h.a3.2.1, key h.a3.2.2.1, key h.a3.2.2.2.1, key h.a3.2.2.2.2⟩, ⟨key h.a4.1, key h.a4.2.1, key h.a4.2.2.1, key h.a4.2.2.2⟩, key h.a5⟩
theorem TS.at4 {W : World} {A : Option Addr} {us : List Tk} {c j : Nat} (h : TS 4 W A us.length c (us.flatMap RkC)) (hj : j < us.length) : ∃ g o, A = some ⟨g, o, none⟩ ∧ W.cell? ⟨g, o + j * 4, none⟩ = some (.int .i64 ((us[j]).k : Int)) ∧ W.cell? ⟨g, o + j * 4 + 1, none⟩ = some (.string ⟨(us[j]).t.toArray⟩) ∧ W.cell? ⟨g, o + j * 4 + 2, none⟩ = some (.int .i64 (us[j]).v) ∧ W.cell? ⟨g, o + j * 4 + 3, none⟩ = some (.int .i64 ((us[j]).a : Int)) := by
  cases A with
  | none => have := h.h.2.1 rfl; omega
  | some b =>
    obtain ⟨gb, go, gs⟩ := b
    have key : ∀ {k : Nat} {u : Value}, (us.flatMap RkC)[k]? = some u → W.cell? ((⟨gb, go, gs⟩ : Addr).add k) = some u := fun {k u} hk => h.h.2.2 _ rfl k u hk
    obtain ⟨l0, l1, l2, l3⟩ := rk_get us j hj
    have hgs : gs = none := by have := World.cell?_spot (key (rk_get us 0 (by omega)).1); simpa [Addr.add] using this
    subst hgs
    have f0 := key l0
    have f1 := key l1
    have f2 := key l2
    have f3 := key l3
    rw [Addr.add_lit] at f0 f1 f2 f3
    rw [← Nat.add_assoc] at f1 f2 f3
    exact ⟨gb, go, rfl, f0, f1, f2, f3⟩
set_option maxRecDepth 100000 in
set_option maxHeartbeats 10000000 in
theorem reads_law (s : ByteArray) (A : Option Addr) (n c : Nat) (xs : List Ac) (w : World) (hs : s.size ≤ maxLen) (h : AL w A n c xs) :
    Calls Tryd.prog 4 #[.string s, .slice A n c] w fun e w' => e = .returned (.bool true) ∧ Below w.heap.size w w' := by
  refine (callsIn_wide (n := 100)).1 ?_
  refine callsIn_of_wp_marks Tryd.func4 rfl trivial ?_ rfl
  refine wpIn_wide.2 ?_
  simp only [Tryd.ntmps4, List.size_toArray, List.length_cons, List.length_nil, Nat.reduceAdd, Nat.reduceSub, Array.replicate_succ, Array.replicate_zero, List.push_toArray, List.append_toArray, List.nil_append, List.cons_append]
  obtain ⟨L, hL⟩ : ∃ L : List UInt8, s = ⟨L.toArray⟩ := ⟨s.data.toList, by rw [Lib.mk_data]⟩
  have hsz := Lib.size_mk L
  rw [← hL] at hsz
  obtain ⟨W0, hW0⟩ : ∃ W0, ((w.alloc (.cells #[.string s] 9)).alloc (.cells #[.bool false] 4)) = W0 := ⟨_, rfl⟩
  have hba : Below w.heap.size w W0 := hW0 ▸ ((Below.refl _ w).alloc (Nat.le_refl _) _).alloc (by simp) _
  have kM : Blk W0 w.heap.size 9 #[.string s] := hW0 ▸ (Blk.new w 9 _).alloc _
  have kR : Blk W0 (w.heap.size + 1) 4 #[.bool false] := by have := Blk.new (w.alloc (.cells #[.string s] 9)) 4 #[.bool false]; rw [World.size_alloc, hW0] at this; exact this
  have HBA := Lib.hid hba
  have KM := Lib.hid kM
  have KR := Lib.hid kR
  have ending : ∀ (nn : Nat) (tm : Array Value) (W : World) (Ds : List Nat), tm.getD 4 undef = .pointer (some ⟨w.heap.size + 1, 0, none⟩) → Marks (w.heap.size + 2) Ds W → Below w.heap.size w W → Blk W (w.heap.size + 1) 4 #[.bool true] → LeavesInM Fence.wide nn Tryd.prog Tryd.f4 tm (fun e w' => e = .returned (.bool true) ∧ Below w.heap.size w w') (Ds.map mark) .returning W := by
    intro nn tm W Ds ht hM hb hk
    refine leaves_marks2 (v := .bool true) Ds W hM fun w' hs => ⟨?_, rfl, hb.trans (hs.to_below.mono (by omega))⟩
    have hk' := (hk.below hs.to_below (by omega)).cell 0
    simp at hk'
    have ht' : tm[4]?.getD undef = .pointer (some ⟨w.heap.size + 1, 0, none⟩) := by simpa using ht
    simp [results, Tryd.results4, go_sem, ht', hk']
  have HEND := Lib.hid ending
  have HP := Lib.hid h
  have HW0 := Lib.hid hW0
  have hnf : ∀ (a : Nat) (W : World), (binOp .eql 41 (fn47 a) .nilFunc).run Tryd.prog W = .ok (.bool false) W := fun a W => by unfold fn47; kernel_rfl
  unfold fn47 at hnf
  clear hba kM kR ending h hW0
  have C8 := Lib.hid known_any
  have C9 := Lib.hid (known_any W0)
  by_cases hbig : (500 : Int) < s.size
  · have f1 := KR.out.frozen 0
    have s1 := KM.out.cell 0
    simp only [List.getElem?_toArray, List.getElem?_cons_zero, List.getElem?_cons_succ] at s1
    have q1 : decide ((500 : Int) < (s.size : Int)) = true := by simpa using hbig
    clear hbig hs hsz hL
    go_upto_region 1 with fail
    rw [HW0.out]
    go_wp2_with (go_at_call 8; (with_reducible refine C9.out.mono ?_); rintro e w9 ⟨rfl, b9⟩; have k9 := KR.out.below b9 KR.out.lt; have e9 := k9.cell 0; have f9 := k9.frozen 0; simp at e9; have K9 := Lib.hid k9; have B9 := Lib.hid (HBA.out.trans (b9.mono HBA.out.size)); skip; clear b9 k9)
    refine HEND.out _ _ _ [] (by rfl) ⟨List.nodup_nil, fun D hD => by cases hD⟩ ?_ ?_
    · exact Below.setCell B9.out (by simp) _
    · have := K9.out.set_ 0 (.bool true)
      simpa using this
  have hn : L.length ≤ 500 := by omega
  have q1 : decide ((500 : Int) < (s.size : Int)) = false := by simpa using hbig
  by_cases hbig2 : (60 : Int) < n
  · have f1 := KR.out.frozen 0
    have s1 := KM.out.cell 0
    simp only [List.getElem?_toArray, List.getElem?_cons_zero, List.getElem?_cons_succ] at s1
    have q2 : decide ((60 : Int) < (n : Int)) = true := by simpa using hbig2
    clear hbig hbig2 hs hsz hL hn
    go_upto_region 1 with fail
    rw [HW0.out]
    go_wp2_with (go_at_call 8; (with_reducible refine C9.out.mono ?_); rintro e w9 ⟨rfl, b9⟩; have k9 := KR.out.below b9 KR.out.lt; have e9 := k9.cell 0; have f9 := k9.frozen 0; simp at e9; have K9 := Lib.hid k9; have B9 := Lib.hid (HBA.out.trans (b9.mono HBA.out.size)); skip; clear b9 k9)
    refine HEND.out _ _ _ [] (by rfl) ⟨List.nodup_nil, fun D hD => by cases hD⟩ ?_ ?_
    · exact Below.setCell B9.out (by simp) _
    · have := K9.out.set_ 0 (.bool true)
      simpa using this
  have q2 : decide ((60 : Int) < (n : Int)) = false := by simpa using hbig2
  have hn60 : (n : Int) ≤ 60 := by omega
  have s1 := KM.out.cell 0
  simp only [List.getElem?_toArray, List.getElem?_cons_zero, List.getElem?_cons_succ] at s1
  have C16 := Lib.hid (new_any L W0 (by omega))
  have C17 := Lib.hid (fun W => rscan_any L W (by omega))
  have C18 := Lib.hid (fun (b : Nat) (W : World) (hb : b ≤ L.length) => at_any L b W hb (by omega))
  have C19 := Lib.hid (fun (t : Tk) (W : World) (ha : t.a ≤ L.length) => is_true L t W (by omega) ha)
  have hat : ∀ t ∈ (scanL 0 L).1, t.a ≤ L.length := scanL_at (L.length + 1) 0 L (by omega) (by omega)
  have hbl : ∀ b, (scanL 0 L).2 = some b → b ≤ L.length := scanL_le L
  have hfew := scanL_few L
  have HLE := Lib.hid (fun (i : Nat) => lcOf_le L i)
  unfold NewE at C16
  unfold RScanE at C17
  rw [← hL] at C16 C17 C18 C19
  obtain ⟨R, hR⟩ : ∃ R, scanL 0 L = R := ⟨_, rfl⟩
  rw [hR] at C16 C17 hat hbl hfew
  obtain ⟨ts, bo⟩ := R
  simp only at hat hbl hfew
  have HAT := Lib.hid hat
  obtain ⟨St, hSt⟩ : ∃ St, s = St := ⟨_, rfl⟩
  rw [hSt] at C16 C17 C18 C19 s1 q1 HW0 KM hsz ⊢
  have HLN := Lib.hid hsz
  have HN5 := Lib.hid hn
  clear hbig hbig2 hat hR hs hsz hL hn hSt
  cases bo with
  | some b =>
    simp only [] at C16 C17
    have C18 := Lib.hid (fun W => C18.out b W (hbl b rfl))
    have hno := errN_cases L b
    have q5 : (errN L b != 0) = true := by rcases hno with h | h <;> rw [h] <;> rfl
    have q6 : (errN L b != errN L b) = false := by simp
    generalize errN L b = no at *
    generalize ((lcOf L b).1 : Int) = x at *
    generalize ((lcOf L b).2 : Int) = y at *
    clear hbl hfew hno
    have hpn : ∀ W : World, (binOp .eql 23 (.pointer none) (.pointer none)).run Tryd.prog W = .ok (.bool true) W := fun W => by kernel_rfl
    go_upto_region 1 with fail
    rw [HW0.out]
    go_upto_region 4 with (go_at_call 16; (with_reducible refine C16.out.mono ?_); rintro e w1 ⟨hb1, rfl⟩; have HB1 := Lib.hid hb1; clear hb1)
    obtain ⟨w2, hw2⟩ : ∃ w2, w1.alloc (.cells #[.int .i64 x, .int .i64 y] 26) = w2 := ⟨_, rfl⟩
    have hb2 : Below W0.heap.size W0 w2 := hw2 ▸ HB1.out.alloc HB1.out.size _
    obtain ⟨g6, hg6⟩ : ∃ g6, w1.heap.size = g6 := ⟨_, rfl⟩
    have HG6 : Hid (Blk w2 g6 26 #[.int .i64 x, .int .i64 y]) := Lib.hid (hg6 ▸ hw2 ▸ Blk.new w1 26 _)
    have HGG : Hid (W0.heap.size ≤ g6) := Lib.hid (hg6 ▸ HB1.out.size)
    have HB2 := Lib.hid hb2
    rw [hw2, hg6]
    clear hw2 hb2 hg6 s1
    have s1 := (KM.out.below HB2.out KM.out.lt).cell 0
    simp only [List.getElem?_toArray, List.getElem?_cons_zero, List.getElem?_cons_succ] at s1
    go_upto_region 5 with (go_at_call 17; (with_reducible refine (C17.out _).mono ?_); rintro e w3 ⟨hb3, rfl⟩; have HB3a := Lib.hid (HB2.out.trans (hb3.mono HB2.out.size)); have HG6a := Lib.hid (HG6.out.below hb3 HG6.out.lt); clear hb3)
    obtain ⟨w3b, hw3b⟩ : ∃ w3b, w3.alloc (.cells #[.slice none 0 0] 49) = w3b := ⟨_, rfl⟩
    have hb3b : Below W0.heap.size W0 w3b := hw3b ▸ HB3a.out.alloc HB3a.out.size _
    have HG6b := Lib.hid (HG6a.out.below (hw3b ▸ (Below.refl _ w3).alloc (Nat.le_refl _) _ : Below w3.heap.size w3 w3b) HG6a.out.lt)
    have HB3 := Lib.hid (below_drew (HBA.out.trans (hb3b.mono HBA.out.size)))
    have HZ3 : Hid (Z8 w.heap.size g6 St x y w3b.drew) := Lib.hid ⟨Blk.drew1 (KM.out.below hb3b KM.out.lt), ⟨_, Blk.drew1 (KR.out.below hb3b KR.out.lt)⟩, Blk.drew1 HG6b.out, by have := KM.out.lt; have := HGG.out; omega, by have := KR.out.lt; have := HGG.out; omega⟩
    rw [hw3b]
    obtain ⟨g8, hg8⟩ : ∃ g8, w3.heap.size = g8 := ⟨_, rfl⟩
    rw [hg8]
    clear hw3b hb3b hg8 s1
    go_upto_region 8 with fail
    refine wp_region_noPanic ?_
    refine wp_region_G (S0 := (Z8 w.heap.size g6 St x y)) (S1 := (Z8 w.heap.size g6 St x y)) (c := 99) (by kernel_rfl) ?_
    have hHeld := HZ3.out
    have h01 := (fun (W : World) (h : (Z8 w.heap.size g6 St x y) W) => h)
    refine wpG_takeB (i := 0) (oi := ⟨some 62, _, _, _, _, _⟩) (v := .agg #[.int .i64 x, .int .i64 y]) rfl (by kernel_rfl) (by kernel_rfl) (by kernel_rfl) (by decide) (fun _ _ _ h => h) h01 rfl hHeld (Or.inl ⟨by rfl, ?_⟩) ?_
    · (intro W9 hSw; obtain ⟨t1, ⟨tv, t2⟩, t3, -⟩ := hSw; have v1 := t1.cell 0; have v3 := t3.cell 0; have v4 := t3.cell 1; simp only [List.getElem?_toArray, List.getElem?_cons_zero, List.getElem?_cons_succ] at v1 v3 v4; go_simp; (try (first | with_reducible rfl | rfl | (simp; done))))
    try simp only [Act.put, List.setIfInBounds_toArray, List.set_cons_zero, List.set_cons_succ]
    refine wpG_takeB (i := 1) (oi := ⟨some 63, _, _, _, _, _⟩) (v := .string St) rfl (by kernel_rfl) (by kernel_rfl) (by kernel_rfl) (by decide) (fun _ _ _ h => h) h01 rfl hHeld (Or.inl ⟨by rfl, ?_⟩) ?_
    · (intro W9 hSw; obtain ⟨t1, ⟨tv, t2⟩, t3, -⟩ := hSw; have v1 := t1.cell 0; have v3 := t3.cell 0; have v4 := t3.cell 1; simp only [List.getElem?_toArray, List.getElem?_cons_zero, List.getElem?_cons_succ] at v1 v3 v4; go_simp; (try (first | with_reducible rfl | rfl | (simp; done))))
    try simp only [Act.put, List.setIfInBounds_toArray, List.set_cons_zero, List.set_cons_succ]
    refine wpG_takeB (i := 2) (oi := ⟨some 64, _, _, _, _, _⟩) (v := .int .i64 (b : Int)) rfl (by kernel_rfl) (by kernel_rfl) (by kernel_rfl) (by decide) (fun _ _ _ h => h) h01 rfl hHeld (Or.inl ⟨by rfl, ?_⟩) ?_
    · (intro W9 hSw; obtain ⟨t1, ⟨tv, t2⟩, t3, -⟩ := hSw; have v1 := t1.cell 0; have v3 := t3.cell 0; have v4 := t3.cell 1; simp only [List.getElem?_toArray, List.getElem?_cons_zero, List.getElem?_cons_succ] at v1 v3 v4; go_simp; (try (first | with_reducible rfl | rfl | (simp; done))))
    try simp only [Act.put, List.setIfInBounds_toArray, List.set_cons_zero, List.set_cons_succ]
    refine wpG_oneB (i := 3) (o := ⟨some 65, _, _, _, _, _⟩) (by kernel_rfl) rfl rfl (fun K hK => ?_)
    go_simp
    (with_reducible refine (C18.out _).mono ?_); rintro e w4 ⟨rfl, hb4⟩
    have HB4 := Lib.hid (HB3.out.trans (hb4.mono HB3.out.size))
    have HZ4 := Lib.hid (HZ3.out.below hb4)
    clear hb4
    refine hK.out _ _ HZ4.out (fun hHeld => ?_)
    clear hK K
    try simp only [Act.put, List.setIfInBounds_toArray, List.set_cons_zero, List.set_cons_succ]
    refine wpG_takeB (i := 4) (oi := ⟨some 66, _, _, _, _, _⟩) (v := .bool true) rfl (by kernel_rfl) (by kernel_rfl) (by kernel_rfl) (by decide) (fun _ _ _ h => h) h01 rfl hHeld (Or.inl ⟨by rfl, ?_⟩) ?_
    · (intro W9 hSw; obtain ⟨t1, ⟨tv, t2⟩, t3, -⟩ := hSw; have v1 := t1.cell 0; have v3 := t3.cell 0; have v4 := t3.cell 1; simp only [List.getElem?_toArray, List.getElem?_cons_zero, List.getElem?_cons_succ] at v1 v3 v4; go_simp; (try (first | with_reducible rfl | rfl | (simp; done))))
    try simp only [Act.put, List.setIfInBounds_toArray, List.set_cons_zero, List.set_cons_succ]
    refine wpG_takeB (i := 5) (oi := ⟨some 67, _, _, _, _, _⟩) (v := .bool true) rfl (by kernel_rfl) (by kernel_rfl) (by kernel_rfl) (by decide) (fun _ _ _ h => h) h01 rfl hHeld (Or.inl ⟨by rfl, ?_⟩) ?_
    · (intro W9 hSw; obtain ⟨t1, ⟨tv, t2⟩, t3, -⟩ := hSw; have v1 := t1.cell 0; have v3 := t3.cell 0; have v4 := t3.cell 1; simp only [List.getElem?_toArray, List.getElem?_cons_zero, List.getElem?_cons_succ] at v1 v3 v4; go_simp; (try (first | with_reducible rfl | rfl | (simp; done))))
    try simp only [Act.put, List.setIfInBounds_toArray, List.set_cons_zero, List.set_cons_succ]
    refine wpG_oneB (i := 6) (o := ⟨some 68, _, _, _, _, _⟩) (by kernel_rfl) rfl rfl (fun K hK => ?_)
    go_simp
    (with_reducible refine (C8.out _).mono ?_); rintro e w5 ⟨rfl, hb5⟩
    have HB5 := Lib.hid (HB4.out.trans (hb5.mono HB4.out.size))
    have HZ5 := Lib.hid (HZ4.out.below hb5)
    clear hb5
    refine hK.out _ _ HZ5.out (fun hHeld => ?_)
    clear hK K
    try simp only [Act.put, List.setIfInBounds_toArray, List.set_cons_zero, List.set_cons_succ]
    refine wpG_takeB (i := 7) (oi := ⟨some 69, _, _, _, _, _⟩) (v := .bool true) rfl (by kernel_rfl) (by kernel_rfl) (by kernel_rfl) (by decide) (fun _ _ _ h => h) h01 rfl hHeld (Or.inl ⟨by rfl, ?_⟩) ?_
    · (intro W9 hSw; obtain ⟨t1, ⟨tv, t2⟩, t3, -⟩ := hSw; have v1 := t1.cell 0; have v3 := t3.cell 0; have v4 := t3.cell 1; simp only [List.getElem?_toArray, List.getElem?_cons_zero, List.getElem?_cons_succ] at v1 v3 v4; go_simp; (try (first | with_reducible rfl | rfl | (simp; done))))
    try simp only [Act.put, List.setIfInBounds_toArray, List.set_cons_zero, List.set_cons_succ]
    refine wpG_oneB (i := 8) (o := ⟨none, _, _, _, _, _⟩) (by kernel_rfl) rfl rfl (fun K hK => ?_)
    obtain ⟨t1, ⟨tv, t2⟩, t3, -⟩ := HZ5.out
    have kc := t2.cell 0
    have kz := t2.frozen 0
    simp only [List.getElem?_toArray, List.getElem?_cons_zero] at kc
    go_simp
    clear kc kz
    refine hK.out _ _ (HZ5.out.set _) (fun hHeld => ?_)
    clear hK K
    try simp only [Act.put, List.setIfInBounds_toArray, List.set_cons_zero, List.set_cons_succ]
    refine wpG_done (by kernel_rfl) ?_ _
    clear hHeld h01
    refine NoPanic.normal ?_
    go_wp2_with fail
    refine HEND.out _ _ _ [] (by rfl) ⟨List.nodup_nil, fun D hD => by cases hD⟩ ?_ ?_
    · exact Below.setCell HB5.out (by simp) _
    · obtain ⟨-, ⟨v9, t2⟩, -⟩ := HZ5.out
      have := t2.set_ 0 (.bool true)
      simpa using this
  | none =>
    simp only [] at C16 C17
    clear hbl
    obtain ⟨xe, hxe⟩ : ∃ xe : Int, ((lcOf L L.length).1 : Int) = xe := ⟨_, rfl⟩
    obtain ⟨ye, hye⟩ : ∃ ye : Int, ((lcOf L L.length).2 : Int) = ye := ⟨_, rfl⟩
    have hx1 : 1 ≤ xe := by have := (HLE.out L.length).2.2; omega
    have HXE := Lib.hid (And.intro hxe hye)
    rw [hxe, hye] at C16
    have HX1 := Lib.hid hx1
    clear hxe hye hx1
    have hfw : ts.length ≤ 500 := by have := HN5.out; omega
    have HFW := Lib.hid hfw
    clear hfew hfw
    have hpn : ∀ (a : Addr) (W : World), (binOp .eql 23 (.pointer (some a)) (.pointer none)).run Tryd.prog W = .ok (.bool false) W := fun a W => by kernel_rfl
    have h26 : ∀ W : World, (binOp .neq 26 (.agg #[.int .i64 0, .int .i64 0]) (.agg #[.int .i64 0, .int .i64 0])).run Tryd.prog W = .ok (.bool false) W := fun W => by kernel_rfl
    go_upto_region 1 with fail
    rw [HW0.out]
    go_upto_region 4 with (go_at_call 16; (with_reducible refine C16.out.mono ?_); rintro e w1 ⟨hb1, g, A1, c1, rfl, hgg, hg, hown1⟩; have HB1 := Lib.hid hb1; have HGG := Lib.hid hgg; have HG := Lib.hid hg; have HW1 := Lib.hid hown1; clear hb1 hgg hg hown1)
    obtain ⟨w2, hw2⟩ : ∃ w2, w1.alloc (.cells #[.int .i64 0, .int .i64 0] 26) = w2 := ⟨_, rfl⟩
    have hb12 : Below w1.heap.size w1 w2 := hw2 ▸ (Below.refl _ w1).alloc (Nat.le_refl _) _
    obtain ⟨g6, hg6⟩ : ∃ g6, w1.heap.size = g6 := ⟨_, rfl⟩
    have HG6 : Hid (Blk w2 g6 26 #[.int .i64 0, .int .i64 0]) := Lib.hid (hg6 ▸ hw2 ▸ Blk.new w1 26 _)
    have HB2 := Lib.hid (HB1.out.trans (hb12.mono HB1.out.size))
    have HGb := Lib.hid (HG.out.below hb12 HG.out.lt)
    have HW2 := Lib.hid (own_keeps HW1.out fun q hq => hb12.block q (own_lt HW1.out q hq))
    rw [hw2, hg6]
    clear hw2 hb12 hg6 s1
    have s1 := (KM.out.below HB2.out KM.out.lt).cell 0
    simp only [List.getElem?_toArray, List.getElem?_cons_zero, List.getElem?_cons_succ] at s1
    go_upto_region 5 with (go_at_call 17; (with_reducible refine (C17.out _).mono ?_); rintro e w3 ⟨hb3, A8, c8, rfl, hown3⟩; have HB3 := Lib.hid (HB2.out.trans (hb3.mono HB2.out.size)); have HG6a := Lib.hid (HG6.out.below hb3 HG6.out.lt); have HG3 := Lib.hid (HGb.out.below hb3 HGb.out.lt); have HW3 := Lib.hid (own_keeps HW2.out fun q hq => hb3.block q (own_lt HW2.out q hq)); have HR3 := Lib.hid hown3; have HS23 := Lib.hid hb3.size; clear hb3 hown3)
    obtain ⟨w4, hw4⟩ : ∃ w4, w3.alloc (.cells #[.slice A8 ts.length c8] 49) = w4 := ⟨_, rfl⟩
    have hb34 : Below w3.heap.size w3 w4 := hw4 ▸ (Below.refl _ w3).alloc (Nat.le_refl _) _
    have HB4 := Lib.hid (HB3.out.trans (hb34.mono HB3.out.size))
    have HG6b := Lib.hid (HG6a.out.below hb34 HG6a.out.lt)
    have HW4 := Lib.hid (own_keeps HW3.out fun q hq => hb34.block q (own_lt HW3.out q hq))
    have HR4 := Lib.hid (own_keeps HR3.out fun q hq => hb34.block q (own_lt HR3.out q hq))
    have HG4 := Lib.hid (HG3.out.below hb34 HG3.out.lt)
    obtain ⟨g8, hg8⟩ : ∃ g8, w3.heap.size = g8 := ⟨_, rfl⟩
    have H84 : Hid (Blk w4 g8 49 #[.slice A8 ts.length c8]) := Lib.hid (hg8 ▸ hw4 ▸ Blk.new w3 49 _)
    have HS2 : Hid (w.heap.size + 2 ≤ W0.heap.size) := Lib.hid (by have := KR.out.lt; omega)
    have HGe : Hid (w.heap.size + 2 ≤ g ∧ w.heap.size + 2 ≤ g8 ∧ g < g8) := Lib.hid (by have h1 := HGG.out; have h2 := HS2.out; have h3 := HB3.out.size; have h4 := HGb.out.lt; have h5 := HS23.out; omega)
    have HRd0 : Hid (RdS w4 g A1 ts.length c1 xe ye (ts.flatMap (TkC L))) := Lib.hid ⟨HG4.out, own_TS HW4.out, HX1.out, own_blkT HW4.out HG4.out (by decide)⟩
    have HWP0 : Hid (WP w w4 g g8 St A1 A8 c8 ts) := Lib.hid ⟨H84.out, own_TS HR4.out, fun a ha => ⟨own_blkT HR4.out HG4.out (by decide) a ha, own_blkT HR4.out H84.out (by decide) a ha⟩, own_blkT HW4.out H84.out (by decide), KM.out.below HB4.out KM.out.lt, KR.out.below HB4.out KR.out.lt, HBA.out.trans (HB4.out.mono HBA.out.size), by have := HGe.out; omega⟩
    have HLI0 : Hid (LI w w4 g g8 St xe ye L) := Lib.hid ⟨ts, A1, c1, A8, c8, HRd0.out, HWP0.out, HAT.out, HFW.out⟩
    rw [hw4, hg8]
    clear hw4 hb34 hg8 s1 HW1 HW2 HW3 HR3 HG HGb HG3 HG6 HG6a C16 C17 q1 q2
    have d0 := HG6b.out.cell 0
    have d1 := HG6b.out.cell 1
    simp only [List.getElem?_toArray, List.getElem?_cons_zero, List.getElem?_cons_succ] at d0 d1
    go_upto_region 12 with fail
    clear d0 d1 h26 hpn
    go_loopw [11] (fun iv wr => ∃ i : Nat, (i : Int) ≤ n ∧ iv = .int .i64 i ∧ Hid (LI w wr g g8 St xe ye L)) (fun iv _ => n - (intOf iv).toNat)
    case atStart => exact ⟨0, by omega, rfl, HLI0⟩
    case round =>
      obtain ⟨i, hi, rfl, HLI⟩ := hrel
      obtain ⟨us, A2, c2, A9, c9, hrd, hwp, hus, hul⟩ := HLI.out
      have HRD := Lib.hid hrd
      have HWP := Lib.hid hwp
      have HUS := Lib.hid hus
      have HUL := Lib.hid hul
      clear hrd hwp hus hul HLI
      by_cases hlt : (i : Int) < n
      · have hi1 : i < xs.length := by rw [HP.out.len]; omega
        obtain ⟨ga, go, rfl, hkey⟩ := HP.out.at (by omega) HWP.out.bl
        obtain ⟨l0, l1⟩ := ac_get xs i hi1
        have f0 := hkey _ _ l0
        have f1 := hkey _ _ l1
        rw [← Nat.add_assoc] at f1
        obtain ⟨hk0, hk1⟩ := HP.out.b _ (List.getElem_mem hi1)
        generalize (xs[i]).k = kx at *
        generalize (xs[i]).t = sx at *
        have HF : Hid (∀ W : World, Below w.heap.size w W → W.cell? ⟨ga, go + i * 2 + 1, none⟩ = some (.string sx)) := Lib.hid (fun W hb => by
          have h9 := HWP.out.bl
          have h1 : ga < w.heap.size := by
            have := (HP.out.at (by omega) (Below.refl _ w)).choose_spec.choose_spec
            obtain ⟨e1, e2⟩ := this
            have e3 := e2 _ _ l1
            have := World.block_lt_of_cell? _ _ e3
            injection e1 with e1
            injection e1 with e1
            rw [e1]
            exact this
          have e4 : W.cell? ⟨ga, go + i * 2 + 1, none⟩ = wr.cell? ⟨ga, go + i * 2 + 1, none⟩ := by
            rw [hb.cell (p := ⟨ga, go + i * 2 + 1, none⟩) h1, h9.cell (p := ⟨ga, go + i * 2 + 1, none⟩) h1]
          rw [e4]; exact f1)
        clear l0 l1 hkey hi1
        by_cases hbx : (50 : Int) < sx.size
        · have qx : decide ((50 : Int) < (sx.size : Int)) = true := by simpa using hbx
          have k4 := HWP.out.b4
          have K4 := Lib.hid k4
          have f4 := k4.frozen 0
          have BW := Lib.hid HWP.out.bl
          have C9 := Lib.hid (known_any wr)
          clear k4 hbx f0
          go_wp2_with (go_at_call 8; (with_reducible refine C9.out.mono ?_); rintro e w9 ⟨rfl, b9⟩; have k9 := K4.out.below b9 K4.out.lt; have e9 := k9.cell 0; have f9 := k9.frozen 0; simp at e9; have K9 := Lib.hid k9; have B9 := Lib.hid (BW.out.trans (b9.mono BW.out.size)); skip; clear b9 k9)
          refine HEND.out _ _ _ [] (by rfl) ⟨List.nodup_nil, fun D hD => by cases hD⟩ ?_ ?_
          · exact Below.setCell B9.out (by simp) _
          · have := K9.out.set_ 0 (.bool true)
            simpa using this
        · have qx : decide ((50 : Int) < (sx.size : Int)) = false := by simpa using hbx
          obtain ⟨kd, hkd⟩ : ∃ kd : Int, kx % 5 = kd := ⟨_, rfl⟩
          have hkd0 : 0 ≤ kd := by omega
          have hkd1 : kd < 5 := by omega
          clear hbx
          go_upto_region 19 with fail
          obtain ⟨W1, hW1⟩ : ∃ W1, wr.alloc (.cells #[.int .i64 0, .string ⟨#[]⟩, .int .i64 0, .int .i64 0] 56) = W1 := ⟨_, rfl⟩
          have hb1 : Below wr.heap.size wr W1 := hW1 ▸ (Below.refl _ wr).alloc (Nat.le_refl _) _
          obtain ⟨gn, hgn⟩ : ∃ gn, wr.heap.size = gn := ⟨_, rfl⟩
          have HGN : Hid (Blk W1 gn 56 #[.int .i64 0, .string ⟨#[]⟩, .int .i64 0, .int .i64 0]) := Lib.hid (hgn ▸ hW1 ▸ Blk.new wr 56 _)
          have HRD1 := Lib.hid (HRD.out.below hb1)
          have HWP1 := Lib.hid (HWP.out.below hb1)
          have HLTn : Hid (g < gn ∧ g8 < gn ∧ w.heap.size + 1 < gn ∧ (∀ a, A9 = some a → 0 < us.length → a.block < gn)) := Lib.hid (by
            rw [← hgn]
            refine ⟨HRD.out.b.lt, HWP.out.w8.lt, HWP.out.b4.lt, fun a ha h0 => ?_⟩
            cases us with
            | nil => simp at h0
            | cons t us =>
              obtain ⟨q, o, e, e1, -⟩ := HWP.out.ts.head4
              rw [ha] at e
              injection e with e
              have := World.block_lt_of_cell? _ _ e1
              rw [e]
              exact this)
          have HB1g := Lib.hid hb1
          have HGNE := Lib.hid hgn
          rw [hW1, hgn, hkd]
          clear hW1 hgn hb1 f0 f1 qx hk0 hk1 hkd
          have w8 := HWP1.out.w8.cell 0
          simp only [List.getElem?_toArray, List.getElem?_cons_zero, List.getElem?_cons_succ] at w8
          obtain ⟨m, hm⟩ : ∃ m, us.length = m := ⟨_, rfl⟩
          have HM := Lib.hid hm
          have hm5 : (m : Int) ≤ 500 := by have := HUL.out; omega
          rw [hm] at w8
          clear hm
          go_upto_if 96 with fail
          go_cut [13] from 73 to 269 (fun a13 wx => a13 = .int .i64 (wantE kd us sx) ∧ Hid (Blk wx gn 56 (nextC us)) ∧ Hid (Only (fun q => q = gn) W1 wx))
          case first =>
            as_aux_lemma =>
              by_cases hm0 : m = 0
              · have hu : us = [] := List.eq_nil_of_length_eq_zero (by rw [HM.out]; exact hm0)
                have q9 : ((m : Int) == 0) = true := by simp; omega
                subst hu
                clear hm0 w8
                go_wp2_with fail
                go_meet
                case rel => exact ⟨rfl, HGN, Lib.hid (Only.refl _ _)⟩
              · obtain ⟨t, us', hu⟩ : ∃ t us', us = t :: us' := by
                  cases us with
                  | nil => have := HM.out; simp at this; omega
                  | cons t us' => exact ⟨t, us', rfl⟩
                subst hu
                obtain ⟨gq, oq, rfl, e0, e1, e2, e3⟩ := HWP1.out.ts.head4
                have q9 : ((m : Int) == 0) = false := by simp; omega
                have hmp : (0 : Int) < m := by omega
                obtain ⟨k, hk⟩ : ∃ k : Int, (t.k : Int) = k := ⟨_, rfl⟩
                obtain ⟨St1, hS1⟩ : ∃ S, (⟨t.t.toArray⟩ : ByteArray) = S := ⟨_, rfl⟩
                obtain ⟨vv, hv⟩ : ∃ v, t.v = v := ⟨_, rfl⟩
                obtain ⟨aa, ha⟩ : ∃ a : Int, (t.a : Int) = a := ⟨_, rfl⟩
                rw [hk] at e0
                rw [hS1] at e1
                rw [hv] at e2
                rw [ha] at e3
                have HT := Lib.hid (And.intro hk (And.intro hS1 (And.intro hv ha)))
                obtain ⟨W2, hW2⟩ : ∃ W2, ((((W1.setCell ⟨gn, 0, none⟩ (.int .i64 k)).setCell ⟨gn, 1, none⟩ (.string St1)).setCell ⟨gn, 2, none⟩ (.int .i64 vv)).setCell ⟨gn, 3, none⟩ (.int .i64 aa)) = W2 := ⟨_, rfl⟩
                have HW2 := Lib.hid hW2
                have HG2 : Hid (Blk W2 gn 56 #[.int .i64 k, .string St1, .int .i64 vv, .int .i64 aa]) := Lib.hid (by
                  rw [← hW2]
                  have := (((HGN.out.set_ 0 (.int .i64 k)).set_ 1 (.string St1)).set_ 2 (.int .i64 vv)).set_ 3 (.int .i64 aa)
                  simpa using this)
                have HO2 : Hid (Only (fun q => q = gn) W1 W2) := Lib.hid (by
                  rw [← hW2]
                  exact Only.set (p := fun q => q = gn) (Only.set (p := fun q => q = gn) (Only.set (p := fun q => q = gn) (Only.set (p := fun q => q = gn) (Only.refl _ _) (fun _ => rfl) 0 _) (fun _ => rfl) 1 _) (fun _ => rfl) 2 _) (fun _ => rfl) 3 _)
                have HBw2 : Hid (Below w.heap.size w W2) := Lib.hid (HWP1.out.bl.trans (HO2.out.to_below HWP1.out.bl.size (fun b hb e => by have := HLTn.out; omega)))
                have HNX : Hid (nextC (t :: us') = #[.int .i64 k, .string St1, .int .i64 vv, .int .i64 aa]) := Lib.hid (by unfold nextC; rw [← hk, ← hS1, ← hv, ← ha])
                obtain ⟨b1, hb1⟩ : ∃ b, (kd == 1) = b := ⟨_, rfl⟩
                obtain ⟨b2, hb2⟩ : ∃ b, (kd == 2) = b := ⟨_, rfl⟩
                obtain ⟨b3, hb3⟩ : ∃ b, (kd == 3) = b := ⟨_, rfl⟩
                obtain ⟨te, hte⟩ : ∃ b, (St1.toList == sx.toList) = b := ⟨_, rfl⟩
                obtain ⟨n1, hn1⟩ : ∃ b, (k != 1) = b := ⟨_, rfl⟩
                obtain ⟨n4, hn4⟩ : ∃ b, (k != 4) = b := ⟨_, rfl⟩
                obtain ⟨n2, hn2⟩ : ∃ b, (k != 2) = b := ⟨_, rfl⟩
                obtain ⟨r0, hr0⟩ : ∃ b, ((!te) || (n1 && n4)) = b := ⟨_, rfl⟩
                obtain ⟨r1, hr1⟩ : ∃ b, (b1 && r0) = b := ⟨_, rfl⟩
                obtain ⟨r2, hr2⟩ : ∃ b, (r1 || (b2 && n1)) = b := ⟨_, rfl⟩
                obtain ⟨r3, hr3⟩ : ∃ b, (r2 || (b3 && n2)) = b := ⟨_, rfl⟩
                have HWN : Hid (wantE kd (t :: us') sx = if r3 = true then 6 else 0) := Lib.hid (by
                  have e : wrongB kd k St1 sx = r3 := by
                    rw [← hr3, ← hr2, ← hr1, ← hr0, ← hb1, ← hb2, ← hb3, ← hte, ← hn1, ← hn4, ← hn2]
                    unfold wrongB takeB
                    simp only [bne]
                    generalize (kd == 1) = a1
                    generalize (kd == 2) = a2
                    generalize (kd == 3) = a3
                    generalize (k == 1) = a4
                    generalize (k == 4) = a5
                    generalize (k == 2) = a6
                    generalize (St1.toList == sx.toList) = a7
                    revert a1 a2 a3 a4 a5 a6 a7
                    decide
                  show (if wrongB kd (t.k : Int) ⟨t.t.toArray⟩ sx = true then (6 : Int) else 0) = _
                  rw [hk, hS1, e])
                have HR0 := Lib.hid hr0
                have HR1 := Lib.hid hr1
                have HR2 := Lib.hid hr2
                have HR3 := Lib.hid hr3
                clear hr0 hr1 hr2 hr3
                have z0 := HGN.out.frozen 0
                have z1 := HGN.out.frozen 1
                have z2 := HGN.out.frozen 2
                have z3 := HGN.out.frozen 3
                have y0 := HGN.out.cell 0
                have y1 := HGN.out.cell 1
                have y2 := HGN.out.cell 2
                have y3 := HGN.out.cell 3
                simp only [List.getElem?_toArray, List.getElem?_cons_zero, List.getElem?_cons_succ] at y0 y1 y2 y3
                clear hk hS1 hv ha hW2 hm0
                go_upto_region 22 with fail
                rw [HW2.out]
                clear y0 y1 y2 y3 z0 z1 z2 z3 e0 e1 e2 e3 w8 q9 hmp hm5 hkd0 hkd1 hn60
                refine wp_region_noPanic ?_
                refine wp_region_G (S0 := (fun W : World => Blk W gn 56 #[.int .i64 k, .string St1, .int .i64 vv, .int .i64 aa] ∧ Below w.heap.size w W)) (S1 := (fun W : World => Blk W gn 56 #[.int .i64 k, .string St1, .int .i64 vv, .int .i64 aa] ∧ Below w.heap.size w W)) (c := 99) (by kernel_rfl) ?_
                have hHeld := (show Blk W2.drew gn 56 #[.int .i64 k, .string St1, .int .i64 vv, .int .i64 aa] ∧ Below w.heap.size w W2.drew from ⟨Blk.drew1 HG2.out, below_drew HBw2.out⟩)
                have h01 := (fun (W : World) (h : (fun W : World => Blk W gn 56 #[.int .i64 k, .string St1, .int .i64 vv, .int .i64 aa] ∧ Below w.heap.size w W) W) => h)
                refine wpG_takeB (i := 0) (oi := ⟨some 100, _, _, _, _, _⟩) (v := .int .i64 kd) rfl (by kernel_rfl) (by kernel_rfl) (by kernel_rfl) (by decide) (fun _ _ _ h => h) h01 rfl hHeld ?_ ?_
                · exact Or.inl ⟨by rfl, by (intro W9 hSw; have b0 := hSw.1.cell 0; have b7 := hSw.1.cell 1; simp only [List.getElem?_toArray, List.getElem?_cons_zero, List.getElem?_cons_succ] at b0 b7; have b9 := HF.out _ hSw.2; go_simp; (try (first | with_reducible rfl | rfl | (simp; done))))⟩
                try simp only [Act.put, List.setIfInBounds_toArray, List.set_cons_zero, List.set_cons_succ]
                refine wpG_takeB (i := 1) (oi := ⟨some 101, _, _, _, _, _⟩) (v := .bool b1) rfl (by kernel_rfl) (by kernel_rfl) (by kernel_rfl) (by decide) (fun _ _ _ h => h) h01 rfl hHeld ?_ ?_
                · exact Or.inl ⟨by rfl, by (intro W9 hSw; have b0 := hSw.1.cell 0; have b7 := hSw.1.cell 1; simp only [List.getElem?_toArray, List.getElem?_cons_zero, List.getElem?_cons_succ] at b0 b7; have b9 := HF.out _ hSw.2; go_simp; (try (first | with_reducible rfl | rfl | (simp; done))))⟩
                try simp only [Act.put, List.setIfInBounds_toArray, List.set_cons_zero, List.set_cons_succ]
                refine wpG_takeB (i := 2) (oi := ⟨some 102, _, _, _, _, _⟩) (v := .bool b1) rfl (by kernel_rfl) (by kernel_rfl) (by kernel_rfl) (by decide) (fun _ _ _ h => h) h01 rfl hHeld ?_ ?_
                · exact Or.inl ⟨by rfl, by (intro W9 hSw; have b0 := hSw.1.cell 0; have b7 := hSw.1.cell 1; simp only [List.getElem?_toArray, List.getElem?_cons_zero, List.getElem?_cons_succ] at b0 b7; have b9 := HF.out _ hSw.2; go_simp; (try (first | with_reducible rfl | rfl | (simp; done))))⟩
                try simp only [Act.put, List.setIfInBounds_toArray, List.set_cons_zero, List.set_cons_succ]
                refine wpG_takeB (i := 3) (oi := ⟨some 103, _, _, _, _, _⟩) (v := (bif b1 then .pointer (some ⟨gn, 1, none⟩) else undef)) rfl (by kernel_rfl) (by kernel_rfl) (by kernel_rfl) (by decide) (fun _ _ _ h => h) h01 rfl hHeld ?_ ?_
                · ((cases b1) <;> first | exact Or.inl ⟨by rfl, by (intro W9 hSw; have b0 := hSw.1.cell 0; have b7 := hSw.1.cell 1; simp only [List.getElem?_toArray, List.getElem?_cons_zero, List.getElem?_cons_succ] at b0 b7; have b9 := HF.out _ hSw.2; go_simp; (try (first | with_reducible rfl | rfl | (simp; done))))⟩ | exact Or.inr ⟨by rfl, by rfl⟩)
                try simp only [Act.put, List.setIfInBounds_toArray, List.set_cons_zero, List.set_cons_succ]
                refine wpG_takeB (i := 4) (oi := ⟨some 104, _, _, _, _, _⟩) (v := (bif b1 then .string St1 else undef)) rfl (by kernel_rfl) (by kernel_rfl) (by kernel_rfl) (by decide) (fun _ _ _ h => h) h01 rfl hHeld ?_ ?_
                · ((cases b1) <;> first | exact Or.inl ⟨by rfl, by (intro W9 hSw; have b0 := hSw.1.cell 0; have b7 := hSw.1.cell 1; simp only [List.getElem?_toArray, List.getElem?_cons_zero, List.getElem?_cons_succ] at b0 b7; have b9 := HF.out _ hSw.2; go_simp; (try (first | with_reducible rfl | rfl | (simp; done))))⟩ | exact Or.inr ⟨by rfl, by rfl⟩)
                try simp only [Act.put, List.setIfInBounds_toArray, List.set_cons_zero, List.set_cons_succ]
                refine wpG_takeB (i := 5) (oi := ⟨some 105, _, _, _, _, _⟩) (v := (bif b1 then .slice (some ⟨ga, go, none⟩) n c else undef)) rfl (by kernel_rfl) (by kernel_rfl) (by kernel_rfl) (by decide) (fun _ _ _ h => h) h01 rfl hHeld ?_ ?_
                · ((cases b1) <;> first | exact Or.inl ⟨by rfl, by (intro W9 hSw; have b0 := hSw.1.cell 0; have b7 := hSw.1.cell 1; simp only [List.getElem?_toArray, List.getElem?_cons_zero, List.getElem?_cons_succ] at b0 b7; have b9 := HF.out _ hSw.2; go_simp; (try (first | with_reducible rfl | rfl | (simp; done))))⟩ | exact Or.inr ⟨by rfl, by rfl⟩)
                try simp only [Act.put, List.setIfInBounds_toArray, List.set_cons_zero, List.set_cons_succ]
                refine wpG_takeB (i := 6) (oi := ⟨some 106, _, _, _, _, _⟩) (v := (bif b1 then .int .i64 (i : Int) else undef)) rfl (by kernel_rfl) (by kernel_rfl) (by kernel_rfl) (by decide) (fun _ _ _ h => h) h01 rfl hHeld ?_ ?_
                · ((cases b1) <;> first | exact Or.inl ⟨by rfl, by (intro W9 hSw; have b0 := hSw.1.cell 0; have b7 := hSw.1.cell 1; simp only [List.getElem?_toArray, List.getElem?_cons_zero, List.getElem?_cons_succ] at b0 b7; have b9 := HF.out _ hSw.2; go_simp; (try (first | with_reducible rfl | rfl | (simp; done))))⟩ | exact Or.inr ⟨by rfl, by rfl⟩)
                try simp only [Act.put, List.setIfInBounds_toArray, List.set_cons_zero, List.set_cons_succ]
                refine wpG_takeB (i := 7) (oi := ⟨some 107, _, _, _, _, _⟩) (v := (bif b1 then .pointer (some ⟨ga, go + i * 2, none⟩) else undef)) rfl (by kernel_rfl) (by kernel_rfl) (by kernel_rfl) (by decide) (fun _ _ _ h => h) h01 rfl hHeld ?_ ?_
                · ((cases b1) <;> first | exact Or.inl ⟨by rfl, by (intro W9 hSw; have b0 := hSw.1.cell 0; have b7 := hSw.1.cell 1; simp only [List.getElem?_toArray, List.getElem?_cons_zero, List.getElem?_cons_succ] at b0 b7; have b9 := HF.out _ hSw.2; go_simp; (try (first | with_reducible rfl | rfl | (simp; done))))⟩ | exact Or.inr ⟨by rfl, by rfl⟩)
                try simp only [Act.put, List.setIfInBounds_toArray, List.set_cons_zero, List.set_cons_succ]
                refine wpG_takeB (i := 8) (oi := ⟨some 108, _, _, _, _, _⟩) (v := (bif b1 then .pointer (some ⟨ga, go + i * 2 + 1, none⟩) else undef)) rfl (by kernel_rfl) (by kernel_rfl) (by kernel_rfl) (by decide) (fun _ _ _ h => h) h01 rfl hHeld ?_ ?_
                · ((cases b1) <;> first | exact Or.inl ⟨by rfl, by (intro W9 hSw; have b0 := hSw.1.cell 0; have b7 := hSw.1.cell 1; simp only [List.getElem?_toArray, List.getElem?_cons_zero, List.getElem?_cons_succ] at b0 b7; have b9 := HF.out _ hSw.2; go_simp; (try (first | with_reducible rfl | rfl | (simp; done))))⟩ | exact Or.inr ⟨by rfl, by rfl⟩)
                try simp only [Act.put, List.setIfInBounds_toArray, List.set_cons_zero, List.set_cons_succ]
                refine wpG_takeB (i := 9) (oi := ⟨some 109, _, _, _, _, _⟩) (v := (bif b1 then .string sx else undef)) rfl (by kernel_rfl) (by kernel_rfl) (by kernel_rfl) (by decide) (fun _ _ _ h => h) h01 rfl hHeld ?_ ?_
                · ((cases b1) <;> first | exact Or.inl ⟨by rfl, by (intro W9 hSw; have b0 := hSw.1.cell 0; have b7 := hSw.1.cell 1; simp only [List.getElem?_toArray, List.getElem?_cons_zero, List.getElem?_cons_succ] at b0 b7; have b9 := HF.out _ hSw.2; go_simp; (try (first | with_reducible rfl | rfl | (simp; done))))⟩ | exact Or.inr ⟨by rfl, by rfl⟩)
                try simp only [Act.put, List.setIfInBounds_toArray, List.set_cons_zero, List.set_cons_succ]
                refine wpG_takeB (i := 10) (oi := ⟨some 110, _, _, _, _, _⟩) (v := (bif b1 then .bool (!te) else undef)) rfl (by kernel_rfl) (by kernel_rfl) (by kernel_rfl) (by decide) (fun _ _ _ h => h) h01 rfl hHeld ?_ ?_
                · ((cases b1) <;> first | exact Or.inl ⟨by rfl, by (intro W9 hSw; have b0 := hSw.1.cell 0; have b7 := hSw.1.cell 1; simp only [List.getElem?_toArray, List.getElem?_cons_zero, List.getElem?_cons_succ] at b0 b7; have b9 := HF.out _ hSw.2; go_simp; (try (first | with_reducible rfl | rfl | (simp; done))))⟩ | exact Or.inr ⟨by rfl, by rfl⟩)
                try simp only [Act.put, List.setIfInBounds_toArray, List.set_cons_zero, List.set_cons_succ]
                refine wpG_takeB (i := 11) (oi := ⟨some 111, _, _, _, _, _⟩) (v := (bif b1 then .bool (!te) else undef)) rfl (by kernel_rfl) (by kernel_rfl) (by kernel_rfl) (by decide) (fun _ _ _ h => h) h01 rfl hHeld ?_ ?_
                · ((cases b1) <;> first | exact Or.inl ⟨by rfl, by (intro W9 hSw; have b0 := hSw.1.cell 0; have b7 := hSw.1.cell 1; simp only [List.getElem?_toArray, List.getElem?_cons_zero, List.getElem?_cons_succ] at b0 b7; have b9 := HF.out _ hSw.2; go_simp; (try (first | with_reducible rfl | rfl | (simp; done))))⟩ | exact Or.inr ⟨by rfl, by rfl⟩)
                try simp only [Act.put, List.setIfInBounds_toArray, List.set_cons_zero, List.set_cons_succ]
                refine wpG_takeB (i := 12) (oi := ⟨some 112, _, _, _, _, _⟩) (v := (bif (b1 && te) then .pointer (some ⟨gn, 0, none⟩) else undef)) rfl (by kernel_rfl) (by kernel_rfl) (by kernel_rfl) (by decide) (fun _ _ _ h => h) h01 rfl hHeld ?_ ?_
                · ((cases b1 <;> cases te) <;> first | exact Or.inl ⟨by rfl, by (intro W9 hSw; have b0 := hSw.1.cell 0; have b7 := hSw.1.cell 1; simp only [List.getElem?_toArray, List.getElem?_cons_zero, List.getElem?_cons_succ] at b0 b7; have b9 := HF.out _ hSw.2; go_simp; (try (first | with_reducible rfl | rfl | (simp; done))))⟩ | exact Or.inr ⟨by rfl, by rfl⟩)
                try simp only [Act.put, List.setIfInBounds_toArray, List.set_cons_zero, List.set_cons_succ]
                refine wpG_takeB (i := 13) (oi := ⟨some 113, _, _, _, _, _⟩) (v := (bif (b1 && te) then .int .i64 k else undef)) rfl (by kernel_rfl) (by kernel_rfl) (by kernel_rfl) (by decide) (fun _ _ _ h => h) h01 rfl hHeld ?_ ?_
                · ((cases b1 <;> cases te) <;> first | exact Or.inl ⟨by rfl, by (intro W9 hSw; have b0 := hSw.1.cell 0; have b7 := hSw.1.cell 1; simp only [List.getElem?_toArray, List.getElem?_cons_zero, List.getElem?_cons_succ] at b0 b7; have b9 := HF.out _ hSw.2; go_simp; (try (first | with_reducible rfl | rfl | (simp; done))))⟩ | exact Or.inr ⟨by rfl, by rfl⟩)
                try simp only [Act.put, List.setIfInBounds_toArray, List.set_cons_zero, List.set_cons_succ]
                refine wpG_takeB (i := 14) (oi := ⟨some 114, _, _, _, _, _⟩) (v := (bif (b1 && te) then .bool n1 else undef)) rfl (by kernel_rfl) (by kernel_rfl) (by kernel_rfl) (by decide) (fun _ _ _ h => h) h01 rfl hHeld ?_ ?_
                · ((cases b1 <;> cases te) <;> first | exact Or.inl ⟨by rfl, by (intro W9 hSw; have b0 := hSw.1.cell 0; have b7 := hSw.1.cell 1; simp only [List.getElem?_toArray, List.getElem?_cons_zero, List.getElem?_cons_succ] at b0 b7; have b9 := HF.out _ hSw.2; go_simp; (try (first | with_reducible rfl | rfl | (simp; done))))⟩ | exact Or.inr ⟨by rfl, by rfl⟩)
                try simp only [Act.put, List.setIfInBounds_toArray, List.set_cons_zero, List.set_cons_succ]
                refine wpG_takeB (i := 15) (oi := ⟨some 115, _, _, _, _, _⟩) (v := (bif (b1 && te) then .bool n1 else undef)) rfl (by kernel_rfl) (by kernel_rfl) (by kernel_rfl) (by decide) (fun _ _ _ h => h) h01 rfl hHeld ?_ ?_
                · ((cases b1 <;> cases te) <;> first | exact Or.inl ⟨by rfl, by (intro W9 hSw; have b0 := hSw.1.cell 0; have b7 := hSw.1.cell 1; simp only [List.getElem?_toArray, List.getElem?_cons_zero, List.getElem?_cons_succ] at b0 b7; have b9 := HF.out _ hSw.2; go_simp; (try (first | with_reducible rfl | rfl | (simp; done))))⟩ | exact Or.inr ⟨by rfl, by rfl⟩)
                try simp only [Act.put, List.setIfInBounds_toArray, List.set_cons_zero, List.set_cons_succ]
                refine wpG_takeB (i := 16) (oi := ⟨some 116, _, _, _, _, _⟩) (v := (bif (b1 && te && n1) then .pointer (some ⟨gn, 0, none⟩) else undef)) rfl (by kernel_rfl) (by kernel_rfl) (by kernel_rfl) (by decide) (fun _ _ _ h => h) h01 rfl hHeld ?_ ?_
                · ((cases b1 <;> cases te <;> cases n1) <;> first | exact Or.inl ⟨by rfl, by (intro W9 hSw; have b0 := hSw.1.cell 0; have b7 := hSw.1.cell 1; simp only [List.getElem?_toArray, List.getElem?_cons_zero, List.getElem?_cons_succ] at b0 b7; have b9 := HF.out _ hSw.2; go_simp; (try (first | with_reducible rfl | rfl | (simp; done))))⟩ | exact Or.inr ⟨by rfl, by rfl⟩)
                try simp only [Act.put, List.setIfInBounds_toArray, List.set_cons_zero, List.set_cons_succ]
                refine wpG_takeB (i := 17) (oi := ⟨some 117, _, _, _, _, _⟩) (v := (bif (b1 && te && n1) then .int .i64 k else undef)) rfl (by kernel_rfl) (by kernel_rfl) (by kernel_rfl) (by decide) (fun _ _ _ h => h) h01 rfl hHeld ?_ ?_
                · ((cases b1 <;> cases te <;> cases n1) <;> first | exact Or.inl ⟨by rfl, by (intro W9 hSw; have b0 := hSw.1.cell 0; have b7 := hSw.1.cell 1; simp only [List.getElem?_toArray, List.getElem?_cons_zero, List.getElem?_cons_succ] at b0 b7; have b9 := HF.out _ hSw.2; go_simp; (try (first | with_reducible rfl | rfl | (simp; done))))⟩ | exact Or.inr ⟨by rfl, by rfl⟩)
                try simp only [Act.put, List.setIfInBounds_toArray, List.set_cons_zero, List.set_cons_succ]
                refine wpG_takeB (i := 18) (oi := ⟨some 118, _, _, _, _, _⟩) (v := (bif (b1 && te && n1) then .bool n4 else undef)) rfl (by kernel_rfl) (by kernel_rfl) (by kernel_rfl) (by decide) (fun _ _ _ h => h) h01 rfl hHeld ?_ ?_
                · ((cases b1 <;> cases te <;> cases n1) <;> first | exact Or.inl ⟨by rfl, by (intro W9 hSw; have b0 := hSw.1.cell 0; have b7 := hSw.1.cell 1; simp only [List.getElem?_toArray, List.getElem?_cons_zero, List.getElem?_cons_succ] at b0 b7; have b9 := HF.out _ hSw.2; go_simp; (try (first | with_reducible rfl | rfl | (simp; done))))⟩ | exact Or.inr ⟨by rfl, by rfl⟩)
                try simp only [Act.put, List.setIfInBounds_toArray, List.set_cons_zero, List.set_cons_succ]
                refine wpG_takeB (i := 19) (oi := ⟨some 119, _, _, _, _, _⟩) (v := (bif (b1 && te) then .bool (n1 && n4) else undef)) rfl (by kernel_rfl) (by kernel_rfl) (by kernel_rfl) (by decide) (fun _ _ _ h => h) h01 rfl hHeld ?_ ?_
                · ((cases b1 <;> cases te <;> cases n1) <;> first | exact Or.inl ⟨by rfl, by (intro W9 hSw; have b0 := hSw.1.cell 0; have b7 := hSw.1.cell 1; simp only [List.getElem?_toArray, List.getElem?_cons_zero, List.getElem?_cons_succ] at b0 b7; have b9 := HF.out _ hSw.2; go_simp; (try (first | with_reducible rfl | rfl | (simp; done))))⟩ | exact Or.inr ⟨by rfl, by rfl⟩)
                try simp only [Act.put, List.setIfInBounds_toArray, List.set_cons_zero, List.set_cons_succ]
                refine wpG_takeB (i := 20) (oi := ⟨some 120, _, _, _, _, _⟩) (v := (bif b1 then .bool r0 else undef)) rfl (by kernel_rfl) (by kernel_rfl) (by kernel_rfl) (by decide) (fun _ _ _ h => h) h01 rfl hHeld ?_ ?_
                · (have hr0 := HR0.out; (cases b1 <;> cases te <;> cases n1) <;> first | exact Or.inl ⟨by rfl, by (intro W9 hSw; have b0 := hSw.1.cell 0; have b7 := hSw.1.cell 1; simp only [List.getElem?_toArray, List.getElem?_cons_zero, List.getElem?_cons_succ] at b0 b7; have b9 := HF.out _ hSw.2; go_simp; (try (first | with_reducible rfl | rfl | (rw [← hr0]; rfl) | (simp; done))))⟩ | exact Or.inr ⟨by rfl, by rfl⟩)
                try simp only [Act.put, List.setIfInBounds_toArray, List.set_cons_zero, List.set_cons_succ]
                refine wpG_takeB (i := 21) (oi := ⟨some 121, _, _, _, _, _⟩) (v := .bool r1) rfl (by kernel_rfl) (by kernel_rfl) (by kernel_rfl) (by decide) (fun _ _ _ h => h) h01 rfl hHeld ?_ ?_
                · (have hr1 := HR1.out; (cases b1) <;> first | exact Or.inl ⟨by rfl, by (intro W9 hSw; have b0 := hSw.1.cell 0; have b7 := hSw.1.cell 1; simp only [List.getElem?_toArray, List.getElem?_cons_zero, List.getElem?_cons_succ] at b0 b7; have b9 := HF.out _ hSw.2; go_simp; (try (first | with_reducible rfl | rfl | (rw [← hr1]; rfl) | (simp; done))))⟩ | exact Or.inr ⟨by rfl, by rfl⟩)
                try simp only [Act.put, List.setIfInBounds_toArray, List.set_cons_zero, List.set_cons_succ]
                refine wpG_takeB (i := 22) (oi := ⟨some 122, _, _, _, _, _⟩) (v := .bool r1) rfl (by kernel_rfl) (by kernel_rfl) (by kernel_rfl) (by decide) (fun _ _ _ h => h) h01 rfl hHeld ?_ ?_
                · exact Or.inl ⟨by rfl, by (intro W9 hSw; have b0 := hSw.1.cell 0; have b7 := hSw.1.cell 1; simp only [List.getElem?_toArray, List.getElem?_cons_zero, List.getElem?_cons_succ] at b0 b7; have b9 := HF.out _ hSw.2; go_simp; (try (first | with_reducible rfl | rfl | (simp; done))))⟩
                try simp only [Act.put, List.setIfInBounds_toArray, List.set_cons_zero, List.set_cons_succ]
                refine wpG_takeB (i := 23) (oi := ⟨some 123, _, _, _, _, _⟩) (v := (bif (!r1) then .int .i64 kd else undef)) rfl (by kernel_rfl) (by kernel_rfl) (by kernel_rfl) (by decide) (fun _ _ _ h => h) h01 rfl hHeld ?_ ?_
                · ((cases r1) <;> first | exact Or.inl ⟨by rfl, by (intro W9 hSw; have b0 := hSw.1.cell 0; have b7 := hSw.1.cell 1; simp only [List.getElem?_toArray, List.getElem?_cons_zero, List.getElem?_cons_succ] at b0 b7; have b9 := HF.out _ hSw.2; go_simp; (try (first | with_reducible rfl | rfl | (simp; done))))⟩ | exact Or.inr ⟨by rfl, by rfl⟩)
                try simp only [Act.put, List.setIfInBounds_toArray, List.set_cons_zero, List.set_cons_succ]
                refine wpG_takeB (i := 24) (oi := ⟨some 124, _, _, _, _, _⟩) (v := (bif (!r1) then .bool b2 else undef)) rfl (by kernel_rfl) (by kernel_rfl) (by kernel_rfl) (by decide) (fun _ _ _ h => h) h01 rfl hHeld ?_ ?_
                · ((cases r1) <;> first | exact Or.inl ⟨by rfl, by (intro W9 hSw; have b0 := hSw.1.cell 0; have b7 := hSw.1.cell 1; simp only [List.getElem?_toArray, List.getElem?_cons_zero, List.getElem?_cons_succ] at b0 b7; have b9 := HF.out _ hSw.2; go_simp; (try (first | with_reducible rfl | rfl | (simp; done))))⟩ | exact Or.inr ⟨by rfl, by rfl⟩)
                try simp only [Act.put, List.setIfInBounds_toArray, List.set_cons_zero, List.set_cons_succ]
                refine wpG_takeB (i := 25) (oi := ⟨some 125, _, _, _, _, _⟩) (v := (bif (!r1) then .bool b2 else undef)) rfl (by kernel_rfl) (by kernel_rfl) (by kernel_rfl) (by decide) (fun _ _ _ h => h) h01 rfl hHeld ?_ ?_
                · ((cases r1) <;> first | exact Or.inl ⟨by rfl, by (intro W9 hSw; have b0 := hSw.1.cell 0; have b7 := hSw.1.cell 1; simp only [List.getElem?_toArray, List.getElem?_cons_zero, List.getElem?_cons_succ] at b0 b7; have b9 := HF.out _ hSw.2; go_simp; (try (first | with_reducible rfl | rfl | (simp; done))))⟩ | exact Or.inr ⟨by rfl, by rfl⟩)
                try simp only [Act.put, List.setIfInBounds_toArray, List.set_cons_zero, List.set_cons_succ]
                refine wpG_takeB (i := 26) (oi := ⟨some 126, _, _, _, _, _⟩) (v := (bif (!r1 && b2) then .pointer (some ⟨gn, 0, none⟩) else undef)) rfl (by kernel_rfl) (by kernel_rfl) (by kernel_rfl) (by decide) (fun _ _ _ h => h) h01 rfl hHeld ?_ ?_
                · ((cases r1 <;> cases b2) <;> first | exact Or.inl ⟨by rfl, by (intro W9 hSw; have b0 := hSw.1.cell 0; have b7 := hSw.1.cell 1; simp only [List.getElem?_toArray, List.getElem?_cons_zero, List.getElem?_cons_succ] at b0 b7; have b9 := HF.out _ hSw.2; go_simp; (try (first | with_reducible rfl | rfl | (simp; done))))⟩ | exact Or.inr ⟨by rfl, by rfl⟩)
                try simp only [Act.put, List.setIfInBounds_toArray, List.set_cons_zero, List.set_cons_succ]
                refine wpG_takeB (i := 27) (oi := ⟨some 127, _, _, _, _, _⟩) (v := (bif (!r1 && b2) then .int .i64 k else undef)) rfl (by kernel_rfl) (by kernel_rfl) (by kernel_rfl) (by decide) (fun _ _ _ h => h) h01 rfl hHeld ?_ ?_
                · ((cases r1 <;> cases b2) <;> first | exact Or.inl ⟨by rfl, by (intro W9 hSw; have b0 := hSw.1.cell 0; have b7 := hSw.1.cell 1; simp only [List.getElem?_toArray, List.getElem?_cons_zero, List.getElem?_cons_succ] at b0 b7; have b9 := HF.out _ hSw.2; go_simp; (try (first | with_reducible rfl | rfl | (simp; done))))⟩ | exact Or.inr ⟨by rfl, by rfl⟩)
                try simp only [Act.put, List.setIfInBounds_toArray, List.set_cons_zero, List.set_cons_succ]
                refine wpG_takeB (i := 28) (oi := ⟨some 128, _, _, _, _, _⟩) (v := (bif (!r1 && b2) then .bool n1 else undef)) rfl (by kernel_rfl) (by kernel_rfl) (by kernel_rfl) (by decide) (fun _ _ _ h => h) h01 rfl hHeld ?_ ?_
                · ((cases r1 <;> cases b2) <;> first | exact Or.inl ⟨by rfl, by (intro W9 hSw; have b0 := hSw.1.cell 0; have b7 := hSw.1.cell 1; simp only [List.getElem?_toArray, List.getElem?_cons_zero, List.getElem?_cons_succ] at b0 b7; have b9 := HF.out _ hSw.2; go_simp; (try (first | with_reducible rfl | rfl | (simp; done))))⟩ | exact Or.inr ⟨by rfl, by rfl⟩)
                try simp only [Act.put, List.setIfInBounds_toArray, List.set_cons_zero, List.set_cons_succ]
                refine wpG_takeB (i := 29) (oi := ⟨some 129, _, _, _, _, _⟩) (v := (bif (!r1) then .bool (b2 && n1) else undef)) rfl (by kernel_rfl) (by kernel_rfl) (by kernel_rfl) (by decide) (fun _ _ _ h => h) h01 rfl hHeld ?_ ?_
                · ((cases r1 <;> cases b2) <;> first | exact Or.inl ⟨by rfl, by (intro W9 hSw; have b0 := hSw.1.cell 0; have b7 := hSw.1.cell 1; simp only [List.getElem?_toArray, List.getElem?_cons_zero, List.getElem?_cons_succ] at b0 b7; have b9 := HF.out _ hSw.2; go_simp; (try (first | with_reducible rfl | rfl | (simp; done))))⟩ | exact Or.inr ⟨by rfl, by rfl⟩)
                try simp only [Act.put, List.setIfInBounds_toArray, List.set_cons_zero, List.set_cons_succ]
                refine wpG_takeB (i := 30) (oi := ⟨some 130, _, _, _, _, _⟩) (v := .bool r2) rfl (by kernel_rfl) (by kernel_rfl) (by kernel_rfl) (by decide) (fun _ _ _ h => h) h01 rfl hHeld ?_ ?_
                · (have hr2 := HR2.out; (cases r1 <;> cases b2) <;> first | exact Or.inl ⟨by rfl, by (intro W9 hSw; have b0 := hSw.1.cell 0; have b7 := hSw.1.cell 1; simp only [List.getElem?_toArray, List.getElem?_cons_zero, List.getElem?_cons_succ] at b0 b7; have b9 := HF.out _ hSw.2; go_simp; (try (first | with_reducible rfl | rfl | (rw [← hr2]; rfl) | (simp; done))))⟩ | exact Or.inr ⟨by rfl, by rfl⟩)
                try simp only [Act.put, List.setIfInBounds_toArray, List.set_cons_zero, List.set_cons_succ]
                refine wpG_takeB (i := 31) (oi := ⟨some 131, _, _, _, _, _⟩) (v := .bool r2) rfl (by kernel_rfl) (by kernel_rfl) (by kernel_rfl) (by decide) (fun _ _ _ h => h) h01 rfl hHeld ?_ ?_
                · exact Or.inl ⟨by rfl, by (intro W9 hSw; have b0 := hSw.1.cell 0; have b7 := hSw.1.cell 1; simp only [List.getElem?_toArray, List.getElem?_cons_zero, List.getElem?_cons_succ] at b0 b7; have b9 := HF.out _ hSw.2; go_simp; (try (first | with_reducible rfl | rfl | (simp; done))))⟩
                try simp only [Act.put, List.setIfInBounds_toArray, List.set_cons_zero, List.set_cons_succ]
                refine wpG_takeB (i := 32) (oi := ⟨some 132, _, _, _, _, _⟩) (v := (bif (!r2) then .int .i64 kd else undef)) rfl (by kernel_rfl) (by kernel_rfl) (by kernel_rfl) (by decide) (fun _ _ _ h => h) h01 rfl hHeld ?_ ?_
                · ((cases r2) <;> first | exact Or.inl ⟨by rfl, by (intro W9 hSw; have b0 := hSw.1.cell 0; have b7 := hSw.1.cell 1; simp only [List.getElem?_toArray, List.getElem?_cons_zero, List.getElem?_cons_succ] at b0 b7; have b9 := HF.out _ hSw.2; go_simp; (try (first | with_reducible rfl | rfl | (simp; done))))⟩ | exact Or.inr ⟨by rfl, by rfl⟩)
                try simp only [Act.put, List.setIfInBounds_toArray, List.set_cons_zero, List.set_cons_succ]
                refine wpG_takeB (i := 33) (oi := ⟨some 133, _, _, _, _, _⟩) (v := (bif (!r2) then .bool b3 else undef)) rfl (by kernel_rfl) (by kernel_rfl) (by kernel_rfl) (by decide) (fun _ _ _ h => h) h01 rfl hHeld ?_ ?_
                · ((cases r2) <;> first | exact Or.inl ⟨by rfl, by (intro W9 hSw; have b0 := hSw.1.cell 0; have b7 := hSw.1.cell 1; simp only [List.getElem?_toArray, List.getElem?_cons_zero, List.getElem?_cons_succ] at b0 b7; have b9 := HF.out _ hSw.2; go_simp; (try (first | with_reducible rfl | rfl | (simp; done))))⟩ | exact Or.inr ⟨by rfl, by rfl⟩)
                try simp only [Act.put, List.setIfInBounds_toArray, List.set_cons_zero, List.set_cons_succ]
                refine wpG_takeB (i := 34) (oi := ⟨some 134, _, _, _, _, _⟩) (v := (bif (!r2) then .bool b3 else undef)) rfl (by kernel_rfl) (by kernel_rfl) (by kernel_rfl) (by decide) (fun _ _ _ h => h) h01 rfl hHeld ?_ ?_
                · ((cases r2) <;> first | exact Or.inl ⟨by rfl, by (intro W9 hSw; have b0 := hSw.1.cell 0; have b7 := hSw.1.cell 1; simp only [List.getElem?_toArray, List.getElem?_cons_zero, List.getElem?_cons_succ] at b0 b7; have b9 := HF.out _ hSw.2; go_simp; (try (first | with_reducible rfl | rfl | (simp; done))))⟩ | exact Or.inr ⟨by rfl, by rfl⟩)
                try simp only [Act.put, List.setIfInBounds_toArray, List.set_cons_zero, List.set_cons_succ]
                refine wpG_takeB (i := 35) (oi := ⟨some 135, _, _, _, _, _⟩) (v := (bif (!r2 && b3) then .pointer (some ⟨gn, 0, none⟩) else undef)) rfl (by kernel_rfl) (by kernel_rfl) (by kernel_rfl) (by decide) (fun _ _ _ h => h) h01 rfl hHeld ?_ ?_
                · ((cases r2 <;> cases b3) <;> first | exact Or.inl ⟨by rfl, by (intro W9 hSw; have b0 := hSw.1.cell 0; have b7 := hSw.1.cell 1; simp only [List.getElem?_toArray, List.getElem?_cons_zero, List.getElem?_cons_succ] at b0 b7; have b9 := HF.out _ hSw.2; go_simp; (try (first | with_reducible rfl | rfl | (simp; done))))⟩ | exact Or.inr ⟨by rfl, by rfl⟩)
                try simp only [Act.put, List.setIfInBounds_toArray, List.set_cons_zero, List.set_cons_succ]
                refine wpG_takeB (i := 36) (oi := ⟨some 136, _, _, _, _, _⟩) (v := (bif (!r2 && b3) then .int .i64 k else undef)) rfl (by kernel_rfl) (by kernel_rfl) (by kernel_rfl) (by decide) (fun _ _ _ h => h) h01 rfl hHeld ?_ ?_
                · ((cases r2 <;> cases b3) <;> first | exact Or.inl ⟨by rfl, by (intro W9 hSw; have b0 := hSw.1.cell 0; have b7 := hSw.1.cell 1; simp only [List.getElem?_toArray, List.getElem?_cons_zero, List.getElem?_cons_succ] at b0 b7; have b9 := HF.out _ hSw.2; go_simp; (try (first | with_reducible rfl | rfl | (simp; done))))⟩ | exact Or.inr ⟨by rfl, by rfl⟩)
                try simp only [Act.put, List.setIfInBounds_toArray, List.set_cons_zero, List.set_cons_succ]
                refine wpG_takeB (i := 37) (oi := ⟨some 137, _, _, _, _, _⟩) (v := (bif (!r2 && b3) then .bool n2 else undef)) rfl (by kernel_rfl) (by kernel_rfl) (by kernel_rfl) (by decide) (fun _ _ _ h => h) h01 rfl hHeld ?_ ?_
                · ((cases r2 <;> cases b3) <;> first | exact Or.inl ⟨by rfl, by (intro W9 hSw; have b0 := hSw.1.cell 0; have b7 := hSw.1.cell 1; simp only [List.getElem?_toArray, List.getElem?_cons_zero, List.getElem?_cons_succ] at b0 b7; have b9 := HF.out _ hSw.2; go_simp; (try (first | with_reducible rfl | rfl | (simp; done))))⟩ | exact Or.inr ⟨by rfl, by rfl⟩)
                try simp only [Act.put, List.setIfInBounds_toArray, List.set_cons_zero, List.set_cons_succ]
                refine wpG_takeB (i := 38) (oi := ⟨some 138, _, _, _, _, _⟩) (v := (bif (!r2) then .bool (b3 && n2) else undef)) rfl (by kernel_rfl) (by kernel_rfl) (by kernel_rfl) (by decide) (fun _ _ _ h => h) h01 rfl hHeld ?_ ?_
                · ((cases r2 <;> cases b3) <;> first | exact Or.inl ⟨by rfl, by (intro W9 hSw; have b0 := hSw.1.cell 0; have b7 := hSw.1.cell 1; simp only [List.getElem?_toArray, List.getElem?_cons_zero, List.getElem?_cons_succ] at b0 b7; have b9 := HF.out _ hSw.2; go_simp; (try (first | with_reducible rfl | rfl | (simp; done))))⟩ | exact Or.inr ⟨by rfl, by rfl⟩)
                try simp only [Act.put, List.setIfInBounds_toArray, List.set_cons_zero, List.set_cons_succ]
                refine wpG_takeB (i := 39) (oi := ⟨some 139, _, _, _, _, _⟩) (v := .bool r3) rfl (by kernel_rfl) (by kernel_rfl) (by kernel_rfl) (by decide) (fun _ _ _ h => h) h01 rfl hHeld ?_ ?_
                · (have hr3 := HR3.out; (cases r2 <;> cases b3) <;> first | exact Or.inl ⟨by rfl, by (intro W9 hSw; have b0 := hSw.1.cell 0; have b7 := hSw.1.cell 1; simp only [List.getElem?_toArray, List.getElem?_cons_zero, List.getElem?_cons_succ] at b0 b7; have b9 := HF.out _ hSw.2; go_simp; (try (first | with_reducible rfl | rfl | (rw [← hr3]; rfl) | (simp; done))))⟩ | exact Or.inr ⟨by rfl, by rfl⟩)
                try simp only [Act.put, List.setIfInBounds_toArray, List.set_cons_zero, List.set_cons_succ]
                refine wpG_done (by kernel_rfl) ?_ _
                clear hHeld h01
                refine NoPanic.normal ?_
                clear hb1 hb2 hb3 hte hn1 hn4 hn2
                cases r3 with
                | true =>
                  go_wp2_with fail
                  go_meet
                  case rel => exact ⟨by rw [HWN.out]; rfl, Lib.hid (by rw [HNX.out]; exact HG2.out), Lib.hid ⟨HO2.out.os, HO2.out.tape, HO2.out.output, HO2.out.size, HO2.out.block⟩⟩
                | false =>
                  go_wp2_with fail
                  go_meet
                  case rel => exact ⟨by rw [HWN.out]; rfl, Lib.hid (by rw [HNX.out]; exact HG2.out), Lib.hid ⟨HO2.out.os, HO2.out.tape, HO2.out.output, HO2.out.size, HO2.out.block⟩⟩
          case rest =>
            obtain ⟨rfl, HGN2, HO2⟩ := hcut
            have hbc : Below wr.heap.size wr wc := HB1g.out.trans (HO2.out.to_below HB1g.out.size (fun b hb e => by have := HGNE.out; omega))
            have HRDc := Lib.hid (HRD.out.below hbc)
            have HWPc := Lib.hid (HWP.out.below hbc)
            have HBwc := Lib.hid HWPc.out.bl
            clear hbc HRD1 HWP1 HGN HO2 w8 HB1g HRD HWP
            obtain ⟨wt, hwt⟩ : ∃ x, wantE kd us sx = x := ⟨_, rfl⟩
            have HWT := Lib.hid hwt
            rw [hwt]
            clear hwt
            go_upto_block 2 with fail
            go_cut [15, 16, 17, 18, 19, 20, 21, 22, 23] from 73 to 269 (fun a15 a16 a17 a18 a19 a20 a21 a22 a23 wx => a15 = .bool true ∧ Hid (MV w wx g g8 St xe ye L A9 c9 us (restT kd us sx)))
            case first =>
              rcases (show kd = 0 ∨ kd = 4 ∨ kd = 1 ∨ kd = 2 ∨ kd = 3 by omega) with rfl | rfl | rfl | rfl | rfl
              · cases us with
                | nil =>
                  as_aux_lemma =>
                    have HRT : Hid (restT 0 [] sx = []) := Lib.hid rfl
                    have hwe : wantE 0 [] sx = 9 := rfl
                    obtain rfl := HWT.out.symm.trans hwe
                    have CC := Lib.hid (next_end wc HRDc.out rfl)
                    clear hwe
                    have hq32 : ∀ W : World, (binOp .eql 32 (.agg #[.int .i64 0, .string ⟨#[]⟩, .int .i64 0, .int .i64 0, .int .i64 0]) (.agg #[.int .i64 0, .string ⟨#[]⟩, .int .i64 0, .int .i64 0, .int .i64 0])).run Tryd.prog W = .ok (.bool true) W := fun W => by kernel_rfl
                    go_wp2_with (go_at_call 10; (with_reducible refine CC.out.mono ?_); rintro e w6 ⟨rfl, hb6⟩; have HMV : Hid (MV w w6 g g8 St xe ye L A9 c9 [] []) := Lib.hid ⟨_, _, HRDc.out.below hb6, HWPc.out.below hb6⟩; clear hb6)
                    go_meet
                    case rel => exact ⟨by first | rfl | simp, Lib.hid (by rw [HRT.out]; exact HMV.out.below ((Below.refl _ w6).alloc (Nat.le_refl _) _))⟩
                | cons t us' =>
                  obtain ⟨k, hk⟩ : ∃ k : Int, (t.k : Int) = k := ⟨_, rfl⟩
                  obtain ⟨St1, hS1⟩ : ∃ S, (⟨t.t.toArray⟩ : ByteArray) = S := ⟨_, rfl⟩
                  obtain ⟨vv, hv⟩ : ∃ v, t.v = v := ⟨_, rfl⟩
                  obtain ⟨aa, ha⟩ : ∃ a : Int, (t.a : Int) = a := ⟨_, rfl⟩
                  as_aux_lemma =>
                    have CC := Lib.hid ((next_yes wc HRDc.out (by simp) (take5 L t us')).mono fun e w6 hh => MV.move (L := L) HWPc.out hh)
                    have HNX : Hid (nextC (t :: us') = #[.int .i64 k, .string St1, .int .i64 vv, .int .i64 aa]) := Lib.hid (by unfold nextC; rw [← hk, ← hS1, ← hv, ← ha])
                    have hwe : wantE 0 (t :: us') sx = 0 := by
                      show (if wrongB 0 (t.k : Int) ⟨t.t.toArray⟩ sx = true then (6 : Int) else 0) = _
                      rw [hk, hS1, wrong0]; rfl
                    have HRT : Hid (restT 0 (t :: us') sx = us') := Lib.hid (by unfold restT; rw [hwe]; rfl)
                    obtain rfl := HWT.out.symm.trans hwe
                    have C19 := Lib.hid (fun W => C19.out t W (HUS.out t (List.mem_cons_self ..)))
                    unfold TkC RkC at C19
                    rw [hk, hS1, hv] at CC
                    rw [hk, hS1, hv, ha] at C19
                    generalize ((lcOf L t.a).1 : Int) = ln at *
                    generalize ((lcOf L t.a).2 : Int) = cl at *
                    clear hwe hk hS1 hv ha
                    go_wp2_with (first | (go_at_call 10; (with_reducible refine CC.out.mono ?_); rintro e w6 ⟨rfl, hmv, ho6⟩; have HMV := Lib.hid hmv; have HG6 : Hid (Blk w6 gn 56 #[.int .i64 k, .string St1, .int .i64 vv, .int .i64 aa]) := Lib.hid (by rw [← HNX.out]; exact HGN2.out.onlyg ho6 (by have := HLTn.out; omega)); clear hmv ho6; have hG7 := HG6.out.alloc (.cells #[.int .i64 k, .string St1, .int .i64 vv, .int .i64 ln, .int .i64 cl] 32); have g0 := hG7.cell 0; have g1 := hG7.cell 1; have g2 := hG7.cell 2; have g3 := hG7.cell 3; simp only [List.getElem?_toArray, List.getElem?_cons_zero, List.getElem?_cons_succ] at g0 g1 g2 g3; have s6 : (w6.alloc (.cells #[.int .i64 k, .string St1, .int .i64 vv, .int .i64 ln, .int .i64 cl] 32)).cell? ⟨w.heap.size, 0, none⟩ = some (.string St) := (by (obtain ⟨_, _, _, hw9⟩ := HMV.out; exact (hw9.b2.alloc _).cell 0)); clear hG7) | (go_at_call 19; (with_reducible refine (C19.out _).mono ?_); rintro e w7 ⟨rfl, hb7⟩; have HB7 := Lib.hid hb7; clear hb7))
                    go_meet
                    case rel => exact ⟨by first | rfl | simp, Lib.hid (by rw [HRT.out]; exact (HMV.out.below ((Below.refl _ w6).alloc (Nat.le_refl _) _)).below HB7.out)⟩
              · cases us with
                | nil =>
                  as_aux_lemma =>
                    have HRT : Hid (restT 4 [] sx = []) := Lib.hid rfl
                    have hwe : wantE 4 [] sx = 9 := rfl
                    obtain rfl := HWT.out.symm.trans hwe
                    have CC := Lib.hid (peek_end wc HRDc.out rfl)
                    clear hwe
                    have hq32 : ∀ W : World, (binOp .eql 32 (.agg #[.int .i64 0, .string ⟨#[]⟩, .int .i64 0, .int .i64 0, .int .i64 0]) (.agg #[.int .i64 0, .string ⟨#[]⟩, .int .i64 0, .int .i64 0, .int .i64 0])).run Tryd.prog W = .ok (.bool true) W := fun W => by kernel_rfl
                    go_wp2_with (go_at_call 9; (with_reducible refine CC.out.mono ?_); rintro e w6 ⟨rfl, hb6⟩; have HMV : Hid (MV w w6 g g8 St xe ye L A9 c9 [] []) := Lib.hid ⟨_, _, HRDc.out.below hb6, HWPc.out.below hb6⟩; clear hb6)
                    go_meet
                    case rel => exact ⟨by first | rfl | simp, Lib.hid (by rw [HRT.out]; exact HMV.out.below ((Below.refl _ w6).alloc (Nat.le_refl _) _))⟩
                | cons t us' =>
                  obtain ⟨k, hk⟩ : ∃ k : Int, (t.k : Int) = k := ⟨_, rfl⟩
                  obtain ⟨St1, hS1⟩ : ∃ S, (⟨t.t.toArray⟩ : ByteArray) = S := ⟨_, rfl⟩
                  obtain ⟨vv, hv⟩ : ∃ v, t.v = v := ⟨_, rfl⟩
                  obtain ⟨aa, ha⟩ : ∃ a : Int, (t.a : Int) = a := ⟨_, rfl⟩
                  as_aux_lemma =>
                    have CC := Lib.hid (peek_tok wc HRDc.out (by simp) (take5 L t us'))
                    have HNX : Hid (nextC (t :: us') = #[.int .i64 k, .string St1, .int .i64 vv, .int .i64 aa]) := Lib.hid (by unfold nextC; rw [← hk, ← hS1, ← hv, ← ha])
                    have hwe : wantE 4 (t :: us') sx = 0 := by
                      show (if wrongB 4 (t.k : Int) ⟨t.t.toArray⟩ sx = true then (6 : Int) else 0) = _
                      rw [hk, hS1, wrong4]; rfl
                    have HRT : Hid (restT 4 (t :: us') sx = t :: us') := Lib.hid (by unfold restT; rw [hwe]; rfl)
                    obtain rfl := HWT.out.symm.trans hwe
                    have C19 := Lib.hid (fun W => C19.out t W (HUS.out t (List.mem_cons_self ..)))
                    unfold TkC RkC at C19
                    rw [hk, hS1, hv] at CC
                    rw [hk, hS1, hv, ha] at C19
                    generalize ((lcOf L t.a).1 : Int) = ln at *
                    generalize ((lcOf L t.a).2 : Int) = cl at *
                    clear hwe hk hS1 hv ha
                    go_wp2_with (first | (go_at_call 9; (with_reducible refine CC.out.mono ?_); rintro e w6 ⟨rfl, hb6⟩; have HMV : Hid (MV w w6 g g8 St xe ye L A9 c9 (t :: us') (t :: us')) := Lib.hid ⟨_, _, HRDc.out.below hb6, HWPc.out.below hb6⟩; have HG6 : Hid (Blk w6 gn 56 #[.int .i64 k, .string St1, .int .i64 vv, .int .i64 aa]) := Lib.hid (by rw [← HNX.out]; exact HGN2.out.below hb6 HGN2.out.lt); clear hb6; have hG7 := HG6.out.alloc (.cells #[.int .i64 k, .string St1, .int .i64 vv, .int .i64 ln, .int .i64 cl] 32); have g0 := hG7.cell 0; have g1 := hG7.cell 1; have g2 := hG7.cell 2; have g3 := hG7.cell 3; simp only [List.getElem?_toArray, List.getElem?_cons_zero, List.getElem?_cons_succ] at g0 g1 g2 g3; have s6 : (w6.alloc (.cells #[.int .i64 k, .string St1, .int .i64 vv, .int .i64 ln, .int .i64 cl] 32)).cell? ⟨w.heap.size, 0, none⟩ = some (.string St) := (by (obtain ⟨_, _, _, hw9⟩ := HMV.out; exact (hw9.b2.alloc _).cell 0)); clear hG7) | (go_at_call 19; (with_reducible refine (C19.out _).mono ?_); rintro e w7 ⟨rfl, hb7⟩; have HB7 := Lib.hid hb7; clear hb7))
                    go_meet
                    case rel => exact ⟨by first | rfl | simp, Lib.hid (by rw [HRT.out]; exact (HMV.out.below ((Below.refl _ w6).alloc (Nat.le_refl _) _)).below HB7.out)⟩
              · cases us with
                | nil =>
                  as_aux_lemma =>
                    have HRT : Hid (restT 1 [] sx = []) := Lib.hid rfl
                    have hwe : wantE 1 [] sx = 9 := rfl
                    obtain rfl := HWT.out.symm.trans hwe
                    have CC := Lib.hid (take_end sx wc HRDc.out rfl)
                    clear hwe
                    have f1 := HF.out _ HBwc.out
                    go_wp2_with (go_at_call 14; (with_reducible refine CC.out.mono ?_); rintro e w6 ⟨rfl, hb6⟩; have HMV : Hid (MV w w6 g g8 St xe ye L A9 c9 [] []) := Lib.hid ⟨_, _, HRDc.out.below hb6, HWPc.out.below hb6⟩; clear hb6)
                    go_meet
                    case rel => exact ⟨by first | rfl | simp, Lib.hid (by rw [HRT.out]; exact HMV.out)⟩
                | cons t us' =>
                  obtain ⟨k, hk⟩ : ∃ k : Int, (t.k : Int) = k := ⟨_, rfl⟩
                  obtain ⟨St1, hS1⟩ : ∃ S, (⟨t.t.toArray⟩ : ByteArray) = S := ⟨_, rfl⟩
                  obtain ⟨vv, hv⟩ : ∃ v, t.v = v := ⟨_, rfl⟩
                  obtain ⟨aa, ha⟩ : ∃ a : Int, (t.a : Int) = a := ⟨_, rfl⟩
                  cases hp : takeB k St1 sx with
                  | true =>
                    as_aux_lemma =>
                      have CC := Lib.hid ((take_yes sx wc HRDc.out (by simp) (take5 L t us') (by rw [hk, hS1]; exact hp)).mono fun e w6 hh => MV.move (L := L) HWPc.out hh)
                      have HNX : Hid (nextC (t :: us') = #[.int .i64 k, .string St1, .int .i64 vv, .int .i64 aa]) := Lib.hid (by unfold nextC; rw [← hk, ← hS1, ← hv, ← ha])
                      have hwe : wantE 1 (t :: us') sx = 0 := by
                        show (if wrongB 1 (t.k : Int) ⟨t.t.toArray⟩ sx = true then (6 : Int) else 0) = _
                        rw [hk, hS1, wrong1, hp]; rfl
                      have HRT : Hid (restT 1 (t :: us') sx = us') := Lib.hid (by unfold restT; rw [hwe]; rfl)
                      obtain rfl := HWT.out.symm.trans hwe
                      clear hwe hk hS1 hv ha hp
                      have f1 := HF.out _ HBwc.out
                      go_wp2_with (go_at_call 14; (with_reducible refine CC.out.mono ?_); rintro e w6 ⟨rfl, hmv, ho6⟩; have HMV := Lib.hid hmv; have HG6 : Hid (Blk w6 gn 56 #[.int .i64 k, .string St1, .int .i64 vv, .int .i64 aa]) := Lib.hid (by rw [← HNX.out]; exact HGN2.out.onlyg ho6 (by have := HLTn.out; omega)); clear hmv ho6)
                      go_meet
                      case rel => exact ⟨by first | rfl | simp, Lib.hid (by rw [HRT.out]; exact HMV.out)⟩
                  | false =>
                    as_aux_lemma =>
                      have CC := Lib.hid (take_no sx wc HRDc.out (by simp) (take5 L t us') (by rw [hk, hS1]; exact hp))
                      have HNX : Hid (nextC (t :: us') = #[.int .i64 k, .string St1, .int .i64 vv, .int .i64 aa]) := Lib.hid (by unfold nextC; rw [← hk, ← hS1, ← hv, ← ha])
                      have hwe : wantE 1 (t :: us') sx = 6 := by
                        show (if wrongB 1 (t.k : Int) ⟨t.t.toArray⟩ sx = true then (6 : Int) else 0) = _
                        rw [hk, hS1, wrong1, hp]; rfl
                      have HRT : Hid (restT 1 (t :: us') sx = t :: us') := Lib.hid (by unfold restT; rw [hwe]; rfl)
                      obtain rfl := HWT.out.symm.trans hwe
                      clear hwe hk hS1 hv ha hp
                      have f1 := HF.out _ HBwc.out
                      go_wp2_with (go_at_call 14; (with_reducible refine CC.out.mono ?_); rintro e w6 ⟨rfl, hb6⟩; have HMV : Hid (MV w w6 g g8 St xe ye L A9 c9 (t :: us') (t :: us')) := Lib.hid ⟨_, _, HRDc.out.below hb6, HWPc.out.below hb6⟩; have HG6 : Hid (Blk w6 gn 56 #[.int .i64 k, .string St1, .int .i64 vv, .int .i64 aa]) := Lib.hid (by rw [← HNX.out]; exact HGN2.out.below hb6 HGN2.out.lt); clear hb6)
                      go_meet
                      case rel => exact ⟨by first | rfl | simp, Lib.hid (by rw [HRT.out]; exact HMV.out)⟩
              · cases us with
                | nil =>
                  as_aux_lemma =>
                    have HRT : Hid (restT 2 [] sx = []) := Lib.hid rfl
                    have hwe : wantE 2 [] sx = 9 := rfl
                    obtain rfl := HWT.out.symm.trans hwe
                    have CC := Lib.hid (word_end wc HRDc.out rfl)
                    clear hwe
                    go_wp2_with (go_at_call 11; (with_reducible refine CC.out.mono ?_); rintro e w6 ⟨rfl, hb6⟩; have HMV : Hid (MV w w6 g g8 St xe ye L A9 c9 [] []) := Lib.hid ⟨_, _, HRDc.out.below hb6, HWPc.out.below hb6⟩; clear hb6)
                    go_meet
                    case rel => exact ⟨by first | rfl | simp, Lib.hid (by rw [HRT.out]; exact HMV.out)⟩
                | cons t us' =>
                  obtain ⟨k, hk⟩ : ∃ k : Int, (t.k : Int) = k := ⟨_, rfl⟩
                  obtain ⟨St1, hS1⟩ : ∃ S, (⟨t.t.toArray⟩ : ByteArray) = S := ⟨_, rfl⟩
                  obtain ⟨vv, hv⟩ : ∃ v, t.v = v := ⟨_, rfl⟩
                  obtain ⟨aa, ha⟩ : ∃ a : Int, (t.a : Int) = a := ⟨_, rfl⟩
                  cases hp : (k == 1) with
                  | true =>
                    as_aux_lemma =>
                      have CC := Lib.hid ((word_yes wc HRDc.out (by simp) (take5 L t us') (by rw [hk]; exact hp)).mono fun e w6 hh => MV.move (L := L) HWPc.out hh)
                      have HNX : Hid (nextC (t :: us') = #[.int .i64 k, .string St1, .int .i64 vv, .int .i64 aa]) := Lib.hid (by unfold nextC; rw [← hk, ← hS1, ← hv, ← ha])
                      have hwe : wantE 2 (t :: us') sx = 0 := by
                        show (if wrongB 2 (t.k : Int) ⟨t.t.toArray⟩ sx = true then (6 : Int) else 0) = _
                        rw [hk, hS1, wrong2, hp]; rfl
                      have HRT : Hid (restT 2 (t :: us') sx = us') := Lib.hid (by unfold restT; rw [hwe]; rfl)
                      obtain rfl := HWT.out.symm.trans hwe
                      rw [hS1] at CC
                      clear hwe hk hS1 hv ha hp
                      go_wp2_with (go_at_call 11; (with_reducible refine CC.out.mono ?_); rintro e w6 ⟨rfl, hmv, ho6⟩; have HMV := Lib.hid hmv; have HG6 : Hid (Blk w6 gn 56 #[.int .i64 k, .string St1, .int .i64 vv, .int .i64 aa]) := Lib.hid (by rw [← HNX.out]; exact HGN2.out.onlyg ho6 (by have := HLTn.out; omega)); clear hmv ho6; have g1 := HG6.out.cell 1; simp only [List.getElem?_toArray, List.getElem?_cons_zero, List.getElem?_cons_succ] at g1)
                      go_meet
                      case rel => exact ⟨by first | rfl | simp, Lib.hid (by rw [HRT.out]; exact HMV.out)⟩
                  | false =>
                    as_aux_lemma =>
                      have CC := Lib.hid (word_no wc HRDc.out (by simp) (take5 L t us') (by rw [hk]; exact hp))
                      have HNX : Hid (nextC (t :: us') = #[.int .i64 k, .string St1, .int .i64 vv, .int .i64 aa]) := Lib.hid (by unfold nextC; rw [← hk, ← hS1, ← hv, ← ha])
                      have hwe : wantE 2 (t :: us') sx = 6 := by
                        show (if wrongB 2 (t.k : Int) ⟨t.t.toArray⟩ sx = true then (6 : Int) else 0) = _
                        rw [hk, hS1, wrong2, hp]; rfl
                      have HRT : Hid (restT 2 (t :: us') sx = t :: us') := Lib.hid (by unfold restT; rw [hwe]; rfl)
                      obtain rfl := HWT.out.symm.trans hwe
                      clear hwe hk hS1 hv ha hp
                      go_wp2_with (go_at_call 11; (with_reducible refine CC.out.mono ?_); rintro e w6 ⟨rfl, hb6⟩; have HMV : Hid (MV w w6 g g8 St xe ye L A9 c9 (t :: us') (t :: us')) := Lib.hid ⟨_, _, HRDc.out.below hb6, HWPc.out.below hb6⟩; have HG6 : Hid (Blk w6 gn 56 #[.int .i64 k, .string St1, .int .i64 vv, .int .i64 aa]) := Lib.hid (by rw [← HNX.out]; exact HGN2.out.below hb6 HGN2.out.lt); clear hb6)
                      go_meet
                      case rel => exact ⟨by first | rfl | simp, Lib.hid (by rw [HRT.out]; exact HMV.out)⟩
              · cases us with
                | nil =>
                  as_aux_lemma =>
                    have HRT : Hid (restT 3 [] sx = []) := Lib.hid rfl
                    have hwe : wantE 3 [] sx = 9 := rfl
                    obtain rfl := HWT.out.symm.trans hwe
                    have CC := Lib.hid (number_end wc HRDc.out rfl)
                    clear hwe
                    go_wp2_with (go_at_call 12; (with_reducible refine CC.out.mono ?_); rintro e w6 ⟨rfl, hb6⟩; have HMV : Hid (MV w w6 g g8 St xe ye L A9 c9 [] []) := Lib.hid ⟨_, _, HRDc.out.below hb6, HWPc.out.below hb6⟩; clear hb6)
                    go_meet
                    case rel => exact ⟨by first | rfl | simp, Lib.hid (by rw [HRT.out]; exact HMV.out)⟩
                | cons t us' =>
                  obtain ⟨k, hk⟩ : ∃ k : Int, (t.k : Int) = k := ⟨_, rfl⟩
                  obtain ⟨St1, hS1⟩ : ∃ S, (⟨t.t.toArray⟩ : ByteArray) = S := ⟨_, rfl⟩
                  obtain ⟨vv, hv⟩ : ∃ v, t.v = v := ⟨_, rfl⟩
                  obtain ⟨aa, ha⟩ : ∃ a : Int, (t.a : Int) = a := ⟨_, rfl⟩
                  cases hp : (k == 2) with
                  | true =>
                    as_aux_lemma =>
                      have CC := Lib.hid ((number_yes wc HRDc.out (by simp) (take5 L t us') (by rw [hk]; exact hp)).mono fun e w6 hh => MV.move (L := L) HWPc.out hh)
                      have HNX : Hid (nextC (t :: us') = #[.int .i64 k, .string St1, .int .i64 vv, .int .i64 aa]) := Lib.hid (by unfold nextC; rw [← hk, ← hS1, ← hv, ← ha])
                      have hwe : wantE 3 (t :: us') sx = 0 := by
                        show (if wrongB 3 (t.k : Int) ⟨t.t.toArray⟩ sx = true then (6 : Int) else 0) = _
                        rw [hk, hS1, wrong3, hp]; rfl
                      have HRT : Hid (restT 3 (t :: us') sx = us') := Lib.hid (by unfold restT; rw [hwe]; rfl)
                      obtain rfl := HWT.out.symm.trans hwe
                      rw [hv] at CC
                      clear hwe hk hS1 hv ha hp
                      go_wp2_with (go_at_call 12; (with_reducible refine CC.out.mono ?_); rintro e w6 ⟨rfl, hmv, ho6⟩; have HMV := Lib.hid hmv; have HG6 : Hid (Blk w6 gn 56 #[.int .i64 k, .string St1, .int .i64 vv, .int .i64 aa]) := Lib.hid (by rw [← HNX.out]; exact HGN2.out.onlyg ho6 (by have := HLTn.out; omega)); clear hmv ho6; have g2 := HG6.out.cell 2; simp only [List.getElem?_toArray, List.getElem?_cons_zero, List.getElem?_cons_succ] at g2)
                      go_meet
                      case rel => exact ⟨by first | rfl | simp, Lib.hid (by rw [HRT.out]; exact HMV.out)⟩
                  | false =>
                    as_aux_lemma =>
                      have CC := Lib.hid (number_no wc HRDc.out (by simp) (take5 L t us') (by rw [hk]; exact hp))
                      have HNX : Hid (nextC (t :: us') = #[.int .i64 k, .string St1, .int .i64 vv, .int .i64 aa]) := Lib.hid (by unfold nextC; rw [← hk, ← hS1, ← hv, ← ha])
                      have hwe : wantE 3 (t :: us') sx = 6 := by
                        show (if wrongB 3 (t.k : Int) ⟨t.t.toArray⟩ sx = true then (6 : Int) else 0) = _
                        rw [hk, hS1, wrong3, hp]; rfl
                      have HRT : Hid (restT 3 (t :: us') sx = t :: us') := Lib.hid (by unfold restT; rw [hwe]; rfl)
                      obtain rfl := HWT.out.symm.trans hwe
                      clear hwe hk hS1 hv ha hp
                      go_wp2_with (go_at_call 12; (with_reducible refine CC.out.mono ?_); rintro e w6 ⟨rfl, hb6⟩; have HMV : Hid (MV w w6 g g8 St xe ye L A9 c9 (t :: us') (t :: us')) := Lib.hid ⟨_, _, HRDc.out.below hb6, HWPc.out.below hb6⟩; have HG6 : Hid (Blk w6 gn 56 #[.int .i64 k, .string St1, .int .i64 vv, .int .i64 aa]) := Lib.hid (by rw [← HNX.out]; exact HGN2.out.below hb6 HGN2.out.lt); clear hb6)
                      go_meet
                      case rel => exact ⟨by first | rfl | simp, Lib.hid (by rw [HRT.out]; exact HMV.out)⟩
            case rest =>
              obtain ⟨rfl, HMV⟩ := hcut
              have HLTi := Lib.hid hlt
              obtain ⟨us2, hus2⟩ : ∃ x, restT kd us sx = x := ⟨_, rfl⟩
              rw [hus2] at HMV
              have HUS2 : Hid (∀ t ∈ us2, t.a ≤ L.length) := Lib.hid (by
                intro t ht
                refine HUS.out t ?_
                rw [← hus2] at ht
                unfold restT at ht
                split at ht
                · exact List.mem_of_mem_tail ht
                · exact ht)
              have HUL2 : Hid (us2.length ≤ 500) := Lib.hid (by
                have := HUL.out
                rw [← hus2]
                unfold restT
                split
                · rw [List.length_tail]; omega
                · exact this)
              have hcase : (wt = 0 ∧ (kd != 4) = true ∧ ∃ t, us = t :: us2) ∨ (us2 = us ∧ ((wt == 0) = false ∨ wt = 0 ∧ (kd != 4) = false)) := by
                by_cases h0 : wt = 0
                · by_cases h4 : kd = 4
                  · right
                    refine ⟨?_, .inr ⟨h0, by simpa using h4⟩⟩
                    rw [← hus2]; unfold restT; rw [if_neg (fun hh => hh.2 h4)]
                  · left
                    refine ⟨h0, by simpa using h4, ?_⟩
                    have h9 := HWT.out
                    cases us with
                    | nil => have h8 : (9 : Int) = wt := h9; omega
                    | cons t us' =>
                      refine ⟨t, ?_⟩
                      rw [← hus2]; unfold restT; rw [if_pos ⟨h9.trans h0, h4⟩]; rfl
                · right
                  refine ⟨?_, .inl (by simpa using h0)⟩
                  rw [← hus2]; unfold restT; rw [if_neg (fun hh => h0 (HWT.out.symm.trans hh.1))]
              clear hus2 HRDc HWPc HBwc HGN2 HGNE HLTn HWT
              rcases hcase with ⟨rfl, q4, t, rfl⟩ | ⟨rfl, (q0 | ⟨rfl, q4⟩)⟩
              · obtain ⟨A3, c3, hrd, hwp⟩ := HMV.out
                obtain ⟨A9n, hrun, hts, hbk⟩ := tail49 _ A9 _ c9 _ hwp.ts (by simp)
                have hwp5 := hwp.tail (A8' := A9n) hts hbk
                have hrd5 := hrd.set (b := g8) (fun e => hwp.lt.2.2 e.symm) hwp.fA 0 (.slice A9n us2.length (c9 - 1))
                obtain ⟨c9n, hc9n⟩ : ∃ x, c9 - 1 = x := ⟨_, rfl⟩
                rw [hc9n] at hwp5 hrd5 hrun
                obtain ⟨W5, hW5⟩ : ∃ x, wc.setCell ⟨g8, 0, none⟩ (.slice A9n us2.length c9n) = x := ⟨_, rfl⟩
                rw [hW5] at hwp5 hrd5
                have HWP5 := Lib.hid hwp5
                have HRD5 := Lib.hid hrd5
                have hrun2 : ∀ W' : World, (Instr.slice 49 (.slice A9 m c9) (some (.int .i64 1)) none none).run Tryd.prog W' = .ok (.slice A9n us2.length c9n) W' := fun W' => by
                  have := hrun W'
                  rw [HM.out] at this
                  have e : m - 1 = us2.length := by have := HM.out; rw [List.length_cons] at this; omega
                  rw [e] at this
                  exact this
                have w8 := hwp.w8.cell 0
                have z8 := hwp.w8.frozen 0
                simp only [List.getElem?_toArray, List.getElem?_cons_zero, List.getElem?_cons_succ] at w8
                rw [HM.out] at w8
                generalize us2.length = m2 at hrun2 hW5
                have HW5 := Lib.hid hW5
                clear hrd hwp hrun hts hbk hwp5 hrd5 hc9n hW5
                go_upto_region 46 with fail
                rw [HW5.out]
                clear w8 z8 hrun2 q4
                have w8 := HWP5.out.w8.cell 0
                have s1 := HWP5.out.b2.cell 0
                simp only [List.getElem?_toArray, List.getElem?_cons_zero, List.getElem?_cons_succ] at w8 s1
                cases us2 with
                | nil =>
                  as_aux_lemma =>
                    have C15 := Lib.hid (fun W (hb : Below W5.heap.size W5 W) => place_end W (HRD5.out.below hb) rfl)
                    have C18 := Lib.hid (fun W => C18.out L.length W (Nat.le_refl _))
                    rw [HXE.out.1, HXE.out.2, ← HLN.out] at C18
                    go_upto_region 49 with fail
                    clear s1 w8
                    refine wp_region_noPanic ?_
                    refine wp_region_G (S0 := (fun W : World => Below W5.heap.size W5 W)) (S1 := (fun W : World => Below W5.heap.size W5 W)) (c := 99) (by kernel_rfl) ?_
                    have hHeld := (below_drew (Below.refl W5.heap.size W5))
                    have h01 := (fun (W : World) (h : (fun W : World => Below W5.heap.size W5 W) W) => h)
                    refine wpG_takeB (i := 0) (oi := ⟨some 264, _, _, _, _, _⟩) (v := .pointer (some ⟨g, 0, none⟩)) rfl (by kernel_rfl) (by kernel_rfl) (by kernel_rfl) (by decide) (fun _ _ _ h => h) h01 rfl hHeld (Or.inl ⟨by rfl, ?_⟩) ?_
                    · (intro W9 hSw; have s1 := (HWP5.out.b2.below hSw HWP5.out.b2.lt).cell 0; simp only [List.getElem?_toArray, List.getElem?_cons_zero, List.getElem?_cons_succ] at s1; go_simp; (try (first | with_reducible rfl | rfl | (simp; done))))
                    try simp only [Act.put, List.setIfInBounds_toArray, List.set_cons_zero, List.set_cons_succ]
                    refine wpG_takeB (i := 2) (oi := ⟨some 266, _, _, _, _, _⟩) (v := .string St) rfl (by kernel_rfl) (by kernel_rfl) (by kernel_rfl) (by decide) (fun _ _ _ h => h) h01 rfl hHeld (Or.inl ⟨by rfl, ?_⟩) ?_
                    · (intro W9 hSw; have s1 := (HWP5.out.b2.below hSw HWP5.out.b2.lt).cell 0; simp only [List.getElem?_toArray, List.getElem?_cons_zero, List.getElem?_cons_succ] at s1; go_simp; (try (first | with_reducible rfl | rfl | (simp; done))))
                    try simp only [Act.put, List.setIfInBounds_toArray, List.set_cons_zero, List.set_cons_succ]
                    refine wpG_takeB (i := 3) (oi := ⟨some 267, _, _, _, _, _⟩) (v := .int .i64 (St.size : Int)) rfl (by kernel_rfl) (by kernel_rfl) (by kernel_rfl) (by decide) (fun _ _ _ h => h) h01 rfl hHeld (Or.inl ⟨by rfl, ?_⟩) ?_
                    · (intro W9 hSw; have s1 := (HWP5.out.b2.below hSw HWP5.out.b2.lt).cell 0; simp only [List.getElem?_toArray, List.getElem?_cons_zero, List.getElem?_cons_succ] at s1; go_simp; (try (first | with_reducible rfl | rfl | (simp; done))))
                    try simp only [Act.put, List.setIfInBounds_toArray, List.set_cons_zero, List.set_cons_succ]
                    refine wpG_oneB (i := 1) (o := ⟨some 265, _, _, _, _, _⟩) (by kernel_rfl) rfl rfl (fun K hK => ?_)
                    go_simp
                    (with_reducible refine (C15.out _ (below_drew (Below.refl W5.heap.size W5))).mono ?_); rintro e w6 ⟨rfl, hb6⟩
                    have HB6 := Lib.hid ((below_drew (Below.refl W5.heap.size W5)).trans (hb6.mono (Nat.le_refl _)))
                    clear hb6
                    refine hK.out _ _ HB6.out (fun hHeld => ?_)
                    clear hK K
                    try simp only [Act.put, List.setIfInBounds_toArray, List.set_cons_zero, List.set_cons_succ]
                    refine wpG_oneB (i := 4) (o := ⟨some 268, _, _, _, _, _⟩) (by kernel_rfl) rfl rfl (fun K hK => ?_)
                    go_simp
                    (with_reducible refine (C18.out _).mono ?_); rintro e w7 ⟨rfl, hb7⟩
                    have HB7 := Lib.hid (HB6.out.trans (hb7.mono HB6.out.size))
                    clear hb7
                    refine hK.out _ _ HB7.out (fun hHeld => ?_)
                    clear hK K
                    try simp only [Act.put, List.setIfInBounds_toArray, List.set_cons_zero, List.set_cons_succ]
                    refine wpG_takeB (i := 5) (oi := ⟨some 269, _, _, _, _, _⟩) (v := .bool false) rfl (by kernel_rfl) (by kernel_rfl) (by kernel_rfl) (by decide) (fun _ _ _ h => h) h01 rfl hHeld (Or.inl ⟨by rfl, ?_⟩) ?_
                    · (intro W9 hSw; have s1 := (HWP5.out.b2.below hSw HWP5.out.b2.lt).cell 0; simp only [List.getElem?_toArray, List.getElem?_cons_zero, List.getElem?_cons_succ] at s1; go_simp; (try (first | with_reducible rfl | rfl | (simp; done))))
                    try simp only [Act.put, List.setIfInBounds_toArray, List.set_cons_zero, List.set_cons_succ]
                    refine wpG_done (by kernel_rfl) ?_ _
                    clear hHeld h01
                    refine NoPanic.normal ?_
                    go_wp2_with fail
                    go_roundw
                    case rel => exact ⟨i + 1, by have := HLTi.out; omega, by go_num, Lib.hid ⟨_, _, _, _, _, HRD5.out.below HB7.out, HWP5.out.below HB7.out, HUS2.out, HUL2.out⟩⟩
                    case measure => have := HLTi.out; simp [intOf]; omega
                | cons t2 us3 =>
                  as_aux_lemma =>
                    obtain ⟨gq, oq, rfl, e0, e1, e2, e3⟩ := HWP5.out.ts.head4
                    have C15 := Lib.hid (fun W (hb : Below W5.heap.size W5 W) => place_tok W (HRD5.out.below hb) (by simp) (take5 L t2 us3))
                    have C18 := Lib.hid (fun W => C18.out t2.a W (HUS2.out t2 (List.mem_cons_self ..)))
                    obtain ⟨m2, hm2⟩ : ∃ m2, (t2 :: us3).length = m2 := ⟨_, rfl⟩
                    have hmp : (0 : Int) < m2 := by rw [← hm2]; simp
                    have qm : decide (0 < m2) = true := by simpa using hmp
                    rw [hm2] at w8
                    obtain ⟨aa, ha⟩ : ∃ a : Int, (t2.a : Int) = a := ⟨_, rfl⟩
                    rw [ha] at e3 C18
                    generalize ((lcOf L t2.a).1 : Int) = ln at *
                    generalize ((lcOf L t2.a).2 : Int) = cl at *
                    clear hm2 ha e0 e1 e2
                    go_upto_region 49 with fail
                    clear s1 w8 e3
                    refine wp_region_noPanic ?_
                    refine wp_region_G (S0 := (fun W : World => Below W5.heap.size W5 W)) (S1 := (fun W : World => Below W5.heap.size W5 W)) (c := 99) (by kernel_rfl) ?_
                    have hHeld := (below_drew (Below.refl W5.heap.size W5))
                    have h01 := (fun (W : World) (h : (fun W : World => Below W5.heap.size W5 W) W) => h)
                    refine wpG_takeB (i := 0) (oi := ⟨some 264, _, _, _, _, _⟩) (v := .pointer (some ⟨g, 0, none⟩)) rfl (by kernel_rfl) (by kernel_rfl) (by kernel_rfl) (by decide) (fun _ _ _ h => h) h01 rfl hHeld (Or.inl ⟨by rfl, ?_⟩) ?_
                    · (intro W9 hSw; have s1 := (HWP5.out.b2.below hSw HWP5.out.b2.lt).cell 0; simp only [List.getElem?_toArray, List.getElem?_cons_zero, List.getElem?_cons_succ] at s1; go_simp; (try (first | with_reducible rfl | rfl | (simp; done))))
                    try simp only [Act.put, List.setIfInBounds_toArray, List.set_cons_zero, List.set_cons_succ]
                    refine wpG_takeB (i := 2) (oi := ⟨some 266, _, _, _, _, _⟩) (v := .string St) rfl (by kernel_rfl) (by kernel_rfl) (by kernel_rfl) (by decide) (fun _ _ _ h => h) h01 rfl hHeld (Or.inl ⟨by rfl, ?_⟩) ?_
                    · (intro W9 hSw; have s1 := (HWP5.out.b2.below hSw HWP5.out.b2.lt).cell 0; simp only [List.getElem?_toArray, List.getElem?_cons_zero, List.getElem?_cons_succ] at s1; go_simp; (try (first | with_reducible rfl | rfl | (simp; done))))
                    try simp only [Act.put, List.setIfInBounds_toArray, List.set_cons_zero, List.set_cons_succ]
                    refine wpG_takeB (i := 3) (oi := ⟨some 267, _, _, _, _, _⟩) (v := .int .i64 aa) rfl (by kernel_rfl) (by kernel_rfl) (by kernel_rfl) (by decide) (fun _ _ _ h => h) h01 rfl hHeld (Or.inl ⟨by rfl, ?_⟩) ?_
                    · (intro W9 hSw; have s1 := (HWP5.out.b2.below hSw HWP5.out.b2.lt).cell 0; simp only [List.getElem?_toArray, List.getElem?_cons_zero, List.getElem?_cons_succ] at s1; go_simp; (try (first | with_reducible rfl | rfl | (simp; done))))
                    try simp only [Act.put, List.setIfInBounds_toArray, List.set_cons_zero, List.set_cons_succ]
                    refine wpG_oneB (i := 1) (o := ⟨some 265, _, _, _, _, _⟩) (by kernel_rfl) rfl rfl (fun K hK => ?_)
                    go_simp
                    (with_reducible refine (C15.out _ (below_drew (Below.refl W5.heap.size W5))).mono ?_); rintro e w6 ⟨rfl, hb6⟩
                    have HB6 := Lib.hid ((below_drew (Below.refl W5.heap.size W5)).trans (hb6.mono (Nat.le_refl _)))
                    clear hb6
                    refine hK.out _ _ HB6.out (fun hHeld => ?_)
                    clear hK K
                    try simp only [Act.put, List.setIfInBounds_toArray, List.set_cons_zero, List.set_cons_succ]
                    refine wpG_oneB (i := 4) (o := ⟨some 268, _, _, _, _, _⟩) (by kernel_rfl) rfl rfl (fun K hK => ?_)
                    go_simp
                    (with_reducible refine (C18.out _).mono ?_); rintro e w7 ⟨rfl, hb7⟩
                    have HB7 := Lib.hid (HB6.out.trans (hb7.mono HB6.out.size))
                    clear hb7
                    refine hK.out _ _ HB7.out (fun hHeld => ?_)
                    clear hK K
                    try simp only [Act.put, List.setIfInBounds_toArray, List.set_cons_zero, List.set_cons_succ]
                    refine wpG_takeB (i := 5) (oi := ⟨some 269, _, _, _, _, _⟩) (v := .bool false) rfl (by kernel_rfl) (by kernel_rfl) (by kernel_rfl) (by decide) (fun _ _ _ h => h) h01 rfl hHeld (Or.inl ⟨by rfl, ?_⟩) ?_
                    · (intro W9 hSw; have s1 := (HWP5.out.b2.below hSw HWP5.out.b2.lt).cell 0; simp only [List.getElem?_toArray, List.getElem?_cons_zero, List.getElem?_cons_succ] at s1; go_simp; (try (first | with_reducible rfl | rfl | (simp; done))))
                    try simp only [Act.put, List.setIfInBounds_toArray, List.set_cons_zero, List.set_cons_succ]
                    refine wpG_done (by kernel_rfl) ?_ _
                    clear hHeld h01
                    refine NoPanic.normal ?_
                    go_wp2_with fail
                    go_roundw
                    case rel => exact ⟨i + 1, by have := HLTi.out; omega, by go_num, Lib.hid ⟨_, _, _, _, _, HRD5.out.below HB7.out, HWP5.out.below HB7.out, HUS2.out, HUL2.out⟩⟩
                    case measure => have := HLTi.out; simp [intOf]; omega
              · obtain ⟨A3, c3, hrd, hwp⟩ := HMV.out
                obtain ⟨A9n, hA9⟩ : ∃ x, A9 = x := ⟨_, rfl⟩
                obtain ⟨c9n, hc9⟩ : ∃ x, c9 = x := ⟨_, rfl⟩
                rw [hA9, hc9] at hwp
                have HWP5 := Lib.hid hwp
                have HRD5 := Lib.hid hrd
                clear hrd hwp hA9 hc9
                go_upto_region 46 with fail
                clear q0
                generalize wc = W5 at *
                have w8 := HWP5.out.w8.cell 0
                have s1 := HWP5.out.b2.cell 0
                simp only [List.getElem?_toArray, List.getElem?_cons_zero, List.getElem?_cons_succ] at w8 s1
                cases us2 with
                | nil =>
                  as_aux_lemma =>
                    have C15 := Lib.hid (fun W (hb : Below W5.heap.size W5 W) => place_end W (HRD5.out.below hb) rfl)
                    have C18 := Lib.hid (fun W => C18.out L.length W (Nat.le_refl _))
                    rw [HXE.out.1, HXE.out.2, ← HLN.out] at C18
                    go_upto_region 49 with fail
                    clear s1 w8
                    refine wp_region_noPanic ?_
                    refine wp_region_G (S0 := (fun W : World => Below W5.heap.size W5 W)) (S1 := (fun W : World => Below W5.heap.size W5 W)) (c := 99) (by kernel_rfl) ?_
                    have hHeld := (below_drew (Below.refl W5.heap.size W5))
                    have h01 := (fun (W : World) (h : (fun W : World => Below W5.heap.size W5 W) W) => h)
                    refine wpG_takeB (i := 0) (oi := ⟨some 264, _, _, _, _, _⟩) (v := .pointer (some ⟨g, 0, none⟩)) rfl (by kernel_rfl) (by kernel_rfl) (by kernel_rfl) (by decide) (fun _ _ _ h => h) h01 rfl hHeld (Or.inl ⟨by rfl, ?_⟩) ?_
                    · (intro W9 hSw; have s1 := (HWP5.out.b2.below hSw HWP5.out.b2.lt).cell 0; simp only [List.getElem?_toArray, List.getElem?_cons_zero, List.getElem?_cons_succ] at s1; go_simp; (try (first | with_reducible rfl | rfl | (simp; done))))
                    try simp only [Act.put, List.setIfInBounds_toArray, List.set_cons_zero, List.set_cons_succ]
                    refine wpG_takeB (i := 2) (oi := ⟨some 266, _, _, _, _, _⟩) (v := .string St) rfl (by kernel_rfl) (by kernel_rfl) (by kernel_rfl) (by decide) (fun _ _ _ h => h) h01 rfl hHeld (Or.inl ⟨by rfl, ?_⟩) ?_
                    · (intro W9 hSw; have s1 := (HWP5.out.b2.below hSw HWP5.out.b2.lt).cell 0; simp only [List.getElem?_toArray, List.getElem?_cons_zero, List.getElem?_cons_succ] at s1; go_simp; (try (first | with_reducible rfl | rfl | (simp; done))))
                    try simp only [Act.put, List.setIfInBounds_toArray, List.set_cons_zero, List.set_cons_succ]
                    refine wpG_takeB (i := 3) (oi := ⟨some 267, _, _, _, _, _⟩) (v := .int .i64 (St.size : Int)) rfl (by kernel_rfl) (by kernel_rfl) (by kernel_rfl) (by decide) (fun _ _ _ h => h) h01 rfl hHeld (Or.inl ⟨by rfl, ?_⟩) ?_
                    · (intro W9 hSw; have s1 := (HWP5.out.b2.below hSw HWP5.out.b2.lt).cell 0; simp only [List.getElem?_toArray, List.getElem?_cons_zero, List.getElem?_cons_succ] at s1; go_simp; (try (first | with_reducible rfl | rfl | (simp; done))))
                    try simp only [Act.put, List.setIfInBounds_toArray, List.set_cons_zero, List.set_cons_succ]
                    refine wpG_oneB (i := 1) (o := ⟨some 265, _, _, _, _, _⟩) (by kernel_rfl) rfl rfl (fun K hK => ?_)
                    go_simp
                    (with_reducible refine (C15.out _ (below_drew (Below.refl W5.heap.size W5))).mono ?_); rintro e w6 ⟨rfl, hb6⟩
                    have HB6 := Lib.hid ((below_drew (Below.refl W5.heap.size W5)).trans (hb6.mono (Nat.le_refl _)))
                    clear hb6
                    refine hK.out _ _ HB6.out (fun hHeld => ?_)
                    clear hK K
                    try simp only [Act.put, List.setIfInBounds_toArray, List.set_cons_zero, List.set_cons_succ]
                    refine wpG_oneB (i := 4) (o := ⟨some 268, _, _, _, _, _⟩) (by kernel_rfl) rfl rfl (fun K hK => ?_)
                    go_simp
                    (with_reducible refine (C18.out _).mono ?_); rintro e w7 ⟨rfl, hb7⟩
                    have HB7 := Lib.hid (HB6.out.trans (hb7.mono HB6.out.size))
                    clear hb7
                    refine hK.out _ _ HB7.out (fun hHeld => ?_)
                    clear hK K
                    try simp only [Act.put, List.setIfInBounds_toArray, List.set_cons_zero, List.set_cons_succ]
                    refine wpG_takeB (i := 5) (oi := ⟨some 269, _, _, _, _, _⟩) (v := .bool false) rfl (by kernel_rfl) (by kernel_rfl) (by kernel_rfl) (by decide) (fun _ _ _ h => h) h01 rfl hHeld (Or.inl ⟨by rfl, ?_⟩) ?_
                    · (intro W9 hSw; have s1 := (HWP5.out.b2.below hSw HWP5.out.b2.lt).cell 0; simp only [List.getElem?_toArray, List.getElem?_cons_zero, List.getElem?_cons_succ] at s1; go_simp; (try (first | with_reducible rfl | rfl | (simp; done))))
                    try simp only [Act.put, List.setIfInBounds_toArray, List.set_cons_zero, List.set_cons_succ]
                    refine wpG_done (by kernel_rfl) ?_ _
                    clear hHeld h01
                    refine NoPanic.normal ?_
                    go_wp2_with fail
                    go_roundw
                    case rel => exact ⟨i + 1, by have := HLTi.out; omega, by go_num, Lib.hid ⟨_, _, _, _, _, HRD5.out.below HB7.out, HWP5.out.below HB7.out, HUS2.out, HUL2.out⟩⟩
                    case measure => have := HLTi.out; simp [intOf]; omega
                | cons t2 us3 =>
                  as_aux_lemma =>
                    obtain ⟨gq, oq, rfl, e0, e1, e2, e3⟩ := HWP5.out.ts.head4
                    have C15 := Lib.hid (fun W (hb : Below W5.heap.size W5 W) => place_tok W (HRD5.out.below hb) (by simp) (take5 L t2 us3))
                    have C18 := Lib.hid (fun W => C18.out t2.a W (HUS2.out t2 (List.mem_cons_self ..)))
                    obtain ⟨m2, hm2⟩ : ∃ m2, (t2 :: us3).length = m2 := ⟨_, rfl⟩
                    have hmp : (0 : Int) < m2 := by rw [← hm2]; simp
                    have qm : decide (0 < m2) = true := by simpa using hmp
                    rw [hm2] at w8
                    obtain ⟨aa, ha⟩ : ∃ a : Int, (t2.a : Int) = a := ⟨_, rfl⟩
                    rw [ha] at e3 C18
                    generalize ((lcOf L t2.a).1 : Int) = ln at *
                    generalize ((lcOf L t2.a).2 : Int) = cl at *
                    clear hm2 ha e0 e1 e2
                    go_upto_region 49 with fail
                    clear s1 w8 e3
                    refine wp_region_noPanic ?_
                    refine wp_region_G (S0 := (fun W : World => Below W5.heap.size W5 W)) (S1 := (fun W : World => Below W5.heap.size W5 W)) (c := 99) (by kernel_rfl) ?_
                    have hHeld := (below_drew (Below.refl W5.heap.size W5))
                    have h01 := (fun (W : World) (h : (fun W : World => Below W5.heap.size W5 W) W) => h)
                    refine wpG_takeB (i := 0) (oi := ⟨some 264, _, _, _, _, _⟩) (v := .pointer (some ⟨g, 0, none⟩)) rfl (by kernel_rfl) (by kernel_rfl) (by kernel_rfl) (by decide) (fun _ _ _ h => h) h01 rfl hHeld (Or.inl ⟨by rfl, ?_⟩) ?_
                    · (intro W9 hSw; have s1 := (HWP5.out.b2.below hSw HWP5.out.b2.lt).cell 0; simp only [List.getElem?_toArray, List.getElem?_cons_zero, List.getElem?_cons_succ] at s1; go_simp; (try (first | with_reducible rfl | rfl | (simp; done))))
                    try simp only [Act.put, List.setIfInBounds_toArray, List.set_cons_zero, List.set_cons_succ]
                    refine wpG_takeB (i := 2) (oi := ⟨some 266, _, _, _, _, _⟩) (v := .string St) rfl (by kernel_rfl) (by kernel_rfl) (by kernel_rfl) (by decide) (fun _ _ _ h => h) h01 rfl hHeld (Or.inl ⟨by rfl, ?_⟩) ?_
                    · (intro W9 hSw; have s1 := (HWP5.out.b2.below hSw HWP5.out.b2.lt).cell 0; simp only [List.getElem?_toArray, List.getElem?_cons_zero, List.getElem?_cons_succ] at s1; go_simp; (try (first | with_reducible rfl | rfl | (simp; done))))
                    try simp only [Act.put, List.setIfInBounds_toArray, List.set_cons_zero, List.set_cons_succ]
                    refine wpG_takeB (i := 3) (oi := ⟨some 267, _, _, _, _, _⟩) (v := .int .i64 aa) rfl (by kernel_rfl) (by kernel_rfl) (by kernel_rfl) (by decide) (fun _ _ _ h => h) h01 rfl hHeld (Or.inl ⟨by rfl, ?_⟩) ?_
                    · (intro W9 hSw; have s1 := (HWP5.out.b2.below hSw HWP5.out.b2.lt).cell 0; simp only [List.getElem?_toArray, List.getElem?_cons_zero, List.getElem?_cons_succ] at s1; go_simp; (try (first | with_reducible rfl | rfl | (simp; done))))
                    try simp only [Act.put, List.setIfInBounds_toArray, List.set_cons_zero, List.set_cons_succ]
                    refine wpG_oneB (i := 1) (o := ⟨some 265, _, _, _, _, _⟩) (by kernel_rfl) rfl rfl (fun K hK => ?_)
                    go_simp
                    (with_reducible refine (C15.out _ (below_drew (Below.refl W5.heap.size W5))).mono ?_); rintro e w6 ⟨rfl, hb6⟩
                    have HB6 := Lib.hid ((below_drew (Below.refl W5.heap.size W5)).trans (hb6.mono (Nat.le_refl _)))
                    clear hb6
                    refine hK.out _ _ HB6.out (fun hHeld => ?_)
                    clear hK K
                    try simp only [Act.put, List.setIfInBounds_toArray, List.set_cons_zero, List.set_cons_succ]
                    refine wpG_oneB (i := 4) (o := ⟨some 268, _, _, _, _, _⟩) (by kernel_rfl) rfl rfl (fun K hK => ?_)
                    go_simp
                    (with_reducible refine (C18.out _).mono ?_); rintro e w7 ⟨rfl, hb7⟩
                    have HB7 := Lib.hid (HB6.out.trans (hb7.mono HB6.out.size))
                    clear hb7
                    refine hK.out _ _ HB7.out (fun hHeld => ?_)
                    clear hK K
                    try simp only [Act.put, List.setIfInBounds_toArray, List.set_cons_zero, List.set_cons_succ]
                    refine wpG_takeB (i := 5) (oi := ⟨some 269, _, _, _, _, _⟩) (v := .bool false) rfl (by kernel_rfl) (by kernel_rfl) (by kernel_rfl) (by decide) (fun _ _ _ h => h) h01 rfl hHeld (Or.inl ⟨by rfl, ?_⟩) ?_
                    · (intro W9 hSw; have s1 := (HWP5.out.b2.below hSw HWP5.out.b2.lt).cell 0; simp only [List.getElem?_toArray, List.getElem?_cons_zero, List.getElem?_cons_succ] at s1; go_simp; (try (first | with_reducible rfl | rfl | (simp; done))))
                    try simp only [Act.put, List.setIfInBounds_toArray, List.set_cons_zero, List.set_cons_succ]
                    refine wpG_done (by kernel_rfl) ?_ _
                    clear hHeld h01
                    refine NoPanic.normal ?_
                    go_wp2_with fail
                    go_roundw
                    case rel => exact ⟨i + 1, by have := HLTi.out; omega, by go_num, Lib.hid ⟨_, _, _, _, _, HRD5.out.below HB7.out, HWP5.out.below HB7.out, HUS2.out, HUL2.out⟩⟩
                    case measure => have := HLTi.out; simp [intOf]; omega
              · obtain ⟨A3, c3, hrd, hwp⟩ := HMV.out
                obtain ⟨A9n, hA9⟩ : ∃ x, A9 = x := ⟨_, rfl⟩
                obtain ⟨c9n, hc9⟩ : ∃ x, c9 = x := ⟨_, rfl⟩
                rw [hA9, hc9] at hwp
                have HWP5 := Lib.hid hwp
                have HRD5 := Lib.hid hrd
                clear hrd hwp hA9 hc9
                go_upto_region 46 with fail
                clear q4
                generalize wc = W5 at *
                have w8 := HWP5.out.w8.cell 0
                have s1 := HWP5.out.b2.cell 0
                simp only [List.getElem?_toArray, List.getElem?_cons_zero, List.getElem?_cons_succ] at w8 s1
                cases us2 with
                | nil =>
                  as_aux_lemma =>
                    have C15 := Lib.hid (fun W (hb : Below W5.heap.size W5 W) => place_end W (HRD5.out.below hb) rfl)
                    have C18 := Lib.hid (fun W => C18.out L.length W (Nat.le_refl _))
                    rw [HXE.out.1, HXE.out.2, ← HLN.out] at C18
                    go_upto_region 49 with fail
                    clear s1 w8
                    refine wp_region_noPanic ?_
                    refine wp_region_G (S0 := (fun W : World => Below W5.heap.size W5 W)) (S1 := (fun W : World => Below W5.heap.size W5 W)) (c := 99) (by kernel_rfl) ?_
                    have hHeld := (below_drew (Below.refl W5.heap.size W5))
                    have h01 := (fun (W : World) (h : (fun W : World => Below W5.heap.size W5 W) W) => h)
                    refine wpG_takeB (i := 0) (oi := ⟨some 264, _, _, _, _, _⟩) (v := .pointer (some ⟨g, 0, none⟩)) rfl (by kernel_rfl) (by kernel_rfl) (by kernel_rfl) (by decide) (fun _ _ _ h => h) h01 rfl hHeld (Or.inl ⟨by rfl, ?_⟩) ?_
                    · (intro W9 hSw; have s1 := (HWP5.out.b2.below hSw HWP5.out.b2.lt).cell 0; simp only [List.getElem?_toArray, List.getElem?_cons_zero, List.getElem?_cons_succ] at s1; go_simp; (try (first | with_reducible rfl | rfl | (simp; done))))
                    try simp only [Act.put, List.setIfInBounds_toArray, List.set_cons_zero, List.set_cons_succ]
                    refine wpG_takeB (i := 2) (oi := ⟨some 266, _, _, _, _, _⟩) (v := .string St) rfl (by kernel_rfl) (by kernel_rfl) (by kernel_rfl) (by decide) (fun _ _ _ h => h) h01 rfl hHeld (Or.inl ⟨by rfl, ?_⟩) ?_
                    · (intro W9 hSw; have s1 := (HWP5.out.b2.below hSw HWP5.out.b2.lt).cell 0; simp only [List.getElem?_toArray, List.getElem?_cons_zero, List.getElem?_cons_succ] at s1; go_simp; (try (first | with_reducible rfl | rfl | (simp; done))))
                    try simp only [Act.put, List.setIfInBounds_toArray, List.set_cons_zero, List.set_cons_succ]
                    refine wpG_takeB (i := 3) (oi := ⟨some 267, _, _, _, _, _⟩) (v := .int .i64 (St.size : Int)) rfl (by kernel_rfl) (by kernel_rfl) (by kernel_rfl) (by decide) (fun _ _ _ h => h) h01 rfl hHeld (Or.inl ⟨by rfl, ?_⟩) ?_
                    · (intro W9 hSw; have s1 := (HWP5.out.b2.below hSw HWP5.out.b2.lt).cell 0; simp only [List.getElem?_toArray, List.getElem?_cons_zero, List.getElem?_cons_succ] at s1; go_simp; (try (first | with_reducible rfl | rfl | (simp; done))))
                    try simp only [Act.put, List.setIfInBounds_toArray, List.set_cons_zero, List.set_cons_succ]
                    refine wpG_oneB (i := 1) (o := ⟨some 265, _, _, _, _, _⟩) (by kernel_rfl) rfl rfl (fun K hK => ?_)
                    go_simp
                    (with_reducible refine (C15.out _ (below_drew (Below.refl W5.heap.size W5))).mono ?_); rintro e w6 ⟨rfl, hb6⟩
                    have HB6 := Lib.hid ((below_drew (Below.refl W5.heap.size W5)).trans (hb6.mono (Nat.le_refl _)))
                    clear hb6
                    refine hK.out _ _ HB6.out (fun hHeld => ?_)
                    clear hK K
                    try simp only [Act.put, List.setIfInBounds_toArray, List.set_cons_zero, List.set_cons_succ]
                    refine wpG_oneB (i := 4) (o := ⟨some 268, _, _, _, _, _⟩) (by kernel_rfl) rfl rfl (fun K hK => ?_)
                    go_simp
                    (with_reducible refine (C18.out _).mono ?_); rintro e w7 ⟨rfl, hb7⟩
                    have HB7 := Lib.hid (HB6.out.trans (hb7.mono HB6.out.size))
                    clear hb7
                    refine hK.out _ _ HB7.out (fun hHeld => ?_)
                    clear hK K
                    try simp only [Act.put, List.setIfInBounds_toArray, List.set_cons_zero, List.set_cons_succ]
                    refine wpG_takeB (i := 5) (oi := ⟨some 269, _, _, _, _, _⟩) (v := .bool false) rfl (by kernel_rfl) (by kernel_rfl) (by kernel_rfl) (by decide) (fun _ _ _ h => h) h01 rfl hHeld (Or.inl ⟨by rfl, ?_⟩) ?_
                    · (intro W9 hSw; have s1 := (HWP5.out.b2.below hSw HWP5.out.b2.lt).cell 0; simp only [List.getElem?_toArray, List.getElem?_cons_zero, List.getElem?_cons_succ] at s1; go_simp; (try (first | with_reducible rfl | rfl | (simp; done))))
                    try simp only [Act.put, List.setIfInBounds_toArray, List.set_cons_zero, List.set_cons_succ]
                    refine wpG_done (by kernel_rfl) ?_ _
                    clear hHeld h01
                    refine NoPanic.normal ?_
                    go_wp2_with fail
                    go_roundw
                    case rel => exact ⟨i + 1, by have := HLTi.out; omega, by go_num, Lib.hid ⟨_, _, _, _, _, HRD5.out.below HB7.out, HWP5.out.below HB7.out, HUS2.out, HUL2.out⟩⟩
                    case measure => have := HLTi.out; simp [intOf]; omega
                | cons t2 us3 =>
                  as_aux_lemma =>
                    obtain ⟨gq, oq, rfl, e0, e1, e2, e3⟩ := HWP5.out.ts.head4
                    have C15 := Lib.hid (fun W (hb : Below W5.heap.size W5 W) => place_tok W (HRD5.out.below hb) (by simp) (take5 L t2 us3))
                    have C18 := Lib.hid (fun W => C18.out t2.a W (HUS2.out t2 (List.mem_cons_self ..)))
                    obtain ⟨m2, hm2⟩ : ∃ m2, (t2 :: us3).length = m2 := ⟨_, rfl⟩
                    have hmp : (0 : Int) < m2 := by rw [← hm2]; simp
                    have qm : decide (0 < m2) = true := by simpa using hmp
                    rw [hm2] at w8
                    obtain ⟨aa, ha⟩ : ∃ a : Int, (t2.a : Int) = a := ⟨_, rfl⟩
                    rw [ha] at e3 C18
                    generalize ((lcOf L t2.a).1 : Int) = ln at *
                    generalize ((lcOf L t2.a).2 : Int) = cl at *
                    clear hm2 ha e0 e1 e2
                    go_upto_region 49 with fail
                    clear s1 w8 e3
                    refine wp_region_noPanic ?_
                    refine wp_region_G (S0 := (fun W : World => Below W5.heap.size W5 W)) (S1 := (fun W : World => Below W5.heap.size W5 W)) (c := 99) (by kernel_rfl) ?_
                    have hHeld := (below_drew (Below.refl W5.heap.size W5))
                    have h01 := (fun (W : World) (h : (fun W : World => Below W5.heap.size W5 W) W) => h)
                    refine wpG_takeB (i := 0) (oi := ⟨some 264, _, _, _, _, _⟩) (v := .pointer (some ⟨g, 0, none⟩)) rfl (by kernel_rfl) (by kernel_rfl) (by kernel_rfl) (by decide) (fun _ _ _ h => h) h01 rfl hHeld (Or.inl ⟨by rfl, ?_⟩) ?_
                    · (intro W9 hSw; have s1 := (HWP5.out.b2.below hSw HWP5.out.b2.lt).cell 0; simp only [List.getElem?_toArray, List.getElem?_cons_zero, List.getElem?_cons_succ] at s1; go_simp; (try (first | with_reducible rfl | rfl | (simp; done))))
                    try simp only [Act.put, List.setIfInBounds_toArray, List.set_cons_zero, List.set_cons_succ]
                    refine wpG_takeB (i := 2) (oi := ⟨some 266, _, _, _, _, _⟩) (v := .string St) rfl (by kernel_rfl) (by kernel_rfl) (by kernel_rfl) (by decide) (fun _ _ _ h => h) h01 rfl hHeld (Or.inl ⟨by rfl, ?_⟩) ?_
                    · (intro W9 hSw; have s1 := (HWP5.out.b2.below hSw HWP5.out.b2.lt).cell 0; simp only [List.getElem?_toArray, List.getElem?_cons_zero, List.getElem?_cons_succ] at s1; go_simp; (try (first | with_reducible rfl | rfl | (simp; done))))
                    try simp only [Act.put, List.setIfInBounds_toArray, List.set_cons_zero, List.set_cons_succ]
                    refine wpG_takeB (i := 3) (oi := ⟨some 267, _, _, _, _, _⟩) (v := .int .i64 aa) rfl (by kernel_rfl) (by kernel_rfl) (by kernel_rfl) (by decide) (fun _ _ _ h => h) h01 rfl hHeld (Or.inl ⟨by rfl, ?_⟩) ?_
                    · (intro W9 hSw; have s1 := (HWP5.out.b2.below hSw HWP5.out.b2.lt).cell 0; simp only [List.getElem?_toArray, List.getElem?_cons_zero, List.getElem?_cons_succ] at s1; go_simp; (try (first | with_reducible rfl | rfl | (simp; done))))
                    try simp only [Act.put, List.setIfInBounds_toArray, List.set_cons_zero, List.set_cons_succ]
                    refine wpG_oneB (i := 1) (o := ⟨some 265, _, _, _, _, _⟩) (by kernel_rfl) rfl rfl (fun K hK => ?_)
                    go_simp
                    (with_reducible refine (C15.out _ (below_drew (Below.refl W5.heap.size W5))).mono ?_); rintro e w6 ⟨rfl, hb6⟩
                    have HB6 := Lib.hid ((below_drew (Below.refl W5.heap.size W5)).trans (hb6.mono (Nat.le_refl _)))
                    clear hb6
                    refine hK.out _ _ HB6.out (fun hHeld => ?_)
                    clear hK K
                    try simp only [Act.put, List.setIfInBounds_toArray, List.set_cons_zero, List.set_cons_succ]
                    refine wpG_oneB (i := 4) (o := ⟨some 268, _, _, _, _, _⟩) (by kernel_rfl) rfl rfl (fun K hK => ?_)
                    go_simp
                    (with_reducible refine (C18.out _).mono ?_); rintro e w7 ⟨rfl, hb7⟩
                    have HB7 := Lib.hid (HB6.out.trans (hb7.mono HB6.out.size))
                    clear hb7
                    refine hK.out _ _ HB7.out (fun hHeld => ?_)
                    clear hK K
                    try simp only [Act.put, List.setIfInBounds_toArray, List.set_cons_zero, List.set_cons_succ]
                    refine wpG_takeB (i := 5) (oi := ⟨some 269, _, _, _, _, _⟩) (v := .bool false) rfl (by kernel_rfl) (by kernel_rfl) (by kernel_rfl) (by decide) (fun _ _ _ h => h) h01 rfl hHeld (Or.inl ⟨by rfl, ?_⟩) ?_
                    · (intro W9 hSw; have s1 := (HWP5.out.b2.below hSw HWP5.out.b2.lt).cell 0; simp only [List.getElem?_toArray, List.getElem?_cons_zero, List.getElem?_cons_succ] at s1; go_simp; (try (first | with_reducible rfl | rfl | (simp; done))))
                    try simp only [Act.put, List.setIfInBounds_toArray, List.set_cons_zero, List.set_cons_succ]
                    refine wpG_done (by kernel_rfl) ?_ _
                    clear hHeld h01
                    refine NoPanic.normal ?_
                    go_wp2_with fail
                    go_roundw
                    case rel => exact ⟨i + 1, by have := HLTi.out; omega, by go_num, Lib.hid ⟨_, _, _, _, _, HRD5.out.below HB7.out, HWP5.out.below HB7.out, HUS2.out, HUL2.out⟩⟩
                    case measure => have := HLTi.out; simp [intOf]; omega
      · obtain ⟨Nn, hNn⟩ : ∃ Nn, us.length = Nn := ⟨_, rfl⟩
        have HNN := Lib.hid hNn
        have C13 := Lib.hid (rest_any wr HRD.out (tkc_one L us) (by have := HUL.out; omega))
        have C10 := Lib.hid (fun W (hb : Below wr.heap.size wr W) => (show Calls Tryd.prog 10 #[.pointer (some ⟨g, 0, none⟩)] W (fun e w' => (∃ v, e = .returned v) ∧ Only (fun q => q = g) W w') from by
          have hrd := HRD.out.below hb
          cases us with
          | nil => exact (next_end W hrd rfl).mono fun e w' hh => ⟨⟨_, hh.1⟩, Only.of_below (p := fun q => q = g) hh.2⟩
          | cons t us' => exact (next_yes W hrd (by simp) (take5 L t us')).mono fun e w' hh => by obtain ⟨A', h1, h2, -⟩ := hh; exact ⟨⟨_, h1⟩, h2⟩))
        rw [hNn] at C13
        clear hNn
        go_upto_region 54 with (go_at_call 13; (with_reducible refine C13.out.mono ?_); rintro e w1 ⟨gs, As, cs, rfl, hge, hks, hown, hb1⟩; have HGE := Lib.hid hge; have HKS := Lib.hid hks; have HOW := Lib.hid hown; have HB1 := Lib.hid hb1; clear hge hks hown hb1; unfold fn47)
        go_upto_region 55 with (go_at_call 10; (with_reducible refine (C10.out _ HB1.out).mono ?_); rintro e W7 ⟨⟨v, rfl⟩, ho⟩; have HO := Lib.hid ho; clear ho)
        have HgW : Hid (g < wr.heap.size) := Lib.hid HRD.out.b.lt
        have WP7 : Hid (WP w W7 g g8 St none A9 c9 us) := Lib.hid ((HWP.out.below HB1.out).only HO.out (fun b hb => by cases hb))
        have KS7 : Hid (Blk W7 gs 24 #[.slice As Nn cs]) := Lib.hid (HKS.out.only HO.out (by have := HGE.out; have := HgW.out; omega))
        have OW7 : Hid (W7.ownsRow wr.heap.size 32 5 (.slice As Nn cs) Nn (us.flatMap (TkC L))) := Lib.hid (own_only HOW.out HO.out (fun k hk e => by have := (HOW.out.lt k hk).1; have := HgW.out; omega))
        have B7w := Lib.hid WP7.out.bl
        have HS7 : Hid (w.heap.size + 2 ≤ W7.heap.size) := Lib.hid (by have := WP7.out.b4.lt; omega)
        have hFD : ∀ k, RowF As Nn cs k → k < W7.heap.size := fun k hk => own_lt OW7.out k hk
        clear HKS HOW HB1 HO HgW HGE C13 C10
        go_wp2_with fail
        have KT := Lib.hid (Blk.new W7 3 #[.int .i64 ((0 : Nat) : Int)])
        have BT := Lib.hid ((Below.refl W7.heap.size W7).alloc (Nat.le_refl _) (.cells #[.int .i64 0] 3))
        clear hlt hi hn60 hnf
        refine (wpIn_wide (n := 99)).1 ?_
        refine wpIn_loop (SLoop w.heap.size g8 gs W7)
          (fun a W => 2 - turnOf (a.tmps.getD 26 undef) W) ⟨0, W7.heap.size, [], rfl, rfl, rfl, rfl, rfl, rfl, rfl, by omega, KT.out, Nat.le_refl _, BT.out, List.nodup_nil, fun D hD => by cases hD⟩ ?_
        rintro ⟨tm, df⟩ W ⟨t, Bt, Ds, hsz, h2, h4, h8, h25, h26, hdf, ht, hkt, hbt, hb, hM⟩
        dsimp only at hsz h2 h4 h8 h25 h26 hdf ⊢
        obtain ⟨x, hx⟩ : ∃ x : Nat → Value, (fun k => tm.getD k undef) = x := ⟨_, rfl⟩
        have e : tm = #[x 0, x 1, x 2, x 3, x 4, x 5, x 6, x 7, x 8, x 9, x 10, x 11, x 12, x 13, x 14, x 15, x 16, x 17, x 18, x 19, x 20, x 21, x 22, x 23, x 24, x 25, x 26, x 27, x 28, x 29, x 30, x 31, x 32, x 33, x 34, x 35, x 36, x 37, x 38, x 39, x 40, x 41, x 42, x 43, x 44, x 45, x 46, x 47, x 48, x 49, x 50, x 51, x 52, x 53, x 54, x 55, x 56, x 57, x 58, x 59, x 60, x 61, x 62, x 63, x 64, x 65, x 66, x 67, x 68, x 69, x 70, x 71, x 72, x 73, x 74, x 75, x 76, x 77, x 78, x 79, x 80, x 81, x 82, x 83, x 84, x 85, x 86, x 87, x 88, x 89, x 90, x 91, x 92, x 93, x 94, x 95, x 96, x 97, x 98, x 99, x 100, x 101, x 102, x 103, x 104, x 105, x 106, x 107, x 108, x 109, x 110, x 111, x 112, x 113, x 114, x 115, x 116, x 117, x 118, x 119, x 120, x 121, x 122, x 123, x 124, x 125, x 126, x 127, x 128, x 129, x 130, x 131, x 132, x 133, x 134, x 135, x 136, x 137, x 138, x 139, x 140, x 141, x 142, x 143, x 144, x 145, x 146, x 147, x 148, x 149, x 150, x 151, x 152, x 153, x 154, x 155, x 156, x 157, x 158, x 159, x 160, x 161, x 162, x 163, x 164, x 165, x 166, x 167, x 168, x 169, x 170, x 171, x 172, x 173, x 174, x 175, x 176, x 177, x 178, x 179, x 180, x 181, x 182, x 183, x 184, x 185, x 186, x 187, x 188, x 189, x 190, x 191, x 192, x 193, x 194, x 195, x 196, x 197, x 198, x 199, x 200, x 201, x 202, x 203, x 204, x 205, x 206, x 207, x 208, x 209, x 210, x 211, x 212, x 213, x 214, x 215, x 216, x 217, x 218, x 219, x 220, x 221, x 222, x 223, x 224, x 225, x 226, x 227, x 228, x 229, x 230, x 231, x 232, x 233, x 234, x 235, x 236, x 237, x 238, x 239, x 240, x 241, x 242, x 243, x 244, x 245, x 246, x 247, x 248, x 249, x 250, x 251, x 252, x 253, x 254, x 255, x 256, x 257, x 258, x 259, x 260, x 261, x 262, x 263, x 264, x 265, x 266, x 267, x 268, x 269, x 270, x 271, x 272, x 273, x 274, x 275, x 276, x 277, x 278, x 279, x 280, x 281, x 282, x 283, x 284, x 285, x 286, x 287, x 288, x 289, x 290, x 291, x 292, x 293, x 294, x 295, x 296, x 297, x 298, x 299, x 300, x 301, x 302, x 303, x 304, x 305, x 306, x 307, x 308, x 309, x 310, x 311, x 312, x 313, x 314, x 315, x 316, x 317, x 318, x 319, x 320, x 321, x 322, x 323, x 324] := (arr_lit tm 325 hsz).trans (by rw [hx]; rfl)
        have y2 := (congrFun hx 2).symm.trans h2
        have y4 := (congrFun hx 4).symm.trans h4
        have y8 := (congrFun hx 8).symm.trans h8
        have y25 := (congrFun hx 25).symm.trans h25
        have y26 := (congrFun hx 26).symm.trans h26
        rw [y2, y4, y8, y25, y26] at e
        clear y2 y4 y8 y25 y26 h2 h4 h8 h25 h26 hsz hx
        subst e hdf
        have HT := Lib.hid hkt
        have HBb := Lib.hid hb
        have HMk := Lib.hid hM
        have ct := hkt.cell 0
        simp at ct
        clear hkt hb hM
        refine wpIn_wide.2 ?_
        by_cases hlt : (t : Int) < 2
        · have ht2 : t < 2 := by omega
          go_wp2_with fail
          obtain ⟨Wk, hWk⟩ : ∃ Wk, W.alloc (.cells #[.int .i64 0] 3) = Wk := ⟨_, rfl⟩
          have hbk : Below W.heap.size W Wk := hWk ▸ (Below.refl _ _).alloc (Nat.le_refl _) _
          have hzk : Wk.heap.size = W.heap.size + 1 := by rw [← hWk]; simp
          have kk : Blk Wk W.heap.size 3 #[.int .i64 ((0 : Nat) : Int)] := hWk ▸ Blk.new W 3 _
          have hb7k := HBb.out.trans (hbk.mono HBb.out.size)
          have htk := HT.out.below hbk HT.out.lt
          have hMk : Marks W7.heap.size Ds Wk := ⟨HMk.out.nodup, fun D hD => ⟨(HMk.out.there D hD).1, (hbk.block D (HMk.out.lt D hD)).trans (HMk.out.there D hD).2⟩⟩
          have hDlt := HMk.out.lt
          have hBt := HT.out.lt
          rw [hWk]
          obtain ⟨Bk, hBk⟩ : ∃ b, W.heap.size = b := ⟨_, rfl⟩
          have h7k : W7.heap.size ≤ Bk := hBk ▸ HBb.out.size
          rw [hBk] at hzk kk hDlt hBt ⊢
          have HKlt := Lib.hid KS7.out.lt
          clear hWk hbk hBk ct
          refine (wpIn_wide (n := 99)).1 ?_
          refine wpIn_iter (N := Nn) (At := TAt L us) (Kp := LKp (RowF As Nn cs)) (Step := fun X Y => Below X.heap.size X Y) rfl (by omega) (gf := 47) (lb := #[.pointer (some ⟨gs, 0, none⟩)]) rfl trivial (enters_of Tryd.func47 (by kernel_rfl) rfl)
            (fun W1 hb1 hz1 => by
              have hb71 := hb7k.trans (hb1.mono hb7k.size)
              exact tok_iter 98 W1 wr.heap.size gs L us As Nn cs (KS7.out.below hb71 HKlt.out) (own_keeps OW7.out fun q hq => hb71.block q (own_lt OW7.out q hq)) HNN.out (by have := HUL.out; have := HNN.out; omega))
            (fun X Y hXY k hk hkX => hXY.block k hkX)
            (fun vs X => lkp_calm Wk.heap.size (RowF As Nn cs) (fun k hk => by have := hFD k hk; omega) vs X)
            (fun i vs X ⟨k, _, h⟩ => by rw [h]; rfl)
            (fun j X => SI W7 Bk Bt Ds Wk.heap.size t j X)
            (fun cd j X => SX W7 Bk Bt Ds Wk.heap.size t cd j X)
            ?hI ?hIx ?hIS ?hIxS ?h0
            (fun j vs X a' Wx => (a'.tmps.size = 325 ∧ a'.tmps.getD 2 undef = .pointer (some ⟨w.heap.size, 0, none⟩) ∧ a'.tmps.getD 4 undef = .pointer (some ⟨w.heap.size + 1, 0, none⟩) ∧ a'.tmps.getD 8 undef = .pointer (some ⟨g8, 0, none⟩) ∧ a'.tmps.getD 25 undef = .func (.func 47) #[] #[.pointer (some ⟨gs, 0, none⟩)] ∧ a'.tmps.getD 26 undef = .pointer (some ⟨Bt, 0, none⟩) ∧ a'.tmps.getD 27 undef = .pointer (some ⟨Bk, 0, none⟩) ∧ a'.defers = []) ∧ LKp (RowF As Nn cs) vs X Wx ∧ SI W7 Bk Bt Ds Wk.heap.size t j Wx ∧ ∃ tk bx, us[j]? = some tk ∧ Wk.heap.size ≤ bx ∧ a'.tmps.getD 28 undef = .pointer (some ⟨bx, 0, none⟩) ∧ Blk Wx bx 32 (TkC L tk).toArray)
            ?hAx ?assign ?body ?done ?stop
          case hI => exact fun j X k o o' hk hX ho ⟨h1, h2, h3, h4, h5, h6⟩ => ⟨h1.calm hX ho, h2.calm hX ho, below_calm h3 (by omega) hX, h4.put (fun hD => by have := hDlt k hD; omega) _, by rw [size_putObj]; exact h5, h6⟩
          case hIx => exact fun cd j X k o o' hk hX ho ⟨h0, h1, h2, h3, h4, h5, h6, h7⟩ => ⟨h0, h1.calm hX ho, h2.calm hX ho, below_calm h3 (by omega) hX, h4.put (fun hD => by have := hDlt k hD; omega) _, by rw [size_putObj]; exact h5, h6, h7⟩
          case hIS => exact fun j X Y ⟨h1, h2, h3, h4, h5, h6⟩ hs => ⟨h1.below hs h1.lt, h2.below hs h2.lt, h3.trans (hs.mono h3.size), ⟨h4.nodup, fun D hD => ⟨(h4.there D hD).1, (hs.block D (h4.lt D hD)).trans (h4.there D hD).2⟩⟩, Nat.le_trans h5 hs.size, h6⟩
          case hIxS => exact fun cd j X Y ⟨h0, h1, h2, h3, h4, h5, h6, h7⟩ hs => ⟨h0, h1.below hs h1.lt, h2.below hs h2.lt, h3.trans (hs.mono h3.size), ⟨h4.nodup, fun D hD => ⟨(h4.there D hD).1, (hs.block D (h4.lt D hD)).trans (h4.there D hD).2⟩⟩, Nat.le_trans h5 hs.size, h6, h7⟩
          case h0 => exact fun W1 hb1 hz1 => ⟨kk.below hb1 kk.lt, htk.below hb1 htk.lt, hb7k.trans (hb1.mono hb7k.size), ⟨hMk.nodup, fun D hD => ⟨(hMk.there D hD).1, (hb1.block D (hMk.lt D hD)).trans (hMk.there D hD).2⟩⟩, hb1.size, fun _ => by omega⟩
          case hAx => exact fun j vs X0 a' X k o o' hk hX ho ⟨ha, hf, ⟨h1, h2, h3, h4, h5, h6⟩, k9, bx, p1, p2, p3, p5⟩ => ⟨ha, lkp_calm Wk.heap.size (RowF As Nn cs) (fun k hk => by have := hFD k hk; omega) vs X0 X k o o' hk hX ho hf, ⟨h1.calm hX ho, h2.calm hX ho, below_calm h3 (by omega) hX, h4.put (fun hD => by have := hDlt k hD; omega) _, by rw [size_putObj]; exact h5, h6⟩, k9, bx, p1, p2, p3, p5.calm hX ho⟩
          case assign =>
            rintro l' j vs X K hl hj hI ⟨tk, hx, rfl⟩ hlt2 hK
            have hs := (Below.refl X.heap.size X).alloc (Nat.le_refl _) (.cells #[.int .i64 (tk.k : Int), .string ⟨tk.t.toArray⟩, .int .i64 tk.v, .int .i64 ((lcOf L tk.a).1 : Int), .int .i64 ((lcOf L tk.a).2 : Int)] 32)
            have hTC : (TkC L tk).toArray = #[.int .i64 (tk.k : Int), .string ⟨tk.t.toArray⟩, .int .i64 tk.v, .int .i64 ((lcOf L tk.a).1 : Int), .int .i64 ((lcOf L tk.a).2 : Int)] := rfl
            have hsz := Lib.hid hI.size
            have HS := Lib.hid hs
            have HI9 := Lib.hid hI
            have HX9 := Lib.hid hx
            have HL9 := Lib.hid hl
            have HZ9 := Lib.hid hzk
            rw [hTC] at hK ⊢
            clear hs hI hx hl hzk hlt2 hTC
            gi_wp2_with fail
            have hl := HL9.out
            have hzk := HZ9.out
            have hs := HS.out
            have hx := HX9.out
            obtain ⟨h1, h2, h3, h4, h5, h6⟩ := HI9.out
            refine hK _ _ (keeps_below hs _) ⟨⟨rfl, rfl, rfl, rfl, rfl, rfl, rfl, rfl⟩, ⟨hs.size, fun i hi => hs.block i (by have := hFD i hi; have := h3.size; omega)⟩, ⟨h1.below hs h1.lt, h2.below hs h2.lt, h3.trans (hs.mono h3.size), ⟨h4.nodup, fun D hD => ⟨(h4.there D hD).1, (hs.block D (h4.lt D hD)).trans (h4.there D hD).2⟩⟩, Nat.le_trans h5 hs.size, h6⟩, tk, X.heap.size, hx, hsz.out, rfl, Blk.new X 32 _⟩
          case body =>
            rintro l' j vs X ⟨tm, df⟩ Wx hl hj hr ⟨⟨hsz, h2, h4, h8, h25, h26, h27, hdf⟩, hf, ⟨i1, i2, i3, i4, i5, i6⟩, tk, bx, hkq, hbx, h28, hb28⟩
            as_aux_lemma =>
              have HZK := Lib.hid hzk
              clear hzk
              dsimp only at hsz h2 h4 h8 h25 h26 h27 h28 hdf ⊢
              obtain ⟨z, hz⟩ : ∃ z : Nat → Value, (fun k => tm.getD k undef) = z := ⟨_, rfl⟩
              have e : tm = #[z 0, z 1, z 2, z 3, z 4, z 5, z 6, z 7, z 8, z 9, z 10, z 11, z 12, z 13, z 14, z 15, z 16, z 17, z 18, z 19, z 20, z 21, z 22, z 23, z 24, z 25, z 26, z 27, z 28, z 29, z 30, z 31, z 32, z 33, z 34, z 35, z 36, z 37, z 38, z 39, z 40, z 41, z 42, z 43, z 44, z 45, z 46, z 47, z 48, z 49, z 50, z 51, z 52, z 53, z 54, z 55, z 56, z 57, z 58, z 59, z 60, z 61, z 62, z 63, z 64, z 65, z 66, z 67, z 68, z 69, z 70, z 71, z 72, z 73, z 74, z 75, z 76, z 77, z 78, z 79, z 80, z 81, z 82, z 83, z 84, z 85, z 86, z 87, z 88, z 89, z 90, z 91, z 92, z 93, z 94, z 95, z 96, z 97, z 98, z 99, z 100, z 101, z 102, z 103, z 104, z 105, z 106, z 107, z 108, z 109, z 110, z 111, z 112, z 113, z 114, z 115, z 116, z 117, z 118, z 119, z 120, z 121, z 122, z 123, z 124, z 125, z 126, z 127, z 128, z 129, z 130, z 131, z 132, z 133, z 134, z 135, z 136, z 137, z 138, z 139, z 140, z 141, z 142, z 143, z 144, z 145, z 146, z 147, z 148, z 149, z 150, z 151, z 152, z 153, z 154, z 155, z 156, z 157, z 158, z 159, z 160, z 161, z 162, z 163, z 164, z 165, z 166, z 167, z 168, z 169, z 170, z 171, z 172, z 173, z 174, z 175, z 176, z 177, z 178, z 179, z 180, z 181, z 182, z 183, z 184, z 185, z 186, z 187, z 188, z 189, z 190, z 191, z 192, z 193, z 194, z 195, z 196, z 197, z 198, z 199, z 200, z 201, z 202, z 203, z 204, z 205, z 206, z 207, z 208, z 209, z 210, z 211, z 212, z 213, z 214, z 215, z 216, z 217, z 218, z 219, z 220, z 221, z 222, z 223, z 224, z 225, z 226, z 227, z 228, z 229, z 230, z 231, z 232, z 233, z 234, z 235, z 236, z 237, z 238, z 239, z 240, z 241, z 242, z 243, z 244, z 245, z 246, z 247, z 248, z 249, z 250, z 251, z 252, z 253, z 254, z 255, z 256, z 257, z 258, z 259, z 260, z 261, z 262, z 263, z 264, z 265, z 266, z 267, z 268, z 269, z 270, z 271, z 272, z 273, z 274, z 275, z 276, z 277, z 278, z 279, z 280, z 281, z 282, z 283, z 284, z 285, z 286, z 287, z 288, z 289, z 290, z 291, z 292, z 293, z 294, z 295, z 296, z 297, z 298, z 299, z 300, z 301, z 302, z 303, z 304, z 305, z 306, z 307, z 308, z 309, z 310, z 311, z 312, z 313, z 314, z 315, z 316, z 317, z 318, z 319, z 320, z 321, z 322, z 323, z 324] := (arr_lit tm 325 hsz).trans (by rw [hz]; rfl)
              have y2 := (congrFun hz 2).symm.trans h2
              have y4 := (congrFun hz 4).symm.trans h4
              have y8 := (congrFun hz 8).symm.trans h8
              have y25 := (congrFun hz 25).symm.trans h25
              have y26 := (congrFun hz 26).symm.trans h26
              have y27 := (congrFun hz 27).symm.trans h27
              have y28 := (congrFun hz 28).symm.trans h28
              rw [y2, y4, y8, y25, y26, y27, y28] at e
              clear y2 h2 y4 h4 y8 h8 y25 h25 y26 h26 y27 h27 y28 h28 hsz hz
              subst e hdf
              have hjl : j < us.length := by rw [HNN.out]; exact hj
              have hts := WP7.out.ts.below i3
              obtain ⟨gL, oL, hgL, f0, f1, f2, f3⟩ := hts.at4 hjl
              have hkj : us[j] = tk := Option.some.inj ((List.getElem?_eq_getElem hjl).symm.trans hkq)
              rw [hkj] at f0 f1 f2 f3
              have C19 := Lib.hid (fun W => C19.out tk W (HUS.out tk (by rw [← hkj]; exact List.getElem_mem hjl)))
              unfold TkC RkC at C19
              have hTC : (TkC L tk).toArray = #[.int .i64 (tk.k : Int), .string ⟨tk.t.toArray⟩, .int .i64 tk.v, .int .i64 ((lcOf L tk.a).1 : Int), .int .i64 ((lcOf L tk.a).2 : Int)] := rfl
              rw [hTC] at hb28
              obtain ⟨k, hk⟩ : ∃ k : Int, (tk.k : Int) = k := ⟨_, rfl⟩
              obtain ⟨sn, hsn⟩ : ∃ S, (⟨tk.t.toArray⟩ : ByteArray) = S := ⟨_, rfl⟩
              obtain ⟨v, hv⟩ : ∃ v, tk.v = v := ⟨_, rfl⟩
              obtain ⟨aa, ha⟩ : ∃ a : Int, (tk.a : Int) = a := ⟨_, rfl⟩
              rw [hk] at f0
              rw [hsn] at f1
              rw [hv] at f2
              rw [ha] at f3
              rw [hk, hsn, hv, ha] at C19
              rw [hk, hsn, hv] at hb28
              generalize ((lcOf L tk.a).1 : Int) = ln at *
              generalize ((lcOf L tk.a).2 : Int) = cl at *
              have s0 := hb28.cell 0
              have s1 := hb28.cell 1
              have s2 := hb28.cell 2
              have s3 := hb28.cell 3
              have s4 := hb28.cell 4
              have ek := i1.cell 0
              have en := (WP7.out.w8.below i3 WP7.out.w8.lt).cell 0
              have es := (WP7.out.b2.below i3 WP7.out.b2.lt).cell 0
              simp only [List.getElem?_toArray, List.getElem?_cons_zero, List.getElem?_cons_succ] at s0 s1 s2 s3 s4 ek en es
              rw [HNN.out, hgL] at en
              have HSR : Hid (SReg Bk g8 gL oL bx w.heap.size j Nn c9 k v ln cl aa sn St Wx.drew) := Lib.hid ⟨ek, en, ⟨s0, s1, s2, s3, s4⟩, ⟨f0, f1, f2, f3⟩, es⟩
              have HH1 := Lib.hid (show W7.heap.size ≤ Bk ∧ Bt < Bk ∧ (∀ D ∈ Ds, D < Bk) ∧ t < 2 ∧ j < Nn ∧ j ≤ 500 from ⟨h7k, hBt, hDlt, ht2, hj, by have := HUL.out; omega⟩)
              have q1 : decide (Nn ≤ j) = false := by simp; omega
              have hj0 : (0 : Int) ≤ j := by omega
              have hjn : (j : Int) < Nn := by omega
              have I1 := Lib.hid i1
              have I2 := Lib.hid i2
              have I3 := Lib.hid i3
              have I4 := Lib.hid i4
              have I5 := Lib.hid i5
              have I6 := Lib.hid i6
              have HF := Lib.hid hf
              have HFD := Lib.hid hFD
              clear i1 i2 i3 i4 i5 i6 hf hr hkq hb28 hts f0 f1 f2 f3 s0 s1 s2 s3 s4 ek en es hkj hk hsn hv ha hTC hDlt hBt h7k hlt ht2 ht hbt hgL hjl hbx hFD hMk hj
              gi_wp2_with fail
              refine region_round (S := (SReg Bk g8 gL oL bx w.heap.size j Nn c9 k v ln cl aa sn St)) (c := 99) (by kernel_rfl) (by kernel_rfl) ?_
              have hHeld := HSR.out
              have h01 := (fun (W : World) (h : (SReg Bk g8 gL oL bx w.heap.size j Nn c9 k v ln cl aa sn St) W) => h)
              refine wpG_takeB (i := 0) (oi := ⟨some 282, _, _, _, _, _⟩) (v := .int .i64 (j : Int)) rfl (by kernel_rfl) (by kernel_rfl) (by kernel_rfl) (by decide) (fun _ _ _ h => by obtain ⟨h, -⟩ := h; cases h) h01 rfl hHeld (Or.inl ⟨by rfl, ?_⟩) ?_
              · (intro W9 hSw; obtain ⟨v1, v2, ⟨v3, v4, v5, v6, v7⟩, ⟨v8, v9, v10, v11⟩, v12⟩ := hSw; go_simp; (try (first | with_reducible rfl | rfl | (simp; done))))
              try simp only [Act.put, List.setIfInBounds_toArray, List.set_cons_zero, List.set_cons_succ]
              refine wpG_takeB (i := 1) (oi := ⟨some 283, _, _, _, _, _⟩) (v := .slice (some ⟨gL, oL, none⟩) Nn c9) rfl (by kernel_rfl) (by kernel_rfl) (by kernel_rfl) (by decide) (fun _ _ _ h => by obtain ⟨h, -⟩ := h; cases h) h01 rfl hHeld (Or.inl ⟨by rfl, ?_⟩) ?_
              · (intro W9 hSw; obtain ⟨v1, v2, ⟨v3, v4, v5, v6, v7⟩, ⟨v8, v9, v10, v11⟩, v12⟩ := hSw; go_simp; (try (first | with_reducible rfl | rfl | (simp; done))))
              try simp only [Act.put, List.setIfInBounds_toArray, List.set_cons_zero, List.set_cons_succ]
              refine wpG_takeB (i := 2) (oi := ⟨some 284, _, _, _, _, _⟩) (v := .int .i64 (Nn : Int)) rfl (by kernel_rfl) (by kernel_rfl) (by kernel_rfl) (by decide) (fun _ _ _ h => by obtain ⟨h, -⟩ := h; cases h) h01 rfl hHeld (Or.inl ⟨by rfl, ?_⟩) ?_
              · (intro W9 hSw; obtain ⟨v1, v2, ⟨v3, v4, v5, v6, v7⟩, ⟨v8, v9, v10, v11⟩, v12⟩ := hSw; go_simp; (try (first | with_reducible rfl | rfl | (simp; done))))
              try simp only [Act.put, List.setIfInBounds_toArray, List.set_cons_zero, List.set_cons_succ]
              refine wpG_takeB (i := 3) (oi := ⟨some 285, _, _, _, _, _⟩) (v := .bool false) rfl (by kernel_rfl) (by kernel_rfl) (by kernel_rfl) (by decide) (fun _ _ _ h => by obtain ⟨h, -⟩ := h; cases h) h01 rfl hHeld (Or.inl ⟨by rfl, ?_⟩) ?_
              · (intro W9 hSw; obtain ⟨v1, v2, ⟨v3, v4, v5, v6, v7⟩, ⟨v8, v9, v10, v11⟩, v12⟩ := hSw; go_simp; (try (first | with_reducible rfl | rfl | (simp; done))))
              try simp only [Act.put, List.setIfInBounds_toArray, List.set_cons_zero, List.set_cons_succ]
              refine wpG_takeB (i := 4) (oi := ⟨some 286, _, _, _, _, _⟩) (v := .bool false) rfl (by kernel_rfl) (by kernel_rfl) (by kernel_rfl) (by decide) (fun _ _ _ h => by obtain ⟨h, -⟩ := h; cases h) h01 rfl hHeld (Or.inl ⟨by rfl, ?_⟩) ?_
              · (intro W9 hSw; obtain ⟨v1, v2, ⟨v3, v4, v5, v6, v7⟩, ⟨v8, v9, v10, v11⟩, v12⟩ := hSw; go_simp; (try (first | with_reducible rfl | rfl | (simp; done))))
              try simp only [Act.put, List.setIfInBounds_toArray, List.set_cons_zero, List.set_cons_succ]
              refine wpG_takeB (i := 5) (oi := ⟨some 287, _, _, _, _, _⟩) (v := .agg #[.int .i64 k, .string sn, .int .i64 v, .int .i64 ln, .int .i64 cl]) rfl (by kernel_rfl) (by kernel_rfl) (by kernel_rfl) (by decide) (fun _ _ _ h => by obtain ⟨h, -⟩ := h; cases h) h01 rfl hHeld (Or.inl ⟨by rfl, ?_⟩) ?_
              · (intro W9 hSw; obtain ⟨v1, v2, ⟨v3, v4, v5, v6, v7⟩, ⟨v8, v9, v10, v11⟩, v12⟩ := hSw; go_simp; (try (first | with_reducible rfl | rfl | (simp; done))))
              try simp only [Act.put, List.setIfInBounds_toArray, List.set_cons_zero, List.set_cons_succ]
              refine wpG_takeB (i := 6) (oi := ⟨some 288, _, _, _, _, _⟩) (v := .slice (some ⟨gL, oL, none⟩) Nn c9) rfl (by kernel_rfl) (by kernel_rfl) (by kernel_rfl) (by decide) (fun _ _ _ h => by obtain ⟨h, -⟩ := h; cases h) h01 rfl hHeld (Or.inl ⟨by rfl, ?_⟩) ?_
              · (intro W9 hSw; obtain ⟨v1, v2, ⟨v3, v4, v5, v6, v7⟩, ⟨v8, v9, v10, v11⟩, v12⟩ := hSw; go_simp; (try (first | with_reducible rfl | rfl | (simp; done))))
              try simp only [Act.put, List.setIfInBounds_toArray, List.set_cons_zero, List.set_cons_succ]
              refine wpG_takeB (i := 7) (oi := ⟨some 289, _, _, _, _, _⟩) (v := .int .i64 (j : Int)) rfl (by kernel_rfl) (by kernel_rfl) (by kernel_rfl) (by decide) (fun _ _ _ h => by obtain ⟨h, -⟩ := h; cases h) h01 rfl hHeld (Or.inl ⟨by rfl, ?_⟩) ?_
              · (intro W9 hSw; obtain ⟨v1, v2, ⟨v3, v4, v5, v6, v7⟩, ⟨v8, v9, v10, v11⟩, v12⟩ := hSw; go_simp; (try (first | with_reducible rfl | rfl | (simp; done))))
              try simp only [Act.put, List.setIfInBounds_toArray, List.set_cons_zero, List.set_cons_succ]
              refine wpG_takeB (i := 8) (oi := ⟨some 290, _, _, _, _, _⟩) (v := .pointer (some ⟨gL, oL + j * 4, none⟩)) rfl (by kernel_rfl) (by kernel_rfl) (by kernel_rfl) (by decide) (fun _ _ _ h => by obtain ⟨h, -⟩ := h; cases h) h01 rfl hHeld (Or.inl ⟨by rfl, ?_⟩) ?_
              · (intro W9 hSw; obtain ⟨v1, v2, ⟨v3, v4, v5, v6, v7⟩, ⟨v8, v9, v10, v11⟩, v12⟩ := hSw; go_simp; (try (first | with_reducible rfl | rfl | (simp; done))))
              try simp only [Act.put, List.setIfInBounds_toArray, List.set_cons_zero, List.set_cons_succ]
              refine wpG_takeB (i := 9) (oi := ⟨some 291, _, _, _, _, _⟩) (v := .agg #[.int .i64 k, .string sn, .int .i64 v, .int .i64 aa]) rfl (by kernel_rfl) (by kernel_rfl) (by kernel_rfl) (by decide) (fun _ _ _ h => by obtain ⟨h, -⟩ := h; cases h) h01 rfl hHeld (Or.inl ⟨by rfl, ?_⟩) ?_
              · (intro W9 hSw; obtain ⟨v1, v2, ⟨v3, v4, v5, v6, v7⟩, ⟨v8, v9, v10, v11⟩, v12⟩ := hSw; go_simp; (try (first | with_reducible rfl | rfl | (simp; done))))
              try simp only [Act.put, List.setIfInBounds_toArray, List.set_cons_zero, List.set_cons_succ]
              refine wpG_takeB (i := 10) (oi := ⟨some 292, _, _, _, _, _⟩) (v := .string St) rfl (by kernel_rfl) (by kernel_rfl) (by kernel_rfl) (by decide) (fun _ _ _ h => by obtain ⟨h, -⟩ := h; cases h) h01 rfl hHeld (Or.inl ⟨by rfl, ?_⟩) ?_
              · (intro W9 hSw; obtain ⟨v1, v2, ⟨v3, v4, v5, v6, v7⟩, ⟨v8, v9, v10, v11⟩, v12⟩ := hSw; go_simp; (try (first | with_reducible rfl | rfl | (simp; done))))
              try simp only [Act.put, List.setIfInBounds_toArray, List.set_cons_zero, List.set_cons_succ]
              refine wpG_oneB (i := 11) (o := ⟨some 293, _, _, _, _, _⟩) (by kernel_rfl) rfl rfl (fun K hK => ?_)
              go_simp
              (with_reducible refine (C19.out _).mono ?_); rintro e wy ⟨rfl, hby⟩
              have HBy := Lib.hid hby
              clear hby
              refine hK.out _ _ (HSR.out.below HBy.out) (fun hHeld => ?_)
              clear hK K
              try simp only [Act.put, List.setIfInBounds_toArray, List.set_cons_zero, List.set_cons_succ]
              refine wpG_takeB (i := 12) (oi := ⟨some 294, _, _, _, _, _⟩) (v := .bool false) rfl (by kernel_rfl) (by kernel_rfl) (by kernel_rfl) (by decide) (fun _ _ _ h => by obtain ⟨h, -⟩ := h; cases h) h01 rfl hHeld (Or.inl ⟨by rfl, ?_⟩) ?_
              · (intro W9 hSw; obtain ⟨v1, v2, ⟨v3, v4, v5, v6, v7⟩, ⟨v8, v9, v10, v11⟩, v12⟩ := hSw; go_simp; (try (first | with_reducible rfl | rfl | (simp; done))))
              try simp only [Act.put, List.setIfInBounds_toArray, List.set_cons_zero, List.set_cons_succ]
              refine wpG_takeB (i := 13) (oi := ⟨some 295, _, _, _, _, _⟩) (v := .bool false) rfl (by kernel_rfl) (by kernel_rfl) (by kernel_rfl) (by decide) (fun _ _ _ h => by obtain ⟨h, -⟩ := h; cases h) h01 rfl hHeld (Or.inl ⟨by rfl, ?_⟩) ?_
              · (intro W9 hSw; obtain ⟨v1, v2, ⟨v3, v4, v5, v6, v7⟩, ⟨v8, v9, v10, v11⟩, v12⟩ := hSw; go_simp; (try (first | with_reducible rfl | rfl | (simp; done))))
              try simp only [Act.put, List.setIfInBounds_toArray, List.set_cons_zero, List.set_cons_succ]
              refine wpG_done (by kernel_rfl) ?_ _
              refine ⟨rfl, ?_⟩
              clear q1 hHeld h01
              obtain ⟨Wd, hWd⟩ : ∃ Wd, wy = Wd := ⟨_, rfl⟩
              have HDB := Lib.hid (show Below Wx.heap.size Wx Wd from hWd ▸ (below_drew (Below.refl _ _)).trans HBy.out)
              have HDW := Lib.hid (show ∀ k : Nat, k < Wx.heap.size → Wd.heap[k]? = Wx.heap[k]? from fun k hk => HDB.out.block k hk)
              rw [hWd]
              clear hWd
              obtain ⟨k1, k2, k3, k4, k7, k8⟩ := HH1.out
              have r1 : Blk Wd Bk 3 #[.int .i64 (j : Int)] := I1.out.below HDB.out I1.out.lt
              have r2 : Blk Wd Bt 3 #[.int .i64 t] := I2.out.below HDB.out I2.out.lt
              have ek := r1.cell 0
              have fk := r1.frozen 0
              have et := r2.cell 0
              simp only [List.getElem?_toArray, List.getElem?_cons_zero] at ek et
              have hbw := I3.out.trans (HDB.out.mono I3.out.size)
              have HI := Lib.hid (show Blk (Wd.setCell ⟨Bk, 0, none⟩ (.int .i64 ((j : Int) + 1))) Bk 3 #[.int .i64 ((j + 1 : Nat) : Int)] ∧ Blk (Wd.setCell ⟨Bk, 0, none⟩ (.int .i64 ((j : Int) + 1))) Bt 3 #[.int .i64 t] ∧ Below W7.heap.size W7 (Wd.setCell ⟨Bk, 0, none⟩ (.int .i64 ((j : Int) + 1))) ∧ Marks W7.heap.size Ds (Wd.setCell ⟨Bk, 0, none⟩ (.int .i64 ((j : Int) + 1))) ∧ Wk.heap.size ≤ (Wd.setCell ⟨Bk, 0, none⟩ (.int .i64 ((j : Int) + 1))).heap.size from
              ⟨by have := r1.set_ 0 (.int .i64 ((j : Int) + 1)); simpa using this, r2.far (by simp; omega) _, Below.setCell hbw (by simp; omega) _, ⟨I4.out.nodup, fun D hD => ⟨(I4.out.there D hD).1, (Below.heap_setCell _ _ _ _ (by have := k3 D hD; simp; omega)).trans ((HDW.out D (I4.out.lt D hD)).trans (I4.out.there D hD).2)⟩⟩, by rw [World.size_setCell]; exact Nat.le_trans I5.out HDB.out.size⟩)
              have HF2 := Lib.hid (show LKp (RowF As Nn cs) vs X (Wd.setCell ⟨Bk, 0, none⟩ (.int .i64 ((j : Int) + 1))) from
                ⟨by rw [World.size_setCell]; exact Nat.le_trans HF.out.1 HDB.out.size, fun k hk => by
                  have hlt9 := HFD.out k hk
                  exact (Below.heap_setCell _ _ _ _ (by simp; omega)).trans ((HDW.out k (Nat.lt_of_lt_of_le hlt9 I3.out.size)).trans (HF.out.2 k hk))⟩)
              have HKF := Lib.hid (show KeepsFrom Wk.heap.size Wx (Wd.setCell ⟨Bk, 0, none⟩ (.int .i64 ((j : Int) + 1))) from (show KeepsFrom Wk.heap.size Wx Wd from keeps_below HDB.out _).trans ((KeepsOthers.setCell _ _ _).from _))
              clear r1 r2 hbw
              obtain ⟨i1, i2, i3, i4, i5⟩ := HI.out
              replace i1 := Lib.hid i1
              replace i2 := Lib.hid i2
              replace i3 := Lib.hid i3
              replace i4 := Lib.hid i4
              replace i5 := Lib.hid i5
              by_cases h0 : t = 0
              · have q2 : ((t : Int) == 0) = true := by simp; omega
                have H0 := Lib.hid h0
                clear h0
                by_cases hmn : 2 ≤ (j : Int) + 1
                · have q3 : decide (2 ≤ (j : Int) + 1) = true := by simpa using hmn
                  have q5 : decide (2 ≤ j + 1) = true := by simp; omega
                  gi_wp2_with fail
                  exact ⟨HKF.out, rfl, i1.out, i2.out, i3.out, i4.out, i5.out, H0.out, by have := I6.out H0.out; omega⟩
                · have q3 : decide (2 ≤ (j : Int) + 1) = false := by simpa using hmn
                  have q5 : decide (2 ≤ j + 1) = false := by simp; omega
                  gi_wp2_with fail
                  exact ⟨HKF.out, HF2.out, i1.out, i2.out, i3.out, i4.out, i5.out, fun _ => by omega⟩
              · have q2 : ((t : Int) == 0) = false := by simp; omega
                gi_wp2_with fail
                exact ⟨HKF.out, HF2.out, i1.out, i2.out, i3.out, i4.out, i5.out, fun h => absurd h h0⟩
          case done =>
            rintro D X hD h hK
            as_aux_lemma =>
              simp only [Exit.inBlock, Exit.then]
              go_at_K
              have hDs : D ∉ Ds := fun hD2 => by have := hDlt D hD2; omega
              have ek := h.k.cell 0
              have et := h.bt.cell 0
              have en := (WP7.out.w8.below h.below WP7.out.w8.lt).cell 0
              simp only [List.getElem?_toArray, List.getElem?_cons_zero] at ek et en
              rw [HNN.out] at en
              have HH := Lib.hid h
              have HK := Lib.hid hK
              have HD := Lib.hid hD
              have HZK := Lib.hid (And.intro h7k hzk)
              clear h hK hzk hD
              by_cases h0 : t = 0
              · have q2 : ((t : Int) == 0) = true := by simp; omega
                have hc := HH.out.c h0
                have q1 : ((t : Int) == 1) = false := by simp; omega
                have H0 := Lib.hid h0
                have hmin : min (2 : Int) (Nn : Int) = (Nn : Int) := by omega
                clear hc h0
                go_wp2_with fail
                have kn : Blk (X.alloc (.cells #[.int .i64 ((t : Int) + 1)] 3)) X.heap.size 3 #[.int .i64 ((t + 1 : Nat) : Int)] := by have := Blk.new X 3 #[.int .i64 ((t : Int) + 1)]; simpa using this
                exact ⟨⟨t + 1, X.heap.size, D :: Ds, rfl, rfl, rfl, rfl, rfl, rfl, rfl, by omega, kn, HH.out.below.size, HH.out.below.alloc HH.out.below.size _, List.nodup_cons.2 ⟨hDs, HH.out.marks.nodup⟩, fun E hE => by
                  rcases List.mem_cons.1 hE with rfl | hE
                  · exact ⟨by have := HZK.out; have := HD.out; omega, (Below.heap_alloc _ _ _ (Array.getElem?_eq_some_iff.1 HK.out).1).trans HK.out⟩
                  · exact ⟨(HH.out.marks.there E hE).1, (Below.heap_alloc _ _ _ (HH.out.marks.lt E hE)).trans (HH.out.marks.there E hE).2⟩⟩, by
                  show 2 - turnOf (.pointer (some ⟨X.heap.size, 0, none⟩)) _ < 2 - turnOf (.pointer (some ⟨Bt, 0, none⟩)) W
                  rw [turnOf_blk kn, turnOf_blk HT.out]
                  omega⟩
              · have q2 : ((t : Int) == 0) = false := by simp; omega
                have q1 : ((t : Int) == 1) = true := by simp; omega
                go_wp2_with fail
                have kn : Blk (X.alloc (.cells #[.int .i64 ((t : Int) + 1)] 3)) X.heap.size 3 #[.int .i64 ((t + 1 : Nat) : Int)] := by have := Blk.new X 3 #[.int .i64 ((t : Int) + 1)]; simpa using this
                exact ⟨⟨t + 1, X.heap.size, D :: Ds, rfl, rfl, rfl, rfl, rfl, rfl, rfl, by omega, kn, HH.out.below.size, HH.out.below.alloc HH.out.below.size _, List.nodup_cons.2 ⟨hDs, HH.out.marks.nodup⟩, fun E hE => by
                  rcases List.mem_cons.1 hE with rfl | hE
                  · exact ⟨by have := HZK.out; have := HD.out; omega, (Below.heap_alloc _ _ _ (Array.getElem?_eq_some_iff.1 HK.out).1).trans HK.out⟩
                  · exact ⟨(HH.out.marks.there E hE).1, (Below.heap_alloc _ _ _ (HH.out.marks.lt E hE)).trans (HH.out.marks.there E hE).2⟩⟩, by
                  show 2 - turnOf (.pointer (some ⟨X.heap.size, 0, none⟩)) _ < 2 - turnOf (.pointer (some ⟨Bt, 0, none⟩)) W
                  rw [turnOf_blk kn, turnOf_blk HT.out]
                  omega⟩
          case stop =>
            rintro D cd j X hD hj ⟨rfl, h1, h2, h3, h4, h5', h6, h7⟩ hK
            as_aux_lemma =>
              obtain ⟨jj, hjj⟩ : ∃ jj, j + 1 = jj := ⟨_, rfl⟩
              rw [hjj] at h1 h7
              have hjN : jj ≤ Nn := by omega
              subst h7
              have hDs : D ∉ Ds := fun hD2 => by have := hDlt D hD2; omega
              have ek := h1.cell 0
              have et := h2.cell 0
              have en := (WP7.out.w8.below h3 WP7.out.w8.lt).cell 0
              simp only [List.getElem?_toArray, List.getElem?_cons_zero] at ek et en
              rw [HNN.out] at en
              have H3 := Lib.hid h3
              have H4 := Lib.hid h4
              have HK := Lib.hid hK
              have HD := Lib.hid hD
              have HZK := Lib.hid (And.intro h7k hzk)
              have q2 : ((t : Int) == 0) = true := by simp; omega
              have q1 : ((t : Int) == 1) = false := by simp; omega
              have H0 := Lib.hid h6
              clear h1 h2 h3 h4 h5' h6 hK hD hzk hjj
              have hmin : min (2 : Int) (Nn : Int) = 2 := by omega
              clear hjN
              refine wpIn_wide.2 ?_
              go_wp2_with fail
              have kn : Blk (X.alloc (.cells #[.int .i64 ((t : Int) + 1)] 3)) X.heap.size 3 #[.int .i64 ((t + 1 : Nat) : Int)] := by have := Blk.new X 3 #[.int .i64 ((t : Int) + 1)]; simpa using this
              exact ⟨⟨t + 1, X.heap.size, D :: Ds, rfl, rfl, rfl, rfl, rfl, rfl, rfl, by omega, kn, H3.out.size, H3.out.alloc H3.out.size _, List.nodup_cons.2 ⟨hDs, H4.out.nodup⟩, fun E hE => by
                rcases List.mem_cons.1 hE with rfl | hE
                · exact ⟨by have := HZK.out; have := HD.out; omega, (Below.heap_alloc _ _ _ (Array.getElem?_eq_some_iff.1 HK.out).1).trans HK.out⟩
                · exact ⟨(H4.out.there E hE).1, (Below.heap_alloc _ _ _ (H4.out.lt E hE)).trans (H4.out.there E hE).2⟩⟩, by
                show 2 - turnOf (.pointer (some ⟨X.heap.size, 0, none⟩)) _ < 2 - turnOf (.pointer (some ⟨Bt, 0, none⟩)) W
                rw [turnOf_blk kn, turnOf_blk HT.out]
                omega⟩
        · as_aux_lemma =>
            have C10 := Lib.hid (known_any W)
            have kb := WP7.out.b4.below HBb.out WP7.out.b4.lt
            have f1 := kb.frozen 0
            have KB4 := Lib.hid kb
            have q1 : decide (t < 2) = false := by simp; omega
            clear kb
            go_wp2_with (go_at_call 8; (with_reducible refine C10.out.mono ?_); rintro e w9 ⟨rfl, b9⟩; have k9 := KB4.out.below b9 KB4.out.lt; have e9 := k9.cell 0; have f9 := k9.frozen 0; simp at e9; have K9 := Lib.hid k9; have B9 := Lib.hid b9; clear b9 k9)
            refine HEND.out _ _ _ Ds ?_ ⟨HMk.out.nodup, fun D hD => ?_⟩ ?_ ?_
            · rfl
            · have := HMk.out.there D hD
              have hlt := HMk.out.lt D hD
              refine ⟨by have := HS7.out; omega, ?_⟩
              rw [Below.heap_setCell _ _ _ _ (by simp; have := HS7.out; omega)]
              exact (B9.out.block D hlt).trans this.2
            · exact Below.setCell (B7w.out.trans ((HBb.out.trans (B9.out.mono HBb.out.size)).mono B7w.out.size)) (by simp) _
            · have := K9.out.set_ 0 (.bool true)
              simpa using this

end Go.Proofs.YtkihoekldklkhaaDoor
