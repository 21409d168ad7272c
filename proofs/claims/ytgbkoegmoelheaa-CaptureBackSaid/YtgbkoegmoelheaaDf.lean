/- do: both arms; a writer beside its reference. -/
import Derived.Test.YtgbkoegmoelheaaDe
namespace Go.Proofs.Ytgbkoegmoelheaa
open Go.RowKit
set_option linter.unusedVariables false

def stepP (s : StP) (a : Ac) : StP := if a.cl then closeP s else (addP s a.p.pk).1
theorem stepP_len {s : StP} (h : OkP s) (a : Ac) : (stepP s a).b.length ≤ s.b.length + 8206 := by
  unfold stepP
  split
  · exact closeP_len h
  · exact addP_len h _
/-- What do leaves, spelled out. -/
def DoU (w : World) (B g : Nat) (vb vl : Value) (dsw : List Pd) (G : Nat → Prop) (s2 : StP) (e : Ending) (w' : World) : Prop := ∃ vb2 vl2 dsw2 Ab2 nb2 cb2 Al2 nl2 cl2 ds2, e = .returned (.tuple #[.agg #[.slice Ab2 nb2 cb2, .slice Al2 nl2 cl2, .int .i64 s2.last], .bool true]) ∧ WS w' B g vb2 vl2 dsw2 s2 ∧ RS w' Ab2 nb2 cb2 Al2 nl2 cl2 ds2 s2 ∧ FP (WG g vb2 G) Ab2 nb2 Al2 nl2 ds2 ∧ Only (WF g vb) w w' ∧ Hat vb vb2 w ∧ ∀ k, k < w.heap.size → WK g vb2 vl2 dsw2 k → WK g vb vl dsw k
theorem DoR.u {w w' : World} {B g : Nat} {vb vl : Value} {dsw : List Pd} {G : Nat → Prop} {s2 : StP} {e : Ending} (h : DoR w B g vb vl dsw G s2 e w') : DoU w B g vb vl dsw G s2 e w' := by
  obtain ⟨v, vb2, vl2, ds2, h1, h2, ⟨Ab2, nb2, cb2, Al2, nl2, cl2, es, h3, h4, h5⟩, h6, h7, h8⟩ := h
  exact ⟨vb2, vl2, ds2, Ab2, nb2, cb2, Al2, nl2, cl2, es, by rw [h1, h3]; rfl, h2, h4, h5, h6, h7, h8⟩
theorem do_any (a : Ac) (w : World) (B g : Nat) (vb vl : Value) (dsw : List Pd) (s : StP) (G : Nat → Prop) (Ab : Option Addr) (nb cb : Nat) (Al : Option Addr) (nl cl : Nat) (ds : List Pd) (hs : WS w B g vb vl dsw s) (hr : RS w Ab nb cb Al nl cl ds s) (hf : FP (WG g vb G) Ab nb Al nl ds) (hG : ∀ k, G k → k < w.heap.size) (hl : s.b.length ≤ 1990000) (hp : PdR w a.p) (hpF : ∀ ad, a.p.A = some ad → 0 < a.p.n → ¬ WG g vb G ad.block) (hn : a.p.n ≤ 30000) :
    Calls Try.prog 20 #[.pointer (some ⟨g, 0, none⟩), .agg #[.slice Ab nb cb, .slice Al nl cl, .int .i64 s.last], .agg #[.bool a.cl, .int .i64 a.p.t, .int .i64 a.p.f, .slice a.p.A a.p.n a.p.c]] w (DoU w B g vb vl dsw G (stepP s a)) := by
  obtain ⟨cl2, p⟩ := a
  obtain ⟨t, f, A, n, c, d⟩ := p
  cases cl2 with
  | true => exact (do_close w B g vb vl dsw s G Ab nb cb Al nl cl ds t f A n c hs hr hf hG hl).mono fun e w' h => h.u
  | false => exact (do_add w B g vb vl dsw s G Ab nb cb Al nl cl ds t f A n c d hs hr hf hG hl hp hpF hn).mono fun e w' h => h.u
/-- Other blocks are not the writer's. -/
theorem WS.notWK {w : World} {B g k : Nat} {vb vl : Value} {ds : List Pd} {s : StP} {t : TypeId} {cs : Array Value} (h : WS w B g vb vl ds s) (hk : Blk w k t cs) (h1 : t ≠ 46) (h2 : t ≠ 5) (h3 : t ≠ 31) : ¬ WK g vb vl ds k := by
  rintro ((rfl | e) | e | ⟨q, hq, e⟩)
  · exact hk.ne h.blk h1 rfl
  · exact own_neP h.own hk h2 e
  · exact own_neP h.po.own hk h3 e
  · exact own_neP (h.po.data q hq) hk h2 e
/-- A writer, the reference in its box, after i calls. -/
structure LW (w : World) (B g r i : Nat) (G : Nat → Prop) (s : StP) (vb vl : Value) (dsw : List Pd) (Ab : Option Addr) (nb cb : Nat) (Al : Option Addr) (nl cl : Nat) (ds : List Pd) (W : World) : Prop where
  ws : WS W B g vb vl dsw s
  rs : RS W Ab nb cb Al nl cl ds s
  fp : FP (WG g vb G) Ab nb Al nl ds
  blk : Blk W r 48 #[.slice Ab nb cb, .slice Al nl cl, .int .i64 s.last]
  bel : Below w.heap.size w W
  len : s.b.length ≤ i * 8206
theorem LW.below {w : World} {B g r i : Nat} {G : Nat → Prop} {s : StP} {vb vl : Value} {dsw : List Pd} {Ab : Option Addr} {nb cb : Nat} {Al : Option Addr} {nl cl : Nat} {ds : List Pd} {W W2 : World} (h : LW w B g r i G s vb vl dsw Ab nb cb Al nl cl ds W) (hb : Below W.heap.size W W2) : LW w B g r i G s vb vl dsw Ab nb cb Al nl cl ds W2 :=
  ⟨h.ws.below hb, h.rs.below hb, h.fp, h.blk.below hb h.blk.lt, h.bel.trans (hb.mono h.bel.size), h.len⟩
theorem WS.new {W : World} {B g : Nat} (hk : Blk W g 46 #[.slice none 0 0, .slice none 0 0, .int .i64 0]) (hB : B ≤ g) : WS W B g (.slice none 0 0) (.slice none 0 0) [] ⟨[], [], 0⟩ :=
  ⟨hk, World.ownsRow_nil _ _ 5 1, PO.nil _ _, rfl, by have := hk.lt; omega, hB, (fun p hp => by cases hp), ⟨(fun p hp => by cases hp), (fun h => absurd rfl h), by decide, by decide⟩⟩
theorem RS.new (W : World) : RS W none 0 0 none 0 0 [] ⟨[], [], 0⟩ := ⟨RB.nil _, PL.nil _, rfl, ⟨(fun p hp => by cases hp), (fun h => absurd rfl h), by decide, by decide⟩⟩
theorem FP.new (F : Nat → Prop) : FP F none 0 none 0 [] := ⟨(fun a h => by cases h), (fun a h => by cases h), (fun p hp => by cases hp)⟩
theorem few_of {most : Int} {acs : List Ac} {W : World} {A : Option Addr} {n c : Nat} (h : fewB most (pks (apk acs)) = true) (ha : AL W A n c acs) : (n : Int) ≤ most ∧ ∀ a ∈ acs, a.p.n ≤ 5000 := by
  have h1 := fewB_iff.1 h
  have h2 : (pks (apk acs)).length = n := by rw [← ha.len]; simp [pks, apk]
  refine ⟨by have := h1.2.1; rw [h2] at this; exact this, fun a hm => ?_⟩
  have h3 := h1.1 a.p.pk (List.mem_map.2 ⟨a.p, List.mem_map.2 ⟨a, hm, rfl⟩, rfl⟩)
  have h4 := (ha.r a hm).r.len
  have h5 : a.p.pk.d.length = a.p.n := h4
  omega
/-- A box of a reference's writer does not lie in its rows. -/
theorem RS.box {W W' : World} {Ab : Option Addr} {nb cb : Nat} {Al : Option Addr} {nl cl : Nat} {ds : List Pd} {s : StP} {x : Nat} {Ax : Option Addr} {nx cx : Nat} {Ay : Option Addr} {ny cy : Nat} {z : Int} (h : RS W Ab nb cb Al nl cl ds s) (hx : Blk W x 48 #[.slice Ax nx cx, .slice Ay ny cy, .int .i64 z]) (ho : Only (fun k => k = x) W W') : RS W' Ab nb cb Al nl cl ds s := by
  have hb : ∀ {A : Option Addr} {n c : Nat} {l : List UInt8}, RB W A n c l → ∀ a, A = some a → 0 < n → ¬ a.block = x := fun hr a hA h0 e => RB.ne hr h0 hA hx (fun j y => by match j with | 0 => simp | 1 => simp | 2 => simp | _ + 3 => simp) e
  refine ⟨h.b.only ho (hb h.b), h.l.only ho ?_ (fun q hq => hb (h.l.r q hq).r), h.eq, h.ok⟩
  intro a hA h0 e
  have hl : 0 < ds.length := by rw [h.l.len]; exact h0
  obtain ⟨p1, p2, p3⟩ := pd_get ds 0 hl
  have g1 := h.l.h.2.2 a hA _ _ p1
  have g2 := h.l.h.2.2 a hA _ _ p2
  have hs : a.spot = none := by have := World.cell?_spot g1; simpa [Addr.add] using this
  obtain ⟨ab, ao, asp⟩ := a
  simp at hs
  subst hs
  simp only at e
  subst e
  rw [Addr.add_lit] at g1 g2
  simp only [Nat.zero_mul, Nat.add_zero, Nat.zero_add] at g1 g2
  match ao with
  | 0 =>
    have := hx.cell 0
    rw [g1] at this
    simp at this
  | 1 =>
    have := hx.cell 1
    rw [g1] at this
    simp at this
  | 2 =>
    have := hx.cell 3
    rw [g2] at this
    simp at this
  | k + 3 =>
    have := hx.cell (k + 3)
    rw [g1] at this
    simp at this

end Go.Proofs.Ytgbkoegmoelheaa
