/- The scanner as it lies in memory. -/
import Derived.Test.YtkalllenggmgoaaDoorFi
namespace Go.Proofs.YtkalllenggmgoaaDoor
open Go.RowKit
set_option linter.unusedVariables false
set_option linter.unusedSimpArgs false
/-- The same block, or a new one. -/
def Hat (v v' : Value) (w : World) : Prop := v'.ownBlock = v.ownBlock ∨ ∀ j, v'.ownBlock = some j → w.heap.size ≤ j
theorem Hat.refl (v : Value) (w : World) : Hat v v w := .inl rfl
theorem Hat.trans {v v1 v2 : Value} {w w1 : World} (h : Hat v v1 w) (k : Hat v1 v2 w1) (hs : w.heap.size ≤ w1.heap.size) : Hat v v2 w := by
  rcases k with k | k
  · rcases h with h | h
    · exact .inl (k.trans h)
    · exact .inr fun j hj => h j (k ▸ hj)
  · exact .inr fun j hj => Nat.le_trans hs (k j hj)

theorem Hat.app {v v2 : Value} {w : World} {o : Obj} (h : v2.ownBlock = v.ownBlock ∨ v2.ownBlock = some (w.alloc o).heap.size) : Hat v v2 w := by
  rcases h with h | h
  · exact .inl h
  · exact .inr fun j hj => by
      rw [h] at hj
      cases hj
      simp
theorem Hat.app0 {v v2 : Value} {w : World} (h : v2.ownBlock = v.ownBlock ∨ v2.ownBlock = some w.heap.size) : Hat v v2 w := by
  rcases h with h | h
  · exact .inl h
  · exact .inr fun j hj => by
      rw [h] at hj
      cases hj
      exact Nat.le_refl _
/-- A line that is done, as it lies in memory. -/
structure Ld where
  at_ : Nat
  nv : Value
  tv : Value
  gv : Value
  opn : Bool
  spr : Bool
  n : List UInt8
  t : List UInt8
def Ld.cells (d : Ld) : List Value := [.int .i64 (d.at_ : Int), d.nv, d.tv, d.gv, .bool d.opn, .bool d.spr]
def Ld.key (d : Ld) : Nat × List UInt8 × List UInt8 := (d.at_, d.n, d.t)
structure LdOk (B : Nat) (W : World) (d : Ld) : Prop where
  nm : W.ownsRow B 5 1 d.nv d.n.length (d.n.map u8)
  tx : W.ownsRow B 5 1 d.tv d.t.length (d.t.map u8)
  gf : ∃ A n c, d.gv = .slice A n c
def tri {α : Type} (a b c : α) (i : Nat) : α := if i = 0 then a else if i = 1 then b else c
structure Rows (B : Nat) (W : World) (v : Nat → Value) (l : Nat → List UInt8) (dv : Value) (ds : List Ld) : Prop where
  cur : ∀ i, i < 3 → W.ownsRow B 5 1 (v i) (l i).length ((l i).map u8)
  ap : ∀ i, i < 3 → ∀ j, j < 3 → i ≠ j → ∀ k, (v i).ownBlock = some k → (v j).ownBlock ≠ some k
  dn : W.ownsRow B 67 6 dv ds.length (ds.flatMap Ld.cells)
  dr : ∀ d ∈ ds, LdOk B W d
  far : ∀ d ∈ ds, ∀ k, d.nv.ownBlock = some k ∨ d.tv.ownBlock = some k → ∀ i, i < 3 → (v i).ownBlock ≠ some k
theorem Rows.only {B : Nat} {W W' : World} {v : Nat → Value} {l : Nat → List UInt8} {dv : Value} {ds : List Ld} {p : Nat → Prop} (h : Rows B W v l dv ds) (ho : Only p W W') (h1 : ∀ i, i < 3 → ∀ k, (v i).ownBlock = some k → ¬ p k) (h2 : ∀ k, dv.ownBlock = some k → ¬ p k) (h3 : ∀ d ∈ ds, ∀ k, d.nv.ownBlock = some k ∨ d.tv.ownBlock = some k → ¬ p k) : Rows B W' v l dv ds :=
  ⟨fun i hi => own_only (h.cur i hi) ho (h1 i hi), h.ap, own_only h.dn ho h2, fun d hd => ⟨own_only (h.dr d hd).nm ho fun k hk => h3 d hd k (.inl hk), own_only (h.dr d hd).tx ho fun k hk => h3 d hd k (.inr hk), (h.dr d hd).gf⟩, h.far⟩
theorem Rows.below {B : Nat} {W W' : World} {v : Nat → Value} {l : Nat → List UInt8} {dv : Value} {ds : List Ld} (h : Rows B W v l dv ds) (hb : Below W.heap.size W W') : Rows B W' v l dv ds :=
  h.only (p := fun _ => False) (Only.of_below hb) (fun _ _ _ _ hf => hf) (fun _ _ hf => hf) (fun _ _ _ _ hf => hf)
/-- No row lies in a block of another kind. -/
theorem Rows.ne {B g : Nat} {W : World} {v : Nat → Value} {l : Nat → List UInt8} {dv : Value} {ds : List Ld} {cs : Array Value} (h : Rows B W v l dv ds) (hg : Blk W g 70 cs) :
    (∀ i, i < 3 → ∀ k, (v i).ownBlock = some k → k ≠ g) ∧ (∀ k, dv.ownBlock = some k → k ≠ g) ∧ (∀ d ∈ ds, ∀ k, d.nv.ownBlock = some k ∨ d.tv.ownBlock = some k → k ≠ g) := by
  refine ⟨fun i hi k hk e => own_ne (h.cur i hi) hg (by decide) (e ▸ hk), fun k hk e => ?_, fun d hd k hk e => ?_⟩
  · subst e
    rcases h.dn.2 with ⟨h0, _⟩ | ⟨g', cap, cur, h0, _, hh, _⟩
    · rw [h0] at hk; cases hk
    · rw [h0] at hk
      cases hk
      unfold Blk at hg
      rw [hg] at hh
      injection hh with hh
      injection hh with _ h2
      exact absurd h2 (by decide)
  · rcases hk with hk | hk
    · exact own_ne (h.dr d hd).nm hg (by decide) (e ▸ hk)
    · exact own_ne (h.dr d hd).tx hg (by decide) (e ▸ hk)
theorem Rows.set {B g : Nat} {W : World} {v : Nat → Value} {l : Nat → List UInt8} {dv : Value} {ds : List Ld} {cs : Array Value} (h : Rows B W v l dv ds) (hg : Blk W g 70 cs) (i : Nat) (u : Value) : Rows B (W.setCell ⟨g, i, none⟩ u) v l dv ds := by
  obtain ⟨h1, h2, h3⟩ := h.ne hg
  exact h.only (p := fun k => k = g) ((Only.refl (fun k => k = g) W).set (g := g) (fun _ => rfl) i u) h1 h2 h3
/-- A row has grown. -/
theorem Rows.upd {B : Nat} {W W' : World} {v : Nat → Value} {l : Nat → List UInt8} {dv : Value} {ds : List Ld} (h : Rows B W v l dv ds) (i : Nat) (hi : i < 3) {v2 : Value} {x : List UInt8} (hat : Hat (v i) v2 W) (ho : Only (fun k => (v i).ownBlock = some k) W W') (hw : W'.ownsRow B 5 1 v2 x.length (x.map u8)) :
    Rows B W' (fun j => if j = i then v2 else v j) (fun j => if j = i then x else l j) dv ds := by
  have hdv : ∀ k, dv.ownBlock = some k → ¬ (v i).ownBlock = some k := fun k hk e => own_neS h.dn (h.cur i hi) (by decide) k hk e
  refine ⟨fun j hj => ?_, fun a ha b hb hab k hk => ?_, own_only h.dn ho hdv, fun d hd => ⟨own_only (h.dr d hd).nm ho fun k hk => h.far d hd k (.inl hk) i hi, own_only (h.dr d hd).tx ho fun k hk => h.far d hd k (.inr hk) i hi, (h.dr d hd).gf⟩, fun d hd k hk j hj => ?_⟩
  · by_cases e : j = i
    · simp only [if_pos e]; exact hw
    · simp only [if_neg e]; exact own_only (h.cur j hj) ho fun k hk he => h.ap j hj i hi e k hk he
  · by_cases e : a = i
    · simp only [if_pos e] at hk
      have e2 : ¬ b = i := fun e2 => hab (e.trans e2.symm)
      simp only [if_neg e2]
      intro he
      rcases hat with q | q
      · exact h.ap i hi b hb (fun e3 => e2 e3.symm) k (q ▸ hk) he
      · have := q k hk; have := own_lt (h.cur b hb) k he; omega
    · simp only [if_neg e] at hk
      by_cases e2 : b = i
      · simp only [if_pos e2]
        intro he
        rcases hat with q | q
        · exact h.ap a ha i hi e k hk (q ▸ he)
        · have := q k he; have := own_lt (h.cur a ha) k hk; omega
      · simp only [if_neg e2]; exact h.ap a ha b hb hab k hk
  · by_cases e : j = i
    · simp only [if_pos e]
      intro he
      rcases hat with q | q
      · exact h.far d hd k hk i hi (q ▸ he)
      · have h1 := q k he
        rcases hk with hk | hk
        · have := own_lt (h.dr d hd).nm k hk; omega
        · have := own_lt (h.dr d hd).tx k hk; omega
    · simp only [if_neg e]; exact h.far d hd k hk j hj
theorem Rows.congr {B : Nat} {W : World} {v v' : Nat → Value} {l l' : Nat → List UInt8} {dv : Value} {ds : List Ld} (h : Rows B W v l dv ds) (hv : ∀ i, i < 3 → v' i = v i) (hl : ∀ i, i < 3 → l' i = l i) : Rows B W v' l' dv ds :=
  ⟨fun i hi => by rw [hv i hi, hl i hi]; exact h.cur i hi, fun i hi j hj hij k hk => by rw [hv j hj]; rw [hv i hi] at hk; exact h.ap i hi j hj hij k hk, h.dn, h.dr, fun d hd k hk i hi => by rw [hv i hi]; exact h.far d hd k hk i hi⟩
theorem lt3 {i : Nat} (h : i < 3) : i = 0 ∨ i = 1 ∨ i = 2 := by omega
variable {B : Nat} {W W' : World} {a b c dv v2 : Value} {x y z m : List UInt8} {ds : List Ld}
theorem Rows.up0 (h : Rows B W (tri a b c) (tri x y z) dv ds) (hat : Hat a v2 W) (ho : Only (fun k => a.ownBlock = some k) W W') (hw : W'.ownsRow B 5 1 v2 m.length (m.map u8)) : Rows B W' (tri v2 b c) (tri m y z) dv ds :=
  (h.upd 0 (by decide) hat ho hw).congr (fun i hi => by rcases lt3 hi with e | e | e <;> subst e <;> rfl) (fun i hi => by rcases lt3 hi with e | e | e <;> subst e <;> rfl)
theorem Rows.up1 (h : Rows B W (tri a b c) (tri x y z) dv ds) (hat : Hat b v2 W) (ho : Only (fun k => b.ownBlock = some k) W W') (hw : W'.ownsRow B 5 1 v2 m.length (m.map u8)) : Rows B W' (tri a v2 c) (tri x m z) dv ds :=
  (h.upd 1 (by decide) hat ho hw).congr (fun i hi => by rcases lt3 hi with e | e | e <;> subst e <;> rfl) (fun i hi => by rcases lt3 hi with e | e | e <;> subst e <;> rfl)
theorem Rows.up2 (h : Rows B W (tri a b c) (tri x y z) dv ds) (hat : Hat c v2 W) (ho : Only (fun k => c.ownBlock = some k) W W') (hw : W'.ownsRow B 5 1 v2 m.length (m.map u8)) : Rows B W' (tri a b v2) (tri x y m) dv ds :=
  (h.upd 2 (by decide) hat ho hw).congr (fun i hi => by rcases lt3 hi with e | e | e <;> subst e <;> rfl) (fun i hi => by rcases lt3 hi with e | e | e <;> subst e <;> rfl)
theorem own_nil5 (W : World) (B : Nat) : W.ownsRow B 5 1 (.slice none 0 0) ([] : List UInt8).length (([] : List UInt8).map u8) := World.ownsRow_nil W B 5 1
/-- A new line: the old one's rows are left as they are. -/
theorem Rows.fresh (h : Rows B W (tri a b c) (tri x y z) dv ds) : Rows B W (tri (.slice none 0 0) (.slice none 0 0) (.slice none 0 0)) (tri [] [] []) dv ds := by
  have hv : ∀ i, i < 3 → tri (Value.slice none 0 0) (.slice none 0 0) (.slice none 0 0) i = .slice none 0 0 := fun i hi => by rcases lt3 hi with e | e | e <;> subst e <;> rfl
  have hl : ∀ i, i < 3 → tri ([] : List UInt8) [] [] i = [] := fun i hi => by rcases lt3 hi with e | e | e <;> subst e <;> rfl
  exact ⟨fun i hi => by rw [hv i hi, hl i hi]; exact own_nil5 W B, fun i hi j hj _ k hk => (by rw [hv i hi] at hk; cases hk), h.dn, h.dr, fun d hd k _ i hi => (by rw [hv i hi]; intro e; cases e)⟩
/-- The line is pushed; a new one begins. -/
theorem Rows.push {o s : Bool} {at_ : Nat} (h : Rows B W (tri a b c) (tri x y z) dv ds) (ho : Only (fun k => dv.ownBlock = some k) W W') (hw : W'.ownsRow B 67 6 v2 (ds ++ [(⟨at_, a, b, c, o, s, x, y⟩ : Ld)]).length ((ds ++ [(⟨at_, a, b, c, o, s, x, y⟩ : Ld)]).flatMap Ld.cells)) :
    Rows B W' (tri (.slice none 0 0) (.slice none 0 0) (.slice none 0 0)) (tri [] [] []) v2 (ds ++ [(⟨at_, a, b, c, o, s, x, y⟩ : Ld)]) := by
  have hv : ∀ i, i < 3 → tri (Value.slice none 0 0) (.slice none 0 0) (.slice none 0 0) i = .slice none 0 0 := fun i hi => by rcases lt3 hi with e | e | e <;> subst e <;> rfl
  have hl : ∀ i, i < 3 → tri ([] : List UInt8) [] [] i = [] := fun i hi => by rcases lt3 hi with e | e | e <;> subst e <;> rfl
  have hk : ∀ {n : Nat} {w : Value} {xs : List Value}, W.ownsRow B 5 1 w n xs → W'.ownsRow B 5 1 w n xs := fun hw => own_only hw ho fun k hk e => own_neS hw h.dn (by decide) k hk e
  refine ⟨fun i hi => by rw [hv i hi, hl i hi]; exact own_nil5 W' B, fun i hi j hj _ k hk => (by rw [hv i hi] at hk; cases hk), hw, fun d hd => ?_, fun d hd k _ i hi => (by rw [hv i hi]; intro e; cases e)⟩
  rw [List.mem_append] at hd
  rcases hd with hd | hd
  · exact ⟨hk (h.dr d hd).nm, hk (h.dr d hd).tx, (h.dr d hd).gf⟩
  · simp at hd
    subst hd
    obtain ⟨Ag, cg, eg, -⟩ := own_form (h.cur 2 (by decide))
    exact ⟨hk (h.cur 0 (by decide)), hk (h.cur 1 (by decide)), Ag, _, cg, eg⟩

structure ScV where
  nv : Value
  tv : Value
  gv : Value
  dv : Value
  ds : List Ld
def scCells (s : Sc) (q : ScV) : Array Value := #[.int .i64 (s.ln.at_ : Int), q.nv, q.tv, q.gv, .bool s.ln.opn, .bool s.ln.spr, .bool s.loose, .int .i64 (s.place : Int), q.dv]
/-- The scanner in block g. -/
structure ScW (B : Nat) (W : World) (g : Nat) (s : Sc) (q : ScV) : Prop where
  hB : B ≤ W.heap.size
  blk : Blk W g 70 (scCells s q)
  rows : Rows B W (tri q.nv q.tv q.gv) (tri s.ln.name s.ln.text s.ln.gap) q.dv q.ds
  keys : q.ds.map Ld.key = s.done.map Ln.key
structure ScSz (s : Sc) (N : Nat) : Prop where
  nm : s.ln.name.length ≤ 32
  tx : s.ln.text.length + s.ln.gap.length ≤ N
  dn : s.done.length ≤ 100
/-- Nothing has turned but the scanner's block and what lies from B on. -/
def Fp (B g : Nat) (W W' : World) : Prop := Only (fun k => k = g ∨ B ≤ k) W W'
theorem Fp.refl (B g : Nat) (W : World) : Fp B g W W := Only.refl _ W
theorem Fp.trans {B g : Nat} {W W1 W2 : World} (h : Fp B g W W1) (k : Fp B g W1 W2) : Fp B g W W2 := Only.trans h k fun _ _ h => h
theorem Fp.size {B g : Nat} {W W1 : World} (h : Fp B g W W1) : W.heap.size ≤ W1.heap.size := Only.size h
theorem Fp.of {B g : Nat} {W W1 : World} (h : Below B W W1) : Fp B g W W1 := ⟨h.os, h.tape, h.output, h.size, fun k _ hn => h.block k (by
  rcases Nat.lt_or_ge k B with h | h
  · exact h
  · exact absurd (.inr h) hn)⟩
def ScX (B : Nat) (g : Nat) (s : Sc) (W W' : World) : Prop := (∃ q, ScW B W' g s q) ∧ Fp B g W W'
theorem ScW.below {g : Nat} {s : Sc} {q : ScV} (h : ScW B W g s q) (hb : Below W.heap.size W W') : ScW B W' g s q := ⟨Nat.le_trans h.hB hb.size, h.blk.below hb h.blk.lt, h.rows.below hb, h.keys⟩
theorem ScW.ds_len {g : Nat} {s : Sc} {q : ScV} (h : ScW B W g s q) : q.ds.length = s.done.length := by have := congrArg List.length h.keys; simpa using this
theorem below_set {g : Nat} {W0 W : World} (hB : B ≤ W0.heap.size) (hW : B ≤ W.heap.size) (i : Nat) (u : Value) : Fp B g W (W.setCell ⟨g, i, none⟩ u) := (Only.refl (fun k => k = g ∨ B ≤ k) W).set (g := g) (fun _ => .inl rfl) i u
end Go.Proofs.YtkalllenggmgoaaDoor
