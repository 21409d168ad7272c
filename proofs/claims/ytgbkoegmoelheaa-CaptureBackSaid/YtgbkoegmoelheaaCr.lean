/- Read: its contract. -/
import Derived.Test.YtgbkoegmoelheaaCq
import Derived.Test.YtgbkoegmoelheaaRg
namespace Go.Proofs.Ytgbkoegmoelheaa
open Go.RowKit
attribute [local go_sem] wide_fn wide_depth wide_fn_in wide_depth_in Oper.semAt_some
set_option linter.unusedVariables false
set_option linter.unusedSimpArgs false

theorem region_round2 {l n id c : Nat} {P : Program} {ops : Array Oper} {Q : Exit → Act → World → Prop} {S0 S1 : World → Prop} {a : Act} {w : World} (hm : P.follows .mixedOrders = true) (hd : ops.all noDef = true)
    (h : wpG P .any ops (OnlyN Q) S0 S1 c ops.size (Array.replicate ops.size false) a w.drew) : (Code.region id ops true).wpIn (Fence.wide.inRound l) n P Q a w := by
  refine wpIn_mono (Q := OnlyN Q) (wpIn_region_any hm (any_bridge ?_ (noDef_spec hd) _ _ _ _ (wpAny_of_wpG _ _ _ _ h))) fun e a w h => by
    obtain ⟨rfl, h⟩ := h
    exact h
  rintro ⟨a, w, h, -⟩
  cases h
theorem wpListIn_app_sz {P : Program} {w : World} {ops : Array Oper} {rest : List Oper} {o : Oper} {a : Act} {Q : Exit → Act → World → Prop} {F : Fence} {nn : Nat} (hgd : o.guard = none) (s x : Operand) (t : TypeId) (hop : o.op = Op.call { callee := Callee.builtin Builtin.append, args := #[s, x], argTypes := #[t, t] }) {e : TypeId} {size bytes : Nat} (hE : ElS P t e size bytes) {base n m c : Nat} {v : Value} {xs news : List Value} {A : Option Addr} (hs : a.eval s = v) (hown : w.ownsRow base e size v n xs) (hx : a.eval x = .slice A m c) (hsrc : HoldsS w size A m news) (h1 : ∀ u ∈ news, u.oneCell' = true) (h63 : n + m ≤ maxLen) (hby : (n + m) * bytes ≤ 140737488355328) (hbase : base ≤ w.heap.size) (hA : A ≠ none)
    (hK : ∀ v' w', w'.ownsRow base e size v' (n + m) (xs ++ news) → w.grownBy w' v.ownBlock → wpListIn F nn P ops Q rest (a.put o.dst v') w') : wpListIn F nn P ops Q (o :: rest) a w := by
  obtain ⟨v', w', hrun, p1, p2⟩ := run_app_sz (ty := o.type) hE hown hsrc h1 h63 hby hbase hA
  exact wpListIn_run hgd s x t hop hs hx hrun (hK v' w' p1 p2)
theorem elG : ElS Try.prog 59 63 2 16 := ElS.mk' (z := .agg #[.int .i64 0, .int .i64 0]) Try.underlying59 (by kernel_rfl) rfl (by decide)
/-- What Read has found so far. -/
structure RdP where
  l : List Pk
  g : List (Nat × Nat)
  e : Nat
def rdStep (s : RdP) (x : Fd) : RdP := ⟨s.l ++ x.l, if s.e < x.at_ then s.g ++ [(s.e, x.at_)] else s.g, x.en⟩
def rdAll (xs : List Fd) : RdP := xs.foldl rdStep ⟨[], [], 0⟩
def endG (s : RdP) (n : Nat) : List (Nat × Nat) := if s.e < n then s.g ++ [(s.e, n)] else s.g
theorem rdAll_take {xs : List Fd} {i : Nat} {x : Fd} (h : xs[i]? = some x) : rdAll (xs.take (i + 1)) = rdStep (rdAll (xs.take i)) x := by
  rw [rdAll, List.take_add_one, h, List.foldl_append]
  rfl
def gcells (p : Nat × Nat) : List Value := [.int .i64 (p.1 : Int), .int .i64 (p.2 : Int)]
theorem fits_of_dec {l : List UInt8} {q : List Pk} {m : Nat} (h : dec l = .ok (q, m)) : fitsP q = true := by
  unfold dec at h
  simp only at h
  split at h
  · cases h
  · split at h
    · split at h
      · cases h
      · split at h
        · cases h
        · split at h
          · rename_i hf
            split at h
            · injection h with h
              injection h with h1 h2
              rw [← h1]
              exact hf.1
            · cases h
          · cases h
    · cases h
theorem blksF_spec (b : List UInt8) : ∀ (k p : Nat), p ≤ b.length → (blksF b k p).length ≤ b.length - p ∧ ∀ x ∈ blksF b k p, fitsP x.l = true ∧ p ≤ x.at_ ∧ x.at_ < x.en ∧ x.en ≤ b.length
  | 0, p, _ => ⟨Nat.zero_le _, fun x hx => by cases hx⟩
  | k + 1, p, h => by
    rw [blksF]
    by_cases hp : p < b.length
    · rw [if_pos hp]
      cases hd : dec (b.drop p) with
      | error e =>
        have ih := blksF_spec b k (p + 1) (by omega)
        simp only
        exact ⟨by have := ih.1; omega, fun x hx => by have := ih.2 x hx; exact ⟨this.1, by omega, this.2.2⟩⟩
      | ok y =>
        obtain ⟨q, m⟩ := y
        have hm := dec_ok_le hd
        rw [List.length_drop] at hm
        have ih := blksF_spec b k (p + m) (by omega)
        refine ⟨by have := ih.1; simp only [List.length_cons]; omega, fun x hx => ?_⟩
        rcases List.mem_cons.1 hx with rfl | hx
        · exact ⟨fits_of_dec hd, Nat.le_refl _, by show p < p + m; omega, by show p + m ≤ b.length; omega⟩
        · have := ih.2 x hx
          exact ⟨this.1, by omega, this.2.2⟩
    · rw [if_neg hp]
      exact ⟨by simp, fun x hx => by cases hx⟩
theorem blks_spec (b : List UInt8) : (blks b 0).length ≤ b.length ∧ ∀ x ∈ blks b 0, fitsP x.l = true ∧ x.at_ < x.en ∧ x.en ≤ b.length := by
  have := blksF_spec b (b.length - 0) 0 (Nat.zero_le _)
  exact ⟨by have := this.1; exact this, fun x hx => by have := this.2 x hx; exact ⟨this.1, this.2.2⟩⟩
theorem rd_bound (xs : List Fd) (h : ∀ x ∈ xs, fitsP x.l = true) (i : Nat) : (rdAll (xs.take i)).l.length ≤ 64 * i ∧ (rdAll (xs.take i)).g.length ≤ i := by
  induction i with
  | zero => simp [rdAll]
  | succ i ih =>
    cases hx : xs[i]? with
    | none =>
      have : xs.take (i + 1) = xs.take i := by rw [List.take_add_one, hx]; simp
      rw [this]
      omega
    | some x =>
      rw [rdAll_take hx, rdStep]
      have := (fitsP_iff.1 (h x (List.mem_of_getElem? hx))).2.1
      simp only [List.length_append]
      refine ⟨by omega, ?_⟩
      split
      · rw [List.length_append]; simp; omega
      · omega
/-- What Read has laid so far. -/
structure RI (w : World) (B2 a : Nat) (A : Option Addr) (n c : Nat) (s : RdP) (X : World) (vl vg : Value) (ds : List Pd) : Prop where
  b2 : Blk X w.heap.size 22 #[vl]
  b3 : Blk X (w.heap.size + 1) 59 #[vg]
  b4 : Blk X (w.heap.size + 1 + 1) 3 #[.int .i64 (s.e : Int)]
  po : PO w.heap.size X vl ds
  eq : pks ds = s.l
  gs : X.ownsRow w.heap.size 63 2 vg s.g.length (s.g.flatMap gcells)
  below : Below w.heap.size w X
  ka : Blk X a 23 #[.slice A n c]
  size : B2 ≤ X.heap.size
def RIx (w : World) (B2 a : Nat) (A : Option Addr) (n c : Nat) (s : RdP) (X : World) : Prop := ∃ vl vg ds, RI w B2 a A n c s X vl vg ds
theorem RI.below_ {w : World} {B2 a : Nat} {A : Option Addr} {n c : Nat} {s : RdP} {X Y : World} {vl vg : Value} {ds : List Pd} (h : RI w B2 a A n c s X vl vg ds) (hb : Below X.heap.size X Y) : RI w B2 a A n c s Y vl vg ds :=
  ⟨h.b2.below hb h.b2.lt, h.b3.below hb h.b3.lt, h.b4.below hb h.b4.lt, h.po.below hb, h.eq, own_keeps h.gs fun k hk => hb.block k (own_lt h.gs k hk), h.below.trans (hb.mono h.below.size), h.ka.below hb h.ka.lt, Nat.le_trans h.size hb.size⟩
theorem PO.calm {B k : Nat} {X : World} {v : Value} {ds : List Pd} {o o' : Obj} (h : PO B X v ds) (hX : X.heap[k]? = some o) (ho : o.isCells = false) : PO B (X.putObj k o') v ds := ⟨own_calm h.own hX ho, fun p hp => own_calm (h.data p hp) hX ho, h.rng⟩
theorem RI.calm {w : World} {B2 a : Nat} {A : Option Addr} {n c k : Nat} {s : RdP} {X : World} {vl vg : Value} {ds : List Pd} {o o' : Obj} (h : RI w B2 a A n c s X vl vg ds) (hk : w.heap.size ≤ k) (hX : X.heap[k]? = some o) (ho : o.isCells = false) : RI w B2 a A n c s (X.putObj k o') vl vg ds :=
  ⟨h.b2.calm hX ho, h.b3.calm hX ho, h.b4.calm hX ho, h.po.calm hX ho, h.eq, own_calm h.gs hX ho, below_calm h.below hk hX, h.ka.calm hX ho, by rw [size_putObj]; exact h.size⟩
theorem keeps_only {p : Nat → Prop} {w w' : World} (h : Only p w w') (hp : ∀ k o, p k → w.heap[k]? = some o → o.isCells = true) (B : Nat) : KeepsFrom B w w' :=
  ⟨h.size, fun k o _ hk hc => (h.block k (Array.getElem?_eq_some_iff.1 hk).1 (fun hpk => by rw [hp k o hpk hk] at hc; cases hc)).trans hk⟩
theorem Blk.cells_ {w : World} {g : Nat} {t : TypeId} {cs : Array Value} (h : Blk w g t cs) {o : Obj} (hk : w.heap[g]? = some o) : o.isCells = true := by
  unfold Blk at h
  rw [h] at hk
  cases hk
  rfl
theorem own_cells_ {w : World} {B n sz k : Nat} {e : TypeId} {v : Value} {xs : List Value} (h : w.ownsRow B e sz v n xs) (hv : v.ownBlock = some k) {o : Obj} (hk : w.heap[k]? = some o) : o.isCells = true := by
  rcases h.2 with ⟨rfl, _⟩ | ⟨g, cap, cur, rfl, hg, hh, _⟩
  · cases hv
  · cases hv
    rw [hh] at hk
    cases hk
    rfl

theorem keeps_below {w w' : World} (hb : Below w.heap.size w w') (B : Nat) : KeepsFrom B w w' := ⟨hb.size, fun k o _ hk _ => (hb.block k (Array.getElem?_eq_some_iff.1 hk).1).trans hk⟩
theorem fkp_calm (B a n : Nat) (A : Option Addr) (ha : a < B) (hA : ∀ ad, A = some ad → 0 < n → ad.block < B) (vs : Array Value) (X : World) : Calm B (FKp a A n vs X) := fun Y k o o' hk hY ho h =>
  ⟨by rw [size_putObj]; exact h.1, fun j hj => (World.putObj_heap_other (by
    rcases hj with rfl | ⟨ad, hA2, h0, rfl⟩
    · omega
    · have := hA ad hA2 h0; omega)).trans (h.2 j hj)⟩
theorem gcells_len (g : List (Nat × Nat)) : (g.flatMap gcells).length = g.length * 2 := by
  induction g with
  | nil => rfl
  | cons p g ih => simp only [List.flatMap_cons, List.length_append, ih, List.length_cons]; have : (gcells p).length = 2 := rfl; omega
section
variable {w X W2 : World} {B2 a : Nat} {A : Option Addr} {n c : Nat} {s : RdP} {vl vg : Value} {ds : List Pd}
/-- What a gap turns. -/
def PGap (w : World) (vg : Value) (k : Nat) : Prop := k = w.heap.size + 1 ∨ vg.ownBlock = some k
theorem RI.gap (h : RI w B2 a A n c s X vl vg ds) {o : Obj} {t : Nat} {vg2 : Value} (hown : W2.ownsRow w.heap.size 63 2 vg2 (s.g.length + 1) (s.g.flatMap gcells ++ [.int .i64 (s.e : Int), .int .i64 (t : Int)])) (hg : (X.alloc o).grownBy W2 vg.ownBlock) :
    RI w B2 a A n c ⟨s.l, s.g ++ [(s.e, t)], s.e⟩ (W2.setCell ⟨w.heap.size + 1, 0, none⟩ vg2) vl vg2 ds ∧ Only (PGap w vg) X (W2.setCell ⟨w.heap.size + 1, 0, none⟩ vg2) := by
  have hb0 : Below X.heap.size X (X.alloc o) := (Below.refl _ X).alloc (Nat.le_refl _) _
  have ho2 : Only (PGap w vg) X W2 := Only.after hb0 ((Only.refl (PGap w vg) (X.alloc o)).grown hg fun k hk _ => .inr hk)
  have ho : Only (PGap w vg) X (W2.setCell ⟨w.heap.size + 1, 0, none⟩ vg2) := ho2.set (fun _ => .inl rfl) 0 vg2
  have n2 : ¬ PGap w vg w.heap.size := fun e => e.elim (fun e => by omega) (own_neP h.gs h.b2 (by decide))
  have n4 : ¬ PGap w vg (w.heap.size + 1 + 1) := fun e => e.elim (fun e => by omega) (own_neP h.gs h.b4 (by decide))
  have na : ¬ PGap w vg a := fun e => e.elim (fun e => (h.ka.ne h.b3 (by decide)) e) (own_neP h.gs h.ka (by decide))
  have hk3 : Blk W2 (w.heap.size + 1) 59 #[vg] := (h.b3.alloc o).grown hg (fun e => own_neP h.gs h.b3 (by decide) e.symm)
  have hs3 := hk3.set_ 0 vg2
  simp only [List.setIfInBounds_toArray, List.set_cons_zero] at hs3
  refine ⟨⟨h.b2.only ho n2, hs3, h.b4.only ho n4, ⟨own_only h.po.own ho fun k hk e => ?_, fun p hp => own_only (h.po.data p hp) ho fun k hk e => ?_, h.po.rng⟩, h.eq, ?_, ?_, h.ka.only ho na, Nat.le_trans h.size ho.size⟩, ho⟩
  · exact e.elim (fun e => own_neP h.po.own h.b3 (by decide) (e ▸ hk)) (own_neS h.po.own h.gs (by decide) k hk)
  · exact e.elim (fun e => own_neP (h.po.data p hp) h.b3 (by decide) (e ▸ hk)) (own_neS (h.po.data p hp) h.gs (by decide) k hk)
  · have hne : vg2.ownBlock ≠ some (w.heap.size + 1) := own_neP hown hk3 (by decide)
    have := own_setCell (a := ⟨w.heap.size + 1, 0, none⟩) hown hne vg2
    simpa [gcells] using this
  · exact h.below.trans ((ho.to_below h.below.size (fun b hb e => e.elim (fun e => by omega) (fun e => by have := (h.gs.lt b e).1; omega))).mono (Nat.le_refl _))
/-- What the end of a round turns. -/
def PFin (w : World) (vl : Value) (k : Nat) : Prop := k = w.heap.size ∨ k = w.heap.size + 1 + 1 ∨ vl.ownBlock = some k
theorem RI.fin (h : RI w B2 a A n c s X vl vg ds) {x : Fd} {v9 : Value} {ds5 : List Pd} {v5 : Value} {B5 : Nat} (h5 : PO B5 X v5 ds5) (hB5 : w.heap.size ≤ B5) (he : pks ds5 = x.l) (hown : W2.ownsRow w.heap.size 31 3 v9 (ds.length + ds5.length) (ds.flatMap Pd.cells ++ ds5.flatMap Pd.cells)) (hg : X.grownBy W2 vl.ownBlock) :
    RI w B2 a A n c ⟨s.l ++ x.l, s.g, x.en⟩ ((W2.setCell ⟨w.heap.size, 0, none⟩ v9).setCell ⟨w.heap.size + 1 + 1, 0, none⟩ (.int .i64 (x.en : Int))) v9 vg (ds ++ ds5) ∧ Only (PFin w vl) X ((W2.setCell ⟨w.heap.size, 0, none⟩ v9).setCell ⟨w.heap.size + 1 + 1, 0, none⟩ (.int .i64 (x.en : Int))) := by
  have ho2 : Only (PFin w vl) X W2 := (Only.refl (PFin w vl) X).grown hg fun k hk _ => .inr (.inr hk)
  have ho : Only (PFin w vl) X ((W2.setCell ⟨w.heap.size, 0, none⟩ v9).setCell ⟨w.heap.size + 1 + 1, 0, none⟩ (.int .i64 (x.en : Int))) := (ho2.set (fun _ => .inl rfl) 0 v9).set (fun _ => .inr (.inl rfl)) 0 _
  have n3 : ¬ PFin w vl (w.heap.size + 1) := fun e => e.elim (fun e => by omega) (fun e => e.elim (fun e => by omega) (own_neP h.po.own h.b3 (by decide)))
  have na : ¬ PFin w vl a := fun e => e.elim (fun e => (h.ka.ne h.b2 (by decide)) e) (fun e => e.elim (fun e => (h.ka.ne h.b4 (by decide)) e) (own_neP h.po.own h.ka (by decide)))
  have hk2 : Blk W2 w.heap.size 22 #[vl] := h.b2.grown hg (fun e => own_neP h.po.own h.b2 (by decide) e.symm)
  have hk4 : Blk W2 (w.heap.size + 1 + 1) 3 #[.int .i64 (s.e : Int)] := h.b4.grown hg (fun e => own_neP h.po.own h.b4 (by decide) e.symm)
  have hs2 := (hk2.set_ 0 v9).far (show w.heap.size ≠ (⟨w.heap.size + 1 + 1, 0, none⟩ : Addr).block by simp; omega) (.int .i64 (x.en : Int))
  have hs4 := (hk4.far (show w.heap.size + 1 + 1 ≠ (⟨w.heap.size, 0, none⟩ : Addr).block by simp; omega) v9).set_ 0 (.int .i64 (x.en : Int))
  simp only [List.setIfInBounds_toArray, List.set_cons_zero] at hs2 hs4
  have key : ∀ {B' : Nat} {v : Value} {m : Nat} {ys : List Value}, X.ownsRow B' 5 1 v m ys → ((W2.setCell ⟨w.heap.size, 0, none⟩ v9).setCell ⟨w.heap.size + 1 + 1, 0, none⟩ (.int .i64 (x.en : Int))).ownsRow B' 5 1 v m ys := fun hq => own_only hq ho fun k hk e => e.elim (fun e => own_neP hq h.b2 (by decide) (e ▸ hk)) (fun e => e.elim (fun e => own_neP hq h.b4 (by decide) (e ▸ hk)) (own_neS hq h.po.own (by decide) k hk))
  refine ⟨⟨hs2, h.b3.only ho n3, hs4, ⟨?_, fun p hp => ?_, fun p hp => ?_⟩, ?_, own_only h.gs ho fun k hk e => ?_, ?_, h.ka.only ho na, Nat.le_trans h.size ho.size⟩, ho⟩
  · have e2 : v9.ownBlock ≠ some w.heap.size := own_neP hown hk2 (by decide)
    have e4 : v9.ownBlock ≠ some (w.heap.size + 1 + 1) := own_neP hown hk4 (by decide)
    have := own_setCell (a := ⟨w.heap.size + 1 + 1, 0, none⟩) (own_setCell (a := ⟨w.heap.size, 0, none⟩) hown e2 v9) e4 (.int .i64 (x.en : Int))
    rw [List.length_append, List.flatMap_append]
    exact this
  · rcases List.mem_append.1 hp with h1 | h1
    · exact key (h.po.data p h1)
    · exact own_base (key (h5.data p h1)) hB5
  · rcases List.mem_append.1 hp with h1 | h1
    · exact h.po.rng p h1
    · exact h5.rng p h1
  · show (ds ++ ds5).map Pd.pk = s.l ++ x.l
    rw [List.map_append]
    exact congr (congrArg _ h.eq) he
  · exact e.elim (fun e => own_neP h.gs h.b2 (by decide) (e ▸ hk)) (fun e => e.elim (fun e => own_neP h.gs h.b4 (by decide) (e ▸ hk)) (own_neS h.gs h.po.own (by decide) k hk))
  · exact h.below.trans ((ho.to_below h.below.size (fun b hb e => e.elim (fun e => by omega) (fun e => e.elim (fun e => by omega) (fun e => by have := (h.po.own.lt b e).1; omega)))).mono (Nat.le_refl _))
theorem RI.keepsG (h : RI w B2 a A n c s X vl vg ds) {Y : World} (ho : Only (PGap w vg) X Y) (B : Nat) : KeepsFrom B X Y := keeps_only ho (fun k o hp hk => hp.elim (fun e => by subst e; exact h.b3.cells_ hk) (fun e => own_cells_ h.gs e hk)) B
theorem RI.keepsF (h : RI w B2 a A n c s X vl vg ds) {Y : World} (ho : Only (PFin w vl) X Y) (B : Nat) : KeepsFrom B X Y := keeps_only ho (fun k o hp hk => hp.elim (fun e => by subst e; exact h.b2.cells_ hk) (fun e => e.elim (fun e => by subst e; exact h.b4.cells_ hk) (fun e => own_cells_ h.po.own e hk))) B
theorem RI.fkpG (h : RI w B2 a A n c s X vl vg ds) {Y : World} (ho : Only (PGap w vg) X Y) (hA : ∀ ad, A = some ad → 0 < n → ad.block < w.heap.size) (vs : Array Value) : FKp a A n vs X Y :=
  ⟨ho.size, fun k hk => ho.block k (by
    rcases hk with rfl | ⟨ad, hA2, h0, rfl⟩
    · exact h.ka.lt
    · have := hA ad hA2 h0; have := h.below.size; omega) (fun e => by
    rcases hk with rfl | ⟨ad, hA2, h0, rfl⟩
    · exact e.elim (fun e => (h.ka.ne h.b3 (by decide)) e) (own_neP h.gs h.ka (by decide))
    · have := hA ad hA2 h0
      exact e.elim (fun e => by omega) (fun e => by have := (h.gs.lt _ e).1; omega))⟩
theorem RI.fkpF (h : RI w B2 a A n c s X vl vg ds) {Y : World} (ho : Only (PFin w vl) X Y) (hA : ∀ ad, A = some ad → 0 < n → ad.block < w.heap.size) (vs : Array Value) : FKp a A n vs X Y :=
  ⟨ho.size, fun k hk => ho.block k (by
    rcases hk with rfl | ⟨ad, hA2, h0, rfl⟩
    · exact h.ka.lt
    · have := hA ad hA2 h0; have := h.below.size; omega) (fun e => by
    rcases hk with rfl | ⟨ad, hA2, h0, rfl⟩
    · exact e.elim (fun e => (h.ka.ne h.b2 (by decide)) e) (fun e => e.elim (fun e => (h.ka.ne h.b4 (by decide)) e) (own_neP h.po.own h.ka (by decide)))
    · have := hA ad hA2 h0
      exact e.elim (fun e => by omega) (fun e => e.elim (fun e => by omega) (fun e => by have := (h.po.own.lt _ e).1; omega)))⟩
end
theorem FKp.trans {a n : Nat} {A : Option Addr} {vs : Array Value} {X Y Z : World} (h : FKp a A n vs X Y) (k : FKp a A n vs Y Z) : FKp a A n vs X Z := ⟨Nat.le_trans h.1 k.1, fun j hj => (k.2 j hj).trans (h.2 j hj)⟩
theorem FKp.of_below {a n : Nat} {A : Option Addr} {vs : Array Value} {X Y : World} (hb : Below X.heap.size X Y) (ha : a < X.heap.size) (hA : ∀ ad, A = some ad → 0 < n → ad.block < X.heap.size) : FKp a A n vs X Y := ⟨hb.size, fun k hk => hb.block k (by
  rcases hk with rfl | ⟨ad, hA2, h0, rfl⟩
  · exact ha
  · exact hA ad hA2 h0)⟩
def RC9 (r2 : Nat) (vl vg : Value) (W : World) : Prop := W.cell? ⟨r2, 0, none⟩ = some vl ∧ W.cell? ⟨r2 + 1, 0, none⟩ = some vg
theorem RI.rc9 {w X : World} {B2 a : Nat} {A : Option Addr} {n c : Nat} {s : RdP} {vl vg : Value} {ds : List Pd} (h : RI w B2 a A n c s X vl vg ds) : RC9 w.heap.size vl vg X.drew := by
  have k0 := h.b2.cell 0
  have k1 := h.b3.cell 0
  simp at k0 k1
  exact ⟨k0, k1⟩
theorem RI.sameG {w X : World} {B2 a : Nat} {A : Option Addr} {n c : Nat} {s : RdP} {vl vg : Value} {ds : List Pd} (h : RI w B2 a A n c s X vl vg ds) (g : Nat) (u : Value) (t : TypeId) (hg : Blk X g t #[u]) (hge : w.heap.size ≤ g) (h22 : t = 22 ∨ t = 59) : RI w B2 a A n c s (X.setCell ⟨g, 0, none⟩ u) vl vg ds := by
  have ho : Only (fun k => k = g) X (X.setCell ⟨g, 0, none⟩ u) := Only.set (p := fun k => k = g) (Only.refl _ X) (fun _ => rfl) 0 u
  have key : ∀ {k : Nat} {t2 : TypeId} {u2 : Value}, Blk X k t2 #[u2] → Blk (X.setCell ⟨g, 0, none⟩ u) k t2 #[u2] := fun {k t2 u2} hk => by
    by_cases hkg : k = g
    · subst hkg
      have h1 := hg
      unfold Blk at h1 hk
      rw [hk] at h1
      injection h1 with h1
      injection h1 with h1 h2
      have h3 : u2 = u := by injection h1 with h1; injection h1
      subst h3
      have := (show Blk X k t2 #[u2] from hk).set_ 0 u2
      simpa using this
    · exact hk.only ho hkg
  have k5 : ∀ {B' m sz : Nat} {e : TypeId} {v : Value} {ys : List Value}, t ≠ e → X.ownsRow B' e sz v m ys → (X.setCell ⟨g, 0, none⟩ u).ownsRow B' e sz v m ys := fun hne hq => own_only hq ho fun k hk e => own_neP hq hg hne (e ▸ hk)
  refine ⟨key h.b2, key h.b3, key h.b4, ⟨k5 (by rcases h22 with rfl | rfl <;> decide) h.po.own, fun p hp => k5 (by rcases h22 with rfl | rfl <;> decide) (h.po.data p hp), h.po.rng⟩, h.eq, k5 (by rcases h22 with rfl | rfl <;> decide) h.gs, h.below.trans ((ho.to_below h.below.size (fun b hb e => by omega)).mono (Nat.le_refl _)), key h.ka, Nat.le_trans h.size ho.size⟩
theorem RI.same2 {w X : World} {B2 a : Nat} {A : Option Addr} {n c : Nat} {s : RdP} {vl vg : Value} {ds : List Pd} (h : RI w B2 a A n c s X vl vg ds) : RI w B2 a A n c s (X.setCell ⟨w.heap.size, 0, none⟩ vl) vl vg ds := h.sameG _ _ 22 h.b2 (Nat.le_refl _) (.inl rfl)
theorem RI.same3 {w X : World} {B2 a : Nat} {A : Option Addr} {n c : Nat} {s : RdP} {vl vg : Value} {ds : List Pd} (h : RI w B2 a A n c s X vl vg ds) : RI w B2 a A n c s (X.setCell ⟨w.heap.size + 1, 0, none⟩ vg) vl vg ds := h.sameG _ _ 59 h.b3 (by omega) (.inr rfl)
theorem rd_e (xs : List Fd) (h : ∀ x ∈ xs, x.en ≤ 2000000) : (rdAll xs).e ≤ 2000000 := by
  unfold rdAll
  have : ∀ (ys : List Fd) (s : RdP), (∀ x ∈ ys, x.en ≤ 2000000) → s.e ≤ 2000000 → (ys.foldl rdStep s).e ≤ 2000000 := by
    intro ys
    induction ys with
    | nil => exact fun s _ h => h
    | cons y ys ih => exact fun s hy _ => ih _ (fun x hx => hy x (by simp [hx])) (hy y (by simp))
  exact this xs _ h (by simp)
def tmsR (w : World) (A : Option Addr) (n c : Nat) (g5 : Nat) (v8 : Value) : Array Value := #[.slice A n c, undef, .pointer (some ⟨w.heap.size, 0, none⟩), .pointer (some ⟨w.heap.size + 1, 0, none⟩), .pointer (some ⟨w.heap.size + 1 + 1, 0, none⟩), .pointer (some ⟨g5, 0, none⟩), .slice A n c, .func (.func 57) #[] #[.pointer (some ⟨w.heap.size + 1 + 1 + 1, 0, none⟩)], v8, undef, undef, undef, undef, undef, undef, undef, undef, undef, undef, undef, undef, undef, undef, undef, undef, undef, undef, undef, undef, undef, undef, undef, undef, undef, undef, undef, undef, undef, undef]
/-- Behind the assignment of a round. -/
structure RAx (w : World) (B2 a : Nat) (A : Option Addr) (n c : Nat) (xs : List Fd) (i : Nat) (vs : Array Value) (X0 X : World) (tm : Array Value) (x : Fd) (g5 : Nat) (A5 : Option Addr) (c5 : Nat) (ds5 : List Pd) : Prop where
  hx : xs[i]? = some x
  htm : tm = tmsR w A n c g5 (.agg #[.int .i64 (x.at_ : Int), .int .i64 (x.en : Int), .slice A5 ds5.length c5])
  k5 : Blk X g5 95 #[.int .i64 (x.at_ : Int), .int .i64 (x.en : Int), .slice A5 ds5.length c5]
  po : PO (B2 + 2) X (.slice A5 ds5.length c5) ds5
  eq : pks ds5 = x.l
  kp : FKp a A n vs X0 X
  ri : RIx w B2 a A n c (rdAll (xs.take i)) X
def RAxx (w : World) (B2 a : Nat) (A : Option Addr) (n c : Nat) (xs : List Fd) (i : Nat) (vs : Array Value) (X0 : World) (a' : Act) (X : World) : Prop := a'.defers = [] ∧ ∃ x g5 A5 c5 ds5, RAx w B2 a A n c xs i vs X0 X a'.tmps x g5 A5 c5 ds5
def RC6 (r2 g5 : Nat) (vl v5 : Value) (en : Int) (W : World) : Prop := W.cell? ⟨r2, 0, none⟩ = some vl ∧ W.cell? ⟨g5, 1, none⟩ = some (.int .i64 en) ∧ W.cell? ⟨g5, 2, none⟩ = some v5
def RC6b (g5 : Nat) (en : Int) (W : World) : Prop := W.cell? ⟨g5, 1, none⟩ = some (.int .i64 en)
theorem cell_only {p : Nat → Prop} {W W' : World} {a : Addr} {u : Value} (h : W.cell? a = some u) (ho : Only p W W') (hp : ¬ p a.block) : W'.cell? a = some u := by
  rw [← h]
  unfold World.cell?
  rw [ho.block a.block (World.block_lt_of_cell? _ _ h) hp]

set_option maxRecDepth 100000 in
set_option maxHeartbeats 4000000 in
theorem read_any (A : Option Addr) (n c : Nat) (L : List UInt8) (w : World) (h : RB w A n c L) (hn : n ≤ 2000000) :
    Calls Try.prog 24 #[.slice A n c] w fun e w' => ∃ vl vg ds, e = .returned (.tuple #[vl, vg]) ∧ PO w.heap.size w' vl ds ∧ pks ds = (rdAll (blks L 0)).l ∧ w'.ownsRow w.heap.size 63 2 vg (endG (rdAll (blks L 0)) n).length ((endG (rdAll (blks L 0)) n).flatMap gcells) ∧ Below w.heap.size w w' := by
  have HR := Lib.hid h
  have HN := Lib.hid hn
  have HLN := Lib.hid h.len
  obtain ⟨xs, hxs⟩ : ∃ xs, blks L 0 = xs := ⟨_, rfl⟩
  have hsp := blks_spec L
  rw [hxs] at hsp ⊢
  have HSP := Lib.hid hsp
  have HXL := Lib.hid hxs
  clear h hn hsp hxs
  refine (callsIn_wide (n := 100)).1 ?_
  refine callsIn_of_wp_marks Try.func24 rfl trivial ?_ rfl
  simp only [Try.ntmps24, List.size_toArray, List.length_cons, List.length_nil, Nat.reduceAdd, Nat.reduceSub, Array.replicate_succ, Array.replicate_zero, List.push_toArray, List.append_toArray, List.nil_append, List.cons_append]
  gi_wp2_with (gi_at_call 51; (with_reducible refine (callsIn_wide.2 (blocks51_any _ _ _ _)).mono ?_); rintro e w' ⟨rfl, rfl⟩; unfold fn57)
  obtain ⟨W0, hW0⟩ : ∃ W0, (((w.alloc (.cells #[.slice none 0 0] 22)).alloc (.cells #[.slice none 0 0] 59)).alloc (.cells #[.int .i64 0] 3)).alloc (.cells #[.slice A n c] 23) = W0 := ⟨_, rfl⟩
  rw [hW0]
  have hz0 : W0.heap.size = w.heap.size + 4 := by rw [← hW0]; simp
  have hb0 : Below w.heap.size w W0 := by rw [← hW0]; exact ((((Below.refl _ w).alloc (Nat.le_refl _) _).alloc (by simp) _).alloc (by simp; omega) _).alloc (by simp; omega) _
  have k2 : Blk W0 w.heap.size 22 #[.slice none 0 0] := by rw [← hW0]; exact (((Blk.new w _ _).alloc _).alloc _).alloc _
  have k3 : Blk W0 (w.heap.size + 1) 59 #[.slice none 0 0] := by rw [← hW0]; have := ((Blk.new (w.alloc (.cells #[.slice none 0 0] 22)) 59 #[.slice none 0 0]).alloc (.cells #[.int .i64 0] 3)).alloc (.cells #[.slice A n c] 23); simpa using this
  have k4 : Blk W0 (w.heap.size + 1 + 1) 3 #[.int .i64 0] := by rw [← hW0]; have := (Blk.new ((w.alloc (.cells #[.slice none 0 0] 22)).alloc (.cells #[.slice none 0 0] 59)) 3 #[.int .i64 0]).alloc (.cells #[.slice A n c] 23); simpa using this
  have ka : Blk W0 (w.heap.size + 1 + 1 + 1) 23 #[.slice A n c] := by rw [← hW0]; have := Blk.new (((w.alloc (.cells #[.slice none 0 0] 22)).alloc (.cells #[.slice none 0 0] 59)).alloc (.cells #[.int .i64 0] 3)) 23 #[.slice A n c]; simpa using this
  have HAD := Lib.hid (show ∀ ad, A = some ad → 0 < n → ad.block < w.heap.size from fun ad hA h0 => HR.out.lt h0 hA)
  have hsp := HSP.out
  have HXS := Lib.hid (show ∀ x ∈ xs, fitsP x.l = true ∧ x.at_ ≤ 2000000 ∧ x.en ≤ 2000000 from fun x hx => by have := hsp.2 x hx; have := HLN.out; have := HN.out; exact ⟨(hsp.2 x hx).1, by omega, by omega⟩)
  have HNX := Lib.hid (show xs.length ≤ 2000000 by have := hsp.1; have := HLN.out; have := HN.out; omega)
  have HZ0 := Lib.hid hz0
  have h00 : RI w W0.heap.size (w.heap.size + 1 + 1 + 1) A n c ⟨[], [], 0⟩ W0 (.slice none 0 0) (.slice none 0 0) [] := ⟨k2, k3, k4, PO.nil _ _, rfl, World.ownsRow_nil _ _ 63 2, hb0, ka, Nat.le_refl _⟩
  have H00 := Lib.hid h00
  clear hW0 hsp k2 k3 k4
  refine wpIn_iter (N := xs.length) (At := FAt (W0.heap.size + 2) xs) (Kp := FKp (w.heap.size + 1 + 1 + 1) A n) (Step := fun X Y => Below X.heap.size X Y) rfl (by omega) (gf := 57) (lb := #[.pointer (some ⟨w.heap.size + 1 + 1 + 1, 0, none⟩)]) rfl trivial (enters_of Try.func57 (by kernel_rfl) rfl)
    (fun W1 hb1 hz1 => by
      have := blocks_iter 99 W1 L (w.heap.size + 1 + 1 + 1) A c (by rw [HLN.out]; exact ka.below hb1 ka.lt) (by rw [HLN.out]; exact HR.out.below (hb0.trans (hb1.mono hb0.size))) (by have := HLN.out; have := HN.out; omega)
      rw [HXL.out, HLN.out, hz1] at this
      exact this)
    (fun X Y hXY k hk hkX => hXY.block k hkX)
    (fun vs X => fkp_calm W0.heap.size (w.heap.size + 1 + 1 + 1) n A (by omega) (fun ad hA h0 => by have := HAD.out ad hA h0; omega) vs X)
    (fun i vs X ⟨x, v, ds, _, h, _⟩ => by rw [h]; rfl)
    (fun i X => RIx w W0.heap.size (w.heap.size + 1 + 1 + 1) A n c (rdAll (xs.take i)) X)
    (fun cd i X => False)
    ?hI (fun cd i X k o o' hk hX ho h => h) ?hIS (fun cd i X Y h hs => h) ?h0
    (fun i vs X a' W => RAxx w W0.heap.size (w.heap.size + 1 + 1 + 1) A n c xs i vs X a' W)
    ?hAx ?assign ?body ?done ?stop
  case hI => exact fun i X k o o' hk hX ho ⟨vl, vg, ds, h⟩ => ⟨vl, vg, ds, h.calm (by omega) hX ho⟩
  case hIS => exact fun i X Y ⟨vl, vg, ds, h⟩ hs => ⟨vl, vg, ds, h.below_ hs⟩
  case h0 => exact fun W1 hb1 hz1 => ⟨_, _, _, (H00.out.below_ hb1)⟩
  case hAx => exact fun i vs X0 a' X k o o' hk hX ho ⟨hd, x, g5, A5, c5, ds5, h⟩ => ⟨hd, x, g5, A5, c5, ds5, h.hx, h.htm, h.k5.calm hX ho, h.po.calm hX ho, h.eq, fkp_calm W0.heap.size (w.heap.size + 1 + 1 + 1) n A (by omega) (fun ad hA h0 => by have := HAD.out ad hA h0; omega) vs X0 X k o o' hk hX ho h.kp, by
    obtain ⟨vl, vg, ds, hr⟩ := h.ri
    exact ⟨vl, vg, ds, hr.calm (by omega) hX ho⟩⟩
  case assign =>
    rintro l i vs X K hl hi ⟨vl, vg, ds, hri⟩ ⟨x, v, ds5, hx, rfl, hpo, heq⟩ hlt hK
    obtain ⟨A5, c5, rfl⟩ := hpo.form
    have hb := (Below.refl X.heap.size X).alloc (Nat.le_refl _) (.cells #[.int .i64 (x.at_ : Int), .int .i64 (x.en : Int), .slice A5 ds5.length c5] 95)
    gi_wp2
    refine hK _ _ (keeps_below hb _) ?_
    exact ⟨rfl, x, X.heap.size, A5, c5, ds5, hx, rfl, Blk.new X 95 _, hpo.below hb, heq, FKp.of_below hb hri.ka.lt (fun ad hA h0 => by have := HAD.out ad hA h0; have := hri.below.size; omega), vl, vg, ds, hri.below_ hb⟩
  case body =>
    rintro l i vs X0 ⟨tm, df⟩ WX hl hi hr ⟨hdf, x, g5, A5, c5, ds5, hax⟩
    obtain ⟨hx, htm, hk5, hpo5, heq5, hkp, ⟨vl, vg, ds, hri⟩⟩ := hax
    clear hz0 hb0 ka h00 H00
    obtain ⟨s, hs⟩ : ∃ s, rdAll (xs.take i) = s := ⟨_, rfl⟩
    rw [hs] at hri
    have HX := Lib.hid hx
    have HSD := Lib.hid hs
    have HEQ5 := Lib.hid heq5
    have hsp := HXS.out x (List.mem_of_getElem? hx)
    have hbd := rd_bound xs (fun y hy => (HXS.out y hy).1) i
    rw [hs] at hbd
    have hxl := fitsP_iff.1 hsp.1
    have hd5 : ds5.length = x.l.length := by rw [← heq5]; simp [pks]
    have hdl : ds.length = s.l.length := by rw [← hri.eq]; simp [pks]
    obtain ⟨Al, cl, rfl⟩ := hri.po.form
    obtain ⟨Ag, cg, rfl, -⟩ := own_formS hri.gs
    obtain ⟨nl, hnl⟩ : ∃ nl, ds.length = nl := ⟨_, rfl⟩
    obtain ⟨n5, hn5⟩ : ∃ n5, ds5.length = n5 := ⟨_, rfl⟩
    obtain ⟨ng, hng⟩ : ∃ ng, s.g.length = ng := ⟨_, rfl⟩
    have HDL := Lib.hid hnl
    have HDL5 := Lib.hid hn5
    have HNG := Lib.hid hng
    have HA5 := Lib.hid (show A5 ≠ none from by
      obtain ⟨A', c', e, -, -, -, hg'⟩ := own_formS hpo5.own
      injection e with e1 e2 e3
      obtain ⟨g', hg2, -⟩ := hg' (by omega)
      rw [e1, hg2]
      simp)
    rw [hn5] at hk5 htm hpo5
    rw [hnl] at hri
    rw [hng] at hri
    obtain ⟨EN, hEN⟩ : ∃ EN : Int, (x.en : Int) = EN := ⟨_, rfl⟩
    obtain ⟨T, hT⟩ : ∃ T : Int, (x.at_ : Int) = T := ⟨_, rfl⟩
    obtain ⟨E, hE⟩ : ∃ E : Int, (s.e : Int) = E := ⟨_, rfl⟩
    have HEN := Lib.hid hEN
    have HT := Lib.hid hT
    have HE := Lib.hid hE
    have HM1 := Lib.hid (show nl + n5 ≤ maxLen by unfold maxLen; have := HNX.out; omega)
    have HM2 := Lib.hid (show (nl + n5) * 40 ≤ 140737488355328 by have := HNX.out; omega)
    have HM4 := Lib.hid (show ng ≤ 2000000 by have := HNX.out; omega)
    have e4 := hri.b4.cell 0
    have e3 := hri.b3.cell 0
    have ea := hk5.cell 0
    simp at e4 e3 ea
    rw [hE] at e4
    rw [hT] at ea
    rw [hEN, hT] at htm
    rw [hEN, hT] at hk5
    have HKP := Lib.hid hkp
    dsimp only at hdf htm
    subst hdf htm
    unfold tmsR
    have HRI0 := Lib.hid hri
    have HK50 := Lib.hid hk5
    have HPO50 := Lib.hid hpo5
    clear hs hx heq5 hsp hbd hxl hd5 hdl hnl hn5 hng hri hk5 hpo5 hkp hEN hT hE hi hl hr
    by_cases hgap : E < T
    · have q1 : decide (E < T) = true := decide_eq_true hgap
      have HGAP := Lib.hid (show s.e < x.at_ by have := HE.out; have := HT.out; omega)
      clear hgap
      gi_wp2_with (gi_at_builtin; go_must (refine wpListIn_app_sz (base := w.heap.size) (n := ng) (m := 1) (xs := s.g.flatMap gcells) (news := [.int .i64 E, .int .i64 T]) rfl (.tmp 13) (.tmp 18) 59 rfl elG rfl (own_alloc (by have := HRI0.out.gs; rw [HNG.out] at this; exact this)) rfl (HoldsS.new _ 2 1 [.int .i64 E, .int .i64 T] 63 rfl) (by simp [Value.oneCell']) (by have := HM4.out; unfold maxLen; omega) (by have := HM4.out; omega) (by have := HRI0.out.below.size; simp; omega) (by simp) ?_; intro vg2 w2 hown hg; obtain ⟨Ag2, cg2, rfl, -⟩ := own_formS hown; have HOG := Lib.hid hown; have HGG := Lib.hid (show (WX.alloc (.cells #[.int .i64 E, .int .i64 T] 63)).grownBy w2 (Value.slice Ag ng cg).ownBlock from hg); have hk3 := (HRI0.out.b3.alloc (.cells #[.int .i64 E, .int .i64 T] 63)).grown hg (fun e => own_neP HRI0.out.gs HRI0.out.b3 (by decide) e.symm); clear e3; have e3 := hk3.cell 0; simp at e3; have z3 := hk3.frozen 0; clear hown hg hk3))
      obtain ⟨hri, hog⟩ := RI.gap HRI0.out (t := x.at_) (by rw [HNG.out, HE.out, HT.out]; exact HOG.out) HGG.out
      have HKG := Lib.hid (HRI0.out.keepsG hog W0.heap.size)
      have HFG := Lib.hid (HKP.out.trans (HRI0.out.fkpG hog HAD.out vs))
      have ng5 : ¬ PGap w (Value.slice Ag ng cg) g5 := fun e => e.elim (fun e => (HK50.out.ne HRI0.out.b3 (by decide)) e) (own_neP HRI0.out.gs HK50.out (by decide))
      have hk5 := HK50.out.only hog ng5
      have hpo5 : PO (W0.heap.size + 2) (w2.setCell ⟨w.heap.size + 1, 0, none⟩ (.slice Ag2 (ng + 1) cg2)) (.slice A5 n5 c5) ds5 :=
        ⟨own_only HPO50.out.own hog fun k hk e => e.elim (fun e => own_neP HPO50.out.own HRI0.out.b3 (by decide) (e ▸ hk)) (own_neS HPO50.out.own HRI0.out.gs (by decide) k hk), fun p hp => own_only (HPO50.out.data p hp) hog fun k hk e => e.elim (fun e => own_neP (HPO50.out.data p hp) HRI0.out.b3 (by decide) (e ▸ hk)) (own_neS (HPO50.out.data p hp) HRI0.out.gs (by decide) k hk), HPO50.out.rng⟩
      obtain ⟨WY, hWY⟩ : ∃ WY, w2.setCell ⟨w.heap.size + 1, 0, none⟩ (.slice Ag2 (ng + 1) cg2) = WY := ⟨_, rfl⟩
      rw [hWY] at hri hk5 hpo5 HKG HFG ⊢
      clear hWY hog ng5 e3 z3
      have HRI := Lib.hid hri
      have HB2 := Lib.hid hri.b2
      have HSI := Lib.hid (show w.heap.size ≤ WY.heap.size from hri.below.size)
      have HK2 := Lib.hid (show Blk WY w.heap.size 22 #[.slice Al nl cl] from hri.b2)
      have HK4 := Lib.hid (show Blk WY (w.heap.size + 1 + 1) 3 #[.int .i64 (s.e : Int)] from hri.b4)
      have HK5 := Lib.hid hk5
      have HPO5 := Lib.hid hpo5
      have HOL : Hid (WY.ownsRow w.heap.size 31 3 (.slice Al nl cl) nl (ds.flatMap Pd.cells)) := Lib.hid (by have := hri.po.own; rw [HDL.out] at this; exact this)
      have HH5 : Hid (HoldsS WY.drew 3 A5 n5 (ds5.flatMap Pd.cells)) := Lib.hid (by have h5 := hpo5.own; rw [HDL5.out] at h5; exact HoldsS.own h5)
      have HN2 := Lib.hid (show some w.heap.size ≠ (Value.slice Al nl cl).ownBlock from fun e => own_neP HOL.out HB2.out (by decide) e.symm)
      have HN4 := Lib.hid (show some (w.heap.size + 1 + 1) ≠ (Value.slice Al nl cl).ownBlock from fun e => own_neP HOL.out hri.b4 (by decide) e.symm)
      have HRC := Lib.hid (show RC6 w.heap.size g5 (.slice Al nl cl) (.slice A5 n5 c5) EN WY.drew from by
        have k0 := HK2.out.cell 0
        have k1 := hk5.cell 1
        have k2 := hk5.cell 2
        simp at k0 k1 k2
        exact ⟨k0, k1, k2⟩)
      have HGC : Hid (∀ W9 : World, WY.grownBy W9 (Value.slice Al nl cl).ownBlock → RC6b g5 EN W9) := Lib.hid fun W9 hg => by
        have := (HK5.out.grown hg (fun e => own_neP HOL.out HK5.out (by decide) e.symm)).cell 1
        simpa [RC6b] using this
      have HSC : Hid (∀ (W9 : World) (r i : Nat) (u : Value), r = w.heap.size ∨ r = w.heap.size + 1 + 1 → RC6b g5 EN W9 → RC6b g5 EN (W9.setCell ⟨r, i, none⟩ u)) := Lib.hid fun W9 r i u hr hc => by
        unfold RC6b at hc ⊢
        rw [← hc]
        unfold World.cell?
        rw [Below.heap_setCell _ _ _ _ (by
          have e2 := HK5.out.ne HB2.out (by decide)
          have e4 := HK5.out.ne hri.b4 (by decide)
          rcases hr with rfl | rfl
          · exact fun e => e2 (by first | exact e | exact e.symm)
          · exact fun e => e4 (by first | exact e | exact e.symm))]
      have HM3 := Lib.hid (show w.heap.size ≤ WY.drew.heap.size from HSI.out)
      clear hri hk5 hpo5
      refine region_round2 (S0 := (RC6 w.heap.size g5 (.slice Al nl cl) (.slice A5 n5 c5) EN)) (S1 := (RC6b g5 EN)) (c := 3) (by kernel_rfl) (by kernel_rfl) ?_
      have hHeld := HRC.out
      have h01 := (fun (W : World) (h : (RC6 w.heap.size g5 (.slice Al nl cl) (.slice A5 n5 c5) EN) W) => h.2.1)
      refine wpG_take0 (i := 0) (oi := ⟨some 20, _, _, _, _, _⟩) (v := .slice Al nl cl) rfl (by kernel_rfl) (by kernel_rfl) (by kernel_rfl) (by decide) (by kernel_rfl) (fun _ _ _ h => by obtain ⟨h, -⟩ := h; cases h) rfl hHeld (Or.inl ⟨by rfl, ?_⟩) ?_
      · (intro W9 hSw; obtain ⟨v1, v2, v3⟩ := hSw; go_simp; (try (first | with_reducible rfl | rfl | (simp; done))))
      try simp only [Act.put, List.setIfInBounds_toArray, List.set_cons_zero, List.set_cons_succ]
      refine wpG_takeA (i := 1) (oi := ⟨some 21, _, _, _, _, _⟩) (v := .pointer (some ⟨g5, 2, none⟩)) rfl (by kernel_rfl) (by kernel_rfl) (by kernel_rfl) (by decide) (fun _ _ _ h => by obtain ⟨h, -⟩ := h; cases h) h01 rfl hHeld (Or.inl ⟨by rfl, ?_⟩) ?_
      · (intro W9 hSw; have v1 := hSw; unfold RC6b at v1; go_simp; (try (first | with_reducible rfl | rfl | (simp; done))))
      try simp only [Act.put, List.setIfInBounds_toArray, List.set_cons_zero, List.set_cons_succ]
      refine wpG_take0 (i := 2) (oi := ⟨some 22, _, _, _, _, _⟩) (v := .slice A5 n5 c5) rfl (by kernel_rfl) (by kernel_rfl) (by kernel_rfl) (by decide) (by kernel_rfl) (fun _ _ _ h => by obtain ⟨h, -⟩ := h; cases h) rfl hHeld (Or.inl ⟨by rfl, ?_⟩) ?_
      · (intro W9 hSw; obtain ⟨v1, v2, v3⟩ := hSw; go_simp; (try (first | with_reducible rfl | rfl | (simp; done))))
      try simp only [Act.put, List.setIfInBounds_toArray, List.set_cons_zero, List.set_cons_succ]
      refine wpG_takeA (i := 4) (oi := ⟨some 24, _, _, _, _, _⟩) (v := .pointer (some ⟨g5, 1, none⟩)) rfl (by kernel_rfl) (by kernel_rfl) (by kernel_rfl) (by decide) (fun _ _ _ h => by obtain ⟨h, -⟩ := h; cases h) h01 rfl hHeld (Or.inl ⟨by rfl, ?_⟩) ?_
      · (intro W9 hSw; have v1 := hSw; unfold RC6b at v1; go_simp; (try (first | with_reducible rfl | rfl | (simp; done))))
      try simp only [Act.put, List.setIfInBounds_toArray, List.set_cons_zero, List.set_cons_succ]
      refine wpG_takeA (i := 5) (oi := ⟨some 25, _, _, _, _, _⟩) (v := .int .i64 EN) rfl (by kernel_rfl) (by kernel_rfl) (by kernel_rfl) (by decide) (fun _ _ _ h => by obtain ⟨h, -⟩ := h; cases h) h01 rfl hHeld (Or.inl ⟨by rfl, ?_⟩) ?_
      · (intro W9 hSw; have v1 := hSw; unfold RC6b at v1; go_simp; (try (first | with_reducible rfl | rfl | (simp; done))))
      try simp only [Act.put, List.setIfInBounds_toArray, List.set_cons_zero, List.set_cons_succ]
      refine wpG_oneB (i := 3) (o := ⟨some 23, _, _, _, _, _⟩) (by kernel_rfl) rfl rfl (fun K hK => ?_)
      refine step_app_sz (base := w.heap.size) (n := nl) (m := n5) (xs := ds.flatMap Pd.cells) (news := ds5.flatMap Pd.cells) rfl (.tmp 20) (.tmp 22) 22 rfl elP rfl (own_drew HOL.out) rfl HH5.out (cells_one ds5) HM1.out HM2.out HM3.out HA5.out ?_
      intro v9 w9 hown hg
      obtain ⟨A9, c9, rfl, -⟩ := own_formS hown
      have HO9 := Lib.hid hown
      have HG9 := Lib.hid (show WY.grownBy w9 (Value.slice Al nl cl).ownBlock from grown_drew0 hg)
      have HC9 := Lib.hid (show RC6b g5 EN w9 from HGC.out _ (grown_drew0 hg))
      clear hown hg
      refine hK.out _ _ HC9.out (fun hHeld => ?_)
      clear hK K
      try simp only [Act.put, List.setIfInBounds_toArray, List.set_cons_zero, List.set_cons_succ]
      refine wpG_oneB (i := 6) (o := ⟨none, _, _, _, _, _⟩) (by kernel_rfl) rfl rfl (fun K hK => ?_)
      have kq := (HK2.out.grown HG9.out HN2.out).cell 0
      simp at kq
      have kz := (HK2.out.grown HG9.out HN2.out).frozen 0
      go_simp
      clear kq kz
      refine hK.out _ _ (HSC.out _ _ _ _ (.inl rfl) HC9.out) (fun hHeld => ?_)
      clear hK K
      try simp only [Act.put, List.setIfInBounds_toArray, List.set_cons_zero, List.set_cons_succ]
      refine wpG_oneB (i := 7) (o := ⟨none, _, _, _, _, _⟩) (by kernel_rfl) rfl rfl (fun K hK => ?_)
      have kq := ((HK4.out.grown HG9.out HN4.out).far (show w.heap.size + 1 + 1 ≠ (⟨w.heap.size, 0, none⟩ : Addr).block by simp; omega) (.slice A9 (nl + n5) c9)).cell 0
      simp at kq
      have kz := ((HK4.out.grown HG9.out HN4.out).far (show w.heap.size + 1 + 1 ≠ (⟨w.heap.size, 0, none⟩ : Addr).block by simp; omega) (.slice A9 (nl + n5) c9)).frozen 0
      go_simp
      clear kq kz
      refine hK.out _ _ (HSC.out _ _ _ _ (.inr rfl) (HSC.out _ _ _ _ (.inl rfl) HC9.out)) (fun hHeld => ?_)
      clear hK K
      try simp only [Act.put, List.setIfInBounds_toArray, List.set_cons_zero, List.set_cons_succ]
      refine wpG_done (by kernel_rfl) ?_ _
      refine ⟨rfl, ?_⟩
      clear hHeld h01
      obtain ⟨hri9, ho9⟩ := RI.fin HRI.out (x := x) (HPO5.out) (show w.heap.size ≤ W0.heap.size + 2 by have := HZ0.out; omega) HEQ5.out (by rw [HDL.out, HDL5.out]; exact HO9.out) HG9.out
      rw [HEN.out] at hri9 ho9
      have hk9 := HRI.out.keepsF ho9 W0.heap.size
      have hf9 := HRI.out.fkpF ho9 HAD.out vs
      have HRI9 := Lib.hid hri9
      have HK9 := Lib.hid hk9
      have HF9 := Lib.hid hf9
      clear hri9 ho9 hk9 hf9
      gi_wp2_with fail
      exact ⟨HKG.out.trans HK9.out, HFG.out.trans HF9.out, by
        show RIx w _ _ A n c (rdAll (xs.take (i + 1))) _
        rw [rdAll_take HX.out, HSD.out]
        unfold rdStep
        rw [if_pos HGAP.out]
        exact ⟨_, _, _, HRI9.out⟩⟩
    · have q1 : decide (E < T) = false := decide_eq_false hgap
      have HGAP := Lib.hid (show ¬ s.e < x.at_ by have := HE.out; have := HT.out; omega)
      clear hgap
      have HKG := Lib.hid (KeepsFrom.refl W0.heap.size WX)
      have HFG := Lib.hid HKP.out
      obtain ⟨WY, rfl⟩ : ∃ WY : World, WY = WX := ⟨_, rfl⟩
      gi_wp2_with fail
      have hri := HRI0.out
      have hk5 := HK50.out
      have hpo5 := HPO50.out
      have HRI := Lib.hid hri
      have HB2 := Lib.hid hri.b2
      have HSI := Lib.hid (show w.heap.size ≤ WY.heap.size from hri.below.size)
      have HK2 := Lib.hid (show Blk WY w.heap.size 22 #[.slice Al nl cl] from hri.b2)
      have HK4 := Lib.hid (show Blk WY (w.heap.size + 1 + 1) 3 #[.int .i64 (s.e : Int)] from hri.b4)
      have HK5 := Lib.hid hk5
      have HPO5 := Lib.hid hpo5
      have HOL : Hid (WY.ownsRow w.heap.size 31 3 (.slice Al nl cl) nl (ds.flatMap Pd.cells)) := Lib.hid (by have := hri.po.own; rw [HDL.out] at this; exact this)
      have HH5 : Hid (HoldsS WY.drew 3 A5 n5 (ds5.flatMap Pd.cells)) := Lib.hid (by have h5 := hpo5.own; rw [HDL5.out] at h5; exact HoldsS.own h5)
      have HN2 := Lib.hid (show some w.heap.size ≠ (Value.slice Al nl cl).ownBlock from fun e => own_neP HOL.out HB2.out (by decide) e.symm)
      have HN4 := Lib.hid (show some (w.heap.size + 1 + 1) ≠ (Value.slice Al nl cl).ownBlock from fun e => own_neP HOL.out hri.b4 (by decide) e.symm)
      have HRC := Lib.hid (show RC6 w.heap.size g5 (.slice Al nl cl) (.slice A5 n5 c5) EN WY.drew from by
        have k0 := HK2.out.cell 0
        have k1 := hk5.cell 1
        have k2 := hk5.cell 2
        simp at k0 k1 k2
        exact ⟨k0, k1, k2⟩)
      have HGC : Hid (∀ W9 : World, WY.grownBy W9 (Value.slice Al nl cl).ownBlock → RC6b g5 EN W9) := Lib.hid fun W9 hg => by
        have := (HK5.out.grown hg (fun e => own_neP HOL.out HK5.out (by decide) e.symm)).cell 1
        simpa [RC6b] using this
      have HSC : Hid (∀ (W9 : World) (r i : Nat) (u : Value), r = w.heap.size ∨ r = w.heap.size + 1 + 1 → RC6b g5 EN W9 → RC6b g5 EN (W9.setCell ⟨r, i, none⟩ u)) := Lib.hid fun W9 r i u hr hc => by
        unfold RC6b at hc ⊢
        rw [← hc]
        unfold World.cell?
        rw [Below.heap_setCell _ _ _ _ (by
          have e2 := HK5.out.ne HB2.out (by decide)
          have e4 := HK5.out.ne hri.b4 (by decide)
          rcases hr with rfl | rfl
          · exact fun e => e2 (by first | exact e | exact e.symm)
          · exact fun e => e4 (by first | exact e | exact e.symm))]
      have HM3 := Lib.hid (show w.heap.size ≤ WY.drew.heap.size from HSI.out)
      clear hri hk5 hpo5
      refine region_round2 (S0 := (RC6 w.heap.size g5 (.slice Al nl cl) (.slice A5 n5 c5) EN)) (S1 := (RC6b g5 EN)) (c := 3) (by kernel_rfl) (by kernel_rfl) ?_
      have hHeld := HRC.out
      have h01 := (fun (W : World) (h : (RC6 w.heap.size g5 (.slice Al nl cl) (.slice A5 n5 c5) EN) W) => h.2.1)
      refine wpG_take0 (i := 0) (oi := ⟨some 20, _, _, _, _, _⟩) (v := .slice Al nl cl) rfl (by kernel_rfl) (by kernel_rfl) (by kernel_rfl) (by decide) (by kernel_rfl) (fun _ _ _ h => by obtain ⟨h, -⟩ := h; cases h) rfl hHeld (Or.inl ⟨by rfl, ?_⟩) ?_
      · (intro W9 hSw; obtain ⟨v1, v2, v3⟩ := hSw; go_simp; (try (first | with_reducible rfl | rfl | (simp; done))))
      try simp only [Act.put, List.setIfInBounds_toArray, List.set_cons_zero, List.set_cons_succ]
      refine wpG_takeA (i := 1) (oi := ⟨some 21, _, _, _, _, _⟩) (v := .pointer (some ⟨g5, 2, none⟩)) rfl (by kernel_rfl) (by kernel_rfl) (by kernel_rfl) (by decide) (fun _ _ _ h => by obtain ⟨h, -⟩ := h; cases h) h01 rfl hHeld (Or.inl ⟨by rfl, ?_⟩) ?_
      · (intro W9 hSw; have v1 := hSw; unfold RC6b at v1; go_simp; (try (first | with_reducible rfl | rfl | (simp; done))))
      try simp only [Act.put, List.setIfInBounds_toArray, List.set_cons_zero, List.set_cons_succ]
      refine wpG_take0 (i := 2) (oi := ⟨some 22, _, _, _, _, _⟩) (v := .slice A5 n5 c5) rfl (by kernel_rfl) (by kernel_rfl) (by kernel_rfl) (by decide) (by kernel_rfl) (fun _ _ _ h => by obtain ⟨h, -⟩ := h; cases h) rfl hHeld (Or.inl ⟨by rfl, ?_⟩) ?_
      · (intro W9 hSw; obtain ⟨v1, v2, v3⟩ := hSw; go_simp; (try (first | with_reducible rfl | rfl | (simp; done))))
      try simp only [Act.put, List.setIfInBounds_toArray, List.set_cons_zero, List.set_cons_succ]
      refine wpG_takeA (i := 4) (oi := ⟨some 24, _, _, _, _, _⟩) (v := .pointer (some ⟨g5, 1, none⟩)) rfl (by kernel_rfl) (by kernel_rfl) (by kernel_rfl) (by decide) (fun _ _ _ h => by obtain ⟨h, -⟩ := h; cases h) h01 rfl hHeld (Or.inl ⟨by rfl, ?_⟩) ?_
      · (intro W9 hSw; have v1 := hSw; unfold RC6b at v1; go_simp; (try (first | with_reducible rfl | rfl | (simp; done))))
      try simp only [Act.put, List.setIfInBounds_toArray, List.set_cons_zero, List.set_cons_succ]
      refine wpG_takeA (i := 5) (oi := ⟨some 25, _, _, _, _, _⟩) (v := .int .i64 EN) rfl (by kernel_rfl) (by kernel_rfl) (by kernel_rfl) (by decide) (fun _ _ _ h => by obtain ⟨h, -⟩ := h; cases h) h01 rfl hHeld (Or.inl ⟨by rfl, ?_⟩) ?_
      · (intro W9 hSw; have v1 := hSw; unfold RC6b at v1; go_simp; (try (first | with_reducible rfl | rfl | (simp; done))))
      try simp only [Act.put, List.setIfInBounds_toArray, List.set_cons_zero, List.set_cons_succ]
      refine wpG_oneB (i := 3) (o := ⟨some 23, _, _, _, _, _⟩) (by kernel_rfl) rfl rfl (fun K hK => ?_)
      refine step_app_sz (base := w.heap.size) (n := nl) (m := n5) (xs := ds.flatMap Pd.cells) (news := ds5.flatMap Pd.cells) rfl (.tmp 20) (.tmp 22) 22 rfl elP rfl (own_drew HOL.out) rfl HH5.out (cells_one ds5) HM1.out HM2.out HM3.out HA5.out ?_
      intro v9 w9 hown hg
      obtain ⟨A9, c9, rfl, -⟩ := own_formS hown
      have HO9 := Lib.hid hown
      have HG9 := Lib.hid (show WY.grownBy w9 (Value.slice Al nl cl).ownBlock from grown_drew0 hg)
      have HC9 := Lib.hid (show RC6b g5 EN w9 from HGC.out _ (grown_drew0 hg))
      clear hown hg
      refine hK.out _ _ HC9.out (fun hHeld => ?_)
      clear hK K
      try simp only [Act.put, List.setIfInBounds_toArray, List.set_cons_zero, List.set_cons_succ]
      refine wpG_oneB (i := 6) (o := ⟨none, _, _, _, _, _⟩) (by kernel_rfl) rfl rfl (fun K hK => ?_)
      have kq := (HK2.out.grown HG9.out HN2.out).cell 0
      simp at kq
      have kz := (HK2.out.grown HG9.out HN2.out).frozen 0
      go_simp
      clear kq kz
      refine hK.out _ _ (HSC.out _ _ _ _ (.inl rfl) HC9.out) (fun hHeld => ?_)
      clear hK K
      try simp only [Act.put, List.setIfInBounds_toArray, List.set_cons_zero, List.set_cons_succ]
      refine wpG_oneB (i := 7) (o := ⟨none, _, _, _, _, _⟩) (by kernel_rfl) rfl rfl (fun K hK => ?_)
      have kq := ((HK4.out.grown HG9.out HN4.out).far (show w.heap.size + 1 + 1 ≠ (⟨w.heap.size, 0, none⟩ : Addr).block by simp; omega) (.slice A9 (nl + n5) c9)).cell 0
      simp at kq
      have kz := ((HK4.out.grown HG9.out HN4.out).far (show w.heap.size + 1 + 1 ≠ (⟨w.heap.size, 0, none⟩ : Addr).block by simp; omega) (.slice A9 (nl + n5) c9)).frozen 0
      go_simp
      clear kq kz
      refine hK.out _ _ (HSC.out _ _ _ _ (.inr rfl) (HSC.out _ _ _ _ (.inl rfl) HC9.out)) (fun hHeld => ?_)
      clear hK K
      try simp only [Act.put, List.setIfInBounds_toArray, List.set_cons_zero, List.set_cons_succ]
      refine wpG_done (by kernel_rfl) ?_ _
      refine ⟨rfl, ?_⟩
      clear hHeld h01
      obtain ⟨hri9, ho9⟩ := RI.fin HRI.out (x := x) (HPO5.out) (show w.heap.size ≤ W0.heap.size + 2 by have := HZ0.out; omega) HEQ5.out (by rw [HDL.out, HDL5.out]; exact HO9.out) HG9.out
      rw [HEN.out] at hri9 ho9
      have hk9 := HRI.out.keepsF ho9 W0.heap.size
      have hf9 := HRI.out.fkpF ho9 HAD.out vs
      have HRI9 := Lib.hid hri9
      have HK9 := Lib.hid hk9
      have HF9 := Lib.hid hf9
      clear hri9 ho9 hk9 hf9
      gi_wp2_with fail
      exact ⟨HKG.out.trans HK9.out, HFG.out.trans HF9.out, by
        show RIx w _ _ A n c (rdAll (xs.take (i + 1))) _
        rw [rdAll_take HX.out, HSD.out]
        unfold rdStep
        rw [if_neg HGAP.out]
        exact ⟨_, _, _, HRI9.out⟩⟩
  case done =>
    rintro D WX hD ⟨vl, vg, ds, hri⟩ hK
    rw [List.take_of_length_le (Nat.le_refl _)] at hri
    obtain ⟨s, hs⟩ : ∃ s, rdAll xs = s := ⟨_, rfl⟩
    rw [hs] at hri
    have HSD := Lib.hid hs
    have hbd := rd_bound xs (fun y hy => (HXS.out y hy).1) xs.length
    rw [List.take_of_length_le (Nat.le_refl _), hs] at hbd
    have hbe : s.e ≤ 2000000 := by rw [← hs]; exact rd_e xs (fun y hy => (HXS.out y hy).2.2)
    obtain ⟨Al, cl, rfl⟩ := hri.po.form
    obtain ⟨Ag, cg, rfl, -⟩ := own_formS hri.gs
    obtain ⟨nl, hnl⟩ : ∃ nl, ds.length = nl := ⟨_, rfl⟩
    obtain ⟨ng, hng⟩ : ∃ ng, s.g.length = ng := ⟨_, rfl⟩
    have HDL := Lib.hid hnl
    have HNG := Lib.hid hng
    rw [hnl] at hri
    rw [hng] at hri
    obtain ⟨E, hE⟩ : ∃ E : Int, (s.e : Int) = E := ⟨_, rfl⟩
    have HE := Lib.hid hE
    have hE0 : 0 ≤ E := by omega
    have hE1 : E ≤ 2000000 := by omega
    have HM4 := Lib.hid (show ng ≤ 2000000 by have := HNX.out; omega)
    have e4 := hri.b4.cell 0
    have e3 := hri.b3.cell 0
    have e2 := hri.b2.cell 0
    simp at e4 e3 e2
    rw [hE] at e4
    have HRI0 := Lib.hid hri
    have HK := Lib.hid hK
    have HD := Lib.hid (show w.heap.size ≤ D by omega)
    have hn0 : (n : Int) ≤ 2000000 := by have := HN.out; omega
    clear hs hbd hbe hnl hng hri hE hK hD hz0 hb0 ka h00 H00
    simp only [Exit.inBlock, Exit.then]
    go_at_K
    by_cases hgap : E < (n : Int)
    · have q1 : decide (E < (n : Int)) = true := decide_eq_true hgap
      have HGAP := Lib.hid (show s.e < n by have := HE.out; omega)
      clear hgap e2
      gi_wp2_with (gi_at_builtin; go_must (refine wpListIn_app_sz (base := w.heap.size) (n := ng) (m := 1) (xs := s.g.flatMap gcells) (news := [.int .i64 E, .int .i64 (n : Int)]) rfl (.tmp 30) (.tmp 35) 59 rfl elG rfl (own_alloc (by have := HRI0.out.gs; rw [HNG.out] at this; exact this)) rfl (HoldsS.new _ 2 1 [.int .i64 E, .int .i64 (n : Int)] 63 rfl) (by simp [Value.oneCell']) (by have := HM4.out; unfold maxLen; omega) (by have := HM4.out; omega) (by have := HRI0.out.below.size; simp; omega) (by simp) ?_; intro vg2 w2 hown hg; obtain ⟨Ag2, cg2, rfl, -⟩ := own_formS hown; have HOG := Lib.hid hown; have HGG := Lib.hid (show (WX.alloc (.cells #[.int .i64 E, .int .i64 (n : Int)] 63)).grownBy w2 (Value.slice Ag ng cg).ownBlock from hg); have hk3 := (HRI0.out.b3.alloc (.cells #[.int .i64 E, .int .i64 (n : Int)] 63)).grown hg (fun e => own_neP HRI0.out.gs HRI0.out.b3 (by decide) e.symm); clear e3; have e3 := hk3.cell 0; simp at e3; have z3 := hk3.frozen 0; clear hown hg hk3))
      obtain ⟨hri, hog⟩ := RI.gap HRI0.out (t := n) (by rw [HNG.out, HE.out]; exact HOG.out) HGG.out
      have hkD := (HRI0.out.keepsG hog w.heap.size).same D _ HD.out HK.out rfl
      obtain ⟨WY, hWY⟩ : ∃ WY, w2.setCell ⟨w.heap.size + 1, 0, none⟩ (.slice Ag2 (ng + 1) cg2) = WY := ⟨_, rfl⟩
      rw [hWY] at hri hkD ⊢
      have HEG := Lib.hid (show endG (rdAll xs) n = s.g ++ [(s.e, n)] by unfold endG; rw [HSD.out, if_pos HGAP.out])
      clear hWY hog e3 z3 e4 q1
      have HRI := Lib.hid hri
      have hri2 := hri.same2
      have HRI2 := Lib.hid hri2
      have HRI3 := Lib.hid hri2.same3
      have HRC := Lib.hid (show RC9 w.heap.size (.slice Al nl cl) (.slice Ag2 (ng + 1) cg2) WY.drew from hri.rc9)
      have HC2 := Lib.hid (show RC9 w.heap.size (.slice Al nl cl) (.slice Ag2 (ng + 1) cg2) (WY.setCell ⟨w.heap.size, 0, none⟩ (.slice Al nl cl)).drew from hri2.rc9)
      have HC3 := Lib.hid (show RC9 w.heap.size (.slice Al nl cl) (.slice Ag2 (ng + 1) cg2) ((WY.setCell ⟨w.heap.size, 0, none⟩ (.slice Al nl cl)).setCell ⟨w.heap.size + 1, 0, none⟩ (.slice Ag2 (ng + 1) cg2)).drew from hri2.same3.rc9)
      have HKD := Lib.hid (show ((WY.setCell ⟨w.heap.size, 0, none⟩ (.slice Al nl cl)).setCell ⟨w.heap.size + 1, 0, none⟩ (.slice Ag2 (ng + 1) cg2)).drew.heap[D]? = some (.deferred (some [])) from
        ((KeepsOthers.setCell _ _ _).from D).same D _ (Nat.le_refl _) (((KeepsOthers.setCell _ _ _).from D).same D _ (Nat.le_refl _) hkD rfl) rfl)
      clear hri hri2 hkD
      refine wpIn_wide.2 ?_
      refine wp_region_noPanic ?_
      refine wp_region_G (S0 := (RC9 w.heap.size (.slice Al nl cl) (.slice Ag2 (ng + 1) cg2))) (S1 := (RC9 w.heap.size (.slice Al nl cl) (.slice Ag2 (ng + 1) cg2))) (c := 99) (by kernel_rfl) ?_
      have hHeld := HRC.out
      have h01 := (fun (W : World) (h : (RC9 w.heap.size (.slice Al nl cl) (.slice Ag2 (ng + 1) cg2)) W) => h)
      refine wpG_takeB (i := 0) (oi := ⟨some 37, _, _, _, _, _⟩) (v := .slice Al nl cl) rfl (by kernel_rfl) (by kernel_rfl) (by kernel_rfl) (by decide) (fun _ _ _ h => h) h01 rfl hHeld (Or.inl ⟨by rfl, ?_⟩) ?_
      · (intro W9 hSw; obtain ⟨v1, v2⟩ := hSw; go_simp; (try (first | with_reducible rfl | rfl | (simp; done))))
      try simp only [Act.put, List.setIfInBounds_toArray, List.set_cons_zero, List.set_cons_succ]
      refine wpG_takeB (i := 1) (oi := ⟨some 38, _, _, _, _, _⟩) (v := .slice Ag2 (ng + 1) cg2) rfl (by kernel_rfl) (by kernel_rfl) (by kernel_rfl) (by decide) (fun _ _ _ h => h) h01 rfl hHeld (Or.inl ⟨by rfl, ?_⟩) ?_
      · (intro W9 hSw; obtain ⟨v1, v2⟩ := hSw; go_simp; (try (first | with_reducible rfl | rfl | (simp; done))))
      try simp only [Act.put, List.setIfInBounds_toArray, List.set_cons_zero, List.set_cons_succ]
      refine wpG_oneB (i := 2) (o := ⟨none, _, _, _, _, _⟩) (by kernel_rfl) rfl rfl (fun K hK => ?_)
      have kq := HRI.out.b2.cell 0
      simp at kq
      have kz := HRI.out.b2.frozen 0
      go_simp
      clear kq kz
      refine hK.out _ _ (HC2.out) (fun hHeld => ?_)
      clear hK K
      try simp only [Act.put, List.setIfInBounds_toArray, List.set_cons_zero, List.set_cons_succ]
      refine wpG_oneB (i := 3) (o := ⟨none, _, _, _, _, _⟩) (by kernel_rfl) rfl rfl (fun K hK => ?_)
      have kq := HRI2.out.b3.cell 0
      simp at kq
      have kz := HRI2.out.b3.frozen 0
      go_simp
      clear kq kz
      refine hK.out _ _ (HC3.out) (fun hHeld => ?_)
      clear hK K
      try simp only [Act.put, List.setIfInBounds_toArray, List.set_cons_zero, List.set_cons_succ]
      refine wpG_done (by kernel_rfl) ?_ _
      refine NoPanic.normal ?_
      clear hHeld h01
      gi_wp2_with fail
      refine ⟨by simp, .inl ⟨_, _, rfl, run_takeDeferred HKD.out, ?_⟩⟩
      have hf := (HRI3.out.below_ (below_drew (Below.refl _ _))).calm HD.out HKD.out rfl (o' := .deferred none)
      obtain ⟨W9, hW9⟩ : ∃ W9, ((WY.setCell ⟨w.heap.size, 0, none⟩ (.slice Al nl cl)).setCell ⟨w.heap.size + 1, 0, none⟩ (.slice Ag2 (ng + 1) cg2)).drew.putObj D (.deferred none) = W9 := ⟨_, rfl⟩
      rw [hW9] at hf ⊢
      have e1 := hf.b2.cell 0
      have e2 := hf.b3.cell 0
      simp at e1 e2
      refine ⟨.tuple #[.slice Al nl cl, .slice Ag2 (ng + 1) cg2], by simp [results, Try.results24, go_sem, e1, e2], _, _, ds, rfl, hf.po, by rw [hf.eq, HSD.out], ?_, hf.below⟩
      rw [HEG.out]
      exact hf.gs
    · have q1 : decide (E < (n : Int)) = false := decide_eq_false hgap
      have HGAP := Lib.hid (show ¬ s.e < n by have := HE.out; omega)
      have hri := HRI0.out
      have hkD := HK.out
      have HEG := Lib.hid (show endG (rdAll xs) n = s.g by unfold endG; rw [HSD.out, if_neg HGAP.out])
      obtain ⟨WY, rfl⟩ : ∃ WY : World, WY = WX := ⟨_, rfl⟩
      clear hgap e2 e3
      gi_wp2_with fail
      clear e4 q1
      have HRI := Lib.hid hri
      have hri2 := hri.same2
      have HRI2 := Lib.hid hri2
      have HRI3 := Lib.hid hri2.same3
      have HRC := Lib.hid (show RC9 w.heap.size (.slice Al nl cl) (.slice Ag ng cg) WY.drew from hri.rc9)
      have HC2 := Lib.hid (show RC9 w.heap.size (.slice Al nl cl) (.slice Ag ng cg) (WY.setCell ⟨w.heap.size, 0, none⟩ (.slice Al nl cl)).drew from hri2.rc9)
      have HC3 := Lib.hid (show RC9 w.heap.size (.slice Al nl cl) (.slice Ag ng cg) ((WY.setCell ⟨w.heap.size, 0, none⟩ (.slice Al nl cl)).setCell ⟨w.heap.size + 1, 0, none⟩ (.slice Ag ng cg)).drew from hri2.same3.rc9)
      have HKD := Lib.hid (show ((WY.setCell ⟨w.heap.size, 0, none⟩ (.slice Al nl cl)).setCell ⟨w.heap.size + 1, 0, none⟩ (.slice Ag ng cg)).drew.heap[D]? = some (.deferred (some [])) from
        ((KeepsOthers.setCell _ _ _).from D).same D _ (Nat.le_refl _) (((KeepsOthers.setCell _ _ _).from D).same D _ (Nat.le_refl _) hkD rfl) rfl)
      clear hri hri2 hkD
      refine wpIn_wide.2 ?_
      refine wp_region_noPanic ?_
      refine wp_region_G (S0 := (RC9 w.heap.size (.slice Al nl cl) (.slice Ag ng cg))) (S1 := (RC9 w.heap.size (.slice Al nl cl) (.slice Ag ng cg))) (c := 99) (by kernel_rfl) ?_
      have hHeld := HRC.out
      have h01 := (fun (W : World) (h : (RC9 w.heap.size (.slice Al nl cl) (.slice Ag ng cg)) W) => h)
      refine wpG_takeB (i := 0) (oi := ⟨some 37, _, _, _, _, _⟩) (v := .slice Al nl cl) rfl (by kernel_rfl) (by kernel_rfl) (by kernel_rfl) (by decide) (fun _ _ _ h => h) h01 rfl hHeld (Or.inl ⟨by rfl, ?_⟩) ?_
      · (intro W9 hSw; obtain ⟨v1, v2⟩ := hSw; go_simp; (try (first | with_reducible rfl | rfl | (simp; done))))
      try simp only [Act.put, List.setIfInBounds_toArray, List.set_cons_zero, List.set_cons_succ]
      refine wpG_takeB (i := 1) (oi := ⟨some 38, _, _, _, _, _⟩) (v := .slice Ag ng cg) rfl (by kernel_rfl) (by kernel_rfl) (by kernel_rfl) (by decide) (fun _ _ _ h => h) h01 rfl hHeld (Or.inl ⟨by rfl, ?_⟩) ?_
      · (intro W9 hSw; obtain ⟨v1, v2⟩ := hSw; go_simp; (try (first | with_reducible rfl | rfl | (simp; done))))
      try simp only [Act.put, List.setIfInBounds_toArray, List.set_cons_zero, List.set_cons_succ]
      refine wpG_oneB (i := 2) (o := ⟨none, _, _, _, _, _⟩) (by kernel_rfl) rfl rfl (fun K hK => ?_)
      have kq := HRI.out.b2.cell 0
      simp at kq
      have kz := HRI.out.b2.frozen 0
      go_simp
      clear kq kz
      refine hK.out _ _ (HC2.out) (fun hHeld => ?_)
      clear hK K
      try simp only [Act.put, List.setIfInBounds_toArray, List.set_cons_zero, List.set_cons_succ]
      refine wpG_oneB (i := 3) (o := ⟨none, _, _, _, _, _⟩) (by kernel_rfl) rfl rfl (fun K hK => ?_)
      have kq := HRI2.out.b3.cell 0
      simp at kq
      have kz := HRI2.out.b3.frozen 0
      go_simp
      clear kq kz
      refine hK.out _ _ (HC3.out) (fun hHeld => ?_)
      clear hK K
      try simp only [Act.put, List.setIfInBounds_toArray, List.set_cons_zero, List.set_cons_succ]
      refine wpG_done (by kernel_rfl) ?_ _
      refine NoPanic.normal ?_
      clear hHeld h01
      gi_wp2_with fail
      refine ⟨by simp, .inl ⟨_, _, rfl, run_takeDeferred HKD.out, ?_⟩⟩
      have hf := (HRI3.out.below_ (below_drew (Below.refl _ _))).calm HD.out HKD.out rfl (o' := .deferred none)
      obtain ⟨W9, hW9⟩ : ∃ W9, ((WY.setCell ⟨w.heap.size, 0, none⟩ (.slice Al nl cl)).setCell ⟨w.heap.size + 1, 0, none⟩ (.slice Ag ng cg)).drew.putObj D (.deferred none) = W9 := ⟨_, rfl⟩
      rw [hW9] at hf ⊢
      have e1 := hf.b2.cell 0
      have e2 := hf.b3.cell 0
      simp at e1 e2
      refine ⟨.tuple #[.slice Al nl cl, .slice Ag ng cg], by simp [results, Try.results24, go_sem, e1, e2], _, _, ds, rfl, hf.po, by rw [hf.eq, HSD.out], ?_, hf.below⟩
      rw [HEG.out]
      exact hf.gs
  case stop =>
    rintro D c' i W hD hi h hK
    exact h.elim
end Go.Proofs.Ytgbkoegmoelheaa
