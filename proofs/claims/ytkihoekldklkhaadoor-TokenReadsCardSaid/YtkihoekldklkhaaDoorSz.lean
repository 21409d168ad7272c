/- Appends to rows of structs. Over any program. -/
import Derived.Test.YtkihoekldklkhaaDoorSl
namespace Go.Proofs.YtkihoekldklkhaaDoor
open Go.RowKit

/-- A slice type t of elements e with this many cells and bytes. -/
structure ElS (P : Program) (t e : TypeId) (size bytes : Nat) : Prop where
  t : P.underlying t = some (.slice e)
  i : ∃ i z, P.info? e = some i ∧ i.zero = some z ∧ i.size = size ∧ i.bytes = bytes ∧ z.cells.size = size
  pos : 0 < size
theorem ElS.mk' {P : Program} {t e : TypeId} {size bytes : Nat} {z : Value} (ht : P.underlying t = some (.slice e)) (hi : (P.info? e).map (fun i => (i.zero, i.size, i.bytes)) = some (some z, size, bytes)) (hz : z.cells.size = size) (hp : 0 < size) : ElS P t e size bytes := by
  obtain ⟨i0, hi0, hz0, hz1, hz2⟩ := info_parts hi
  exact ⟨ht, ⟨i0, z, hi0, hz0, hz1, hz2, hz⟩, hp⟩
/-- A slice's cells, where an element has a number of them. -/
def HoldsS (w : World) (size : Nat) (A : Option Addr) (m : Nat) (xs : List Value) : Prop := xs.length = m * size ∧ (A = none → m = 0) ∧ ∀ b, A = some b → ∀ j u, xs[j]? = some u → w.cell? (b.add j) = some u
theorem HoldsS.new (w : World) (size m : Nat) (xs : List Value) (t : TypeId) (h : xs.length = m * size) : HoldsS (w.alloc (.cells xs.toArray t)) size (some ⟨w.heap.size, 0, none⟩) m xs :=
  ⟨h, fun h => (by cases h), fun b hb j u hu => by
    cases hb
    rw [Addr.add_lit, (Blk.new w t _).cell, Nat.zero_add]
    simpa using hu⟩
theorem HoldsS.keep {w w' : World} {size m : Nat} {A : Option Addr} {xs : List Value} (h : HoldsS w size A m xs) (hb : Below w.heap.size w w') : HoldsS w' size A m xs :=
  ⟨h.1, h.2.1, fun b hA j u hu => by
    have h1 := h.2.2 b hA j u hu
    rw [hb.cell (World.block_lt_of_cell? _ _ h1)]; exact h1⟩
theorem HoldsS.own {w : World} {B size n : Nat} {e : TypeId} {A : Option Addr} {c : Nat} {xs : List Value} (h : w.ownsRow B e size (.slice A n c) n xs) : HoldsS w size A n xs := by
  refine ⟨h.1, fun hA => ?_, fun b hA j u hu => ?_⟩
  · subst hA
    rcases h.2 with ⟨h0, h1⟩ | ⟨g, cap, cur, h0, _⟩
    · exact h1
    · cases h0
  · subst hA
    rcases h.2 with ⟨h0, h1⟩ | ⟨g, cap, cur, h0, _⟩
    · cases h0
    · cases h0
      exact h.cells rfl j u hu
section
variable {P : Program} {w : World} {ops : Array Oper} {rest : List Oper} {o : Oper} {a : Act} {Q : Exit → Act → World → Prop}
theorem run_app_sz {ty t e : TypeId} {size bytes : Nat} (hE : ElS P t e size bytes) {base n m c : Nat} {v : Value} {xs news : List Value} {A : Option Addr} (hown : w.ownsRow base e size v n xs) (hsrc : HoldsS w size A m news) (h1 : ∀ u ∈ news, u.oneCell' = true) (h63 : n + m ≤ maxLen) (hby : (n + m) * bytes ≤ 140737488355328) (hbase : base ≤ w.heap.size) (hA : A ≠ none) :
    ∃ v' w', (Builtin.append_ #[t, t] ty #[v, .slice A m c]).run P w = .ok v' w' ∧ w'.ownsRow base e size v' (n + m) (xs ++ news) ∧ w.grownBy w' v.ownBlock := by
  obtain ⟨i, z, h2, h3, h4, h5, h6⟩ := hE.i
  cases A with
  | none => exact absurd rfl hA
  | some b =>
    obtain ⟨v', w', hrun, r1, r2, _⟩ := run_append_own (P := P) w base t ty e i z size bytes hE.t h2 h3 h4 h5 h6 hE.pos v n xs hown b m c news hsrc.1 (hsrc.2.2 b rfl) h1 h63 hby hbase
    exact ⟨v', w', hrun, r1, r2⟩
theorem wpList_app_sz (hgd : o.guard = none) (s x : Operand) (t : TypeId) (hop : o.op = Op.call { callee := Callee.builtin Builtin.append, args := #[s, x], argTypes := #[t, t] }) {e : TypeId} {size bytes : Nat} (hE : ElS P t e size bytes) {base n m c : Nat} {v : Value} {xs news : List Value} {A : Option Addr} (hs : a.eval s = v) (hown : w.ownsRow base e size v n xs) (hx : a.eval x = .slice A m c) (hsrc : HoldsS w size A m news) (h1 : ∀ u ∈ news, u.oneCell' = true) (h63 : n + m ≤ maxLen) (hby : (n + m) * bytes ≤ 140737488355328) (hbase : base ≤ w.heap.size) (hA : A ≠ none)
    (hK : ∀ v' w', w'.ownsRow base e size v' (n + m) (xs ++ news) → w.grownBy w' v.ownBlock → wpList P ops Q rest (a.put o.dst v') w') : wpList P ops Q (o :: rest) a w := by
  obtain ⟨v', w', hrun, p1, p2⟩ := run_app_sz (ty := o.type) hE hown hsrc h1 h63 hby hbase hA
  exact wpList_run hgd s x t hop hs hx hrun (hK v' w' p1 p2)
end
theorem own_formS {w : World} {B n size : Nat} {e : TypeId} {v : Value} {xs : List Value} (h : w.ownsRow B e size v n xs) :
    ∃ A cap, v = .slice A n cap ∧ n ≤ cap ∧ cap ≤ maxLen ∧ (A = none → n = 0 ∧ cap = 0) ∧ (0 < n → ∃ g, A = some ⟨g, 0, none⟩ ∧ B ≤ g ∧ g < w.heap.size) := by
  have hlt := own_lt h
  rcases h.2 with ⟨rfl, rfl⟩ | ⟨g, cap, cur, rfl, hg, hh, hn, hm, hs, ht⟩
  · exact ⟨none, 0, rfl, Nat.le_refl _, by omega, fun _ => ⟨rfl, rfl⟩, fun h => by omega⟩
  · exact ⟨_, cap, rfl, hn, hm, fun hb => (by cases hb), fun _ => ⟨g, rfl, hg, hlt g rfl⟩⟩
theorem own_neS {w : World} {B B' n n' sz sz' : Nat} {e e' : TypeId} {v v' : Value} {xs xs' : List Value} (h : w.ownsRow B e sz v n xs) (k : w.ownsRow B' e' sz' v' n' xs') (hne : e ≠ e') : ∀ q, v.ownBlock = some q → v'.ownBlock ≠ some q := by
  intro q h1 h2
  rcases h.2 with ⟨rfl, _⟩ | ⟨g, cap, cur, rfl, hg, hh, _⟩
  · cases h1
  · rcases k.2 with ⟨rfl, _⟩ | ⟨g', cap', cur', rfl, hg', hh', _⟩
    · cases h2
    · simp [Value.ownBlock] at h1 h2
      subst h1 h2
      rw [hh] at hh'
      injection hh' with h3
      injection h3 with _ h4
      exact hne h4
theorem own_apartS {w w2 : World} {o : Obj} {B B' n n' sz sz' : Nat} {e e' : TypeId} {v v' : Value} {xs xs' : List Value} (h : w.ownsRow B e sz v n xs) (k : w.ownsRow B' e' sz' v' n' xs') (hne : e ≠ e') (hg : (w.alloc o).grownBy w2 v'.ownBlock) : w2.ownsRow B e sz v n xs :=
  own_keeps (own_alloc h (o := o)) fun q hq => hg.block q (own_lt (own_alloc h (o := o)) q hq) fun e => own_neS h k hne q hq e.symm
end Go.Proofs.YtkihoekldklkhaaDoor
