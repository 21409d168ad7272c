/- Appends for the walk: outside a fence, inside one, in a region that draws. Over any program. -/
import Derived.Test.YtkihoekldklkhaaDoorLaw2
import Derived.Deep.RegionHeld3
import Derived.Deep.AppendLies
namespace Go.Proofs.YtkihoekldklkhaaDoor
open Go.RowKit

section
variable {P : Program} {w : World} {ops : Array Oper} {rest : List Oper} {o : Oper} {a : Act} {Q : Exit → Act → World → Prop}

theorem step_run {K : Act → World → Prop} {E : Prop} (hgd : o.guard = none) (s x : Operand) (t : TypeId) (hop : o.op = Op.call { callee := Callee.builtin Builtin.append, args := #[s, x], argTypes := #[t, t] })
    {v u v' : Value} {w' : World} (hs : a.eval s = v) (hx : a.eval x = u) (hrun : (Builtin.append_ #[t, t] o.type #[v, u]).run P w = .ok v' w') (hK : K (a.put o.dst v') w') :
    if Region.wanted o (yielded ops a.tmps) = true then Oper.wp P o a w K Q else E := by
  have hw : Region.wanted o (yielded ops a.tmps) = true := by simp [Region.wanted, hgd]
  rw [if_pos hw]
  unfold Oper.wp
  simp [execOp, hop, resolve, invoke, builtin, hs, hx, hrun, Result.andThen]
  exact hK

theorem wpList_app_own (hgd : o.guard = none) (s x : Operand) (t : TypeId) (hop : o.op = Op.call { callee := Callee.builtin Builtin.append, args := #[s, x], argTypes := #[t, t] }) {e : TypeId} {bytes : Nat} (hE : El P t e bytes) {base n m c : Nat} {v : Value} {xs news : List Value} {A : Option Addr} (hs : a.eval s = v) (hown : w.ownsRow base e 1 v n xs) (hx : a.eval x = .slice A m c) (hsrc : Holds w A m news) (h1 : ∀ u ∈ news, u.oneCell' = true) (h63 : n + m ≤ maxLen) (hby : (n + m) * bytes ≤ 140737488355328) (hbase : base ≤ w.heap.size)
    (hK : ∀ v' w', w'.ownsRow base e 1 v' (n + m) (xs ++ news) → w.grownBy w' v.ownBlock → (v'.ownBlock = v.ownBlock ∨ v'.ownBlock = some w.heap.size) → wpList P ops Q rest (a.put o.dst v') w') : wpList P ops Q (o :: rest) a w := by
  obtain ⟨v', w', hrun, p1, p2, p3⟩ := run_app_own (ty := o.type) hE hown hsrc h1 h63 hby hbase
  exact wpList_run hgd s x t hop hs hx hrun (hK v' w' p1 p2 p3)
theorem wpListIn_app_own {F : Fence} {nn : Nat} (hgd : o.guard = none) (s x : Operand) (t : TypeId) (hop : o.op = Op.call { callee := Callee.builtin Builtin.append, args := #[s, x], argTypes := #[t, t] }) {e : TypeId} {bytes : Nat} (hE : El P t e bytes) {base n m c : Nat} {v : Value} {xs news : List Value} {A : Option Addr} (hs : a.eval s = v) (hown : w.ownsRow base e 1 v n xs) (hx : a.eval x = .slice A m c) (hsrc : Holds w A m news) (h1 : ∀ u ∈ news, u.oneCell' = true) (h63 : n + m ≤ maxLen) (hby : (n + m) * bytes ≤ 140737488355328) (hbase : base ≤ w.heap.size)
    (hK : ∀ v' w', w'.ownsRow base e 1 v' (n + m) (xs ++ news) → w.grownBy w' v.ownBlock → (v'.ownBlock = v.ownBlock ∨ v'.ownBlock = some w.heap.size) → wpListIn F nn P ops Q rest (a.put o.dst v') w') : wpListIn F nn P ops Q (o :: rest) a w := by
  obtain ⟨v', w', hrun, p1, p2, p3⟩ := run_app_own (ty := o.type) hE hown hsrc h1 h63 hby hbase
  exact wpListIn_run hgd s x t hop hs hx hrun (hK v' w' p1 p2 p3)
theorem step_app_own {K : Act → World → Prop} {E : Prop} (hgd : o.guard = none) (s x : Operand) (t : TypeId) (hop : o.op = Op.call { callee := Callee.builtin Builtin.append, args := #[s, x], argTypes := #[t, t] }) {e : TypeId} {bytes : Nat} (hE : El P t e bytes) {base n m c : Nat} {v : Value} {xs news : List Value} {A : Option Addr} (hs : a.eval s = v) (hown : w.ownsRow base e 1 v n xs) (hx : a.eval x = .slice A m c) (hsrc : Holds w A m news) (h1 : ∀ u ∈ news, u.oneCell' = true) (h63 : n + m ≤ maxLen) (hby : (n + m) * bytes ≤ 140737488355328) (hbase : base ≤ w.heap.size)
    (hK : ∀ v' w', w'.ownsRow base e 1 v' (n + m) (xs ++ news) → w.grownBy w' v.ownBlock → (v'.ownBlock = v.ownBlock ∨ v'.ownBlock = some w.heap.size) → K (a.put o.dst v') w') : if Region.wanted o (yielded ops a.tmps) = true then Oper.wp P o a w K Q else E := by
  obtain ⟨v', w', hrun, p1, p2, p3⟩ := run_app_own (ty := o.type) hE hown hsrc h1 h63 hby hbase
  exact step_run hgd s x t hop hs hx hrun (hK v' w' p1 p2 p3)

theorem wpList_app_fits (hgd : o.guard = none) (s x : Operand) (t : TypeId) (hop : o.op = Op.call { callee := Callee.builtin Builtin.append, args := #[s, x], argTypes := #[t, t] }) {e : TypeId} {bytes : Nat} (hE : El P t e bytes) {base n m c cap g : Nat} {xs news : List Value} {A : Option Addr} (hs : a.eval s = .slice (some ⟨g, 0, none⟩) n cap) (hown : w.ownsRow base e 1 (.slice (some ⟨g, 0, none⟩) n cap) n xs) (hx : a.eval x = .slice A m c) (hsrc : Holds w A m news) (h1 : ∀ u ∈ news, u.oneCell' = true) (hroom : n + m ≤ cap)
    (hK : ∀ w', w'.ownsRow base e 1 (.slice (some ⟨g, 0, none⟩) (n + m) cap) (n + m) (xs ++ news) → w.grownBy w' (some g) → wpList P ops Q rest (a.put o.dst (.slice (some ⟨g, 0, none⟩) (n + m) cap)) w') : wpList P ops Q (o :: rest) a w := by
  obtain ⟨w', hrun, p1, p2⟩ := run_app_fits (ty := o.type) hE hown hsrc h1 hroom
  exact wpList_run hgd s x t hop hs hx hrun (hK w' p1 p2)
theorem wpListIn_app_fits {F : Fence} {nn : Nat} (hgd : o.guard = none) (s x : Operand) (t : TypeId) (hop : o.op = Op.call { callee := Callee.builtin Builtin.append, args := #[s, x], argTypes := #[t, t] }) {e : TypeId} {bytes : Nat} (hE : El P t e bytes) {base n m c cap g : Nat} {xs news : List Value} {A : Option Addr} (hs : a.eval s = .slice (some ⟨g, 0, none⟩) n cap) (hown : w.ownsRow base e 1 (.slice (some ⟨g, 0, none⟩) n cap) n xs) (hx : a.eval x = .slice A m c) (hsrc : Holds w A m news) (h1 : ∀ u ∈ news, u.oneCell' = true) (hroom : n + m ≤ cap)
    (hK : ∀ w', w'.ownsRow base e 1 (.slice (some ⟨g, 0, none⟩) (n + m) cap) (n + m) (xs ++ news) → w.grownBy w' (some g) → wpListIn F nn P ops Q rest (a.put o.dst (.slice (some ⟨g, 0, none⟩) (n + m) cap)) w') : wpListIn F nn P ops Q (o :: rest) a w := by
  obtain ⟨w', hrun, p1, p2⟩ := run_app_fits (ty := o.type) hE hown hsrc h1 hroom
  exact wpListIn_run hgd s x t hop hs hx hrun (hK w' p1 p2)
theorem step_app_fits {K : Act → World → Prop} {E : Prop} (hgd : o.guard = none) (s x : Operand) (t : TypeId) (hop : o.op = Op.call { callee := Callee.builtin Builtin.append, args := #[s, x], argTypes := #[t, t] }) {e : TypeId} {bytes : Nat} (hE : El P t e bytes) {base n m c cap g : Nat} {xs news : List Value} {A : Option Addr} (hs : a.eval s = .slice (some ⟨g, 0, none⟩) n cap) (hown : w.ownsRow base e 1 (.slice (some ⟨g, 0, none⟩) n cap) n xs) (hx : a.eval x = .slice A m c) (hsrc : Holds w A m news) (h1 : ∀ u ∈ news, u.oneCell' = true) (hroom : n + m ≤ cap)
    (hK : ∀ w', w'.ownsRow base e 1 (.slice (some ⟨g, 0, none⟩) (n + m) cap) (n + m) (xs ++ news) → w.grownBy w' (some g) → K (a.put o.dst (.slice (some ⟨g, 0, none⟩) (n + m) cap)) w') : if Region.wanted o (yielded ops a.tmps) = true then Oper.wp P o a w K Q else E := by
  obtain ⟨w', hrun, p1, p2⟩ := run_app_fits (ty := o.type) hE hown hsrc h1 hroom
  exact step_run hgd s x t hop hs hx hrun (hK w' p1 p2)

theorem wpList_app_grows (hgd : o.guard = none) (s x : Operand) (t : TypeId) (hop : o.op = Op.call { callee := Callee.builtin Builtin.append, args := #[s, x], argTypes := #[t, t] }) {e : TypeId} {bytes : Nat} (hE : El P t e bytes) {n m c cap : Nat} {xs news : List Value} {A A' : Option Addr} (hs : a.eval s = .slice A' n cap) (ho : Holds w A' n xs) (hcap : A' = none → cap = 0) (hx : a.eval x = .slice A m c) (hsrc : Holds w A m news) (h1 : ∀ u ∈ news, u.oneCell' = true) (hfull : cap < n + m) (hnc : n ≤ cap) (h63 : n + m ≤ maxLen) (hby : (n + m) * bytes ≤ 140737488355328)
    (hK : ∀ v' w', w'.ownsRow w.heap.size e 1 v' (n + m) (xs ++ news) → w.grownBy w' none → wpList P ops Q rest (a.put o.dst v') w') : wpList P ops Q (o :: rest) a w := by
  obtain ⟨v', w', hrun, p1, p2⟩ := run_app_grows (ty := o.type) hE ho hcap hsrc h1 hfull hnc h63 hby
  exact wpList_run hgd s x t hop hs hx hrun (hK v' w' p1 p2)
theorem wpListIn_app_grows {F : Fence} {nn : Nat} (hgd : o.guard = none) (s x : Operand) (t : TypeId) (hop : o.op = Op.call { callee := Callee.builtin Builtin.append, args := #[s, x], argTypes := #[t, t] }) {e : TypeId} {bytes : Nat} (hE : El P t e bytes) {n m c cap : Nat} {xs news : List Value} {A A' : Option Addr} (hs : a.eval s = .slice A' n cap) (ho : Holds w A' n xs) (hcap : A' = none → cap = 0) (hx : a.eval x = .slice A m c) (hsrc : Holds w A m news) (h1 : ∀ u ∈ news, u.oneCell' = true) (hfull : cap < n + m) (hnc : n ≤ cap) (h63 : n + m ≤ maxLen) (hby : (n + m) * bytes ≤ 140737488355328)
    (hK : ∀ v' w', w'.ownsRow w.heap.size e 1 v' (n + m) (xs ++ news) → w.grownBy w' none → wpListIn F nn P ops Q rest (a.put o.dst v') w') : wpListIn F nn P ops Q (o :: rest) a w := by
  obtain ⟨v', w', hrun, p1, p2⟩ := run_app_grows (ty := o.type) hE ho hcap hsrc h1 hfull hnc h63 hby
  exact wpListIn_run hgd s x t hop hs hx hrun (hK v' w' p1 p2)
theorem step_app_grows {K : Act → World → Prop} {E : Prop} (hgd : o.guard = none) (s x : Operand) (t : TypeId) (hop : o.op = Op.call { callee := Callee.builtin Builtin.append, args := #[s, x], argTypes := #[t, t] }) {e : TypeId} {bytes : Nat} (hE : El P t e bytes) {n m c cap : Nat} {xs news : List Value} {A A' : Option Addr} (hs : a.eval s = .slice A' n cap) (ho : Holds w A' n xs) (hcap : A' = none → cap = 0) (hx : a.eval x = .slice A m c) (hsrc : Holds w A m news) (h1 : ∀ u ∈ news, u.oneCell' = true) (hfull : cap < n + m) (hnc : n ≤ cap) (h63 : n + m ≤ maxLen) (hby : (n + m) * bytes ≤ 140737488355328)
    (hK : ∀ v' w', w'.ownsRow w.heap.size e 1 v' (n + m) (xs ++ news) → w.grownBy w' none → K (a.put o.dst v') w') : if Region.wanted o (yielded ops a.tmps) = true then Oper.wp P o a w K Q else E := by
  obtain ⟨v', w', hrun, p1, p2⟩ := run_app_grows (ty := o.type) hE ho hcap hsrc h1 hfull hnc h63 hby
  exact step_run hgd s x t hop hs hx hrun (hK v' w' p1 p2)

end
theorem own_drew {w : World} {B n sz : Nat} {e : TypeId} {v : Value} {xs : List Value} (h : w.ownsRow B e sz v n xs) : w.drew.ownsRow B e sz v n xs := h
theorem below_drew {B : Nat} {a w : World} (h : Below B a w) : Below B a w.drew := ⟨h.os, h.tape, h.output, h.size, h.block⟩
theorem Holds.drew {w : World} {A : Option Addr} {n : Nat} {xs : List Value} (h : Holds w A n xs) : Holds w.drew A n xs := h
theorem Holds.alloc {w : World} {A : Option Addr} {n : Nat} {xs : List Value} (h : Holds w A n xs) (o : Obj) : Holds (w.alloc o) A n xs := h.keep ((Below.refl _ w).alloc (Nat.le_refl _) _)
theorem Holds.one (w : World) (x : Value) (t : TypeId) : Holds (w.alloc (.cells #[x] t)) (some ⟨w.heap.size, 0, none⟩) 1 [x] := ⟨rfl, fun h => (by cases h), fun b hb => by cases hb; exact cell_one_new w x t⟩
theorem own_alloc {w : World} {B n sz : Nat} {e : TypeId} {v : Value} {xs : List Value} (h : w.ownsRow B e sz v n xs) {o : Obj} : (w.alloc o).ownsRow B e sz v n xs := own_none h (World.grownBy_alloc w o none)
theorem own_BS {w : World} {B n c : Nat} {e : TypeId} {A : Option Addr} {l : List UInt8} (h : w.ownsRow B e 1 (.slice A n c) n (l.map u8)) : BS w w.heap.size A l := by
  intro hn
  have h1 : n = l.length := by have := h.1; simp at this; omega
  rcases own_holds h (by omega) with ⟨g, cap, hv, _, hg, _, _, hc⟩
  cases hv
  refine ⟨g, 0, rfl, hg, fun i hi => ?_⟩
  have := hc i (u8 l[i]) (by simp [List.getElem?_eq_getElem hi])
  rw [Addr.add_lit] at this
  exact this
theorem wrap_u8_id {k : Nat} (h : k < 256) : IntKind.u8.wrap (k : Int) = (k : Int) := by rw [IntKind.wrap_u8]; omega
theorem map_snoc (l : List UInt8) (x : UInt8) : (l ++ [x]).map u8 = l.map u8 ++ [u8 x] := by simp
theorem own_none00 (w : World) (e : TypeId) : (w.alloc (.cells #[] e)).ownsRow w.heap.size e 1 (.slice (some ⟨w.heap.size, 0, none⟩) 0 0) 0 [] := World.ownsRow_made w #[] 0 (Nat.le_refl _) (by decide) rfl
theorem own_none1 (w : World) (o : Obj) (e : TypeId) : ((w.alloc o).alloc (.cells #[] e)).ownsRow w.heap.size e 1 (.slice (some ⟨w.heap.size + 1, 0, none⟩) 0 0) 0 [] := by
  have h := own_none00 (w.alloc o) e
  simp only [World.size_alloc] at h
  exact own_base h (by omega)
theorem Holds.grown {w w' : World} {g n : Nat} {xs : List Value} {row : Option Nat} (h : Holds w (some ⟨g, 0, none⟩) n xs) (hg : w.grownBy w' row) (hne : some g ≠ row) : Holds w' (some ⟨g, 0, none⟩) n xs :=
  ⟨h.1, h.2.1, fun b hA j u hu => by
    cases hA
    have := h.2.2 _ rfl j u hu
    rw [Addr.add_lit] at this ⊢
    exact hg.cell this hne⟩
theorem Holds.one1 (w : World) (o : Obj) (x : Value) (t : TypeId) : Holds ((w.alloc o).alloc (.cells #[x] t)) (some ⟨w.heap.size + 1, 0, none⟩) 1 [x] := by
  have h : Holds ((w.alloc o).alloc (.cells #[x] t)) (some ⟨(w.alloc o).heap.size, 0, none⟩) 1 [x] := ⟨rfl, fun h => (by cases h), fun b hb => by cases hb; exact cell_one_new _ x t⟩
  simp only [World.size_alloc] at h
  exact h
theorem own_none0 (w : World) (e : TypeId) : (w.alloc (.cells #[] e)).drew.ownsRow w.heap.size e 1 (.slice (some ⟨w.heap.size, 0, none⟩) 0 0) 0 [] := own_drew (World.ownsRow_made w #[] 0 (Nat.le_refl _) (by decide) rfl)
end Go.Proofs.YtkihoekldklkhaaDoor
