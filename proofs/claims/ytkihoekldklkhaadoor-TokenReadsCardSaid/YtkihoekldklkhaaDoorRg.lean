/- A region that draws its order and has no calls, inside a round of a range over a function. -/
import Derived.Test.YtkihoekldklkhaaDoorOrd
import Derived.OrdersIn
import Derived.RangeFuncCalls
namespace Go.Proofs.YtkihoekldklkhaaDoor
open Go.RowKit

theorem op_bridge {l n : Nat} {P : Program} {ops : Array Oper} {Q : Exit → Act → World → Prop} (hQ : ¬ LetsOut Q) {i : Nat} {K : Act → World → Prop} {a : Act} {w : World} (hd : ∀ o, ops[i]? = some o → ∀ c, o.op ≠ .defer c)
    (h : wpOp P ops Q i K a w) : wpOpIn (Fence.wide.inRound l) n P ops Q i K a w := by
  unfold wpOp at h
  unfold wpOpIn
  cases ho : ops[i]? with
  | none => simpa [ho] using h
  | some o =>
    simp only [ho] at h ⊢
    by_cases hw : Region.wanted o (yielded ops a.tmps) = true
    · rw [if_pos hw] at h ⊢
      rcases h with h | ⟨-, h⟩
      · refine ⟨fun _ _ => trivial, ?_⟩
        rw [Oper.semAt_eq _ _ _ (hd o ho)]
        unfold Oper.wp at h
        generalize (execOp a.eval o).run P w = r at h
        rcases r with ⟨x, w'⟩ | ⟨x, w'⟩ <;> cases x <;> first
          | exact h
          | exact h.elim
          | (refine ⟨fun e => (by simp [Fence.wide] at e), ?_⟩; exact ((callsIn_wide (n := n - 1)).2 (Calls.mono h fun e w h => by cases e <;> exact h)).inRound l)
          | (refine ⟨fun e => (by simp [Fence.wide] at e), ?_⟩; intro c cs _; obtain ⟨v, w', r, s⟩ := h c cs; exact ⟨v, w', r, stepsIn_wide.2 s⟩)
      · exact (hQ h).elim
    · rw [if_neg hw] at h ⊢
      exact ⟨fun _ _ => trivial, h⟩
theorem any_bridge {l n : Nat} {P : Program} {md : Region.Mode} {ops : Array Oper} {Q : Exit → Act → World → Prop} (hQ : ¬ LetsOut Q) (hd : ∀ (i : Nat) (o : Oper), ops[i]? = some o → ∀ c, o.op ≠ .defer c) :
    ∀ (fuel : Nat) (listed : Array Bool) (a : Act) (w : World), wpAny P md ops Q fuel listed a w → wpAnyIn (Fence.wide.inRound l) n P md ops Q fuel listed a w
  | 0, _, _, _, h => h
  | fuel + 1, _, _, _, h => ⟨h.1, fun i hi => op_bridge hQ (hd i) (wpOp_mono (fun a w => any_bridge hQ hd fuel _ a w) (h.2 i hi))⟩
def noDef (o : Oper) : Bool := match o.op with
  | .defer _ => false
  | _ => true
theorem noDef_spec {ops : Array Oper} (h : ops.all noDef = true) (i : Nat) (o : Oper) (ho : ops[i]? = some o) (c : Call) : o.op ≠ .defer c := by
  intro e
  obtain ⟨hi, rfl⟩ := Array.getElem?_eq_some_iff.1 ho
  have := Array.all_eq_true.1 h i hi
  simp [noDef, e] at this
def OnlyN (Q : Exit → Act → World → Prop) (e : Exit) (a : Act) (w : World) : Prop := e = .normal ∧ Q .normal a w
theorem region_round {l n id c : Nat} {P : Program} {ops : Array Oper} {Q : Exit → Act → World → Prop} {S : World → Prop} {a : Act} {w : World} (hm : P.follows .mixedOrders = true) (hd : ops.all noDef = true)
    (h : wpG P .any ops (OnlyN Q) S S c ops.size (Array.replicate ops.size false) a w.drew) : (Code.region id ops true).wpIn (Fence.wide.inRound l) n P Q a w := by
  refine wpIn_mono (Q := OnlyN Q) (wpIn_region_any hm (any_bridge ?_ (noDef_spec hd) _ _ _ _ (wpAny_of_wpG _ _ _ _ h))) fun e a w h => by
    obtain ⟨rfl, h⟩ := h
    exact h
  rintro ⟨a, w, h, -⟩
  cases h
end Go.Proofs.YtkihoekldklkhaaDoor
