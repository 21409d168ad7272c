/- A region that draws its order, inside the widest fence, a condition held on the world: rounds may be called. Over any program. -/
import Derived.Test.YtkihoekldklkhaaDoorOrd
import Derived.OrdersIn
import Derived.OrdersHeld
import Derived.RangeFuncCalls
namespace Go.Proofs.YtkihoekldklkhaaDoor
open Go.RowKit

section
variable {n : Nat} {P : Program} {ops : Array Oper} {Q : Exit → Act → World → Prop} {md : Region.Mode} {S : World → Prop}
theorem wide_none : Fence.wide.round = none := rfl
theorem ifY_wpOpIn {i : Nat} {o : Oper} {v : Value} {a : Act} (hi : ops[i]? = some o) (hy : YieldsIf P ops S o v a)
    {K : Act → World → Prop} {w : World} (hS : S w) (h : K (a.put o.dst v) w) : wpOpIn Fence.wide n P ops Q i K a w := by
  unfold Go.wpOpIn
  simp only [hi]
  rcases hy with ⟨hw, hv⟩ | ⟨hw, rfl⟩
  · simp only [hw, if_true, Oper.wpIn, wide_none, Oper.semAt_none, hv w hS, Oper.uponIn]; exact ⟨fun _ _ => trivial, h⟩
  · simp only [hw, Bool.false_eq_true, if_false]; exact ⟨fun _ _ => trivial, h⟩
theorem wpOpIn_ifPut {j : Nat} {oi oj : Oper} {v : Value} (hj : ops[j]? = some oj) (hap : oi.apart ops oj = true)
    (hsi : ∀ cs b, oi.op ≠ .select cs b) (hsj : ∀ cs b, oj.op ≠ .select cs b)
    (hQ : ∀ c a w, Q (.panic c) (a.put oi.dst v) w → Q (.panic c) a w) {K : Act → World → Prop} {a : Act} {w : World}
    (hy : YieldsIf P ops S oi v a) (h : wpOpIn Fence.wide n P ops Q j K (a.put oi.dst v) w) :
    wpOpIn Fence.wide n P ops Q j (fun a' w' => YieldsIf P ops S oi v a' ∧ K (a'.put oi.dst v) w') a w := by
  obtain ⟨h1, h2, h3⟩ := Oper.apart_spec hap
  have keep : ∀ (a : Act), YieldsIf P ops S oi v a → ∀ u, YieldsIf P ops S oi v (a.put oj.dst u) := fun a hy u =>
    hy.of_same (execOp_put oi hsi a oj.dst u h3) (wanted_put oi a oj.dst u h3)
  have keepD : ∀ d, YieldsIf P ops S oi v { a with defers := d :: a.defers } := fun d => hy.of_same rfl rfl
  unfold wpOpIn at *
  simp only [hj] at *
  rw [wanted_put oj a oi.dst v h1] at h
  split
  · rename_i hw
    simp only [hw, if_true] at h
    unfold Oper.wpIn at *
    refine ⟨fun _ _ => trivial, ?_⟩
    have h := h.2
    rw [wide_none, Oper.semAt_none, execOp_put oj hsj a oi.dst v h1] at h
    rw [wide_none, Oper.semAt_none]
    generalize (execOp a.eval oj).run P w = r at *
    cases r with
    | ok x w' =>
      cases x <;> simp only [Oper.uponIn] at h ⊢
      case value u => exact ⟨keep a hy u, by rw [← Act.put_comm a v u h2]; exact h⟩
      case skip => exact ⟨keep a hy _, by rw [← Act.put_comm a v undef h2]; exact h⟩
      case defer d =>
        refine ⟨keep _ (keepD d) _, ?_⟩
        rw [← Act.put_comm _ v undef h2, ← Act.put_defers]
        exact h
      case enter f args =>
        refine ⟨h.1, CallsIn.mono h.2 fun e w'' he => ?_⟩
        cases e with
        | returned u => exact ⟨keep a hy u, by rw [← Act.put_comm a v u h2]; exact he⟩
        | panicked c => exact hQ _ _ _ he
        | outgrown => exact he
      case row row args => exact ⟨h.1, RowsIn.mono h.2 fun u w'' he => ⟨keep a hy u, by rw [← Act.put_comm a v u h2]; exact he⟩⟩
      case round l f tmps assign body =>
        refine ⟨h.1, RoundIn.mono h.2 fun e w'' he => ?_⟩
        cases e with
        | returned u => exact ⟨keep a hy u, by rw [← Act.put_comm a v u h2]; exact he⟩
        | panicked c => exact hQ _ _ _ he
        | outgrown => exact he
    | halt x w' =>
      cases x <;> simp only [Oper.uponIn] at h ⊢
      case panic u => exact hQ _ _ _ h
  · rename_i hw
    simp only [hw] at h
    exact ⟨fun _ _ => trivial, keep a hy _, by rw [← Act.put_comm a v undef h2]; exact h.2⟩
end
theorem wpOpI_step {n : Nat} {P : Program} {ops : Array Oper} {Q : Exit → Act → World → Prop} {i : Nat} {o : Oper} {K : Act → World → Prop} {a : Act} {w : World} (ho : ops[i]? = some o)
    (h : ∀ K' : Act → World → Prop, Shut (∀ a w, K a w → K' a w) → if Region.wanted o (yielded ops a.tmps) = true then Oper.wpIn Fence.wide n P o a w K' Q else K' (a.put o.dst undef) w) : wpOpIn Fence.wide n P ops Q i K a w := by
  refine wpOpIn_step ho fun K' hK => ?_
  have := h K' hK
  split
  · rename_i hw; rw [if_pos hw] at this; exact this
  · rename_i hw; rw [if_neg hw] at this; exact ⟨fun _ _ => trivial, this⟩
section
variable {n : Nat} {P : Program} {ops : Array Oper} {Q : Exit → Act → World → Prop} {md : Region.Mode} {S0 S1 T : World → Prop} {c : Nat}

/-- Whatever order is picked, and the condition holds behind every operation that is carried out. -/
def wpGI (n : Nat) (P : Program) (md : Region.Mode) (ops : Array Oper) (Q : Exit → Act → World → Prop) (S0 S1 : World → Prop) (c : Nat) : Nat → Array Bool → Act → World → Prop
  | 0, listed, a, w => Region.ready md ops listed = [] ∧ Q .normal a w
  | fuel + 1, listed, a, w =>
    (Region.ready md ops listed = [] → Q .normal a w) ∧
    ∀ i ∈ Region.ready md ops listed, wpOpIn Fence.wide n P ops Q i (fun a' w' => phS S0 S1 c (listed.setIfInBounds i true) w' ∧ wpGI n P md ops Q S0 S1 c fuel (listed.setIfInBounds i true) a' w') a w

theorem any_of_wpGI : ∀ (fuel : Nat) (listed : Array Bool) (a : Act) (w : World), wpGI n P md ops Q S0 S1 c fuel listed a w → wpAnyIn Fence.wide n P md ops Q fuel listed a w
  | 0, _, _, _, h => h
  | fuel + 1, _, _, _, h => ⟨h.1, fun i hi => wpOpIn_mono (fun a' w' h' => any_of_wpGI fuel _ a' w' h'.2) (h.2 i hi)⟩

/-- What may be taken first, under T: T holds wherever the operation may come up. -/
theorem wpGI_first {i : Nat} {oi : Oper} {v : Value} (hi : ops[i]? = some oi) (hsel : ∀ (j : Nat) (o : Oper) cs b, ops[j]? = some o → o.op ≠ .select cs b)
    (hQ : ∀ x a w, Q (.panic x) (a.put oi.dst v) w → Q (.panic x) a w) (hic : i ≠ c)
    (hT : ∀ listed w, i ∈ Region.ready md ops listed → phS S0 S1 c listed w → T w)
    (hT' : ∀ listed j w, i ∈ Region.ready md ops listed → j ∈ Region.ready md ops listed → j ≠ i → phS S0 S1 c (listed.setIfInBounds j true) w → T w) :
    ∀ (fuel : Nat) (listed : Array Bool) (a : Act) (w : World),
      (∀ j oj, ops[j]? = some oj → j ≠ i → listed.getD j true = false → (∀ e ∈ oj.after, Region.binds md e = true → e.on ≠ i) → oi.apart ops oj = true) →
      i ∈ Region.ready md ops listed → YieldsIf P ops T oi v a → T w → phS S0 S1 c (listed.setIfInBounds i true) w →
      wpGI n P md ops Q S0 S1 c fuel (listed.setIfInBounds i true) (a.put oi.dst v) w → wpGI n P md ops Q S0 S1 c (fuel + 1) listed a w := by
  have hset : ∀ (l : Array Bool) (w : World), phS S0 S1 c (l.setIfInBounds i true) w ↔ phS S0 S1 c l w := fun l w => by unfold phS; rw [getD_set_ne true hic]
  intro fuel
  induction fuel with
  | zero =>
    intro listed a w _ hr hy hS hp H
    refine ⟨fun h => (by rw [h] at hr; cases hr), fun j hj => ?_⟩
    by_cases hji : j = i
    · subst hji; exact ifY_wpOpIn hi hy hS ⟨hp, H⟩
    · have := ready_mono hj hji
      rw [H.1] at this
      cases this
  | succ fuel ih =>
    intro listed a w hfree hr hy hS hp H
    refine ⟨fun h => (by rw [h] at hr; cases hr), fun j hj => ?_⟩
    by_cases hji : j = i
    · subst hji; exact ifY_wpOpIn hi hy hS ⟨hp, H⟩
    · have h1 := H.2 j (ready_mono hj hji)
      obtain ⟨hjun, oj, hoj, hall⟩ := mem_ready.1 hj
      have hnot : ∀ e ∈ oj.after, Region.binds md e = true → e.on ≠ i := fun e he hb heq => by
        have h1 := hall e he hb
        have h0 := (mem_ready.1 hr).1
        rw [heq] at h1
        rcases Nat.lt_or_ge i listed.size with h' | h'
        · simp [h'] at h0 h1; rw [h0] at h1; cases h1
        · simp [Array.getElem?_eq_none h'] at h1
      have h2 := wpOpIn_ifPut (n := n) hoj (hfree j oj hoj hji hjun hnot) (fun cs b => hsel i oi cs b hi) (fun cs b => hsel j oj cs b hoj) hQ hy h1
      have hfree' : ∀ k ok, ops[k]? = some ok → k ≠ i → (listed.setIfInBounds j true).getD k true = false →
          (∀ e ∈ ok.after, Region.binds md e = true → e.on ≠ i) → oi.apart ops ok = true := fun k ok hk hki hun hno => by
        refine hfree k ok hk hki ?_ hno
        by_cases hjk : j = k
        · subst hjk; exact hjun
        · rw [getD_set_ne true hjk] at hun; exact hun
      refine wpOpIn_mono (fun a' w' h3 => ?_) h2
      have hp' : phS S0 S1 c (listed.setIfInBounds j true) w' := by
        have := h3.2.1
        rw [Array.setIfInBounds_comm _ _ (Ne.symm hji), hset] at this
        exact this
      refine ⟨hp', ih (listed.setIfInBounds j true) a' w' hfree' (ready_mono hr (Ne.symm hji)) h3.1 (hT' listed j w' hr hj hji hp') ((hset _ _).2 hp') ?_⟩
      rw [Array.setIfInBounds_comm _ _ hji]
      exact h3.2.2

/-- Taken first under S1: it yields the value in every world that meets S1. -/
theorem wpGI_take1 {i : Nat} {oi : Oper} {v : Value} {fuel : Nat} {listed : Array Bool} {a : Act} {w : World} (hi : ops[i]? = some oi)
    (hs : Region.noSelect ops = true) (hf : Region.free md ops listed i = true) (hr : (Region.ready md ops listed).contains i = true) (hic : i ≠ c)
    (hQ : ∀ x a w, Q (.panic x) (a.put oi.dst v) w → Q (.panic x) a w) (h01 : ∀ w, S0 w → S1 w) (hp : phS S0 S1 c (listed.setIfInBounds i true) w) (hy : YieldsIf P ops S1 oi v a)
    (h : wpGI n P md ops Q S0 S1 c fuel (listed.setIfInBounds i true) (a.put oi.dst v) w) : wpGI n P md ops Q S0 S1 c (fuel + 1) listed a w := by
  have hall : ∀ listed w, phS S0 S1 c listed w → S1 w := fun l w hph => by
    cases hb : l.getD c true with
    | false => exact h01 w (hph.1 hb)
    | true => exact hph.2 hb
  exact wpGI_first (T := S1) hi (Region.noSelect_spec hs) hQ hic (fun l w _ hph => hall l w hph) (fun l j w _ _ _ hph => hall _ w hph) fuel listed a w (Region.free_spec hi hf) (by simpa using hr) hy (hall _ w hp) hp h

/-- Taken first under S0: number c waits for it. -/
theorem wpGI_take0 {i : Nat} {oi : Oper} {v : Value} {fuel : Nat} {listed : Array Bool} {a : Act} {w : World} (hi : ops[i]? = some oi)
    (hs : Region.noSelect ops = true) (hf : Region.free md ops listed i = true) (hr : (Region.ready md ops listed).contains i = true) (hic : i ≠ c) (hw : Region.waitsFor md ops c i = true)
    (hQ : ∀ x a w, Q (.panic x) (a.put oi.dst v) w → Q (.panic x) a w) (hc : listed.getD c true = false) (hS : S0 w) (hy : YieldsIf P ops S0 oi v a)
    (h : wpGI n P md ops Q S0 S1 c fuel (listed.setIfInBounds i true) (a.put oi.dst v) w) : wpGI n P md ops Q S0 S1 c (fuel + 1) listed a w := by
  obtain ⟨oc, hoc, e, he, hb, hon⟩ := Region.waitsFor_spec hw
  -- while i has not come up, c cannot come up; that c has not come up is carried by a closed listing
  have key : ∀ (fuel : Nat) (listed : Array Bool) (a : Act) (w : World),
      (∀ j oj, ops[j]? = some oj → j ≠ i → listed.getD j true = false → (∀ e ∈ oj.after, Region.binds md e = true → e.on ≠ i) → oi.apart ops oj = true) →
      i ∈ Region.ready md ops listed → YieldsIf P ops S0 oi v a → S0 w → listed.getD c true = false →
      wpGI n P md ops Q S0 S1 c fuel (listed.setIfInBounds i true) (a.put oi.dst v) w → wpGI n P md ops Q S0 S1 c (fuel + 1) listed a w := by
    have hcj : ∀ listed j, i ∈ Region.ready md ops listed → j ∈ Region.ready md ops listed → j ≠ c := fun listed j hr hj hjc => by
      subst hjc
      obtain ⟨_, oj, hoj, hall⟩ := mem_ready.1 hj
      have : oc = oj := Option.some.inj (hoc.symm.trans hoj)
      subst this
      have h1 := hall e he hb
      have h0 := (mem_ready.1 hr).1
      rw [hon] at h1
      rcases Nat.lt_or_ge i listed.size with h' | h'
      · simp [h'] at h0 h1; rw [h0] at h1; cases h1
      · simp [Array.getElem?_eq_none h'] at h1
    have hph : ∀ (l : Array Bool) (w : World), l.getD c true = false → S0 w → phS S0 S1 c l w := fun l w hl hS => ⟨fun _ => hS, fun ht => by rw [hl] at ht; cases ht⟩
    intro fuel
    induction fuel with
    | zero =>
      intro listed a w _ hr hy hS hc H
      refine ⟨fun h => (by rw [h] at hr; cases hr), fun j hj => ?_⟩
      by_cases hji : j = i
      · subst hji; exact ifY_wpOpIn hi hy hS ⟨hph _ _ (by rw [getD_set_ne true hic]; exact hc) hS, H⟩
      · have := ready_mono hj hji
        rw [H.1] at this
        cases this
    | succ fuel ih =>
      intro listed a w hfree hr hy hS hc H
      refine ⟨fun h => (by rw [h] at hr; cases hr), fun j hj => ?_⟩
      by_cases hji : j = i
      · subst hji; exact ifY_wpOpIn hi hy hS ⟨hph _ _ (by rw [getD_set_ne true hic]; exact hc) hS, H⟩
      · have hjc := hcj listed j hr hj
        have h1 := H.2 j (ready_mono hj hji)
        obtain ⟨hjun, oj, hoj, hall⟩ := mem_ready.1 hj
        have hnot : ∀ e ∈ oj.after, Region.binds md e = true → e.on ≠ i := fun e he hb heq => by
          have h1 := hall e he hb
          have h0 := (mem_ready.1 hr).1
          rw [heq] at h1
          rcases Nat.lt_or_ge i listed.size with h' | h'
          · simp [h'] at h0 h1; rw [h0] at h1; cases h1
          · simp [Array.getElem?_eq_none h'] at h1
        have h2 := wpOpIn_ifPut (n := n) hoj (hfree j oj hoj hji hjun hnot) (fun cs b => Region.noSelect_spec hs i oi cs b hi) (fun cs b => Region.noSelect_spec hs j oj cs b hoj) hQ hy h1
        have hfree' : ∀ k ok, ops[k]? = some ok → k ≠ i → (listed.setIfInBounds j true).getD k true = false →
            (∀ e ∈ ok.after, Region.binds md e = true → e.on ≠ i) → oi.apart ops ok = true := fun k ok hk hki hun hno => by
          refine hfree k ok hk hki ?_ hno
          by_cases hjk : j = k
          · subst hjk; exact hjun
          · rw [getD_set_ne true hjk] at hun; exact hun
        have hlc : (listed.setIfInBounds j true).getD c true = false := by rw [getD_set_ne true hjc]; exact hc
        refine wpOpIn_mono (fun a' w' h3 => ?_) h2
        have hS' : S0 w' := h3.2.1.1 (by rw [Array.setIfInBounds_comm _ _ (Ne.symm hji), getD_set_ne true hic]; exact hlc)
        refine ⟨hph _ _ hlc hS', ih (listed.setIfInBounds j true) a' w' hfree' (ready_mono hr (Ne.symm hji)) h3.1 hS' hlc ?_⟩
        rw [Array.setIfInBounds_comm _ _ hji]
        exact h3.2.2
  exact key fuel listed a w (Region.free_spec hi hf) (by simpa using hr) hy hS hc h

/-- The same, the condition at hand given before number c, or behind it. -/
theorem wpGI_takeA {i : Nat} {oi : Oper} {v : Value} {fuel : Nat} {listed : Array Bool} {a : Act} {w : World} (hi : ops[i]? = some oi)
    (hs : Region.noSelect ops = true) (hf : Region.free md ops listed i = true) (hr : (Region.ready md ops listed).contains i = true) (hic : i ≠ c)
    (hQ : ∀ x a w, Q (.panic x) (a.put oi.dst v) w → Q (.panic x) a w) (h01 : ∀ w, S0 w → S1 w) (hc : (listed.setIfInBounds i true).getD c true = false) (hS : S0 w) (hy : YieldsIf P ops S1 oi v a)
    (h : wpGI n P md ops Q S0 S1 c fuel (listed.setIfInBounds i true) (a.put oi.dst v) w) : wpGI n P md ops Q S0 S1 c (fuel + 1) listed a w :=
  wpGI_take1 hi hs hf hr hic hQ h01 ⟨fun _ => hS, fun ht => by rw [hc] at ht; cases ht⟩ hy h
theorem wpGI_takeB {i : Nat} {oi : Oper} {v : Value} {fuel : Nat} {listed : Array Bool} {a : Act} {w : World} (hi : ops[i]? = some oi)
    (hs : Region.noSelect ops = true) (hf : Region.free md ops listed i = true) (hr : (Region.ready md ops listed).contains i = true) (hic : i ≠ c)
    (hQ : ∀ x a w, Q (.panic x) (a.put oi.dst v) w → Q (.panic x) a w) (h01 : ∀ w, S0 w → S1 w) (hc : (listed.setIfInBounds i true).getD c true = true) (hS : S1 w) (hy : YieldsIf P ops S1 oi v a)
    (h : wpGI n P md ops Q S0 S1 c fuel (listed.setIfInBounds i true) (a.put oi.dst v) w) : wpGI n P md ops Q S0 S1 c (fuel + 1) listed a w :=
  wpGI_take1 hi hs hf hr hic hQ h01 ⟨fun ht => (by rw [hc] at ht; cases ht), fun _ => hS⟩ hy h
/-- Just one operation may come up. -/
theorem wpGI_one {i : Nat} {o : Oper} {fuel : Nat} {listed : Array Bool} {a : Act} {w : World} (hr : Region.ready md ops listed = [i]) (ho : ops[i]? = some o)
    (h : ∀ K' : Act → World → Prop, Shut (∀ a w, phS S0 S1 c (listed.setIfInBounds i true) w → wpGI n P md ops Q S0 S1 c fuel (listed.setIfInBounds i true) a w → K' a w) → if Region.wanted o (yielded ops a.tmps) = true then Oper.wpIn Fence.wide n P o a w K' Q else K' (a.put o.dst undef) w) :
    wpGI n P md ops Q S0 S1 c (fuel + 1) listed a w := by
  refine ⟨fun h0 => absurd (hr ▸ h0) (by simp), hr ▸ fun j hj => ?_⟩
  obtain rfl : j = i := by simpa using hj
  exact wpOpI_step ho (fun K' hK => h K' (fun a w hS hW => hK a w ⟨hS, hW⟩))
/-- The same; the condition behind it is S0, or S1. -/
theorem wpGI_oneA {i : Nat} {o : Oper} {fuel : Nat} {listed : Array Bool} {a : Act} {w : World} (hr : Region.ready md ops listed = [i]) (ho : ops[i]? = some o) (hc : (listed.setIfInBounds i true).getD c true = false)
    (h : ∀ K' : Act → World → Prop, Shut (∀ a w, S0 w → (S0 w → wpGI n P md ops Q S0 S1 c fuel (listed.setIfInBounds i true) a w) → K' a w) → if Region.wanted o (yielded ops a.tmps) = true then Oper.wpIn Fence.wide n P o a w K' Q else K' (a.put o.dst undef) w) :
    wpGI n P md ops Q S0 S1 c (fuel + 1) listed a w := by
  refine ⟨fun h0 => absurd (hr ▸ h0) (by simp), hr ▸ fun j hj => ?_⟩
  obtain rfl : j = i := by simpa using hj
  exact wpOpI_step ho (fun K' hK => h K' (fun a w hS hW => hK a w ⟨⟨fun _ => hS, fun ht => by rw [hc] at ht; cases ht⟩, hW hS⟩))
theorem wpGI_oneB {i : Nat} {o : Oper} {fuel : Nat} {listed : Array Bool} {a : Act} {w : World} (hr : Region.ready md ops listed = [i]) (ho : ops[i]? = some o) (hc : (listed.setIfInBounds i true).getD c true = true)
    (h : ∀ K' : Act → World → Prop, Shut (∀ a w, S1 w → (S1 w → wpGI n P md ops Q S0 S1 c fuel (listed.setIfInBounds i true) a w) → K' a w) → if Region.wanted o (yielded ops a.tmps) = true then Oper.wpIn Fence.wide n P o a w K' Q else K' (a.put o.dst undef) w) :
    wpGI n P md ops Q S0 S1 c (fuel + 1) listed a w := by
  refine ⟨fun h0 => absurd (hr ▸ h0) (by simp), hr ▸ fun j hj => ?_⟩
  obtain rfl : j = i := by simpa using hj
  exact wpOpI_step ho (fun K' hK => h K' (fun a w hS hW => hK a w ⟨⟨fun ht => (by rw [hc] at ht; cases ht), fun _ => hS⟩, hW hS⟩))
theorem wpGI_done {listed : Array Bool} {a : Act} {w : World} (hr : Region.ready md ops listed = []) (h : Q .normal a w) : ∀ fuel, wpGI n P md ops Q S0 S1 c fuel listed a w
  | 0 => ⟨hr, h⟩
  | _ + 1 => ⟨fun _ => h, by rw [hr]; simp⟩
theorem wpIn_region_G {id : Nat} {a : Act} {w : World} (hm : P.follows .mixedOrders = true)
    (h : wpGI n P .any ops Q S0 S1 c ops.size (Array.replicate ops.size false) a w.drew) : (Code.region id ops true).wpIn Fence.wide n P Q a w :=
  wpIn_region_any hm (any_of_wpGI _ _ _ _ h)
end
end Go.Proofs.YtkihoekldklkhaaDoor
