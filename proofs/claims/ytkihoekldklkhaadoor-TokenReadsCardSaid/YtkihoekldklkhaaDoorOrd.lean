/- A region that draws its order, with a condition on the world before one operation and another one behind it. Over any program. -/
import Derived.OrdersHeld
import Derived.StillTail
import Derived.Deep.RegionHeld
import Derived.Lib.Hide
namespace Go.Proofs.YtkihoekldklkhaaDoor

/-- The condition that is to hold: S0 until number c has come up, S1 from then on. -/
def phS (S0 S1 : World → Prop) (c : Nat) (listed : Array Bool) (w : World) : Prop := (listed.getD c true = false → S0 w) ∧ (listed.getD c true = true → S1 w)

section
variable {P : Program} {ops : Array Oper} {Q : Exit → Act → World → Prop} {md : Region.Mode} {S0 S1 T : World → Prop} {c : Nat}

/-- Whatever order is picked, and the condition holds behind every operation that is carried out. -/
def wpG (P : Program) (md : Region.Mode) (ops : Array Oper) (Q : Exit → Act → World → Prop) (S0 S1 : World → Prop) (c : Nat) : Nat → Array Bool → Act → World → Prop
  | 0, listed, a, w => Region.ready md ops listed = [] ∧ Q .normal a w
  | fuel + 1, listed, a, w =>
    (Region.ready md ops listed = [] → Q .normal a w) ∧
    ∀ i ∈ Region.ready md ops listed, wpOp P ops Q i (fun a' w' => phS S0 S1 c (listed.setIfInBounds i true) w' ∧ wpG P md ops Q S0 S1 c fuel (listed.setIfInBounds i true) a' w') a w

theorem wpAny_of_wpG : ∀ (fuel : Nat) (listed : Array Bool) (a : Act) (w : World), wpG P md ops Q S0 S1 c fuel listed a w → wpAny P md ops Q fuel listed a w
  | 0, _, _, _, h => h
  | fuel + 1, _, _, _, h => ⟨h.1, fun i hi => wpOp_mono (fun a' w' h' => wpAny_of_wpG fuel _ a' w' h'.2) (h.2 i hi)⟩

/-- What may be taken first, under T: T holds wherever the operation may come up. -/
theorem wpG_first {i : Nat} {oi : Oper} {v : Value} (hi : ops[i]? = some oi) (hsel : ∀ (j : Nat) (o : Oper) cs b, ops[j]? = some o → o.op ≠ .select cs b)
    (hQ : ∀ x a w, Q (.panic x) (a.put oi.dst v) w → Q (.panic x) a w) (hic : i ≠ c)
    (hT : ∀ listed w, i ∈ Region.ready md ops listed → phS S0 S1 c listed w → T w)
    (hT' : ∀ listed j w, i ∈ Region.ready md ops listed → j ∈ Region.ready md ops listed → j ≠ i → phS S0 S1 c (listed.setIfInBounds j true) w → T w) :
    ∀ (fuel : Nat) (listed : Array Bool) (a : Act) (w : World),
      (∀ j oj, ops[j]? = some oj → j ≠ i → listed.getD j true = false → (∀ e ∈ oj.after, Region.binds md e = true → e.on ≠ i) → oi.apart ops oj = true) →
      i ∈ Region.ready md ops listed → YieldsIf P ops T oi v a → T w → phS S0 S1 c (listed.setIfInBounds i true) w →
      wpG P md ops Q S0 S1 c fuel (listed.setIfInBounds i true) (a.put oi.dst v) w → wpG P md ops Q S0 S1 c (fuel + 1) listed a w := by
  have hset : ∀ (l : Array Bool) (w : World), phS S0 S1 c (l.setIfInBounds i true) w ↔ phS S0 S1 c l w := fun l w => by unfold phS; rw [getD_set_ne true hic]
  intro fuel
  induction fuel with
  | zero =>
    intro listed a w _ hr hy hS hp H
    refine ⟨fun h => (by rw [h] at hr; cases hr), fun j hj => ?_⟩
    by_cases hji : j = i
    · subst hji; exact hy.wpOp hi hS ⟨hp, H⟩
    · have := ready_mono hj hji
      rw [H.1] at this
      cases this
  | succ fuel ih =>
    intro listed a w hfree hr hy hS hp H
    refine ⟨fun h => (by rw [h] at hr; cases hr), fun j hj => ?_⟩
    by_cases hji : j = i
    · subst hji; exact hy.wpOp hi hS ⟨hp, H⟩
    · have h1 := H.2 j (ready_mono hj hji)
      obtain ⟨hjun, oj, hoj, hall⟩ := mem_ready.1 hj
      have hnot : ∀ e ∈ oj.after, Region.binds md e = true → e.on ≠ i := fun e he hb heq => by
        have h1 := hall e he hb
        have h0 := (mem_ready.1 hr).1
        rw [heq] at h1
        rcases Nat.lt_or_ge i listed.size with h' | h'
        · simp [h'] at h0 h1; rw [h0] at h1; cases h1
        · simp [Array.getElem?_eq_none h'] at h1
      have h2 := wpOp_putIf hoj (hfree j oj hoj hji hjun hnot) (fun cs b => hsel i oi cs b hi) (fun cs b => hsel j oj cs b hoj) hQ hy h1
      have hfree' : ∀ k ok, ops[k]? = some ok → k ≠ i → (listed.setIfInBounds j true).getD k true = false →
          (∀ e ∈ ok.after, Region.binds md e = true → e.on ≠ i) → oi.apart ops ok = true := fun k ok hk hki hun hno => by
        refine hfree k ok hk hki ?_ hno
        by_cases hjk : j = k
        · subst hjk; exact hjun
        · rw [getD_set_ne true hjk] at hun; exact hun
      refine wpOp_mono (fun a' w' h3 => ?_) h2
      have hp' : phS S0 S1 c (listed.setIfInBounds j true) w' := by
        have := h3.2.1
        rw [Array.setIfInBounds_comm _ _ (Ne.symm hji), hset] at this
        exact this
      refine ⟨hp', ih (listed.setIfInBounds j true) a' w' hfree' (ready_mono hr (Ne.symm hji)) h3.1 (hT' listed j w' hr hj hji hp') ((hset _ _).2 hp') ?_⟩
      rw [Array.setIfInBounds_comm _ _ hji]
      exact h3.2.2

/-- Taken first under S1: it yields the value in every world that meets S1. -/
theorem wpG_take1 {i : Nat} {oi : Oper} {v : Value} {fuel : Nat} {listed : Array Bool} {a : Act} {w : World} (hi : ops[i]? = some oi)
    (hs : Region.noSelect ops = true) (hf : Region.free md ops listed i = true) (hr : (Region.ready md ops listed).contains i = true) (hic : i ≠ c)
    (hQ : ∀ x a w, Q (.panic x) (a.put oi.dst v) w → Q (.panic x) a w) (h01 : ∀ w, S0 w → S1 w) (hp : phS S0 S1 c (listed.setIfInBounds i true) w) (hy : YieldsIf P ops S1 oi v a)
    (h : wpG P md ops Q S0 S1 c fuel (listed.setIfInBounds i true) (a.put oi.dst v) w) : wpG P md ops Q S0 S1 c (fuel + 1) listed a w := by
  have hall : ∀ listed w, phS S0 S1 c listed w → S1 w := fun l w hph => by
    cases hb : l.getD c true with
    | false => exact h01 w (hph.1 hb)
    | true => exact hph.2 hb
  exact wpG_first (T := S1) hi (Region.noSelect_spec hs) hQ hic (fun l w _ hph => hall l w hph) (fun l j w _ _ _ hph => hall _ w hph) fuel listed a w (Region.free_spec hi hf) (by simpa using hr) hy (hall _ w hp) hp h

/-- Taken first under S0: number c waits for it. -/
theorem wpG_take0 {i : Nat} {oi : Oper} {v : Value} {fuel : Nat} {listed : Array Bool} {a : Act} {w : World} (hi : ops[i]? = some oi)
    (hs : Region.noSelect ops = true) (hf : Region.free md ops listed i = true) (hr : (Region.ready md ops listed).contains i = true) (hic : i ≠ c) (hw : Region.waitsFor md ops c i = true)
    (hQ : ∀ x a w, Q (.panic x) (a.put oi.dst v) w → Q (.panic x) a w) (hc : listed.getD c true = false) (hS : S0 w) (hy : YieldsIf P ops S0 oi v a)
    (h : wpG P md ops Q S0 S1 c fuel (listed.setIfInBounds i true) (a.put oi.dst v) w) : wpG P md ops Q S0 S1 c (fuel + 1) listed a w := by
  obtain ⟨oc, hoc, e, he, hb, hon⟩ := Region.waitsFor_spec hw
  -- while i has not come up, c cannot come up; that c has not come up is carried by a closed listing
  have key : ∀ (fuel : Nat) (listed : Array Bool) (a : Act) (w : World),
      (∀ j oj, ops[j]? = some oj → j ≠ i → listed.getD j true = false → (∀ e ∈ oj.after, Region.binds md e = true → e.on ≠ i) → oi.apart ops oj = true) →
      i ∈ Region.ready md ops listed → YieldsIf P ops S0 oi v a → S0 w → listed.getD c true = false →
      wpG P md ops Q S0 S1 c fuel (listed.setIfInBounds i true) (a.put oi.dst v) w → wpG P md ops Q S0 S1 c (fuel + 1) listed a w := by
    have hcj : ∀ listed j, i ∈ Region.ready md ops listed → j ∈ Region.ready md ops listed → j ≠ c := fun listed j hr hj hjc => by
      subst hjc
      obtain ⟨_, oj, hoj, hall⟩ := mem_ready.1 hj
      have : oc = oj := Option.some.inj (hoc.symm.trans hoj)
      subst this
      have h1 := hall e he hb
      have h0 := (mem_ready.1 hr).1
      rw [hon] at h1
      rcases Nat.lt_or_ge i listed.size with h' | h'
      · simp [h'] at h0 h1; rw [h0] at h1; cases h1
      · simp [Array.getElem?_eq_none h'] at h1
    have hph : ∀ (l : Array Bool) (w : World), l.getD c true = false → S0 w → phS S0 S1 c l w := fun l w hl hS => ⟨fun _ => hS, fun ht => by rw [hl] at ht; cases ht⟩
    intro fuel
    induction fuel with
    | zero =>
      intro listed a w _ hr hy hS hc H
      refine ⟨fun h => (by rw [h] at hr; cases hr), fun j hj => ?_⟩
      by_cases hji : j = i
      · subst hji; exact hy.wpOp hi hS ⟨hph _ _ (by rw [getD_set_ne true hic]; exact hc) hS, H⟩
      · have := ready_mono hj hji
        rw [H.1] at this
        cases this
    | succ fuel ih =>
      intro listed a w hfree hr hy hS hc H
      refine ⟨fun h => (by rw [h] at hr; cases hr), fun j hj => ?_⟩
      by_cases hji : j = i
      · subst hji; exact hy.wpOp hi hS ⟨hph _ _ (by rw [getD_set_ne true hic]; exact hc) hS, H⟩
      · have hjc := hcj listed j hr hj
        have h1 := H.2 j (ready_mono hj hji)
        obtain ⟨hjun, oj, hoj, hall⟩ := mem_ready.1 hj
        have hnot : ∀ e ∈ oj.after, Region.binds md e = true → e.on ≠ i := fun e he hb heq => by
          have h1 := hall e he hb
          have h0 := (mem_ready.1 hr).1
          rw [heq] at h1
          rcases Nat.lt_or_ge i listed.size with h' | h'
          · simp [h'] at h0 h1; rw [h0] at h1; cases h1
          · simp [Array.getElem?_eq_none h'] at h1
        have h2 := wpOp_putIf hoj (hfree j oj hoj hji hjun hnot) (fun cs b => Region.noSelect_spec hs i oi cs b hi) (fun cs b => Region.noSelect_spec hs j oj cs b hoj) hQ hy h1
        have hfree' : ∀ k ok, ops[k]? = some ok → k ≠ i → (listed.setIfInBounds j true).getD k true = false →
            (∀ e ∈ ok.after, Region.binds md e = true → e.on ≠ i) → oi.apart ops ok = true := fun k ok hk hki hun hno => by
          refine hfree k ok hk hki ?_ hno
          by_cases hjk : j = k
          · subst hjk; exact hjun
          · rw [getD_set_ne true hjk] at hun; exact hun
        have hlc : (listed.setIfInBounds j true).getD c true = false := by rw [getD_set_ne true hjc]; exact hc
        refine wpOp_mono (fun a' w' h3 => ?_) h2
        have hS' : S0 w' := h3.2.1.1 (by rw [Array.setIfInBounds_comm _ _ (Ne.symm hji), getD_set_ne true hic]; exact hlc)
        refine ⟨hph _ _ hlc hS', ih (listed.setIfInBounds j true) a' w' hfree' (ready_mono hr (Ne.symm hji)) h3.1 hS' hlc ?_⟩
        rw [Array.setIfInBounds_comm _ _ hji]
        exact h3.2.2
  exact key fuel listed a w (Region.free_spec hi hf) (by simpa using hr) hy hS hc h

/-- The same, the condition at hand given before number c, or behind it. -/
theorem wpG_takeA {i : Nat} {oi : Oper} {v : Value} {fuel : Nat} {listed : Array Bool} {a : Act} {w : World} (hi : ops[i]? = some oi)
    (hs : Region.noSelect ops = true) (hf : Region.free md ops listed i = true) (hr : (Region.ready md ops listed).contains i = true) (hic : i ≠ c)
    (hQ : ∀ x a w, Q (.panic x) (a.put oi.dst v) w → Q (.panic x) a w) (h01 : ∀ w, S0 w → S1 w) (hc : (listed.setIfInBounds i true).getD c true = false) (hS : S0 w) (hy : YieldsIf P ops S1 oi v a)
    (h : wpG P md ops Q S0 S1 c fuel (listed.setIfInBounds i true) (a.put oi.dst v) w) : wpG P md ops Q S0 S1 c (fuel + 1) listed a w :=
  wpG_take1 hi hs hf hr hic hQ h01 ⟨fun _ => hS, fun ht => by rw [hc] at ht; cases ht⟩ hy h
theorem wpG_takeB {i : Nat} {oi : Oper} {v : Value} {fuel : Nat} {listed : Array Bool} {a : Act} {w : World} (hi : ops[i]? = some oi)
    (hs : Region.noSelect ops = true) (hf : Region.free md ops listed i = true) (hr : (Region.ready md ops listed).contains i = true) (hic : i ≠ c)
    (hQ : ∀ x a w, Q (.panic x) (a.put oi.dst v) w → Q (.panic x) a w) (h01 : ∀ w, S0 w → S1 w) (hc : (listed.setIfInBounds i true).getD c true = true) (hS : S1 w) (hy : YieldsIf P ops S1 oi v a)
    (h : wpG P md ops Q S0 S1 c fuel (listed.setIfInBounds i true) (a.put oi.dst v) w) : wpG P md ops Q S0 S1 c (fuel + 1) listed a w :=
  wpG_take1 hi hs hf hr hic hQ h01 ⟨fun ht => (by rw [hc] at ht; cases ht), fun _ => hS⟩ hy h
/-- Just one operation may come up. -/
theorem wpG_one {i : Nat} {o : Oper} {fuel : Nat} {listed : Array Bool} {a : Act} {w : World} (hr : Region.ready md ops listed = [i]) (ho : ops[i]? = some o)
    (h : ∀ K' : Act → World → Prop, Shut (∀ a w, phS S0 S1 c (listed.setIfInBounds i true) w → wpG P md ops Q S0 S1 c fuel (listed.setIfInBounds i true) a w → K' a w) → if Region.wanted o (yielded ops a.tmps) = true then Oper.wp P o a w K' Q else K' (a.put o.dst undef) w) :
    wpG P md ops Q S0 S1 c (fuel + 1) listed a w := by
  refine ⟨fun h0 => absurd (hr ▸ h0) (by simp), hr ▸ fun j hj => ?_⟩
  obtain rfl : j = i := by simpa using hj
  exact wpOp_step ho (fun K' hK => h K' (fun a w hS hW => hK a w ⟨hS, hW⟩))
/-- The same; the condition behind it is S0, or S1. -/
theorem wpG_oneA {i : Nat} {o : Oper} {fuel : Nat} {listed : Array Bool} {a : Act} {w : World} (hr : Region.ready md ops listed = [i]) (ho : ops[i]? = some o) (hc : (listed.setIfInBounds i true).getD c true = false)
    (h : ∀ K' : Act → World → Prop, Shut (∀ a w, S0 w → (S0 w → wpG P md ops Q S0 S1 c fuel (listed.setIfInBounds i true) a w) → K' a w) → if Region.wanted o (yielded ops a.tmps) = true then Oper.wp P o a w K' Q else K' (a.put o.dst undef) w) :
    wpG P md ops Q S0 S1 c (fuel + 1) listed a w := by
  refine ⟨fun h0 => absurd (hr ▸ h0) (by simp), hr ▸ fun j hj => ?_⟩
  obtain rfl : j = i := by simpa using hj
  exact wpOp_step ho (fun K' hK => h K' (fun a w hS hW => hK a w ⟨⟨fun _ => hS, fun ht => by rw [hc] at ht; cases ht⟩, hW hS⟩))
theorem wpG_oneB {i : Nat} {o : Oper} {fuel : Nat} {listed : Array Bool} {a : Act} {w : World} (hr : Region.ready md ops listed = [i]) (ho : ops[i]? = some o) (hc : (listed.setIfInBounds i true).getD c true = true)
    (h : ∀ K' : Act → World → Prop, Shut (∀ a w, S1 w → (S1 w → wpG P md ops Q S0 S1 c fuel (listed.setIfInBounds i true) a w) → K' a w) → if Region.wanted o (yielded ops a.tmps) = true then Oper.wp P o a w K' Q else K' (a.put o.dst undef) w) :
    wpG P md ops Q S0 S1 c (fuel + 1) listed a w := by
  refine ⟨fun h0 => absurd (hr ▸ h0) (by simp), hr ▸ fun j hj => ?_⟩
  obtain rfl : j = i := by simpa using hj
  exact wpOp_step ho (fun K' hK => h K' (fun a w hS hW => hK a w ⟨⟨fun ht => (by rw [hc] at ht; cases ht), fun _ => hS⟩, hW hS⟩))
theorem wpG_done {listed : Array Bool} {a : Act} {w : World} (hr : Region.ready md ops listed = []) (h : Q .normal a w) : ∀ fuel, wpG P md ops Q S0 S1 c fuel listed a w
  | 0 => ⟨hr, h⟩
  | _ + 1 => ⟨fun _ => h, by rw [hr]; simp⟩
theorem wp_region_G {id : Nat} {a : Act} {w : World} (hm : P.follows .mixedOrders = true)
    (h : wpG P .any ops Q S0 S1 c ops.size (Array.replicate ops.size false) a w.drew) : (Code.region id ops true).wp P Q a w :=
  wp_region_any hm (wpAny_of_wpG _ _ _ _ h)
end
end Go.Proofs.YtkihoekldklkhaaDoor
