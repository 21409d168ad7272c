/- A region that draws its order, walked by one invariant over what has come up; resources that lie apart. Over any program. -/
import Derived.Test.YtibkhjpjneoabaaSl
import Derived.Test.YtibkhjpjneoabaaOrd
namespace Go.Proofs.Ytibkhjpjneoabaa
open Go.RowKit
set_option linter.unusedVariables false
set_option linter.unusedSimpArgs false

/-- How many have not come up. -/
def cntF : List Bool → Nat
  | [] => 0
  | b :: r => (if b then 0 else 1) + cntF r
theorem cntF_set : ∀ (l : List Bool) (i : Nat), l[i]? = some false → cntF (l.set i true) + 1 = cntF l
  | [], i, h => by simp at h
  | b :: r, 0, h => by
    simp at h
    subst h
    simp [cntF]; omega
  | b :: r, i + 1, h => by
    have := cntF_set r i (by simpa using h)
    simp [cntF]; omega
section
variable {P : Program} {md : Region.Mode} {ops : Array Oper} {Q : Exit → Act → World → Prop} {S : World → Prop} {c : Nat}
theorem ready_false {l : Array Bool} {i : Nat} (h : i ∈ Region.ready md ops l) : l.toList[i]? = some false := by
  have h0 := (mem_ready.1 h).1
  rcases Nat.lt_or_ge i l.size with h1 | h1
  · simp [h1] at h0
    simp [h1, h0]
  · simp [Array.getElem?_eq_none h1] at h0
/-- One invariant over every state of the listing. -/
theorem wpG_inv (Inv : Array Bool → Act → World → Prop) (hS : ∀ l a w, Inv l a w → S w)
    (hstep : ∀ l a w i, Inv l a w → i ∈ Region.ready md ops l → wpOp P ops Q i (fun a' w' => Inv (l.setIfInBounds i true) a' w') a w)
    (hend : ∀ l a w, Inv l a w → Region.ready md ops l = [] → Q .normal a w) :
    ∀ (fuel : Nat) (l : Array Bool) (a : Act) (w : World), Inv l a w → cntF l.toList ≤ fuel → wpG P md ops Q S S c fuel l a w
  | 0, l, a, w, hI, hf => by
    have hr : Region.ready md ops l = [] := by
      cases h : Region.ready md ops l with
      | nil => rfl
      | cons i r =>
        have := cntF_set _ _ (ready_false (i := i) (by rw [h]; exact List.mem_cons_self))
        omega
    exact ⟨hr, hend l a w hI hr⟩
  | fuel + 1, l, a, w, hI, hf => ⟨fun hr => hend l a w hI hr, fun i hi => by
    have hc := cntF_set _ _ (ready_false hi)
    refine wpOp_mono (fun a' w' hI' => ⟨⟨fun _ => hS _ _ _ hI', fun _ => hS _ _ _ hI'⟩, wpG_inv Inv hS hstep hend fuel _ a' w' hI' ?_⟩) (hstep l a w i hI hi)
    rw [Array.toList_setIfInBounds]
    omega⟩
end

/-- What an operation has made, from block B on. -/
structure Res (B : Nat) where
  fp : Nat → Prop
  ok : World → Prop
  lt : ∀ w, ok w → ∀ b, fp b → b < w.heap.size
  ge : ∀ w, ok w → ∀ b, fp b → B ≤ b
  st : ∀ w w2, ok w → Only (fun b => ¬ fp b) w w2 → ok w2
def Res.nil (B : Nat) : Res B := ⟨fun _ => False, fun _ => True, fun _ _ _ h => h.elim, fun _ _ _ h => h.elim, fun _ _ _ _ => trivial⟩
def Res.row (B : Nat) (v : Value) (l : List UInt8) : Res B := ⟨fun b => v.ownBlock = some b, fun w => w.ownsRow B 5 1 v l.length (l.map u8), fun w h b hb => own_lt h b hb, fun w h b hb => (h.lt b hb).1, fun w w2 h ho => own_only h ho fun k hk hn => hn hk⟩
def Res.blk (B g : Nat) (hB : B ≤ g) (t : TypeId) (cs : Array Value) : Res B := ⟨fun b => b = g, fun w => Blk w g t cs, fun w h b hb => hb ▸ h.lt, fun w h b hb => hb ▸ hB, fun w w2 h ho => h.only ho fun hn => hn rfl⟩
structure Sep2 (B : Nat) (w : World) (R : Nat → Res B) : Prop where
  ok : ∀ i, (R i).ok w
  ap : ∀ i j, i ≠ j → ∀ b, (R i).fp b → ¬ (R j).fp b
def Res.upd {B : Nat} (R : Nat → Res B) (i : Nat) (r : Res B) : Nat → Res B := fun j => if j = i then r else R j
theorem Sep2.upd {B : Nat} {w w2 : World} {R : Nat → Res B} (h : Sep2 B w R) (i : Nat) (r : Res B) (ho : Only (R i).fp w w2) (hok : r.ok w2) (hfp : ∀ b, r.fp b → (R i).fp b ∨ w.heap.size ≤ b) : Sep2 B w2 (Res.upd R i r) := by
  refine ⟨fun j => ?_, fun j k hjk b hj hk => ?_⟩
  · unfold Res.upd
    by_cases hj : j = i
    · rw [if_pos hj]; exact hok
    · rw [if_neg hj]
      exact (R j).st w w2 (h.ok j) (ho.mono fun b _ hb hn => h.ap i j (Ne.symm hj) b hb hn)
  · unfold Res.upd at hj hk
    by_cases h1 : j = i
    · rw [if_pos h1] at hj
      rw [if_neg (fun e => hjk (h1.trans e.symm))] at hk
      rcases hfp b hj with h2 | h2
      · exact h.ap i k (fun e => hjk (h1.trans e)) b h2 hk
      · have := (R k).lt w (h.ok k) b hk; omega
    · rw [if_neg h1] at hj
      by_cases h2 : k = i
      · rw [if_pos h2] at hk
        rcases hfp b hk with h3 | h3
        · exact h.ap j i h1 b hj h3
        · have := (R j).lt w (h.ok j) b hj; omega
      · rw [if_neg h2] at hk
        exact h.ap j k hjk b hj hk
theorem Sep2.below {B : Nat} {w0 w w2 : World} {R : Nat → Res B} (h : Sep2 B w R) (i : Nat) (ho : Only (R i).fp w w2) (hb : Below B w0 w) (hB : B ≤ w.heap.size) : Below B w0 w2 :=
  hb.trans (ho.to_below hB fun b hlt hf => by have := (R i).ge w (h.ok i) b hf; omega)
end Go.Proofs.Ytibkhjpjneoabaa
