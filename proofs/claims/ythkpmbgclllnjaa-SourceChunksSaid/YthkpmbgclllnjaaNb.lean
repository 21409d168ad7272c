/- What run wants: rows of bytes, blocks that differ, a region where one of two comes first. -/
import Derived.Test.YthkpmbgclllnjaaAc
namespace Go.Proofs.Ythkpmbgclllnjaa
open Go.RowKit
set_option linter.unusedVariables false
set_option linter.unusedSimpArgs false

def ByteRow (w : World) (B : Nat) (v : Value) (n : Nat) : Prop := ∃ L : List UInt8, L.length = n ∧ w.ownsRow B 5 1 v n (L.map u8)
theorem ByteRow.cell {w : World} {B n k : Nat} {v : Value} (h : ByteRow w B v n) (hk : k < n) : ∃ g cap x, v = .slice (some ⟨g, 0, none⟩) n cap ∧ w.cell? ⟨g, k, none⟩ = some (.int .u8 x) ∧ 0 ≤ x ∧ x < 256 ∧ w.frozen? ⟨g, k, none⟩ = false := by
  obtain ⟨L, hl, ho⟩ := h
  obtain ⟨g, cap, rfl, -, -, -, -, hcs⟩ := own_holds ho (by omega)
  have hkl : k < L.length := by omega
  have hc := hcs k (u8 L[k]) (by rw [List.getElem?_map, List.getElem?_eq_getElem hkl]; rfl)
  rw [Addr.add_lit, Nat.zero_add] at hc
  have := L[k].toNat_lt
  exact ⟨g, cap, _, rfl, hc, by omega, by omega, own_frozen ho⟩
theorem ByteRow.store {w : World} {B n k g cap : Nat} {z : Int} (h : ByteRow w B (.slice (some ⟨g, 0, none⟩) n cap) n) (h0 : 0 ≤ z) (h1 : z < 256) : ByteRow (w.setCell ⟨g, k, none⟩ (.int .u8 z)) B (.slice (some ⟨g, 0, none⟩) n cap) n := by
  obtain ⟨L, hl, ho⟩ := h
  refine ⟨L.set k (UInt8.ofNat z.toNat), by simpa using hl, ?_⟩
  have := own_store ho (k := k) (.int .u8 z)
  rw [List.map_set]
  have e : u8 (UInt8.ofNat z.toNat) = .int .u8 z := by
    unfold u8
    rw [UInt8.toNat_ofNat', Nat.mod_eq_of_lt (by omega), Int.toNat_of_nonneg h0]
  rw [e]
  exact this
theorem ByteRow.drew {w : World} {B n : Nat} {v : Value} (h : ByteRow w B v n) : ByteRow w.drew B v n := by
  obtain ⟨L, hl, ho⟩ := h
  exact ⟨L, hl, own_drew ho⟩
theorem ByteRow.of {w : World} {B n : Nat} {v : Value} {L : List UInt8} (h : w.ownsRow B 5 1 v n (L.map u8)) : ByteRow w B v n := ⟨L, by have := h.1; simpa using this, h⟩
theorem ByteRow.form {w : World} {B n : Nat} {v : Value} (h : ByteRow w B v n) : ∃ A cap, v = .slice A n cap := by
  obtain ⟨L, hl, ho⟩ := h
  obtain ⟨A, cap, e, -⟩ := own_form ho
  exact ⟨A, cap, e⟩

theorem Blk.ne {w : World} {g g2 : Nat} {t t2 : TypeId} {cs ds : Array Value} (h : Blk w g t cs) (k : Blk w g2 t2 ds) (ht : t ≠ t2) : g ≠ g2 := by
  rintro rfl
  unfold Blk at h k
  rw [h] at k
  injection k with k
  injection k with _ k2
  exact ht k2
theorem own_ne2 {w : World} {B B2 n n2 : Nat} {v v2 : Value} {xs ys : List Value} (h : w.ownsRow B 5 1 v n xs) (k : w.ownsRow B2 5 1 v2 n2 ys) (hb : ∀ j, v2.ownBlock = some j → j < B) : ∀ j, v.ownBlock = some j → v2.ownBlock ≠ some j := fun j hj e => by
  have := (h.lt j hj).1
  have := hb j e
  omega
theorem SS.notSF {w : World} {B bs bt bb : Nat} {v : Value} {lim : Nat} {l : List UInt8} {tk : Nat} {cl : Bool} (h : SS w B bs bt bb v lim l tk cl) {g : Nat} {t : TypeId} {cs : Array Value} (hg : Blk w g t cs) (h1 : t ≠ 65) (h2 : t ≠ 63) (h3 : t ≠ 5) : ¬ SF bt bb v g := by
  rintro (rfl | rfl | hk)
  · exact hg.ne h.st h1 rfl
  · exact hg.ne h.buf h2 rfl
  · exact own_ne h.own hg h3 hk
/-- A slice of bytes does not lie in a block of other cells. -/
theorem RB.ne {w : World} {A : Option Addr} {n c : Nat} {l : List UInt8} (h : RB w A n c l) (h0 : 0 < n) {a : Addr} (hA : A = some a) {g : Nat} {t : TypeId} {cs : Array Value} (hg : Blk w g t cs) (hc : ∀ (j : Nat) (x : Int), cs[j]? ≠ some (Value.int .u8 x)) : a.block ≠ g := by
  rintro rfl
  have hl : 0 < l.length := by rw [h.len]; exact h0
  have h1 := h.h.2.2 a hA 0 (u8 l[0]) (by simp [List.getElem?_eq_getElem hl])
  have hs : a.spot = none := by have := World.cell?_spot h1; simpa [Addr.add] using this
  obtain ⟨b, o, sp⟩ := a
  simp at hs
  subst hs
  rw [Addr.add_lit] at h1
  have h2 := hg.cell (o + 0)
  rw [h1] at h2
  exact hc _ _ h2.symm
theorem cs4 (p q : Int) (v : Value) (b : Bool) (hv : ∀ x, v ≠ .int .u8 x) (j : Nat) (x : Int) : (#[Value.int .i64 p, v, .int .i64 q, .bool b] : Array Value)[j]? ≠ some (Value.int .u8 x) := by
  match j with
  | 0 => simp
  | 1 => simpa using hv x
  | 2 => simp
  | 3 => simp
  | _ + 4 => simp
theorem Hat.trans {v v1 v2 : Value} {w w1 : World} (h : Hat v v1 w) (k : Hat v1 v2 w1) (hs : w.heap.size ≤ w1.heap.size) : Hat v v2 w := by
  rcases k with k | k
  · rcases h with h | h
    · exact .inl (k.trans h)
    · exact .inr fun j hj => h j (k ▸ hj)
  · exact .inr fun j hj => Nat.le_trans hs (k j hj)
theorem is_any {w : World} {B bs bt bb : Nat} {v : Value} {lim : Nat} {A : Option Addr} {n c : Nat} {all : List UInt8} {tk : Nat} (cl : Bool) (h : SS w B bs bt bb v lim (all.drop tk) tk cl) (hr : RB w A n c all) (ht : tk ≤ n) (hn : n ≤ 1000000) :
    Calls Try.prog 19 #[.pointer (some ⟨bs, 0, none⟩), .agg #[.int .i64 lim, .slice A n c, .int .i64 tk, .bool cl]] w fun e w' => e = .returned (.bool true) ∧ Below w.heap.size w w' := by
  cases cl
  · exact is_false h hr ht hn
  · exact is_true h hr ht hn
section
variable {P : Program} {ops : Array Oper} {Q : Exit → Act → World → Prop} {md : Region.Mode} {S0 S1 : World → Prop} {c : Nat}
/-- Two operations may come up. -/
theorem wpG_twoB {i j : Nat} {o p : Oper} {fuel : Nat} {listed : Array Bool} {a : Act} {w : World} (hr : Region.ready md ops listed = [i, j]) (ho : ops[i]? = some o) (hp : ops[j]? = some p) (hci : (listed.setIfInBounds i true).getD c true = true) (hcj : (listed.setIfInBounds j true).getD c true = true)
    (h : ∀ K' : Act → World → Prop, Shut (∀ a w, S1 w → (S1 w → wpG P md ops Q S0 S1 c fuel (listed.setIfInBounds i true) a w) → K' a w) → if Region.wanted o (yielded ops a.tmps) = true then Oper.wp P o a w K' Q else K' (a.put o.dst undef) w)
    (h2 : ∀ K' : Act → World → Prop, Shut (∀ a w, S1 w → (S1 w → wpG P md ops Q S0 S1 c fuel (listed.setIfInBounds j true) a w) → K' a w) → if Region.wanted p (yielded ops a.tmps) = true then Oper.wp P p a w K' Q else K' (a.put p.dst undef) w) :
    wpG P md ops Q S0 S1 c (fuel + 1) listed a w := by
  refine ⟨fun h0 => absurd (hr ▸ h0) (by simp), hr ▸ fun k hk => ?_⟩
  rcases (show k = i ∨ k = j by simpa using hk) with rfl | rfl
  · exact wpOp_step ho (fun K' hK => h K' (fun a w hS hW => hK a w ⟨⟨fun ht => (by rw [hci] at ht; cases ht), fun _ => hS⟩, hW hS⟩))
  · exact wpOp_step hp (fun K' hK => h2 K' (fun a w hS hW => hK a w ⟨⟨fun ht => (by rw [hcj] at ht; cases ht), fun _ => hS⟩, hW hS⟩))
end
end Go.Proofs.Ythkpmbgclllnjaa
