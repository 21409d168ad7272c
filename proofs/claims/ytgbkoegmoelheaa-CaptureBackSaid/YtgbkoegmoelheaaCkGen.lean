/- Words for byte slices: a slice that reads as a list of bytes; the first byte below 128. No program. Laws of the walk inside a fence that the library has outside one. Over any program. Appends, by an equation on the run: laid once, used outside and inside a fence. Over any program. Appends for the walk: outside a fence, inside one, in a region that draws. Over any program. Strings to bytes and back. Over any program. From an argument's reading to the words for byte slices. Over any program. -/
import Derived.WalkKit
import Derived.WalkSpells
import Derived.Laws.BytesArg
import Derived.Deep.Draws
import Derived.Lib.Hide
import Derived.OwnWalkIn
import Derived.ArgAppend
import Derived.Laws.OwnMore
import Derived.Laws.Rows
import Derived.RangeFuncNested
import Derived.Deep.QuietTactic
import Derived.Maps.AppendAt
import Derived.Deep.RegionHeld3
import Derived.Deep.AppendLies
import Derived.Lib.ConvBytes
import Derived.ProofKit
import Derived.OpenShut
namespace Go.Proofs.Ytgbkoegmoelheaa.Ck
open Go.RowKit

/-- The slice at A reads as the bytes l, and lies below block B. -/
def BS (w : World) (B : Nat) (A : Option Addr) (l : List UInt8) : Prop :=
  0 < l.length → ∃ b o, A = some ⟨b, o, none⟩ ∧ b < B ∧ ∀ i (h : i < l.length), w.cell? ⟨b, o + i, none⟩ = some (.int .u8 ((l[i]).toNat : Int))

section
variable {w w' : World} {B B' : Nat} {A : Option Addr} {l : List UInt8}
theorem BS.nil_ : BS w B A [] := fun h => absurd h (by simp)
theorem BS.keep (h : BS w B A l) (hk : ∀ p : Addr, p.block < B → w'.cell? p = w.cell? p) : BS w' B A l := fun hn => by
  obtain ⟨b, o, e, hb, hc⟩ := h hn
  exact ⟨b, o, e, hb, fun i hi => (hk _ hb).trans (hc i hi)⟩
theorem BS.more (h : BS w B A l) (hB : B ≤ B') : BS w B' A l := fun hn => by
  obtain ⟨b, o, e, hb, hc⟩ := h hn
  exact ⟨b, o, e, by omega, hc⟩
theorem BS.below (h : BS w B A l) (hb : Below B w w') : BS w' B A l := h.keep fun _ hp => hb.cell hp
theorem BS.drew (h : BS w B A l) : BS w.drew B A l := h
theorem BS.drewN (h : BS w B A l) (k : Nat) : BS (w.drewN k) B A l := h
theorem BS.alloc (h : BS w B A l) (hB : B ≤ w.heap.size) (o : Obj) : BS (w.alloc o) B A l := h.keep fun p hp => World.cell?_alloc_lt w o p (by omega)
theorem BS.take_ (h : BS w B A l) (k : Nat) : BS w B A (l.take k) := fun hn => by
  obtain ⟨b, o, e, hb, hc⟩ := h (by rw [List.length_take] at hn; omega)
  exact ⟨b, o, e, hb, fun i hi => by rw [List.getElem_take]; exact hc i (by rw [List.length_take] at hi; omega)⟩
theorem BS.lt (h : BS w B A l) (hn : 0 < l.length) : ∃ b o, A = some ⟨b, o, none⟩ ∧ b < w.heap.size := by
  obtain ⟨b, o, e, hb, hc⟩ := h hn
  exact ⟨b, o, e, World.block_lt_of_cell? _ _ (hc 0 hn)⟩
end

/-- The first byte below 128, or -1. -/
def ix (l : List UInt8) : Int := match l.findIdx? (fun x => decide (x.toNat < 128)) with | some i => (i : Int) | none => -1

theorem ix_none {l : List UInt8} (h : ∀ i (hi : i < l.length), 128 ≤ l[i].toNat) : ix l = -1 := by
  unfold ix
  rw [List.findIdx?_eq_none_iff.2]
  intro x hx
  obtain ⟨i, hi, rfl⟩ := List.getElem_of_mem hx
  simpa using h i hi
theorem ix_some {l : List UInt8} {k : Nat} (hk : k < l.length) (h : ∀ i (hi : i < k), 128 ≤ (l[i]'(by omega)).toNat) (h1 : l[k].toNat < 128) : ix l = (k : Int) := by
  unfold ix
  rw [List.findIdx?_eq_some_iff_getElem.2 ⟨hk, by simpa using h1, fun j hj => by simpa using h j hj⟩]

theorem ofInt_i64 (a : Nat) (ha : a < 9223372036854775808) : (BitVec.ofInt 64 (a : Int)).toNat = a := by
  rw [BitVec.ofInt_natCast, BitVec.toNat_ofNat]; exact Nat.mod_eq_of_lt (by omega)
theorem i64_or_nat (a b : Nat) (ha : a < 9223372036854775808) (hb : b < 9223372036854775808) : bits .or .i64 (a : Int) (b : Int) = ((a ||| b : Nat) : Int) := by
  have hx : a ||| b < 2 ^ 63 := Nat.or_lt_two_pow (by omega) (by omega)
  show IntKind.i64.wrap ((BitVec.ofInt 64 (a : Int) ||| BitVec.ofInt 64 (b : Int)).toNat : Int) = _
  rw [BitVec.toNat_or, ofInt_i64 a ha, ofInt_i64 b hb, IntKind.wrap_i64]
  omega

/-- The number of little groups of seven bits. -/
def valOf : List UInt8 → Nat
  | [] => 0
  | x :: xs => x.toNat % 128 + 128 * valOf xs

theorem valOf_lt : ∀ l : List UInt8, valOf l < 128 ^ l.length
  | [] => by simp [valOf]
  | x :: xs => by
    have := valOf_lt xs
    simp only [valOf, List.length_cons, Nat.pow_succ]
    have := Nat.mod_lt x.toNat (show 0 < 128 by omega)
    omega
theorem valOf_append : ∀ (l m : List UInt8), valOf (l ++ m) = valOf l + 128 ^ l.length * valOf m
  | [], m => by simp [valOf]
  | x :: xs, m => by
    simp only [valOf, List.cons_append, valOf_append xs m, List.length_cons, Nat.pow_succ, Nat.mul_add]
    rw [Nat.mul_comm (128 ^ xs.length) 128, Nat.mul_assoc]
    omega
theorem valOf_snoc (l : List UInt8) (k : Nat) (hk : k < l.length) : valOf (l.take (k + 1)) = valOf (l.take k) + 128 ^ k * (l[k].toNat % 128) := by
  rw [List.take_succ_eq_append_getElem hk, valOf_append]
  simp [valOf, Nat.min_eq_left (Nat.le_of_lt hk)]
theorem pow128 (k : Nat) : (2 : Nat) ^ (7 * k) = 128 ^ k := by rw [Nat.pow_mul]

theorem or_step (V k : Nat) (x : Int) (hV : V < 128 ^ k) (hk : k ≤ 4) (h0 : 0 ≤ x) (h1 : x < 256) :
    bits BinOp.or IntKind.i64 (V : Int) (wrap64 (x % 128 * 2 ^ (7 * k))) = ((V + 128 ^ k * (x.toNat % 128) : Nat) : Int) ∧ V + 128 ^ k * (x.toNat % 128) < 128 ^ (k + 1) := by
  obtain ⟨y, rfl⟩ := Int.eq_ofNat_of_zero_le h0
  have hy : y % 128 < 128 := Nat.mod_lt _ (by omega)
  have hp : 128 ^ k ≤ 128 ^ 4 := Nat.pow_le_pow_right (by omega) hk
  have hp1 : 0 < 128 ^ k := Nat.pow_pos (by omega)
  have e0 : (2 : Int) ^ (7 * k) = ((128 ^ k : Nat) : Int) := by rw [← pow128]; simp
  have hm : y % 128 * 128 ^ k ≤ 127 * 128 ^ k := Nat.mul_le_mul_right _ (by omega)
  have e1 : (y : Int) % 128 * 2 ^ (7 * k) = ((y % 128 * 128 ^ k : Nat) : Int) := by rw [e0]; simp
  have e2 : wrap64 ((y % 128 * 128 ^ k : Nat) : Int) = ((y % 128 * 128 ^ k : Nat) : Int) := IntWalk.wrap64_in _ ⟨by omega, by omega⟩
  rw [e1, e2, i64_or_nat _ _ (by omega) (by omega)]
  have e3 : V ||| y % 128 * 128 ^ k = V + 128 ^ k * (y % 128) := by
    rw [Nat.mul_comm (y % 128), ← pow128, Nat.or_comm, ← Nat.two_pow_add_eq_or_of_lt (by rw [pow128]; exact hV)]
    omega
  rw [e3]
  refine ⟨by simp, ?_⟩
  rw [Nat.pow_succ, Nat.mul_comm (128 ^ k) (_ % 128)]
  simp only [Int.toNat_natCast]
  omega

theorem ix_cases (l : List UInt8) : (ix l = -1 ∧ ∀ i (hi : i < l.length), 128 ≤ l[i].toNat) ∨ ∃ (k : Nat) (hk : k < l.length), ix l = (k : Int) ∧ l[k].toNat < 128 ∧ ∀ i (hi : i < k), 128 ≤ (l[i]'(by omega)).toNat := by
  cases h : l.findIdx? (fun x => decide (x.toNat < 128)) with
  | none =>
    refine .inl ⟨by unfold ix; rw [h], fun i hi => ?_⟩
    have := (List.findIdx?_eq_none_iff.1 h) l[i] (List.getElem_mem hi)
    simpa using this
  | some k =>
    obtain ⟨hk, h1, h2⟩ := List.findIdx?_eq_some_iff_getElem.1 h
    exact .inr ⟨k, hk, by unfold ix; rw [h], by simpa using h1, fun i hi => by simpa using h2 i hi⟩

/-- A byte as a cell. -/
def u8 (x : UInt8) : Value := .int .u8 (x.toNat : Int)
/-- A slice's cells, for an append. -/
def Holds (w : World) (A : Option Addr) (n : Nat) (xs : List Value) : Prop := xs.length = n * 1 ∧ (A = none → n = 0 ∧ n = 0) ∧ ∀ b, A = some b → ∀ j u, xs[j]? = some u → w.cell? (b.add j) = some u

theorem BS.holds {w : World} {B : Nat} {A : Option Addr} {l : List UInt8} {n : Nat} (h : BS w B A l) (hl : l.length = n) : Holds w A n (l.map u8) := by
  refine ⟨by simp [hl], fun hA => ?_, fun b hb j u hu => ?_⟩
  · rcases Nat.eq_zero_or_pos n with h0 | h0
    · exact ⟨h0, h0⟩
    · obtain ⟨b, o, e, _⟩ := h (by omega); rw [e] at hA; cases hA
  · have hj : j < l.length := by
      rcases Nat.lt_or_ge j l.length with h1 | h1
      · exact h1
      · rw [List.getElem?_eq_none (by simpa using h1)] at hu; cases hu
    obtain ⟨b', o, e, _, hc⟩ := h (by omega)
    rw [e] at hb; cases hb
    have := hc j hj
    rw [List.getElem?_map, List.getElem?_eq_getElem hj] at hu
    simp at hu
    rw [Addr.add_lit, this, ← hu]; rfl
theorem Holds.keep {w w' : World} {A : Option Addr} {n : Nat} {xs : List Value} (h : Holds w A n xs) (hb : Below w.heap.size w w') : Holds w' A n xs :=
  ⟨h.1, h.2.1, fun b hA j u hu => by
    have h1 := h.2.2 b hA j u hu
    rw [hb.cell (World.block_lt_of_cell? _ _ h1)]; exact h1⟩

end Go.Proofs.Ytgbkoegmoelheaa.Ck

namespace Go.Proofs.Ytgbkoegmoelheaa.Ck
open Go.RowKit

theorem wpListIn_append_grows {F : Fence} {nn : Nat} {P : Program} (w : World) {ops : Array Oper} {rest : List Oper} {o : Oper} {a : Act} {Q : Exit → Act → World → Prop}
    (hg : o.guard = none) (s x : Operand) (t : TypeId) (hop : o.op = Op.call { callee := Callee.builtin Builtin.append, args := #[s, x], argTypes := #[t, t] })
    (e : TypeId) (i : TypeInfo) (z : Value) (size bytes : Nat) (h1 : P.underlying t = some (.slice e)) (h2 : P.info? e = some i) (h3 : i.zero = some z) (h4 : i.size = size) (h5 : i.bytes = bytes) (h6 : z.cells.size = size) (h7 : 0 < size)
    (ao : Option Addr) (n cap : Nat) (olds : List Value) (hs : a.eval s = .slice ao n cap) (hnone : ao = none → n = 0 ∧ cap = 0) (hlo : olds.length = n * size) (holds : ∀ b, ao = some b → ∀ j u, olds[j]? = some u → w.cell? (b.add j) = some u)
    (ad : Addr) (m c : Nat) (news : List Value) (hx : a.eval x = .slice (some ad) m c) (hn : news.length = m * size) (hc : ∀ j u, news[j]? = some u → w.cell? (ad.add j) = some u) (h1c : ∀ u ∈ news, u.oneCell' = true)
    (hfull : cap < n + m) (b1 : n + m ≤ maxLen) (b2 : (n + m) * bytes ≤ 140737488355328)
    (hK : ∀ v' w', w'.ownsRow w.heap.size e size v' (n + m) (olds ++ news) → w.grownBy w' none → wpListIn F nn P ops Q rest (a.put o.dst v') w') :
    wpListIn F nn P ops Q (o :: rest) a w := by
  refine wpListIn_plain hg fun K hK' => ?_
  have hrun : ∃ v' w', (Builtin.append_ #[t, t] o.type #[.slice ao n cap, .slice (some ad) m c]).run P w = .ok v' w' ∧ w'.ownsRow w.heap.size e size v' (n + m) (olds ++ news) ∧ w.grownBy w' none := by
    cases ao with
    | some b => exact run_append_arg_grows (P := P) w t o.type e i z size bytes h1 h2 h3 h4 h5 h6 h7 b n cap olds hlo (holds b rfl) ad m c news hn hc hfull b1 b2
    | none =>
      obtain ⟨rfl, rfl⟩ := hnone rfl
      obtain rfl : olds = [] := List.eq_nil_of_length_eq_zero (by simpa using hlo)
      obtain ⟨v', w', hrun, r1, r2, _⟩ := run_append_own (P := P) w w.heap.size t o.type e i z size bytes h1 h2 h3 h4 h5 h6 h7 (.slice none 0 0) 0 [] (World.ownsRow_nil w _ e size) ad m c news hn hc h1c b1 b2 (Nat.le_refl _)
      exact ⟨v', w', hrun, r1, r2⟩
  obtain ⟨v', w', hrun, r1, r2⟩ := hrun
  unfold Oper.wpIn
  refine ⟨?_, ?_⟩
  · simp [Oper.about, hop, resolve, Target.leads, Sem.run_pure]
  · rw [Oper.semAt_plain F _ _ (by rw [hop]; intro c hc'; cases hc')]
    simp [execOp, hop, resolve, invoke, builtin, hs, hx, hrun, Result.andThen]
    exact hK' _ _ (hK v' w' r1 r2)

section
variable {w w' : World} {B B' n : Nat} {e : TypeId} {v : Value} {xs : List Value}
theorem own_base {sz : Nat} (h : w.ownsRow B' e sz v n xs) (hb : B ≤ B') : w.ownsRow B e sz v n xs := by
  refine ⟨h.1, ?_⟩
  rcases h.2 with h2 | ⟨g, cap, cur, rfl, hg, r⟩
  · exact .inl h2
  · exact .inr ⟨g, cap, cur, rfl, by omega, r⟩
theorem own_keeps {sz : Nat} (h : w.ownsRow B e sz v n xs) (hk : ∀ g, v.ownBlock = some g → w'.heap[g]? = w.heap[g]?) : w'.ownsRow B e sz v n xs := by
  refine ⟨h.1, ?_⟩
  rcases h.2 with h2 | ⟨g, cap, cur, rfl, hg, hh, r⟩
  · exact .inl h2
  · exact .inr ⟨g, cap, cur, rfl, hg, (hk g rfl).trans hh, r⟩
theorem own_none {sz : Nat} (h : w.ownsRow B e sz v n xs) (hg : w.grownBy w' none) : w'.ownsRow B e sz v n xs := h.kept hg (by cases v.ownBlock <;> simp)
theorem own_form (h : w.ownsRow B e 1 v n xs) :
    ∃ A cap, v = .slice A n cap ∧ n ≤ cap ∧ cap ≤ maxLen ∧ (A = none → n = 0 ∧ cap = 0) ∧ (∀ b, A = some b → ∀ j u, xs[j]? = some u → w.cell? (b.add j) = some u) := by
  rcases h.2 with ⟨rfl, rfl⟩ | ⟨g, cap, cur, rfl, hg, hh, hn, hm, hs, ht⟩
  · exact ⟨none, 0, rfl, Nat.le_refl _, by omega, fun _ => ⟨rfl, rfl⟩, fun b hb => by cases hb⟩
  · exact ⟨_, cap, rfl, hn, hm, fun hb => (by cases hb), fun b hb => by cases hb; exact h.cells rfl⟩
theorem below_own {sz : Nat} {a : World} (hb : Below B a w) (hB : B ≤ w.heap.size) (h : w.ownsRow B e sz v n xs) (hg : w.grownBy w' v.ownBlock) : Below B a w' := hb.grown hg hB (fun k hk => (h.lt k hk).1)
end

/-- Block g is just the cells cs, of element type t, none frozen. -/
def Blk (w : World) (g : Nat) (t : TypeId) (cs : Array Value) : Prop := w.heap[g]? = some (.cells cs t (0, 0))
section
variable {w w' : World} {g : Nat} {t : TypeId} {cs : Array Value}
theorem Blk.lt (h : Blk w g t cs) : g < w.heap.size := (Array.getElem?_eq_some_iff.1 h).1
theorem Blk.cell (h : Blk w g t cs) (i : Nat) : w.cell? ⟨g, i, none⟩ = cs[i]? := cell_of_row w g i cs t (0, 0) h
theorem Blk.frozen (h : Blk w g t cs) (i : Nat) : w.frozen? ⟨g, i, none⟩ = false := by
  unfold Blk at h
  simp [World.frozen?, h]
theorem Blk.new (w : World) (t : TypeId) (cs : Array Value) : Blk (w.alloc (.cells cs t)) w.heap.size t cs := heap_alloc_new w _
theorem Blk.alloc (h : Blk w g t cs) (o : Obj) : Blk (w.alloc o) g t cs := (Below.heap_alloc w o g h.lt).trans h
theorem Blk.set_ (h : Blk w g t cs) (i : Nat) (u : Value) : Blk (w.setCell ⟨g, i, none⟩ u) g t (cs.setIfInBounds i u) := by
  unfold Blk at h ⊢
  simp [World.setCell, Array.getElem?_modify, h]
theorem Blk.far (h : Blk w g t cs) {p : Addr} (hp : g ≠ p.block) (u : Value) : Blk (w.setCell p u) g t cs := (Below.heap_setCell w p u g hp).trans h
theorem Blk.below {B : Nat} (h : Blk w g t cs) (hb : Below B w w') (hg : g < B) : Blk w' g t cs := (hb.block g hg).trans h
theorem Blk.grown {row : Option Nat} (h : Blk w g t cs) (hb : w.grownBy w' row) (hg : some g ≠ row) : Blk w' g t cs := (hb.block g h.lt hg).trans h
theorem Blk.put (h : Blk w g t cs) {k : Nat} (hk : k ≠ g) (o : Obj) : Blk (w.putObj k o) g t cs := (World.putObj_heap_other (by omega)).trans h
end

section
variable {X : World} {k : Nat} {o o' : Obj}
theorem Blk.calm {g : Nat} {t : TypeId} {cs : Array Value} (h : Blk X g t cs) (hX : X.heap[k]? = some o) (ho : o.isCells = false) : Blk (X.putObj k o') g t cs :=
  h.put (fun e => by subst e; unfold Blk at h; rw [h] at hX; cases hX; cases ho) o'
theorem own_calm {B sz n : Nat} {e : TypeId} {v : Value} {xs : List Value} (h : X.ownsRow B e sz v n xs) (hX : X.heap[k]? = some o) (ho : o.isCells = false) : (X.putObj k o').ownsRow B e sz v n xs := by
  refine ⟨h.1, ?_⟩
  rcases h.2 with h2 | ⟨g, cap, cur, rfl, hg, hh, r⟩
  · exact .inl h2
  · exact .inr ⟨g, cap, cur, rfl, hg, Blk.calm (t := e) (cs := cur) hh hX ho, r⟩
theorem below_calm {n₀ : Nat} {a : World} (h : Below n₀ a X) (hk : n₀ ≤ k) (hX : X.heap[k]? = some o) : Below n₀ a (X.putObj k o') :=
  h.trans ((Below.refl n₀ X).grown (grownBy_putObj' X k o') (by have := (Array.getElem?_eq_some_iff.1 hX).1; omega) (fun j e => by cases e; omega))
theorem size_putObj (X : World) (k : Nat) (o : Obj) : (X.putObj k o).heap.size = X.heap.size := by simp [World.putObj]
theorem own_holds {B n : Nat} {e : TypeId} {v : Value} {xs : List Value} (h : X.ownsRow B e 1 v n xs) (h0 : 0 < n) : ∃ g cap, v = .slice (some ⟨g, 0, none⟩) n cap ∧ B ≤ g ∧ g < X.heap.size ∧ n ≤ cap ∧ cap ≤ maxLen ∧ ∀ j u, xs[j]? = some u → X.cell? ((⟨g, 0, none⟩ : Addr).add j) = some u := by
  rcases h.2 with ⟨_, h0'⟩ | ⟨g, cap, cur, rfl, hg, hh, hn, hm, hs, ht⟩
  · omega
  · exact ⟨g, cap, rfl, hg, (Array.getElem?_eq_some_iff.1 hh).1, hn, hm, h.cells rfl⟩
theorem own_setCell {B n sz : Nat} {e : TypeId} {v : Value} {xs : List Value} (h : X.ownsRow B e sz v n xs) {a : Addr} (ha : v.ownBlock ≠ some a.block) (u : Value) : (X.setCell a u).ownsRow B e sz v n xs :=
  own_keeps h fun g hg => Below.heap_setCell _ _ _ _ (fun e => ha (by rw [hg, e]))
end

theorem quiet_left {P : Program} {f : FuncId} {args : Array Value} {w : World} {n : Nat} {v : Value}
    (h : Calls P f args (w.drewN n) fun e w' => e = .returned v ∧ w.drewN n = w') : Calls P f args (w.drewN n) fun e w' => e = .returned v ∧ ∃ m, w' = w.drewN m :=
  h.mono fun _ _ ⟨he, hw⟩ => ⟨he, n, hw.symm⟩
theorem quiet_add_left {P : Program} {f : FuncId} {args : Array Value} {w : World} {a n : Nat} {v : Value}
    (h : Calls P f args (w.drewN (a + n)) fun e w' => e = .returned v ∧ w.drewN (a + n) = w') :
    Calls P f args (w.drewN (a + n)) fun e w'' => e = .returned v ∧ ∃ m, w'' = w.drewN (a + m) :=
  h.mono fun _ _ ⟨he, hw⟩ => ⟨he, n, hw.symm⟩
theorem below_drewN {B : Nat} {a w : World} (h : Below B a w) (n : Nat) : Below B a (w.drewN n) := ⟨h.os, h.tape, h.output, h.size, h.block⟩

/-- The wide fence asks nothing. -/
theorem wide_fn (f : FuncId) : Fence.wide.fn f = True := rfl
theorem wide_depth : Fence.wide.depth = none := rfl
theorem wide_fn_in (l : Nat) (f : FuncId) : (Fence.wide.inRound l).fn f = True := rfl
theorem wide_depth_in (l : Nat) : (Fence.wide.inRound l).depth = none := rfl
end Go.Proofs.Ytgbkoegmoelheaa.Ck

namespace Go.Proofs.Ytgbkoegmoelheaa.Ck
open Go.RowKit

section
variable {P : Program} {w : World} {ops : Array Oper} {rest : List Oper} {o : Oper} {a : Act} {Q : Exit → Act → World → Prop}

theorem wpList_run (hg : o.guard = none) (s x : Operand) (t : TypeId) (hop : o.op = Op.call { callee := Callee.builtin Builtin.append, args := #[s, x], argTypes := #[t, t] })
    {v u v' : Value} {w' : World} (hs : a.eval s = v) (hx : a.eval x = u) (hrun : (Builtin.append_ #[t, t] o.type #[v, u]).run P w = .ok v' w') (hK : wpList P ops Q rest (a.put o.dst v') w') : wpList P ops Q (o :: rest) a w := by
  refine wpList_plain hg fun K hK' => ?_
  unfold Oper.wp
  simp [execOp, hop, resolve, invoke, builtin, hs, hx, hrun, Result.andThen]
  exact hK' _ _ hK

theorem wpListIn_run {F : Fence} {nn : Nat} (hg : o.guard = none) (s x : Operand) (t : TypeId) (hop : o.op = Op.call { callee := Callee.builtin Builtin.append, args := #[s, x], argTypes := #[t, t] })
    {v u v' : Value} {w' : World} (hs : a.eval s = v) (hx : a.eval x = u) (hrun : (Builtin.append_ #[t, t] o.type #[v, u]).run P w = .ok v' w') (hK : wpListIn F nn P ops Q rest (a.put o.dst v') w') : wpListIn F nn P ops Q (o :: rest) a w := by
  refine wpListIn_plain hg fun K hK' => ?_
  unfold Oper.wpIn
  refine ⟨?_, ?_⟩
  · simp [Oper.about, hop, resolve, Target.leads, Sem.run_pure]
  · rw [Oper.semAt_plain F _ _ (by rw [hop]; intro c hc'; cases hc')]
    simp [execOp, hop, resolve, invoke, builtin, hs, hx, hrun, Result.andThen]
    exact hK' _ _ hK
end

/-- What is known of an element type of one cell. -/
structure El (P : Program) (t e : TypeId) (bytes : Nat) : Prop where
  ht : P.underlying t = some (.slice e)
  hi : ∃ i z, P.info? e = some i ∧ i.zero = some z ∧ i.size = 1 ∧ i.bytes = bytes ∧ z.cells.size = 1

section
variable {P : Program} {w : World} {t ty e : TypeId} {bytes : Nat}

theorem run_app_nil (hE : El P t e bytes) {v : Value} (hv : (∃ A n c, v = .slice A n c ∧ n ≤ c ∧ (A = none → n = 0 ∧ c = 0))) (c : Nat) : (Builtin.append_ #[t, t] ty #[v, .slice none 0 c]).run P w = .ok v w := by
  obtain ⟨i, z, hi, hz, hs, hb, hzs⟩ := hE.hi
  obtain ⟨A, n, c', rfl, hn, hA⟩ := hv
  cases A with
  | none =>
    obtain ⟨rfl, rfl⟩ := hA rfl
    simp [Builtin.append_, run_underlying hE.ht, sizeOf, typeInfo, hi, Builtin.lenOf, Builtin.firstCells]
  | some b => simp [Builtin.append_, run_underlying hE.ht, sizeOf, typeInfo, hi, Builtin.lenOf, Builtin.firstCells, hn, storeCells]

/-- Onto a row of the call's own, or nil: it may grow. -/
theorem run_app_own (hE : El P t e bytes) {base n m c : Nat} {v : Value} {xs news : List Value} {A : Option Addr} (hown : w.ownsRow base e 1 v n xs) (hx : Holds w A m news) (h1 : ∀ u ∈ news, u.oneCell' = true)
    (h63 : n + m ≤ maxLen) (hby : (n + m) * bytes ≤ 140737488355328) (hbase : base ≤ w.heap.size) :
    ∃ v' w', (Builtin.append_ #[t, t] ty #[v, .slice A m c]).run P w = .ok v' w' ∧ w'.ownsRow base e 1 v' (n + m) (xs ++ news) ∧ w.grownBy w' v.ownBlock ∧ (v'.ownBlock = v.ownBlock ∨ v'.ownBlock = some w.heap.size) := by
  obtain ⟨i, z, hi, hz, hs, hb, hzs⟩ := hE.hi
  cases A with
  | none =>
    obtain ⟨rfl, _⟩ := hx.2.1 rfl
    obtain rfl : news = [] := List.eq_nil_of_length_eq_zero (by simpa using hx.1)
    obtain ⟨A', cap, rfl, hn, _, hA, _⟩ := own_form hown
    exact ⟨_, w, run_app_nil hE ⟨_, _, _, rfl, hn, hA⟩ c, by simpa using hown, World.grownBy.refl w _, .inl rfl⟩
  | some ad =>
    obtain ⟨v', w', h, h2, h3, _, h5⟩ := run_append_own_at (P := P) w base t ty e i z 1 bytes hE.ht hi hz hs hb hzs (by omega) v n xs hown ad m c news hx.1 (fun j u hu => hx.2.2 ad rfl j u hu) h1 h63 hby hbase
    exact ⟨v', w', h, h2, h3, h5⟩

/-- Onto a row with room: the value is known. -/
theorem run_app_fits (hE : El P t e bytes) {base n m c cap g : Nat} {xs news : List Value} {A : Option Addr} (hown : w.ownsRow base e 1 (.slice (some ⟨g, 0, none⟩) n cap) n xs) (hx : Holds w A m news) (h1 : ∀ u ∈ news, u.oneCell' = true) (hroom : n + m ≤ cap) :
    ∃ w', (Builtin.append_ #[t, t] ty #[.slice (some ⟨g, 0, none⟩) n cap, .slice A m c]).run P w = .ok (.slice (some ⟨g, 0, none⟩) (n + m) cap) w' ∧ w'.ownsRow base e 1 (.slice (some ⟨g, 0, none⟩) (n + m) cap) (n + m) (xs ++ news) ∧ w.grownBy w' (some g) := by
  obtain ⟨i, z, hi, hz, hs, hb, hzs⟩ := hE.hi
  cases A with
  | none =>
    obtain ⟨rfl, _⟩ := hx.2.1 rfl
    obtain rfl : news = [] := List.eq_nil_of_length_eq_zero (by simpa using hx.1)
    exact ⟨w, run_app_nil hE ⟨_, _, _, rfl, by omega, fun h => (by cases h)⟩ c, by simpa using hown, World.grownBy.refl w _⟩
  | some ad => exact run_append_fits (P := P) w base t ty e i 1 hE.ht hi hs g n cap xs hown ad m c news hx.1 (fun j u hu => hx.2.2 ad rfl j u hu) h1 hroom

/-- Onto a slice that has no room: the elements lie in a new row. -/
theorem run_app_grows (hE : El P t e bytes) {n m c cap : Nat} {xs news : List Value} {A A' : Option Addr} (ho : Holds w A' n xs) (hcap : A' = none → cap = 0) (hx : Holds w A m news) (h1 : ∀ u ∈ news, u.oneCell' = true)
    (hfull : cap < n + m) (hnc : n ≤ cap) (h63 : n + m ≤ maxLen) (hby : (n + m) * bytes ≤ 140737488355328) :
    ∃ v' w', (Builtin.append_ #[t, t] ty #[.slice A' n cap, .slice A m c]).run P w = .ok v' w' ∧ w'.ownsRow w.heap.size e 1 v' (n + m) (xs ++ news) ∧ w.grownBy w' none := by
  obtain ⟨i, z, hi, hz, hs, hb, hzs⟩ := hE.hi
  cases A with
  | none => obtain ⟨rfl, _⟩ := hx.2.1 rfl; omega
  | some ad =>
    cases A' with
    | some b => exact run_append_arg_grows (P := P) w t ty e i z 1 bytes hE.ht hi hz hs hb hzs (by omega) b n cap xs ho.1 (fun j u hu => ho.2.2 b rfl j u hu) ad m c news hx.1 (fun j u hu => hx.2.2 ad rfl j u hu) hfull h63 hby
    | none =>
      obtain ⟨rfl, _⟩ := ho.2.1 rfl
      obtain rfl : xs = [] := List.eq_nil_of_length_eq_zero (by simpa using ho.1)
      obtain rfl := hcap rfl
      obtain ⟨v', w', hrun, r1, r2, _⟩ := run_append_own (P := P) w w.heap.size t ty e i z 1 bytes hE.ht hi hz hs hb hzs (by omega) (.slice none 0 0) 0 [] (World.ownsRow_nil w _ e 1) ad m c news hx.1 (fun j u hu => hx.2.2 ad rfl j u hu) h1 h63 hby (Nat.le_refl _)
      exact ⟨v', w', hrun, r1, r2⟩
end

theorem u8_one (l : List UInt8) : ∀ u ∈ l.map u8, u.oneCell' = true := by
  intro u hu
  obtain ⟨x, _, rfl⟩ := List.mem_map.1 hu
  rfl
theorem holds_own {w : World} {B n : Nat} {e : TypeId} {A : Option Addr} {c : Nat} {xs : List Value} (h : w.ownsRow B e 1 (.slice A n c) n xs) : Holds w A n xs := by
  obtain ⟨A', cap, hv, _, _, hA, hc⟩ := own_form h
  cases hv
  exact ⟨h.1, fun hn => ⟨(hA hn).1, (hA hn).1⟩, hc⟩
/-- A place of an own row behind its length. -/
theorem own_spare {w : World} {B n cap g k : Nat} {e : TypeId} {xs : List Value} (h : w.ownsRow B e 1 (.slice (some ⟨g, 0, none⟩) n cap) n xs) (hk : k < cap) : ∃ u, w.cell? ⟨g, k, none⟩ = some u ∧ w.frozen? ⟨g, k, none⟩ = false := by
  rcases h.2 with ⟨h0, _⟩ | ⟨g', cap', cur, hv, hg, hh, hn, hm, hs, ht⟩
  · cases h0
  · cases hv
    have hb : Blk w g e cur := hh
    have : k < cur.size := by omega
    exact ⟨cur[k], by rw [hb.cell]; simp [this], hb.frozen k⟩
theorem own_push {w : World} {B n cap g : Nat} {e : TypeId} {xs : List Value} (h : w.ownsRow B e 1 (.slice (some ⟨g, 0, none⟩) n cap) n xs) (hk : n < cap) (u : Value) : (w.setCell ⟨g, n, none⟩ u).ownsRow B e 1 (.slice (some ⟨g, 0, none⟩) (n + 1) cap) (n + 1) (xs ++ [u]) := by
  rcases h.2 with ⟨h0, _⟩ | ⟨g', cap', cur, hv, hg, hh, hn, hm, hs, ht⟩
  · cases h0
  · cases hv
    have hb : Blk w g e cur := hh
    have hz : n < cur.size := by omega
    have hx : xs.length = n := by have := h.1; omega
    refine ⟨by simp [hx], .inr ⟨g, cap, cur.setIfInBounds n u, rfl, hg, hb.set_ n u, by omega, hm, by simpa using hs, ?_⟩⟩
    rw [Nat.mul_one, Array.toList_setIfInBounds]
    rw [Nat.mul_one] at ht
    rw [← ht, List.take_succ_eq_append_getElem (by simpa using hz)]
    simp [List.take_set]
    rw [List.set_eq_of_length_le (by simp; omega)]
theorem own_prefix {w : World} {B n m cap g : Nat} {e : TypeId} {xs : List Value} (h : w.ownsRow B e 1 (.slice (some ⟨g, 0, none⟩) m cap) m xs) (hn : n ≤ m) : w.ownsRow B e 1 (.slice (some ⟨g, 0, none⟩) n cap) n (xs.take n) := by
  rcases h.2 with ⟨h0, _⟩ | ⟨g', cap', cur, hv, hg, hh, hnc, hm, hs, ht⟩
  · cases h0
  · cases hv
    have hx := h.1
    refine ⟨by simp; omega, .inr ⟨g, cap, cur, rfl, hg, hh, by omega, hm, hs, ?_⟩⟩
    rw [← ht, List.take_take]
    congr 1
    omega
theorem own_len {w : World} {B n k cap : Nat} {e : TypeId} {A : Option Addr} {xs : List Value} (h : w.ownsRow B e 1 (.slice A k cap) n xs) : k = n ∨ (A = none ∧ n = 0) := by
  rcases h.2 with ⟨h0, h1⟩ | ⟨g', cap'', cur, hv, _⟩
  · cases h0; exact .inr ⟨rfl, h1⟩
  · cases hv; exact .inl rfl
theorem El.mk' {P : Program} {t e : TypeId} {bytes : Nat} {z : Value} (ht : P.underlying t = some (.slice e)) (hi : (P.info? e).map (fun i => (i.zero, i.size, i.bytes)) = some (some z, 1, bytes)) (hz : z.cells.size = 1) : El P t e bytes := by
  obtain ⟨i0, hi0, hz0, hz1, hz2⟩ := info_parts hi
  exact ⟨ht, i0, z, hi0, hz0, hz1, hz2, hz⟩
end Go.Proofs.Ytgbkoegmoelheaa.Ck

namespace Go.Proofs.Ytgbkoegmoelheaa.Ck
open Go.RowKit

section
variable {P : Program} {w : World} {ops : Array Oper} {rest : List Oper} {o : Oper} {a : Act} {Q : Exit → Act → World → Prop}

theorem step_run {K : Act → World → Prop} {E : Prop} (hgd : o.guard = none) (s x : Operand) (t : TypeId) (hop : o.op = Op.call { callee := Callee.builtin Builtin.append, args := #[s, x], argTypes := #[t, t] })
    {v u v' : Value} {w' : World} (hs : a.eval s = v) (hx : a.eval x = u) (hrun : (Builtin.append_ #[t, t] o.type #[v, u]).run P w = .ok v' w') (hK : K (a.put o.dst v') w') :
    if Region.wanted o (yielded ops a.tmps) = true then Oper.wp P o a w K Q else E := by
  have hw : Region.wanted o (yielded ops a.tmps) = true := by simp [Region.wanted, hgd]
  rw [if_pos hw]
  unfold Oper.wp
  simp [execOp, hop, resolve, invoke, builtin, hs, hx, hrun, Result.andThen]
  exact hK

theorem wpList_app_own (hgd : o.guard = none) (s x : Operand) (t : TypeId) (hop : o.op = Op.call { callee := Callee.builtin Builtin.append, args := #[s, x], argTypes := #[t, t] }) {e : TypeId} {bytes : Nat} (hE : El P t e bytes) {base n m c : Nat} {v : Value} {xs news : List Value} {A : Option Addr} (hs : a.eval s = v) (hown : w.ownsRow base e 1 v n xs) (hx : a.eval x = .slice A m c) (hsrc : Holds w A m news) (h1 : ∀ u ∈ news, u.oneCell' = true) (h63 : n + m ≤ maxLen) (hby : (n + m) * bytes ≤ 140737488355328) (hbase : base ≤ w.heap.size)
    (hK : ∀ v' w', w'.ownsRow base e 1 v' (n + m) (xs ++ news) → w.grownBy w' v.ownBlock → (v'.ownBlock = v.ownBlock ∨ v'.ownBlock = some w.heap.size) → wpList P ops Q rest (a.put o.dst v') w') : wpList P ops Q (o :: rest) a w := by
  obtain ⟨v', w', hrun, p1, p2, p3⟩ := run_app_own (ty := o.type) hE hown hsrc h1 h63 hby hbase
  exact wpList_run hgd s x t hop hs hx hrun (hK v' w' p1 p2 p3)
theorem wpListIn_app_own {F : Fence} {nn : Nat} (hgd : o.guard = none) (s x : Operand) (t : TypeId) (hop : o.op = Op.call { callee := Callee.builtin Builtin.append, args := #[s, x], argTypes := #[t, t] }) {e : TypeId} {bytes : Nat} (hE : El P t e bytes) {base n m c : Nat} {v : Value} {xs news : List Value} {A : Option Addr} (hs : a.eval s = v) (hown : w.ownsRow base e 1 v n xs) (hx : a.eval x = .slice A m c) (hsrc : Holds w A m news) (h1 : ∀ u ∈ news, u.oneCell' = true) (h63 : n + m ≤ maxLen) (hby : (n + m) * bytes ≤ 140737488355328) (hbase : base ≤ w.heap.size)
    (hK : ∀ v' w', w'.ownsRow base e 1 v' (n + m) (xs ++ news) → w.grownBy w' v.ownBlock → (v'.ownBlock = v.ownBlock ∨ v'.ownBlock = some w.heap.size) → wpListIn F nn P ops Q rest (a.put o.dst v') w') : wpListIn F nn P ops Q (o :: rest) a w := by
  obtain ⟨v', w', hrun, p1, p2, p3⟩ := run_app_own (ty := o.type) hE hown hsrc h1 h63 hby hbase
  exact wpListIn_run hgd s x t hop hs hx hrun (hK v' w' p1 p2 p3)
theorem step_app_own {K : Act → World → Prop} {E : Prop} (hgd : o.guard = none) (s x : Operand) (t : TypeId) (hop : o.op = Op.call { callee := Callee.builtin Builtin.append, args := #[s, x], argTypes := #[t, t] }) {e : TypeId} {bytes : Nat} (hE : El P t e bytes) {base n m c : Nat} {v : Value} {xs news : List Value} {A : Option Addr} (hs : a.eval s = v) (hown : w.ownsRow base e 1 v n xs) (hx : a.eval x = .slice A m c) (hsrc : Holds w A m news) (h1 : ∀ u ∈ news, u.oneCell' = true) (h63 : n + m ≤ maxLen) (hby : (n + m) * bytes ≤ 140737488355328) (hbase : base ≤ w.heap.size)
    (hK : ∀ v' w', w'.ownsRow base e 1 v' (n + m) (xs ++ news) → w.grownBy w' v.ownBlock → (v'.ownBlock = v.ownBlock ∨ v'.ownBlock = some w.heap.size) → K (a.put o.dst v') w') : if Region.wanted o (yielded ops a.tmps) = true then Oper.wp P o a w K Q else E := by
  obtain ⟨v', w', hrun, p1, p2, p3⟩ := run_app_own (ty := o.type) hE hown hsrc h1 h63 hby hbase
  exact step_run hgd s x t hop hs hx hrun (hK v' w' p1 p2 p3)

theorem wpList_app_fits (hgd : o.guard = none) (s x : Operand) (t : TypeId) (hop : o.op = Op.call { callee := Callee.builtin Builtin.append, args := #[s, x], argTypes := #[t, t] }) {e : TypeId} {bytes : Nat} (hE : El P t e bytes) {base n m c cap g : Nat} {xs news : List Value} {A : Option Addr} (hs : a.eval s = .slice (some ⟨g, 0, none⟩) n cap) (hown : w.ownsRow base e 1 (.slice (some ⟨g, 0, none⟩) n cap) n xs) (hx : a.eval x = .slice A m c) (hsrc : Holds w A m news) (h1 : ∀ u ∈ news, u.oneCell' = true) (hroom : n + m ≤ cap)
    (hK : ∀ w', w'.ownsRow base e 1 (.slice (some ⟨g, 0, none⟩) (n + m) cap) (n + m) (xs ++ news) → w.grownBy w' (some g) → wpList P ops Q rest (a.put o.dst (.slice (some ⟨g, 0, none⟩) (n + m) cap)) w') : wpList P ops Q (o :: rest) a w := by
  obtain ⟨w', hrun, p1, p2⟩ := run_app_fits (ty := o.type) hE hown hsrc h1 hroom
  exact wpList_run hgd s x t hop hs hx hrun (hK w' p1 p2)
theorem wpListIn_app_fits {F : Fence} {nn : Nat} (hgd : o.guard = none) (s x : Operand) (t : TypeId) (hop : o.op = Op.call { callee := Callee.builtin Builtin.append, args := #[s, x], argTypes := #[t, t] }) {e : TypeId} {bytes : Nat} (hE : El P t e bytes) {base n m c cap g : Nat} {xs news : List Value} {A : Option Addr} (hs : a.eval s = .slice (some ⟨g, 0, none⟩) n cap) (hown : w.ownsRow base e 1 (.slice (some ⟨g, 0, none⟩) n cap) n xs) (hx : a.eval x = .slice A m c) (hsrc : Holds w A m news) (h1 : ∀ u ∈ news, u.oneCell' = true) (hroom : n + m ≤ cap)
    (hK : ∀ w', w'.ownsRow base e 1 (.slice (some ⟨g, 0, none⟩) (n + m) cap) (n + m) (xs ++ news) → w.grownBy w' (some g) → wpListIn F nn P ops Q rest (a.put o.dst (.slice (some ⟨g, 0, none⟩) (n + m) cap)) w') : wpListIn F nn P ops Q (o :: rest) a w := by
  obtain ⟨w', hrun, p1, p2⟩ := run_app_fits (ty := o.type) hE hown hsrc h1 hroom
  exact wpListIn_run hgd s x t hop hs hx hrun (hK w' p1 p2)
theorem step_app_fits {K : Act → World → Prop} {E : Prop} (hgd : o.guard = none) (s x : Operand) (t : TypeId) (hop : o.op = Op.call { callee := Callee.builtin Builtin.append, args := #[s, x], argTypes := #[t, t] }) {e : TypeId} {bytes : Nat} (hE : El P t e bytes) {base n m c cap g : Nat} {xs news : List Value} {A : Option Addr} (hs : a.eval s = .slice (some ⟨g, 0, none⟩) n cap) (hown : w.ownsRow base e 1 (.slice (some ⟨g, 0, none⟩) n cap) n xs) (hx : a.eval x = .slice A m c) (hsrc : Holds w A m news) (h1 : ∀ u ∈ news, u.oneCell' = true) (hroom : n + m ≤ cap)
    (hK : ∀ w', w'.ownsRow base e 1 (.slice (some ⟨g, 0, none⟩) (n + m) cap) (n + m) (xs ++ news) → w.grownBy w' (some g) → K (a.put o.dst (.slice (some ⟨g, 0, none⟩) (n + m) cap)) w') : if Region.wanted o (yielded ops a.tmps) = true then Oper.wp P o a w K Q else E := by
  obtain ⟨w', hrun, p1, p2⟩ := run_app_fits (ty := o.type) hE hown hsrc h1 hroom
  exact step_run hgd s x t hop hs hx hrun (hK w' p1 p2)

theorem wpList_app_grows (hgd : o.guard = none) (s x : Operand) (t : TypeId) (hop : o.op = Op.call { callee := Callee.builtin Builtin.append, args := #[s, x], argTypes := #[t, t] }) {e : TypeId} {bytes : Nat} (hE : El P t e bytes) {n m c cap : Nat} {xs news : List Value} {A A' : Option Addr} (hs : a.eval s = .slice A' n cap) (ho : Holds w A' n xs) (hcap : A' = none → cap = 0) (hx : a.eval x = .slice A m c) (hsrc : Holds w A m news) (h1 : ∀ u ∈ news, u.oneCell' = true) (hfull : cap < n + m) (hnc : n ≤ cap) (h63 : n + m ≤ maxLen) (hby : (n + m) * bytes ≤ 140737488355328)
    (hK : ∀ v' w', w'.ownsRow w.heap.size e 1 v' (n + m) (xs ++ news) → w.grownBy w' none → wpList P ops Q rest (a.put o.dst v') w') : wpList P ops Q (o :: rest) a w := by
  obtain ⟨v', w', hrun, p1, p2⟩ := run_app_grows (ty := o.type) hE ho hcap hsrc h1 hfull hnc h63 hby
  exact wpList_run hgd s x t hop hs hx hrun (hK v' w' p1 p2)
theorem wpListIn_app_grows {F : Fence} {nn : Nat} (hgd : o.guard = none) (s x : Operand) (t : TypeId) (hop : o.op = Op.call { callee := Callee.builtin Builtin.append, args := #[s, x], argTypes := #[t, t] }) {e : TypeId} {bytes : Nat} (hE : El P t e bytes) {n m c cap : Nat} {xs news : List Value} {A A' : Option Addr} (hs : a.eval s = .slice A' n cap) (ho : Holds w A' n xs) (hcap : A' = none → cap = 0) (hx : a.eval x = .slice A m c) (hsrc : Holds w A m news) (h1 : ∀ u ∈ news, u.oneCell' = true) (hfull : cap < n + m) (hnc : n ≤ cap) (h63 : n + m ≤ maxLen) (hby : (n + m) * bytes ≤ 140737488355328)
    (hK : ∀ v' w', w'.ownsRow w.heap.size e 1 v' (n + m) (xs ++ news) → w.grownBy w' none → wpListIn F nn P ops Q rest (a.put o.dst v') w') : wpListIn F nn P ops Q (o :: rest) a w := by
  obtain ⟨v', w', hrun, p1, p2⟩ := run_app_grows (ty := o.type) hE ho hcap hsrc h1 hfull hnc h63 hby
  exact wpListIn_run hgd s x t hop hs hx hrun (hK v' w' p1 p2)
theorem step_app_grows {K : Act → World → Prop} {E : Prop} (hgd : o.guard = none) (s x : Operand) (t : TypeId) (hop : o.op = Op.call { callee := Callee.builtin Builtin.append, args := #[s, x], argTypes := #[t, t] }) {e : TypeId} {bytes : Nat} (hE : El P t e bytes) {n m c cap : Nat} {xs news : List Value} {A A' : Option Addr} (hs : a.eval s = .slice A' n cap) (ho : Holds w A' n xs) (hcap : A' = none → cap = 0) (hx : a.eval x = .slice A m c) (hsrc : Holds w A m news) (h1 : ∀ u ∈ news, u.oneCell' = true) (hfull : cap < n + m) (hnc : n ≤ cap) (h63 : n + m ≤ maxLen) (hby : (n + m) * bytes ≤ 140737488355328)
    (hK : ∀ v' w', w'.ownsRow w.heap.size e 1 v' (n + m) (xs ++ news) → w.grownBy w' none → K (a.put o.dst v') w') : if Region.wanted o (yielded ops a.tmps) = true then Oper.wp P o a w K Q else E := by
  obtain ⟨v', w', hrun, p1, p2⟩ := run_app_grows (ty := o.type) hE ho hcap hsrc h1 hfull hnc h63 hby
  exact step_run hgd s x t hop hs hx hrun (hK v' w' p1 p2)

end
theorem own_drew {w : World} {B n sz : Nat} {e : TypeId} {v : Value} {xs : List Value} (h : w.ownsRow B e sz v n xs) : w.drew.ownsRow B e sz v n xs := h
theorem below_drew {B : Nat} {a w : World} (h : Below B a w) : Below B a w.drew := ⟨h.os, h.tape, h.output, h.size, h.block⟩
theorem Holds.drew {w : World} {A : Option Addr} {n : Nat} {xs : List Value} (h : Holds w A n xs) : Holds w.drew A n xs := h
theorem Holds.alloc {w : World} {A : Option Addr} {n : Nat} {xs : List Value} (h : Holds w A n xs) (o : Obj) : Holds (w.alloc o) A n xs := h.keep ((Below.refl _ w).alloc (Nat.le_refl _) _)
theorem Holds.one (w : World) (x : Value) (t : TypeId) : Holds (w.alloc (.cells #[x] t)) (some ⟨w.heap.size, 0, none⟩) 1 [x] := ⟨rfl, fun h => (by cases h), fun b hb => by cases hb; exact cell_one_new w x t⟩
theorem own_alloc {w : World} {B n sz : Nat} {e : TypeId} {v : Value} {xs : List Value} (h : w.ownsRow B e sz v n xs) {o : Obj} : (w.alloc o).ownsRow B e sz v n xs := own_none h (World.grownBy_alloc w o none)
theorem own_BS {w : World} {B n c : Nat} {e : TypeId} {A : Option Addr} {l : List UInt8} (h : w.ownsRow B e 1 (.slice A n c) n (l.map u8)) : BS w w.heap.size A l := by
  intro hn
  have h1 : n = l.length := by have := h.1; simp at this; omega
  rcases own_holds h (by omega) with ⟨g, cap, hv, _, hg, _, _, hc⟩
  cases hv
  refine ⟨g, 0, rfl, hg, fun i hi => ?_⟩
  have := hc i (u8 l[i]) (by simp [List.getElem?_eq_getElem hi])
  rw [Addr.add_lit] at this
  exact this
theorem wrap_u8_id {k : Nat} (h : k < 256) : IntKind.u8.wrap (k : Int) = (k : Int) := by rw [IntKind.wrap_u8]; omega
theorem map_snoc (l : List UInt8) (x : UInt8) : (l ++ [x]).map u8 = l.map u8 ++ [u8 x] := by simp
theorem own_none00 (w : World) (e : TypeId) : (w.alloc (.cells #[] e)).ownsRow w.heap.size e 1 (.slice (some ⟨w.heap.size, 0, none⟩) 0 0) 0 [] := World.ownsRow_made w #[] 0 (Nat.le_refl _) (by decide) rfl
theorem own_none1 (w : World) (o : Obj) (e : TypeId) : ((w.alloc o).alloc (.cells #[] e)).ownsRow w.heap.size e 1 (.slice (some ⟨w.heap.size + 1, 0, none⟩) 0 0) 0 [] := by
  have h := own_none00 (w.alloc o) e
  simp only [World.size_alloc] at h
  exact own_base h (by omega)
theorem Holds.grown {w w' : World} {g n : Nat} {xs : List Value} {row : Option Nat} (h : Holds w (some ⟨g, 0, none⟩) n xs) (hg : w.grownBy w' row) (hne : some g ≠ row) : Holds w' (some ⟨g, 0, none⟩) n xs :=
  ⟨h.1, h.2.1, fun b hA j u hu => by
    cases hA
    have := h.2.2 _ rfl j u hu
    rw [Addr.add_lit] at this ⊢
    exact hg.cell this hne⟩
theorem Holds.one1 (w : World) (o : Obj) (x : Value) (t : TypeId) : Holds ((w.alloc o).alloc (.cells #[x] t)) (some ⟨w.heap.size + 1, 0, none⟩) 1 [x] := by
  have h : Holds ((w.alloc o).alloc (.cells #[x] t)) (some ⟨(w.alloc o).heap.size, 0, none⟩) 1 [x] := ⟨rfl, fun h => (by cases h), fun b hb => by cases hb; exact cell_one_new _ x t⟩
  simp only [World.size_alloc] at h
  exact h
theorem own_none0 (w : World) (e : TypeId) : (w.alloc (.cells #[] e)).drew.ownsRow w.heap.size e 1 (.slice (some ⟨w.heap.size, 0, none⟩) 0 0) 0 [] := own_drew (World.ownsRow_made w #[] 0 (Nat.le_refl _) (by decide) rfl)
end Go.Proofs.Ytgbkoegmoelheaa.Ck

namespace Go.Proofs.Ytgbkoegmoelheaa.Ck
open Go.RowKit

theorem conv_sb {P : Program} (w : World) (src dst e : TypeId) (s : ByteArray) (hs : P.underlying src = some .string) (hd : P.underlying dst = some (.slice e)) (he : P.underlying e = some (.int .u8)) :
    ∃ cap W1, (convert src dst (.string s)).run P w = .ok (.slice (some ⟨w.heap.size, 0, none⟩) s.size cap) W1 ∧ BS W1 W1.heap.size (some ⟨w.heap.size, 0, none⟩) s.data.toList ∧ Below w.heap.size w W1 ∧ s.size ≤ cap ∧ w.heap.size < W1.heap.size := by
  refine ⟨_, _, Lib.run_convert_string_bytes w src dst e s hs hd he, ?_, ?_, grownCap_ge w _ _ _, by rw [Lib.bytesWorld_size]; omega⟩
  · intro h0
    refine ⟨_, _, rfl, by rw [Lib.bytesWorld_size]; omega, fun i hi => ?_⟩
    rw [Nat.zero_add, Lib.bytesWorld_cell w e s i (by simpa using hi)]
    simp only [List.getD, List.getElem?_eq_getElem hi, Option.getD_some]
  · exact ⟨rfl, rfl, rfl, by rw [Lib.bytesWorld_size]; omega, fun k hk => Lib.bytesWorld_at_old w e s k hk⟩

/-- 'string(b)'. -/
theorem conv_bs {P : Program} (w : World) (src dst e : TypeId) (hs : P.underlying src = some (.slice e)) (he : P.underlying e = some (.int .u8)) (hd : P.underlying dst = some .string)
    {A : Option Addr} {n c : Nat} {l : List UInt8} (hl : l.length = n) (h : Holds w A n (l.map u8)) : (convert src dst (.slice A n c)).run P w = .ok (.string ⟨l.toArray⟩) w := by
  cases A with
  | none =>
    obtain ⟨rfl, _⟩ := h.2.1 rfl
    obtain rfl : l = [] := List.eq_nil_of_length_eq_zero hl
    exact run_convert_bytes_nil w src e hs he _ _ dst hd
  | some a =>
    rw [run_convert_bytes_string w src dst e _ _ _ hs he hd]
    have hc := run_loadCells_list (P := P) w a (l.map u8) (fun j v hj => h.2.2 a rfl j v hj)
    rw [List.length_map, hl] at hc
    have e1 : (l.map u8) = (l.map fun x => (x.toNat : Int)).map (Value.int .u8) := by rw [List.map_map]; rfl
    rw [e1] at hc
    rw [run_bytesToString w a n c _ hc, foldl_push_bytes, List.map_map]
    have e2 : (l.map ((fun n => UInt8.ofNat n.toNat) ∘ fun x => (x.toNat : Int))) = l := by
      conv => rhs; rw [← List.map_id l]
      apply List.map_congr_left
      intro x _
      simp
    rw [e2]
    simp [ByteArray.empty, ByteArray.emptyWithCapacity]
    rfl

theorem str_append (l m : List UInt8) : (⟨(l ++ m).toArray⟩ : ByteArray) = ⟨l.toArray⟩ ++ ⟨m.toArray⟩ := by
  apply ByteArray.ext
  simp
end Go.Proofs.Ytgbkoegmoelheaa.Ck

namespace Go.Proofs.Ytgbkoegmoelheaa.Ck
open Go.RowKit

theorem byte_wf {x : Int} (h : (Lit.int .u8 x).wf = true) : 0 ≤ x ∧ x < 256 := by
  have := bounds_u8 h
  omega

theorem bs_of_row {w : World} {x : Addr} {len cap : Nat} {zs : List Int} (hl : len ≤ cap) (hm : cap ≤ maxLen) (hz : zs.length = cap) (hcell : ∀ i, i < zs.length → w.cell? (x.add i) = some (.int .u8 (zs.getD i 0))) (hwz : ∀ n ∈ zs, (Lit.int .u8 n).wf = true) :
    ∃ l : List UInt8, l.length = len ∧ len ≤ cap ∧ cap ≤ maxLen ∧ BS w w.heap.size (some x) l := by
  refine ⟨(zs.take len).map fun n => UInt8.ofNat n.toNat, by simp; omega, hl, hm, fun h0 => ?_⟩
  have h0' : 0 < zs.length := by simp at h0; omega
  obtain ⟨b, off, spot⟩ := x
  have hc := hcell 0 h0'
  have hspot : spot = none := by simpa [Addr.add] using World.cell?_spot hc
  subst hspot
  refine ⟨b, off, rfl, by have := World.block_lt_of_cell? _ _ hc; simpa [Addr.add] using this, fun i hi => ?_⟩
  have hi2 : i < zs.length := by simp at hi; omega
  have h1 := hcell i hi2
  rw [Addr.add_lit] at h1
  rw [h1]
  have hb := byte_wf (hwz zs[i] (List.getElem_mem hi2))
  simp only [List.getD, List.getElem?_eq_getElem hi2, Option.getD_some, List.getElem_map, List.getElem_take]
  congr 2
  have : zs[i].toNat < 256 := by omega
  simp [Nat.mod_eq_of_lt this]
  omega
end Go.Proofs.Ytgbkoegmoelheaa.Ck
