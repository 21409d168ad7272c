/- Two sources side by side. -/
import Derived.Test.YthkpmbgclllnjaaKn
namespace Go.Proofs.Ythkpmbgclllnjaa
open Go.RowKit
set_option linter.unusedVariables false
set_option linter.unusedSimpArgs false

theorem SF.ge {bt bb : Nat} {v : Value} {s k : Nat} (hk : SF bt bb v k) (h1 : s ≤ bt) (h2 : s ≤ bb) (h3 : ∀ j, v.ownBlock = some j → s ≤ j) : s ≤ k := by
  rcases hk with rfl | rfl | hk
  · exact h1
  · exact h2
  · exact h3 k hk
/-- A source's blocks. -/
structure Src where
  bs : Nat
  bt : Nat
  bb : Nat
  v : Value
  l : List UInt8
  tk : Nat
def Src.at (s : Src) (v : Value) (l : List UInt8) (tk : Nat) : Src := ⟨s.bs, s.bt, s.bb, v, l, tk⟩
def Src.sf (s : Src) (k : Nat) : Prop := SF s.bt s.bb s.v k
/-- Two open sources that share no memory, both younger than w. -/
structure Two (w W : World) (lim : Nat) (s t : Src) : Prop where
  a : YS w W s.bs s.bt s.bb s.v lim s.l s.tk false
  b : YS w W t.bs t.bt t.bb t.v lim t.l t.tk false
  ab : ∀ k, k = s.bs ∨ s.sf k → ¬ t.sf k
  ba : ∀ k, k = t.bs ∨ t.sf k → ¬ s.sf k
section
variable {w W W' : World} {lim : Nat} {s t : Src}
theorem Two.over (h : Two w W lim s t) (hb : Below W.heap.size W W') : Two w W' lim s t := ⟨h.a.over hb, h.b.over hb, h.ab, h.ba⟩
theorem Two.swap (h : Two w W lim s t) : Two w W lim t s := ⟨h.b, h.a, h.ba, h.ab⟩
theorem Two.step (h : Two w W lim s t) {v' : Value} {l' : List UInt8} {tk' : Nat} (hs : SS W' w.heap.size s.bs s.bt s.bb v' lim l' tk' false) (ho : Only (SF s.bt s.bb s.v) W W') (hh : Hat s.v v' W) : Two w W' lim (s.at v' l' tk') t := by
  have hsf : ∀ k, SF s.bt s.bb v' k → SF s.bt s.bb s.v k ∨ W.heap.size ≤ k := fun k hk => by
    rcases hk with e | e | e
    · exact .inl (.inl e)
    · exact .inl (.inr (.inl e))
    · rcases hh with h1 | h1
      · exact .inl (.inr (.inr (h1 ▸ e)))
      · exact .inr (h1 k e)
  have hb := h.a.next hs ho
  refine ⟨hb, ⟨h.b.ss.only ho fun k hk hs => h.ba k hk hs, h.b.bt, h.b.bb, hb.below⟩, fun k hk ht => ?_, fun k hk ht => ?_⟩
  · have hlt := h.b.ss.lt k (.inr ht)
    rcases hk with hk | hk
    · exact h.ab k (.inl hk) ht
    · rcases hsf k hk with h1 | h1
      · exact h.ab k (.inr h1) ht
      · omega
  · have hlt := h.b.ss.lt k hk
    rcases hsf k ht with h1 | h1
    · exact h.ba k hk h1
    · omega
end
/-- What a call of Take, or of Until, returns of both. -/
theorem take_row {l : List UInt8} {k : Nat} (hk : k < l.length) : l.take k ++ [l[k]] = l.take (k + 1) := by simp
theorem atB_at {l : List UInt8} {x : UInt8} {n : Int} {k : Nat} (h : atB l x n = k) : ∃ hk : k < l.length, l[k] = x := by
  have hx := atB_le l x n
  have hk : k < l.length := by omega
  refine ⟨hk, ?_⟩
  by_cases hc : l[k] = x
  · exact hc
  · exfalso
    have key : ∀ (m : List UInt8) (j : Nat), Lib.indexByte m x = (j : Int) → m[j]? = some x := by
      intro m
      induction m with
      | nil => intro j hj; simp [Lib.indexByte] at hj
      | cons b m ih =>
        intro j hj
        unfold Lib.indexByte at hj
        split at hj
        · rename_i hb
          obtain rfl : j = 0 := by omega
          simpa using hb
        · split at hj
          · rename_i hi
            omega
          · rename_i hb hi
            have h7 := Lib.indexByte_ge m x
            have h8 : Lib.indexByte m x ≠ -1 := by simpa using hi
            obtain ⟨i, rfl⟩ : ∃ i, j = i + 1 := ⟨j - 1, by omega⟩
            simpa using ih i (by omega)
    have h1 := key _ _ h
    rw [List.getElem?_take] at h1
    split at h1
    · rw [List.getElem?_eq_getElem hk] at h1
      exact hc (Option.some.inj h1)
    · cases h1
section
variable {w W : World} {lim : Nat} {s t : Src}
/-- What a call took of one of the two. -/
structure Tk2 (w W w' : World) (lim : Nat) (s t : Src) (A : Option Addr) (c k n : Nat) (v' : Value) : Prop where
  two : Two w w' lim (s.at v' (s.l.drop n) (s.tk + n)) t
  rb : RB w' A k c (s.l.take k)
  sep : ∀ a, A = some a → 0 < k → ¬ t.sf a.block
  only : Only s.sf W w'
theorem Two.took (h : Two w W lim s t) {w' : World} {A : Option Addr} {c k n : Nat} (hk : Took W w' w.heap.size s.bs s.bt s.bb s.v lim s.l s.tk false A c k n) : ∃ v', Tk2 w W w' lim s t A c k n v' := by
  obtain ⟨ho, v', hs, hf, hh, hj⟩ := hk
  refine ⟨v', h.step hs hf hh, own_RB3 ho, fun a hA h0 ht => ?_, hf⟩
  obtain ⟨g, cap, e, hg, -⟩ := own_holds ho h0
  injection e with e1 e2 e3
  rw [e1] at hA
  cases hA
  have := h.b.ss.lt _ (.inr ht)
  simp at this
  omega
theorem Two.take_ok (h : Two w W lim s t) (ht : s.tk + s.l.length ≤ 4000000000) (k : Nat) (hk : k ≤ s.l.length) :
    Calls Try.prog 11 #[.pointer (some ⟨s.bs, 0, none⟩), .int .i64 k] W fun e w' => ∃ A c v', e = .returned (.tuple #[.slice A k c, .int .i64 0]) ∧ Tk2 w W w' lim s t A c k k v' :=
  (_root_.Go.Proofs.Ythkpmbgclllnjaa.take_ok h.a.ss ht k hk).mono fun e w' ⟨A, c, he, hk⟩ => by
    obtain ⟨v', h9⟩ := h.took hk
    exact ⟨A, c, v', he, h9⟩
theorem Two.until_ok (h : Two w W lim s t) (ht : s.tk + s.l.length ≤ 4000000000) (x : UInt8) (n k : Nat) (hn : n < lim) (hk : atB s.l x n = k) (hkl : k < s.l.length) :
    Calls Try.prog 12 #[.pointer (some ⟨s.bs, 0, none⟩), .int .u8 (x.toNat : Int), .int .i64 n] W fun e w' => ∃ A c v', e = .returned (.tuple #[.slice A k c, .int .i64 0]) ∧ Tk2 w W w' lim s t A c k (k + 1) v' :=
  (_root_.Go.Proofs.Ythkpmbgclllnjaa.until_ok h.a.ss ht x n k hn hk hkl).mono fun e w' ⟨A, c, he, hk⟩ => by
    obtain ⟨v', h9⟩ := h.took hk
    exact ⟨A, c, v', he, h9⟩
theorem Tk2.over {w' w2 : World} {A : Option Addr} {c k n : Nat} {v' : Value} (h : Tk2 w W w' lim s t A c k n v') (ho : Only t.sf w' w2) : RB w2 A k c (s.l.take k) := h.rb.only ho fun a hA h0 => h.sep a hA h0
end
end Go.Proofs.Ythkpmbgclllnjaa
