/- The law's calls: their cells; one call of a writer, any outcome. -/
import Derived.Test.YthgbnpafhkhjpaaLw
import Derived.Test.YthgbnpafhkhjpaaPw
namespace Go.Proofs.Ythgbnpafhkhjpaa
open Go.RowKit
set_option linter.unusedVariables false
set_option linter.unusedSimpArgs false

/-- A call of the law's list, opened. -/
structure ActV where
  k : Int
  v : Int
  n : Int
  A : Option Addr
  m : Nat
  c : Nat
  l : List UInt8

def ActC (w : World) (b o : Nat) (x : ActV) : Prop := w.cell? ⟨b, o, none⟩ = some (.int .u8 x.k) ∧ w.cell? ⟨b, o + 1, none⟩ = some (.int .i64 x.v) ∧ w.cell? ⟨b, o + 2, none⟩ = some (.int .i64 x.n) ∧ w.cell? ⟨b, o + 3, none⟩ = some (.slice x.A x.m x.c)
theorem ActC.keepc {w w' : World} {b o : Nat} {x : ActV} {B : Nat} (h : ActC w b o x) (hb : Below B w w') (hB : b < B) : ActC w' b o x := by
  obtain ⟨h1, h2, h3, h4⟩ := h
  exact ⟨(hb.cell (p := ⟨b, _, none⟩) hB).trans h1, (hb.cell (p := ⟨b, _, none⟩) hB).trans h2, (hb.cell (p := ⟨b, _, none⟩) hB).trans h3, (hb.cell (p := ⟨b, _, none⟩) hB).trans h4⟩
/-- What is known of a call's parts. -/
structure ActG (w : World) (x : ActV) : Prop where
  k0 : 0 ≤ x.k
  k1 : x.k < 256
  v : (Lit.int .i64 x.v).wf = true
  n : (Lit.int .i64 x.n).wf = true
  l : x.l.length = x.m
  h : Holds w x.A x.m (x.l.map u8)
  a : ∀ b, x.A = some b → 0 < x.m → b.block < w.heap.size
  c : x.A = none → x.c = 0
theorem ActG.below {w w' : World} {x : ActV} (h : ActG w x) (hb : Below w.heap.size w w') : ActG w' x :=
  ⟨h.k0, h.k1, h.v, h.n, h.l, h.h.keep hb, fun b e h0 => Nat.lt_of_lt_of_le (h.a b e h0) hb.size, h.c⟩
def ActS (w : World) (A : Option Addr) (len : Nat) (f : Nat → ActV) : Prop := len ≤ maxLen ∧ ∀ i, i < len → ∃ b o, A = some ⟨b, o, none⟩ ∧ b < w.heap.size ∧ ActC w b (o + i * 4) (f i) ∧ ActG w (f i)

/-- The error of a call of a writer. -/
def wE (bs : List Bool) (X : ActV) : Int := if X.k % 4 = 0 then putE bs X.v X.n else if X.k % 4 = 1 then littleE bs X.v X.n else if X.k % 4 = 2 then bytesE bs X.m else alignE bs X.n
/-- The bits that it writes. -/
def wB (bs : List Bool) (X : ActV) : List Bool := if X.k % 4 = 0 then numBits X.v.toNat X.n.toNat else if X.k % 4 = 1 then littleBits X.v.toNat X.n.toNat else if X.k % 4 = 2 then ubits X.l else List.replicate (alignN bs.length X.n) false
/-- The bits behind it. -/
def wN (bs : List Bool) (X : ActV) : List Bool := if wE bs X = 0 then bs ++ wB bs X else bs

theorem putE_nn {bs : List Bool} {v n : Int} (h : putE bs v n = 0) : 0 ≤ v ∧ 1 ≤ n ∧ n ≤ 32 ∧ v < 2 ^ n.toNat ∧ (bs.length : Int) + n ≤ 8388608 := by
  have h1 : putOk v n = true := by
    cases h' : putOk v n
    · simp [putE, firstE, h'] at h
    · rfl
  have h2 : decide ((n : Int) ≤ 8388608 - (bs.length : Int)) = true := by
    cases h' : decide ((n : Int) ≤ 8388608 - (bs.length : Int))
    · rw [putE, h1, h'] at h; simp [firstE] at h
    · rfl
  simp [putOk] at h1
  simp at h2
  have : (v : Int) ≤ 2 ^ n.toNat - 1 := h1.2.2
  exact ⟨h1.2.1, h1.1.1, h1.1.2, by omega, by omega⟩
theorem littleE_nn {bs : List Bool} {v k : Int} (h : littleE bs v k = 0) : 0 ≤ v ∧ 1 ≤ k ∧ k ≤ 4 ∧ v < 2 ^ (8 * k.toNat) ∧ bs.length % 8 = 0 ∧ (bs.length : Int) + 8 * k ≤ 8388608 := by
  have h1 : littleOk v k = true := by
    cases h' : littleOk v k
    · simp [littleE, firstE, h'] at h
    · rfl
  have h3 : ((bs.length : Int).tmod 8 == 0) = true := by
    cases h' : ((bs.length : Int).tmod 8 == 0)
    · rw [littleE, h1, h'] at h; simp [firstE] at h
    · rfl
  have h2 : decide (8 * k ≤ 8388608 - (bs.length : Int)) = true := by
    cases h' : decide (8 * k ≤ 8388608 - (bs.length : Int))
    · rw [littleE, h1, h3, h'] at h; simp [firstE] at h
    · rfl
  simp [littleOk] at h1
  simp at h2 h3
  have : (v : Int) ≤ 2 ^ (8 * k.toNat) - 1 := h1.2.2
  refine ⟨h1.2.1, h1.1.1, h1.1.2, by omega, ?_, by omega⟩
  rw [Int.tmod_eq_emod_of_nonneg (by omega)] at h3
  omega
theorem bytesE_nn {bs : List Bool} {n : Nat} (h : bytesE bs n = 0) : bs.length % 8 = 0 ∧ bs.length + 8 * n ≤ 8388608 := by
  have h3 : ((bs.length : Int).tmod 8 == 0) = true := by
    cases h' : ((bs.length : Int).tmod 8 == 0)
    · rw [bytesE, h'] at h; simp [firstE] at h
    · rfl
  have h2 : decide (((8 * n : Nat) : Int) ≤ 8388608 - (bs.length : Int)) = true := by
    cases h' : decide (((8 * n : Nat) : Int) ≤ 8388608 - (bs.length : Int))
    · rw [bytesE, h3, h'] at h; simp [firstE] at h
    · rfl
  simp at h2 h3
  rw [Int.tmod_eq_emod_of_nonneg (by omega)] at h3
  omega
theorem alignE_nn {bs : List Bool} {n : Int} (h : alignE bs n = 0) : alignOk n = true ∧ bs.length + alignN bs.length n ≤ 8388608 := by
  have h1 : alignOk n = true := by
    cases h' : alignOk n
    · rw [alignE, h'] at h; simp [firstE] at h
    · rfl
  have h2 : decide ((alignN bs.length n : Int) ≤ 8388608 - (bs.length : Int)) = true := by
    cases h' : decide ((alignN bs.length n : Int) ≤ 8388608 - (bs.length : Int))
    · rw [alignE, h1, h'] at h; simp [firstE] at h
    · rfl
  simp at h2
  exact ⟨h1, by omega⟩
theorem wB_length {bs : List Bool} {X : ActV} (h : wE bs X = 0) (hl : X.l.length = X.m) : (wB bs X).length = if X.k % 4 = 0 then X.n.toNat else if X.k % 4 = 1 then 8 * X.n.toNat else if X.k % 4 = 2 then 8 * X.m else alignN bs.length X.n := by
  unfold wB
  split
  · rw [numBits_length]
  · split
    · simp [littleBits]
    · split
      · rw [ubits_length, hl]
      · simp
theorem wN_le {bs : List Bool} {X : ActV} (h0 : 0 ≤ X.k) (hl : X.l.length = X.m) (hm : X.m ≤ 50) : (wN bs X).length ≤ bs.length + 4096 := by
  unfold wN
  split
  · rename_i h
    rw [List.length_append, wB_length h hl]
    unfold wE at h
    split
    · rename_i h4
      rw [if_pos h4] at h
      have := putE_nn h
      omega
    · rename_i h4
      rw [if_neg h4] at h
      split
      · rename_i h5
        rw [if_pos h5] at h
        have := littleE_nn h
        omega
      · split
        · omega
        · have := alignN_le bs.length X.n
          omega
  · omega

/-- A writer of the call's own. -/
structure OW (w0 w : World) (g : Nat) (va : Value) (bs : List Bool) : Prop where
  a : WS w w0.heap.size g 63 [.bool true] va bs
  la : w0.heap.size ≤ g
  below : Below w0.heap.size w0 w
theorem OW.over {w0 w w' : World} {g : Nat} {va : Value} {bs : List Bool} (h : OW w0 w g va bs) (hb : Below w.heap.size w w') : OW w0 w' g va bs :=
  ⟨h.a.below hb (Nat.le_refl _), h.la, h.below.trans (hb.mono h.below.size)⟩
theorem OW.next {w0 w w' : World} {g : Nat} {va va' : Value} {bs bs' : List Bool} (h : OW w0 w g va bs) (hs : WS w' w0.heap.size g 63 [.bool true] va' bs') (ht : Two g va w w') : OW w0 w' g va' bs' :=
  ⟨hs, h.la, ht.to_below h.below h.below.size h.la h.a.vb⟩

/-- One call of a writer. -/
theorem lwrite_ws (w0 : World) (g : Nat) (va : Value) (bs : List Bool) (X : ActV) (w : World) (hw : WS w w0.heap.size g 63 [.bool true] va bs) (hm : bs.length ≤ 4000000) (hX : ActG w X) (hk : X.m ≤ 1000000) (hA : ∀ b, X.A = some b → 0 < X.m → b.block ≠ g ∧ va.ownBlock ≠ some b.block) :
    Calls Try.prog 19 #[.pointer (some ⟨g, 0, none⟩), .agg #[.int .u8 X.k, .int .i64 X.v, .int .i64 X.n, .slice X.A X.m X.c]] w fun e w' => ∃ x, e = .returned (.int .i64 x) ∧ (x = wE bs X ∧ ∃ va', WS w' w0.heap.size g 63 [.bool true] va' (wN bs X) ∧ Two g va w w' ∧ Hat va va' w) := by
  have bad : ∀ (W w' : World) (x : Int), Below w.heap.size w W → x = wE bs X → wE bs X ≠ 0 → Below W.heap.size W w' → (x = wE bs X ∧ ∃ va', WS w' w0.heap.size g 63 [.bool true] va' (wN bs X) ∧ Two g va w w' ∧ Hat va va' w) := fun W w' x hb hx hne h =>
    ⟨hx, va, by unfold wN; rw [if_neg hne]; exact hw.below (hb.trans (h.mono hb.size)) (Nat.le_refl _), (Two.refl g va w).below (hb.trans (h.mono hb.size)), Hat.refl _ _⟩
  have good : ∀ (W w' : World) (x : Int) (ys : List Bool), Below w.heap.size w W → x = 0 → wE bs X = 0 → ys = wB bs X → (∃ v', WS w' w0.heap.size g 63 [.bool true] v' (bs ++ ys) ∧ Two g va W w' ∧ Hat va v' W) → (x = wE bs X ∧ ∃ va', WS w' w0.heap.size g 63 [.bool true] va' (wN bs X) ∧ Two g va w w' ∧ Hat va va' w) := fun W w' x ys hb hx h0 hy h => by
    obtain ⟨v', k1, k2, k3⟩ := h
    refine ⟨by rw [hx, h0], v', by unfold wN; rw [if_pos h0, ← hy]; exact k1, Two.of_below hb k2, ?_⟩
    rcases k3 with k3 | k3
    · exact .inl k3
    · exact .inr fun k hk => Nat.le_trans hb.size (k3 k hk)
  refine lwrite_of _ _ _ _ _ _ _ _ w hX.k0 hX.k1 (fun W hb => ?_) (fun W hb => ?_) (fun W hb => ?_) (fun W hb => ?_)
  · by_cases h4 : X.k % 4 = 0
    · have he : wE bs X = putE bs X.v X.n := by unfold wE; rw [if_pos h4]
      by_cases hE : putE bs X.v X.n = 0
      · have hn := putE_nn hE
        have h := put_some _ g va bs X.v.toNat X.n.toNat W (hw.below hb (Nat.le_refl _)) (by rw [Int.toNat_of_nonneg hn.1, Int.toNat_of_nonneg (by omega)]; exact hE)
        rw [Int.toNat_of_nonneg hn.1, Int.toNat_of_nonneg (by omega)] at h
        refine h.mono ?_
        rintro e w' ⟨x, rfl, hx, h⟩
        exact ⟨x, rfl, fun _ => good W w' x _ hb hx (by rw [he]; exact hE) (by unfold wB; rw [if_pos h4]) h⟩
      · refine (put_err _ g va bs X.v X.n W (hw.below hb (Nat.le_refl _)) (by omega) hE).mono ?_
        rintro e w' ⟨x, rfl, hx, h⟩
        exact ⟨x, rfl, fun _ => bad W w' x hb (by rw [he]; exact hx) (by rw [he]; exact hE) h⟩
    · by_cases hE : putE bs X.v X.n = 0
      · have hn := putE_nn hE
        have h := put_some _ g va bs X.v.toNat X.n.toNat W (hw.below hb (Nat.le_refl _)) (by rw [Int.toNat_of_nonneg hn.1, Int.toNat_of_nonneg (by omega)]; exact hE)
        rw [Int.toNat_of_nonneg hn.1, Int.toNat_of_nonneg (by omega)] at h
        exact h.mono fun e w' ⟨x, he, _⟩ => ⟨x, he, fun h => absurd h h4⟩
      · exact (put_err _ g va bs X.v X.n W (hw.below hb (Nat.le_refl _)) (by omega) hE).mono fun e w' ⟨x, he, _⟩ => ⟨x, he, fun h => absurd h h4⟩
  · by_cases h4 : X.k % 4 = 1
    · have he : wE bs X = littleE bs X.v X.n := by unfold wE; rw [if_neg (by omega), if_pos h4]
      by_cases hE : littleE bs X.v X.n = 0
      · have hn := littleE_nn hE
        have h := little_some _ g va bs X.v.toNat X.n.toNat W (hw.below hb (Nat.le_refl _)) (by rw [Int.toNat_of_nonneg hn.1, Int.toNat_of_nonneg (by omega)]; exact hE)
        rw [Int.toNat_of_nonneg hn.1, Int.toNat_of_nonneg (by omega)] at h
        refine h.mono ?_
        rintro e w' ⟨x, rfl, hx, h⟩
        exact ⟨x, rfl, fun _ => good W w' x _ hb hx (by rw [he]; exact hE) (by unfold wB; rw [if_neg (by omega), if_pos h4]) h⟩
      · refine (little_err _ g va bs X.v X.n W (hw.below hb (Nat.le_refl _)) (by omega) hE).mono ?_
        rintro e w' ⟨x, rfl, hx, h⟩
        exact ⟨x, rfl, fun _ => bad W w' x hb (by rw [he]; exact hx) (by rw [he]; exact hE) h⟩
    · by_cases hE : littleE bs X.v X.n = 0
      · have hn := littleE_nn hE
        have h := little_some _ g va bs X.v.toNat X.n.toNat W (hw.below hb (Nat.le_refl _)) (by rw [Int.toNat_of_nonneg hn.1, Int.toNat_of_nonneg (by omega)]; exact hE)
        rw [Int.toNat_of_nonneg hn.1, Int.toNat_of_nonneg (by omega)] at h
        exact h.mono fun e w' ⟨x, he, _⟩ => ⟨x, he, fun h => absurd h h4⟩
      · exact (little_err _ g va bs X.v X.n W (hw.below hb (Nat.le_refl _)) (by omega) hE).mono fun e w' ⟨x, he, _⟩ => ⟨x, he, fun h => absurd h h4⟩
  · have hA' : ∀ b, X.A = some b → 0 < X.m → b.block < W.heap.size ∧ b.block ≠ g ∧ va.ownBlock ≠ some b.block := fun b hb' h0 => ⟨Nat.lt_of_lt_of_le (hX.a b hb' h0) hb.size, hA b hb' h0⟩
    by_cases h4 : X.k % 4 = 2
    · have he : wE bs X = bytesE bs X.m := by unfold wE; rw [if_neg (by omega), if_neg (by omega), if_pos h4]
      by_cases hE : bytesE bs X.m = 0
      · refine (bytes_some _ g va bs X.A X.m X.c X.l W hk (hw.below hb (Nat.le_refl _)) (hX.h.keep hb) hA' hE).mono ?_
        rintro e w' ⟨x, rfl, hx, h⟩
        exact ⟨x, rfl, fun _ => good W w' x _ hb hx (by rw [he]; exact hE) (by unfold wB; rw [if_neg (by omega), if_neg (by omega), if_pos h4]) h⟩
      · refine (bytes_err _ g va bs X.A X.m X.c W hk (hw.below hb (Nat.le_refl _)) (by omega) hE).mono ?_
        rintro e w' ⟨x, rfl, hx, h⟩
        exact ⟨x, rfl, fun _ => bad W w' x hb (by rw [he]; exact hx) (by rw [he]; exact hE) h⟩
    · by_cases hE : bytesE bs X.m = 0
      · exact (bytes_some _ g va bs X.A X.m X.c X.l W hk (hw.below hb (Nat.le_refl _)) (hX.h.keep hb) hA' hE).mono fun e w' ⟨x, he, _⟩ => ⟨x, he, fun h => absurd h h4⟩
      · exact (bytes_err _ g va bs X.A X.m X.c W hk (hw.below hb (Nat.le_refl _)) (by omega) hE).mono fun e w' ⟨x, he, _⟩ => ⟨x, he, fun h => absurd h h4⟩
  · by_cases h4 : X.k % 4 = 3
    · have he : wE bs X = alignE bs X.n := by unfold wE; rw [if_neg (by omega), if_neg (by omega), if_neg (by omega)]
      by_cases hE : alignE bs X.n = 0
      · refine (align_some _ g va bs X.n W (hw.below hb (Nat.le_refl _)) (by omega) hE).mono ?_
        rintro e w' ⟨x, rfl, hx, h⟩
        exact ⟨x, rfl, fun _ => good W w' x _ hb hx (by rw [he]; exact hE) (by unfold wB; rw [if_neg (by omega), if_neg (by omega), if_neg (by omega)]) h⟩
      · refine (align_err _ g va bs X.n W (hw.below hb (Nat.le_refl _)) (by omega) hE).mono ?_
        rintro e w' ⟨x, rfl, hx, h⟩
        exact ⟨x, rfl, fun _ => bad W w' x hb (by rw [he]; exact hx) (by rw [he]; exact hE) h⟩
    · by_cases hE : alignE bs X.n = 0
      · exact (align_some _ g va bs X.n W (hw.below hb (Nat.le_refl _)) (by omega) hE).mono fun e w' ⟨x, he, _⟩ => ⟨x, he, fun h => absurd h h4⟩
      · exact (align_err _ g va bs X.n W (hw.below hb (Nat.le_refl _)) (by omega) hE).mono fun e w' ⟨x, he, _⟩ => ⟨x, he, fun h => absurd h h4⟩
end Go.Proofs.Ythgbnpafhkhjpaa
