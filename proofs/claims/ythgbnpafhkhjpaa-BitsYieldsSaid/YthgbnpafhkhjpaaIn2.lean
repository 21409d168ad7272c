/- BitsInverts: the reader's calls that give back what was written. -/
import Derived.Test.YthgbnpafhkhjpaaInv
import Derived.Test.YthgbnpafhkhjpaaKn
import Derived.Test.YthgbnpafhkhjpaaSz
namespace Go.Proofs.Ythgbnpafhkhjpaa
open Go.RowKit
set_option linter.unusedVariables false
set_option linter.unusedSimpArgs false

section
variable {B g : Nat} {v : Value} {P C : List Bool} {X : ActV} {W : World}
theorem back_get (h4 : X.k % 4 = 0) (hE : wE P X = 0) (hr : RS W B g v (pack (P ++ wB P X ++ C)) P.length) :
    Calls Try.prog 16 #[.pointer (some ⟨g, 0, none⟩), .int .i64 X.n] W fun e w' => e = .returned (.tuple #[.int .i64 X.v, .int .i64 0]) ∧ RS w' B g v (pack (P ++ wB P X ++ C)) (P.length + (wB P X).length) ∧ Two g (.slice none 0 0) W w' := by
  have he : wE P X = putE P X.v X.n := by unfold wE; rw [if_pos h4]
  have hb : wB P X = numBits X.v.toNat X.n.toNat := by unfold wB; rw [if_pos h4]
  have hn := putE_nn (he.symm.trans hE)
  obtain ⟨n, hn'⟩ := Int.eq_ofNat_of_zero_le (show 0 ≤ X.n by omega)
  obtain ⟨V, hV'⟩ := Int.eq_ofNat_of_zero_le hn.1
  rw [hn', hV', Int.toNat_natCast, Int.toNat_natCast] at hb
  rw [hn', hV', Int.toNat_natCast] at hn
  rw [hn', hV']
  have hVn : V < 2 ^ n := by
    have := hn.2.2.2.1
    have hP : (2 : Int) ^ n = ((2 ^ n : Nat) : Int) := by simp
    rw [hP] at this
    omega
  rw [hb] at hr ⊢
  obtain ⟨a1, a2, a3⟩ := inv_get P C V n (by omega) (by omega) hVn
  refine (get_some B g v _ P.length n W hr).mono ?_
  rintro e w' ⟨rfl, k1, k2⟩
  rw [a2] at k1
  exact ⟨by rw [a2, a1, a3], by rw [numBits_length]; exact k1, k2⟩
theorem back_little (h4 : X.k % 4 = 1) (hE : wE P X = 0) (hr : RS W B g v (pack (P ++ wB P X ++ C)) P.length) :
    Calls Try.prog 20 #[.pointer (some ⟨g, 0, none⟩), .int .i64 X.n] W fun e w' => e = .returned (.tuple #[.int .i64 X.v, .int .i64 0]) ∧ RS w' B g v (pack (P ++ wB P X ++ C)) (P.length + (wB P X).length) ∧ Two g (.slice none 0 0) W w' := by
  have he : wE P X = littleE P X.v X.n := by unfold wE; rw [if_neg (by omega), if_pos h4]
  have hb : wB P X = littleBits X.v.toNat X.n.toNat := by unfold wB; rw [if_neg (by omega), if_pos h4]
  have hn := littleE_nn (he.symm.trans hE)
  obtain ⟨n, hn'⟩ := Int.eq_ofNat_of_zero_le (show 0 ≤ X.n by omega)
  obtain ⟨V, hV'⟩ := Int.eq_ofNat_of_zero_le hn.1
  rw [hn', hV', Int.toNat_natCast, Int.toNat_natCast] at hb
  rw [hn', hV', Int.toNat_natCast] at hn
  rw [hn', hV']
  have hVn : V < 2 ^ (8 * n) := by
    have := hn.2.2.2.1
    have hP : (2 : Int) ^ (8 * n) = ((2 ^ (8 * n) : Nat) : Int) := by simp
    rw [hP] at this
    omega
  rw [hb] at hr ⊢
  obtain ⟨a1, a2, a3⟩ := inv_little P C V n (by omega) (by omega) hVn hn.2.2.2.2.1
  refine (rlittle_some B g v _ P.length n W hr).mono ?_
  rintro e w' ⟨rfl, k1, k2⟩
  rw [a2] at k1
  exact ⟨by rw [a2, a1, a3], by rw [show (littleBits V n).length = 8 * n by simp [littleBits]]; exact k1, k2⟩
theorem back_take (h4 : X.k % 4 = 2) (hl : X.l.length = X.m) (hE : wE P X = 0) (hr : RS W B g v (pack (P ++ wB P X ++ C)) P.length) :
    Calls Try.prog 21 #[.pointer (some ⟨g, 0, none⟩), .int .i64 X.m] W fun e w' => ∃ A c, e = .returned (.tuple #[.slice A X.m c, .int .i64 0]) ∧ Holds w' A X.m (X.l.map u8) ∧ RS w' B g v (pack (P ++ wB P X ++ C)) (P.length + (wB P X).length) ∧ Two g (.slice none 0 0) W w' := by
  have he : wE P X = bytesE P X.m := by unfold wE; rw [if_neg (by omega), if_neg (by omega), if_pos h4]
  have hb : wB P X = ubits X.l := by unfold wB; rw [if_neg (by omega), if_neg (by omega), if_pos h4]
  have hn := bytesE_nn (he.symm.trans hE)
  rw [hb] at hr ⊢
  obtain ⟨a1, a2, a3⟩ := inv_take P C X.l (by omega) hn.1
  rw [hl] at a1 a2 a3
  refine (rtake_some B g v _ P.length X.m W hr).mono ?_
  rintro e w' ⟨v', rfl, ho, k1, k2⟩
  rw [a2] at k1
  rw [a2, a3, show (8 * X.m + 7) / 8 = X.m by omega] at ho
  obtain ⟨A, c, rfl, -⟩ := own_form ho
  exact ⟨A, c, by rw [a1], holds_own ho, by rw [ubits_length, hl]; exact k1, k2⟩
theorem back_pad (h4 : X.k % 4 = 3) (hE : wE P X = 0) (hr : RS W B g v (pack (P ++ wB P X ++ C)) P.length) :
    Calls Try.prog 22 #[.pointer (some ⟨g, 0, none⟩), .int .i64 X.n] W fun e w' => e = .returned (.int .i64 0) ∧ RS w' B g v (pack (P ++ wB P X ++ C)) (P.length + (wB P X).length) ∧ Two g (.slice none 0 0) W w' := by
  have he : wE P X = alignE P X.n := by unfold wE; rw [if_neg (by omega), if_neg (by omega), if_neg (by omega)]
  have hb : wB P X = List.replicate (alignN P.length X.n) false := by unfold wB; rw [if_neg (by omega), if_neg (by omega), if_neg (by omega)]
  have hn := alignE_nn (he.symm.trans hE)
  rw [hb] at hr ⊢
  obtain ⟨a1, a2⟩ := inv_pad P C X.n hn.1
  refine (pad_some B g v _ P.length X.n W hr).mono ?_
  rintro e w' ⟨rfl, k1, k2⟩
  rw [a2] at k1
  exact ⟨by rw [a1], by rw [List.length_replicate]; exact k1, k2⟩
end
/-- A reader's state passes over new blocks. -/
theorem RS.over {w w' : World} {B g p : Nat} {v : Value} {l : List UInt8} (h : RS w B g v l p) (hb : Below w.heap.size w w') : RS w' B g v l p := h.below hb (Nat.le_refl _)
/-- What lies apart from a reader stays. -/
theorem Blk.two {w w' : World} {g k : Nat} {t : TypeId} {cs : Array Value} (h : Blk w k t cs) (hb : Two g (.slice none 0 0) w w') (hne : k ≠ g) : Blk w' k t cs := (hb.block k h.lt hne (by simp [Value.ownBlock])).trans h
theorem own_two {w w' : World} {B n sz g : Nat} {e : TypeId} {v : Value} {xs : List Value} (h : w.ownsRow B e sz v n xs) (hb : Two g (.slice none 0 0) w w') (hne : v.ownBlock ≠ some g) : w'.ownsRow B e sz v n xs :=
  own_keeps h fun k hk => hb.block k (own_lt h k hk) (fun e => hne (e ▸ hk)) (by simp [Value.ownBlock])
theorem Two.below_of {w0 w w' : World} {g : Nat} (hb : Below w0.heap.size w0 w) (h : Two g (.slice none 0 0) w w') (hg : w0.heap.size ≤ g) : Below w0.heap.size w0 w' := h.to_below hb hb.size hg (fun k hk => by simp [Value.ownBlock] at hk)

/-- The cells of calls. -/
def flatA : List ActV → List Value
  | [] => []
  | x :: D => .int .u8 x.k :: .int .i64 x.v :: .int .i64 x.n :: .slice x.A x.m x.c :: flatA D
theorem flatA_append : ∀ D E : List ActV, flatA (D ++ E) = flatA D ++ flatA E
  | [], E => rfl
  | x :: D, E => by simp [flatA, flatA_append D E]
theorem flatA_get : ∀ (D : List ActV) (i : Nat) (h : i < D.length), (flatA D)[i * 4]? = some (.int .u8 D[i].k) ∧ (flatA D)[i * 4 + 1]? = some (.int .i64 D[i].v) ∧ (flatA D)[i * 4 + 2]? = some (.int .i64 D[i].n) ∧ (flatA D)[i * 4 + 3]? = some (.slice D[i].A D[i].m D[i].c)
  | x :: D, 0, h => ⟨rfl, rfl, rfl, rfl⟩
  | x :: D, i + 1, h => by
    have := flatA_get D i (by simpa using h)
    simp only [flatA, List.getElem_cons_succ]
    rw [show (i + 1) * 4 = i * 4 + 4 by omega]
    exact this
theorem act_one (X : ActV) : ∀ u ∈ flatA [X], u.oneCell' = true := by
  intro u hu
  simp [flatA] at hu
  rcases hu with rfl | rfl | rfl | rfl <;> rfl
theorem actC_own {w : World} {B n : Nat} {v : Value} {D : List ActV} (h : w.ownsRow B 41 4 v n (flatA D)) (hn : D.length = n) (i : Nat) (hi : i < D.length) : ∃ g, (∃ c, v = .slice (some ⟨g, 0, none⟩) n c) ∧ ActC w g (0 + i * 4) D[i] := by
  obtain ⟨A, cap, rfl, -, -, -, hp⟩ := own_formS h
  obtain ⟨g, rfl, -, -⟩ := hp (by omega)
  obtain ⟨h1, h2, h3, h4⟩ := flatA_get D i hi
  have hc := fun j u hu => h.cells (g := g) rfl j u hu
  refine ⟨g, ⟨cap, rfl⟩, ?_, ?_, ?_, ?_⟩
  · have := hc _ _ h1; rw [Addr.add_lit] at this; exact this
  · have := hc _ _ h2; rw [Addr.add_lit] at this; exact this
  · have := hc _ _ h3; rw [Addr.add_lit] at this; exact this
  · have := hc _ _ h4; rw [Addr.add_lit] at this; exact this
theorem els37 : ElS Try.prog 37 41 4 48 := ElS.mk' (z := .agg #[.int .u8 0, .int .i64 0, .int .i64 0, .slice none 0 0]) Try.underlying37 (by kernel_rfl) rfl (by omega)
end Go.Proofs.Ythgbnpafhkhjpaa
