/- The examples of the chapter. -/
import Derived.Test.YtkihoekldklkhaaDoorTr
import Derived.Great.BuildSlice
namespace Go.Proofs.YtkihoekldklkhaaDoor
open Go.RowKit
set_option linter.unusedVariables false
set_option linter.unusedSimpArgs false

def exL : List UInt8 := [110, 58, 32, 117, 105, 110, 116, 32, 56, 32, 48, 46, 46, 48, 120, 49, 70, 59, 32, 35, 32, 120]
def exT : List Tk := [⟨1, [110], 0, 0⟩, ⟨4, [58], 0, 1⟩, ⟨1, [117, 105, 110, 116], 0, 3⟩, ⟨2, [56], 8, 8⟩, ⟨2, [48], 0, 10⟩, ⟨4, [46, 46], 0, 11⟩, ⟨2, [48, 120, 49, 70], 31, 13⟩, ⟨4, [59], 0, 17⟩]
theorem exS : scanL 0 exL = (exT, none) := (scanN_eq 40 0 exL (by decide)).trans (by kernel_rfl)
theorem exW0 (w : World) : Calls Tryd.prog 26 #[.string ⟨#[97, 10, 32, 49, 50, 98]⟩, .int .i64 2, .int .i64 4, .int .i64 6] w fun e w' => e = .returned (.bool true) ∧ Below w.heap.size w w' := wrong_any [97, 10, 32, 49, 50, 98] 5 2 4 6 w (by decide) (by rw [scanN_eq 20 0 _ (by decide)]; kernel_rfl) (by kernel_rfl) (by kernel_rfl) (by kernel_rfl)
theorem exW1 (w : World) : Calls Tryd.prog 26 #[.string ⟨#[48, 48, 55]⟩, .int .i64 1, .int .i64 2, .int .i64 6] w fun e w' => e = .returned (.bool true) ∧ Below w.heap.size w w' := wrong_any [48, 48, 55] 1 1 2 6 w (by decide) (by rw [scanN_eq 20 0 _ (by decide)]; kernel_rfl) (by kernel_rfl) (by kernel_rfl) (by kernel_rfl)
theorem exW2 (w : World) : Calls Tryd.prog 26 #[.string ⟨#[34, 97]⟩, .int .i64 1, .int .i64 3, .int .i64 4] w fun e w' => e = .returned (.bool true) ∧ Below w.heap.size w w' := wrong_any [34, 97] 2 1 3 4 w (by decide) (by rw [scanN_eq 20 0 _ (by decide)]; kernel_rfl) (by kernel_rfl) (by kernel_rfl) (by kernel_rfl)
theorem exW3 (w : World) : Calls Tryd.prog 26 #[.string ⟨#[48, 120]⟩, .int .i64 1, .int .i64 3, .int .i64 4] w fun e w' => e = .returned (.bool true) ∧ Below w.heap.size w w' := wrong_any [48, 120] 2 1 3 4 w (by decide) (by rw [scanN_eq 20 0 _ (by decide)]; kernel_rfl) (by kernel_rfl) (by kernel_rfl) (by kernel_rfl)
theorem exW4 (w : World) : Calls Tryd.prog 26 #[.string ⟨#[36]⟩, .int .i64 1, .int .i64 1, .int .i64 6] w fun e w' => e = .returned (.bool true) ∧ Below w.heap.size w w' := wrong_any [36] 0 1 1 6 w (by decide) (by rw [scanN_eq 20 0 _ (by decide)]; kernel_rfl) (by kernel_rfl) (by kernel_rfl) (by kernel_rfl)
def exJ : List Td := [⟨4, [45, 62], 0, 0, 0⟩, ⟨3, [97, 32, 98], 0, 0, 0⟩, ⟨2, [48, 120, 49, 70], 31, 0, 0⟩]
theorem exJo : exJ.all oneT = true := by
  have h1 : oneT ⟨4, [45, 62], 0, 0, 0⟩ = true := by unfold oneT; rw [scanN_eq 20 0 _ (by decide)]; kernel_rfl
  have h2 : oneT ⟨3, [97, 32, 98], 0, 0, 0⟩ = true := by unfold oneT; rw [scanN_eq 20 0 _ (by decide)]; kernel_rfl
  have h3 : oneT ⟨2, [48, 120, 49, 70], 31, 0, 0⟩ = true := by unfold oneT; rw [scanN_eq 20 0 _ (by decide)]; kernel_rfl
  unfold exJ
  simp [h1, h2, h3]
theorem exJj : joinT exJ = [45, 62, 32, 34, 97, 32, 98, 34, 32, 48, 120, 49, 70] := by kernel_rfl
def wantC (i j : Nat) (x : Tk) : List Value := [.int .i64 (x.k : Int), .string ⟨x.t.toArray⟩, .int .i64 x.v, .int .i64 (if j < i then ((lcOf exL x.a).1 : Int) else 0), .int .i64 (if j < i then ((lcOf exL x.a).2 : Int) else 0)]
def wantL (i : Nat) : List Value := exT.zipIdx.flatMap fun p => wantC i p.2 p.1
theorem want0 : (wantL 0).toArray = #[.int .i64 1, .string ⟨#[110]⟩, .int .i64 0, .int .i64 0, .int .i64 0, .int .i64 4, .string ⟨#[58]⟩, .int .i64 0, .int .i64 0, .int .i64 0, .int .i64 1, .string ⟨#[117, 105, 110, 116]⟩, .int .i64 0, .int .i64 0, .int .i64 0, .int .i64 2, .string ⟨#[56]⟩, .int .i64 8, .int .i64 0, .int .i64 0, .int .i64 2, .string ⟨#[48]⟩, .int .i64 0, .int .i64 0, .int .i64 0, .int .i64 4, .string ⟨#[46, 46]⟩, .int .i64 0, .int .i64 0, .int .i64 0, .int .i64 2, .string ⟨#[48, 120, 49, 70]⟩, .int .i64 31, .int .i64 0, .int .i64 0, .int .i64 4, .string ⟨#[59]⟩, .int .i64 0, .int .i64 0, .int .i64 0] := by kernel_rfl
def exK (i : Nat) : Int × ByteArray × Int × Int × Int := match exT[i]? with
  | some x => ((x.k : Int), ⟨x.t.toArray⟩, x.v, ((lcOf exL x.a).1 : Int), ((lcOf exL x.a).2 : Int))
  | none => (0, ⟨#[]⟩, 0, 0, 0)
theorem i8 {q : Nat → Prop} (h0 : q 0) (h1 : q 1) (h2 : q 2) (h3 : q 3) (h4 : q 4) (h5 : q 5) (h6 : q 6) (h7 : q 7) {i : Nat} (hi : i < 8) : q i := by
  rcases (by omega : i = 0 ∨ i = 1 ∨ i = 2 ∨ i = 3 ∨ i = 4 ∨ i = 5 ∨ i = 6 ∨ i = 7) with rfl | rfl | rfl | rfl | rfl | rfl | rfl | rfl <;> assumption
theorem wget0 {i : Nat} (hi : i < 8) : (wantL i)[i * 5]? = some (.int .i64 (exK i).1) := i8 (q := fun i => (wantL i)[i * 5]? = some (.int .i64 (exK i).1)) (by kernel_rfl) (by kernel_rfl) (by kernel_rfl) (by kernel_rfl) (by kernel_rfl) (by kernel_rfl) (by kernel_rfl) (by kernel_rfl) hi
theorem wget1 {i : Nat} (hi : i < 8) : (wantL i)[i * 5 + 1]? = some (.string (exK i).2.1) := i8 (q := fun i => (wantL i)[i * 5 + 1]? = some (.string (exK i).2.1)) (by kernel_rfl) (by kernel_rfl) (by kernel_rfl) (by kernel_rfl) (by kernel_rfl) (by kernel_rfl) (by kernel_rfl) (by kernel_rfl) hi
theorem wget2 {i : Nat} (hi : i < 8) : (wantL i)[i * 5 + 2]? = some (.int .i64 (exK i).2.2.1) := i8 (q := fun i => (wantL i)[i * 5 + 2]? = some (.int .i64 (exK i).2.2.1)) (by kernel_rfl) (by kernel_rfl) (by kernel_rfl) (by kernel_rfl) (by kernel_rfl) (by kernel_rfl) (by kernel_rfl) (by kernel_rfl) hi
theorem wget3 {i : Nat} (hi : i < 8) : (wantL i)[i * 5 + 3]? = some (.int .i64 0) := i8 (q := fun i => (wantL i)[i * 5 + 3]? = some (.int .i64 0)) (by kernel_rfl) (by kernel_rfl) (by kernel_rfl) (by kernel_rfl) (by kernel_rfl) (by kernel_rfl) (by kernel_rfl) (by kernel_rfl) hi
theorem wget4 {i : Nat} (hi : i < 8) : (wantL i)[i * 5 + 4]? = some (.int .i64 0) := i8 (q := fun i => (wantL i)[i * 5 + 4]? = some (.int .i64 0)) (by kernel_rfl) (by kernel_rfl) (by kernel_rfl) (by kernel_rfl) (by kernel_rfl) (by kernel_rfl) (by kernel_rfl) (by kernel_rfl) hi
def wset (i : Nat) : List Value := ((wantL i).set (i * 5 + 3) (.int .i64 (exK i).2.2.2.1)).set (i * 5 + 4) (.int .i64 (exK i).2.2.2.2)
theorem wset_eq {i : Nat} (hi : i < 8) : wset i = wantL (i + 1) := i8 (q := fun i => wset i = wantL (i + 1)) (by kernel_rfl) (by kernel_rfl) (by kernel_rfl) (by kernel_rfl) (by kernel_rfl) (by kernel_rfl) (by kernel_rfl) (by kernel_rfl) hi
def exC : List Value := exT.flatMap (TkC exL)
def exG (i j : Nat) : Value := match j with
  | 0 => .int .i64 (exK i).1
  | 1 => .string (exK i).2.1
  | 2 => .int .i64 (exK i).2.2.1
  | 3 => .int .i64 (exK i).2.2.2.1
  | _ => .int .i64 (exK i).2.2.2.2
theorem eget0 {i : Nat} (hi : i < 8) : exC[i * 5 + 0]? = some (exG i 0) := i8 (q := fun i => exC[i * 5 + 0]? = some (exG i 0)) (by kernel_rfl) (by kernel_rfl) (by kernel_rfl) (by kernel_rfl) (by kernel_rfl) (by kernel_rfl) (by kernel_rfl) (by kernel_rfl) hi
theorem eget1 {i : Nat} (hi : i < 8) : exC[i * 5 + 1]? = some (exG i 1) := i8 (q := fun i => exC[i * 5 + 1]? = some (exG i 1)) (by kernel_rfl) (by kernel_rfl) (by kernel_rfl) (by kernel_rfl) (by kernel_rfl) (by kernel_rfl) (by kernel_rfl) (by kernel_rfl) hi
theorem eget2 {i : Nat} (hi : i < 8) : exC[i * 5 + 2]? = some (exG i 2) := i8 (q := fun i => exC[i * 5 + 2]? = some (exG i 2)) (by kernel_rfl) (by kernel_rfl) (by kernel_rfl) (by kernel_rfl) (by kernel_rfl) (by kernel_rfl) (by kernel_rfl) (by kernel_rfl) hi
theorem eget3 {i : Nat} (hi : i < 8) : exC[i * 5 + 3]? = some (exG i 3) := i8 (q := fun i => exC[i * 5 + 3]? = some (exG i 3)) (by kernel_rfl) (by kernel_rfl) (by kernel_rfl) (by kernel_rfl) (by kernel_rfl) (by kernel_rfl) (by kernel_rfl) (by kernel_rfl) hi
theorem eget4 {i : Nat} (hi : i < 8) : exC[i * 5 + 4]? = some (exG i 4) := i8 (q := fun i => exC[i * 5 + 4]? = some (exG i 4)) (by kernel_rfl) (by kernel_rfl) (by kernel_rfl) (by kernel_rfl) (by kernel_rfl) (by kernel_rfl) (by kernel_rfl) (by kernel_rfl) hi
set_option maxRecDepth 100000 in
set_option maxHeartbeats 1000000 in
theorem known_any (w : World) : Calls Tryd.prog 8 #[] w fun e w' => e = .returned (.bool true) ∧ Below w.heap.size w w' := by
  have C20 : Hid (Calls Tryd.prog 20 #[.string ⟨#[110, 58, 32, 117, 105, 110, 116, 32, 56, 32, 48, 46, 46, 48, 120, 49, 70, 59, 32, 35, 32, 120]⟩] w fun e w' => Below w.heap.size w w' ∧ ∃ A c, e = .returned (.tuple #[.slice A 8 c, .agg #[.int .i64 0, .int .i64 0], .int .i64 0]) ∧ w'.ownsRow w.heap.size 32 5 (.slice A 8 c) 8 exC) := Lib.hid (by
    have := scanT_any exL w (by decide)
    unfold ScanE at this
    rw [exS] at this
    exact this)
  have C22 : Hid (∀ W : World, Calls Tryd.prog 22 #[.slice (some ⟨W.heap.size, 0, none⟩) 3 3] (W.alloc (.cells #[.int .i64 4, .string ⟨#[45, 62]⟩, .int .i64 0, .int .i64 0, .int .i64 0, .int .i64 3, .string ⟨#[97, 32, 98]⟩, .int .i64 0, .int .i64 0, .int .i64 0, .int .i64 2, .string ⟨#[48, 120, 49, 70]⟩, .int .i64 31, .int .i64 0, .int .i64 0] 32)) fun e w' => Below (W.alloc (.cells #[.int .i64 4, .string ⟨#[45, 62]⟩, .int .i64 0, .int .i64 0, .int .i64 0, .int .i64 3, .string ⟨#[97, 32, 98]⟩, .int .i64 0, .int .i64 0, .int .i64 0, .int .i64 2, .string ⟨#[48, 120, 49, 70]⟩, .int .i64 31, .int .i64 0, .int .i64 0] 32)).heap.size (W.alloc (.cells #[.int .i64 4, .string ⟨#[45, 62]⟩, .int .i64 0, .int .i64 0, .int .i64 0, .int .i64 3, .string ⟨#[97, 32, 98]⟩, .int .i64 0, .int .i64 0, .int .i64 0, .int .i64 2, .string ⟨#[48, 120, 49, 70]⟩, .int .i64 31, .int .i64 0, .int .i64 0] 32)) w' ∧ e = .returned (.tuple #[.string ⟨#[45, 62, 32, 34, 97, 32, 98, 34, 32, 48, 120, 49, 70]⟩, .int .i64 0])) := Lib.hid (fun W => by
    have := join_any (some ⟨W.heap.size, 0, none⟩) 3 3 exJ (W.alloc (.cells #[.int .i64 4, .string ⟨#[45, 62]⟩, .int .i64 0, .int .i64 0, .int .i64 0, .int .i64 3, .string ⟨#[97, 32, 98]⟩, .int .i64 0, .int .i64 0, .int .i64 0, .int .i64 2, .string ⟨#[48, 120, 49, 70]⟩, .int .i64 31, .int .i64 0, .int .i64 0] 32)) (HoldsS.new W 5 3 [.int .i64 4, .string ⟨#[45, 62]⟩, .int .i64 0, .int .i64 0, .int .i64 0, .int .i64 3, .string ⟨#[97, 32, 98]⟩, .int .i64 0, .int .i64 0, .int .i64 0, .int .i64 2, .string ⟨#[48, 120, 49, 70]⟩, .int .i64 31, .int .i64 0, .int .i64 0] 32 rfl) rfl (by decide) (by decide)
    refine this.mono fun e w' hh => ⟨hh.1, ?_⟩
    rw [hh.2, if_pos exJo, exJj])
  go_enter Tryd.func8, Tryd.ntmps8
  go_upto_region 2 with (go_at_call 20; (with_reducible refine C20.out.mono ?_); rintro e w1 ⟨hb1, A, c, rfl, hown⟩; have HB1 := Lib.hid hb1; have HWN := Lib.hid hown; clear hb1 hown)
  obtain ⟨W2, hW2⟩ : ∃ W2, w1.alloc (.cells #[.int .i64 0, .int .i64 0] 26) = W2 := ⟨_, rfl⟩
  have hb2 : Below w1.heap.size w1 W2 := hW2 ▸ (Below.refl _ w1).alloc (Nat.le_refl _) _
  have p2 : Blk W2 w1.heap.size 26 #[.int .i64 0, .int .i64 0] := hW2 ▸ Blk.new w1 26 _
  have e0 := p2.cell 0
  have e1 := p2.cell 1
  simp only [List.getElem?_toArray, List.getElem?_cons_zero, List.getElem?_cons_succ] at e0 e1
  have HP2 := Lib.hid p2
  obtain ⟨g1, hg1⟩ : ∃ g1, w1.heap.size = g1 := ⟨_, rfl⟩
  rw [hg1] at e0 e1
  rw [hW2, hg1]
  have hown2 : W2.ownsRow w.heap.size 32 5 (.slice A 8 c) 8 exC := own_keeps HWN.out fun k hk => hb2.block k (own_lt HWN.out k hk)
  have hbw : Below w.heap.size w W2 := HB1.out.trans (hb2.mono HB1.out.size)
  obtain ⟨A2', c2', e2', -, -, -, hp2⟩ := own_formS hown2
  injection e2' with e21 e22 e23
  subst e21 e23
  obtain ⟨g, rfl, -, hg2⟩ := hp2 (by omega)
  have hgc := (HoldsS.own hown2).2.2 _ rfl
  have HGC : Hid (∀ j u, exC[j]? = some u → W2.cell? ⟨g, j, none⟩ = some u) := Lib.hid (fun j u hj => by have h9 := hgc j u hj; rwa [Addr.add_lit, Nat.zero_add] at h9)
  have HBW := Lib.hid hbw
  have HG2 := Lib.hid hg2
  clear hW2 hb2 p2 hg1 hown2 hbw hp2 hgc hg2
  go_upto_region 3 with fail
  obtain ⟨W3, hW3⟩ : ∃ W3, W2.alloc (.cells #[.int .i64 1, .string ⟨#[110]⟩, .int .i64 0, .int .i64 0, .int .i64 0, .int .i64 4, .string ⟨#[58]⟩, .int .i64 0, .int .i64 0, .int .i64 0, .int .i64 1, .string ⟨#[117, 105, 110, 116]⟩, .int .i64 0, .int .i64 0, .int .i64 0, .int .i64 2, .string ⟨#[56]⟩, .int .i64 8, .int .i64 0, .int .i64 0, .int .i64 2, .string ⟨#[48]⟩, .int .i64 0, .int .i64 0, .int .i64 0, .int .i64 4, .string ⟨#[46, 46]⟩, .int .i64 0, .int .i64 0, .int .i64 0, .int .i64 2, .string ⟨#[48, 120, 49, 70]⟩, .int .i64 31, .int .i64 0, .int .i64 0, .int .i64 4, .string ⟨#[59]⟩, .int .i64 0, .int .i64 0, .int .i64 0] 32) = W3 := ⟨_, rfl⟩
  have hb3 : Below W2.heap.size W2 W3 := hW3 ▸ (Below.refl _ W2).alloc (Nat.le_refl _) _
  have hw3 : Blk W3 W2.heap.size 32 (wantL 0).toArray := by rw [want0]; exact hW3 ▸ Blk.new W2 32 _
  obtain ⟨wb, hwb⟩ : ∃ wb, W2.heap.size = wb := ⟨_, rfl⟩
  rw [hwb] at hw3
  rw [hW3, hwb]
  have z0 : W3.cell? ⟨g1, 0, none⟩ = some (.int .i64 0) := (hb3.cell (World.block_lt_of_cell? _ _ e0)).trans e0
  have z1 : W3.cell? ⟨g1, 1, none⟩ = some (.int .i64 0) := (hb3.cell (World.block_lt_of_cell? _ _ e1)).trans e1
  have HW3 := Lib.hid hw3
  have HB3 := Lib.hid (HBW.out.trans (hb3.mono HBW.out.size))
  have HGC3 : Hid (∀ j u, exC[j]? = some u → W3.cell? ⟨g, j, none⟩ = some u) := Lib.hid (fun j u hj => (hb3.cell (p := ⟨g, j, none⟩) HG2.out).trans (HGC.out j u hj))
  have HNE : Hid (g < W3.heap.size ∧ g < wb) := Lib.hid ⟨Nat.lt_of_lt_of_le HG2.out hb3.size, hwb ▸ HG2.out⟩
  have HWB : Hid (w.heap.size ≤ wb) := Lib.hid (hwb ▸ HBW.out.size)
  clear hW3 hb3 hw3 hwb e0 e1
  go_wp2_with fail
  go_loopw [5] (fun iv wr => ∃ i : Nat, (i : Int) ≤ 8 ∧ iv = .int .i64 i ∧ Hid (Blk wr wb 32 (wantL i).toArray) ∧ Hid (Only (fun k => k = wb) W3 wr)) (fun iv _ => 8 - (intOf iv).toNat)
  case atStart => exact ⟨0, by omega, rfl, HW3.out, Lib.hid (Only.refl _ _)⟩
  case round =>
    obtain ⟨i, hi, rfl, HWI, HON⟩ := hrel
    by_cases hlt : (i : Int) < 8
    · have hi8 : i < 8 := by omega
      have keyg : ∀ {j : Nat} {u : Value}, exC[j]? = some u → wr.cell? ⟨g, j, none⟩ = some u := fun {j u} hj => by
        have h9 := HGC3.out j u hj
        unfold World.cell? at h9 ⊢
        rw [HON.out.block g HNE.out.1 (by have := HNE.out.2; omega)]
        exact h9
      have g0 := keyg (eget0 hi8)
      have g1' := keyg (eget1 hi8)
      have g2' := keyg (eget2 hi8)
      have g3 := keyg (eget3 hi8)
      have g4 := keyg (eget4 hi8)
      have h0 := HWI.out.cell (i * 5)
      have h1 := HWI.out.cell (i * 5 + 1)
      have h2 := HWI.out.cell (i * 5 + 2)
      have h3 := HWI.out.cell (i * 5 + 3)
      have h4 := HWI.out.cell (i * 5 + 4)
      simp only [List.getElem?_toArray] at h0 h1 h2 h3 h4
      rw [wget0 hi8] at h0
      rw [wget1 hi8] at h1
      rw [wget2 hi8] at h2
      rw [wget3 hi8] at h3
      rw [wget4 hi8] at h4
      have k3 := HWI.out.frozen (i * 5 + 3)
      have k4 := HWI.out.frozen (i * 5 + 4)
      simp only [exG, Nat.add_zero] at g0 g1' g2' g3 g4
      have HST : Hid (Blk ((wr.setCell ⟨wb, i * 5 + 3, none⟩ (.int .i64 (exK i).2.2.2.1)).setCell ⟨wb, i * 5 + 4, none⟩ (.int .i64 (exK i).2.2.2.2)) wb 32 (wantL (i + 1)).toArray) := Lib.hid (by
        have := (HWI.out.set_ (i * 5 + 3) (.int .i64 (exK i).2.2.2.1)).set_ (i * 5 + 4) (.int .i64 (exK i).2.2.2.2)
        rw [← wset_eq hi8]
        simpa [wset] using this)
      have HO2 : Hid (Only (fun k => k = wb) W3 ((wr.setCell ⟨wb, i * 5 + 3, none⟩ (.int .i64 (exK i).2.2.2.1)).setCell ⟨wb, i * 5 + 4, none⟩ (.int .i64 (exK i).2.2.2.2))) := Lib.hid ((HON.out.set (fun _ => rfl) _ _).set (fun _ => rfl) _ _)
      have HNXT : Hid (∀ j, j < 5 → True) := Lib.hid (fun _ _ => trivial)
      generalize exK i = K at *
      obtain ⟨kk, ks, kv, kl, kc⟩ := K
      simp only at g0 g1' g2' g3 g4 h0 h1 h2 h3 h4 HST HO2
      clear keyg hi8
      go_upto_region 9 with fail
      obtain ⟨W5, hW5⟩ : ∃ W5, (wr.setCell ⟨wb, i * 5 + 3, none⟩ (.int .i64 kl)).setCell ⟨wb, i * 5 + 4, none⟩ (.int .i64 kc) = W5 := ⟨_, rfl⟩
      have far : ∀ j, W5.cell? ⟨g, j, none⟩ = wr.cell? ⟨g, j, none⟩ := fun j => by
        rw [← hW5]
        have hne : g ≠ wb := by have := HNE.out.2; omega
        unfold World.cell?
        rw [Below.heap_setCell _ _ _ _ (by simpa using hne), Below.heap_setCell _ _ _ _ (by simpa using hne)]
      have near : ∀ j v, j ≠ i * 5 + 3 → j ≠ i * 5 + 4 → wr.cell? ⟨wb, j, none⟩ = some v → W5.cell? ⟨wb, j, none⟩ = some v := fun j v a b hh => by
        have := ((HWI.out.set_ (i * 5 + 3) (.int .i64 kl)).set_ (i * 5 + 4) (.int .i64 kc)).cell j
        rw [hW5] at this
        rw [this]
        have h5 := HWI.out.cell j
        rw [hh] at h5
        rw [Array.getElem?_setIfInBounds_ne (by omega), Array.getElem?_setIfInBounds_ne (by omega)]
        exact h5.symm
      have n0 := near _ _ (by omega) (by omega) h0
      have n1 := near _ _ (by omega) (by omega) h1
      have n2 := near _ _ (by omega) (by omega) h2
      have n3 : W5.cell? ⟨wb, i * 5 + 3, none⟩ = some (.int .i64 kl) := by
        have := ((HWI.out.set_ (i * 5 + 3) (.int .i64 kl)).set_ (i * 5 + 4) (.int .i64 kc)).cell (i * 5 + 3)
        rw [hW5] at this
        rw [this, Array.getElem?_setIfInBounds_ne (by omega), Array.getElem?_setIfInBounds_self_of_lt (by
          have h5 := HWI.out.cell (i * 5 + 3)
          rw [h3] at h5
          exact (Array.getElem?_eq_some_iff.1 h5.symm).1)]
      have n4 : W5.cell? ⟨wb, i * 5 + 4, none⟩ = some (.int .i64 kc) := by
        have := ((HWI.out.set_ (i * 5 + 3) (.int .i64 kl)).set_ (i * 5 + 4) (.int .i64 kc)).cell (i * 5 + 4)
        rw [hW5] at this
        rw [this, Array.getElem?_setIfInBounds_self_of_lt (by
          rw [Array.size_setIfInBounds]
          have h5 := HWI.out.cell (i * 5 + 4)
          rw [h4] at h5
          exact (Array.getElem?_eq_some_iff.1 h5.symm).1)]
      have m0 := (far _).trans g0
      have m1 := (far _).trans g1'
      have m2 := (far _).trans g2'
      have m3 := (far _).trans g3
      have m4 := (far _).trans g4
      rw [hW5] at HST HO2 ⊢
      clear far near hW5 g0 g1' g2' g3 g4 h0 h1 h2 h3 h4 k3 k4
      go_quiet (fail)
      go_wp2_with fail
      go_roundw
      case rel => exact ⟨i + 1, by omega, by go_num, Lib.hid (HST.out.drewN nq), Lib.hid (only_drewN HO2.out nq)⟩
      case measure => simp [intOf]; omega
    · have HBr : Hid (Below w.heap.size w wr) := Lib.hid (HB3.out.trans (HON.out.to_below HB3.out.size fun b hb e => by have := HWB.out; omega))
      go_upto_region 12 with (go_at_call 22; (with_reducible refine (C22.out wr).mono ?_); rintro e w4 ⟨hb4, rfl⟩; have HB4 := Lib.hid ((HBr.out.alloc HBr.out.size _).trans (hb4.mono (by have := HBr.out.size; simp; omega))); clear hb4)
      have K0 := Lib.hid exW0
      have K1 := Lib.hid exW1
      have K2 := Lib.hid exW2
      have K3 := Lib.hid exW3
      have K4 := Lib.hid exW4
      go_wp2_with (go_at_call 26; (with_reducible refine (K0.out _).mono ?_); rintro e x0 ⟨rfl, hbx0⟩; have Hx0 := Lib.hid ((HB4).out.trans (hbx0.mono (HB4).out.size)); clear hbx0; refine Hid.out ?_)
      refine Lib.hid ?_
      go_wp2_with (go_at_call 26; (with_reducible refine (K1.out _).mono ?_); rintro e x1 ⟨rfl, hbx1⟩; have Hx1 := Lib.hid ((Hx0).out.trans (hbx1.mono (Hx0).out.size)); clear hbx1; refine Hid.out ?_)
      refine Lib.hid ?_
      go_wp2_with (go_at_call 26; (with_reducible refine (K2.out _).mono ?_); rintro e x2 ⟨rfl, hbx2⟩; have Hx2 := Lib.hid ((Hx1).out.trans (hbx2.mono (Hx1).out.size)); clear hbx2; refine Hid.out ?_)
      refine Lib.hid ?_
      go_wp2_with (go_at_call 26; (with_reducible refine (K3.out _).mono ?_); rintro e x3 ⟨rfl, hbx3⟩; have Hx3 := Lib.hid ((Hx2).out.trans (hbx3.mono (Hx2).out.size)); clear hbx3; refine Hid.out ?_)
      refine Lib.hid ?_
      go_wp2_with (go_at_call 26; (with_reducible refine (K4.out _).mono ?_); rintro e x4 ⟨rfl, hbx4⟩; have Hx4 := Lib.hid ((Hx3).out.trans (hbx4.mono (Hx3).out.size)); clear hbx4)
      have HB9 := Hx4
      go_ret
      exact ⟨by first | rfl | simp, HB9.out⟩

end Go.Proofs.YtkihoekldklkhaaDoor
