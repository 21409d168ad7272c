/- Next, Word, Number, Take, Place of a reader. -/
import Derived.Test.YtkihoekldklkhaaDoorRf
namespace Go.Proofs.YtkihoekldklkhaaDoor
open Go.RowKit
set_option linter.unusedVariables false
set_option linter.unusedSimpArgs false

set_option maxRecDepth 100000 in
set_option maxHeartbeats 1000000 in
theorem word_end {g : Nat} {A : Option Addr} {n c : Nat} {xe ye : Int} {xs : List Value} (w : World) (h : RdS w g A n c xe ye xs) (hn : n = 0) : Calls Tryd.prog 11 #[.pointer (some ⟨g, 0, none⟩)] w fun e w' => e = .returned (.tuple #[.string ⟨#[]⟩, .int .i64 9]) ∧ Below w.heap.size w w' := by
  have C28 := Lib.hid (pass_end (.func (.func 30) #[] #[]) w h hn)
  clear h
  go_enter Tryd.func11, Tryd.ntmps11
  go_wp2_with (go_at_call 28; (with_reducible refine C28.out.mono ?_); rintro e w2 ⟨rfl, hb2⟩; have HB2 := Lib.hid hb2; clear hb2)
  go_ret2
  exact ⟨rfl, HB2.out.alloc HB2.out.size _⟩
set_option maxRecDepth 100000 in
set_option maxHeartbeats 1000000 in
theorem number_end {g : Nat} {A : Option Addr} {n c : Nat} {xe ye : Int} {xs : List Value} (w : World) (h : RdS w g A n c xe ye xs) (hn : n = 0) : Calls Tryd.prog 12 #[.pointer (some ⟨g, 0, none⟩)] w fun e w' => e = .returned (.tuple #[.int .i64 0, .int .i64 9]) ∧ Below w.heap.size w w' := by
  have C28 := Lib.hid (pass_end (.func (.func 31) #[] #[]) w h hn)
  clear h
  go_enter Tryd.func12, Tryd.ntmps12
  go_wp2_with (go_at_call 28; (with_reducible refine C28.out.mono ?_); rintro e w2 ⟨rfl, hb2⟩; have HB2 := Lib.hid hb2; clear hb2)
  go_ret2
  exact ⟨rfl, HB2.out.alloc HB2.out.size _⟩
set_option maxRecDepth 100000 in
set_option maxHeartbeats 1000000 in
theorem word_no {g : Nat} {A : Option Addr} {n c : Nat} {xe ye : Int} {xs : List Value} (w : World) (h : RdS w g A n c xe ye xs) (hn : 1 ≤ n) {k v ln cl : Int} {s : ByteArray} (hx : xs.take 5 = [.int .i64 k, .string s, .int .i64 v, .int .i64 ln, .int .i64 cl]) (hk : (k == 1) = false) : Calls Tryd.prog 11 #[.pointer (some ⟨g, 0, none⟩)] w fun e w' => e = .returned (.tuple #[.string ⟨#[]⟩, .int .i64 6]) ∧ Below w.heap.size w w' := by
  have C28 := Lib.hid (pass_no30 w h hn hx (fun W hb => (cb30 k v ln cl s W).mono fun e w2 hh => by rw [hk] at hh; exact hh))
  clear h
  go_enter Tryd.func11, Tryd.ntmps11
  go_wp2_with (go_at_call 28; (with_reducible refine C28.out.mono ?_); rintro e w2 ⟨rfl, hb2⟩; have HB2 := Lib.hid hb2; clear hb2)
  go_ret2
  exact ⟨rfl, HB2.out.alloc HB2.out.size _⟩
set_option maxRecDepth 100000 in
set_option maxHeartbeats 1000000 in
theorem number_no {g : Nat} {A : Option Addr} {n c : Nat} {xe ye : Int} {xs : List Value} (w : World) (h : RdS w g A n c xe ye xs) (hn : 1 ≤ n) {k v ln cl : Int} {s : ByteArray} (hx : xs.take 5 = [.int .i64 k, .string s, .int .i64 v, .int .i64 ln, .int .i64 cl]) (hk : (k == 2) = false) : Calls Tryd.prog 12 #[.pointer (some ⟨g, 0, none⟩)] w fun e w' => e = .returned (.tuple #[.int .i64 0, .int .i64 6]) ∧ Below w.heap.size w w' := by
  have C28 := Lib.hid (pass_no31 w h hn hx (fun W hb => (cb31 k v ln cl s W).mono fun e w2 hh => by rw [hk] at hh; exact hh))
  clear h
  go_enter Tryd.func12, Tryd.ntmps12
  go_wp2_with (go_at_call 28; (with_reducible refine C28.out.mono ?_); rintro e w2 ⟨rfl, hb2⟩; have HB2 := Lib.hid hb2; clear hb2)
  go_ret2
  exact ⟨rfl, HB2.out.alloc HB2.out.size _⟩
set_option maxRecDepth 100000 in
set_option maxHeartbeats 1000000 in
theorem word_yes {g : Nat} {A : Option Addr} {n c : Nat} {xe ye : Int} {xs : List Value} (w : World) (h : RdS w g A n c xe ye xs) (hn : 1 ≤ n) {k v ln cl : Int} {s : ByteArray} (hx : xs.take 5 = [.int .i64 k, .string s, .int .i64 v, .int .i64 ln, .int .i64 cl]) (hk : (k == 1) = true) : Calls Tryd.prog 11 #[.pointer (some ⟨g, 0, none⟩)] w fun e w' => ∃ A', e = .returned (.tuple #[.string s, .int .i64 0]) ∧ Only (fun q => q = g) w w' ∧ RdS w' g A' (n - 1) (c - 1) xe ye (xs.drop 5) ∧ ∀ b, A' = some b → ∃ a, A = some a ∧ b.block = a.block := by
  have C28 := Lib.hid (pass_yes30 w h hn hx (fun W hb => (cb30 k v ln cl s W).mono fun e w2 hh => by rw [hk] at hh; exact hh))
  clear h hx
  go_enter Tryd.func11, Tryd.ntmps11
  go_wp2_with (go_at_call 28; (with_reducible refine C28.out.mono ?_); rintro e w2 ⟨A', rfl, ho, hr, hbk⟩; have HBK := Lib.hid hbk; have HO := Lib.hid ho; have HR := Lib.hid hr; clear ho hr hbk)
  go_ret2
  have hb := (Below.refl w2.heap.size w2).alloc (Nat.le_refl _) (.cells #[.int .i64 k, .string s, .int .i64 v, .int .i64 ln, .int .i64 cl] 32)
  exact ⟨A', rfl, HO.out.below hb, HR.out.below hb, HBK.out⟩
set_option maxRecDepth 100000 in
set_option maxHeartbeats 1000000 in
theorem number_yes {g : Nat} {A : Option Addr} {n c : Nat} {xe ye : Int} {xs : List Value} (w : World) (h : RdS w g A n c xe ye xs) (hn : 1 ≤ n) {k v ln cl : Int} {s : ByteArray} (hx : xs.take 5 = [.int .i64 k, .string s, .int .i64 v, .int .i64 ln, .int .i64 cl]) (hk : (k == 2) = true) : Calls Tryd.prog 12 #[.pointer (some ⟨g, 0, none⟩)] w fun e w' => ∃ A', e = .returned (.tuple #[.int .i64 v, .int .i64 0]) ∧ Only (fun q => q = g) w w' ∧ RdS w' g A' (n - 1) (c - 1) xe ye (xs.drop 5) ∧ ∀ b, A' = some b → ∃ a, A = some a ∧ b.block = a.block := by
  have C28 := Lib.hid (pass_yes31 w h hn hx (fun W hb => (cb31 k v ln cl s W).mono fun e w2 hh => by rw [hk] at hh; exact hh))
  clear h hx
  go_enter Tryd.func12, Tryd.ntmps12
  go_wp2_with (go_at_call 28; (with_reducible refine C28.out.mono ?_); rintro e w2 ⟨A', rfl, ho, hr, hbk⟩; have HBK := Lib.hid hbk; have HO := Lib.hid ho; have HR := Lib.hid hr; clear ho hr hbk)
  go_ret2
  have hb := (Below.refl w2.heap.size w2).alloc (Nat.le_refl _) (.cells #[.int .i64 k, .string s, .int .i64 v, .int .i64 ln, .int .i64 cl] 32)
  exact ⟨A', rfl, HO.out.below hb, HR.out.below hb, HBK.out⟩
set_option maxRecDepth 100000 in
set_option maxHeartbeats 1000000 in
theorem next_end {g : Nat} {A : Option Addr} {n c : Nat} {xe ye : Int} {xs : List Value} (w : World) (h : RdS w g A n c xe ye xs) (hn : n = 0) : Calls Tryd.prog 10 #[.pointer (some ⟨g, 0, none⟩)] w fun e w' => e = .returned (.tuple #[.agg #[.int .i64 0, .string ⟨#[]⟩, .int .i64 0, .int .i64 0, .int .i64 0], .int .i64 9]) ∧ Below w.heap.size w w' := by
  have hb := (Below.refl w.heap.size w).alloc (Nat.le_refl _) (.cells #[.int .i64 0, .string ⟨#[]⟩, .int .i64 0, .int .i64 0, .int .i64 0] 32)
  obtain ⟨W1, hW1⟩ : ∃ W1, w.alloc (.cells #[.int .i64 0, .string ⟨#[]⟩, .int .i64 0, .int .i64 0, .int .i64 0] 32) = W1 := ⟨_, rfl⟩
  have hg : Blk W1 w.heap.size 32 #[.int .i64 0, .string ⟨#[]⟩, .int .i64 0, .int .i64 0, .int .i64 0] := hW1 ▸ Blk.new w 32 _
  rw [hW1] at hb
  have HG := Lib.hid hg
  have HB := Lib.hid hb
  have HW := Lib.hid hW1
  have C28 := Lib.hid (pass_end (.func (.func 29) #[] #[]) W1 (h.below hb) hn)
  clear hb h hg hW1
  go_enter Tryd.func10, Tryd.ntmps10
  go_upto_region 1 with fail
  rw [HW.out]
  go_wp2_with (go_at_call 28; (with_reducible refine C28.out.mono ?_); rintro e w2 ⟨rfl, hb2⟩; have HG2 := Lib.hid (HG.out.below hb2 HG.out.lt); have HB2 := Lib.hid (HB.out.trans (hb2.mono HB.out.size)); clear hb2; have c0 := HG2.out.cell 0; have c1 := HG2.out.cell 1; have c2 := HG2.out.cell 2; have c3 := HG2.out.cell 3; have c4 := HG2.out.cell 4; simp only [List.getElem?_toArray, List.getElem?_cons_zero, List.getElem?_cons_succ] at c0 c1 c2 c3 c4; have z0 := HG2.out.frozen 0; have z1 := HG2.out.frozen 1; have z2 := HG2.out.frozen 2; have z3 := HG2.out.frozen 3; have z4 := HG2.out.frozen 4)
  refine bodyPost_ret (resT10 _ _ _ _ _ _ _ _ _ rfl rfl (HG2.out.set5 _ _ _ _ _)) rfl ⟨rfl, below_set5 HB2.out (Nat.le_refl _) _ _ _ _ _⟩
set_option maxRecDepth 100000 in
set_option maxHeartbeats 1000000 in
theorem next_yes {g : Nat} {A : Option Addr} {n c : Nat} {xe ye : Int} {xs : List Value} (w : World) (h : RdS w g A n c xe ye xs) (hn : 1 ≤ n) {k v ln cl : Int} {s : ByteArray} (hx : xs.take 5 = [.int .i64 k, .string s, .int .i64 v, .int .i64 ln, .int .i64 cl]) : Calls Tryd.prog 10 #[.pointer (some ⟨g, 0, none⟩)] w fun e w' => ∃ A', e = .returned (.tuple #[.agg #[.int .i64 k, .string s, .int .i64 v, .int .i64 ln, .int .i64 cl], .int .i64 0]) ∧ Only (fun q => q = g) w w' ∧ RdS w' g A' (n - 1) (c - 1) xe ye (xs.drop 5) ∧ ∀ b, A' = some b → ∃ a, A = some a ∧ b.block = a.block := by
  have hb := (Below.refl w.heap.size w).alloc (Nat.le_refl _) (.cells #[.int .i64 0, .string ⟨#[]⟩, .int .i64 0, .int .i64 0, .int .i64 0] 32)
  obtain ⟨W1, hW1⟩ : ∃ W1, w.alloc (.cells #[.int .i64 0, .string ⟨#[]⟩, .int .i64 0, .int .i64 0, .int .i64 0] 32) = W1 := ⟨_, rfl⟩
  have hg : Blk W1 w.heap.size 32 #[.int .i64 0, .string ⟨#[]⟩, .int .i64 0, .int .i64 0, .int .i64 0] := hW1 ▸ Blk.new w 32 _
  rw [hW1] at hb
  have HG := Lib.hid hg
  have HB := Lib.hid hb
  have HW := Lib.hid hW1
  have C28 := Lib.hid (pass_yes29 W1 (h.below hb) hn hx (fun W hb => cb29 k v ln cl s W))
  have HGL := Lib.hid h.b.lt
  have HAL : Hid (∀ a, A = some a → a.block < w.heap.size) := Lib.hid (fun a ha => by
    have h9 := h.t.h.2.2 a ha 0 (.int .i64 k) (by have : (xs.take 5)[0]? = some (.int .i64 k) := by rw [hx]; rfl
                                                  rwa [List.getElem?_take_of_lt (by omega)] at this)
    have := World.block_lt_of_cell? _ _ h9
    simpa [Addr.add] using this)
  clear hb h hg hW1 hx
  go_enter Tryd.func10, Tryd.ntmps10
  go_upto_region 1 with fail
  rw [HW.out]
  go_wp2_with (go_at_call 28; (with_reducible refine C28.out.mono ?_); rintro e w2 ⟨A', rfl, ho, hr, hbk⟩; have HBK := Lib.hid hbk; have HO := Lib.hid ho; have HR := Lib.hid hr; have HG2 : Hid (Blk w2 w.heap.size 32 #[.int .i64 0, .string ⟨#[]⟩, .int .i64 0, .int .i64 0, .int .i64 0]) := Lib.hid (HG.out.only ho (by have := HGL.out; omega)); clear ho hr hbk; have c0 := HG2.out.cell 0; have c1 := HG2.out.cell 1; have c2 := HG2.out.cell 2; have c3 := HG2.out.cell 3; have c4 := HG2.out.cell 4; simp only [List.getElem?_toArray, List.getElem?_cons_zero, List.getElem?_cons_succ] at c0 c1 c2 c3 c4; have z0 := HG2.out.frozen 0; have z1 := HG2.out.frozen 1; have z2 := HG2.out.frozen 2; have z3 := HG2.out.frozen 3; have z4 := HG2.out.frozen 4)
  have hA' : ∀ b, A' = some b → b.block ≠ w.heap.size := fun b hb => by
    obtain ⟨a, ha, e⟩ := HBK.out b hb
    have := HAL.out a ha
    omega
  have ho : w.heap.size < w.heap.size → w.heap.size = g := fun h => absurd h (Nat.lt_irrefl _)
  have hgr : w.heap.size ≠ g := by have := HGL.out; omega
  have HO6 : Only (fun q => q = g) w w2 := Only.after HB.out HO.out
  refine bodyPost_ret (resT10 _ _ _ _ _ _ _ _ _ rfl rfl (HG2.out.set5 _ _ _ _ _)) rfl ⟨A', rfl, ((((HO6.set ho _ _).set ho _ _).set ho _ _).set ho _ _).set ho _ _, ((((HR.out.set hgr hA' _ _).set hgr hA' _ _).set hgr hA' _ _).set hgr hA' _ _).set hgr hA' _ _, HBK.out⟩
def takeB (k : Int) (s sx : ByteArray) : Bool := (s.toList == sx.toList) && ((k == 1) || (k == 4))
set_option maxRecDepth 100000 in
set_option maxHeartbeats 1000000 in
theorem take_end (sx : ByteArray) {g : Nat} {A : Option Addr} {n c : Nat} {xe ye : Int} {xs : List Value} (w : World) (h : RdS w g A n c xe ye xs) (hn : n = 0) : Calls Tryd.prog 14 #[.pointer (some ⟨g, 0, none⟩), .string sx] w fun e w' => e = .returned (.int .i64 9) ∧ Below w.heap.size w w' := by
  have hb := (Below.refl w.heap.size w).alloc (Nat.le_refl _) (.cells #[.string sx] 9)
  obtain ⟨W1, hW1⟩ : ∃ W1, w.alloc (.cells #[.string sx] 9) = W1 := ⟨_, rfl⟩
  have hg : Blk W1 w.heap.size 9 #[.string sx] := hW1 ▸ Blk.new w 9 _
  rw [hW1] at hb
  have HG := Lib.hid hg
  have HB := Lib.hid hb
  have HW := Lib.hid hW1
  have C28 := Lib.hid (pass_end (.func (.func 34) #[] #[.pointer (some ⟨w.heap.size, 0, none⟩)]) W1 (h.below hb) hn)
  clear hb h hg hW1
  go_enter Tryd.func14, Tryd.ntmps14
  go_upto_region 1 with fail
  rw [HW.out]
  go_wp2_with (go_at_call 28; (with_reducible refine C28.out.mono ?_); rintro e w2 ⟨rfl, hb2⟩; have HB2 := Lib.hid (HB.out.trans (hb2.mono HB.out.size)); clear hb2)
  go_ret
  exact ⟨rfl, HB2.out.alloc HB2.out.size _⟩
set_option maxRecDepth 100000 in
set_option maxHeartbeats 1000000 in
theorem take_no (sx : ByteArray) {g : Nat} {A : Option Addr} {n c : Nat} {xe ye : Int} {xs : List Value} (w : World) (h : RdS w g A n c xe ye xs) (hn : 1 ≤ n) {k v ln cl : Int} {s : ByteArray} (hx : xs.take 5 = [.int .i64 k, .string s, .int .i64 v, .int .i64 ln, .int .i64 cl]) (hk : takeB k s sx = false) : Calls Tryd.prog 14 #[.pointer (some ⟨g, 0, none⟩), .string sx] w fun e w' => e = .returned (.int .i64 6) ∧ Below w.heap.size w w' := by
  have hb := (Below.refl w.heap.size w).alloc (Nat.le_refl _) (.cells #[.string sx] 9)
  obtain ⟨W1, hW1⟩ : ∃ W1, w.alloc (.cells #[.string sx] 9) = W1 := ⟨_, rfl⟩
  have hg : Blk W1 w.heap.size 9 #[.string sx] := hW1 ▸ Blk.new w 9 _
  rw [hW1] at hb
  have HG := Lib.hid hg
  have HB := Lib.hid hb
  have HW := Lib.hid hW1
  have C28 := Lib.hid (pass_no34 W1 (h.below hb) hn hx w.heap.size (fun W hb => (cb34 k v ln cl s sx W w.heap.size (hg.below hb hg.lt)).mono fun e w2 hh => by have hk2 := hk; unfold takeB at hk2; rw [hk2] at hh; exact hh))
  clear hb h hg hW1
  go_enter Tryd.func14, Tryd.ntmps14
  go_upto_region 1 with fail
  rw [HW.out]
  go_wp2_with (go_at_call 28; (with_reducible refine C28.out.mono ?_); rintro e w2 ⟨rfl, hb2⟩; have HB2 := Lib.hid (HB.out.trans (hb2.mono HB.out.size)); clear hb2)
  go_ret
  exact ⟨rfl, HB2.out.alloc HB2.out.size _⟩
set_option maxRecDepth 100000 in
set_option maxHeartbeats 1000000 in
theorem take_yes (sx : ByteArray) {g : Nat} {A : Option Addr} {n c : Nat} {xe ye : Int} {xs : List Value} (w : World) (h : RdS w g A n c xe ye xs) (hn : 1 ≤ n) {k v ln cl : Int} {s : ByteArray} (hx : xs.take 5 = [.int .i64 k, .string s, .int .i64 v, .int .i64 ln, .int .i64 cl]) (hk : takeB k s sx = true) : Calls Tryd.prog 14 #[.pointer (some ⟨g, 0, none⟩), .string sx] w fun e w' => ∃ A', e = .returned (.int .i64 0) ∧ Only (fun q => q = g) w w' ∧ RdS w' g A' (n - 1) (c - 1) xe ye (xs.drop 5) ∧ ∀ b, A' = some b → ∃ a, A = some a ∧ b.block = a.block := by
  have hb := (Below.refl w.heap.size w).alloc (Nat.le_refl _) (.cells #[.string sx] 9)
  obtain ⟨W1, hW1⟩ : ∃ W1, w.alloc (.cells #[.string sx] 9) = W1 := ⟨_, rfl⟩
  have hg : Blk W1 w.heap.size 9 #[.string sx] := hW1 ▸ Blk.new w 9 _
  rw [hW1] at hb
  have HG := Lib.hid hg
  have HB := Lib.hid hb
  have HW := Lib.hid hW1
  have C28 := Lib.hid (pass_yes34 W1 (h.below hb) hn hx w.heap.size (fun W hb => (cb34 k v ln cl s sx W w.heap.size (hg.below hb hg.lt)).mono fun e w2 hh => by have hk2 := hk; unfold takeB at hk2; rw [hk2] at hh; exact hh))
  clear hb h hg hW1 hx
  go_enter Tryd.func14, Tryd.ntmps14
  go_upto_region 1 with fail
  rw [HW.out]
  go_wp2_with (go_at_call 28; (with_reducible refine C28.out.mono ?_); rintro e w2 ⟨A', rfl, ho, hr, hbk⟩; have HBK := Lib.hid hbk; have HO := Lib.hid ho; have HR := Lib.hid hr; clear ho hr hbk)
  go_ret
  have hb := (Below.refl w2.heap.size w2).alloc (Nat.le_refl _) (.cells #[.int .i64 k, .string s, .int .i64 v, .int .i64 ln, .int .i64 cl] 32)
  exact ⟨A', rfl, (Only.after HB.out HO.out).below hb, HR.out.below hb, HBK.out⟩
set_option maxRecDepth 100000 in
set_option maxHeartbeats 1000000 in
theorem place_end {g : Nat} {A : Option Addr} {n c : Nat} {xe ye : Int} {xs : List Value} (w : World) (h : RdS w g A n c xe ye xs) (hn : n = 0) : Calls Tryd.prog 15 #[.pointer (some ⟨g, 0, none⟩)] w fun e w' => e = .returned (.agg #[.int .i64 xe, .int .i64 ye]) ∧ Below w.heap.size w w' := by
  have hb := (Below.refl w.heap.size w).alloc (Nat.le_refl _) (.cells #[.int .i64 0, .int .i64 0] 26)
  obtain ⟨W1, hW1⟩ : ∃ W1, w.alloc (.cells #[.int .i64 0, .int .i64 0] 26) = W1 := ⟨_, rfl⟩
  have hg : Blk W1 w.heap.size 26 #[.int .i64 0, .int .i64 0] := hW1 ▸ Blk.new w 26 _
  rw [hW1] at hb
  have HG := Lib.hid hg
  have HB := Lib.hid hb
  have HW := Lib.hid hW1
  have HR := Lib.hid (h.below hb)
  have C9 := Lib.hid (peek_end W1 (h.below hb) hn)
  clear hb h hg hW1
  go_enter Tryd.func15, Tryd.ntmps15
  go_upto_region 1 with fail
  rw [HW.out]
  go_upto_region 3 with (go_at_call 9; (with_reducible refine C9.out.mono ?_); rintro e w2 ⟨rfl, hb2⟩; have HG2 := Lib.hid (HG.out.below hb2 HG.out.lt); have HR2 := Lib.hid (HR.out.below hb2); have HB2 := Lib.hid (HB.out.trans (hb2.mono HB.out.size)); clear hb2)
  obtain ⟨W3, hW3⟩ : ∃ W3, w2.alloc (.cells #[.int .i64 0, .string ⟨#[]⟩, .int .i64 0, .int .i64 0, .int .i64 0] 32) = W3 := ⟨_, rfl⟩
  have HG3 := Lib.hid (hW3 ▸ HG2.out.alloc (.cells #[.int .i64 0, .string ⟨#[]⟩, .int .i64 0, .int .i64 0, .int .i64 0] 32))
  have HB3 := Lib.hid (hW3 ▸ HB2.out.alloc HB2.out.size (.cells #[.int .i64 0, .string ⟨#[]⟩, .int .i64 0, .int .i64 0, .int .i64 0] 32))
  have HT3 : Hid (Blk W3 w2.heap.size 32 #[.int .i64 0, .string ⟨#[]⟩, .int .i64 0, .int .i64 0, .int .i64 0]) := Lib.hid (hW3 ▸ Blk.new w2 32 _)
  have HR3 : Hid (RdS W3 g A n c xe ye xs) := Lib.hid (HR2.out.below (hW3 ▸ (Below.refl _ w2).alloc (Nat.le_refl _) _))
  rw [hW3]
  obtain ⟨gt, hgt⟩ : ∃ gt, w2.heap.size = gt := ⟨_, rfl⟩
  rw [hgt] at HT3 ⊢
  clear hW3 hgt
  have c0 := HG3.out.cell 0
  have c1 := HG3.out.cell 1
  have z0 := HG3.out.frozen 0
  have z1 := HG3.out.frozen 1
  have t3 := HT3.out.cell 3
  have t4 := HT3.out.cell 4
  have r1 := HR3.out.b.cell 1
  have r2 := HR3.out.b.cell 2
  simp only [List.getElem?_toArray, List.getElem?_cons_zero, List.getElem?_cons_succ] at c0 c1 t3 t4 r1 r2
  go_wp2_with fail
  have HG4 : Blk ((W3.setCell ⟨w.heap.size, 0, none⟩ (.int .i64 xe)).setCell ⟨w.heap.size, 1, none⟩ (.int .i64 ye)) w.heap.size 26 #[.int .i64 xe, .int .i64 ye] := by simpa using (HG3.out.set_ 0 (.int .i64 xe)).set_ 1 (.int .i64 ye)
  refine bodyPost_ret (resP15 _ _ _ _ _ rfl HG4) rfl ⟨rfl, Below.setCell (Below.setCell HB3.out (Nat.le_refl _) _) (Nat.le_refl _) _⟩
set_option maxRecDepth 100000 in
set_option maxHeartbeats 1000000 in
theorem place_tok {g : Nat} {A : Option Addr} {n c : Nat} {xe ye : Int} {xs : List Value} (w : World) (h : RdS w g A n c xe ye xs) (hn : 1 ≤ n) {k v ln cl : Int} {s : ByteArray} (hx : xs.take 5 = [.int .i64 k, .string s, .int .i64 v, .int .i64 ln, .int .i64 cl]) : Calls Tryd.prog 15 #[.pointer (some ⟨g, 0, none⟩)] w fun e w' => e = .returned (.agg #[.int .i64 ln, .int .i64 cl]) ∧ Below w.heap.size w w' := by
  have hb := (Below.refl w.heap.size w).alloc (Nat.le_refl _) (.cells #[.int .i64 0, .int .i64 0] 26)
  obtain ⟨W1, hW1⟩ : ∃ W1, w.alloc (.cells #[.int .i64 0, .int .i64 0] 26) = W1 := ⟨_, rfl⟩
  have hg : Blk W1 w.heap.size 26 #[.int .i64 0, .int .i64 0] := hW1 ▸ Blk.new w 26 _
  rw [hW1] at hb
  have HG := Lib.hid hg
  have HB := Lib.hid hb
  have HW := Lib.hid hW1
  have HR := Lib.hid (h.below hb)
  have C9 := Lib.hid (peek_tok W1 (h.below hb) hn hx)
  clear hb h hg hW1
  go_enter Tryd.func15, Tryd.ntmps15
  go_upto_region 1 with fail
  rw [HW.out]
  go_upto_region 3 with (go_at_call 9; (with_reducible refine C9.out.mono ?_); rintro e w2 ⟨rfl, hb2⟩; have HG2 := Lib.hid (HG.out.below hb2 HG.out.lt); have HR2 := Lib.hid (HR.out.below hb2); have HB2 := Lib.hid (HB.out.trans (hb2.mono HB.out.size)); clear hb2)
  obtain ⟨W3, hW3⟩ : ∃ W3, w2.alloc (.cells #[.int .i64 k, .string s, .int .i64 v, .int .i64 ln, .int .i64 cl] 32) = W3 := ⟨_, rfl⟩
  have HG3 := Lib.hid (hW3 ▸ HG2.out.alloc (.cells #[.int .i64 k, .string s, .int .i64 v, .int .i64 ln, .int .i64 cl] 32))
  have HB3 := Lib.hid (hW3 ▸ HB2.out.alloc HB2.out.size (.cells #[.int .i64 k, .string s, .int .i64 v, .int .i64 ln, .int .i64 cl] 32))
  have HT3 : Hid (Blk W3 w2.heap.size 32 #[.int .i64 k, .string s, .int .i64 v, .int .i64 ln, .int .i64 cl]) := Lib.hid (hW3 ▸ Blk.new w2 32 _)
  have HR3 : Hid (RdS W3 g A n c xe ye xs) := Lib.hid (HR2.out.below (hW3 ▸ (Below.refl _ w2).alloc (Nat.le_refl _) _))
  rw [hW3]
  obtain ⟨gt, hgt⟩ : ∃ gt, w2.heap.size = gt := ⟨_, rfl⟩
  rw [hgt] at HT3 ⊢
  clear hW3 hgt
  have c0 := HG3.out.cell 0
  have c1 := HG3.out.cell 1
  have z0 := HG3.out.frozen 0
  have z1 := HG3.out.frozen 1
  have t3 := HT3.out.cell 3
  have t4 := HT3.out.cell 4
  have r1 := HR3.out.b.cell 1
  have r2 := HR3.out.b.cell 2
  simp only [List.getElem?_toArray, List.getElem?_cons_zero, List.getElem?_cons_succ] at c0 c1 t3 t4 r1 r2
  go_wp2_with fail
  have HG4 : Blk ((W3.setCell ⟨w.heap.size, 0, none⟩ (.int .i64 ln)).setCell ⟨w.heap.size, 1, none⟩ (.int .i64 cl)) w.heap.size 26 #[.int .i64 ln, .int .i64 cl] := by simpa using (HG3.out.set_ 0 (.int .i64 ln)).set_ 1 (.int .i64 cl)
  refine bodyPost_ret (resP15 _ _ _ _ _ rfl HG4) rfl ⟨rfl, Below.setCell (Below.setCell HB3.out (Nat.le_refl _) _) (Nat.le_refl _) _⟩

end Go.Proofs.YtkihoekldklkhaaDoor
