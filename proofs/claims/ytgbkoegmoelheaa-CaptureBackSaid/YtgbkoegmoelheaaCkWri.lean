/- Contracts of (*Sum).Write. -/
import Derived.Test.YtgbkoegmoelheaaCkNew
import Derived.Test.YtgbkoegmoelheaaCkWrd
import Derived.Test.YtgbkoegmoelheaaCkDiv
import Derived.Deep.RegionHeld3
namespace Go.Proofs.Ytgbkoegmoelheaa.Ck
open Go.RowKit


set_option maxRecDepth 100000 in
set_option maxHeartbeats 1000000 in
theorem write_1 (A : Option Addr) (n c g : Nat) (a b : Int) (m : Int) (l : List UInt8) (w : World) (hl : l.length = n) (hn : n ≤ 60000) (ha : 0 ≤ a) (ha2 : a ≤ 65535) (hm : 0 ≤ m) (hm2 : m < 60000)
    (hb : BS w w.heap.size A l) (hne : 0 < n → ∀ p : Addr, A = some p → p.block ≠ g) (hg : Blk w g 123 #[.int .i64 a, .int .i64 b, .int .i64 m, .int .i64 1]) :
    Calls Try.prog 60 #[.pointer (some ⟨g, 0, none⟩), .slice A n c] w fun e w' => (e = .returned (.int .i64 0) ∧ Blk w' g 123 #[.int .i64 (wrdS m a l), .int .i64 (b), .int .i64 (m + n), .int .i64 1]) ∧ w.grownBy w' (some g) := by
  have c0 := none_some g 123 _ _ _ 1 w hg
  simp at c0
  have c1 := of_1 w
  simp only [meth1] at c1
  have c2 := fun W (hW : w.heap.size ≤ W.heap.size) (hBS : BS W w.heap.size A l) (hgW : Blk W g 123 #[.int .i64 a, .int .i64 b, .int .i64 m, .int .i64 1]) => wrd_any A n c g 123 a m (.int .i64 b) (.int .i64 1) l W hl hn ha ha2 hm hm2 (hBS.more hW) hne hgW
  have e3 := hg.cell 3
  have f3 := hg.lt
  simp at e3
  have C0 := Lib.hid c0
  have C1 := Lib.hid c1
  have C2 := Lib.hid c2
  have HB := Lib.hid hb
  have HG := Lib.hid hg
  clear c0 c1 c2 hl hn ha ha2 hm hm2 hb hne hg
  go_enter Try.func60, Try.ntmps60
  go_wp2_with (first
    | (go_at_call 63; (with_reducible refine C0.out.mono ?_); rintro e w1 ⟨rfl, rfl⟩)
    | (go_at_call 62; (with_reducible refine C1.out.mono ?_); rintro e w1 ⟨rfl, b1⟩; have B1 := Lib.hid b1; clear b1))
  have m4 : (w1.alloc (.cells meth1 119)).cell? ⟨w1.heap.size, 4, none⟩ = some (.func (.func 65) #[] #[]) := (Blk.new w1 119 meth1).cell 4
  simp only [meth1] at m4
  have HBL := Lib.hid ((Blk.below HG.out B1.out f3).alloc (.cells meth1 119)).drew
  have HBS := Lib.hid (((HB.out.below B1.out).alloc B1.out.size (.cells meth1 119)).drew)
  have HGR := Lib.hid (show w.grownBy (w1.alloc (.cells meth1 119)).drew (some g) from grown_drew (grown_trans (grown_of_below B1.out) (World.grownBy_alloc w1 _ _)))
  have HSZ := Lib.hid (show w.heap.size ≤ (w1.alloc (.cells meth1 119)).drew.heap.size from HGR.out.size)
  have HM := Lib.hid (show (w1.alloc (.cells meth1 119)).drew.cell? ⟨w1.heap.size, 4, none⟩ = some (.func (.func 65) #[] #[]) from m4)
  have hfar := Lib.hid (show some w1.heap.size ≠ some g by have := B1.out.size; simp; omega)
  simp only [meth1] at HBL HBS HGR HSZ HM
  go_region_held3 (fun w' => w'.cell? ⟨w1.heap.size, 4, none⟩ = some (.func (.func 65) #[] #[])) (first | go_keep | exact m4 | exact HM2.out) (first
    | (go_at_call 65; (go_must ((with_reducible refine (C2.out _ HSZ.out HBS.out HBL.out).mono ?_); rintro e w3 ⟨⟨rfl, b5⟩, b6⟩; have HB5 := Lib.hid b5; have HM2 := Lib.hid (b6.cell HM.out hfar.out); have HG6 := Lib.hid (grown_trans HGR.out b6); clear b5 b6))))
  go_wp2_with fail
  go_ret
  exact ⟨⟨rfl, HB5.out⟩, HG6.out⟩

set_option maxRecDepth 100000 in
set_option maxHeartbeats 1000000 in
theorem write_2 (A : Option Addr) (n c g : Nat) (a : Nat) (b : Int) (m : Int) (l : List UInt8) (w : World) (hl : l.length = n) (hn : n ≤ 60000) (ha : a < 65536) (hm : 0 ≤ m) (hm2 : m < 60000)
    (hb : BS w w.heap.size A l) (hne : 0 < n → ∀ p : Addr, A = some p → p.block ≠ g) (hg : Blk w g 123 #[.int .i64 a, .int .i64 b, .int .i64 m, .int .i64 2]) :
    Calls Try.prog 60 #[.pointer (some ⟨g, 0, none⟩), .slice A n c] w fun e w' => (e = .returned (.int .i64 0) ∧ Blk w' g 123 #[.int .i64 (divS a l), .int .i64 (b), .int .i64 (m + n), .int .i64 2]) ∧ w.grownBy w' (some g) := by
  have c0 := none_some g 123 _ _ _ 2 w hg
  simp at c0
  have c1 := of_2 w
  simp only [meth2] at c1
  have c2 := fun W (hW : w.heap.size ≤ W.heap.size) (hBS : BS W w.heap.size A l) (hgW : Blk W g 123 #[.int .i64 a, .int .i64 b, .int .i64 m, .int .i64 2]) => div_any A n c g 123 a m (.int .i64 b) (.int .i64 2) l W hl hn ha hm hm2 (hBS.more hW) hne hgW
  have e3 := hg.cell 3
  have f3 := hg.lt
  simp at e3
  have C0 := Lib.hid c0
  have C1 := Lib.hid c1
  have C2 := Lib.hid c2
  have HB := Lib.hid hb
  have HG := Lib.hid hg
  clear c0 c1 c2 hl hn ha hm hm2 hb hne hg
  go_enter Try.func60, Try.ntmps60
  go_wp2_with (first
    | (go_at_call 63; (with_reducible refine C0.out.mono ?_); rintro e w1 ⟨rfl, rfl⟩)
    | (go_at_call 62; (with_reducible refine C1.out.mono ?_); rintro e w1 ⟨rfl, b1⟩; have B1 := Lib.hid b1; clear b1))
  have m4 : (w1.alloc (.cells meth2 119)).cell? ⟨w1.heap.size, 4, none⟩ = some (.func (.func 67) #[] #[]) := (Blk.new w1 119 meth2).cell 4
  simp only [meth2] at m4
  have HBL := Lib.hid ((Blk.below HG.out B1.out f3).alloc (.cells meth2 119)).drew
  have HBS := Lib.hid (((HB.out.below B1.out).alloc B1.out.size (.cells meth2 119)).drew)
  have HGR := Lib.hid (show w.grownBy (w1.alloc (.cells meth2 119)).drew (some g) from grown_drew (grown_trans (grown_of_below B1.out) (World.grownBy_alloc w1 _ _)))
  have HSZ := Lib.hid (show w.heap.size ≤ (w1.alloc (.cells meth2 119)).drew.heap.size from HGR.out.size)
  have HM := Lib.hid (show (w1.alloc (.cells meth2 119)).drew.cell? ⟨w1.heap.size, 4, none⟩ = some (.func (.func 67) #[] #[]) from m4)
  have hfar := Lib.hid (show some w1.heap.size ≠ some g by have := B1.out.size; simp; omega)
  simp only [meth2] at HBL HBS HGR HSZ HM
  go_region_held3 (fun w' => w'.cell? ⟨w1.heap.size, 4, none⟩ = some (.func (.func 67) #[] #[])) (first | go_keep | exact m4 | exact HM2.out) (first
    | (go_at_call 67; (go_must ((with_reducible refine (C2.out _ HSZ.out HBS.out HBL.out).mono ?_); rintro e w3 ⟨⟨rfl, b5⟩, b6⟩; have HB5 := Lib.hid b5; have HM2 := Lib.hid (b6.cell HM.out hfar.out); have HG6 := Lib.hid (grown_trans HGR.out b6); clear b5 b6))))
  go_wp2_with fail
  go_ret
  exact ⟨⟨rfl, HB5.out⟩, HG6.out⟩

set_option maxRecDepth 100000 in
set_option maxHeartbeats 1000000 in
theorem write_3 (A : Option Addr) (n c g : Nat) (a b : Int) (m : Int) (l : List UInt8) (w : World) (hl : l.length = n) (hn : n ≤ 60000) (ha : 0 ≤ a) (ha2 : a < 65521) (hb0 : 0 ≤ b) (hb2 : b < 65521) (hm : 0 ≤ m) (hm2 : m < 60000)
    (hb : BS w w.heap.size A l) (hne : 0 < n → ∀ p : Addr, A = some p → p.block ≠ g) (hg : Blk w g 123 #[.int .i64 a, .int .i64 b, .int .i64 m, .int .i64 3]) :
    Calls Try.prog 60 #[.pointer (some ⟨g, 0, none⟩), .slice A n c] w fun e w' => (e = .returned (.int .i64 0) ∧ Blk w' g 123 #[.int .i64 ((adlS a b l).1), .int .i64 ((adlS a b l).2), .int .i64 (m + n), .int .i64 3]) ∧ w.grownBy w' (some g) := by
  have c0 := none_some g 123 _ _ _ 3 w hg
  simp at c0
  have c1 := of_3 w
  simp only [meth3] at c1
  have c2 := fun W (hW : w.heap.size ≤ W.heap.size) (hBS : BS W w.heap.size A l) (hgW : Blk W g 123 #[.int .i64 a, .int .i64 b, .int .i64 m, .int .i64 3]) => adl_any A n c g 123 a b m (.int .i64 3) l W hl hn ha ha2 hb0 hb2 hm hm2 (hBS.more hW) hne hgW
  have e3 := hg.cell 3
  have f3 := hg.lt
  simp at e3
  have C0 := Lib.hid c0
  have C1 := Lib.hid c1
  have C2 := Lib.hid c2
  have HB := Lib.hid hb
  have HG := Lib.hid hg
  clear c0 c1 c2 hl hn ha ha2 hb0 hb2 hm hm2 hb hne hg
  go_enter Try.func60, Try.ntmps60
  go_wp2_with (first
    | (go_at_call 63; (with_reducible refine C0.out.mono ?_); rintro e w1 ⟨rfl, rfl⟩)
    | (go_at_call 62; (with_reducible refine C1.out.mono ?_); rintro e w1 ⟨rfl, b1⟩; have B1 := Lib.hid b1; clear b1))
  have m4 : (w1.alloc (.cells meth3 119)).cell? ⟨w1.heap.size, 4, none⟩ = some (.func (.func 69) #[] #[]) := (Blk.new w1 119 meth3).cell 4
  simp only [meth3] at m4
  have HBL := Lib.hid ((Blk.below HG.out B1.out f3).alloc (.cells meth3 119)).drew
  have HBS := Lib.hid (((HB.out.below B1.out).alloc B1.out.size (.cells meth3 119)).drew)
  have HGR := Lib.hid (show w.grownBy (w1.alloc (.cells meth3 119)).drew (some g) from grown_drew (grown_trans (grown_of_below B1.out) (World.grownBy_alloc w1 _ _)))
  have HSZ := Lib.hid (show w.heap.size ≤ (w1.alloc (.cells meth3 119)).drew.heap.size from HGR.out.size)
  have HM := Lib.hid (show (w1.alloc (.cells meth3 119)).drew.cell? ⟨w1.heap.size, 4, none⟩ = some (.func (.func 69) #[] #[]) from m4)
  have hfar := Lib.hid (show some w1.heap.size ≠ some g by have := B1.out.size; simp; omega)
  simp only [meth3] at HBL HBS HGR HSZ HM
  go_region_held3 (fun w' => w'.cell? ⟨w1.heap.size, 4, none⟩ = some (.func (.func 69) #[] #[])) (first | go_keep | exact m4 | exact HM2.out) (first
    | (go_at_call 69; (go_must ((with_reducible refine (C2.out _ HSZ.out HBS.out HBL.out).mono ?_); rintro e w3 ⟨⟨rfl, b5⟩, b6⟩; have HB5 := Lib.hid b5; have HM2 := Lib.hid (b6.cell HM.out hfar.out); have HG6 := Lib.hid (grown_trans HGR.out b6); clear b5 b6))))
  go_wp2_with fail
  go_ret
  exact ⟨⟨rfl, HB5.out⟩, HG6.out⟩
end Go.Proofs.Ytgbkoegmoelheaa.Ck
