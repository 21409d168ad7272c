/- Contracts of (*Sum).Sum. -/
import Derived.Test.YtgbkoegmoelheaaCkNew
import Derived.Test.YtgbkoegmoelheaaCkGen
namespace Go.Proofs.Ytgbkoegmoelheaa.Ck
open Go.RowKit


set_option maxRecDepth 100000 in
set_option maxHeartbeats 1000000 in
theorem sum_1 (g : Nat) (a b m : Int) (w : World) (ha : 0 ≤ a) (ha2 : a ≤ 65535) (hg : Blk w g 123 #[.int .i64 a, .int .i64 b, .int .i64 m, .int .i64 1]) :
    Calls Try.prog 61 #[.pointer (some ⟨g, 0, none⟩)] w fun e w' => e = .returned (.tuple #[.int .i64 (65535 - a), .int .i64 0]) ∧ Below w.heap.size w w' := by
  have c0 := none_some g 123 _ _ _ 1 w hg
  simp at c0
  have c1 := of_1 w
  simp only [meth1] at c1
  have c2 := fun W => res1_any a b m W ha ha2
  have e3 := hg.cell 3
  have f3 := hg.lt
  simp at e3
  have C0 := Lib.hid c0
  have C1 := Lib.hid c1
  have C2 := Lib.hid c2
  have HG := Lib.hid hg
  clear c0 c1 c2 hg ha ha2
  go_enter Try.func61, Try.ntmps61
  go_wp2_with (first
    | (go_at_call 63; (with_reducible refine C0.out.mono ?_); rintro e w1 ⟨rfl, rfl⟩)
    | (go_at_call 62; (with_reducible refine C1.out.mono ?_); rintro e w1 ⟨rfl, b1⟩; have B1 := Lib.hid b1; clear b1))
  have m4 : (w1.alloc (.cells meth1 119)).cell? ⟨w1.heap.size, 5, none⟩ = some (.func (.func 66) #[] #[]) := (Blk.new w1 119 meth1).cell 5
  have HBL := Lib.hid ((Blk.below HG.out B1.out f3).alloc (.cells meth1 119)).drew
  have HGR := Lib.hid (show Below w.heap.size w (w1.alloc (.cells meth1 119)).drew from below_drew (B1.out.alloc B1.out.size _))
  have g0 : (w1.alloc (.cells meth1 119)).cell? ⟨g, 0, none⟩ = some (.int .i64 a) := HBL.out.cell 0
  have g1 : (w1.alloc (.cells meth1 119)).cell? ⟨g, 1, none⟩ = some (.int .i64 b) := HBL.out.cell 1
  have g2 : (w1.alloc (.cells meth1 119)).cell? ⟨g, 2, none⟩ = some (.int .i64 m) := HBL.out.cell 2
  have hlt : w1.heap.size < (w1.alloc (.cells meth1 119)).drew.heap.size := by simp
  have HM := Lib.hid hlt
  clear hlt
  simp only [meth1] at m4 HBL HGR HM g0 g1 g2
  go_region_held3 (fun w' => w'.cell? ⟨w1.heap.size, 5, none⟩ = some (.func (.func 66) #[] #[]) ∧ w'.cell? ⟨g, 0, none⟩ = some (.int .i64 a) ∧ w'.cell? ⟨g, 1, none⟩ = some (.int .i64 b) ∧ w'.cell? ⟨g, 2, none⟩ = some (.int .i64 m)) (first | go_keep | exact ⟨m4, g0, g1, g2⟩ | exact HM2.out) (first
    | (go_at_call 66; (go_must ((with_reducible refine (C2.out _).mono ?_); rintro e w3 ⟨rfl, b5⟩; have HM2 := Lib.hid (show w3.cell? ⟨w1.heap.size, 5, none⟩ = some (.func (.func 66) #[] #[]) ∧ w3.cell? ⟨g, 0, none⟩ = some (.int .i64 a) ∧ w3.cell? ⟨g, 1, none⟩ = some (.int .i64 b) ∧ w3.cell? ⟨g, 2, none⟩ = some (.int .i64 m) from ⟨(b5.cell (p := ⟨w1.heap.size, 5, none⟩) HM.out).trans m4, (b5.cell (p := ⟨g, 0, none⟩) HBL.out.lt).trans g0, (b5.cell (p := ⟨g, 1, none⟩) HBL.out.lt).trans g1, (b5.cell (p := ⟨g, 2, none⟩) HBL.out.lt).trans g2⟩); have HG6 := Lib.hid (HGR.out.trans (b5.mono HGR.out.size)); clear b5))))
  go_wp2_with fail
  go_ret2
  exact ⟨rfl, HG6.out⟩

set_option maxRecDepth 100000 in
set_option maxHeartbeats 1000000 in
theorem sum_2 (g : Nat) (a b m : Int) (w : World)  (hg : Blk w g 123 #[.int .i64 a, .int .i64 b, .int .i64 m, .int .i64 2]) :
    Calls Try.prog 61 #[.pointer (some ⟨g, 0, none⟩)] w fun e w' => e = .returned (.tuple #[.int .i64 (a), .int .i64 0]) ∧ Below w.heap.size w w' := by
  have c0 := none_some g 123 _ _ _ 2 w hg
  simp at c0
  have c1 := of_2 w
  simp only [meth2] at c1
  have c2 := fun W => res2_any a b m W 
  have e3 := hg.cell 3
  have f3 := hg.lt
  simp at e3
  have C0 := Lib.hid c0
  have C1 := Lib.hid c1
  have C2 := Lib.hid c2
  have HG := Lib.hid hg
  clear c0 c1 c2 hg 
  go_enter Try.func61, Try.ntmps61
  go_wp2_with (first
    | (go_at_call 63; (with_reducible refine C0.out.mono ?_); rintro e w1 ⟨rfl, rfl⟩)
    | (go_at_call 62; (with_reducible refine C1.out.mono ?_); rintro e w1 ⟨rfl, b1⟩; have B1 := Lib.hid b1; clear b1))
  have m4 : (w1.alloc (.cells meth2 119)).cell? ⟨w1.heap.size, 5, none⟩ = some (.func (.func 68) #[] #[]) := (Blk.new w1 119 meth2).cell 5
  have HBL := Lib.hid ((Blk.below HG.out B1.out f3).alloc (.cells meth2 119)).drew
  have HGR := Lib.hid (show Below w.heap.size w (w1.alloc (.cells meth2 119)).drew from below_drew (B1.out.alloc B1.out.size _))
  have g0 : (w1.alloc (.cells meth2 119)).cell? ⟨g, 0, none⟩ = some (.int .i64 a) := HBL.out.cell 0
  have g1 : (w1.alloc (.cells meth2 119)).cell? ⟨g, 1, none⟩ = some (.int .i64 b) := HBL.out.cell 1
  have g2 : (w1.alloc (.cells meth2 119)).cell? ⟨g, 2, none⟩ = some (.int .i64 m) := HBL.out.cell 2
  have hlt : w1.heap.size < (w1.alloc (.cells meth2 119)).drew.heap.size := by simp
  have HM := Lib.hid hlt
  clear hlt
  simp only [meth2] at m4 HBL HGR HM g0 g1 g2
  go_region_held3 (fun w' => w'.cell? ⟨w1.heap.size, 5, none⟩ = some (.func (.func 68) #[] #[]) ∧ w'.cell? ⟨g, 0, none⟩ = some (.int .i64 a) ∧ w'.cell? ⟨g, 1, none⟩ = some (.int .i64 b) ∧ w'.cell? ⟨g, 2, none⟩ = some (.int .i64 m)) (first | go_keep | exact ⟨m4, g0, g1, g2⟩ | exact HM2.out) (first
    | (go_at_call 68; (go_must ((with_reducible refine (C2.out _).mono ?_); rintro e w3 ⟨rfl, b5⟩; have HM2 := Lib.hid (show w3.cell? ⟨w1.heap.size, 5, none⟩ = some (.func (.func 68) #[] #[]) ∧ w3.cell? ⟨g, 0, none⟩ = some (.int .i64 a) ∧ w3.cell? ⟨g, 1, none⟩ = some (.int .i64 b) ∧ w3.cell? ⟨g, 2, none⟩ = some (.int .i64 m) from ⟨(b5.cell (p := ⟨w1.heap.size, 5, none⟩) HM.out).trans m4, (b5.cell (p := ⟨g, 0, none⟩) HBL.out.lt).trans g0, (b5.cell (p := ⟨g, 1, none⟩) HBL.out.lt).trans g1, (b5.cell (p := ⟨g, 2, none⟩) HBL.out.lt).trans g2⟩); have HG6 := Lib.hid (HGR.out.trans (b5.mono HGR.out.size)); clear b5))))
  go_wp2_with fail
  go_ret2
  exact ⟨rfl, HG6.out⟩

set_option maxRecDepth 100000 in
set_option maxHeartbeats 1000000 in
theorem sum_3 (g : Nat) (a b m : Int) (w : World) (ha : 0 ≤ a) (ha2 : a < 65536) (hb : 0 ≤ b) (hb2 : b < 65536) (hg : Blk w g 123 #[.int .i64 a, .int .i64 b, .int .i64 m, .int .i64 3]) :
    Calls Try.prog 61 #[.pointer (some ⟨g, 0, none⟩)] w fun e w' => e = .returned (.tuple #[.int .i64 (b * 65536 + a), .int .i64 0]) ∧ Below w.heap.size w w' := by
  have c0 := none_some g 123 _ _ _ 3 w hg
  simp at c0
  have c1 := of_3 w
  simp only [meth3] at c1
  have c2 := fun W => res3_any a b m W ha ha2 hb hb2
  have e3 := hg.cell 3
  have f3 := hg.lt
  simp at e3
  have C0 := Lib.hid c0
  have C1 := Lib.hid c1
  have C2 := Lib.hid c2
  have HG := Lib.hid hg
  clear c0 c1 c2 hg ha ha2 hb hb2
  go_enter Try.func61, Try.ntmps61
  go_wp2_with (first
    | (go_at_call 63; (with_reducible refine C0.out.mono ?_); rintro e w1 ⟨rfl, rfl⟩)
    | (go_at_call 62; (with_reducible refine C1.out.mono ?_); rintro e w1 ⟨rfl, b1⟩; have B1 := Lib.hid b1; clear b1))
  have m4 : (w1.alloc (.cells meth3 119)).cell? ⟨w1.heap.size, 5, none⟩ = some (.func (.func 70) #[] #[]) := (Blk.new w1 119 meth3).cell 5
  have HBL := Lib.hid ((Blk.below HG.out B1.out f3).alloc (.cells meth3 119)).drew
  have HGR := Lib.hid (show Below w.heap.size w (w1.alloc (.cells meth3 119)).drew from below_drew (B1.out.alloc B1.out.size _))
  have g0 : (w1.alloc (.cells meth3 119)).cell? ⟨g, 0, none⟩ = some (.int .i64 a) := HBL.out.cell 0
  have g1 : (w1.alloc (.cells meth3 119)).cell? ⟨g, 1, none⟩ = some (.int .i64 b) := HBL.out.cell 1
  have g2 : (w1.alloc (.cells meth3 119)).cell? ⟨g, 2, none⟩ = some (.int .i64 m) := HBL.out.cell 2
  have hlt : w1.heap.size < (w1.alloc (.cells meth3 119)).drew.heap.size := by simp
  have HM := Lib.hid hlt
  clear hlt
  simp only [meth3] at m4 HBL HGR HM g0 g1 g2
  go_region_held3 (fun w' => w'.cell? ⟨w1.heap.size, 5, none⟩ = some (.func (.func 70) #[] #[]) ∧ w'.cell? ⟨g, 0, none⟩ = some (.int .i64 a) ∧ w'.cell? ⟨g, 1, none⟩ = some (.int .i64 b) ∧ w'.cell? ⟨g, 2, none⟩ = some (.int .i64 m)) (first | go_keep | exact ⟨m4, g0, g1, g2⟩ | exact HM2.out) (first
    | (go_at_call 70; (go_must ((with_reducible refine (C2.out _).mono ?_); rintro e w3 ⟨rfl, b5⟩; have HM2 := Lib.hid (show w3.cell? ⟨w1.heap.size, 5, none⟩ = some (.func (.func 70) #[] #[]) ∧ w3.cell? ⟨g, 0, none⟩ = some (.int .i64 a) ∧ w3.cell? ⟨g, 1, none⟩ = some (.int .i64 b) ∧ w3.cell? ⟨g, 2, none⟩ = some (.int .i64 m) from ⟨(b5.cell (p := ⟨w1.heap.size, 5, none⟩) HM.out).trans m4, (b5.cell (p := ⟨g, 0, none⟩) HBL.out.lt).trans g0, (b5.cell (p := ⟨g, 1, none⟩) HBL.out.lt).trans g1, (b5.cell (p := ⟨g, 2, none⟩) HBL.out.lt).trans g2⟩); have HG6 := Lib.hid (HGR.out.trans (b5.mono HGR.out.size)); clear b5))))
  go_wp2_with fail
  go_ret2
  exact ⟨rfl, HG6.out⟩
end Go.Proofs.Ytgbkoegmoelheaa.Ck
