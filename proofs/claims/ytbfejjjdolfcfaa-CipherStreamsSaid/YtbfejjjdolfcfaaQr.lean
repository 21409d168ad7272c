/- Contracts of Quarter, its closure, the reference's rotate and Quarter. -/
import Derived.Test.YtbfejjjdolfcfaaQ
import Derived.RegionTactic
namespace Go.Proofs.Ytbfejjjdolfcfaa
open Go.RowKit
set_option linter.unusedVariables false

theorem halfA_lt (a b : Nat) : halfA a b < 4294967296 := Nat.mod_lt _ (by omega)
theorem halfD_lt {a b d m : Nat} (hd : d < 4294967296) (hm : m ≤ 32) : halfD a b d m < 4294967296 := rot_lt (Nat.xor_lt_two_pow (n := 32) hd (halfA_lt a b)) hm
theorem halfC_lt (a b c d m : Nat) : halfC a b c d m < 4294967296 := Nat.mod_lt _ (by omega)
theorem halfB_lt {a b c d m n : Nat} (hb : b < 4294967296) (hn : n ≤ 32) : halfB a b c d m n < 4294967296 := rot_lt (Nat.xor_lt_two_pow (n := 32) hb (halfC_lt a b c d m)) hn
theorem rot_any (n : Nat) (hn : n = 16 ∨ n = 12 ∨ n = 8 ∨ n = 7) (v : Nat) (w : World) (hv : v < 4294967296) : Calls Try.prog 22 #[.int .u32 v, .int .i64 n] w fun e w' => e = .returned (.int .u32 (rot v n : Nat)) ∧ w = w' := by
  rcases hn with rfl | rfl | rfl | rfl
  · exact rot_16 v w hv
  · exact rot_12 v w hv
  · exact rot_8 v w hv
  · exact rot_7 v w hv
theorem xor_lt {a b : Nat} (ha : a < 4294967296) (hb : b < 4294967296) : a ^^^ b < 4294967296 := Nat.xor_lt_two_pow (n := 32) ha hb

theorem results_tmp4 {fn : Func} {t u v x : Tmp} (h : fn.results = #[.tmp t, .tmp u, .tmp v, .tmp x]) (tmps : Array Value) (P : Program) (w : World) :
    (results fn tmps).run P w = .ok (.tuple #[tmps.getD t undef, tmps.getD u undef, tmps.getD v undef, tmps.getD x undef]) w := by simp [results, h]
def xD (a b d : Nat) : Nat := d ^^^ halfA a b
def xB (a b c d m : Nat) : Nat := b ^^^ halfC a b c d m
set_option maxRecDepth 100000 in
theorem half_any (m n : Nat) (hm : m = 16 ∨ m = 12 ∨ m = 8 ∨ m = 7) (hn : n = 16 ∨ n = 12 ∨ n = 8 ∨ n = 7) (a b c d ga gb gc gd B : Nat) (w : World) (ha : a < 4294967296) (hb : b < 4294967296) (hc : c < 4294967296) (hd : d < 4294967296)
    (ba : Blk w ga 22 #[.int .u32 a]) (bb : Blk w gb 22 #[.int .u32 b]) (bc : Blk w gc 22 #[.int .u32 c]) (bd : Blk w gd 22 #[.int .u32 d]) (hab : ga ≠ gb) (hac : ga ≠ gc) (had : ga ≠ gd) (hbc : gb ≠ gc) (hbd : gb ≠ gd) (hcd : gc ≠ gd) (hBa : B ≤ ga) (hBb : B ≤ gb) (hBc : B ≤ gc) (hBd : B ≤ gd) :
    Calls Try.prog 21 #[.int .i64 m, .int .i64 n, .pointer (some ⟨ga, 0, none⟩), .pointer (some ⟨gb, 0, none⟩), .pointer (some ⟨gd, 0, none⟩), .pointer (some ⟨gc, 0, none⟩)] w fun e w' => e = .returned (.tuple #[]) ∧
      Blk w' ga 22 #[.int .u32 (halfA a b : Nat)] ∧ Blk w' gb 22 #[.int .u32 (halfB a b c d m n : Nat)] ∧ Blk w' gc 22 #[.int .u32 (halfC a b c d m : Nat)] ∧ Blk w' gd 22 #[.int .u32 (halfD a b d m : Nat)] ∧ Below B w w' := by
  have ea := ba.cell 0
  have eb := bb.cell 0
  have ec := bc.cell 0
  have ed := bd.cell 0
  have fa := ba.frozen 0
  have fb := bb.frozen 0
  have fc := bc.frozen 0
  have fd := bd.frozen 0
  simp at ea eb ec ed
  have xd : bits .xor .u32 (d : Int) (halfA a b : Nat) = (xD a b d : Nat) := u32_xor_nat d (halfA a b) hd (halfA_lt a b)
  have xb : bits .xor .u32 (b : Int) (halfC a b c d m : Nat) = (xB a b c d m : Nat) := u32_xor_nat b (halfC a b c d m) hb (halfC_lt a b c d m)
  have hA : ((a : Int) + b) % 4294967296 = (halfA a b : Nat) := by unfold halfA; omega
  have hC : ((c : Int) + (halfD a b d m : Nat)) % 4294967296 = (halfC a b c d m : Nat) := by unfold halfC; omega
  have ld : xD a b d < 4294967296 := xor_lt hd (halfA_lt a b)
  have lb : xB a b c d m < 4294967296 := xor_lt hb (halfC_lt a b c d m)
  have LD := Lib.hid ld
  have LB := Lib.hid lb
  have BA := Lib.hid ba
  have BB := Lib.hid bb
  have BC := Lib.hid bc
  have BD := Lib.hid bd
  have HM := Lib.hid hm
  have HN := Lib.hid hn
  clear ld lb ba bb bc bd ha hb hc hd hm hn
  go_enter Try.func21, Try.ntmps21
  go_wp2_with fail
  (with_reducible refine (rot_any m HM.out (xD a b d) _ LD.out).mono ?_); rintro e w1 ⟨rfl, rfl⟩
  rw [show rot (xD a b d) m = halfD a b d m from rfl]
  go_wp2_with fail
  (with_reducible refine (rot_any n HN.out (xB a b c d m) _ LB.out).mono ?_); rintro e w1 ⟨rfl, rfl⟩
  rw [show rot (xB a b c d m) n = halfB a b c d m n from rfl]
  go_wp2_with fail
  go_end0
  refine ⟨rfl, ?_, ?_, ?_, ?_, ((((Below.refl B w).setCell hBa _).setCell hBd _).setCell hBc _).setCell hBb _⟩
  · exact (((BA.out.set_ 0 _).far had _).far hac _).far hab _
  · exact (((BB.out.far hab.symm _).far hbd _).far hbc _).set_ 0 _
  · exact (((BC.out.far hac.symm _).far hcd _).set_ 0 _).far hbc.symm _
  · exact (((BD.out.far had.symm _).set_ 0 _).far hcd.symm _).far hbd.symm _

/-- The words of a quarter round. -/
def qA (a b c d : Nat) : Nat := halfA (halfA a b) (halfB a b c d 16 12)
def qB (a b c d : Nat) : Nat := halfB (halfA a b) (halfB a b c d 16 12) (halfC a b c d 16) (halfD a b d 16) 8 7
def qC (a b c d : Nat) : Nat := halfC (halfA a b) (halfB a b c d 16 12) (halfC a b c d 16) (halfD a b d 16) 8
def qD (a b c d : Nat) : Nat := halfD (halfA a b) (halfB a b c d 16 12) (halfD a b d 16) 8
def tup4 (k : IntKind) (a b c d : Nat) : Value := .tuple #[.int k (qA a b c d : Nat), .int k (qB a b c d : Nat), .int k (qC a b c d : Nat), .int k (qD a b c d : Nat)]

set_option maxRecDepth 100000 in
theorem quarter_any (a b c d : Nat) (w : World) (ha : a < 4294967296) (hb : b < 4294967296) (hc : c < 4294967296) (hd : d < 4294967296) :
    Calls Try.prog 9 #[.int .u32 a, .int .u32 b, .int .u32 c, .int .u32 d] w fun e w' => e = .returned (tup4 .u32 a b c d) ∧ Below w.heap.size w w' := by
  obtain ⟨W0, hW0⟩ : ∃ W0, ((((w.alloc (.cells #[.int .u32 a] 22)).alloc (.cells #[.int .u32 b] 22)).alloc (.cells #[.int .u32 c] 22)).alloc (.cells #[.int .u32 d] 22)) = W0 := ⟨_, rfl⟩
  have b0 : Blk W0 w.heap.size 22 #[.int .u32 a] := by rw [← hW0]; exact (((Blk.new w _ _).alloc _).alloc _).alloc _
  have b1 : Blk W0 (w.heap.size + 1) 22 #[.int .u32 b] := by rw [← hW0]; have := ((Blk.new (w.alloc (.cells #[.int .u32 a] 22)) 22 #[.int .u32 b]).alloc (.cells #[.int .u32 c] 22)).alloc (.cells #[.int .u32 d] 22); simpa using this
  have b2 : Blk W0 (w.heap.size + 1 + 1) 22 #[.int .u32 c] := by rw [← hW0]; have := (Blk.new ((w.alloc (.cells #[.int .u32 a] 22)).alloc (.cells #[.int .u32 b] 22)) 22 #[.int .u32 c]).alloc (.cells #[.int .u32 d] 22); simpa using this
  have b3 : Blk W0 (w.heap.size + 1 + 1 + 1) 22 #[.int .u32 d] := by rw [← hW0]; have := Blk.new (((w.alloc (.cells #[.int .u32 a] 22)).alloc (.cells #[.int .u32 b] 22)).alloc (.cells #[.int .u32 c] 22)) 22 #[.int .u32 d]; simpa using this
  have hbl : Below w.heap.size w W0 := by rw [← hW0]; exact ((((Below.refl _ w).alloc (Nat.le_refl _) _).alloc (by simp) _).alloc (by simp; omega) _).alloc (by simp; omega) _
  have c1 := half_any 16 12 (by omega) (by omega) a b c d w.heap.size (w.heap.size + 1) (w.heap.size + 1 + 1) (w.heap.size + 1 + 1 + 1) w.heap.size W0 ha hb hc hd b0 b1 b2 b3 (by omega) (by omega) (by omega) (by omega) (by omega) (by omega) (by omega) (by omega) (by omega) (by omega)
  rw [← hW0] at c1
  have c2 := fun W b0 b1 b2 b3 => half_any 8 7 (by omega) (by omega) (halfA a b) (halfB a b c d 16 12) (halfC a b c d 16) (halfD a b d 16) w.heap.size (w.heap.size + 1) (w.heap.size + 1 + 1) (w.heap.size + 1 + 1 + 1) w.heap.size W (halfA_lt a b) (halfB_lt hb (by omega)) (halfC_lt a b c d 16) (halfD_lt hd (by omega)) b0 b1 b2 b3 (by omega) (by omega) (by omega) (by omega) (by omega) (by omega) (by omega) (by omega) (by omega) (by omega)
  rw [show ((16 : Nat) : Int) = 16 from rfl, show ((12 : Nat) : Int) = 12 from rfl] at c1
  simp only [show ((8 : Nat) : Int) = 8 from rfl, show ((7 : Nat) : Int) = 7 from rfl] at c2
  have C1 := Lib.hid c1
  have C2 := Lib.hid c2
  rw [← hW0] at hbl
  have HB := Lib.hid hbl
  clear hW0 b0 b1 b2 b3 hbl c1 c2 ha hb hc hd
  go_enter Try.func9, Try.ntmps9
  go_wp2_with fail
  (with_reducible refine C1.out.mono ?_); rintro e w1 ⟨rfl, h0, h1, h2, h3, hb1⟩
  have H0 := Lib.hid h0
  have H1 := Lib.hid h1
  have H2 := Lib.hid h2
  have H3 := Lib.hid h3
  have HB1 := Lib.hid (HB.out.trans hb1)
  clear h0 h1 h2 h3 hb1
  go_wp2_with fail
  (with_reducible refine (C2.out _ H0.out H1.out H2.out H3.out).mono ?_); rintro e w2 ⟨rfl, h0, h1, h2, h3, hb1⟩
  have HB2 := Lib.hid (HB1.out.trans hb1)
  have e0 := h0.cell 0
  have e1 := h1.cell 0
  have e2 := h2.cell 0
  have e3 := h3.cell 0
  simp at e0 e1 e2 e3
  clear h0 h1 h2 h3 hb1
  go_wp2_with fail
  go_region
  go_wp2_with fail
  refine bodyPost_ret (results_tmp4 rfl _ _ _) rfl ?_
  exact ⟨rfl, below_drew HB2.out⟩
end Go.Proofs.Ytbfejjjdolfcfaa
