/- Feed. -/
import Derived.Test.YtibkhjpjneoabaaFn
import Derived.WideMake
namespace Go.Proofs.Ytibkhjpjneoabaa
open Go.RowKit
set_option linter.unusedVariables false
set_option linter.unusedSimpArgs false

/-- A world with another object at a block. -/
def setO (w : World) (r : Nat) (o : Obj) : World := { w with heap := w.heap.setIfInBounds r o }
theorem setO_get {w : World} {r : Nat} {o : Obj} (h : r < w.heap.size) : (setO w r o).heap[r]? = some o := by simp [setO, h]
theorem only_setO (w : World) (r : Nat) (o : Obj) : Only (fun q => q = r) w (setO w r o) :=
  ⟨rfl, rfl, rfl, by simp [setO], fun b hb hn => by simp only [setO]; rw [Array.getElem?_setIfInBounds]; simp; intro e; exact absurd e.symm hn⟩
theorem map_ins (w : World) (r clock : Nat) (es : Array MapEntry) (x : Int) (val : Value) (hb : w.heap[r]? = some (.map es clock)) (hn : Instr.findNow (.int .i64) (.int .i64 x) es.toList 0 = some none) :
    (Instr.mapUpdate 69 (.map (some r)) (.int .i64 x) val).run Try.prog w = .ok () (setO w r (.map (es.push { key := .int .i64 x, val := val, born := clock }) (clock + 1))) := by
  have hc : (Instr.checkKey false 10000 22 (.int .i64 x)).run Try.prog w = .ok () w := MapKept.run_checkKey (k := .int .i64 x) Try.underlying22 (by simp [MapKept.IsKey]) false 9999
  simp [Instr.mapUpdate, run_underlying Try.underlying69, MapKept.run_getObj_map hb, hc, MapKept.run_findKey Try.underlying22 hn, MapKept.run_setObj_map _ hb, Result.andThen, setO]
theorem map_look (w : World) (r clock i : Nat) (es : Array MapEntry) (x : Int) (val : Value) (hb : w.heap[r]? = some (.map es clock)) (hn : Instr.findNow (.int .i64) (.int .i64 x) es.toList 0 = some (some (i, val))) :
    (Instr.lookup 69 (.map (some r)) (.int .i64 x) false).run Try.prog w = .ok val w := by
  have hc : ∀ b, (Instr.checkKey b 10000 22 (.int .i64 x)).run Try.prog w = .ok () w := fun b => MapKept.run_checkKey (k := .int .i64 x) Try.underlying22 (by simp [MapKept.IsKey]) b 9999
  simp [Instr.lookup, run_underlying Try.underlying69, MapKept.run_getObj_map hb, hc, MapKept.run_findKey Try.underlying22 hn, Result.andThen]
theorem FrL.base {w : World} {B B2 : Nat} {v : Value} {ds : List Fd} (h : FrL w B v ds) (hb : B2 ≤ B) : FrL w B2 v ds := ⟨own_base h.own hb, fun d hd => own_base (h.rows d hd) hb⟩
theorem EaI.lift {w w1 W : World} {B r : Nat} {k m c : Int} {v out v1 : Value} {s : St} {ds : List Fd} (h : EaI w1 W B r k m c v s out v1 ds) (hb : Below w.heap.size w w1) : EaI w W B r k m c v s out v1 ds :=
  ⟨h.rd, Only.after hb h.only, by
    rcases h.hat with e | e
    · exact .inl e
    · exact .inr fun j hj => Nat.le_trans hb.size (e j hj), h.frs.base hb.size, h.apart⟩
/-- What Feed returns and leaves. -/
def Fed (w : World) (B r : Nat) (k m c : Int) (v : Value) (s : St) (l : List UInt8) (e : Ending) (w' : World) : Prop := ∃ out v' ds, e = .returned (.tuple #[out, .int .i64 0]) ∧ EaI w w' B r k m c v (feedS k m c s l).1 out v' ds ∧ ds.map Fd.fr = (feedS k m c s l).2

set_option maxRecDepth 100000 in
set_option maxHeartbeats 4000000 in
theorem feed_any (B r : Nat) (k m c : Int) (v : Value) (s : St) (A : Option Addr) (n cp : Nat) (l : List UInt8) (w : World) (hF : OkF k m c) (hs : RdS w B r k m c v s) (h3 : s.st ≠ 3) (hr : RB w A n cp l) (sep : ∀ a, A = some a → 0 < n → ¬ SFo r v a.block) (hl : s.held.length + n ≤ 40000) (ho : s.off + n ≤ 1000000) :
    Calls Try.prog 17 #[.pointer (some ⟨r, 0, none⟩), .slice A n cp] w (Fed w B r k m c v s l) := by
  obtain ⟨W0, hW0⟩ : ∃ W0, w.alloc (.cells #[.pointer (some ⟨r, 0, none⟩)] 37) = W0 := ⟨_, rfl⟩
  have hb0 : Below w.heap.size w W0 := hW0 ▸ (Below.refl _ w).alloc (Nat.le_refl _) _
  obtain ⟨br, hbr⟩ : ∃ br, w.heap.size = br := ⟨_, rfl⟩
  have kx : Blk W0 br 37 #[.pointer (some ⟨r, 0, none⟩)] := hbr ▸ hW0 ▸ Blk.new w 37 _
  have HS := Lib.hid (hs.below hb0)
  have HR := Lib.hid (hr.below hb0)
  have HB0 := Lib.hid hb0
  have HX := Lib.hid kx
  have HW0 := Lib.hid hW0
  have HF := Lib.hid hF
  have HSEP := Lib.hid sep
  have HL := Lib.hid hl
  have HO := Lib.hid ho
  have HBR := Lib.hid hbr
  have C32 := Lib.hid (HS.out.some_ hF)
  have kg : W0.cell? ⟨br, 0, none⟩ = some (.pointer (some ⟨r, 0, none⟩)) := kx.cell 0
  have k3 : W0.cell? ⟨r, 3, none⟩ = some (.int .i64 s.st) := HS.out.blk.cell 3
  have k0 : W0.cell? ⟨r, 0, none⟩ = some (.int .i64 k) := HS.out.blk.cell 0
  have q3 : (s.st == 3) = false := by simpa using h3
  clear hs hr sep hF hl ho h3 hb0 kx hW0
  go_enter Try.func17, Try.ntmps17
  go_upto_region 1 with fail
  rw [HW0.out]
  clear HW0 hbr
  go_wp2_with (go_at_call 32; (with_reducible refine C32.out.mono ?_); rintro e w1 ⟨rfl, rfl⟩; refine Hid.out ?_)
  refine Lib.hid ?_
  go_upto_region 5 with fail
  obtain ⟨W1, hW1⟩ : ∃ W1, W0.alloc (.map #[] 0) = W1 := ⟨_, rfl⟩
  obtain ⟨mb, hmb⟩ : ∃ mb, W0.heap.size = mb := ⟨_, rfl⟩
  have hb1 : Below W0.heap.size W0 W1 := hW1 ▸ (Below.refl _ W0).alloc (Nat.le_refl _) _
  have g1 : W1.heap[mb]? = some (.map #[] 0) := by rw [← hmb, ← hW1]; exact heap_alloc_new W0 _
  have l1 : mb < W1.heap.size := (Array.getElem?_eq_some_iff.1 g1).1
  have m1 : (Instr.makeMap 69 none).run Try.prog W0 = .ok (.map (some mb)) W1 := by rw [← hmb, ← hW1]; exact run_makeMap_plain W0 69
  have m2 := map_ins W1 mb 0 #[] 1 (.func (.func 33) #[] #[]) g1 rfl
  obtain ⟨W2, hW2⟩ : ∃ W2, setO W1 mb (.map #[{ key := .int .i64 1, val := .func (.func 33) #[] #[], born := 0 }] 1) = W2 := ⟨_, rfl⟩
  have g2 : W2.heap[mb]? = some (.map #[{ key := .int .i64 1, val := .func (.func 33) #[] #[], born := 0 }] 1) := hW2 ▸ setO_get l1
  have l2 : mb < W2.heap.size := (Array.getElem?_eq_some_iff.1 g2).1
  have m2' : (Instr.mapUpdate 69 (.map (some mb)) (.int .i64 1) (.func (.func 33) #[] #[])).run Try.prog W1 = .ok () W2 := by rw [← hW2]; exact m2
  have m3 := map_ins W2 mb 1 #[{ key := .int .i64 1, val := .func (.func 33) #[] #[], born := 0 }] 2 (.func (.func 34) #[] #[]) g2 rfl
  obtain ⟨W3, hW3⟩ : ∃ W3, setO W2 mb (.map #[{ key := .int .i64 1, val := .func (.func 33) #[] #[], born := 0 }, { key := .int .i64 2, val := .func (.func 34) #[] #[], born := 1 }] 2) = W3 := ⟨_, rfl⟩
  have g3 : W3.heap[mb]? = some (.map #[{ key := .int .i64 1, val := .func (.func 33) #[] #[], born := 0 }, { key := .int .i64 2, val := .func (.func 34) #[] #[], born := 1 }] 2) := hW3 ▸ setO_get l2
  have m3' : (Instr.mapUpdate 69 (.map (some mb)) (.int .i64 2) (.func (.func 34) #[] #[])).run Try.prog W2 = .ok () W3 := by rw [← hW3]; exact m3
  have hon : Only (fun q => q = mb) W0 W3 := hW3 ▸ ((Only.of_below (p := fun q => q = mb) hb1).trans (hW2 ▸ only_setO W1 mb _) fun _ _ e => e).trans (only_setO W2 mb _) fun _ _ e => e
  have HS3 := Lib.hid (HS.out.only hon fun q hq e => by have := HS.out.lt q hq; omega)
  have HX3 := Lib.hid (HX.out.only hon fun e => by have := HX.out.lt; omega)
  have HR3 := Lib.hid (HR.out.only hon fun a hA h0 e => by have := HR.out.lt h0 hA; omega)
  have HB3 := Lib.hid (show Below w.heap.size w W3 from HB0.out.trans (hon.to_below HB0.out.size fun b hb e => by have := HB0.out.size; omega))
  have hkk := HF.out.k
  have m4 : (Instr.lookup 69 (.map (some mb)) (.int .i64 k) false).run Try.prog W3 = .ok (.func (.func (fnOf k)) #[] #[]) W3 := by
    rcases hkk with rfl | rfl
    · exact map_look W3 mb 2 0 _ 1 _ g3 rfl
    · exact map_look W3 mb 2 1 _ 2 _ g3 rfl
  clear g1 l1 m2 hW2 g2 l2 m3 hW3 g3 hon hkk hb1 hW1 hmb kg k3 k0 q3 C32
  have kg3 : W3.cell? ⟨br, 0, none⟩ = some (.pointer (some ⟨r, 0, none⟩)) := HX3.out.cell 0
  have k03 : W3.cell? ⟨r, 0, none⟩ = some (.int .i64 k) := HS3.out.blk.cell 0
  obtain ⟨fk, hfk⟩ : ∃ fk, fnOf k = fk := ⟨_, rfl⟩
  have HFK := Lib.hid hfk
  rw [hfk] at m4
  clear hfk
  go_upto_region 6 with fail
  obtain ⟨W4, hW4⟩ : ∃ W4, W3.alloc (.cells #[.func (.func fk) #[] #[]] 67) = W4 := ⟨_, rfl⟩
  obtain ⟨bf, hbf⟩ : ∃ bf, W3.heap.size = bf := ⟨_, rfl⟩
  have hb4 : Below W3.heap.size W3 W4 := hW4 ▸ (Below.refl _ W3).alloc (Nat.le_refl _) _
  have kf : Blk W4 bf 67 #[.func (.func (fnOf k)) #[] #[]] := by rw [HFK.out, ← hbf, ← hW4]; exact Blk.new W3 67 _
  have HB4 := Lib.hid (HB3.out.trans (hb4.mono HB3.out.size))
  have C35 := Lib.hid (each_any B r br bf k m c v s A n cp l W4 HF.out (HS3.out.below hb4) (HR3.out.below hb4) HSEP.out HL.out HO.out (HX3.out.below hb4 HX3.out.lt) kf)
  rw [hW4, hbf]
  clear hW4 hbf hb4 kf m1 m2' m3' m4 kg3 k03
  unfold Eached at C35
  go_wp2_with (go_at_call 35; (with_reducible refine C35.out.mono ?_); rintro e w6 ⟨out, v6, ds, rfl, he, hf⟩; have HE := Lib.hid he; have HFF := Lib.hid hf; clear he hf)
  go_ret2
  exact ⟨out, v6, ds, rfl, HE.out.lift HB4.out, HFF.out⟩
end Go.Proofs.Ytibkhjpjneoabaa
