/- The reference's Add. -/
import Derived.Test.YtgbkoegmoelheaaCx
import Derived.Deep.CutRange
namespace Go.Proofs.Ytgbkoegmoelheaa
open Go.RowKit
set_option linter.unusedVariables false
set_option linter.unusedSimpArgs false

section
variable {P : Program} {ops : Array Oper} {Q : Exit → Act → World → Prop} {md : Region.Mode} {S0 S1 : World → Prop} {c : Nat}
theorem wpG_twoA {i j : Nat} {oi oj : Oper} {fuel : Nat} {listed : Array Bool} {a : Act} {w : World} (hr : Region.ready md ops listed = [i, j]) (hoi : ops[i]? = some oi) (hoj : ops[j]? = some oj) (hci : (listed.setIfInBounds i true).getD c true = false) (hcj : (listed.setIfInBounds j true).getD c true = false)
    (h1 : ∀ K' : Act → World → Prop, Shut (∀ a w, S0 w → (S0 w → wpG P md ops Q S0 S1 c fuel (listed.setIfInBounds i true) a w) → K' a w) → if Region.wanted oi (yielded ops a.tmps) = true then Oper.wp P oi a w K' Q else K' (a.put oi.dst undef) w)
    (h2 : ∀ K' : Act → World → Prop, Shut (∀ a w, S0 w → (S0 w → wpG P md ops Q S0 S1 c fuel (listed.setIfInBounds j true) a w) → K' a w) → if Region.wanted oj (yielded ops a.tmps) = true then Oper.wp P oj a w K' Q else K' (a.put oj.dst undef) w) :
    wpG P md ops Q S0 S1 c (fuel + 1) listed a w := by
  refine ⟨fun h0 => absurd (hr ▸ h0) (by simp), hr ▸ fun k hk => ?_⟩
  have hk2 : k = i ∨ k = j := by simpa using hk
  rcases hk2 with rfl | rfl
  · exact wpOp_step hoi (fun K' hK => h1 K' (fun a w hS hW => hK a w ⟨⟨fun _ => hS, fun ht => (by rw [hci] at ht; cases ht)⟩, hW hS⟩))
  · exact wpOp_step hoj (fun K' hK => h2 K' (fun a w hS hW => hK a w ⟨⟨fun _ => hS, fun ht => (by rw [hcj] at ht; cases ht)⟩, hW hS⟩))
end
theorem run_clone_sz {P : Program} {w : World} {ty t e : TypeId} {size bytes : Nat} (hE : ElS P t e size bytes) {base m c : Nat} {news : List Value} {A : Option Addr} (hsrc : HoldsS w size A m news) (hz : A = none → c = 0) (h1 : ∀ u ∈ news, u.oneCell' = true) (h63 : m ≤ maxLen) (hby : m * bytes ≤ 140737488355328) (hbase : base ≤ w.heap.size) :
    ∃ v' w', (Builtin.append_ #[t, t] ty #[.slice none 0 0, .slice A m c]).run P w = .ok v' w' ∧ w'.ownsRow base e size v' m news ∧ w.grownBy w' none := by
  cases A with
  | none =>
    have hm := hsrc.2.1 rfl
    subst hm
    obtain rfl : news = [] := List.eq_nil_of_length_eq_zero (by simpa using hsrc.1)
    obtain ⟨i, z, hi, hzz, hs, hb, hzs⟩ := hE.i
    exact ⟨.slice none 0 0, w, by simp [Builtin.append_, run_underlying hE.t, sizeOf, typeInfo, hi, Builtin.lenOf, Builtin.firstCells], World.ownsRow_nil _ _ _ _, World.grownBy.refl w _⟩
  | some a =>
    obtain ⟨v', w', hrun, p1, p2⟩ := run_app_sz (ty := ty) (n := 0) (xs := []) (base := base) hE (World.ownsRow_nil w base e size) hsrc h1 (by omega) (by rw [Nat.zero_add]; exact hby) hbase (by simp)
    rw [Nat.zero_add, List.nil_append] at p1
    exact ⟨v', w', hrun, p1, p2⟩
theorem step_clone_sz {P : Program} {ops : Array Oper} {o : Oper} {a : Act} {w : World} {Q : Exit → Act → World → Prop} {K : Act → World → Prop} {E : Prop} (hgd : o.guard = none) (s x : Operand) (t : TypeId) (hop : o.op = Op.call { callee := Callee.builtin Builtin.append, args := #[s, x], argTypes := #[t, t] }) {e : TypeId} {size bytes : Nat} (hE : ElS P t e size bytes) {base m c : Nat} {news : List Value} {A : Option Addr} (hs : a.eval s = .slice none 0 0) (hx : a.eval x = .slice A m c) (hsrc : HoldsS w size A m news) (hz : A = none → c = 0) (h1 : ∀ u ∈ news, u.oneCell' = true) (h63 : m ≤ maxLen) (hby : m * bytes ≤ 140737488355328) (hbase : base ≤ w.heap.size)
    (hK : ∀ v' w', w'.ownsRow base e size v' m news → w.grownBy w' none → K (a.put o.dst v') w') : if Region.wanted o (yielded ops a.tmps) = true then Oper.wp P o a w K Q else E := by
  obtain ⟨v', w', hrun, p1, p2⟩ := run_clone_sz (ty := o.type) (base := base) hE hsrc hz h1 h63 hby hbase
  exact step_run hgd s x t hop hs hx hrun (hK v' w' p1 p2)
def Ad5 (g : Nat) (vl : Value) (t f : Int) (v2 : Value) (W : World) : Prop := W.cell? ⟨g, 1, none⟩ = some vl ∧ W.cell? ⟨g + 1, 0, none⟩ = some (.int .i64 t) ∧ W.cell? ⟨g + 1, 1, none⟩ = some (.int .i64 f) ∧ W.cell? ⟨g + 1, 2, none⟩ = some v2
def Ad1 (g : Nat) (t : Int) (W : World) : Prop := W.cell? ⟨g + 1, 0, none⟩ = some (.int .i64 t)
theorem Ad5.below {g : Nat} {vl v2 : Value} {t f : Int} {W W' : World} (h : Ad5 g vl t f v2 W) (hb : Below W.heap.size W W') : Ad5 g vl t f v2 W' := ⟨cell_below h.1 hb, cell_below h.2.1 hb, cell_below h.2.2.1 hb, cell_below h.2.2.2 hb⟩
theorem Ad5.of {g : Nat} {vb vl x v2 : Value} {t f : Int} {W : World} (h : Blk W g 48 #[vb, vl, x]) (hp : Blk W (g + 1) 31 #[.int .i64 t, .int .i64 f, v2]) : Ad5 g vl t f v2 W := by
  have k0 := h.cell 1
  have k1 := hp.cell 0
  have k2 := hp.cell 1
  have k3 := hp.cell 2
  simp at k0 k1 k2 k3
  exact ⟨k0, k1, k2, k3⟩
theorem Ad1.of {g i : Nat} {t f : Int} {v2 u : Value} {W7 w9 : World} (hp : Blk W7 (g + 1) 31 #[.int .i64 t, .int .i64 f, v2]) (hb : Below W7.heap.size W7 w9) (hne : g + 1 ≠ g) : Ad1 g t (w9.setCell ⟨g, i, none⟩ u) := by
  have := ((hp.below hb hp.lt).far (show g + 1 ≠ (⟨g, i, none⟩ : Addr).block from hne) u).cell 0
  simpa [Ad1] using this
theorem Ad1.of2 {g i j : Nat} {t f : Int} {v2 u y : Value} {W7 w9 : World} (hp : Blk W7 (g + 1) 31 #[.int .i64 t, .int .i64 f, v2]) (hb : Below W7.heap.size W7 w9) (hne : g + 1 ≠ g) : Ad1 g t ((w9.setCell ⟨g, i, none⟩ u).setCell ⟨g, j, none⟩ y) := by
  have := (((hp.below hb hp.lt).far (show g + 1 ≠ (⟨g, i, none⟩ : Addr).block from hne) u).far (show g + 1 ≠ (⟨g, j, none⟩ : Addr).block from hne) y).cell 0
  simpa [Ad1] using this
theorem st3 {W : World} {g : Nat} {a b c x y z : Value} (h : Blk W g 48 #[a, b, c]) : Blk (((W.setCell ⟨g, 0, none⟩ x).setCell ⟨g, 1, none⟩ y).setCell ⟨g, 2, none⟩ z) g 48 #[x, y, z] ∧ Only (fun k => k = g) W (((W.setCell ⟨g, 0, none⟩ x).setCell ⟨g, 1, none⟩ y).setCell ⟨g, 2, none⟩ z) := by
  have h1 := ((h.set_ 0 x).set_ 1 y).set_ 2 z
  simp only [List.setIfInBounds_toArray, List.set_cons_zero, List.set_cons_succ] at h1
  exact ⟨h1, Only.set (p := fun k => k = g) (Only.set (p := fun k => k = g) (Only.set (p := fun k => k = g) (Only.refl _ W) (fun _ => rfl) 0 _) (fun _ => rfl) 1 _) (fun _ => rfl) 2 _⟩
theorem RB.only_blk {W W2 : World} {A Ab Al : Option Addr} {n c nb cb nl cl g : Nat} {x : Int} {l : List UInt8} (h : RB W A n c l) (hg : Blk W g 48 #[.slice Ab nb cb, .slice Al nl cl, .int .i64 x]) (ho : Only (fun k => k = g) W W2) : RB W2 A n c l :=
  h.only ho fun a hA h0 e => RB.ne h h0 hA hg (fun j y => by match j with | 0 => simp | 1 => simp | 2 => simp | _ + 3 => simp) e

set_option maxRecDepth 100000 in
set_option maxHeartbeats 8000000 in
theorem radd_any (F : Nat → Prop) (Ab : Option Addr) (nb cb : Nat) (Al : Option Addr) (nl cl : Nat) (ds : List Pd) (s : StP) (t f : Int) (A : Option Addr) (n c : Nat) (d : List UInt8) (w : World) (h : RS w Ab nb cb Al nl cl ds s) (hp : PdR w ⟨t, f, A, n, c, d⟩) (hn : n ≤ 30000) (hl : nb ≤ 3000000) (hF : ∀ k, F k → k < w.heap.size) (hf : FP F Ab nb Al nl ds) (hfn : ∀ a, A = some a → 0 < n → ¬ F a.block) :
    Calls Try.prog 47 #[refV Ab nb cb Al nl cl s.last, .agg #[.int .i64 t, .int .i64 f, .slice A n c]] w fun e w' => ∃ v, e = .returned (.tuple #[v, .int .i64 (addP s ⟨t, f, d⟩).2]) ∧ RefR F w' v (addP s ⟨t, f, d⟩).1 ∧ Below w.heap.size w w' := by
  have HRS := Lib.hid h
  have HFB := Lib.hid hf.1
  have HFL := Lib.hid hf.2.1
  have HFD := Lib.hid hf.2.2
  have HFF := Lib.hid hF
  have HFN := Lib.hid (show ∀ a, (⟨t, f, A, n, c, d⟩ : Pd).A = some a → 0 < (⟨t, f, A, n, c, d⟩ : Pd).n → ¬ F a.block from hfn)
  clear hF hf hfn
  obtain ⟨last, hlast⟩ : ∃ last, s.last = last := ⟨_, rfl⟩
  have HLA := Lib.hid hlast
  rw [hlast]
  show Calls Try.prog 47 #[.agg #[.slice Ab nb cb, .slice Al nl cl, .int .i64 last], _] w _
  obtain ⟨W0, hW0⟩ : ∃ W0, ((w.alloc (.cells #[.slice Ab nb cb, .slice Al nl cl, .int .i64 last] 48)).alloc (.cells #[.int .i64 t, .int .i64 f, .slice A n c] 31)).alloc (.cells #[.slice none 0 0, .slice none 0 0, .int .i64 0] 48) = W0 := ⟨_, rfl⟩
  have HW0 := Lib.hid hW0
  have hb0 : Below w.heap.size w W0 := hW0 ▸ (((Below.refl _ w).alloc (Nat.le_refl _) _).alloc (by simp) _).alloc (by simp; omega) _
  have hk0 : Blk W0 w.heap.size 48 #[.slice Ab nb cb, .slice Al nl cl, .int .i64 last] := hW0 ▸ ((Blk.new w 48 _).alloc _).alloc _
  have hp0 : Blk W0 (w.heap.size + 1) 31 #[.int .i64 t, .int .i64 f, .slice A n c] := by
    have := (Blk.new (w.alloc (.cells #[.slice Ab nb cb, .slice Al nl cl, .int .i64 last] 48)) 31 #[.int .i64 t, .int .i64 f, .slice A n c]).alloc (.cells #[.slice none 0 0, .slice none 0 0, .int .i64 0] 48)
    rw [World.size_alloc, hW0] at this
    exact this
  have hz0 : Blk W0 (w.heap.size + 1 + 1) 48 #[.slice none 0 0, .slice none 0 0, .int .i64 0] := by
    have := Blk.new ((w.alloc (.cells #[.slice Ab nb cb, .slice Al nl cl, .int .i64 last] 48)).alloc (.cells #[.int .i64 t, .int .i64 f, .slice A n c] 31)) 48 #[.slice none 0 0, .slice none 0 0, .int .i64 0]
    rw [World.size_alloc, World.size_alloc, hW0] at this
    exact this
  have HB0 := Lib.hid hb0
  have HK0 := Lib.hid hk0
  have HP0 := Lib.hid hp0
  have HZ0 := Lib.hid hz0
  have C13 := rvalid_any t f A n c d W0 hp.r.len (by omega)
  have q0 := hp0.cell 0
  have q1 := hp0.cell 1
  have q2 := hp0.cell 2
  simp at q0 q1 q2
  obtain ⟨v, hv⟩ : ∃ v, validP ⟨t, f, d⟩ = v := ⟨_, rfl⟩
  rw [hv] at C13
  have C13 := Lib.hid C13
  have HPR0 : Hid (∀ W : World, Below w.heap.size w W → ∀ q ∈ ds ++ [(⟨t, f, A, n, c, d⟩ : Pd)], PdR W q) := Lib.hid fun W hb q hq => by
    rcases List.mem_append.1 hq with h1 | h1
    · exact (h.l.r q h1).below hb
    · rw [List.mem_singleton.1 h1]; exact hp.below hb
  have HPK : Hid (pks (ds ++ [(⟨t, f, A, n, c, d⟩ : Pd)]) = s.l ++ [⟨t, f, d⟩]) := Lib.hid (by rw [pks, List.map_append, ← h.eq]; rfl)
  have HDL := Lib.hid h.l.len
  have HM := Lib.hid h.n64
  have HL := Lib.hid hl
  have HPN := Lib.hid hn
  clear hW0 hb0 hk0 hp0 hz0 h hp hn hl hlast
  go_enter Try.func47, Try.ntmps47
  go_upto_region 1 with fail
  rw [HW0.out]
  cases v with
  | false =>
    have HF := Lib.hid (addP_bad (s := s) hv)
    clear hv
    go_upto_region 2 with (go_at_call 13; (with_reducible refine C13.out.mono ?_); rintro e w1 ⟨rfl, b1⟩; have HB1 := Lib.hid (HB0.out.trans (b1.mono HB0.out.size)); have HK1 := Lib.hid (HK0.out.below b1 HK0.out.lt); have HZ1 := Lib.hid (HZ0.out.below b1 HZ0.out.lt); clear b1)
    clear q0 q1 q2
    have e0 := HK1.out.cell 0
    have e1 := HK1.out.cell 1
    have e2 := HK1.out.cell 2
    have z0 := HZ1.out.cell 0
    have z1 := HZ1.out.cell 1
    have z2 := HZ1.out.cell 2
    simp at e0 e1 e2 z0 z1 z2
    have f0 := HZ1.out.frozen 0
    have f1 := HZ1.out.frozen 1
    have f2 := HZ1.out.frozen 2
    go_wp2_with fail
    obtain ⟨hz9, ho9⟩ := st3 (x := .slice Ab nb cb) (y := .slice Al nl cl) (z := .int .i64 last) HZ1.out
    have hb9 := HB1.out.trans ((ho9.to_below HB1.out.size fun b hb e => by omega).mono (Nat.le_refl _))
    refine bodyPost_ret (v := .tuple #[refV Ab nb cb Al nl cl last, .int .i64 2]) (results_row_tmp (p := 4) (u := 5) (ty := 48) rfl _ _ (w.heap.size + 1 + 1) 48 _ _ rfl hz9 Try.underlying48 rfl (by kernel_rfl)) rfl ⟨_, by rw [HF.out], ⟨Ab, nb, cb, Al, nl, cl, ds, by rw [HF.out, HLA.out], by rw [HF.out]; exact HRS.out.below hb9, ⟨HFB.out, HFL.out, HFD.out⟩⟩, hb9⟩
  | true =>
    have HV := Lib.hid hv
    clear hv
    go_upto_region 3 with (go_at_call 13; (with_reducible refine C13.out.mono ?_); rintro e w1 ⟨rfl, b1⟩; have HB01 := Lib.hid b1; have HB1 := Lib.hid (HB0.out.trans (b1.mono HB0.out.size)); have HK1 := Lib.hid (HK0.out.below b1 HK0.out.lt); have HP1 := Lib.hid (HP0.out.below b1 HP0.out.lt); have HZ1 := Lib.hid (HZ0.out.below b1 HZ0.out.lt); clear b1)
    clear q0 q1 q2
    have q0 := HP1.out.cell 0
    have q1 := HK1.out.cell 2
    simp at q0 q1
    by_cases hlt : t < last
    · have qd : decide (t < last) = true := decide_eq_true hlt
      have HF := Lib.hid (addP_old (s := s) HV.out (by rw [HLA.out]; exact hlt))
      clear hlt
      go_upto_region 4 with fail
      clear q0 q1
      have e0 := HK1.out.cell 0
      have e1 := HK1.out.cell 1
      have e2 := HK1.out.cell 2
      have z0 := HZ1.out.cell 0
      have z1 := HZ1.out.cell 1
      have z2 := HZ1.out.cell 2
      simp at e0 e1 e2 z0 z1 z2
      have f0 := HZ1.out.frozen 0
      have f1 := HZ1.out.frozen 1
      have f2 := HZ1.out.frozen 2
      go_wp2_with fail
      obtain ⟨hz9, ho9⟩ := st3 (x := .slice Ab nb cb) (y := .slice Al nl cl) (z := .int .i64 last) HZ1.out
      have hb9 := HB1.out.trans ((ho9.to_below HB1.out.size fun b hb e => by omega).mono (Nat.le_refl _))
      refine bodyPost_ret (v := .tuple #[refV Ab nb cb Al nl cl last, .int .i64 8]) (results_row_tmp (p := 4) (u := 5) (ty := 48) rfl _ _ (w.heap.size + 1 + 1) 48 _ _ rfl hz9 Try.underlying48 rfl (by kernel_rfl)) rfl ⟨_, by rw [HF.out], ⟨Ab, nb, cb, Al, nl, cl, ds, by rw [HF.out, HLA.out], by rw [HF.out]; exact HRS.out.below hb9, ⟨HFB.out, HFL.out, HFD.out⟩⟩, hb9⟩
    have qd : decide (t < last) = false := decide_eq_false hlt
    have HNLT := Lib.hid (show ¬ (⟨t, f, d⟩ : Pk).t < s.last by rw [HLA.out]; exact hlt)
    clear hlt
    have HVQ := Lib.hid (validP_iff.1 HV.out)
    have HQN : Hid (∀ q ∈ ds ++ [(⟨t, f, A, n, c, d⟩ : Pd)], q.n ≤ 30000) := Lib.hid fun q hq => by
      rcases List.mem_append.1 hq with h1 | h1
      · have := HRS.out.l.valid HRS.out.bad q h1
        omega
      · rw [List.mem_singleton.1 h1]; exact HPN.out
    go_upto_region 5 with fail
    clear q0 q1 qd
    have HSC := Lib.hid (fun (W : World) (hb : Below w1.heap.size w1 W) => (show Ad5 w.heap.size (.slice Al nl cl) t f (.slice A n c) W from (Ad5.of HK1.out HP1.out).below hb))
    have HPL := Lib.hid (fun (W : World) (hb : Below w1.heap.size w1 W) => (HRS.out.below HB1.out).l.below hb)
    have HPR := Lib.hid (fun (W : World) (hb : Below w1.heap.size w1 W) => HPR0.out W (HB1.out.trans (hb.mono HB1.out.size)))
    obtain ⟨fit, hfit⟩ : ∃ fit, fitsP (s.l ++ [⟨t, f, d⟩]) = fit := ⟨_, rfl⟩
    have HFIT := Lib.hid hfit
    go_cut [23] from 16 (fun q wx => q = .bool (!fit) ∧ Hid (Below w1.heap.size w1 wx))
    case first =>
      have HBc := Lib.hid (below_drew (Below.refl w1.heap.size w1))
      refine wp_region_G (S0 := (Ad5 w.heap.size (.slice Al nl cl) t f (.slice A n c))) (S1 := (Ad5 w.heap.size (.slice Al nl cl) t f (.slice A n c))) (c := 99) (by kernel_rfl) ?_
      have hHeld := (HSC.out _ (below_drew (Below.refl _ _)))
      have h01 := (fun (W : World) (h : (Ad5 w.heap.size (.slice Al nl cl) t f (.slice A n c)) W) => h)
      refine wpG_takeB (i := 0) (oi := ⟨some 16, _, _, _, _, _⟩) (v := .pointer (some ⟨w.heap.size, 1, none⟩)) rfl (by kernel_rfl) (by kernel_rfl) (by kernel_rfl) (by decide) (fun _ _ _ h => h) h01 rfl hHeld (Or.inl ⟨by rfl, ?_⟩) ?_
      · (intro W9 hSw; obtain ⟨v1, v2, v3, v4⟩ := hSw; go_simp; (try (first | with_reducible rfl | rfl | (simp; done))))
      try simp only [Act.put, List.setIfInBounds_toArray, List.set_cons_zero, List.set_cons_succ]
      refine wpG_takeB (i := 1) (oi := ⟨some 17, _, _, _, _, _⟩) (v := .slice Al nl cl) rfl (by kernel_rfl) (by kernel_rfl) (by kernel_rfl) (by decide) (fun _ _ _ h => h) h01 rfl hHeld (Or.inl ⟨by rfl, ?_⟩) ?_
      · (intro W9 hSw; obtain ⟨v1, v2, v3, v4⟩ := hSw; go_simp; (try (first | with_reducible rfl | rfl | (simp; done))))
      try simp only [Act.put, List.setIfInBounds_toArray, List.set_cons_zero, List.set_cons_succ]
      refine wpG_takeB (i := 3) (oi := ⟨some 19, _, _, _, _, _⟩) (v := .agg #[.int .i64 t, .int .i64 f, .slice A n c]) rfl (by kernel_rfl) (by kernel_rfl) (by kernel_rfl) (by decide) (fun _ _ _ h => h) h01 rfl hHeld (Or.inl ⟨by rfl, ?_⟩) ?_
      · (intro W9 hSw; obtain ⟨v1, v2, v3, v4⟩ := hSw; go_simp; (try (first | with_reducible rfl | rfl | (simp; done))))
      try simp only [Act.put, List.setIfInBounds_toArray, List.set_cons_zero, List.set_cons_succ]
      refine wpG_twoB (i := 2) (j := 4) (oi := ⟨some 18, _, _, _, _, _⟩) (oj := ⟨some 20, _, _, _, _, _⟩) (by kernel_rfl) rfl rfl rfl rfl (fun K hK => ?_) (fun K hK => ?_)
      · have hcur := fun (W9 : World) (hg : World.grownBy (w1.drew) W9 none) => (show Below (w1.drew).heap.size (w1.drew) W9 from (Below.refl _ _).grown hg (Nat.le_refl _) (fun k hk => by cases hk))
        refine step_clone_sz (base := w1.heap.size) rfl (.const (.slice none 0 0)) (.tmp 17) 22 rfl elP rfl rfl (HPL.out _ HBc.out).h (HPL.out _ HBc.out).z (cells_one ds) (by have := HM.out; unfold maxLen; omega) (by have := HM.out; omega) HBc.out.size ?_
        intro v4 w4 hown hg
        obtain ⟨A4, c4, rfl, -⟩ := own_formS hown
        have hb4 := hcur _ hg
        have hbn := hb4
        have HBp := HBc
        have HBc := Lib.hid (HBp.out.trans (hbn.mono HBp.out.size))
        (try have HNc := Lib.hid (HNc.out.keep (hbn.mono (Nat.le_refl _))))
        have HOc := Lib.hid hown
        clear hown hg hb4 hcur
        refine hK.out _ _ (HSC.out _ HBc.out) (fun hHeld => ?_)
        clear hbn
        clear hK K
        try simp only [Act.put, List.setIfInBounds_toArray, List.set_cons_zero, List.set_cons_succ]
        refine wpG_oneB (i := 4) (o := ⟨some 20, _, _, _, _, _⟩) (by kernel_rfl) rfl rfl (fun K hK => ?_)
        go_simp
        have hbn := (show Below w4.heap.size w4 (w4.alloc (.cells #[.int .i64 t, .int .i64 f, .slice A n c] 31)) from (Below.refl w4.heap.size w4).alloc (Nat.le_refl _) (.cells #[.int .i64 t, .int .i64 f, .slice A n c] 31))
        have HBp := HBc
        have HBc := Lib.hid (HBp.out.trans (hbn.mono HBp.out.size))
        have HNc : Hid (HoldsS (w4.alloc (.cells #[.int .i64 t, .int .i64 f, .slice A n c] 31)) 3 (some ⟨w4.heap.size, 0, none⟩) 1 [.int .i64 t, .int .i64 f, .slice A n c]) := Lib.hid (HoldsS.new w4 3 1 [.int .i64 t, .int .i64 f, .slice A n c] 31 rfl)
        (try have HOc := Lib.hid (own_alloc (o := (.cells #[.int .i64 t, .int .i64 f, .slice A n c] 31)) HOc.out))
        refine hK.out _ _ (HSC.out _ HBc.out) (fun hHeld => ?_)
        clear hbn
        clear hK K
        try simp only [Act.put, List.setIfInBounds_toArray, List.set_cons_zero, List.set_cons_succ]
        refine wpG_oneB (i := 5) (o := ⟨some 21, _, _, _, _, _⟩) (by kernel_rfl) rfl rfl (fun K hK => ?_)
        refine step_app_sz (base := w1.heap.size) (n := nl) (m := 1) (xs := ds.flatMap Pd.cells) (news := [.int .i64 t, .int .i64 f, .slice A n c]) rfl (.tmp 18) (.tmp 20) 22 rfl elP rfl HOc.out rfl HNc.out (by simp [Value.oneCell']) (by have := HM.out; unfold maxLen; omega) (by have := HM.out; omega) HBc.out.size (by simp) ?_
        intro v9 w9 hown hg
        obtain ⟨A5, c5, rfl, -⟩ := own_formS hown
        have HB9 := Lib.hid (below_own HBc.out HBc.out.size HOc.out hg)
        have HO9 := Lib.hid (show w9.ownsRow w1.heap.size 31 3 (.slice A5 (nl + 1) c5) (nl + 1) ((ds ++ [(⟨t, f, A, n, c, d⟩ : Pd)]).flatMap Pd.cells) from by simpa [Pd.cells] using hown)
        clear hown hg
        refine hK.out _ _ (HSC.out _ HB9.out) (fun hHeld => ?_)
        clear hK K
        try simp only [Act.put, List.setIfInBounds_toArray, List.set_cons_zero, List.set_cons_succ]
        refine wpG_oneB (i := 6) (o := ⟨some 22, _, _, _, _, _⟩) (by kernel_rfl) rfl rfl (fun K hK => ?_)
        go_simp
        have hpl9 : PL w9 A5 (nl + 1) c5 (ds ++ [⟨t, f, A, n, c, d⟩]) := own_PL HO9.out (fun q hq => HPR.out _ HB9.out q hq) (by rw [List.length_append, HDL.out]; rfl)
        (with_reducible refine (rfits_any A5 (nl + 1) c5 (ds ++ [⟨t, f, A, n, c, d⟩]) w9 hpl9 (by have := HM.out; omega) HQN.out).mono ?_); rintro e w10 ⟨rfl, b10⟩
        rw [HPK.out, HFIT.out]
        have HB10 := Lib.hid (HB9.out.trans (b10.mono HB9.out.size))
        have HF := HB10
        clear b10 hpl9
        refine hK.out _ _ (HSC.out _ HB10.out) (fun hHeld => ?_)
        clear hK K
        try simp only [Act.put, List.setIfInBounds_toArray, List.set_cons_zero, List.set_cons_succ]
        refine wpG_takeB (i := 7) (oi := ⟨some 23, _, _, _, _, _⟩) (v := .bool (!fit)) rfl (by kernel_rfl) (by kernel_rfl) (by kernel_rfl) (by decide) (fun _ _ _ h => h) h01 rfl hHeld (Or.inl ⟨by rfl, ?_⟩) ?_
        · (intro W9 hSw; obtain ⟨v1, v2, v3, v4⟩ := hSw; go_simp; (try (first | with_reducible rfl | rfl | (simp; done))))
        try simp only [Act.put, List.setIfInBounds_toArray, List.set_cons_zero, List.set_cons_succ]
        refine wpG_done (by kernel_rfl) ?_ _
        go_wp2_with fail
        go_meet
        exact ⟨rfl, HF⟩
      · go_simp
        have hbn := (show Below (w1.drew).heap.size (w1.drew) ((w1.alloc (.cells #[.int .i64 t, .int .i64 f, .slice A n c] 31)).drew) from (Below.refl (w1.drew).heap.size (w1.drew)).alloc (Nat.le_refl _) (.cells #[.int .i64 t, .int .i64 f, .slice A n c] 31))
        have HBp := HBc
        have HBc := Lib.hid (HBp.out.trans (hbn.mono HBp.out.size))
        have HNc : Hid (HoldsS ((w1.alloc (.cells #[.int .i64 t, .int .i64 f, .slice A n c] 31)).drew) 3 (some ⟨w1.heap.size, 0, none⟩) 1 [.int .i64 t, .int .i64 f, .slice A n c]) := Lib.hid (HoldsS.new (w1.drew) 3 1 [.int .i64 t, .int .i64 f, .slice A n c] 31 rfl)
        (try have HOc := Lib.hid (own_alloc (o := (.cells #[.int .i64 t, .int .i64 f, .slice A n c] 31)) HOc.out))
        refine hK.out _ _ (HSC.out _ HBc.out) (fun hHeld => ?_)
        clear hbn
        clear hK K
        try simp only [Act.put, List.setIfInBounds_toArray, List.set_cons_zero, List.set_cons_succ]
        refine wpG_oneB (i := 2) (o := ⟨some 18, _, _, _, _, _⟩) (by kernel_rfl) rfl rfl (fun K hK => ?_)
        have hcur := fun (W9 : World) (hg : World.grownBy ((w1.alloc (.cells #[.int .i64 t, .int .i64 f, .slice A n c] 31)).drew) W9 none) => (show Below ((w1.alloc (.cells #[.int .i64 t, .int .i64 f, .slice A n c] 31)).drew).heap.size ((w1.alloc (.cells #[.int .i64 t, .int .i64 f, .slice A n c] 31)).drew) W9 from (Below.refl _ _).grown hg (Nat.le_refl _) (fun k hk => by cases hk))
        refine step_clone_sz (base := w1.heap.size) rfl (.const (.slice none 0 0)) (.tmp 17) 22 rfl elP rfl rfl (HPL.out _ HBc.out).h (HPL.out _ HBc.out).z (cells_one ds) (by have := HM.out; unfold maxLen; omega) (by have := HM.out; omega) HBc.out.size ?_
        intro v4 w4 hown hg
        obtain ⟨A4, c4, rfl, -⟩ := own_formS hown
        have hb4 := hcur _ hg
        have hbn := hb4
        have HBp := HBc
        have HBc := Lib.hid (HBp.out.trans (hbn.mono HBp.out.size))
        (try have HNc := Lib.hid (HNc.out.keep (hbn.mono (Nat.le_refl _))))
        have HOc := Lib.hid hown
        clear hown hg hb4 hcur
        refine hK.out _ _ (HSC.out _ HBc.out) (fun hHeld => ?_)
        clear hbn
        clear hK K
        try simp only [Act.put, List.setIfInBounds_toArray, List.set_cons_zero, List.set_cons_succ]
        refine wpG_oneB (i := 5) (o := ⟨some 21, _, _, _, _, _⟩) (by kernel_rfl) rfl rfl (fun K hK => ?_)
        refine step_app_sz (base := w1.heap.size) (n := nl) (m := 1) (xs := ds.flatMap Pd.cells) (news := [.int .i64 t, .int .i64 f, .slice A n c]) rfl (.tmp 18) (.tmp 20) 22 rfl elP rfl HOc.out rfl HNc.out (by simp [Value.oneCell']) (by have := HM.out; unfold maxLen; omega) (by have := HM.out; omega) HBc.out.size (by simp) ?_
        intro v9 w9 hown hg
        obtain ⟨A5, c5, rfl, -⟩ := own_formS hown
        have HB9 := Lib.hid (below_own HBc.out HBc.out.size HOc.out hg)
        have HO9 := Lib.hid (show w9.ownsRow w1.heap.size 31 3 (.slice A5 (nl + 1) c5) (nl + 1) ((ds ++ [(⟨t, f, A, n, c, d⟩ : Pd)]).flatMap Pd.cells) from by simpa [Pd.cells] using hown)
        clear hown hg
        refine hK.out _ _ (HSC.out _ HB9.out) (fun hHeld => ?_)
        clear hK K
        try simp only [Act.put, List.setIfInBounds_toArray, List.set_cons_zero, List.set_cons_succ]
        refine wpG_oneB (i := 6) (o := ⟨some 22, _, _, _, _, _⟩) (by kernel_rfl) rfl rfl (fun K hK => ?_)
        go_simp
        have hpl9 : PL w9 A5 (nl + 1) c5 (ds ++ [⟨t, f, A, n, c, d⟩]) := own_PL HO9.out (fun q hq => HPR.out _ HB9.out q hq) (by rw [List.length_append, HDL.out]; rfl)
        (with_reducible refine (rfits_any A5 (nl + 1) c5 (ds ++ [⟨t, f, A, n, c, d⟩]) w9 hpl9 (by have := HM.out; omega) HQN.out).mono ?_); rintro e w10 ⟨rfl, b10⟩
        rw [HPK.out, HFIT.out]
        have HB10 := Lib.hid (HB9.out.trans (b10.mono HB9.out.size))
        have HF := HB10
        clear b10 hpl9
        refine hK.out _ _ (HSC.out _ HB10.out) (fun hHeld => ?_)
        clear hK K
        try simp only [Act.put, List.setIfInBounds_toArray, List.set_cons_zero, List.set_cons_succ]
        refine wpG_takeB (i := 7) (oi := ⟨some 23, _, _, _, _, _⟩) (v := .bool (!fit)) rfl (by kernel_rfl) (by kernel_rfl) (by kernel_rfl) (by decide) (fun _ _ _ h => h) h01 rfl hHeld (Or.inl ⟨by rfl, ?_⟩) ?_
        · (intro W9 hSw; obtain ⟨v1, v2, v3, v4⟩ := hSw; go_simp; (try (first | with_reducible rfl | rfl | (simp; done))))
        try simp only [Act.put, List.setIfInBounds_toArray, List.set_cons_zero, List.set_cons_succ]
        refine wpG_done (by kernel_rfl) ?_ _
        go_wp2_with fail
        go_meet
        exact ⟨rfl, HF⟩
    case rest =>
      obtain ⟨rfl, HG⟩ := hcut
      have HBC := Lib.hid (HB1.out.trans (HG.out.mono HB1.out.size))
      have HKC := Lib.hid (HK1.out.below HG.out HK1.out.lt)
      have HPC := Lib.hid (HP1.out.below HG.out HP1.out.lt)
      have HZC := Lib.hid (HZ1.out.below HG.out HZ1.out.lt)
      cases fit with
      | true =>
        have HF := Lib.hid (addP_fit HV.out HNLT.out hfit)
        clear hfit
        have HB7 := HBC
        have HSK := HKC
        have HPB7 := HPC
        have HZ7 := HZC
        have HRB7 := Lib.hid (HRS.out.below HBC.out).b
        have HPL7 := Lib.hid (HRS.out.below HBC.out).l
        have HSC7 := Lib.hid (fun (W : World) (hb : Below wc.heap.size wc W) => (show Ad5 w.heap.size (.slice Al nl cl) t f (.slice A n c) W from (Ad5.of HSK.out HPB7.out).below hb))
        have HPL := Lib.hid (fun (W : World) (hb : Below wc.heap.size wc W) => HPL7.out.below hb)
        have HNE := Lib.hid (show w.heap.size + 1 ≠ w.heap.size by omega)
        go_upto_region 7 with fail
        have HBc := Lib.hid (below_drew (Below.refl wc.heap.size wc))
        refine wp_region_G (S0 := (Ad5 w.heap.size (.slice Al nl cl) t f (.slice A n c))) (S1 := (Ad1 w.heap.size t)) (c := 9) (by kernel_rfl) ?_
        have hHeld := (HSC7.out _ (below_drew (Below.refl _ _)))
        have h01 := (fun (W : World) (h : (Ad5 w.heap.size (.slice Al nl cl) t f (.slice A n c)) W) => h.2.1)
        refine wpG_takeA (i := 0) (oi := ⟨some 26, _, _, _, _, _⟩) (v := .pointer (some ⟨w.heap.size, 1, none⟩)) rfl (by kernel_rfl) (by kernel_rfl) (by kernel_rfl) (by decide) (fun _ _ _ h => h) h01 rfl hHeld (Or.inl ⟨by rfl, ?_⟩) ?_
        · (intro W9 hSw; have v2 := hSw; unfold Ad1 at v2; go_simp; (try (first | with_reducible rfl | rfl | (simp; done))))
        try simp only [Act.put, List.setIfInBounds_toArray, List.set_cons_zero, List.set_cons_succ]
        refine wpG_take0 (i := 1) (oi := ⟨some 27, _, _, _, _, _⟩) (v := .slice Al nl cl) rfl (by kernel_rfl) (by kernel_rfl) (by kernel_rfl) (by decide) (by kernel_rfl) (fun _ _ _ h => h) rfl hHeld (Or.inl ⟨by rfl, ?_⟩) ?_
        · (intro W9 hSw; obtain ⟨v1, v2, v3, v4⟩ := hSw; go_simp; (try (first | with_reducible rfl | rfl | (simp; done))))
        try simp only [Act.put, List.setIfInBounds_toArray, List.set_cons_zero, List.set_cons_succ]
        refine wpG_take0 (i := 3) (oi := ⟨some 29, _, _, _, _, _⟩) (v := .agg #[.int .i64 t, .int .i64 f, .slice A n c]) rfl (by kernel_rfl) (by kernel_rfl) (by kernel_rfl) (by decide) (by kernel_rfl) (fun _ _ _ h => h) rfl hHeld (Or.inl ⟨by rfl, ?_⟩) ?_
        · (intro W9 hSw; obtain ⟨v1, v2, v3, v4⟩ := hSw; go_simp; (try (first | with_reducible rfl | rfl | (simp; done))))
        try simp only [Act.put, List.setIfInBounds_toArray, List.set_cons_zero, List.set_cons_succ]
        refine wpG_takeA (i := 6) (oi := ⟨some 32, _, _, _, _, _⟩) (v := .pointer (some ⟨w.heap.size + 1, 0, none⟩)) rfl (by kernel_rfl) (by kernel_rfl) (by kernel_rfl) (by decide) (fun _ _ _ h => h) h01 rfl hHeld (Or.inl ⟨by rfl, ?_⟩) ?_
        · (intro W9 hSw; have v2 := hSw; unfold Ad1 at v2; go_simp; (try (first | with_reducible rfl | rfl | (simp; done))))
        try simp only [Act.put, List.setIfInBounds_toArray, List.set_cons_zero, List.set_cons_succ]
        refine wpG_takeA (i := 7) (oi := ⟨some 33, _, _, _, _, _⟩) (v := .int .i64 t) rfl (by kernel_rfl) (by kernel_rfl) (by kernel_rfl) (by decide) (fun _ _ _ h => h) h01 rfl hHeld (Or.inl ⟨by rfl, ?_⟩) ?_
        · (intro W9 hSw; have v2 := hSw; unfold Ad1 at v2; go_simp; (try (first | with_reducible rfl | rfl | (simp; done))))
        try simp only [Act.put, List.setIfInBounds_toArray, List.set_cons_zero, List.set_cons_succ]
        refine wpG_twoA (i := 2) (j := 4) (oi := ⟨some 28, _, _, _, _, _⟩) (oj := ⟨some 30, _, _, _, _, _⟩) (by kernel_rfl) rfl rfl rfl rfl (fun K hK => ?_) (fun K hK => ?_)
        · have hcur := fun (W9 : World) (hg : World.grownBy (wc.drew) W9 none) => (show Below (wc.drew).heap.size (wc.drew) W9 from (Below.refl _ _).grown hg (Nat.le_refl _) (fun k hk => by cases hk))
          refine step_clone_sz (base := wc.heap.size) rfl (.const (.slice none 0 0)) (.tmp 27) 22 rfl elP rfl rfl (HPL.out _ HBc.out).h (HPL.out _ HBc.out).z (cells_one ds) (by have := HM.out; unfold maxLen; omega) (by have := HM.out; omega) HBc.out.size ?_
          intro v4 w4 hown hg
          obtain ⟨A4, c4, rfl, -⟩ := own_formS hown
          have hb4 := hcur _ hg
          have hbn := hb4
          have HBp := HBc
          have HBc := Lib.hid (HBp.out.trans (hbn.mono HBp.out.size))
          (try have HNc := Lib.hid (HNc.out.keep (hbn.mono (Nat.le_refl _))))
          have HOc := Lib.hid hown
          clear hown hg hb4 hcur
          refine hK.out _ _ (HSC7.out _ HBc.out) (fun hHeld => ?_)
          clear hbn
          clear hK K
          try simp only [Act.put, List.setIfInBounds_toArray, List.set_cons_zero, List.set_cons_succ]
          refine wpG_oneA (i := 4) (o := ⟨some 30, _, _, _, _, _⟩) (by kernel_rfl) rfl rfl (fun K hK => ?_)
          go_simp
          have hbn := (show Below w4.heap.size w4 (w4.alloc (.cells #[.int .i64 t, .int .i64 f, .slice A n c] 31)) from (Below.refl w4.heap.size w4).alloc (Nat.le_refl _) (.cells #[.int .i64 t, .int .i64 f, .slice A n c] 31))
          have HBp := HBc
          have HBc := Lib.hid (HBp.out.trans (hbn.mono HBp.out.size))
          have HNc : Hid (HoldsS (w4.alloc (.cells #[.int .i64 t, .int .i64 f, .slice A n c] 31)) 3 (some ⟨w4.heap.size, 0, none⟩) 1 [.int .i64 t, .int .i64 f, .slice A n c]) := Lib.hid (HoldsS.new w4 3 1 [.int .i64 t, .int .i64 f, .slice A n c] 31 rfl)
          (try have HOc := Lib.hid (own_alloc (o := (.cells #[.int .i64 t, .int .i64 f, .slice A n c] 31)) HOc.out))
          refine hK.out _ _ (HSC7.out _ HBc.out) (fun hHeld => ?_)
          clear hbn
          clear hK K
          try simp only [Act.put, List.setIfInBounds_toArray, List.set_cons_zero, List.set_cons_succ]
          refine wpG_oneA (i := 5) (o := ⟨some 31, _, _, _, _, _⟩) (by kernel_rfl) rfl rfl (fun K hK => ?_)
          refine step_app_sz (base := wc.heap.size) (n := nl) (m := 1) (xs := ds.flatMap Pd.cells) (news := [.int .i64 t, .int .i64 f, .slice A n c]) rfl (.tmp 28) (.tmp 30) 22 rfl elP rfl HOc.out rfl HNc.out (by simp [Value.oneCell']) (by have := HM.out; unfold maxLen; omega) (by have := HM.out; omega) HBc.out.size (by simp) ?_
          intro v9 w9 hown hg
          obtain ⟨A5, c5, rfl, -⟩ := own_formS hown
          have HB9 := Lib.hid (below_own HBc.out HBc.out.size HOc.out hg)
          have HO9 := Lib.hid (show w9.ownsRow wc.heap.size 31 3 (.slice A5 (nl + 1) c5) (nl + 1) ((ds ++ [(⟨t, f, A, n, c, d⟩ : Pd)]).flatMap Pd.cells) from by simpa [Pd.cells] using hown)
          clear hown hg
          refine hK.out _ _ (HSC7.out _ HB9.out) (fun hHeld => ?_)
          clear hK K
          try simp only [Act.put, List.setIfInBounds_toArray, List.set_cons_zero, List.set_cons_succ]
          refine wpG_takeA (i := 8) (oi := ⟨some 34, _, _, _, _, _⟩) (v := .pointer (some ⟨w.heap.size, 1, none⟩)) rfl (by kernel_rfl) (by kernel_rfl) (by kernel_rfl) (by decide) (fun _ _ _ h => h) h01 rfl hHeld (Or.inl ⟨by rfl, ?_⟩) ?_
          · (intro W9 hSw; have v2 := hSw; unfold Ad1 at v2; go_simp; (try (first | with_reducible rfl | rfl | (simp; done))))
          try simp only [Act.put, List.setIfInBounds_toArray, List.set_cons_zero, List.set_cons_succ]
          refine wpG_oneB (i := 9) (o := ⟨none, _, _, _, _, _⟩) (by kernel_rfl) rfl rfl (fun K hK => ?_)
          have hks := HSK.out.below HB9.out HSK.out.lt
          have kq := hks.cell 1
          simp at kq
          have kz := hks.frozen 1
          go_simp
          refine hK.out _ _ (Ad1.of HPB7.out HB9.out HNE.out) (fun hHeld => ?_)
          clear kq kz hks
          clear hK K
          try simp only [Act.put, List.setIfInBounds_toArray, List.set_cons_zero, List.set_cons_succ]
          refine wpG_takeB (i := 10) (oi := ⟨some 35, _, _, _, _, _⟩) (v := .pointer (some ⟨w.heap.size, 2, none⟩)) rfl (by kernel_rfl) (by kernel_rfl) (by kernel_rfl) (by decide) (fun _ _ _ h => h) h01 rfl hHeld (Or.inl ⟨by rfl, ?_⟩) ?_
          · (intro W9 hSw; have v2 := hSw; unfold Ad1 at v2; go_simp; (try (first | with_reducible rfl | rfl | (simp; done))))
          try simp only [Act.put, List.setIfInBounds_toArray, List.set_cons_zero, List.set_cons_succ]
          refine wpG_oneB (i := 11) (o := ⟨none, _, _, _, _, _⟩) (by kernel_rfl) rfl rfl (fun K hK => ?_)
          have hks := (HSK.out.below HB9.out HSK.out.lt).set_ 1 (.slice A5 (nl + 1) c5)
          simp only [List.setIfInBounds_toArray, List.set_cons_zero, List.set_cons_succ] at hks
          have kq := hks.cell 2
          simp at kq
          have kz := hks.frozen 2
          go_simp
          refine hK.out _ _ (Ad1.of2 HPB7.out HB9.out HNE.out) (fun hHeld => ?_)
          clear kq kz hks
          clear hK K
          try simp only [Act.put, List.setIfInBounds_toArray, List.set_cons_zero, List.set_cons_succ]
          refine wpG_done (by kernel_rfl) ?_ _
          obtain ⟨Wf, hWf⟩ : ∃ Wf, (w9.setCell ⟨w.heap.size, 1, none⟩ (.slice A5 (nl + 1) c5)).setCell ⟨w.heap.size, 2, none⟩ (.int .i64 t) = Wf := ⟨_, rfl⟩
          have hk9 := HSK.out.below HB9.out HSK.out.lt
          have hks := (hk9.set_ 1 (.slice A5 (nl + 1) c5)).set_ 2 (.int .i64 t)
          simp only [List.setIfInBounds_toArray, List.set_cons_zero, List.set_cons_succ] at hks
          have hon7 : Only (fun k => k = w.heap.size) w9 ((w9.setCell ⟨w.heap.size, 1, none⟩ (.slice A5 (nl + 1) c5)).setCell ⟨w.heap.size, 2, none⟩ (.int .i64 t)) := Only.set (p := fun k => k = w.heap.size) (Only.set (p := fun k => k = w.heap.size) (Only.refl _ w9) (fun _ => rfl) 1 _) (fun _ => rfl) 2 _
          have hzs := (HZ7.out.below HB9.out HZ7.out.lt).only hon7 (by omega)
          have hos := own_only HO9.out hon7 fun k hk e => own_neP HO9.out hk9 (by decide) (e ▸ hk)
          have hbs := (HB7.out.trans (HB9.out.mono HB7.out.size)).trans ((hon7.to_below (show w.heap.size ≤ w9.heap.size by have := HB7.out.size; have := HB9.out.size; omega) fun b hb e => by omega).mono (Nat.le_refl _))
          have hrs := (HRB7.out.below HB9.out).only_blk hk9 hon7
          rw [hWf] at hks hzs hos hbs hrs ⊢
          have HKF := Lib.hid hks
          have HZF := Lib.hid hzs
          have HOF := Lib.hid hos
          have HBF := Lib.hid hbs
          have HRF := Lib.hid hrs
          clear hWf hks hzs hos hbs hrs hHeld h01 hon7 hk9
          have e0 := HKF.out.cell 0
          have e1 := HKF.out.cell 1
          have e2 := HKF.out.cell 2
          have z0 := HZF.out.cell 0
          have z1 := HZF.out.cell 1
          have z2 := HZF.out.cell 2
          simp at e0 e1 e2 z0 z1 z2
          have f0 := HZF.out.frozen 0
          have f1 := HZF.out.frozen 1
          have f2 := HZF.out.frozen 2
          go_wp2_with fail
          obtain ⟨hz9, ho9⟩ := st3 (x := .slice Ab nb cb) (y := .slice A5 (nl + 1) c5) (z := .int .i64 t) HZF.out
          have hb9 := HBF.out.trans ((ho9.to_below HBF.out.size fun b hb e => by omega).mono (Nat.le_refl _))
          have ho10 := own_only HOF.out ho9 fun k hk e => own_neP HOF.out HZF.out (by decide) (e ▸ hk)
          refine bodyPost_ret (v := .tuple #[refV Ab nb cb A5 (nl + 1) c5 t, .int .i64 0]) (results_row_tmp (p := 4) (u := 5) (ty := 48) rfl _ _ (w.heap.size + 1 + 1) 48 _ _ rfl hz9 Try.underlying48 rfl (by kernel_rfl)) rfl ⟨_, by rw [HF.out], ⟨Ab, nb, cb, A5, nl + 1, c5, ds ++ [⟨t, f, A, n, c, d⟩], by rw [HF.out], ?_, ⟨HFB.out, own_F ho10 (fun k hk => Nat.lt_of_lt_of_le (HFF.out k hk) (by first | exact HBC.out.size | exact HB7.out.size)), fun p hp => (List.mem_append.1 hp).elim (HFD.out p) (fun h1 => by rw [List.mem_singleton.1 h1]; exact HFN.out)⟩⟩, hb9⟩
          have hok := addP_ok HRS.out.ok ⟨t, f, d⟩
          rw [HF.out] at hok ⊢
          exact ⟨HRF.out.only_blk HZF.out ho9, own_PL ho10 (fun q hq => HPR0.out _ hb9 q hq) (by rw [List.length_append, HDL.out]; rfl), HPK.out, hok⟩
        · go_simp
          have hbn := (show Below (wc.drew).heap.size (wc.drew) ((wc.alloc (.cells #[.int .i64 t, .int .i64 f, .slice A n c] 31)).drew) from (Below.refl (wc.drew).heap.size (wc.drew)).alloc (Nat.le_refl _) (.cells #[.int .i64 t, .int .i64 f, .slice A n c] 31))
          have HBp := HBc
          have HBc := Lib.hid (HBp.out.trans (hbn.mono HBp.out.size))
          have HNc : Hid (HoldsS ((wc.alloc (.cells #[.int .i64 t, .int .i64 f, .slice A n c] 31)).drew) 3 (some ⟨wc.heap.size, 0, none⟩) 1 [.int .i64 t, .int .i64 f, .slice A n c]) := Lib.hid (HoldsS.new (wc.drew) 3 1 [.int .i64 t, .int .i64 f, .slice A n c] 31 rfl)
          (try have HOc := Lib.hid (own_alloc (o := (.cells #[.int .i64 t, .int .i64 f, .slice A n c] 31)) HOc.out))
          refine hK.out _ _ (HSC7.out _ HBc.out) (fun hHeld => ?_)
          clear hbn
          clear hK K
          try simp only [Act.put, List.setIfInBounds_toArray, List.set_cons_zero, List.set_cons_succ]
          refine wpG_oneA (i := 2) (o := ⟨some 28, _, _, _, _, _⟩) (by kernel_rfl) rfl rfl (fun K hK => ?_)
          have hcur := fun (W9 : World) (hg : World.grownBy ((wc.alloc (.cells #[.int .i64 t, .int .i64 f, .slice A n c] 31)).drew) W9 none) => (show Below ((wc.alloc (.cells #[.int .i64 t, .int .i64 f, .slice A n c] 31)).drew).heap.size ((wc.alloc (.cells #[.int .i64 t, .int .i64 f, .slice A n c] 31)).drew) W9 from (Below.refl _ _).grown hg (Nat.le_refl _) (fun k hk => by cases hk))
          refine step_clone_sz (base := wc.heap.size) rfl (.const (.slice none 0 0)) (.tmp 27) 22 rfl elP rfl rfl (HPL.out _ HBc.out).h (HPL.out _ HBc.out).z (cells_one ds) (by have := HM.out; unfold maxLen; omega) (by have := HM.out; omega) HBc.out.size ?_
          intro v4 w4 hown hg
          obtain ⟨A4, c4, rfl, -⟩ := own_formS hown
          have hb4 := hcur _ hg
          have hbn := hb4
          have HBp := HBc
          have HBc := Lib.hid (HBp.out.trans (hbn.mono HBp.out.size))
          (try have HNc := Lib.hid (HNc.out.keep (hbn.mono (Nat.le_refl _))))
          have HOc := Lib.hid hown
          clear hown hg hb4 hcur
          refine hK.out _ _ (HSC7.out _ HBc.out) (fun hHeld => ?_)
          clear hbn
          clear hK K
          try simp only [Act.put, List.setIfInBounds_toArray, List.set_cons_zero, List.set_cons_succ]
          refine wpG_oneA (i := 5) (o := ⟨some 31, _, _, _, _, _⟩) (by kernel_rfl) rfl rfl (fun K hK => ?_)
          refine step_app_sz (base := wc.heap.size) (n := nl) (m := 1) (xs := ds.flatMap Pd.cells) (news := [.int .i64 t, .int .i64 f, .slice A n c]) rfl (.tmp 28) (.tmp 30) 22 rfl elP rfl HOc.out rfl HNc.out (by simp [Value.oneCell']) (by have := HM.out; unfold maxLen; omega) (by have := HM.out; omega) HBc.out.size (by simp) ?_
          intro v9 w9 hown hg
          obtain ⟨A5, c5, rfl, -⟩ := own_formS hown
          have HB9 := Lib.hid (below_own HBc.out HBc.out.size HOc.out hg)
          have HO9 := Lib.hid (show w9.ownsRow wc.heap.size 31 3 (.slice A5 (nl + 1) c5) (nl + 1) ((ds ++ [(⟨t, f, A, n, c, d⟩ : Pd)]).flatMap Pd.cells) from by simpa [Pd.cells] using hown)
          clear hown hg
          refine hK.out _ _ (HSC7.out _ HB9.out) (fun hHeld => ?_)
          clear hK K
          try simp only [Act.put, List.setIfInBounds_toArray, List.set_cons_zero, List.set_cons_succ]
          refine wpG_takeA (i := 8) (oi := ⟨some 34, _, _, _, _, _⟩) (v := .pointer (some ⟨w.heap.size, 1, none⟩)) rfl (by kernel_rfl) (by kernel_rfl) (by kernel_rfl) (by decide) (fun _ _ _ h => h) h01 rfl hHeld (Or.inl ⟨by rfl, ?_⟩) ?_
          · (intro W9 hSw; have v2 := hSw; unfold Ad1 at v2; go_simp; (try (first | with_reducible rfl | rfl | (simp; done))))
          try simp only [Act.put, List.setIfInBounds_toArray, List.set_cons_zero, List.set_cons_succ]
          refine wpG_oneB (i := 9) (o := ⟨none, _, _, _, _, _⟩) (by kernel_rfl) rfl rfl (fun K hK => ?_)
          have hks := HSK.out.below HB9.out HSK.out.lt
          have kq := hks.cell 1
          simp at kq
          have kz := hks.frozen 1
          go_simp
          refine hK.out _ _ (Ad1.of HPB7.out HB9.out HNE.out) (fun hHeld => ?_)
          clear kq kz hks
          clear hK K
          try simp only [Act.put, List.setIfInBounds_toArray, List.set_cons_zero, List.set_cons_succ]
          refine wpG_takeB (i := 10) (oi := ⟨some 35, _, _, _, _, _⟩) (v := .pointer (some ⟨w.heap.size, 2, none⟩)) rfl (by kernel_rfl) (by kernel_rfl) (by kernel_rfl) (by decide) (fun _ _ _ h => h) h01 rfl hHeld (Or.inl ⟨by rfl, ?_⟩) ?_
          · (intro W9 hSw; have v2 := hSw; unfold Ad1 at v2; go_simp; (try (first | with_reducible rfl | rfl | (simp; done))))
          try simp only [Act.put, List.setIfInBounds_toArray, List.set_cons_zero, List.set_cons_succ]
          refine wpG_oneB (i := 11) (o := ⟨none, _, _, _, _, _⟩) (by kernel_rfl) rfl rfl (fun K hK => ?_)
          have hks := (HSK.out.below HB9.out HSK.out.lt).set_ 1 (.slice A5 (nl + 1) c5)
          simp only [List.setIfInBounds_toArray, List.set_cons_zero, List.set_cons_succ] at hks
          have kq := hks.cell 2
          simp at kq
          have kz := hks.frozen 2
          go_simp
          refine hK.out _ _ (Ad1.of2 HPB7.out HB9.out HNE.out) (fun hHeld => ?_)
          clear kq kz hks
          clear hK K
          try simp only [Act.put, List.setIfInBounds_toArray, List.set_cons_zero, List.set_cons_succ]
          refine wpG_done (by kernel_rfl) ?_ _
          obtain ⟨Wf, hWf⟩ : ∃ Wf, (w9.setCell ⟨w.heap.size, 1, none⟩ (.slice A5 (nl + 1) c5)).setCell ⟨w.heap.size, 2, none⟩ (.int .i64 t) = Wf := ⟨_, rfl⟩
          have hk9 := HSK.out.below HB9.out HSK.out.lt
          have hks := (hk9.set_ 1 (.slice A5 (nl + 1) c5)).set_ 2 (.int .i64 t)
          simp only [List.setIfInBounds_toArray, List.set_cons_zero, List.set_cons_succ] at hks
          have hon7 : Only (fun k => k = w.heap.size) w9 ((w9.setCell ⟨w.heap.size, 1, none⟩ (.slice A5 (nl + 1) c5)).setCell ⟨w.heap.size, 2, none⟩ (.int .i64 t)) := Only.set (p := fun k => k = w.heap.size) (Only.set (p := fun k => k = w.heap.size) (Only.refl _ w9) (fun _ => rfl) 1 _) (fun _ => rfl) 2 _
          have hzs := (HZ7.out.below HB9.out HZ7.out.lt).only hon7 (by omega)
          have hos := own_only HO9.out hon7 fun k hk e => own_neP HO9.out hk9 (by decide) (e ▸ hk)
          have hbs := (HB7.out.trans (HB9.out.mono HB7.out.size)).trans ((hon7.to_below (show w.heap.size ≤ w9.heap.size by have := HB7.out.size; have := HB9.out.size; omega) fun b hb e => by omega).mono (Nat.le_refl _))
          have hrs := (HRB7.out.below HB9.out).only_blk hk9 hon7
          rw [hWf] at hks hzs hos hbs hrs ⊢
          have HKF := Lib.hid hks
          have HZF := Lib.hid hzs
          have HOF := Lib.hid hos
          have HBF := Lib.hid hbs
          have HRF := Lib.hid hrs
          clear hWf hks hzs hos hbs hrs hHeld h01 hon7 hk9
          have e0 := HKF.out.cell 0
          have e1 := HKF.out.cell 1
          have e2 := HKF.out.cell 2
          have z0 := HZF.out.cell 0
          have z1 := HZF.out.cell 1
          have z2 := HZF.out.cell 2
          simp at e0 e1 e2 z0 z1 z2
          have f0 := HZF.out.frozen 0
          have f1 := HZF.out.frozen 1
          have f2 := HZF.out.frozen 2
          go_wp2_with fail
          obtain ⟨hz9, ho9⟩ := st3 (x := .slice Ab nb cb) (y := .slice A5 (nl + 1) c5) (z := .int .i64 t) HZF.out
          have hb9 := HBF.out.trans ((ho9.to_below HBF.out.size fun b hb e => by omega).mono (Nat.le_refl _))
          have ho10 := own_only HOF.out ho9 fun k hk e => own_neP HOF.out HZF.out (by decide) (e ▸ hk)
          refine bodyPost_ret (v := .tuple #[refV Ab nb cb A5 (nl + 1) c5 t, .int .i64 0]) (results_row_tmp (p := 4) (u := 5) (ty := 48) rfl _ _ (w.heap.size + 1 + 1) 48 _ _ rfl hz9 Try.underlying48 rfl (by kernel_rfl)) rfl ⟨_, by rw [HF.out], ⟨Ab, nb, cb, A5, nl + 1, c5, ds ++ [⟨t, f, A, n, c, d⟩], by rw [HF.out], ?_, ⟨HFB.out, own_F ho10 (fun k hk => Nat.lt_of_lt_of_le (HFF.out k hk) (by first | exact HBC.out.size | exact HB7.out.size)), fun p hp => (List.mem_append.1 hp).elim (HFD.out p) (fun h1 => by rw [List.mem_singleton.1 h1]; exact HFN.out)⟩⟩, hb9⟩
          have hok := addP_ok HRS.out.ok ⟨t, f, d⟩
          rw [HF.out] at hok ⊢
          exact ⟨HRF.out.only_blk HZF.out ho9, own_PL ho10 (fun q hq => HPR0.out _ hb9 q hq) (by rw [List.length_append, HDL.out]; rfl), HPK.out, hok⟩
      | false =>
        have HF := Lib.hid (addP_new HV.out HNLT.out hfit)
        clear hfit
        have C46 := Lib.hid ((rclose_any F Ab nb cb Al nl cl ds s wc (HRS.out.below HBC.out) HL.out (fun k hk => Nat.lt_of_lt_of_le (HFF.out k hk) HBC.out.size) ⟨HFB.out, HFL.out, HFD.out⟩).mono (R' := fun e w' => ∃ (Ab2 : Option Addr) (nb2 cb2 : Nat) (Al2 : Option Addr) (nl2 cl2 : Nat) (ds2 : List Pd), FP F Ab2 nb2 Al2 nl2 ds2 ∧ e = .returned (.agg #[.slice Ab2 nb2 cb2, .slice Al2 nl2 cl2, .int .i64 last]) ∧ RB w' Ab2 nb2 cb2 (closeP s).b ∧ PL w' Al2 nl2 cl2 ds2 ∧ ds2 = [] ∧ nl2 = 0 ∧ Below wc.heap.size wc w') fun e w' h => by
          obtain ⟨v, h1, ⟨Ab2, nb2, cb2, Al2, nl2, cl2, ds2, h2, h3, h6⟩, h4⟩ := h
          have h5 : ds2 = [] := by have := h3.eq; rw [closeP_l] at this; exact List.map_eq_nil_iff.1 this
          refine ⟨Ab2, nb2, cb2, Al2, nl2, cl2, ds2, h6, ?_, h3.b, h3.l, h5, by rw [← h3.l.len, h5]; rfl, h4⟩
          rw [h1, h2, closeP_last, HLA.out]
          rfl)
        rw [HLA.out] at C46
        unfold refV at C46
        have e0 := HKC.out.cell 0
        have e1 := HKC.out.cell 1
        have e2 := HKC.out.cell 2
        simp at e0 e1 e2
        go_upto_region 7 with (go_at_call 46; (with_reducible refine C46.out.mono ?_); rintro e w25 ⟨Ab, nb, cb, Al, nl, cl, ds, hfp, rfl, hrb, hpl, hds, hnl, b25⟩; have HFB := Lib.hid hfp.1; have HFD := Lib.hid hfp.2.2; clear hfp; have HB25 := Lib.hid b25; have HRB25 := Lib.hid hrb; have HPL25 := Lib.hid hpl; have HDS := Lib.hid hds; have HNL0 := Lib.hid hnl; have HK25 := Lib.hid (HKC.out.below b25 HKC.out.lt); clear hrb hpl hds hnl b25 e0 e1 e2; have e0 := HK25.out.cell 0; have e1 := HK25.out.cell 1; have e2 := HK25.out.cell 2; simp at e0 e1 e2; have f0 := HK25.out.frozen 0; have f1 := HK25.out.frozen 1; have f2 := HK25.out.frozen 2)
        obtain ⟨hsk, hoo⟩ := st3 (x := .slice Ab nb cb) (y := .slice Al nl cl) (z := .int .i64 last) HK25.out
        have hb25 := HBC.out.trans (HB25.out.mono HBC.out.size)
        have hb7 := hb25.trans ((hoo.to_below hb25.size fun b hb e => by omega).mono (Nat.le_refl _))
        have hpb := (HPC.out.below HB25.out HPC.out.lt).only hoo (by omega)
        have hzz := (HZC.out.below HB25.out HZC.out.lt).only hoo (by omega)
        have hrb7 := HRB25.out.only_blk HK25.out hoo
        obtain ⟨W7, hW7⟩ : ∃ W7, ((w25.setCell ⟨w.heap.size, 0, none⟩ (.slice Ab nb cb)).setCell ⟨w.heap.size, 1, none⟩ (.slice Al nl cl)).setCell ⟨w.heap.size, 2, none⟩ (.int .i64 last) = W7 := ⟨_, rfl⟩
        rw [hW7] at hsk hb7 hpb hzz hrb7 ⊢
        have HB7 := Lib.hid hb7
        have HSK := Lib.hid hsk
        have HPB7 := Lib.hid hpb
        have HZ7 := Lib.hid hzz
        have HRB7 := Lib.hid hrb7
        have HPL7 : Hid (PL W7 Al nl cl ds) := Lib.hid (by
          have h := HPL25.out
          have h1 := HDS.out
          subst h1
          exact ⟨h.len, ⟨h.h.1, h.h.2.1, fun b hA j u hu => by simp at hu⟩, h.mc, h.cm, h.z, fun p hp => by cases hp⟩)
        have HM := Lib.hid (show nl ≤ 64 by have := HNL0.out; omega)
        have HDL := Lib.hid HPL25.out.len
        have HPR0 : Hid (∀ W : World, Below w.heap.size w W → ∀ q ∈ ds ++ [(⟨t, f, A, n, c, d⟩ : Pd)], PdR W q) := Lib.hid fun W hb q hq => HPR0.out W hb q (by
          rw [HDS.out] at hq
          exact List.mem_append.2 (.inr hq))
        have HPK : Hid (pks (ds ++ [(⟨t, f, A, n, c, d⟩ : Pd)]) = [⟨t, f, d⟩]) := Lib.hid (by rw [HDS.out]; rfl)
        clear e0 e1 e2 f0 f1 f2 hsk hoo hb25 hb7 hpb hzz hrb7 hW7
        have HSC7 := Lib.hid (fun (W : World) (hb : Below W7.heap.size W7 W) => (show Ad5 w.heap.size (.slice Al nl cl) t f (.slice A n c) W from (Ad5.of HSK.out HPB7.out).below hb))
        have HPL := Lib.hid (fun (W : World) (hb : Below W7.heap.size W7 W) => HPL7.out.below hb)
        have HNE := Lib.hid (show w.heap.size + 1 ≠ w.heap.size by omega)
        have HBc := Lib.hid (below_drew (Below.refl W7.heap.size W7))
        refine wp_region_G (S0 := (Ad5 w.heap.size (.slice Al nl cl) t f (.slice A n c))) (S1 := (Ad1 w.heap.size t)) (c := 9) (by kernel_rfl) ?_
        have hHeld := (HSC7.out _ (below_drew (Below.refl _ _)))
        have h01 := (fun (W : World) (h : (Ad5 w.heap.size (.slice Al nl cl) t f (.slice A n c)) W) => h.2.1)
        refine wpG_takeA (i := 0) (oi := ⟨some 26, _, _, _, _, _⟩) (v := .pointer (some ⟨w.heap.size, 1, none⟩)) rfl (by kernel_rfl) (by kernel_rfl) (by kernel_rfl) (by decide) (fun _ _ _ h => h) h01 rfl hHeld (Or.inl ⟨by rfl, ?_⟩) ?_
        · (intro W9 hSw; have v2 := hSw; unfold Ad1 at v2; go_simp; (try (first | with_reducible rfl | rfl | (simp; done))))
        try simp only [Act.put, List.setIfInBounds_toArray, List.set_cons_zero, List.set_cons_succ]
        refine wpG_take0 (i := 1) (oi := ⟨some 27, _, _, _, _, _⟩) (v := .slice Al nl cl) rfl (by kernel_rfl) (by kernel_rfl) (by kernel_rfl) (by decide) (by kernel_rfl) (fun _ _ _ h => h) rfl hHeld (Or.inl ⟨by rfl, ?_⟩) ?_
        · (intro W9 hSw; obtain ⟨v1, v2, v3, v4⟩ := hSw; go_simp; (try (first | with_reducible rfl | rfl | (simp; done))))
        try simp only [Act.put, List.setIfInBounds_toArray, List.set_cons_zero, List.set_cons_succ]
        refine wpG_take0 (i := 3) (oi := ⟨some 29, _, _, _, _, _⟩) (v := .agg #[.int .i64 t, .int .i64 f, .slice A n c]) rfl (by kernel_rfl) (by kernel_rfl) (by kernel_rfl) (by decide) (by kernel_rfl) (fun _ _ _ h => h) rfl hHeld (Or.inl ⟨by rfl, ?_⟩) ?_
        · (intro W9 hSw; obtain ⟨v1, v2, v3, v4⟩ := hSw; go_simp; (try (first | with_reducible rfl | rfl | (simp; done))))
        try simp only [Act.put, List.setIfInBounds_toArray, List.set_cons_zero, List.set_cons_succ]
        refine wpG_takeA (i := 6) (oi := ⟨some 32, _, _, _, _, _⟩) (v := .pointer (some ⟨w.heap.size + 1, 0, none⟩)) rfl (by kernel_rfl) (by kernel_rfl) (by kernel_rfl) (by decide) (fun _ _ _ h => h) h01 rfl hHeld (Or.inl ⟨by rfl, ?_⟩) ?_
        · (intro W9 hSw; have v2 := hSw; unfold Ad1 at v2; go_simp; (try (first | with_reducible rfl | rfl | (simp; done))))
        try simp only [Act.put, List.setIfInBounds_toArray, List.set_cons_zero, List.set_cons_succ]
        refine wpG_takeA (i := 7) (oi := ⟨some 33, _, _, _, _, _⟩) (v := .int .i64 t) rfl (by kernel_rfl) (by kernel_rfl) (by kernel_rfl) (by decide) (fun _ _ _ h => h) h01 rfl hHeld (Or.inl ⟨by rfl, ?_⟩) ?_
        · (intro W9 hSw; have v2 := hSw; unfold Ad1 at v2; go_simp; (try (first | with_reducible rfl | rfl | (simp; done))))
        try simp only [Act.put, List.setIfInBounds_toArray, List.set_cons_zero, List.set_cons_succ]
        refine wpG_twoA (i := 2) (j := 4) (oi := ⟨some 28, _, _, _, _, _⟩) (oj := ⟨some 30, _, _, _, _, _⟩) (by kernel_rfl) rfl rfl rfl rfl (fun K hK => ?_) (fun K hK => ?_)
        · have hcur := fun (W9 : World) (hg : World.grownBy (W7.drew) W9 none) => (show Below (W7.drew).heap.size (W7.drew) W9 from (Below.refl _ _).grown hg (Nat.le_refl _) (fun k hk => by cases hk))
          refine step_clone_sz (base := W7.heap.size) rfl (.const (.slice none 0 0)) (.tmp 27) 22 rfl elP rfl rfl (HPL.out _ HBc.out).h (HPL.out _ HBc.out).z (cells_one ds) (by have := HM.out; unfold maxLen; omega) (by have := HM.out; omega) HBc.out.size ?_
          intro v4 w4 hown hg
          obtain ⟨A4, c4, rfl, -⟩ := own_formS hown
          have hb4 := hcur _ hg
          have hbn := hb4
          have HBp := HBc
          have HBc := Lib.hid (HBp.out.trans (hbn.mono HBp.out.size))
          (try have HNc := Lib.hid (HNc.out.keep (hbn.mono (Nat.le_refl _))))
          have HOc := Lib.hid hown
          clear hown hg hb4 hcur
          refine hK.out _ _ (HSC7.out _ HBc.out) (fun hHeld => ?_)
          clear hbn
          clear hK K
          try simp only [Act.put, List.setIfInBounds_toArray, List.set_cons_zero, List.set_cons_succ]
          refine wpG_oneA (i := 4) (o := ⟨some 30, _, _, _, _, _⟩) (by kernel_rfl) rfl rfl (fun K hK => ?_)
          go_simp
          have hbn := (show Below w4.heap.size w4 (w4.alloc (.cells #[.int .i64 t, .int .i64 f, .slice A n c] 31)) from (Below.refl w4.heap.size w4).alloc (Nat.le_refl _) (.cells #[.int .i64 t, .int .i64 f, .slice A n c] 31))
          have HBp := HBc
          have HBc := Lib.hid (HBp.out.trans (hbn.mono HBp.out.size))
          have HNc : Hid (HoldsS (w4.alloc (.cells #[.int .i64 t, .int .i64 f, .slice A n c] 31)) 3 (some ⟨w4.heap.size, 0, none⟩) 1 [.int .i64 t, .int .i64 f, .slice A n c]) := Lib.hid (HoldsS.new w4 3 1 [.int .i64 t, .int .i64 f, .slice A n c] 31 rfl)
          (try have HOc := Lib.hid (own_alloc (o := (.cells #[.int .i64 t, .int .i64 f, .slice A n c] 31)) HOc.out))
          refine hK.out _ _ (HSC7.out _ HBc.out) (fun hHeld => ?_)
          clear hbn
          clear hK K
          try simp only [Act.put, List.setIfInBounds_toArray, List.set_cons_zero, List.set_cons_succ]
          refine wpG_oneA (i := 5) (o := ⟨some 31, _, _, _, _, _⟩) (by kernel_rfl) rfl rfl (fun K hK => ?_)
          refine step_app_sz (base := W7.heap.size) (n := nl) (m := 1) (xs := ds.flatMap Pd.cells) (news := [.int .i64 t, .int .i64 f, .slice A n c]) rfl (.tmp 28) (.tmp 30) 22 rfl elP rfl HOc.out rfl HNc.out (by simp [Value.oneCell']) (by have := HM.out; unfold maxLen; omega) (by have := HM.out; omega) HBc.out.size (by simp) ?_
          intro v9 w9 hown hg
          obtain ⟨A5, c5, rfl, -⟩ := own_formS hown
          have HB9 := Lib.hid (below_own HBc.out HBc.out.size HOc.out hg)
          have HO9 := Lib.hid (show w9.ownsRow W7.heap.size 31 3 (.slice A5 (nl + 1) c5) (nl + 1) ((ds ++ [(⟨t, f, A, n, c, d⟩ : Pd)]).flatMap Pd.cells) from by simpa [Pd.cells] using hown)
          clear hown hg
          refine hK.out _ _ (HSC7.out _ HB9.out) (fun hHeld => ?_)
          clear hK K
          try simp only [Act.put, List.setIfInBounds_toArray, List.set_cons_zero, List.set_cons_succ]
          refine wpG_takeA (i := 8) (oi := ⟨some 34, _, _, _, _, _⟩) (v := .pointer (some ⟨w.heap.size, 1, none⟩)) rfl (by kernel_rfl) (by kernel_rfl) (by kernel_rfl) (by decide) (fun _ _ _ h => h) h01 rfl hHeld (Or.inl ⟨by rfl, ?_⟩) ?_
          · (intro W9 hSw; have v2 := hSw; unfold Ad1 at v2; go_simp; (try (first | with_reducible rfl | rfl | (simp; done))))
          try simp only [Act.put, List.setIfInBounds_toArray, List.set_cons_zero, List.set_cons_succ]
          refine wpG_oneB (i := 9) (o := ⟨none, _, _, _, _, _⟩) (by kernel_rfl) rfl rfl (fun K hK => ?_)
          have hks := HSK.out.below HB9.out HSK.out.lt
          have kq := hks.cell 1
          simp at kq
          have kz := hks.frozen 1
          go_simp
          refine hK.out _ _ (Ad1.of HPB7.out HB9.out HNE.out) (fun hHeld => ?_)
          clear kq kz hks
          clear hK K
          try simp only [Act.put, List.setIfInBounds_toArray, List.set_cons_zero, List.set_cons_succ]
          refine wpG_takeB (i := 10) (oi := ⟨some 35, _, _, _, _, _⟩) (v := .pointer (some ⟨w.heap.size, 2, none⟩)) rfl (by kernel_rfl) (by kernel_rfl) (by kernel_rfl) (by decide) (fun _ _ _ h => h) h01 rfl hHeld (Or.inl ⟨by rfl, ?_⟩) ?_
          · (intro W9 hSw; have v2 := hSw; unfold Ad1 at v2; go_simp; (try (first | with_reducible rfl | rfl | (simp; done))))
          try simp only [Act.put, List.setIfInBounds_toArray, List.set_cons_zero, List.set_cons_succ]
          refine wpG_oneB (i := 11) (o := ⟨none, _, _, _, _, _⟩) (by kernel_rfl) rfl rfl (fun K hK => ?_)
          have hks := (HSK.out.below HB9.out HSK.out.lt).set_ 1 (.slice A5 (nl + 1) c5)
          simp only [List.setIfInBounds_toArray, List.set_cons_zero, List.set_cons_succ] at hks
          have kq := hks.cell 2
          simp at kq
          have kz := hks.frozen 2
          go_simp
          refine hK.out _ _ (Ad1.of2 HPB7.out HB9.out HNE.out) (fun hHeld => ?_)
          clear kq kz hks
          clear hK K
          try simp only [Act.put, List.setIfInBounds_toArray, List.set_cons_zero, List.set_cons_succ]
          refine wpG_done (by kernel_rfl) ?_ _
          obtain ⟨Wf, hWf⟩ : ∃ Wf, (w9.setCell ⟨w.heap.size, 1, none⟩ (.slice A5 (nl + 1) c5)).setCell ⟨w.heap.size, 2, none⟩ (.int .i64 t) = Wf := ⟨_, rfl⟩
          have hk9 := HSK.out.below HB9.out HSK.out.lt
          have hks := (hk9.set_ 1 (.slice A5 (nl + 1) c5)).set_ 2 (.int .i64 t)
          simp only [List.setIfInBounds_toArray, List.set_cons_zero, List.set_cons_succ] at hks
          have hon7 : Only (fun k => k = w.heap.size) w9 ((w9.setCell ⟨w.heap.size, 1, none⟩ (.slice A5 (nl + 1) c5)).setCell ⟨w.heap.size, 2, none⟩ (.int .i64 t)) := Only.set (p := fun k => k = w.heap.size) (Only.set (p := fun k => k = w.heap.size) (Only.refl _ w9) (fun _ => rfl) 1 _) (fun _ => rfl) 2 _
          have hzs := (HZ7.out.below HB9.out HZ7.out.lt).only hon7 (by omega)
          have hos := own_only HO9.out hon7 fun k hk e => own_neP HO9.out hk9 (by decide) (e ▸ hk)
          have hbs := (HB7.out.trans (HB9.out.mono HB7.out.size)).trans ((hon7.to_below (show w.heap.size ≤ w9.heap.size by have := HB7.out.size; have := HB9.out.size; omega) fun b hb e => by omega).mono (Nat.le_refl _))
          have hrs := (HRB7.out.below HB9.out).only_blk hk9 hon7
          rw [hWf] at hks hzs hos hbs hrs ⊢
          have HKF := Lib.hid hks
          have HZF := Lib.hid hzs
          have HOF := Lib.hid hos
          have HBF := Lib.hid hbs
          have HRF := Lib.hid hrs
          clear hWf hks hzs hos hbs hrs hHeld h01 hon7 hk9
          have e0 := HKF.out.cell 0
          have e1 := HKF.out.cell 1
          have e2 := HKF.out.cell 2
          have z0 := HZF.out.cell 0
          have z1 := HZF.out.cell 1
          have z2 := HZF.out.cell 2
          simp at e0 e1 e2 z0 z1 z2
          have f0 := HZF.out.frozen 0
          have f1 := HZF.out.frozen 1
          have f2 := HZF.out.frozen 2
          go_wp2_with fail
          obtain ⟨hz9, ho9⟩ := st3 (x := .slice Ab nb cb) (y := .slice A5 (nl + 1) c5) (z := .int .i64 t) HZF.out
          have hb9 := HBF.out.trans ((ho9.to_below HBF.out.size fun b hb e => by omega).mono (Nat.le_refl _))
          have ho10 := own_only HOF.out ho9 fun k hk e => own_neP HOF.out HZF.out (by decide) (e ▸ hk)
          refine bodyPost_ret (v := .tuple #[refV Ab nb cb A5 (nl + 1) c5 t, .int .i64 0]) (results_row_tmp (p := 4) (u := 5) (ty := 48) rfl _ _ (w.heap.size + 1 + 1) 48 _ _ rfl hz9 Try.underlying48 rfl (by kernel_rfl)) rfl ⟨_, by rw [HF.out], ⟨Ab, nb, cb, A5, nl + 1, c5, ds ++ [⟨t, f, A, n, c, d⟩], by rw [HF.out], ?_, ⟨HFB.out, own_F ho10 (fun k hk => Nat.lt_of_lt_of_le (HFF.out k hk) (by first | exact HBC.out.size | exact HB7.out.size)), fun p hp => (List.mem_append.1 hp).elim (HFD.out p) (fun h1 => by rw [List.mem_singleton.1 h1]; exact HFN.out)⟩⟩, hb9⟩
          have hok := addP_ok HRS.out.ok ⟨t, f, d⟩
          rw [HF.out] at hok ⊢
          exact ⟨HRF.out.only_blk HZF.out ho9, own_PL ho10 (fun q hq => HPR0.out _ hb9 q hq) (by rw [List.length_append, HDL.out]; rfl), HPK.out, hok⟩
        · go_simp
          have hbn := (show Below (W7.drew).heap.size (W7.drew) ((W7.alloc (.cells #[.int .i64 t, .int .i64 f, .slice A n c] 31)).drew) from (Below.refl (W7.drew).heap.size (W7.drew)).alloc (Nat.le_refl _) (.cells #[.int .i64 t, .int .i64 f, .slice A n c] 31))
          have HBp := HBc
          have HBc := Lib.hid (HBp.out.trans (hbn.mono HBp.out.size))
          have HNc : Hid (HoldsS ((W7.alloc (.cells #[.int .i64 t, .int .i64 f, .slice A n c] 31)).drew) 3 (some ⟨W7.heap.size, 0, none⟩) 1 [.int .i64 t, .int .i64 f, .slice A n c]) := Lib.hid (HoldsS.new (W7.drew) 3 1 [.int .i64 t, .int .i64 f, .slice A n c] 31 rfl)
          (try have HOc := Lib.hid (own_alloc (o := (.cells #[.int .i64 t, .int .i64 f, .slice A n c] 31)) HOc.out))
          refine hK.out _ _ (HSC7.out _ HBc.out) (fun hHeld => ?_)
          clear hbn
          clear hK K
          try simp only [Act.put, List.setIfInBounds_toArray, List.set_cons_zero, List.set_cons_succ]
          refine wpG_oneA (i := 2) (o := ⟨some 28, _, _, _, _, _⟩) (by kernel_rfl) rfl rfl (fun K hK => ?_)
          have hcur := fun (W9 : World) (hg : World.grownBy ((W7.alloc (.cells #[.int .i64 t, .int .i64 f, .slice A n c] 31)).drew) W9 none) => (show Below ((W7.alloc (.cells #[.int .i64 t, .int .i64 f, .slice A n c] 31)).drew).heap.size ((W7.alloc (.cells #[.int .i64 t, .int .i64 f, .slice A n c] 31)).drew) W9 from (Below.refl _ _).grown hg (Nat.le_refl _) (fun k hk => by cases hk))
          refine step_clone_sz (base := W7.heap.size) rfl (.const (.slice none 0 0)) (.tmp 27) 22 rfl elP rfl rfl (HPL.out _ HBc.out).h (HPL.out _ HBc.out).z (cells_one ds) (by have := HM.out; unfold maxLen; omega) (by have := HM.out; omega) HBc.out.size ?_
          intro v4 w4 hown hg
          obtain ⟨A4, c4, rfl, -⟩ := own_formS hown
          have hb4 := hcur _ hg
          have hbn := hb4
          have HBp := HBc
          have HBc := Lib.hid (HBp.out.trans (hbn.mono HBp.out.size))
          (try have HNc := Lib.hid (HNc.out.keep (hbn.mono (Nat.le_refl _))))
          have HOc := Lib.hid hown
          clear hown hg hb4 hcur
          refine hK.out _ _ (HSC7.out _ HBc.out) (fun hHeld => ?_)
          clear hbn
          clear hK K
          try simp only [Act.put, List.setIfInBounds_toArray, List.set_cons_zero, List.set_cons_succ]
          refine wpG_oneA (i := 5) (o := ⟨some 31, _, _, _, _, _⟩) (by kernel_rfl) rfl rfl (fun K hK => ?_)
          refine step_app_sz (base := W7.heap.size) (n := nl) (m := 1) (xs := ds.flatMap Pd.cells) (news := [.int .i64 t, .int .i64 f, .slice A n c]) rfl (.tmp 28) (.tmp 30) 22 rfl elP rfl HOc.out rfl HNc.out (by simp [Value.oneCell']) (by have := HM.out; unfold maxLen; omega) (by have := HM.out; omega) HBc.out.size (by simp) ?_
          intro v9 w9 hown hg
          obtain ⟨A5, c5, rfl, -⟩ := own_formS hown
          have HB9 := Lib.hid (below_own HBc.out HBc.out.size HOc.out hg)
          have HO9 := Lib.hid (show w9.ownsRow W7.heap.size 31 3 (.slice A5 (nl + 1) c5) (nl + 1) ((ds ++ [(⟨t, f, A, n, c, d⟩ : Pd)]).flatMap Pd.cells) from by simpa [Pd.cells] using hown)
          clear hown hg
          refine hK.out _ _ (HSC7.out _ HB9.out) (fun hHeld => ?_)
          clear hK K
          try simp only [Act.put, List.setIfInBounds_toArray, List.set_cons_zero, List.set_cons_succ]
          refine wpG_takeA (i := 8) (oi := ⟨some 34, _, _, _, _, _⟩) (v := .pointer (some ⟨w.heap.size, 1, none⟩)) rfl (by kernel_rfl) (by kernel_rfl) (by kernel_rfl) (by decide) (fun _ _ _ h => h) h01 rfl hHeld (Or.inl ⟨by rfl, ?_⟩) ?_
          · (intro W9 hSw; have v2 := hSw; unfold Ad1 at v2; go_simp; (try (first | with_reducible rfl | rfl | (simp; done))))
          try simp only [Act.put, List.setIfInBounds_toArray, List.set_cons_zero, List.set_cons_succ]
          refine wpG_oneB (i := 9) (o := ⟨none, _, _, _, _, _⟩) (by kernel_rfl) rfl rfl (fun K hK => ?_)
          have hks := HSK.out.below HB9.out HSK.out.lt
          have kq := hks.cell 1
          simp at kq
          have kz := hks.frozen 1
          go_simp
          refine hK.out _ _ (Ad1.of HPB7.out HB9.out HNE.out) (fun hHeld => ?_)
          clear kq kz hks
          clear hK K
          try simp only [Act.put, List.setIfInBounds_toArray, List.set_cons_zero, List.set_cons_succ]
          refine wpG_takeB (i := 10) (oi := ⟨some 35, _, _, _, _, _⟩) (v := .pointer (some ⟨w.heap.size, 2, none⟩)) rfl (by kernel_rfl) (by kernel_rfl) (by kernel_rfl) (by decide) (fun _ _ _ h => h) h01 rfl hHeld (Or.inl ⟨by rfl, ?_⟩) ?_
          · (intro W9 hSw; have v2 := hSw; unfold Ad1 at v2; go_simp; (try (first | with_reducible rfl | rfl | (simp; done))))
          try simp only [Act.put, List.setIfInBounds_toArray, List.set_cons_zero, List.set_cons_succ]
          refine wpG_oneB (i := 11) (o := ⟨none, _, _, _, _, _⟩) (by kernel_rfl) rfl rfl (fun K hK => ?_)
          have hks := (HSK.out.below HB9.out HSK.out.lt).set_ 1 (.slice A5 (nl + 1) c5)
          simp only [List.setIfInBounds_toArray, List.set_cons_zero, List.set_cons_succ] at hks
          have kq := hks.cell 2
          simp at kq
          have kz := hks.frozen 2
          go_simp
          refine hK.out _ _ (Ad1.of2 HPB7.out HB9.out HNE.out) (fun hHeld => ?_)
          clear kq kz hks
          clear hK K
          try simp only [Act.put, List.setIfInBounds_toArray, List.set_cons_zero, List.set_cons_succ]
          refine wpG_done (by kernel_rfl) ?_ _
          obtain ⟨Wf, hWf⟩ : ∃ Wf, (w9.setCell ⟨w.heap.size, 1, none⟩ (.slice A5 (nl + 1) c5)).setCell ⟨w.heap.size, 2, none⟩ (.int .i64 t) = Wf := ⟨_, rfl⟩
          have hk9 := HSK.out.below HB9.out HSK.out.lt
          have hks := (hk9.set_ 1 (.slice A5 (nl + 1) c5)).set_ 2 (.int .i64 t)
          simp only [List.setIfInBounds_toArray, List.set_cons_zero, List.set_cons_succ] at hks
          have hon7 : Only (fun k => k = w.heap.size) w9 ((w9.setCell ⟨w.heap.size, 1, none⟩ (.slice A5 (nl + 1) c5)).setCell ⟨w.heap.size, 2, none⟩ (.int .i64 t)) := Only.set (p := fun k => k = w.heap.size) (Only.set (p := fun k => k = w.heap.size) (Only.refl _ w9) (fun _ => rfl) 1 _) (fun _ => rfl) 2 _
          have hzs := (HZ7.out.below HB9.out HZ7.out.lt).only hon7 (by omega)
          have hos := own_only HO9.out hon7 fun k hk e => own_neP HO9.out hk9 (by decide) (e ▸ hk)
          have hbs := (HB7.out.trans (HB9.out.mono HB7.out.size)).trans ((hon7.to_below (show w.heap.size ≤ w9.heap.size by have := HB7.out.size; have := HB9.out.size; omega) fun b hb e => by omega).mono (Nat.le_refl _))
          have hrs := (HRB7.out.below HB9.out).only_blk hk9 hon7
          rw [hWf] at hks hzs hos hbs hrs ⊢
          have HKF := Lib.hid hks
          have HZF := Lib.hid hzs
          have HOF := Lib.hid hos
          have HBF := Lib.hid hbs
          have HRF := Lib.hid hrs
          clear hWf hks hzs hos hbs hrs hHeld h01 hon7 hk9
          have e0 := HKF.out.cell 0
          have e1 := HKF.out.cell 1
          have e2 := HKF.out.cell 2
          have z0 := HZF.out.cell 0
          have z1 := HZF.out.cell 1
          have z2 := HZF.out.cell 2
          simp at e0 e1 e2 z0 z1 z2
          have f0 := HZF.out.frozen 0
          have f1 := HZF.out.frozen 1
          have f2 := HZF.out.frozen 2
          go_wp2_with fail
          obtain ⟨hz9, ho9⟩ := st3 (x := .slice Ab nb cb) (y := .slice A5 (nl + 1) c5) (z := .int .i64 t) HZF.out
          have hb9 := HBF.out.trans ((ho9.to_below HBF.out.size fun b hb e => by omega).mono (Nat.le_refl _))
          have ho10 := own_only HOF.out ho9 fun k hk e => own_neP HOF.out HZF.out (by decide) (e ▸ hk)
          refine bodyPost_ret (v := .tuple #[refV Ab nb cb A5 (nl + 1) c5 t, .int .i64 0]) (results_row_tmp (p := 4) (u := 5) (ty := 48) rfl _ _ (w.heap.size + 1 + 1) 48 _ _ rfl hz9 Try.underlying48 rfl (by kernel_rfl)) rfl ⟨_, by rw [HF.out], ⟨Ab, nb, cb, A5, nl + 1, c5, ds ++ [⟨t, f, A, n, c, d⟩], by rw [HF.out], ?_, ⟨HFB.out, own_F ho10 (fun k hk => Nat.lt_of_lt_of_le (HFF.out k hk) (by first | exact HBC.out.size | exact HB7.out.size)), fun p hp => (List.mem_append.1 hp).elim (HFD.out p) (fun h1 => by rw [List.mem_singleton.1 h1]; exact HFN.out)⟩⟩, hb9⟩
          have hok := addP_ok HRS.out.ok ⟨t, f, d⟩
          rw [HF.out] at hok ⊢
          exact ⟨HRF.out.only_blk HZF.out ho9, own_PL ho10 (fun q hq => HPR0.out _ hb9 q hq) (by rw [List.length_append, HDL.out]; rfl), HPK.out, hok⟩
end Go.Proofs.Ytgbkoegmoelheaa
