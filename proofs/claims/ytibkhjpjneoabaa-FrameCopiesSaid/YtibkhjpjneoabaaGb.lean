/- What the reference's readers keep; prefixed. -/
import Derived.Test.YtibkhjpjneoabaaGa
import Derived.Test.YtibkhjpjneoabaaGp
import Derived.Test.YtibkhjpjneoabaaVrRRead
namespace Go.Proofs.Ytibkhjpjneoabaa
open Go.RowKit
set_option linter.unusedVariables false
set_option linter.unusedSimpArgs false

section
variable {P : Program} {w : World} {ops : Array Oper} {rest : List Oper} {o : Oper} {a : Act} {Q : Exit → Act → World → Prop}
theorem step_app_sz {K : Act → World → Prop} {E : Prop} (hgd : o.guard = none) (s x : Operand) (t : TypeId) (hop : o.op = Op.call { callee := Callee.builtin Builtin.append, args := #[s, x], argTypes := #[t, t] }) {e : TypeId} {size bytes : Nat} (hE : ElS P t e size bytes) {base n m c : Nat} {v : Value} {xs news : List Value} {A : Option Addr} (hs : a.eval s = v) (hown : w.ownsRow base e size v n xs) (hx : a.eval x = .slice A m c) (hsrc : HoldsS w size A m news) (h1 : ∀ u ∈ news, u.oneCell' = true) (h63 : n + m ≤ maxLen) (hby : (n + m) * bytes ≤ 140737488355328) (hbase : base ≤ w.heap.size) (hA : A ≠ none)
    (hK : ∀ v' w', w'.ownsRow base e size v' (n + m) (xs ++ news) → w.grownBy w' v.ownBlock → K (a.put o.dst v') w') : if Region.wanted o (yielded ops a.tmps) = true then Oper.wp P o a w K Q else E := by
  obtain ⟨v', w', hrun, p1, p2⟩ := run_app_sz (ty := o.type) hE hown hsrc h1 h63 hby hbase hA
  exact step_run hgd s x t hop hs hx hrun (hK v' w' p1 p2)
end
theorem feedS_cnt2 (k m c : Int) : ∀ (l : List UInt8) (s : St), (feedS k m c s l).2.length ≤ l.length
  | [], s => by simp [feedS]
  | x :: r, s => by
    have := feedS_cnt2 k m c r (stepS k m c s x).1
    simp only [feedS, List.length_append, List.length_cons]
    cases (stepS k m c s x).2 <;> simp <;> omega
/-- A part of bytes. -/
theorem slice_seg (W : World) (A : Option Addr) (n cp p j : Nat) (l : List UInt8) (h : RB W A n cp l) (hj : p + j ≤ n) : ∃ A' c', (∀ W' : World, (Instr.slice 28 (.slice A n cp) (some (.int .i64 (p : Int))) (some (.int .i64 ((p : Int) + (j : Int)))) none).run Try.prog W' = .ok (.slice A' j c') W') ∧ RB W A' j c' ((l.drop p).take j) := by
  obtain ⟨A', c', hs, hr, -⟩ := slice_in W A n cp p (p + j) l h (by omega) hj
  refine ⟨A', c', fun W' => ?_, ?_⟩
  · have := hs W'
    rw [show p + j - p = j by omega, show ((p + j : Nat) : Int) = (p : Int) + (j : Int) by omega] at this
    exact this
  · rw [show p + j - p = j by omega, List.drop_take, show p + j - p = j by omega] at hr
    exact hr

/-- The framing's box. -/
def RxF (g : Nat) (k m c : Int) (W : World) : Prop := W.cell? ⟨g, 0, none⟩ = some (.int .i64 k) ∧ W.cell? ⟨g, 1, none⟩ = some (.int .i64 m) ∧ W.cell? ⟨g, 2, none⟩ = some (.int .i64 c)
def RxX (g x : Nat) (k m c : Int) (out : Value) (W : World) : Prop := W.cell? ⟨x, 0, none⟩ = some out ∧ RxF g k m c W
/-- What a reference's reader has in memory. -/
structure RxM (w W : World) (k m c : Int) (out : Value) (br : Bool) (mid : Int) (ds : List Fd) : Prop where
  F : Blk W w.heap.size 24 #[.int .i64 k, .int .i64 m, .int .i64 c]
  R : Blk W (w.heap.size + 1) 49 #[.slice none 0 0, .bool false, .int .i64 0]
  X : Blk W (w.heap.size + 2) 49 #[out, .bool br, .int .i64 mid]
  frs : FrL W w.heap.size out ds
  below_ : Below w.heap.size w W
/-- What Read yields. -/
def RRes (w : World) (p : St × List Fr) (e : Ending) (w' : World) : Prop := ∃ out ds, e = .returned (.agg #[out, .bool (decide (p.1.st = 2)), .int .i64 (if p.1.begun then (p.1.at_ : Int) else -1)]) ∧ FrL w' w.heap.size out ds ∧ ds.map Fd.fr = p.2 ∧ Below w.heap.size w w'
section
variable {w W W2 : World} {k m c : Int} {out out2 : Value} {br : Bool} {mid : Int} {ds : List Fd}
theorem RxM.rxf (h : RxM w W k m c out br mid ds) : RxF w.heap.size k m c W := ⟨h.F.cell 0, h.F.cell 1, h.F.cell 2⟩
theorem RxM.rxx (h : RxM w W k m c out br mid ds) : RxX w.heap.size (w.heap.size + 2) k m c out W := ⟨h.X.cell 0, h.rxf⟩
theorem RxM.below (h : RxM w W k m c out br mid ds) (hb : Below W.heap.size W W2) : RxM w W2 k m c out br mid ds :=
  ⟨h.F.below hb h.F.lt, h.R.below hb h.R.lt, h.X.below hb h.X.lt, h.frs.below hb, h.below_.trans (hb.mono h.below_.size)⟩
theorem RxM.drew (h : RxM w W k m c out br mid ds) : RxM w W.drew k m c out br mid ds := h.below (below_drew (Below.refl _ W))
theorem RxM.box_ {o : Obj} (h : RxM w W k m c out br mid ds) (hg : (W.alloc o).grownBy W2 out.ownBlock) : Blk W2 (w.heap.size + 2) 49 #[out, .bool br, .int .i64 mid] ∧ RxX w.heap.size (w.heap.size + 2) k m c out W2 := by
  have hF := (h.F.alloc o).grown hg (fun e => own_neB h.frs.own h.F (by decide) e.symm)
  have hX := (h.X.alloc o).grown hg (fun e => own_neB h.frs.own h.X (by decide) e.symm)
  exact ⟨hX, hX.cell 0, hF.cell 0, hF.cell 1, hF.cell 2⟩
theorem RxM.push {o : Obj} {d : Fd} (h : RxM w W k m c out br mid ds) (hd : W.ownsRow w.heap.size 5 1 d.val d.n (d.fr.bytes.map u8)) (hown : W2.ownsRow w.heap.size 44 3 out2 (ds.length + 1) (ds.flatMap Fd.cells ++ d.cells)) (hg : (W.alloc o).grownBy W2 out.ownBlock) : RxM w (W2.setCell ⟨w.heap.size + 2, 0, none⟩ out2) k m c out2 br mid (ds ++ [d]) := by
  have hF := (h.F.alloc o).grown hg (fun e => own_neB h.frs.own h.F (by decide) e.symm)
  have hR := (h.R.alloc o).grown hg (fun e => own_neB h.frs.own h.R (by decide) e.symm)
  have hX := (h.X.alloc o).grown hg (fun e => own_neB h.frs.own h.X (by decide) e.symm)
  have hfr := FrL.push (d := d) h.frs hd hown hg
  have hb : Below w.heap.size w W2 := (h.below_.alloc h.below_.size o).grown hg (Nat.le_trans h.below_.size (by simp)) (fun j hj => (h.frs.own.lt j hj).1)
  refine ⟨hF.far (by simp) _, hR.far (by simp) _, by simpa using hX.set_ 0 out2, ⟨own_setCell hfr.own (own_neB hfr.own hX (by decide)) _, fun x hx => own_setCell (hfr.rows x hx) (own_neB (hfr.rows x hx) hX (by decide)) _⟩, Below.setCell hb (by simp) _⟩
theorem RxM.set_br (h : RxM w W k m c out br mid ds) (b : Bool) : RxM w (W.setCell ⟨w.heap.size + 2, 1, none⟩ (.bool b)) k m c out b mid ds :=
  ⟨h.F.far (by simp) _, h.R.far (by simp) _, by simpa using h.X.set_ 1 (.bool b), ⟨own_setCell h.frs.own (own_neB h.frs.own h.X (by decide)) _, fun x hx => own_setCell (h.frs.rows x hx) (own_neB (h.frs.rows x hx) h.X (by decide)) _⟩, Below.setCell h.below_ (by simp) _⟩
theorem RxM.set_mid (h : RxM w W k m c out br mid ds) (z : Int) : RxM w (W.setCell ⟨w.heap.size + 2, 2, none⟩ (.int .i64 z)) k m c out br z ds :=
  ⟨h.F.far (by simp) _, h.R.far (by simp) _, by simpa using h.X.set_ 2 (.int .i64 z), ⟨own_setCell h.frs.own (own_neB h.frs.own h.X (by decide)) _, fun x hx => own_setCell (h.frs.rows x hx) (own_neB (h.frs.rows x hx) h.X (by decide)) _⟩, Below.setCell h.below_ (by simp) _⟩
/-- The cells that are loaded and stored at the end. -/
theorem RxM.cells_ (h : RxM w W k m c out br mid ds) : (W.cell? ⟨w.heap.size + 2, 0, none⟩ = some out ∧ W.cell? ⟨w.heap.size + 2, 1, none⟩ = some (.bool br) ∧ W.cell? ⟨w.heap.size + 2, 2, none⟩ = some (.int .i64 mid)) ∧ (W.cell? ⟨w.heap.size + 1, 0, none⟩ = some (.slice none 0 0) ∧ W.cell? ⟨w.heap.size + 1, 1, none⟩ = some (.bool false) ∧ W.cell? ⟨w.heap.size + 1, 2, none⟩ = some (.int .i64 0)) ∧ W.frozen? ⟨w.heap.size + 1, 0, none⟩ = false ∧ W.frozen? ⟨w.heap.size + 1, 1, none⟩ = false ∧ W.frozen? ⟨w.heap.size + 1, 2, none⟩ = false ∧ W.frozen? ⟨w.heap.size + 2, 0, none⟩ = false ∧ W.frozen? ⟨w.heap.size + 2, 1, none⟩ = false ∧ W.frozen? ⟨w.heap.size + 2, 2, none⟩ = false :=
  ⟨⟨h.X.cell 0, h.X.cell 1, h.X.cell 2⟩, ⟨h.R.cell 0, h.R.cell 1, h.R.cell 2⟩, h.R.frozen 0, h.R.frozen 1, h.R.frozen 2, h.X.frozen 0, h.X.frozen 1, h.X.frozen 2⟩
theorem RxM.ret (h : RxM w W k m c out br mid ds) : Blk (((W.setCell ⟨w.heap.size + 1, 0, none⟩ out).setCell ⟨w.heap.size + 1, 1, none⟩ (.bool br)).setCell ⟨w.heap.size + 1, 2, none⟩ (.int .i64 mid)) (w.heap.size + 1) 49 #[out, .bool br, .int .i64 mid] ∧ FrL (((W.setCell ⟨w.heap.size + 1, 0, none⟩ out).setCell ⟨w.heap.size + 1, 1, none⟩ (.bool br)).setCell ⟨w.heap.size + 1, 2, none⟩ (.int .i64 mid)) w.heap.size out ds ∧ Below w.heap.size w (((W.setCell ⟨w.heap.size + 1, 0, none⟩ out).setCell ⟨w.heap.size + 1, 1, none⟩ (.bool br)).setCell ⟨w.heap.size + 1, 2, none⟩ (.int .i64 mid)) := by
  have hn := own_neB h.frs.own h.R (by decide)
  refine ⟨?_, ⟨own_setCell (own_setCell (own_setCell h.frs.own hn _) hn _) hn _, fun x hx => ?_⟩, Below.setCell (Below.setCell (Below.setCell h.below_ (by simp) _) (by simp) _) (by simp) _⟩
  · have := ((h.R.set_ 0 out).set_ 1 (.bool br)).set_ 2 (.int .i64 mid)
    simpa using this
  · have hm := own_neB (h.frs.rows x hx) h.R (by decide)
    exact own_setCell (own_setCell (own_setCell (h.frs.rows x hx) hm _) hm _) hm _
end
theorem rx_res {fn : Func} {tmps : Array Value} {W : World} {bx : Nat} {x y z : Value} (hf : fn.results = Try.f37.results) (h4 : tmps.getD 4 undef = .pointer (some ⟨bx, 0, none⟩)) (hb : Blk W bx 49 #[x, y, z]) : (results fn tmps).run Try.prog W = .ok (.agg #[x, y, z]) W := by
  have e : results fn tmps = results Try.f37 tmps := by unfold results; rw [hf]
  rw [e]
  have c0 : W.cell? ⟨bx, 0, none⟩ = some x := hb.cell 0
  have c1 : W.cell? ⟨bx, 1, none⟩ = some y := hb.cell 1
  have c2 : W.cell? ⟨bx, 2, none⟩ = some z := hb.cell 2
  simp at h4
  simp [results, Try.results37, go_sem, h4, c0, c1, c2]
theorem take_add2 (ys : List UInt8) (p z : Nat) : ys.take (p + z) = ys.take p ++ (ys.drop p).take z := List.take_add
/-- Between frames. -/
def RxT (k m c : Int) (bs : List UInt8) (at_ : Nat) (ds : List Fd) : Prop := at_ ≤ bs.length ∧ ∃ a, feedS k m c St.new (bs.take at_) = (gapS at_ a false, ds.map Fd.fr)
theorem RxT.all {k m c : Int} {bs : List UInt8} {at_ : Nat} {ds : List Fd} (h : RxT k m c bs at_ ds) : ∃ a, feedS k m c St.new bs = ((feedS k m c (gapS at_ a false) (bs.drop at_)).1, ds.map Fd.fr ++ (feedS k m c (gapS at_ a false) (bs.drop at_)).2) := by
  obtain ⟨hl, a, ha⟩ := h
  refine ⟨a, ?_⟩
  conv => lhs; rw [← List.take_append_drop at_ bs]
  rw [feedS_app, ha]
theorem RxT.cnt {k m c : Int} {bs : List UInt8} {at_ : Nat} {ds : List Fd} (h : RxT k m c bs at_ ds) : ds.length ≤ bs.length := by
  obtain ⟨hl, a, ha⟩ := h
  have h1 := feedS_cnt2 k m c (bs.take at_) St.new
  rw [ha] at h1
  simp at h1
  omega
theorem readS_err {l : List UInt8} (h : (Vr.readS l false).2.2 ≠ 0) : (Vr.readS l false).1 = 0 ∧ (Vr.readS l false).2.1 = 0 := by
  rcases Vr.ix_cases (l.take 5) with ⟨h1, -⟩ | ⟨j, hj, h1, -⟩
  · by_cases h5 : l.length < 5
    · rw [Vr.readS_short h1 h5]; exact ⟨rfl, rfl⟩
    · rw [Vr.readS_long h1 (by omega)]; exact ⟨rfl, rfl⟩
  · by_cases hz : j = 0 ∨ (l.take 5)[j]? ≠ some 0
    · rw [Vr.readS_some h1 (.inr hz)] at h; exact absurd rfl h
    · rw [Vr.readS_zero h1 (fun e => hz (.inl e)) (Classical.not_not.1 fun e => hz (.inr e))]; exact ⟨rfl, rfl⟩

set_option maxRecDepth 100000 in
set_option maxHeartbeats 16000000 in
theorem prefixed_any (m c : Int) (hF : OkF 1 m c) (A : Option Addr) (n cp : Nat) (bs : List UInt8) (w : World) (hr : RB w A n cp bs) (hn : n ≤ 30000) :
    Calls Try.prog 37 #[FV 1 m c, .slice A n cp] w (RRes w (feedS 1 m c St.new bs)) := by
  unfold FV
  obtain ⟨W0, hW0⟩ : ∃ W0, (w.alloc (.cells #[.int .i64 1, .int .i64 m, .int .i64 c] 24)).alloc (.cells #[.slice none 0 0, .bool false, .int .i64 0] 49) = W0 := ⟨_, rfl⟩
  have hb0 : Below w.heap.size w W0 := hW0 ▸ ((Below.refl _ w).alloc (Nat.le_refl _) _).alloc (by simp) _
  have kf : Blk W0 w.heap.size 24 #[.int .i64 1, .int .i64 m, .int .i64 c] := hW0 ▸ (Blk.new w 24 _).alloc _
  have kr : Blk W0 (w.heap.size + 1) 49 #[.slice none 0 0, .bool false, .int .i64 0] := by have := Blk.new (w.alloc (.cells #[.int .i64 1, .int .i64 m, .int .i64 c] 24)) 49 #[.slice none 0 0, .bool false, .int .i64 0]; rw [World.size_alloc, hW0] at this; exact this
  have hsz : W0.heap.size = w.heap.size + 2 := by rw [← hW0]; simp
  obtain ⟨W1, hW1⟩ : ∃ W1, W0.alloc (.cells #[.slice none 0 0, .bool false, .int .i64 (-1)] 49) = W1 := ⟨_, rfl⟩
  have hb1 : Below W0.heap.size W0 W1 := hW1 ▸ (Below.refl _ W0).alloc (Nat.le_refl _) _
  have kx : Blk W1 (w.heap.size + 2) 49 #[.slice none 0 0, .bool false, .int .i64 (-1)] := by have := Blk.new W0 49 #[.slice none 0 0, .bool false, .int .i64 (-1)]; rw [hW1, hsz] at this; exact this
  have HX1 := Lib.hid (show RxM w W1 1 m c (.slice none 0 0) false (-1) [] from ⟨kf.below hb1 kf.lt, kr.below hb1 kr.lt, kx, ⟨World.ownsRow_nil _ _ 44 3, fun _ h => by cases h⟩, hb0.trans (hb1.mono hb0.size)⟩)
  have HR := Lib.hid hr
  have HN := Lib.hid hn
  have HF := Lib.hid hF
  have HW0 := Lib.hid hW0
  have HW1 := Lib.hid hW1
  have HSZ := Lib.hid hsz
  clear hW0 hb0 kf kr hW1 hb1 kx hr hn hF
  go_enter Try.func37, Try.ntmps37
  go_upto_region 1 with fail
  rw [HW0.out]
  clear HW0
  go_upto_region 2 with fail
  rw [HW1.out]
  clear HW1 hsz HSZ
  have hn3 : (n : Int) ≤ 30000 := by have := HN.out; omega
  go_wp2_with fail
  go_loopw [6] (fun aa wr => ∃ (at_ : Nat) (out : Value) (ds : List Fd), aa = .int .i64 (at_ : Int) ∧ Hid (RxM w wr 1 m c out false (-1) ds) ∧ Hid (RxT 1 m c bs at_ ds)) (fun aa _ => n - (intOf aa).toNat)
  case atStart => exact ⟨0, .slice none 0 0, [], rfl, HX1, Lib.hid ⟨by omega, 0, by simp [feedS]; rfl⟩⟩
  case round =>
    obtain ⟨at_, out, ds, rfl, HX, HT⟩ := hrel
    obtain ⟨wo, rfl⟩ : ∃ wo : World, wo = wr := ⟨_, rfl⟩
    have ha0 : (0 : Int) ≤ at_ := by omega
    obtain ⟨Ao, co, hout, -⟩ := own_formS HX.out.frs.own
    subst hout
    have HRW := Lib.hid (HR.out.below HX.out.below_)
    obtain ⟨rest, hrest⟩ : ∃ rest, bs.drop at_ = rest := ⟨_, rfl⟩
    have HRS := Lib.hid hrest
    have HRE0 := Lib.hid (show rest.length = n - at_ by rw [← hrest, List.length_drop, HR.out.len])
    by_cases hlt : (at_ : Int) < n
    case neg =>
      have hz : bs.take at_ = bs := List.take_of_length_le (by rw [HR.out.len]; omega)
      have HTZ := Lib.hid (show ∃ a, feedS 1 m c St.new bs = (gapS at_ a false, ds.map Fd.fr) from by have := HT.out.2; rw [hz] at this; exact this)
      clear hz hrest
      obtain ⟨⟨x0, x1, x2⟩, ⟨y0, y1, y2⟩, z0, z1, z2, -, -, -⟩ := HX.out.cells_
      go_wp2_with fail
      obtain ⟨hk, hfr, hbw⟩ := HX.out.ret
      refine bodyPost_ret (v := .agg #[.slice Ao ds.length co, .bool false, .int .i64 (-1)]) (rx_res rfl rfl hk) rfl ⟨_, _, ?_, hfr, ?_, hbw⟩
      · obtain ⟨a, ha⟩ := HTZ.out
        rw [ha]; rfl
      · obtain ⟨a, ha⟩ := HTZ.out
        rw [ha]
    case pos =>
    have HLT := Lib.hid hlt
    have HRL := Lib.hid (show at_ + 1 ≤ n by omega)
    obtain ⟨Aj, cj, hsj, hrj⟩ := slice_seg wo A n cp at_ 1 bs HRW.out (by have := HRL.out; omega)
    have HSJ := Lib.hid hsj
    have HRJ := Lib.hid hrj
    rw [hrest] at HRJ hrj
    have C52 := Lib.hid (fun W (h : RB W Aj 1 cj (rest.take 1)) => Vr.rread_any Aj 1 cj W.heap.size (rest.take 1) false W h.len (by have := HN.out; have := HRL.out; omega) h.bs)
    obtain ⟨ib, hib⟩ : ∃ ib, (Vr.beginsS (rest.take 1) false 0 m).1 = ib := ⟨_, rfl⟩
    have hbeq : Vr.tupB (Vr.beginsS (rest.take 1) false 0 m) = .tuple #[.bool ib, .int .i64 0] := by
      have h2 := Vr.begins_ok2 (l := rest.take 1) (loose := false) (lo := 0) (hi := m) (by omega) (by have := HF.out.m1; omega) (by have := HF.out.m2; omega)
      unfold Vr.tupB
      rw [hib, h2]
    have C53 := Lib.hid (fun W (h : RB W Aj 1 cj (rest.take 1)) => (show Calls Try.prog 53 #[.slice Aj 1 cj, .bool false, .int .i64 0, .int .i64 m] W fun e w' => e = .returned (.tuple #[.bool ib, .int .i64 0]) ∧ W = w' from by
      have := Vr.rbegins_any Aj 1 cj W.heap.size (rest.take 1) false 0 m W h.len (by have := HN.out; have := HRL.out; omega) h.bs
      rw [hbeq] at this
      exact this))
    obtain ⟨v, hv⟩ : ∃ v, (Vr.readS (rest.take 1) false).1 = v := ⟨_, rfl⟩
    obtain ⟨ll, hll⟩ : ∃ ll, (Vr.readS (rest.take 1) false).2.1 = ll := ⟨_, rfl⟩
    obtain ⟨ee, hee⟩ : ∃ ee, (Vr.readS (rest.take 1) false).2.2 = ee := ⟨_, rfl⟩
    have hreq : Vr.tup3 (Vr.readS (rest.take 1) false) = .tuple #[.int .i64 v, .int .i64 ll, .int .i64 ee] := by unfold Vr.tup3; rw [hv, hll, hee]
    rw [hreq] at C52
    have HRD := Lib.hid (show Vr.readS (rest.take 1) false = (v, ll, ee) from by rw [← hv, ← hll, ← hee])
    have HIB := Lib.hid hib
    clear hib hbeq hv hll hee hreq hrj
    have hsj : ∀ W' : World, (Instr.slice 28 (.slice A n cp) (some (.int .i64 (at_ : Int))) (some (.int .i64 ((at_ : Int) + 1))) none).run Try.prog W' = .ok (.slice Aj 1 cj) W' := hsj
    have HSJ := Lib.hid hsj
    obtain ⟨f0, f1, f2⟩ := HX.out.rxf
    go_wp2_with (go_at_call 52; (with_reducible refine (C52.out _ HRJ.out).mono ?_); rintro e _ ⟨rfl, rfl⟩; refine Hid.out ?_)
    refine Lib.hid ?_
    have HWR := Lib.hid (show IntKind.i64.wrap ((at_ : Int) + 1) = (at_ : Int) + 1 by rw [IntKind.wrap_i64]; omega)
    have HS6 := Lib.hid (HX.out.drew.rxf)
    clear hsj hlt hrest
    go_upto_region 6 with fail
    have HN3 := Lib.hid hn3
    clear hn3 ha0
    refine wp_region_G (S0 := (RxF w.heap.size 1 m c)) (S1 := (RxF w.heap.size 1 m c)) (c := 99) (by kernel_rfl) ?_
    have hHeld := HS6.out
    have h01 := (fun (W : World) (h : (RxF w.heap.size 1 m c) W) => h)
    refine wpG_takeB (i := 0) (oi := ⟨some 34, _, _, _, _, _⟩) (v := .slice A n cp) rfl (by kernel_rfl) (by kernel_rfl) (by kernel_rfl) (by decide) (fun _ _ _ h => h) h01 rfl hHeld (Or.inl ⟨by rfl, ?_⟩) ?_
    · (intro W9 hSw; obtain ⟨v1, v2, v3⟩ := hSw; have s1 := HSJ.out; go_simp; (try (first | with_reducible rfl | rfl | (simp; done) | (exact HWR.out))))
    try simp only [Act.put, List.setIfInBounds_toArray, List.set_cons_zero, List.set_cons_succ]
    refine wpG_takeB (i := 1) (oi := ⟨some 35, _, _, _, _, _⟩) (v := .int .i64 (at_ : Int)) rfl (by kernel_rfl) (by kernel_rfl) (by kernel_rfl) (by decide) (fun _ _ _ h => h) h01 rfl hHeld (Or.inl ⟨by rfl, ?_⟩) ?_
    · (intro W9 hSw; obtain ⟨v1, v2, v3⟩ := hSw; have s1 := HSJ.out; go_simp; (try (first | with_reducible rfl | rfl | (simp; done) | (exact HWR.out))))
    try simp only [Act.put, List.setIfInBounds_toArray, List.set_cons_zero, List.set_cons_succ]
    refine wpG_takeB (i := 2) (oi := ⟨some 36, _, _, _, _, _⟩) (v := .int .i64 (at_ : Int)) rfl (by kernel_rfl) (by kernel_rfl) (by kernel_rfl) (by decide) (fun _ _ _ h => h) h01 rfl hHeld (Or.inl ⟨by rfl, ?_⟩) ?_
    · (intro W9 hSw; obtain ⟨v1, v2, v3⟩ := hSw; have s1 := HSJ.out; go_simp; (try (first | with_reducible rfl | rfl | (simp; done) | (exact HWR.out))))
    try simp only [Act.put, List.setIfInBounds_toArray, List.set_cons_zero, List.set_cons_succ]
    refine wpG_takeB (i := 3) (oi := ⟨some 37, _, _, _, _, _⟩) (v := .int .i64 1) rfl (by kernel_rfl) (by kernel_rfl) (by kernel_rfl) (by decide) (fun _ _ _ h => h) h01 rfl hHeld (Or.inl ⟨by rfl, ?_⟩) ?_
    · (intro W9 hSw; obtain ⟨v1, v2, v3⟩ := hSw; have s1 := HSJ.out; go_simp; (try (first | with_reducible rfl | rfl | (simp; done) | (exact HWR.out))))
    try simp only [Act.put, List.setIfInBounds_toArray, List.set_cons_zero, List.set_cons_succ]
    refine wpG_takeB (i := 4) (oi := ⟨some 38, _, _, _, _, _⟩) (v := .int .i64 ((at_ : Int) + 1)) rfl (by kernel_rfl) (by kernel_rfl) (by kernel_rfl) (by decide) (fun _ _ _ h => h) h01 rfl hHeld (Or.inl ⟨by rfl, ?_⟩) ?_
    · (intro W9 hSw; obtain ⟨v1, v2, v3⟩ := hSw; have s1 := HSJ.out; go_simp; (try (first | with_reducible rfl | rfl | (simp; done) | (exact HWR.out))))
    try simp only [Act.put, List.setIfInBounds_toArray, List.set_cons_zero, List.set_cons_succ]
    refine wpG_takeB (i := 5) (oi := ⟨some 39, _, _, _, _, _⟩) (v := .slice Aj 1 cj) rfl (by kernel_rfl) (by kernel_rfl) (by kernel_rfl) (by decide) (fun _ _ _ h => h) h01 rfl hHeld (Or.inl ⟨by rfl, ?_⟩) ?_
    · (intro W9 hSw; obtain ⟨v1, v2, v3⟩ := hSw; have s1 := HSJ.out; go_simp; (try (first | with_reducible rfl | rfl | (simp; done) | (exact HWR.out))))
    try simp only [Act.put, List.setIfInBounds_toArray, List.set_cons_zero, List.set_cons_succ]
    refine wpG_takeB (i := 6) (oi := ⟨some 40, _, _, _, _, _⟩) (v := .pointer (some ⟨w.heap.size, 1, none⟩)) rfl (by kernel_rfl) (by kernel_rfl) (by kernel_rfl) (by decide) (fun _ _ _ h => h) h01 rfl hHeld (Or.inl ⟨by rfl, ?_⟩) ?_
    · (intro W9 hSw; obtain ⟨v1, v2, v3⟩ := hSw; have s1 := HSJ.out; go_simp; (try (first | with_reducible rfl | rfl | (simp; done) | (exact HWR.out))))
    try simp only [Act.put, List.setIfInBounds_toArray, List.set_cons_zero, List.set_cons_succ]
    refine wpG_takeB (i := 7) (oi := ⟨some 41, _, _, _, _, _⟩) (v := .int .i64 m) rfl (by kernel_rfl) (by kernel_rfl) (by kernel_rfl) (by decide) (fun _ _ _ h => h) h01 rfl hHeld (Or.inl ⟨by rfl, ?_⟩) ?_
    · (intro W9 hSw; obtain ⟨v1, v2, v3⟩ := hSw; have s1 := HSJ.out; go_simp; (try (first | with_reducible rfl | rfl | (simp; done) | (exact HWR.out))))
    try simp only [Act.put, List.setIfInBounds_toArray, List.set_cons_zero, List.set_cons_succ]
    refine wpG_oneB (i := 8) (o := ⟨some 42, _, _, _, _, _⟩) (by kernel_rfl) rfl rfl (fun K hK => ?_)
    go_simp
    (with_reducible refine (C53.out _ (HRJ.out.below (below_drew (Below.refl _ _)))).mono ?_); rintro e _ ⟨rfl, rfl⟩
    refine hK.out _ _ HS6.out (fun hHeld => ?_)
    clear hK K
    try simp only [Act.put, List.setIfInBounds_toArray, List.set_cons_zero, List.set_cons_succ]
    refine wpG_takeB (i := 9) (oi := ⟨some 33, _, _, _, _, _⟩) (v := .tuple #[.bool ib, .int .i64 0]) rfl (by kernel_rfl) (by kernel_rfl) (by kernel_rfl) (by decide) (fun _ _ _ h => h) h01 rfl hHeld (Or.inl ⟨by rfl, ?_⟩) ?_
    · (intro W9 hSw; obtain ⟨v1, v2, v3⟩ := hSw; have s1 := HSJ.out; go_simp; (try (first | with_reducible rfl | rfl | (simp; done) | (exact HWR.out))))
    try simp only [Act.put, List.setIfInBounds_toArray, List.set_cons_zero, List.set_cons_succ]
    refine wpG_takeB (i := 10) (oi := ⟨some 43, _, _, _, _, _⟩) (v := .bool ib) rfl (by kernel_rfl) (by kernel_rfl) (by kernel_rfl) (by decide) (fun _ _ _ h => h) h01 rfl hHeld (Or.inl ⟨by rfl, ?_⟩) ?_
    · (intro W9 hSw; obtain ⟨v1, v2, v3⟩ := hSw; have s1 := HSJ.out; go_simp; (try (first | with_reducible rfl | rfl | (simp; done) | (exact HWR.out))))
    try simp only [Act.put, List.setIfInBounds_toArray, List.set_cons_zero, List.set_cons_succ]
    refine wpG_takeB (i := 11) (oi := ⟨some 44, _, _, _, _, _⟩) (v := .int .i64 0) rfl (by kernel_rfl) (by kernel_rfl) (by kernel_rfl) (by decide) (fun _ _ _ h => h) h01 rfl hHeld (Or.inl ⟨by rfl, ?_⟩) ?_
    · (intro W9 hSw; obtain ⟨v1, v2, v3⟩ := hSw; have s1 := HSJ.out; go_simp; (try (first | with_reducible rfl | rfl | (simp; done) | (exact HWR.out))))
    try simp only [Act.put, List.setIfInBounds_toArray, List.set_cons_zero, List.set_cons_succ]
    refine wpG_takeB (i := 12) (oi := ⟨some 11, _, _, _, _, _⟩) (v := .bool ib) rfl (by kernel_rfl) (by kernel_rfl) (by kernel_rfl) (by decide) (fun _ _ _ h => h) h01 rfl hHeld (Or.inl ⟨by rfl, ?_⟩) ?_
    · (intro W9 hSw; obtain ⟨v1, v2, v3⟩ := hSw; have s1 := HSJ.out; go_simp; (try (first | with_reducible rfl | rfl | (simp; done) | (exact HWR.out))))
    try simp only [Act.put, List.setIfInBounds_toArray, List.set_cons_zero, List.set_cons_succ]
    refine wpG_takeB (i := 13) (oi := ⟨some 12, _, _, _, _, _⟩) (v := .int .i64 0) rfl (by kernel_rfl) (by kernel_rfl) (by kernel_rfl) (by decide) (fun _ _ _ h => h) h01 rfl hHeld (Or.inl ⟨by rfl, ?_⟩) ?_
    · (intro W9 hSw; obtain ⟨v1, v2, v3⟩ := hSw; have s1 := HSJ.out; go_simp; (try (first | with_reducible rfl | rfl | (simp; done) | (exact HWR.out))))
    try simp only [Act.put, List.setIfInBounds_toArray, List.set_cons_zero, List.set_cons_succ]
    refine wpG_done (by kernel_rfl) ?_ _
    clear hHeld h01
    have hn3 := HN3.out
    go_wp2_with fail
    go_loopw [7, 8, 9, 10, 11] (fun s7 s8 s9 s10 s11 wx => ∃ (j : Nat) (v l e : Int) (ib : Bool), s7 = .int .i64 (j : Int) ∧ s8 = .int .i64 v ∧ s9 = .int .i64 l ∧ s10 = .int .i64 e ∧ s11 = .bool ib ∧ Hid (Vr.readS (rest.take j) false = (v, l, e)) ∧ Hid ((Vr.beginsS (rest.take j) false 0 m).1 = ib) ∧ Hid (PreI m c at_ rest j) ∧ Hid (RxM w wx 1 m c (.slice Ao ds.length co) false (-1) ds)) (fun s7 _ _ _ _ _ => n - (intOf s7).toNat)
    case atStart => exact ⟨1, v, ll, ee, ib, rfl, rfl, rfl, rfl, rfl, HRD, HIB, Lib.hid (PreI.one (by have := HRE0.out; have := HLT.out; omega)), Lib.hid HX.out.drew⟩
    case round =>
      clear HRD HIB C52 C53 HS6 HSJ HWR
      obtain ⟨j, v, ll, ee, ib, rfl, rfl, rfl, rfl, rfl, HRD, HIB, HP, HX2⟩ := hrel
      obtain ⟨wq, rfl⟩ : ∃ wq : World, wq = wr := ⟨_, rfl⟩
      have HJ := Lib.hid (show 1 ≤ j ∧ at_ + j ≤ n from ⟨HP.out.n1, by have := HP.out.nl; have := HRE0.out; have := HLT.out; omega⟩)
      have hj0 : (0 : Int) ≤ j := by omega
      have ha0 : (0 : Int) ≤ at_ := by omega
      have hjn : (at_ : Int) + j ≤ n := by have := HJ.out; omega
      have HRQ := Lib.hid (HR.out.below HX2.out.below_)
      have HM1 := Lib.hid (show 0 ≤ m ∧ m ≤ 4096 from ⟨by have := HF.out.m1; omega, HF.out.m2⟩)
      have HDL := Lib.hid (show ds.length ≤ 30000 by have := HT.out.cnt; rw [HR.out.len] at this; have := HN.out; omega)
      obtain ⟨f0, f1, f2⟩ := HX2.out.rxf
      cases ib with
      | false =>
        obtain ⟨Aj, cj, hsj, hrj⟩ := slice_seg wq A n cp at_ j bs HRQ.out HJ.out.2
        have HRJ := Lib.hid hrj
        rw [HRS.out] at HRJ
        obtain ⟨jb, hjb⟩ : ∃ jb, (Vr.beginsS (rest.take j) false 0 34359738367).1 = jb := ⟨_, rfl⟩
        have hbeq : Vr.tupB (Vr.beginsS (rest.take j) false 0 34359738367) = .tuple #[.bool jb, .int .i64 0] := by
          have h2 := Vr.begins_ok2 (l := rest.take j) (loose := false) (lo := 0) (hi := 34359738367) (by omega) (by omega) (by omega)
          unfold Vr.tupB
          rw [hjb, h2]
        have C53 := Lib.hid (fun W (h : RB W Aj j cj (rest.take j)) => (show Calls Try.prog 53 #[.slice Aj j cj, .bool false, .int .i64 0, .int .i64 34359738367] W fun e w' => e = .returned (.tuple #[.bool jb, .int .i64 0]) ∧ W = w' from by
          have := Vr.rbegins_any Aj j cj W.heap.size (rest.take j) false 0 34359738367 W h.len (by have := HN.out; have := HJ.out; omega) h.bs
          rw [hbeq] at this
          exact this))
        have HJB := Lib.hid hjb
        clear hbeq hjb hrj
        go_wp2_with (go_at_call 53; (with_reducible refine (C53.out _ HRJ.out).mono ?_); rintro e _ ⟨rfl, rfl⟩; refine Hid.out ?_)
        refine Lib.hid ?_
        clear hsj
        cases jb with
        | false =>
          go_upto_region 16 with fail
          obtain ⟨⟨x0, x1, x2⟩, -, -, -, -, -, -, -⟩ := HX2.out.cells_
          go_wp2_with (at_builtin; go_must (refine wpList_app_sz rfl (.tmp 98) (.tmp 102) 40 rfl els40 (base := w.heap.size) (n := ds.length) (m := 1) (xs := ds.flatMap Fd.cells) (news := Fd.cells ⟨⟨at_, [], 6⟩, none, 0, 0⟩) rfl (own_alloc HX2.out.frs.own) rfl (HoldsS.new _ 3 1 (Fd.cells ⟨⟨at_, [], 6⟩, none, 0, 0⟩) 44 rfl) (fd_one _) (by have := HDL.out; unfold maxLen; omega) (by have := HDL.out; omega) (by have := HX2.out.below_.size; simp; omega) (by simp) ?_; intro v4 w4 hown hgr; refine Hid.out ?_))
          refine Lib.hid ?_
          obtain ⟨A4, c4, hv4, -⟩ := own_formS hown
          subst hv4
          have HX5 := Lib.hid (RxM.push (d := ⟨⟨at_, [], 6⟩, none, 0, 0⟩) HX2.out (World.ownsRow_nil _ _ 5 1) hown hgr)
          have HXB := Lib.hid (RxM.box_ HX2.out hgr)
          clear hown hgr x0 x1 x2 f0 f1 f2
          have kq := HXB.out.1.cell 0
          have kq1 := HXB.out.1.cell 1
          simp at kq kq1
          have zq := HXB.out.1.frozen 0
          have zq1 := HXB.out.1.frozen 1
          go_upto_region 17 with fail
          obtain ⟨w5, hw5⟩ : ∃ w5, (w4.setCell ⟨w.heap.size + 2, 0, none⟩ (.slice A4 (ds.length + 1) c4)).setCell ⟨w.heap.size + 2, 1, none⟩ (.bool true) = w5 := ⟨_, rfl⟩
          have HX6 := Lib.hid (hw5 ▸ HX5.out.set_br true)
          rw [hw5]
          clear kq kq1 zq zq1 hw5
          have HFE := Lib.hid (show ∃ a, feedS 1 m c St.new bs = (⟨2, a, at_, [], false, false, false⟩, (ds ++ [(⟨⟨at_, [], 6⟩, none, 0, 0⟩ : Fd)]).map Fd.fr) from by
            obtain ⟨a, ha⟩ := HT.out.all
            rw [HRS.out, HP.out.bad a HM1.out.1 HM1.out.2 HIB.out, HJB.out] at ha
            exact ⟨at_ + rest.length, by rw [ha]; simp⟩)
          obtain ⟨⟨x0, x1, x2⟩, ⟨y0, y1, y2⟩, z0, z1, z2, -, -, -⟩ := HX6.out.cells_
          go_wp2_with fail
          obtain ⟨hk, hfr, hbw⟩ := HX6.out.ret
          refine bodyPost_ret (v := .agg #[.slice A4 (ds.length + 1) c4, .bool true, .int .i64 (-1)]) (rx_res rfl rfl hk) rfl ⟨_, _, ?_, hfr, ?_, hbw⟩
          · obtain ⟨a, ha⟩ := HFE.out
            rw [ha]; rfl
          · obtain ⟨a, ha⟩ := HFE.out
            rw [ha]
        | true =>
          go_upto_region 16 with fail
          obtain ⟨⟨x0, x1, x2⟩, -, -, -, -, -, -, -⟩ := HX2.out.cells_
          go_wp2_with (at_builtin; go_must (refine wpList_app_sz rfl (.tmp 98) (.tmp 102) 40 rfl els40 (base := w.heap.size) (n := ds.length) (m := 1) (xs := ds.flatMap Fd.cells) (news := Fd.cells ⟨⟨at_, [], 5⟩, none, 0, 0⟩) rfl (own_alloc HX2.out.frs.own) rfl (HoldsS.new _ 3 1 (Fd.cells ⟨⟨at_, [], 5⟩, none, 0, 0⟩) 44 rfl) (fd_one _) (by have := HDL.out; unfold maxLen; omega) (by have := HDL.out; omega) (by have := HX2.out.below_.size; simp; omega) (by simp) ?_; intro v4 w4 hown hgr; refine Hid.out ?_))
          refine Lib.hid ?_
          obtain ⟨A4, c4, hv4, -⟩ := own_formS hown
          subst hv4
          have HX5 := Lib.hid (RxM.push (d := ⟨⟨at_, [], 5⟩, none, 0, 0⟩) HX2.out (World.ownsRow_nil _ _ 5 1) hown hgr)
          have HXB := Lib.hid (RxM.box_ HX2.out hgr)
          clear hown hgr x0 x1 x2 f0 f1 f2
          have kq := HXB.out.1.cell 0
          have kq1 := HXB.out.1.cell 1
          simp at kq kq1
          have zq := HXB.out.1.frozen 0
          have zq1 := HXB.out.1.frozen 1
          go_upto_region 17 with fail
          obtain ⟨w5, hw5⟩ : ∃ w5, (w4.setCell ⟨w.heap.size + 2, 0, none⟩ (.slice A4 (ds.length + 1) c4)).setCell ⟨w.heap.size + 2, 1, none⟩ (.bool true) = w5 := ⟨_, rfl⟩
          have HX6 := Lib.hid (hw5 ▸ HX5.out.set_br true)
          rw [hw5]
          clear kq kq1 zq zq1 hw5
          have HFE := Lib.hid (show ∃ a, feedS 1 m c St.new bs = (⟨2, a, at_, [], false, false, false⟩, (ds ++ [(⟨⟨at_, [], 5⟩, none, 0, 0⟩ : Fd)]).map Fd.fr) from by
            obtain ⟨a, ha⟩ := HT.out.all
            rw [HRS.out, HP.out.bad a HM1.out.1 HM1.out.2 HIB.out, HJB.out] at ha
            exact ⟨at_ + rest.length, by rw [ha]; simp⟩)
          obtain ⟨⟨x0, x1, x2⟩, ⟨y0, y1, y2⟩, z0, z1, z2, -, -, -⟩ := HX6.out.cells_
          go_wp2_with fail
          obtain ⟨hk, hfr, hbw⟩ := HX6.out.ret
          refine bodyPost_ret (v := .agg #[.slice A4 (ds.length + 1) c4, .bool true, .int .i64 (-1)]) (rx_res rfl rfl hk) rfl ⟨_, _, ?_, hfr, ?_, hbw⟩
          · obtain ⟨a, ha⟩ := HFE.out
            rw [ha]; rfl
          · obtain ⟨a, ha⟩ := HFE.out
            rw [ha]
      | true =>
        by_cases he : ee = 0
        · subst he
          obtain ⟨vN, hvr, hvm⟩ := HP.out.vals HM1.out.1 HM1.out.2 (by rw [HRD.out]) HIB.out
          have hvv := hvr
          rw [HRD.out] at hvv
          injection hvv with hv1 hv2
          injection hv2 with hv2 hv3
          subst hv1 hv2
          have HVR := Lib.hid hvr
          have HVM := Lib.hid hvm
          clear hvr hv3
          have C54 := Lib.hid (tail_any 1 m c HF.out.c1 HF.out.c2 wq)
          unfold FV at C54
          have ht2 : (tailN c : Int) ≤ 4 := by have := tailN_le c; omega
          have ht0 : (0 : Int) ≤ (tailN c : Int) := by omega
          have hv0 : (0 : Int) ≤ (vN : Int) := by omega
          have hv4 : (vN : Int) ≤ 4096 := by have := HM1.out; omega
          obtain ⟨E, hE⟩ : ∃ E, j + vN + tailN c = E := ⟨_, rfl⟩
          have hEE : (at_ : Int) + j + vN + tailN c = (at_ : Int) + E := by omega
          have HEQ := Lib.hid hE
          clear hvm
          go_wp2_with (go_at_call 54; (with_reducible refine C54.out.mono ?_); rintro e w4 ⟨rfl, b4⟩; refine Hid.out ?_)
          refine Lib.hid ?_
          have HX4 := Lib.hid (HX2.out.below b4)
          clear b4 f0 f1 f2
          go_upto_region 19 with fail
          have hE0 : (0 : Int) ≤ E := by omega
          have hE5 : (E : Int) ≤ 40000 := by omega
          clear hE hEE hv0 hv4 ht0 ht2
          by_cases hle : (n : Int) < (at_ : Int) + E
          · have HLE := Lib.hid (show rest.length < j + vN + tailN c by have := HRE0.out; have := HEQ.out; have := HLT.out; omega)
            have HFE := Lib.hid (show ∃ a, feedS 1 m c St.new bs = (midS (at_ + rest.length) at_ rest false false, ds.map Fd.fr) from by
              obtain ⟨a, ha⟩ := HT.out.all
              rw [HRS.out, HP.out.short a HVR.out HVM.out HLE.out] at ha
              exact ⟨a, by rw [ha]; simp⟩)
            obtain ⟨⟨x0, x1, x2⟩, ⟨y0, y1, y2⟩, z0, z1, z2, t0, t1, t2⟩ := HX4.out.cells_
            go_upto_region 21 with fail
            obtain ⟨w5, hw5⟩ : ∃ w5, w4.setCell ⟨w.heap.size + 2, 2, none⟩ (.int .i64 (at_ : Int)) = w5 := ⟨_, rfl⟩
            have HX5 := Lib.hid (hw5 ▸ HX4.out.set_mid (at_ : Int))
            rw [hw5]
            clear x0 x1 x2 y0 y1 y2 z0 z1 z2 t0 t1 t2 hw5
            obtain ⟨⟨x0, x1, x2⟩, ⟨y0, y1, y2⟩, z0, z1, z2, -, -, -⟩ := HX5.out.cells_
            go_wp2_with fail
            obtain ⟨hk, hfr, hbw⟩ := HX5.out.ret
            refine bodyPost_ret (v := .agg #[.slice Ao ds.length co, .bool false, .int .i64 (at_ : Int)]) (rx_res rfl rfl hk) rfl ⟨_, _, ?_, hfr, ?_, hbw⟩
            · obtain ⟨a, ha⟩ := HFE.out
              rw [ha]; rfl
            · obtain ⟨a, ha⟩ := HFE.out
              rw [ha]
          · have HLE := Lib.hid (show E ≤ rest.length by have := HRE0.out; have := HLT.out; omega)
            have HJE := Lib.hid (show j ≤ E by have := HEQ.out; omega)
            obtain ⟨Ae, ce, hse, hre⟩ := slice_seg w4 A n cp (at_ + j) (E - j) bs (HR.out.below HX4.out.below_) (by have := HJE.out; omega)
            have HSE := Lib.hid (show ∀ W' : World, (Instr.slice 28 (.slice A n cp) (some (.int .i64 ((at_ : Int) + j))) (some (.int .i64 ((at_ : Int) + E))) none).run Try.prog W' = .ok (.slice Ae (E - j) ce) W' from fun W' => by
              have := hse W'
              rw [show ((at_ + j : Nat) : Int) = (at_ : Int) + j by omega, show (at_ : Int) + j + ((E - j : Nat) : Int) = (at_ : Int) + E by have := HJE.out; omega] at this
              exact this)
            have HRE := Lib.hid hre
            have C55 := Lib.hid (fun W (h : RB W Ae (E - j) ce ((bs.drop (at_ + j)).take (E - j))) => ropened_any 1 m c at_ HF.out.c1 HF.out.c2 Ae (E - j) ce ((bs.drop (at_ + j)).take (E - j)) W h (by have := HEQ.out; have := HM1.out; have := HVM.out; have := tailN_le c; omega))
            have HFE := Lib.hid (show RxT 1 m c bs (at_ + E) (ds ++ [⟨openS c at_ ((bs.drop (at_ + j)).take (E - j)), none, 0, 0⟩]) from by
              refine ⟨by rw [HR.out.len]; omega, at_, ?_⟩
              obtain ⟨hl, a, ha⟩ := HT.out
              rw [take_add2, feedS_app, ha]
              have hd := HP.out.done a HVR.out HVM.out HEQ.out.symm HLE.out
              rw [← HRS.out] at hd
              rw [hd, List.drop_take, List.drop_drop]
              simp)
            unfold Framed1 FV at C55
            have HWR := Lib.hid (show IntKind.i64.wrap ((at_ : Int) + j) = (at_ : Int) + j by rw [IntKind.wrap_i64]; omega)
            have HS22 := Lib.hid HX4.out.drew.rxx
            obtain ⟨fr, hfr⟩ : ∃ fr, openS c at_ ((bs.drop (at_ + j)).take (E - j)) = fr := ⟨_, rfl⟩
            rw [hfr] at C55 HFE
            have HQ3 := Lib.hid (And.intro hn3 (And.intro hj0 (And.intro ha0 (And.intro hjn (And.intro hE0 (And.intro hE5 hle))))))
            clear hse hre hfr
            go_upto_region 22 with fail
            clear hn3 hj0 ha0 hjn hE0 hE5 hle
            refine wp_region_G (S0 := (RxX w.heap.size (w.heap.size + 2) 1 m c (.slice Ao ds.length co))) (S1 := (fun _ => True)) (c := 14) (by kernel_rfl) ?_
            have hHeld := HS22.out
            have h01 := (fun (W : World) (h : (RxX w.heap.size (w.heap.size + 2) 1 m c (.slice Ao ds.length co)) W) => trivial)
            refine wpG_takeA (i := 0) (oi := ⟨some 126, _, _, _, _, _⟩) (v := .pointer (some ⟨w.heap.size + 2, 0, none⟩)) rfl (by kernel_rfl) (by kernel_rfl) (by kernel_rfl) (by decide) (fun _ _ _ h => h) h01 rfl hHeld (Or.inl ⟨by rfl, ?_⟩) ?_
            · (intro W9 hSw; have s1 := HSE.out; go_simp; (try (first | with_reducible rfl | rfl | (simp; done) | (exact HWR.out))))
            try simp only [Act.put, List.setIfInBounds_toArray, List.set_cons_zero, List.set_cons_succ]
            refine wpG_take0 (i := 1) (oi := ⟨some 127, _, _, _, _, _⟩) (v := .slice Ao ds.length co) rfl (by kernel_rfl) (by kernel_rfl) (by kernel_rfl) (by decide) (by kernel_rfl) (fun _ _ _ h => h) rfl hHeld (Or.inl ⟨by rfl, ?_⟩) ?_
            · (intro W9 hSw; obtain ⟨v0, v1, v2, v3⟩ := hSw; have s1 := HSE.out; go_simp; (try (first | with_reducible rfl | rfl | (simp; done) | (exact HWR.out))))
            try simp only [Act.put, List.setIfInBounds_toArray, List.set_cons_zero, List.set_cons_succ]
            refine wpG_take0 (i := 2) (oi := ⟨some 128, _, _, _, _, _⟩) (v := .agg #[.int .i64 1, .int .i64 m, .int .i64 c]) rfl (by kernel_rfl) (by kernel_rfl) (by kernel_rfl) (by decide) (by kernel_rfl) (fun _ _ _ h => h) rfl hHeld (Or.inl ⟨by rfl, ?_⟩) ?_
            · (intro W9 hSw; obtain ⟨v0, v1, v2, v3⟩ := hSw; have s1 := HSE.out; go_simp; (try (first | with_reducible rfl | rfl | (simp; done) | (exact HWR.out))))
            try simp only [Act.put, List.setIfInBounds_toArray, List.set_cons_zero, List.set_cons_succ]
            refine wpG_takeA (i := 3) (oi := ⟨some 129, _, _, _, _, _⟩) (v := .int .i64 (at_ : Int)) rfl (by kernel_rfl) (by kernel_rfl) (by kernel_rfl) (by decide) (fun _ _ _ h => h) h01 rfl hHeld (Or.inl ⟨by rfl, ?_⟩) ?_
            · (intro W9 hSw; have s1 := HSE.out; go_simp; (try (first | with_reducible rfl | rfl | (simp; done) | (exact HWR.out))))
            try simp only [Act.put, List.setIfInBounds_toArray, List.set_cons_zero, List.set_cons_succ]
            refine wpG_takeA (i := 4) (oi := ⟨some 130, _, _, _, _, _⟩) (v := .slice A n cp) rfl (by kernel_rfl) (by kernel_rfl) (by kernel_rfl) (by decide) (fun _ _ _ h => h) h01 rfl hHeld (Or.inl ⟨by rfl, ?_⟩) ?_
            · (intro W9 hSw; have s1 := HSE.out; go_simp; (try (first | with_reducible rfl | rfl | (simp; done) | (exact HWR.out))))
            try simp only [Act.put, List.setIfInBounds_toArray, List.set_cons_zero, List.set_cons_succ]
            refine wpG_takeA (i := 5) (oi := ⟨some 131, _, _, _, _, _⟩) (v := .int .i64 (at_ : Int)) rfl (by kernel_rfl) (by kernel_rfl) (by kernel_rfl) (by decide) (fun _ _ _ h => h) h01 rfl hHeld (Or.inl ⟨by rfl, ?_⟩) ?_
            · (intro W9 hSw; have s1 := HSE.out; go_simp; (try (first | with_reducible rfl | rfl | (simp; done) | (exact HWR.out))))
            try simp only [Act.put, List.setIfInBounds_toArray, List.set_cons_zero, List.set_cons_succ]
            refine wpG_takeA (i := 6) (oi := ⟨some 132, _, _, _, _, _⟩) (v := .int .i64 (j : Int)) rfl (by kernel_rfl) (by kernel_rfl) (by kernel_rfl) (by decide) (fun _ _ _ h => h) h01 rfl hHeld (Or.inl ⟨by rfl, ?_⟩) ?_
            · (intro W9 hSw; have s1 := HSE.out; go_simp; (try (first | with_reducible rfl | rfl | (simp; done) | (exact HWR.out))))
            try simp only [Act.put, List.setIfInBounds_toArray, List.set_cons_zero, List.set_cons_succ]
            refine wpG_takeA (i := 7) (oi := ⟨some 133, _, _, _, _, _⟩) (v := .int .i64 ((at_ : Int) + j)) rfl (by kernel_rfl) (by kernel_rfl) (by kernel_rfl) (by decide) (fun _ _ _ h => h) h01 rfl hHeld (Or.inl ⟨by rfl, ?_⟩) ?_
            · (intro W9 hSw; have s1 := HSE.out; go_simp; (try (first | with_reducible rfl | rfl | (simp; done) | (exact HWR.out))))
            try simp only [Act.put, List.setIfInBounds_toArray, List.set_cons_zero, List.set_cons_succ]
            refine wpG_takeA (i := 8) (oi := ⟨some 134, _, _, _, _, _⟩) (v := .int .i64 ((at_ : Int) + E)) rfl (by kernel_rfl) (by kernel_rfl) (by kernel_rfl) (by decide) (fun _ _ _ h => h) h01 rfl hHeld (Or.inl ⟨by rfl, ?_⟩) ?_
            · (intro W9 hSw; have s1 := HSE.out; go_simp; (try (first | with_reducible rfl | rfl | (simp; done) | (exact HWR.out))))
            try simp only [Act.put, List.setIfInBounds_toArray, List.set_cons_zero, List.set_cons_succ]
            refine wpG_takeA (i := 9) (oi := ⟨some 135, _, _, _, _, _⟩) (v := .slice Ae (E - j) ce) rfl (by kernel_rfl) (by kernel_rfl) (by kernel_rfl) (by decide) (fun _ _ _ h => h) h01 rfl hHeld (Or.inl ⟨by rfl, ?_⟩) ?_
            · (intro W9 hSw; have s1 := HSE.out; go_simp; (try (first | with_reducible rfl | rfl | (simp; done) | (exact HWR.out))))
            try simp only [Act.put, List.setIfInBounds_toArray, List.set_cons_zero, List.set_cons_succ]
            refine wpG_oneA (i := 10) (o := ⟨some 136, _, _, _, _, _⟩) (by kernel_rfl) rfl rfl (fun K hK => ?_)
            go_simp
            (with_reducible refine (C55.out _ (HRE.out.below (below_drew (Below.refl _ _)))).mono ?_); rintro e w8 ⟨A8, n8, c8, rfl, ho8, b8⟩
            have HX8 := Lib.hid (HX4.out.drew.below b8)
            have HO8 := Lib.hid (own_base ho8 (show w.heap.size ≤ w4.drew.heap.size from HX4.out.below_.size))
            clear ho8 b8
            refine hK.out _ _ HX8.out.rxx (fun hHeld => ?_)
            clear hK K
            try simp only [Act.put, List.setIfInBounds_toArray, List.set_cons_zero, List.set_cons_succ]
            refine wpG_oneA (i := 11) (o := ⟨some 137, _, _, _, _, _⟩) (by kernel_rfl) rfl rfl (fun K hK => ?_)
            have hb9 : Below w8.heap.size w8 (w8.alloc (.cells (Fd.cells ⟨fr, A8, n8, c8⟩).toArray 44)) := (Below.refl _ w8).alloc (Nat.le_refl _) _
            go_simp
            refine hK.out _ _ (HX8.out.below hb9).rxx (fun hHeld => ?_)
            clear hb9
            clear hK K
            try simp only [Act.put, List.setIfInBounds_toArray, List.set_cons_zero, List.set_cons_succ]
            refine wpG_oneA (i := 12) (o := ⟨some 138, _, _, _, _, _⟩) (by kernel_rfl) rfl rfl (fun K hK => ?_)
            refine step_app_sz rfl (.tmp 127) (.tmp 137) 40 rfl els40 (base := w.heap.size) (n := ds.length) (m := 1) (xs := ds.flatMap Fd.cells) (news := Fd.cells ⟨fr, A8, n8, c8⟩) rfl (own_alloc HX8.out.frs.own) rfl (HoldsS.new _ 3 1 (Fd.cells ⟨fr, A8, n8, c8⟩) 44 rfl) (fd_one _) (by have := HDL.out; unfold maxLen; omega) (by have := HDL.out; omega) (by have := HX8.out.below_.size; simp; omega) (by simp) ?_
            intro v9 w9 hown hgr
            obtain ⟨A9, c9, hv9, -⟩ := own_formS hown
            subst hv9
            have HX9 := Lib.hid (RxM.push (d := ⟨fr, A8, n8, c8⟩) HX8.out HO8.out hown hgr)
            have HXB := Lib.hid (RxM.box_ HX8.out hgr)
            clear hown hgr
            refine hK.out _ _ HXB.out.2 (fun hHeld => ?_)
            clear hK K
            try simp only [Act.put, List.setIfInBounds_toArray, List.set_cons_zero, List.set_cons_succ]
            refine wpG_takeA (i := 13) (oi := ⟨some 139, _, _, _, _, _⟩) (v := .pointer (some ⟨w.heap.size + 2, 0, none⟩)) rfl (by kernel_rfl) (by kernel_rfl) (by kernel_rfl) (by decide) (fun _ _ _ h => h) h01 rfl hHeld (Or.inl ⟨by rfl, ?_⟩) ?_
            · (intro W9 hSw; have s1 := HSE.out; go_simp; (try (first | with_reducible rfl | rfl | (simp; done) | (exact HWR.out))))
            try simp only [Act.put, List.setIfInBounds_toArray, List.set_cons_zero, List.set_cons_succ]
            refine wpG_oneB (i := 14) (o := ⟨none, _, _, _, _, _⟩) (by kernel_rfl) rfl rfl (fun K hK => ?_)
            have kq := HXB.out.2.1
            have zq := HXB.out.1.frozen 0
            go_simp
            refine hK.out _ _ trivial (fun hHeld => ?_)
            clear hK K
            try simp only [Act.put, List.setIfInBounds_toArray, List.set_cons_zero, List.set_cons_succ]
            refine wpG_done (by kernel_rfl) ?_ _
            clear hHeld h01
            have HX5 := HX9
            go_wp2_with fail
            go_roundw
            case rel =>
              refine ⟨at_ + E, .slice A9 (ds.length + 1) c9, ds ++ [⟨fr, A8, n8, c8⟩], by go_num, Lib.hid HX5.out, Lib.hid ?_⟩
              obtain ⟨h1, a, h2⟩ := HFE.out
              exact ⟨h1, a, by rw [h2]; simp⟩
            case measure => have := HQ3.out; have := HEQ.out; have := HJ.out; simp [intOf]; omega
        · by_cases hjl : (at_ : Int) + j < n
          · have qe : (ee != 0) = true := by simpa using he
            have HE := Lib.hid he
            have HJL := Lib.hid (show at_ + (j + 1) ≤ n by omega)
            have HRL := Lib.hid (show at_ + (j + 1) ≤ n by omega)
            have HRD0 := HRD
            have HIB0 := HIB
            have HRW2 := HRW
            have HRW := HRQ
            obtain ⟨Aj, cj, hsj, hrj⟩ := slice_seg wq A n cp at_ (j + 1) bs HRW.out (by have := HRL.out; omega)
            have HSJ := Lib.hid hsj
            have HRJ := Lib.hid hrj
            rw [HRS.out] at HRJ hrj
            have C52 := Lib.hid (fun W (h : RB W Aj (j + 1) cj (rest.take (j + 1))) => Vr.rread_any Aj (j + 1) cj W.heap.size (rest.take (j + 1)) false W h.len (by have := HN.out; have := HRL.out; omega) h.bs)
            obtain ⟨ib, hib⟩ : ∃ ib, (Vr.beginsS (rest.take (j + 1)) false 0 m).1 = ib := ⟨_, rfl⟩
            have hbeq : Vr.tupB (Vr.beginsS (rest.take (j + 1)) false 0 m) = .tuple #[.bool ib, .int .i64 0] := by
              have h2 := Vr.begins_ok2 (l := rest.take (j + 1)) (loose := false) (lo := 0) (hi := m) (by omega) (by have := HF.out.m1; omega) (by have := HF.out.m2; omega)
              unfold Vr.tupB
              rw [hib, h2]
            have C53 := Lib.hid (fun W (h : RB W Aj (j + 1) cj (rest.take (j + 1))) => (show Calls Try.prog 53 #[.slice Aj (j + 1) cj, .bool false, .int .i64 0, .int .i64 m] W fun e w' => e = .returned (.tuple #[.bool ib, .int .i64 0]) ∧ W = w' from by
              have := Vr.rbegins_any Aj (j + 1) cj W.heap.size (rest.take (j + 1)) false 0 m W h.len (by have := HN.out; have := HRL.out; omega) h.bs
              rw [hbeq] at this
              exact this))
            obtain ⟨v, hv⟩ : ∃ v, (Vr.readS (rest.take (j + 1)) false).1 = v := ⟨_, rfl⟩
            obtain ⟨ll, hll⟩ : ∃ ll, (Vr.readS (rest.take (j + 1)) false).2.1 = ll := ⟨_, rfl⟩
            obtain ⟨ee, hee⟩ : ∃ ee, (Vr.readS (rest.take (j + 1)) false).2.2 = ee := ⟨_, rfl⟩
            have hreq : Vr.tup3 (Vr.readS (rest.take (j + 1)) false) = .tuple #[.int .i64 v, .int .i64 ll, .int .i64 ee] := by unfold Vr.tup3; rw [hv, hll, hee]
            rw [hreq] at C52
            have HRD := Lib.hid (show Vr.readS (rest.take (j + 1)) false = (v, ll, ee) from by rw [← hv, ← hll, ← hee])
            have HIB := Lib.hid hib
            clear hib hbeq hv hll hee hreq hrj
            rw [show ((j + 1 : Nat) : Int) = (j : Int) + 1 by omega] at hsj
            have HSJ := Lib.hid hsj
            have HWR := Lib.hid (show IntKind.i64.wrap ((at_ : Int) + ((j : Int) + 1)) = (at_ : Int) + ((j : Int) + 1) by rw [IntKind.wrap_i64]; omega)
            have HS6 := Lib.hid (HX2.out.drew.rxf)
            go_wp2_with (go_at_call 52; (with_reducible refine (C52.out _ HRJ.out).mono ?_); rintro e _ ⟨rfl, rfl⟩; refine Hid.out ?_)
            refine Lib.hid ?_
            clear hsj he qe hjn
            go_upto_region 10 with fail
            have HQ3 := Lib.hid (And.intro hn3 (And.intro hj0 (And.intro ha0 hjl)))
            clear hn3 hj0 ha0 hjl
            refine wp_region_G (S0 := (RxF w.heap.size 1 m c)) (S1 := (RxF w.heap.size 1 m c)) (c := 99) (by kernel_rfl) ?_
            have hHeld := HS6.out
            have h01 := (fun (W : World) (h : (RxF w.heap.size 1 m c) W) => h)
            refine wpG_takeB (i := 0) (oi := ⟨some 72, _, _, _, _, _⟩) (v := .slice A n cp) rfl (by kernel_rfl) (by kernel_rfl) (by kernel_rfl) (by decide) (fun _ _ _ h => h) h01 rfl hHeld (Or.inl ⟨by rfl, ?_⟩) ?_
            · (intro W9 hSw; obtain ⟨v1, v2, v3⟩ := hSw; have s1 := HSJ.out; go_simp; (try (first | with_reducible rfl | rfl | (simp; done) | (exact HWR.out))))
            try simp only [Act.put, List.setIfInBounds_toArray, List.set_cons_zero, List.set_cons_succ]
            refine wpG_takeB (i := 1) (oi := ⟨some 73, _, _, _, _, _⟩) (v := .int .i64 (at_ : Int)) rfl (by kernel_rfl) (by kernel_rfl) (by kernel_rfl) (by decide) (fun _ _ _ h => h) h01 rfl hHeld (Or.inl ⟨by rfl, ?_⟩) ?_
            · (intro W9 hSw; obtain ⟨v1, v2, v3⟩ := hSw; have s1 := HSJ.out; go_simp; (try (first | with_reducible rfl | rfl | (simp; done) | (exact HWR.out))))
            try simp only [Act.put, List.setIfInBounds_toArray, List.set_cons_zero, List.set_cons_succ]
            refine wpG_takeB (i := 2) (oi := ⟨some 74, _, _, _, _, _⟩) (v := .int .i64 (at_ : Int)) rfl (by kernel_rfl) (by kernel_rfl) (by kernel_rfl) (by decide) (fun _ _ _ h => h) h01 rfl hHeld (Or.inl ⟨by rfl, ?_⟩) ?_
            · (intro W9 hSw; obtain ⟨v1, v2, v3⟩ := hSw; have s1 := HSJ.out; go_simp; (try (first | with_reducible rfl | rfl | (simp; done) | (exact HWR.out))))
            try simp only [Act.put, List.setIfInBounds_toArray, List.set_cons_zero, List.set_cons_succ]
            refine wpG_takeB (i := 3) (oi := ⟨some 75, _, _, _, _, _⟩) (v := .int .i64 ((j : Int) + 1)) rfl (by kernel_rfl) (by kernel_rfl) (by kernel_rfl) (by decide) (fun _ _ _ h => h) h01 rfl hHeld (Or.inl ⟨by rfl, ?_⟩) ?_
            · (intro W9 hSw; obtain ⟨v1, v2, v3⟩ := hSw; have s1 := HSJ.out; go_simp; (try (first | with_reducible rfl | rfl | (simp; done) | (exact HWR.out))))
            try simp only [Act.put, List.setIfInBounds_toArray, List.set_cons_zero, List.set_cons_succ]
            refine wpG_takeB (i := 4) (oi := ⟨some 76, _, _, _, _, _⟩) (v := .int .i64 ((at_ : Int) + ((j : Int) + 1))) rfl (by kernel_rfl) (by kernel_rfl) (by kernel_rfl) (by decide) (fun _ _ _ h => h) h01 rfl hHeld (Or.inl ⟨by rfl, ?_⟩) ?_
            · (intro W9 hSw; obtain ⟨v1, v2, v3⟩ := hSw; have s1 := HSJ.out; go_simp; (try (first | with_reducible rfl | rfl | (simp; done) | (exact HWR.out))))
            try simp only [Act.put, List.setIfInBounds_toArray, List.set_cons_zero, List.set_cons_succ]
            refine wpG_takeB (i := 5) (oi := ⟨some 77, _, _, _, _, _⟩) (v := .slice Aj (j + 1) cj) rfl (by kernel_rfl) (by kernel_rfl) (by kernel_rfl) (by decide) (fun _ _ _ h => h) h01 rfl hHeld (Or.inl ⟨by rfl, ?_⟩) ?_
            · (intro W9 hSw; obtain ⟨v1, v2, v3⟩ := hSw; have s1 := HSJ.out; go_simp; (try (first | with_reducible rfl | rfl | (simp; done) | (exact HWR.out))))
            try simp only [Act.put, List.setIfInBounds_toArray, List.set_cons_zero, List.set_cons_succ]
            refine wpG_takeB (i := 6) (oi := ⟨some 78, _, _, _, _, _⟩) (v := .pointer (some ⟨w.heap.size, 1, none⟩)) rfl (by kernel_rfl) (by kernel_rfl) (by kernel_rfl) (by decide) (fun _ _ _ h => h) h01 rfl hHeld (Or.inl ⟨by rfl, ?_⟩) ?_
            · (intro W9 hSw; obtain ⟨v1, v2, v3⟩ := hSw; have s1 := HSJ.out; go_simp; (try (first | with_reducible rfl | rfl | (simp; done) | (exact HWR.out))))
            try simp only [Act.put, List.setIfInBounds_toArray, List.set_cons_zero, List.set_cons_succ]
            refine wpG_takeB (i := 7) (oi := ⟨some 79, _, _, _, _, _⟩) (v := .int .i64 m) rfl (by kernel_rfl) (by kernel_rfl) (by kernel_rfl) (by decide) (fun _ _ _ h => h) h01 rfl hHeld (Or.inl ⟨by rfl, ?_⟩) ?_
            · (intro W9 hSw; obtain ⟨v1, v2, v3⟩ := hSw; have s1 := HSJ.out; go_simp; (try (first | with_reducible rfl | rfl | (simp; done) | (exact HWR.out))))
            try simp only [Act.put, List.setIfInBounds_toArray, List.set_cons_zero, List.set_cons_succ]
            refine wpG_oneB (i := 8) (o := ⟨some 80, _, _, _, _, _⟩) (by kernel_rfl) rfl rfl (fun K hK => ?_)
            go_simp
            (with_reducible refine (C53.out _ (HRJ.out.below (below_drew (Below.refl _ _)))).mono ?_); rintro e _ ⟨rfl, rfl⟩
            refine hK.out _ _ HS6.out (fun hHeld => ?_)
            clear hK K
            try simp only [Act.put, List.setIfInBounds_toArray, List.set_cons_zero, List.set_cons_succ]
            refine wpG_takeB (i := 9) (oi := ⟨some 71, _, _, _, _, _⟩) (v := .tuple #[.bool ib, .int .i64 0]) rfl (by kernel_rfl) (by kernel_rfl) (by kernel_rfl) (by decide) (fun _ _ _ h => h) h01 rfl hHeld (Or.inl ⟨by rfl, ?_⟩) ?_
            · (intro W9 hSw; obtain ⟨v1, v2, v3⟩ := hSw; have s1 := HSJ.out; go_simp; (try (first | with_reducible rfl | rfl | (simp; done) | (exact HWR.out))))
            try simp only [Act.put, List.setIfInBounds_toArray, List.set_cons_zero, List.set_cons_succ]
            refine wpG_takeB (i := 10) (oi := ⟨some 81, _, _, _, _, _⟩) (v := .bool ib) rfl (by kernel_rfl) (by kernel_rfl) (by kernel_rfl) (by decide) (fun _ _ _ h => h) h01 rfl hHeld (Or.inl ⟨by rfl, ?_⟩) ?_
            · (intro W9 hSw; obtain ⟨v1, v2, v3⟩ := hSw; have s1 := HSJ.out; go_simp; (try (first | with_reducible rfl | rfl | (simp; done) | (exact HWR.out))))
            try simp only [Act.put, List.setIfInBounds_toArray, List.set_cons_zero, List.set_cons_succ]
            refine wpG_takeB (i := 11) (oi := ⟨some 82, _, _, _, _, _⟩) (v := .int .i64 0) rfl (by kernel_rfl) (by kernel_rfl) (by kernel_rfl) (by decide) (fun _ _ _ h => h) h01 rfl hHeld (Or.inl ⟨by rfl, ?_⟩) ?_
            · (intro W9 hSw; obtain ⟨v1, v2, v3⟩ := hSw; have s1 := HSJ.out; go_simp; (try (first | with_reducible rfl | rfl | (simp; done) | (exact HWR.out))))
            try simp only [Act.put, List.setIfInBounds_toArray, List.set_cons_zero, List.set_cons_succ]
            refine wpG_takeB (i := 12) (oi := ⟨some 11, _, _, _, _, _⟩) (v := .bool ib) rfl (by kernel_rfl) (by kernel_rfl) (by kernel_rfl) (by decide) (fun _ _ _ h => h) h01 rfl hHeld (Or.inl ⟨by rfl, ?_⟩) ?_
            · (intro W9 hSw; obtain ⟨v1, v2, v3⟩ := hSw; have s1 := HSJ.out; go_simp; (try (first | with_reducible rfl | rfl | (simp; done) | (exact HWR.out))))
            try simp only [Act.put, List.setIfInBounds_toArray, List.set_cons_zero, List.set_cons_succ]
            refine wpG_done (by kernel_rfl) ?_ _
            clear hHeld h01
            go_wp2_with fail
            go_roundw
            case rel => exact ⟨j + 1, v, ll, ee, ib, by go_num, rfl, rfl, rfl, rfl, HRD, HIB, Lib.hid (HP.out.next HM1.out.1 HM1.out.2 (by rw [HRD0.out]; exact HE.out) HIB0.out (by have := HRE0.out; have := HJL.out; omega)), Lib.hid HX2.out.drew⟩
            case measure => have := HJL.out; simp [intOf]; omega
          · have qe : (ee != 0) = true := by simpa using he
            have hz := readS_err (l := rest.take j) (by rw [HRD.out]; exact he)
            rw [HRD.out] at hz
            obtain ⟨hz1, hz2⟩ := hz
            simp only at hz1 hz2
            have HE := Lib.hid he
            subst hz1 hz2
            have C54 := Lib.hid (tail_any 1 m c HF.out.c1 HF.out.c2 wq)
            unfold FV at C54
            have ht2 : (tailN c : Int) ≤ 4 := by have := tailN_le c; omega
            have ht0 : (0 : Int) ≤ (tailN c : Int) := by omega
            have HJE := Lib.hid (show j = rest.length by have := HRE0.out; have := HJ.out; omega)
            clear he
            go_wp2_with (go_at_call 54; (with_reducible refine C54.out.mono ?_); rintro e w4 ⟨rfl, b4⟩; refine Hid.out ?_)
            refine Lib.hid ?_
            have HX4 := Lib.hid (HX2.out.below b4)
            clear b4 f0 f1 f2
            have HFE := Lib.hid (show ∃ a, feedS 1 m c St.new bs = (midS (at_ + rest.length) at_ rest false false, ds.map Fd.fr) from by
              obtain ⟨a, ha⟩ := HT.out.all
              rw [HRS.out, HP.out.mid a (by rw [HRD.out]; exact HE.out) HIB.out HJE.out] at ha
              exact ⟨a, by rw [ha]; simp⟩)
            obtain ⟨⟨x0, x1, x2⟩, ⟨y0, y1, y2⟩, z0, z1, z2, t0, t1, t2⟩ := HX4.out.cells_
            go_upto_region 21 with fail
            obtain ⟨w5, hw5⟩ : ∃ w5, w4.setCell ⟨w.heap.size + 2, 2, none⟩ (.int .i64 (at_ : Int)) = w5 := ⟨_, rfl⟩
            have HX5 := Lib.hid (hw5 ▸ HX4.out.set_mid (at_ : Int))
            rw [hw5]
            clear x0 x1 x2 y0 y1 y2 z0 z1 z2 t0 t1 t2 hw5
            obtain ⟨⟨x0, x1, x2⟩, ⟨y0, y1, y2⟩, z0, z1, z2, -, -, -⟩ := HX5.out.cells_
            go_wp2_with fail
            obtain ⟨hk, hfr, hbw⟩ := HX5.out.ret
            refine bodyPost_ret (v := .agg #[.slice Ao ds.length co, .bool false, .int .i64 (at_ : Int)]) (rx_res rfl rfl hk) rfl ⟨_, _, ?_, hfr, ?_, hbw⟩
            · obtain ⟨a, ha⟩ := HFE.out
              rw [ha]; rfl
            · obtain ⟨a, ha⟩ := HFE.out
              rw [ha]
end Go.Proofs.Ytibkhjpjneoabaa
