/- FrameHolds: the law's walk. -/
import Derived.Test.YtibkhjpjneoabaaFt
import Derived.Test.YtibkhjpjneoabaaRw
import Derived.Test.YtibkhjpjneoabaaPl
namespace Go.Proofs.Ytibkhjpjneoabaa
open Go.RowKit
set_option linter.unusedVariables false
set_option linter.unusedSimpArgs false

section
variable {P : Program} {w : World} {ops : Array Oper} {rest : List Oper} {o : Oper} {a : Act} {Q : Exit → Act → World → Prop}
theorem run_app_szN {ty t e : TypeId} {size bytes : Nat} (hE : ElS P t e size bytes) {base n m c : Nat} {v : Value} {xs news : List Value} {A : Option Addr} (hown : w.ownsRow base e size v n xs) (hsrc : HoldsS w size A m news) (h1 : ∀ u ∈ news, u.oneCell' = true) (h63 : n + m ≤ maxLen) (hby : (n + m) * bytes ≤ 140737488355328) (hbase : base ≤ w.heap.size) :
    ∃ v' w', (Builtin.append_ #[t, t] ty #[v, .slice A m c]).run P w = .ok v' w' ∧ w'.ownsRow base e size v' (n + m) (xs ++ news) ∧ w.grownBy w' v.ownBlock ∧ (v'.ownBlock = v.ownBlock ∨ v'.ownBlock = some w.heap.size) := by
  obtain ⟨i, z, hi, hz, hs, hb, hzs⟩ := hE.i
  cases A with
  | none =>
    obtain rfl := hsrc.2.1 rfl
    obtain rfl : news = [] := List.eq_nil_of_length_eq_zero (by simpa using hsrc.1)
    obtain ⟨A', cap, rfl, hn, _, hA, _⟩ := own_formS hown
    refine ⟨_, w, ?_, by simpa using hown, World.grownBy.refl w _, .inl rfl⟩
    cases A' with
    | none =>
      obtain ⟨rfl, rfl⟩ := hA rfl
      simp [Builtin.append_, run_underlying hE.t, sizeOf, typeInfo, hi, Builtin.lenOf, Builtin.firstCells]
    | some b => simp [Builtin.append_, run_underlying hE.t, sizeOf, typeInfo, hi, Builtin.lenOf, Builtin.firstCells, hn, storeCells]
  | some ad =>
    obtain ⟨v', w', h, h2, h3, _, h5⟩ := run_append_own_at (P := P) w base t ty e i z size bytes hE.t hi hz hs hb hzs hE.pos v n xs hown ad m c news hsrc.1 (fun j u hu => hsrc.2.2 ad rfl j u hu) h1 h63 hby hbase
    exact ⟨v', w', h, h2, h3, h5⟩
theorem step_app_szN {K : Act → World → Prop} {E : Prop} (hgd : o.guard = none) (s x : Operand) (t : TypeId) (hop : o.op = Op.call { callee := Callee.builtin Builtin.append, args := #[s, x], argTypes := #[t, t] }) {e : TypeId} {size bytes : Nat} (hE : ElS P t e size bytes) {base n m c : Nat} {v : Value} {xs news : List Value} {A : Option Addr} (hs : a.eval s = v) (hown : w.ownsRow base e size v n xs) (hx : a.eval x = .slice A m c) (hsrc : HoldsS w size A m news) (h1 : ∀ u ∈ news, u.oneCell' = true) (h63 : n + m ≤ maxLen) (hby : (n + m) * bytes ≤ 140737488355328) (hbase : base ≤ w.heap.size)
    (hK : ∀ v' w', w'.ownsRow base e size v' (n + m) (xs ++ news) → w.grownBy w' v.ownBlock → (v'.ownBlock = v.ownBlock ∨ v'.ownBlock = some w.heap.size) → K (a.put o.dst v') w') : if Region.wanted o (yielded ops a.tmps) = true then Oper.wp P o a w K Q else E := by
  obtain ⟨v', w', hrun, p1, p2, p3⟩ := run_app_szN (ty := o.type) hE hown hsrc h1 h63 hby hbase
  exact step_run hgd s x t hop hs hx hrun (hK v' w' p1 p2 p3)
end
theorem cells_one (ds : List Fd) : ∀ u ∈ ds.flatMap Fd.cells, u.oneCell' = true := fun u hu => by
  obtain ⟨d, _, hd⟩ := List.mem_flatMap.1 hu
  exact fd_one d u hd

/-- What the loop over the pieces keeps: p bytes of ys are read. -/
structure HoI (w W : World) (B r : Nat) (k m c : Int) (ys : List UInt8) (p : Nat) (A : Option Addr) (n cp : Nat) (v out : Value) (ds : List Fd) : Prop where
  rd : RdS W B r k m c v (feedS k m c St.new (ys.take p)).1
  rb : RB W A n cp (ys.drop p)
  sep : ∀ a, A = some a → 0 < n → a.block < B
  hr : B ≤ r
  frs : FrL W B out ds
  fr : ds.map Fd.fr = (feedS k m c St.new (ys.take p)).2
  apart : ∀ d ∈ ds, ∀ j, d.val.ownBlock = some j → v.ownBlock ≠ some j
  below : Below w.heap.size w W
  wB : w.heap.size ≤ B
/-- Between the call and the append. -/
structure Ho2 (w W : World) (B r : Nat) (k m c : Int) (ys : List UInt8) (p : Nat) (A : Option Addr) (n cp : Nat) (v out : Value) (ds es : List Fd) (A2 : Option Addr) (c2 : Nat) : Prop where
  rd : RdS W B r k m c v (feedS k m c St.new (ys.take p)).1
  rb : RB W A n cp (ys.drop p)
  sep : ∀ a, A = some a → 0 < n → a.block < B
  hr : B ≤ r
  frs : FrL W B out ds
  got : FrL W B (.slice A2 es.length c2) es
  fr : (ds ++ es).map Fd.fr = (feedS k m c St.new (ys.take p)).2
  apart : ∀ d ∈ ds ++ es, ∀ j, d.val.ownBlock = some j → v.ownBlock ≠ some j
  below : Below w.heap.size w W
  wB : w.heap.size ≤ B
section
variable {w W W2 : World} {B r : Nat} {k m c : Int} {ys : List UInt8} {p n cp z : Nat} {A : Option Addr} {v v2 out got : Value} {ds es : List Fd} {A2 : Option Addr} {c2 : Nat}
theorem HoI.base (h : HoI w W B r k m c ys p A n cp v out ds) : B ≤ W.heap.size := h.rd.base
theorem HoI.sfo (h : HoI w W B r k m c ys p A n cp v out ds) : ∀ j, SFo r v j → B ≤ j := fun j hj => by
  rcases hj with rfl | hj
  · exact h.hr
  · exact (h.rd.own.lt j hj).1
theorem HoI.drew (h : HoI w W B r k m c ys p A n cp v out ds) : HoI w W.drew B r k m c ys p A n cp v out ds := by
  have hb : Below W.heap.size W W.drew := below_drew (Below.refl _ W)
  exact ⟨h.rd.below hb, h.rb.below hb, h.sep, h.hr, h.frs.below hb, h.fr, h.apart, below_drew h.below, h.wB⟩
theorem take_add' (ys : List UInt8) (p z : Nat) : ys.take (p + z) = ys.take p ++ (ys.drop p).take z := List.take_add
theorem HoI.fed (h : HoI w W B r k m c ys p A n cp v out ds) (e : EaI W W2 B r k m c v (feedS k m c (feedS k m c St.new (ys.take p)).1 ((ys.drop p).take z)).1 (.slice A2 es.length c2) v2 es) (hf : es.map Fd.fr = (feedS k m c (feedS k m c St.new (ys.take p)).1 ((ys.drop p).take z)).2) :
    RdS W2 B r k m c v2 (feedS k m c St.new (ys.take (p + z))).1 ∧ RB W2 A n cp (ys.drop p) ∧ FrL W2 B out ds ∧ FrL W2 B (.slice A2 es.length c2) es ∧ (ds ++ es).map Fd.fr = (feedS k m c St.new (ys.take (p + z))).2 ∧ (∀ d ∈ ds ++ es, ∀ j, d.val.ownBlock = some j → v2.ownBlock ≠ some j) ∧ Below w.heap.size w W2 := by
  have e1 : feedS k m c St.new (ys.take (p + z)) = ((feedS k m c (feedS k m c St.new (ys.take p)).1 ((ys.drop p).take z)).1, (feedS k m c St.new (ys.take p)).2 ++ (feedS k m c (feedS k m c St.new (ys.take p)).1 ((ys.drop p).take z)).2) := by
    rw [take_add', feedS_app]
  refine ⟨by rw [e1]; exact e.rd, h.rb.only e.only fun a hA h0 hs => ?_, h.frs.only e.only (fun j hj hs => ?_) (fun d hd j hj hs => ?_), e.frs.base h.base, by rw [e1, List.map_append, h.fr, hf], fun d hd j hj he => ?_, ?_⟩
  · have := h.sep a hA h0
    have := h.sfo _ hs
    omega
  · rcases hs with hs | hs
    · subst hs; exact own_neB h.frs.own h.rd.blk (by decide) hj
    · exact own_neS h.frs.own h.rd.own (by decide) j hj hs
  · rcases hs with hs | hs
    · subst hs; exact own_neB (h.frs.rows d hd) h.rd.blk (by decide) hj
    · exact h.apart d hd j hj hs
  · rcases List.mem_append.1 hd with hd | hd
    · rcases e.hat with e2 | e2
      · exact h.apart d hd j hj (e2 ▸ he)
      · have := e2 j he
        have := own_lt (h.frs.rows d hd) j hj
        omega
    · exact e.apart d hd j hj he
  · exact h.below.trans (e.only.to_below h.below.size fun b hb hs => by have := h.sfo _ hs; have := h.wB; omega)
theorem HoI.to2 (h : HoI w W B r k m c ys p A n cp v out ds) (e : EaI W W2 B r k m c v (feedS k m c (feedS k m c St.new (ys.take p)).1 ((ys.drop p).take z)).1 (.slice A2 es.length c2) v2 es) (hf : es.map Fd.fr = (feedS k m c (feedS k m c St.new (ys.take p)).1 ((ys.drop p).take z)).2)
    {A3 : Option Addr} {c3 : Nat} (h3 : RB W2 A3 (n - z) c3 ((ys.drop p).drop z)) (hw : Within A A3) (hz : z ≤ n) : Ho2 w W2 B r k m c ys (p + z) A3 (n - z) c3 v2 out ds es A2 c2 := by
  obtain ⟨q1, q2, q3, q4, q5, q6, q7⟩ := h.fed e hf
  refine ⟨q1, by rwa [List.drop_drop] at h3, fun a hA h0 => ?_, h.hr, q3, q4, q5, q6, q7, h.wB⟩
  obtain ⟨a0, hA0, hb, -⟩ := hw a hA
  rw [hb]; exact h.sep a0 hA0 (by omega)
theorem Ho2.base (h : Ho2 w W B r k m c ys p A n cp v out ds es A2 c2) : B ≤ W.heap.size := h.rd.base
theorem Ho2.src (h : Ho2 w W B r k m c ys p A n cp v out ds es A2 c2) : HoldsS W 3 A2 es.length (es.flatMap Fd.cells) := HoldsS.own h.got.own
theorem Ho2.push (h : Ho2 w W B r k m c ys p A n cp v out ds es A2 c2) {v4 : Value} {w4 : World} (hown : w4.ownsRow B 44 3 v4 (ds.length + es.length) (ds.flatMap Fd.cells ++ es.flatMap Fd.cells)) (hg : W.drew.grownBy w4 out.ownBlock) (hat : v4.ownBlock = out.ownBlock ∨ v4.ownBlock = some W.drew.heap.size) : HoI w w4 B r k m c ys p A n cp v v4 (ds ++ es) := by
  have ho : Only (fun j => out.ownBlock = some j) W w4 := (Only.of_below (p := fun j => out.ownBlock = some j) (below_drew (Below.refl _ W))).trans (Only.grown (p := fun j => out.ownBlock = some j) (Only.refl _ _) hg fun g e _ => e) fun _ _ x => x
  have hlt : ∀ j, out.ownBlock = some j → B ≤ j := fun j hj => (h.frs.own.lt j hj).1
  have e1 : ds.flatMap Fd.cells ++ es.flatMap Fd.cells = (ds ++ es).flatMap Fd.cells := by simp
  refine ⟨h.rd.only ho fun q hq e => ?_, h.rb.only ho fun a hA h0 e => ?_, h.sep, h.hr, ⟨by rw [← e1, List.length_append]; exact hown, fun d hd => ?_⟩, h.fr, h.apart, h.below.trans (ho.to_below h.below.size fun b hb e => by have := hlt b e; have := h.wB; omega), h.wB⟩
  · rcases hq with rfl | hq
    · exact own_neB h.frs.own h.rd.blk (by decide) e
    · exact own_neS h.frs.own h.rd.own (by decide) q e hq
  · have := h.sep a hA h0
    have := hlt _ e
    omega
  · rcases List.mem_append.1 hd with hd | hd
    · exact own_only (h.frs.rows d hd) ho fun j hj e => own_neS h.frs.own (h.frs.rows d hd) (by decide) j e hj
    · exact own_only (h.got.rows d hd) ho fun j hj e => own_neS h.frs.own (h.got.rows d hd) (by decide) j e hj
end

theorem feedS_cnt (k m c : Int) : ∀ (l : List UInt8) (s : St), (feedS k m c s l).2.length ≤ l.length
  | [], s => by simp [feedS]
  | x :: r, s => by
    have := feedS_cnt k m c r (stepS k m c s x).1
    simp only [feedS, List.length_append, List.length_cons]
    cases (stepS k m c s x).2 <;> simp <;> omega
theorem stepS_st (k m c : Int) (s : St) (x : UInt8) (h : s.st ≠ 3) : (stepS k m c s x).1.st ≠ 3 := by
  have hd : ∀ (s : St) (x : UInt8) (d : Int), s.st ≠ 3 → (damS s x d).1.st ≠ 3 := fun s x d h => by
    unfold damS St.ended
    split <;> simp <;> assumption
  have hp : ∀ (s : St) (x y : UInt8), s.st ≠ 3 → (pushS m c s x y).1.st ≠ 3 := fun s x y h => by
    unfold pushS
    split
    · exact hd s x 5 h
    · exact h
  have hb : ∀ (s : St) (x : UInt8), s.st ≠ 3 → (readB k m c s x).1.st ≠ 3 := fun s x h => by
    unfold readB
    split
    · unfold preS
      dsimp only [St.ended]
      (repeat' split) <;> first | exact h | (show (2 : Int) ≠ 3; decide)
    · unfold delS
      (repeat' split) <;> first | exact h | exact hp _ _ _ h | exact hd _ _ _ h
  unfold stepS
  split
  · split <;> simp
  · split
    · exact h
    · split
      · exact hb _ _ h
      · split
        · exact h
        · exact hb _ _ h
theorem feedS_st (k m c : Int) : ∀ (l : List UInt8) (s : St), s.st ≠ 3 → (feedS k m c s l).1.st ≠ 3
  | [], s, h => h
  | x :: r, s, h => feedS_st k m c r _ (stepS_st k m c s x h)

/-- What the last loop reads. -/
def HoR (b1 p1 b2 p2 : Nat) (d : Fd) (q : Pk) (x : Int) (l : List UInt8) (W : World) : Prop := W.cell? ⟨b1, p1, none⟩ = some (.int .i64 x) ∧ W.cell? ⟨b1, p1 + 1, none⟩ = some (.slice d.A d.n d.cp) ∧ W.cell? ⟨b1, p1 + 2, none⟩ = some (.int .i64 0) ∧ W.cell? ⟨b2, p2, none⟩ = some (.slice q.A q.n q.c) ∧ RB W d.A d.n d.cp l ∧ RB W q.A q.n q.c l
theorem HoR.below {b1 p1 b2 p2 : Nat} {d : Fd} {q : Pk} {x : Int} {l : List UInt8} {w W : World} (h : HoR b1 p1 b2 p2 d q x l w) (hb : Below w.heap.size w W) : HoR b1 p1 b2 p2 d q x l W := by
  obtain ⟨h1, h2, h3, h4, h5, h6⟩ := h
  have key : ∀ {a : Addr} {u : Value}, w.cell? a = some u → W.cell? a = some u := fun h => (hb.cell (World.block_lt_of_cell? _ _ h)).trans h
  exact ⟨key h1, key h2, key h3, key h4, h5.below hb, h6.below hb⟩
theorem Asc.get : ∀ {l : List Fr} {a i : Nat}, Asc a l → ∀ (hi : i + 1 < l.length), (l[i]'(by omega)).at_ < l[i + 1].at_
  | [], _, _, _, hi => by simp at hi
  | [_], _, _, _, hi => by simp at hi
  | f :: g :: r, a, 0, h, hi => by
    have := h.2.1
    simp; omega
  | f :: g :: r, a, i + 1, h, hi => by
    have := Asc.get (i := i) h.2 (by simpa using hi)
    simpa using this

/-- How many pieces are still to come. -/
theorem asc_prev {ds : List Fd} {fs : List Fr} (h : ds.map Fd.fr = fs) {a : Nat} (ha : Asc a fs) (i j : Nat) (hij : i = j + 1) (hi : i < ds.length) : (ds[j]'(by omega)).fr.at_ < ds[i].fr.at_ := by
  subst hij
  rw [← h] at ha
  have := Asc.get (i := j) ha (by simpa using hi)
  simpa using this
def lefts (cN i n : Nat) : Nat := if n = 0 then 0 else 1 + (cN - i) + n
def lenV : Value → Nat
  | .slice _ n _ => n
  | _ => 0
theorem lefts_lt {nC n z : Nat} {i i' : Int} (h : 0 < n) (hz : z ≤ n) (h1 : (0 ≤ i ∧ i < (nC : Int) ∧ i' = i + 1) ∨ z = n) : lefts nC i'.toNat (n - z) < lefts nC i.toNat n := by
  unfold lefts
  split <;> split <;> omega
set_option maxRecDepth 100000 in
set_option maxHeartbeats 8000000 in
theorem holds_law (k m c : Int) (L : Option Addr) (len cL : Nat) (f : Nat → Pk) (AC : Option Addr) (nC cC : Nat) (lC : List UInt8) (w : World) (_ : (Lit.int .i64 k).wf = true) (_ : (Lit.int .i64 m).wf = true) (_ : (Lit.int .i64 c).wf = true) (hs : PSS w L len f) (hlC : lC.length = nC) (hcC : nC ≤ cC) (hmC : cC ≤ maxLen) (hbC : BS w w.heap.size AC lC) (hzC : AC = none → cC = 0) :
    Calls Try.prog 5 #[.agg #[.int .i64 k, .int .i64 m, .int .i64 c], .slice L len cL, .slice AC nC cC] w fun e w' => e = .returned (.bool true) ∧ Below w.heap.size w w' := by
  have hC := RB.of_bs hlC hcC hmC hzC hbC
  have hnC : nC ≤ 9223372036854775807 := by unfold maxLen at hmC; omega
  clear hlC hcC hmC hbC hzC
  obtain ⟨W0, hW0⟩ : ∃ W0, w.alloc (.cells #[.int .i64 k, .int .i64 m, .int .i64 c] 24) = W0 := ⟨_, rfl⟩
  have hb0 : Below w.heap.size w W0 := hW0 ▸ (Below.refl _ w).alloc (Nat.le_refl _) _
  have kf : Blk W0 w.heap.size 24 #[.int .i64 k, .int .i64 m, .int .i64 c] := hW0 ▸ Blk.new w 24 _
  obtain ⟨f0, f1, f2⟩ : W0.cell? ⟨w.heap.size, 0, none⟩ = some (.int .i64 k) ∧ W0.cell? ⟨w.heap.size, 1, none⟩ = some (.int .i64 m) ∧ W0.cell? ⟨w.heap.size, 2, none⟩ = some (.int .i64 c) := ⟨kf.cell 0, kf.cell 1, kf.cell 2⟩
  have C9 := Lib.hid (few_any L len cL f W0 (hs.below hb0))
  have C10 := Lib.hid (fun W => known_any W)
  have HW0 := Lib.hid hW0
  have HB0 := Lib.hid hb0
  have KF := Lib.hid kf
  have HS := Lib.hid hs
  have HC := Lib.hid hC
  have HNC := Lib.hid hnC
  unfold FewD at C9
  clear hW0 hb0 kf hs hC hnC
  go_enter Try.func5, Try.ntmps5
  go_upto_region 1 with fail
  rw [HW0.out]
  clear HW0
  go_wp2_with (go_at_call 9; (with_reducible refine C9.out.mono ?_); rintro e w1 ⟨b, rfl, rfl, hb⟩; refine Hid.out ?_)
  refine Lib.hid ?_
  cases b with
  | false =>
    clear hb
    go_wp2_with (go_at_call 10; (with_reducible refine (C10.out _).mono ?_); rintro e w2 ⟨rfl, b2⟩; have HB2 := Lib.hid b2; clear b2)
    go_ret
    exact ⟨rfl, HB0.out.trans (HB2.out.mono HB0.out.size)⟩
  | true =>
  obtain ⟨hl, h7⟩ := hb rfl
  have h8 : ∀ i, i < len → (f i).l.length ≤ 700 := fun i hi => by
    obtain ⟨b, o, -, -, -, hr⟩ := HS.out.2 i hi
    rw [hr.len]; exact h7 i hi
  by_cases hOK : OkF k m c ∧ encErr k m c (pks f len) = 0
  case neg =>
    have hbad : ∃ E : Int, E ≠ 0 ∧ Calls Try.prog 11 #[FV k m c, .slice L len cL] W0 fun e w' => ∃ A n cp, e = .returned (.tuple #[.slice A n cp, .int .i64 E]) ∧ Below W0.heap.size W0 w' := by
      rcases ok_or_bad k m c with h | h
      · exact ⟨encErr k m c (pks f len), fun e => hOK ⟨h, e⟩, (enc_any k m c h L len cL f W0 (HS.out.below HB0.out) hl h8).mono fun e w' ⟨A, n, cp, h1, h2, h3, h4⟩ => ⟨A, n, cp, h1, h4⟩⟩
      · exact ⟨2, by decide, (enc_bad k m c h L len cL W0).mono fun e w' ⟨h1, h2⟩ => ⟨none, 0, 0, h1, h2⟩⟩
    obtain ⟨E, hE0, hc⟩ := hbad
    have qE : (E != 0) = true := by simpa using hE0
    have C11 := Lib.hid hc
    unfold FV at C11
    clear hb hl h7 h8 hOK hc hE0
    go_wp2_with (first
      | (go_at_call 11; (with_reducible refine C11.out.mono ?_); rintro e w2 ⟨A1, n1, c1, rfl, hb2⟩; have HB2 := Lib.hid (HB0.out.trans (hb2.mono HB0.out.size)); clear hb2)
      | (go_at_call 15; (with_reducible refine (num_any E _).mono ?_); rintro e _ ⟨rfl, rfl⟩)
      | (go_at_call 10; (with_reducible refine (C10.out _).mono ?_); rintro e w3 ⟨rfl, b3⟩; have HB3 := Lib.hid (HB2.out.trans (b3.mono HB2.out.size)); clear b3))
    go_ret
    exact ⟨rfl, HB3.out⟩
  obtain ⟨hF, hE⟩ := hOK
  have hyl : (encB k m c (pks f len)).length ≤ 28400 := by
    have := encB_len hF.c1 hF.c2 (k := k) (m := m) f len h8
    omega
  obtain ⟨a', fs, hr1, hr2, hr3, hr4⟩ := encs_read k m c hF false (pks f len) 0 0 hE
  have h11 : Calls Try.prog 11 #[FV k m c, .slice L len cL] W0 fun e w' => ∃ A cp, e = .returned (.tuple #[.slice A (encB k m c (pks f len)).length cp, .int .i64 0]) ∧ w'.ownsRow W0.heap.size 5 1 (.slice A (encB k m c (pks f len)).length cp) (encB k m c (pks f len)).length ((encB k m c (pks f len)).map Go.Proofs.Ytibkhjpjneoabaa.u8) ∧ Below W0.heap.size W0 w' := (enc_any k m c hF L len cL f W0 (HS.out.below HB0.out) hl h8).mono fun e w' ⟨A, n, cp, h1, h2, h3, h4⟩ => by
    rw [hE] at h1 h2 h3
    rw [if_pos rfl] at h2 h3
    subst h2
    exact ⟨A, cp, h1, h3, h4⟩
  have hpl : (pks f len).length = len := by simp [pks]
  have hpg : ∀ i, i < len → (pks f len)[i]? = some (f i).l := fun i hi => by simp [pks, hi]
  rw [show (0 : Nat) + (encB k m c (pks f len)).length = (encB k m c (pks f len)).length by omega] at hr1
  obtain ⟨ys, hys⟩ : ∃ ys, encB k m c (pks f len) = ys := ⟨_, rfl⟩
  rw [hys] at hyl hr1 h11
  have HF := Lib.hid hF
  have HYL := Lib.hid hyl
  have HR1 := Lib.hid (show feedS k m c St.new ys = (gapS ys.length a' false, fs) from hr1)
  have HRB := Lib.hid hr2
  have HRC := Lib.hid hr3
  have HRA := Lib.hid hr4
  have HPL := Lib.hid hpl
  have HPG := Lib.hid hpg
  have HL := Lib.hid hl
  have C11 := Lib.hid h11
  unfold FV at C11
  clear hb hl h7 h8 hF hE hyl hr1 hr2 hr3 hr4 h11 hpl hpg hys
  go_wp2_with (go_at_call 11; (with_reducible refine C11.out.mono ?_); rintro e w2 ⟨A1, c1, rfl, ho2, hb2⟩; refine Hid.out ?_)
  refine Lib.hid ?_
  have HO2 := Lib.hid ho2
  have HB2 := Lib.hid (HB0.out.trans (hb2.mono HB0.out.size))
  have K2 := Lib.hid (KF.out.below hb2 KF.out.lt)
  have C16 := Lib.hid (new_yes k m c HF.out w2)
  unfold FV at C16
  clear ho2 hb2 f0 f1 f2
  obtain ⟨f0, f1, f2⟩ : w2.cell? ⟨w.heap.size, 0, none⟩ = some (.int .i64 k) ∧ w2.cell? ⟨w.heap.size, 1, none⟩ = some (.int .i64 m) ∧ w2.cell? ⟨w.heap.size, 2, none⟩ = some (.int .i64 c) := ⟨K2.out.cell 0, K2.out.cell 1, K2.out.cell 2⟩
  go_wp2_with (first
    | (go_at_call 15; (with_reducible refine (num_any 0 _).mono ?_); rintro e _ ⟨rfl, rfl⟩)
    | (go_at_call 16; (with_reducible refine C16.out.mono ?_); rintro e w3 ⟨r, rfl, hr, hrd, hb3⟩; refine Hid.out ?_))
  refine Lib.hid ?_
  have HI := Lib.hid (show HoI w w3 w2.heap.size r k m c ys 0 A1 ys.length c1 (.slice none 0 0) (.slice none 0 0) [] from
    ⟨hrd, (own_RB3 HO2.out).below hb3, fun a hA h0 => by have := (own_RB3 HO2.out).lt h0 hA; omega, hr, ⟨World.ownsRow_nil _ _ 44 3, fun _ h => by cases h⟩, rfl, (fun _ h => by cases h), HB2.out.trans (hb3.mono HB2.out.size), HB2.out.size⟩)
  obtain ⟨B, hB⟩ : ∃ B, w2.heap.size = B := ⟨_, rfl⟩
  rw [hB] at HI
  clear hr hrd hb3 hB f0 f1 f2
  go_wp2_with (go_at_call 15; (with_reducible refine (num_any 0 _).mono ?_); rintro e _ ⟨rfl, rfl⟩)
  go_loopw [7, 11, 12] (fun cc al ii wr => ∃ (p : Nat) (A : Option Addr) (n cp : Nat) (v out : Value) (ds : List Fd) (i : Int), cc = .slice A n cp ∧ al = out ∧ ii = .int .i64 i ∧ Hid (n = ys.length - p ∧ p ≤ ys.length) ∧ Hid ((0 ≤ i ∧ i ≤ (nC : Int)) ∨ n = 0) ∧ Hid (HoI w wr B r k m c ys p A n cp v out ds)) (fun cc al ii _ => lefts nC (intOf ii).toNat (lenV cc))
  case atStart => exact ⟨0, A1, ys.length, c1, _, _, [], 0, rfl, rfl, rfl, Lib.hid ⟨by omega, by omega⟩, Lib.hid (.inl ⟨by omega, by omega⟩), HI⟩
  case round =>
    obtain ⟨p, A, n, cp, v, out, ds, i, rfl, rfl, rfl, HN, HIX, HI⟩ := hrel
    obtain ⟨wo, rfl⟩ : ∃ wo : World, wo = wr := ⟨_, rfl⟩
    by_cases hn : (0 : Int) < n
    · have HNP := Lib.hid (show 0 < n by omega)
      have HIX2 := Lib.hid (show 0 ≤ i ∧ i ≤ (nC : Int) from HIX.out.resolve_right (by omega))
      go_upto_if 49 with fail
      go_cut [13, 41] from 49 to 56 (fun a13 a41 wx => ∃ z : Nat, a13 = .int .i64 (z : Int) ∧ Hid (z ≤ n ∧ ((nC : Int) ≤ i → z = n)) ∧ wo = wx)
      case first =>
        by_cases hi : i < (nC : Int)
        · have hi0 : 0 ≤ i := HIX2.out.1
          obtain ⟨j, hj⟩ : ∃ j : Nat, i = (j : Int) := ⟨i.toNat, by omega⟩
          subst hj
          have hjn : j < nC := by omega
          have hcC := HC.out.bs (by rw [HC.out.len]; omega)
          obtain ⟨bC, oC, hAC, hbC, hcc⟩ := hcC
          subst hAC
          have kc := (HI.out.below.cell (p := ⟨bC, oC + j, none⟩) hbC).trans (hcc j (by rw [HC.out.len]; exact hjn))
          obtain ⟨x, hx⟩ : ∃ x : Int, ((lC[j]'(by rw [HC.out.len]; exact hjn)).toNat : Int) = x := ⟨_, rfl⟩
          rw [hx] at kc
          have hx1 : x < 256 := by have := (lC[j]'(by rw [HC.out.len]; exact hjn)).toNat_lt; omega
          have hx0 : 0 ≤ x := by omega
          have HX := Lib.hid hx0
          have HJ := Lib.hid hi
          clear hcc hbC hx hjn
          by_cases hm : x < (n : Int)
          case neg =>
            go_wp2_with fail
            go_meet
            case rel => exact ⟨n, rfl, Lib.hid ⟨Nat.le_refl _, fun _ => rfl⟩, rfl⟩
          case pos =>
            have HM := Lib.hid hm
            go_wp2_with fail
            go_meet
            case rel => exact ⟨x.toNat, by have := HX.out; rw [Int.toNat_of_nonneg this], Lib.hid ⟨by have := HM.out; omega, fun h => by have := HJ.out; omega⟩, rfl⟩
        · go_wp2_with fail
          go_meet
          case rel => exact ⟨n, rfl, Lib.hid ⟨Nat.le_refl _, fun _ => rfl⟩, rfl⟩
      case rest =>
        obtain ⟨z, rfl, HZ, rfl⟩ := hcut
        have hfl : (feedS k m c St.new (ys.take p)).1.held.length ≤ p ∧ (feedS k m c St.new (ys.take p)).1.off ≤ p := by
          have h := feedS_len k m c (ys.take p) St.new
          have h0 : St.new.held.length = 0 := rfl
          have h1 : St.new.off = 0 := rfl
          have := List.length_take_le p ys
          omega
        obtain ⟨Az, cz, hsl, hrz, hwz⟩ := slice_to wo A n cp z (ys.drop p) HI.out.rb HZ.out.1
        have C17 := Lib.hid (feed_any B r k m c v (feedS k m c St.new (ys.take p)).1 Az z cz ((ys.drop p).take z) wo HF.out HI.out.rd (feedS_st k m c _ _ (by decide)) hrz (fun a hA h0 hsf => by
          obtain ⟨a0, hA0, hab, -⟩ := hwz a hA
          have := HI.out.sep a0 hA0 HNP.out
          have := HI.out.sfo _ hsf
          omega) (by have := HN.out; have := HZ.out; have := HYL.out; have := hfl.1; omega) (by have := HN.out; have := HZ.out; have := HYL.out; have := hfl.2; omega))
        unfold Fed at C17
        have HSL := Lib.hid hsl
        clear hrz hwz hfl
        go_wp2_with (first
          | (go_at_call 17; (with_reducible refine C17.out.mono ?_); rintro e w2' ⟨out2, v2, es, rfl, hea, hfr⟩; refine Hid.out ?_))
        refine Lib.hid ?_
        clear hsl
        obtain ⟨A2, c2, rfl, -⟩ := own_formS hea.frs.own
        have hq := HI.out.fed hea hfr
        obtain ⟨A3, c3, hsl3, hrb3, hwi3⟩ := slice_from w2' A n cp z (ys.drop p) hq.2.1 HZ.out.1
        have HF2 := Lib.hid (HI.out.to2 hea hfr hrb3 hwi3 HZ.out.1)
        have HLD := Lib.hid (show ds.length + es.length ≤ 28400 from by
          have h1 := congrArg List.length HF2.out.fr
          have h2 := feedS_cnt k m c (ys.take (p + z)) St.new
          have := HYL.out
          simp at h1 h2
          omega)
        clear hq hrb3 hwi3 hea hfr
        go_wp2_with (first
          | (go_at_call 15; (with_reducible refine (num_any 0 _).mono ?_); rintro e _ ⟨rfl, rfl⟩; refine Hid.out ?_))
        refine Lib.hid ?_
        clear hn
        go_upto_region 19 with fail
        refine wp_region_G (S0 := (fun (_ : World) => True)) (S1 := (fun (_ : World) => True)) (c := 99) (by kernel_rfl) ?_
        have hHeld := trivial
        have h01 := (fun (W : World) (h : (fun (_ : World) => True) W) => h)
        refine wpG_takeB (i := 0) (oi := ⟨some 68, _, _, _, _, _⟩) (v := u11) rfl (by kernel_rfl) (by kernel_rfl) (by kernel_rfl) (by decide) (fun _ _ _ h => h) h01 rfl hHeld (Or.inl ⟨by rfl, ?_⟩) ?_
        · (intro W9 hSw; go_simp; (try (first | with_reducible rfl | rfl | (simp; done))))
        try simp only [Act.put, List.setIfInBounds_toArray, List.set_cons_zero, List.set_cons_succ]
        refine wpG_takeB (i := 1) (oi := ⟨some 69, _, _, _, _, _⟩) (v := .slice A2 es.length c2) rfl (by kernel_rfl) (by kernel_rfl) (by kernel_rfl) (by decide) (fun _ _ _ h => h) h01 rfl hHeld (Or.inl ⟨by rfl, ?_⟩) ?_
        · (intro W9 hSw; go_simp; (try (first | with_reducible rfl | rfl | (simp; done))))
        try simp only [Act.put, List.setIfInBounds_toArray, List.set_cons_zero, List.set_cons_succ]
        refine wpG_takeB (i := 3) (oi := ⟨some 71, _, _, _, _, _⟩) (v := .slice A n cp) rfl (by kernel_rfl) (by kernel_rfl) (by kernel_rfl) (by decide) (fun _ _ _ h => h) h01 rfl hHeld (Or.inl ⟨by rfl, ?_⟩) ?_
        · (intro W9 hSw; go_simp; (try (first | with_reducible rfl | rfl | (simp; done))))
        try simp only [Act.put, List.setIfInBounds_toArray, List.set_cons_zero, List.set_cons_succ]
        refine wpG_takeB (i := 4) (oi := ⟨some 72, _, _, _, _, _⟩) (v := .int .i64 (z : Int)) rfl (by kernel_rfl) (by kernel_rfl) (by kernel_rfl) (by decide) (fun _ _ _ h => h) h01 rfl hHeld (Or.inl ⟨by rfl, ?_⟩) ?_
        · (intro W9 hSw; go_simp; (try (first | with_reducible rfl | rfl | (simp; done))))
        try simp only [Act.put, List.setIfInBounds_toArray, List.set_cons_zero, List.set_cons_succ]
        refine wpG_takeB (i := 5) (oi := ⟨some 73, _, _, _, _, _⟩) (v := .slice A3 (n - z) c3) rfl (by kernel_rfl) (by kernel_rfl) (by kernel_rfl) (by decide) (fun _ _ _ h => h) h01 rfl hHeld (Or.inl ⟨by rfl, ?_⟩) ?_
        · (intro W9 hSw; go_simp; (try (first | with_reducible rfl | rfl | (simp; done))))
        try simp only [Act.put, List.setIfInBounds_toArray, List.set_cons_zero, List.set_cons_succ]
        refine wpG_oneB (i := 2) (o := ⟨some 70, _, _, _, _, _⟩) (by kernel_rfl) rfl rfl (fun K hK => ?_)
        refine step_app_szN (base := B) (n := ds.length) (m := es.length) (xs := ds.flatMap Fd.cells) (news := es.flatMap Fd.cells) rfl (.tmp 68) (.tmp 69) 40 rfl els40 rfl (own_drew HF2.out.frs.own) rfl (HF2.out.src.keep (below_drew (Below.refl _ _))) (fun u hu => cells_one _ u hu) (by have := HLD.out; unfold maxLen; omega) (by have := HLD.out; omega) HF2.out.base ?_
        intro v4 w4 hown hg hat
        have HI4 := Lib.hid (HF2.out.push hown hg hat)
        clear hown hg hat
        refine hK.out _ _ trivial (fun hHeld => ?_)
        clear hK K
        try simp only [Act.put, List.setIfInBounds_toArray, List.set_cons_zero, List.set_cons_succ]
        refine wpG_takeB (i := 6) (oi := ⟨some 11, _, _, _, _, _⟩) (v := v4) rfl (by kernel_rfl) (by kernel_rfl) (by kernel_rfl) (by decide) (fun _ _ _ h => h) h01 rfl hHeld (Or.inl ⟨by rfl, ?_⟩) ?_
        · (intro W9 hSw; go_simp; (try (first | with_reducible rfl | rfl | (simp; done))))
        try simp only [Act.put, List.setIfInBounds_toArray, List.set_cons_zero, List.set_cons_succ]
        refine wpG_takeB (i := 7) (oi := ⟨some 7, _, _, _, _, _⟩) (v := .slice A3 (n - z) c3) rfl (by kernel_rfl) (by kernel_rfl) (by kernel_rfl) (by decide) (fun _ _ _ h => h) h01 rfl hHeld (Or.inl ⟨by rfl, ?_⟩) ?_
        · (intro W9 hSw; go_simp; (try (first | with_reducible rfl | rfl | (simp; done))))
        try simp only [Act.put, List.setIfInBounds_toArray, List.set_cons_zero, List.set_cons_succ]
        refine wpG_done (by kernel_rfl) ?_ _
        clear hHeld h01
        go_wp2_with fail
        go_roundw
        case rel =>
          refine ⟨p + z, A3, n - z, c3, v2, v4, ds ++ es, _, rfl, rfl, rfl, Lib.hid ⟨by have := HN.out; have := HZ.out; omega, by have := HN.out; have := HZ.out; omega⟩, Lib.hid ?_, HI4⟩
          by_cases hi : i < (nC : Int)
          · left
            have := HIX2.out
            have := HNC.out
            rw [IntWalk.wrap64_in _ ⟨by omega, by omega⟩]
            omega
          · right
            have := HZ.out.2 (by omega)
            omega
        case measure =>
          show lefts nC (wrap64 (i + 1)).toNat (n - z) < lefts nC i.toNat n
          refine lefts_lt HNP.out HZ.out.1 ?_
          by_cases hi : i < (nC : Int)
          · left
            have := HIX2.out
            have := HNC.out
            rw [IntWalk.wrap64_in _ ⟨by omega, by omega⟩]
            omega
          · right
            exact HZ.out.2 (by omega)
    · have hp : p = ys.length := by have := HN.out; omega
      have htk : ys.take p = ys := by rw [hp, List.take_length]
      have hrd : RdS wo B r k m c v (gapS ys.length a' false) := by have := HI.out.rd; rw [htk, HR1.out] at this; exact this
      have hds : ds.map Fd.fr = fs := by have := HI.out.fr; rw [htk, HR1.out] at this; exact this
      have hdl : ds.length = len := by
        have h1 := congrArg List.length hds
        have h2 := congrArg List.length HRB.out
        rw [HPL.out] at h2
        simp at h1 h2
        omega
      have hfl := HI.out.frs
      obtain ⟨Aal, cA, hal, -⟩ := own_formS hfl.own
      rw [hdl] at hal
      have HBO := Lib.hid HI.out.below
      have HRr := Lib.hid HI.out.hr
      have HwB := Lib.hid HI.out.wB
      have HDS := Lib.hid hds
      have HDL := Lib.hid hdl
      have C19 := Lib.hid (show Calls Try.prog 19 #[.pointer (some ⟨r, 0, none⟩)] wo fun e w' => e = .returned (.bool false) ∧ wo = w' from broken_any B r k m c v _ wo HF.out hrd)
      have C18 := Lib.hid (closes_off B r k m c v _ none 0 wo HF.out hrd (show (0 : Int) ≠ 3 by decide) rfl)
      have HRD := Lib.hid hrd
      subst hal
      have HFL := Lib.hid hfl
      have hn0 : n = 0 := by omega
      clear HI HN HIX
      clear hn hp htk hrd hds hdl hfl
      subst hn0
      go_wp2_with (first
        | (go_at_call 19; (with_reducible refine C19.out.mono ?_); rintro e _ ⟨rfl, rfl⟩)
        | (go_at_call 18; (with_reducible refine C18.out.mono ?_); rintro e w5 ⟨rfl, hr5, ho5⟩; refine Hid.out ?_))
      refine Lib.hid ?_
      have HFR := Lib.hid ((HFL.out.only ho5 (fun j hj e => by subst e; exact own_neB HFL.out.own HRD.out.blk (by decide) hj) (fun d hd j hj e => by subst e; exact own_neB (HFL.out.rows d hd) HRD.out.blk (by decide) hj)).read).1
      have HB5 := Lib.hid (HBO.out.trans (ho5.to_below HBO.out.size fun b hb e => by have := HRr.out; have := HwB.out; omega))
      have HS5 := Lib.hid (HS.out.below HB5.out)
      clear hr5 ho5
      go_wp2_with fail
      go_loopw [16] (fun ii wr => ∃ i : Nat, (i : Int) ≤ len ∧ ii = .int .i64 i ∧ Hid (Below w5.heap.size w5 wr)) (fun ii _ => len - (intOf ii).toNat)
      case atStart => exact ⟨0, by omega, rfl, Lib.hid (Below.refl _ _)⟩
      case round =>
        obtain ⟨i, hi, rfl, HB⟩ := hrel
        have hi0 : (0 : Int) ≤ i := by omega
        obtain ⟨wp, rfl⟩ : ∃ wp : World, wp = wr := ⟨_, rfl⟩
        by_cases hlt : (i : Int) < len
        · have hi1 : i < len := by omega
          have hi2 : i < ds.length := by rw [HDL.out]; exact hi1
          obtain ⟨b1, o1, rfl, hc1⟩ := HFR.out.cells (by omega)
          obtain ⟨b2, o2, rfl, hb2, hc2, hrb2⟩ := HS5.out.2 i hi1
          obtain ⟨q1, q2, q3⟩ := fd_get ds i hi2
          have hm1 := HFR.out.rows _ (List.getElem_mem hi2)
          have hbs : (ds[i]).fr.bytes = (f i).l := by
            have h := congrArg (fun l => l[i]?) HRB.out
            rw [← HDS.out] at h
            simp only [HPG.out i hi1] at h
            simpa [List.getElem?_eq_getElem hi2] using h
          have hcd : (ds[i]).fr.code = 0 := HRC.out _ (by rw [← HDS.out]; exact List.mem_map.2 ⟨_, List.getElem_mem hi2, rfl⟩)
          rw [hcd] at q3
          rw [hbs] at hm1
          have hpv := asc_prev HDS.out HRA.out i
          have hprev : ∀ j, (hij : i = j + 1) → w5.cell? ⟨b1, o1 + j * 3, none⟩ = some (.int .i64 ((ds[j]'(by omega)).fr.at_ : Int)) := fun j hij => hc1 _ _ (fd_get ds j (by omega)).1
          have hS5 : HoR b1 (o1 + i * 3) b2 (o2 + i) ds[i] (f i) ((ds[i]).fr.at_ : Int) (f i).l w5 := ⟨hc1 _ _ q1, by rw [Nat.add_assoc]; exact hc1 _ _ q2, by rw [Nat.add_assoc]; exact hc1 _ _ q3, hc2, hm1, hrb2⟩
          have hS6 := hS5.below (HB.out.trans (below_drew (Below.refl _ wp) |>.mono HB.out.size))
          obtain ⟨l9, hl9⟩ : ∃ l9, (f i).l = l9 := ⟨_, rfl⟩
          rw [hl9] at hS6
          obtain ⟨s9, hs9⟩ : ∃ s9 : ByteArray, ⟨l9.toArray⟩ = s9 := ⟨_, rfl⟩
          have HST := Lib.hid hs9
          have HLT := Lib.hid hi1
          have HBW := Lib.hid (HB.out.trans (below_drew (Below.refl _ wp) |>.mono HB.out.size))
          by_cases h0 : i = 0
          · have HZ0 := Lib.hid h0
            generalize ds[i] = d at *
            obtain ⟨x9, hx9⟩ : ∃ x9 : Int, (d.fr.at_ : Int) = x9 := ⟨_, rfl⟩
            rw [hx9] at hS6
            have HSd := Lib.hid hS6
            have HIQ := Lib.hid (And.intro hi0 hlt)
            clear hi2 hc1 hb2 hc2 hrb2 q1 q2 q3 hm1 hbs hcd hpv hprev hS5 hS6 hl9 hs9 hx9 h0 hi1
            go_upto_region 25 with fail
            refine wp_region_G (S0 := (HoR b1 (o1 + i * 3) b2 (o2 + i) d (f i) x9 l9)) (S1 := (HoR b1 (o1 + i * 3) b2 (o2 + i) d (f i) x9 l9)) (c := 99) (by kernel_rfl) ?_
            have hHeld := HSd.out
            have h01 := (fun (W : World) (h : (HoR b1 (o1 + i * 3) b2 (o2 + i) d (f i) x9 l9) W) => h)
            refine wpG_takeB (i := 0) (oi := ⟨some 94, _, _, _, _, _⟩) (v := .slice (some ⟨b1, o1, none⟩) len cA) rfl (by kernel_rfl) (by kernel_rfl) (by kernel_rfl) (by decide) (fun _ _ _ h => h) h01 rfl hHeld (Or.inl ⟨by rfl, ?_⟩) ?_
            · (intro W9 hSw; obtain ⟨v1, v2, v3, v4, v5, v6⟩ := hSw; have u1 := conv_RB v5; have u2 := conv_RB v6; rw [HST.out] at u1 u2; clear v5 v6; go_simp; (try (first | with_reducible rfl | rfl | (simp; done) | (exact HZ0.out))))
            try simp only [Act.put, List.setIfInBounds_toArray, List.set_cons_zero, List.set_cons_succ]
            refine wpG_takeB (i := 1) (oi := ⟨some 95, _, _, _, _, _⟩) (v := .int .i64 (i : Int)) rfl (by kernel_rfl) (by kernel_rfl) (by kernel_rfl) (by decide) (fun _ _ _ h => h) h01 rfl hHeld (Or.inl ⟨by rfl, ?_⟩) ?_
            · (intro W9 hSw; obtain ⟨v1, v2, v3, v4, v5, v6⟩ := hSw; have u1 := conv_RB v5; have u2 := conv_RB v6; rw [HST.out] at u1 u2; clear v5 v6; go_simp; (try (first | with_reducible rfl | rfl | (simp; done) | (exact HZ0.out))))
            try simp only [Act.put, List.setIfInBounds_toArray, List.set_cons_zero, List.set_cons_succ]
            refine wpG_takeB (i := 2) (oi := ⟨some 96, _, _, _, _, _⟩) (v := .pointer (some ⟨b1, o1 + i * 3, none⟩)) rfl (by kernel_rfl) (by kernel_rfl) (by kernel_rfl) (by decide) (fun _ _ _ h => h) h01 rfl hHeld (Or.inl ⟨by rfl, ?_⟩) ?_
            · (intro W9 hSw; obtain ⟨v1, v2, v3, v4, v5, v6⟩ := hSw; have u1 := conv_RB v5; have u2 := conv_RB v6; rw [HST.out] at u1 u2; clear v5 v6; go_simp; (try (first | with_reducible rfl | rfl | (simp; done) | (exact HZ0.out))))
            try simp only [Act.put, List.setIfInBounds_toArray, List.set_cons_zero, List.set_cons_succ]
            refine wpG_takeB (i := 3) (oi := ⟨some 97, _, _, _, _, _⟩) (v := .pointer (some ⟨b1, o1 + i * 3 + 2, none⟩)) rfl (by kernel_rfl) (by kernel_rfl) (by kernel_rfl) (by decide) (fun _ _ _ h => h) h01 rfl hHeld (Or.inl ⟨by rfl, ?_⟩) ?_
            · (intro W9 hSw; obtain ⟨v1, v2, v3, v4, v5, v6⟩ := hSw; have u1 := conv_RB v5; have u2 := conv_RB v6; rw [HST.out] at u1 u2; clear v5 v6; go_simp; (try (first | with_reducible rfl | rfl | (simp; done) | (exact HZ0.out))))
            try simp only [Act.put, List.setIfInBounds_toArray, List.set_cons_zero, List.set_cons_succ]
            refine wpG_takeB (i := 4) (oi := ⟨some 98, _, _, _, _, _⟩) (v := .int .i64 0) rfl (by kernel_rfl) (by kernel_rfl) (by kernel_rfl) (by decide) (fun _ _ _ h => h) h01 rfl hHeld (Or.inl ⟨by rfl, ?_⟩) ?_
            · (intro W9 hSw; obtain ⟨v1, v2, v3, v4, v5, v6⟩ := hSw; have u1 := conv_RB v5; have u2 := conv_RB v6; rw [HST.out] at u1 u2; clear v5 v6; go_simp; (try (first | with_reducible rfl | rfl | (simp; done) | (exact HZ0.out))))
            try simp only [Act.put, List.setIfInBounds_toArray, List.set_cons_zero, List.set_cons_succ]
            refine wpG_oneB (i := 5) (o := ⟨some 99, _, _, _, _, _⟩) (by kernel_rfl) rfl rfl (fun K hK => ?_)
            go_simp
            (with_reducible refine (num_any 0 _).mono ?_); rintro e _ ⟨rfl, rfl⟩
            refine hK.out _ _ HSd.out (fun hHeld => ?_)
            clear hK K
            try simp only [Act.put, List.setIfInBounds_toArray, List.set_cons_zero, List.set_cons_succ]
            refine wpG_takeB (i := 6) (oi := ⟨some 100, _, _, _, _, _⟩) (v := .bool false) rfl (by kernel_rfl) (by kernel_rfl) (by kernel_rfl) (by decide) (fun _ _ _ h => h) h01 rfl hHeld (Or.inl ⟨by rfl, ?_⟩) ?_
            · (intro W9 hSw; obtain ⟨v1, v2, v3, v4, v5, v6⟩ := hSw; have u1 := conv_RB v5; have u2 := conv_RB v6; rw [HST.out] at u1 u2; clear v5 v6; go_simp; (try (first | with_reducible rfl | rfl | (simp; done) | (exact HZ0.out))))
            try simp only [Act.put, List.setIfInBounds_toArray, List.set_cons_zero, List.set_cons_succ]
            refine wpG_takeB (i := 7) (oi := ⟨some 101, _, _, _, _, _⟩) (v := .bool false) rfl (by kernel_rfl) (by kernel_rfl) (by kernel_rfl) (by decide) (fun _ _ _ h => h) h01 rfl hHeld (Or.inl ⟨by rfl, ?_⟩) ?_
            · (intro W9 hSw; obtain ⟨v1, v2, v3, v4, v5, v6⟩ := hSw; have u1 := conv_RB v5; have u2 := conv_RB v6; rw [HST.out] at u1 u2; clear v5 v6; go_simp; (try (first | with_reducible rfl | rfl | (simp; done) | (exact HZ0.out))))
            try simp only [Act.put, List.setIfInBounds_toArray, List.set_cons_zero, List.set_cons_succ]
            refine wpG_takeB (i := 8) (oi := ⟨some 102, _, _, _, _, _⟩) (v := .slice (some ⟨b1, o1, none⟩) len cA) rfl (by kernel_rfl) (by kernel_rfl) (by kernel_rfl) (by decide) (fun _ _ _ h => h) h01 rfl hHeld (Or.inl ⟨by rfl, ?_⟩) ?_
            · (intro W9 hSw; obtain ⟨v1, v2, v3, v4, v5, v6⟩ := hSw; have u1 := conv_RB v5; have u2 := conv_RB v6; rw [HST.out] at u1 u2; clear v5 v6; go_simp; (try (first | with_reducible rfl | rfl | (simp; done) | (exact HZ0.out))))
            try simp only [Act.put, List.setIfInBounds_toArray, List.set_cons_zero, List.set_cons_succ]
            refine wpG_takeB (i := 9) (oi := ⟨some 103, _, _, _, _, _⟩) (v := .int .i64 (i : Int)) rfl (by kernel_rfl) (by kernel_rfl) (by kernel_rfl) (by decide) (fun _ _ _ h => h) h01 rfl hHeld (Or.inl ⟨by rfl, ?_⟩) ?_
            · (intro W9 hSw; obtain ⟨v1, v2, v3, v4, v5, v6⟩ := hSw; have u1 := conv_RB v5; have u2 := conv_RB v6; rw [HST.out] at u1 u2; clear v5 v6; go_simp; (try (first | with_reducible rfl | rfl | (simp; done) | (exact HZ0.out))))
            try simp only [Act.put, List.setIfInBounds_toArray, List.set_cons_zero, List.set_cons_succ]
            refine wpG_takeB (i := 10) (oi := ⟨some 104, _, _, _, _, _⟩) (v := .pointer (some ⟨b1, o1 + i * 3, none⟩)) rfl (by kernel_rfl) (by kernel_rfl) (by kernel_rfl) (by decide) (fun _ _ _ h => h) h01 rfl hHeld (Or.inl ⟨by rfl, ?_⟩) ?_
            · (intro W9 hSw; obtain ⟨v1, v2, v3, v4, v5, v6⟩ := hSw; have u1 := conv_RB v5; have u2 := conv_RB v6; rw [HST.out] at u1 u2; clear v5 v6; go_simp; (try (first | with_reducible rfl | rfl | (simp; done) | (exact HZ0.out))))
            try simp only [Act.put, List.setIfInBounds_toArray, List.set_cons_zero, List.set_cons_succ]
            refine wpG_takeB (i := 11) (oi := ⟨some 105, _, _, _, _, _⟩) (v := .pointer (some ⟨b1, o1 + i * 3 + 1, none⟩)) rfl (by kernel_rfl) (by kernel_rfl) (by kernel_rfl) (by decide) (fun _ _ _ h => h) h01 rfl hHeld (Or.inl ⟨by rfl, ?_⟩) ?_
            · (intro W9 hSw; obtain ⟨v1, v2, v3, v4, v5, v6⟩ := hSw; have u1 := conv_RB v5; have u2 := conv_RB v6; rw [HST.out] at u1 u2; clear v5 v6; go_simp; (try (first | with_reducible rfl | rfl | (simp; done) | (exact HZ0.out))))
            try simp only [Act.put, List.setIfInBounds_toArray, List.set_cons_zero, List.set_cons_succ]
            refine wpG_takeB (i := 12) (oi := ⟨some 106, _, _, _, _, _⟩) (v := .slice d.A d.n d.cp) rfl (by kernel_rfl) (by kernel_rfl) (by kernel_rfl) (by decide) (fun _ _ _ h => h) h01 rfl hHeld (Or.inl ⟨by rfl, ?_⟩) ?_
            · (intro W9 hSw; obtain ⟨v1, v2, v3, v4, v5, v6⟩ := hSw; have u1 := conv_RB v5; have u2 := conv_RB v6; rw [HST.out] at u1 u2; clear v5 v6; go_simp; (try (first | with_reducible rfl | rfl | (simp; done) | (exact HZ0.out))))
            try simp only [Act.put, List.setIfInBounds_toArray, List.set_cons_zero, List.set_cons_succ]
            refine wpG_takeB (i := 13) (oi := ⟨some 107, _, _, _, _, _⟩) (v := .string s9) rfl (by kernel_rfl) (by kernel_rfl) (by kernel_rfl) (by decide) (fun _ _ _ h => h) h01 rfl hHeld (Or.inl ⟨by rfl, ?_⟩) ?_
            · (intro W9 hSw; obtain ⟨v1, v2, v3, v4, v5, v6⟩ := hSw; have u1 := conv_RB v5; have u2 := conv_RB v6; rw [HST.out] at u1 u2; clear v5 v6; go_simp; (try (first | with_reducible rfl | rfl | (simp; done) | (exact HZ0.out))))
            try simp only [Act.put, List.setIfInBounds_toArray, List.set_cons_zero, List.set_cons_succ]
            refine wpG_takeB (i := 14) (oi := ⟨some 108, _, _, _, _, _⟩) (v := .slice (some ⟨b2, o2, none⟩) len cL) rfl (by kernel_rfl) (by kernel_rfl) (by kernel_rfl) (by decide) (fun _ _ _ h => h) h01 rfl hHeld (Or.inl ⟨by rfl, ?_⟩) ?_
            · (intro W9 hSw; obtain ⟨v1, v2, v3, v4, v5, v6⟩ := hSw; have u1 := conv_RB v5; have u2 := conv_RB v6; rw [HST.out] at u1 u2; clear v5 v6; go_simp; (try (first | with_reducible rfl | rfl | (simp; done) | (exact HZ0.out))))
            try simp only [Act.put, List.setIfInBounds_toArray, List.set_cons_zero, List.set_cons_succ]
            refine wpG_takeB (i := 15) (oi := ⟨some 109, _, _, _, _, _⟩) (v := .int .i64 (i : Int)) rfl (by kernel_rfl) (by kernel_rfl) (by kernel_rfl) (by decide) (fun _ _ _ h => h) h01 rfl hHeld (Or.inl ⟨by rfl, ?_⟩) ?_
            · (intro W9 hSw; obtain ⟨v1, v2, v3, v4, v5, v6⟩ := hSw; have u1 := conv_RB v5; have u2 := conv_RB v6; rw [HST.out] at u1 u2; clear v5 v6; go_simp; (try (first | with_reducible rfl | rfl | (simp; done) | (exact HZ0.out))))
            try simp only [Act.put, List.setIfInBounds_toArray, List.set_cons_zero, List.set_cons_succ]
            refine wpG_takeB (i := 16) (oi := ⟨some 110, _, _, _, _, _⟩) (v := .pointer (some ⟨b2, o2 + i, none⟩)) rfl (by kernel_rfl) (by kernel_rfl) (by kernel_rfl) (by decide) (fun _ _ _ h => h) h01 rfl hHeld (Or.inl ⟨by rfl, ?_⟩) ?_
            · (intro W9 hSw; obtain ⟨v1, v2, v3, v4, v5, v6⟩ := hSw; have u1 := conv_RB v5; have u2 := conv_RB v6; rw [HST.out] at u1 u2; clear v5 v6; go_simp; (try (first | with_reducible rfl | rfl | (simp; done) | (exact HZ0.out))))
            try simp only [Act.put, List.setIfInBounds_toArray, List.set_cons_zero, List.set_cons_succ]
            refine wpG_takeB (i := 17) (oi := ⟨some 111, _, _, _, _, _⟩) (v := .slice (f i).A (f i).n (f i).c) rfl (by kernel_rfl) (by kernel_rfl) (by kernel_rfl) (by decide) (fun _ _ _ h => h) h01 rfl hHeld (Or.inl ⟨by rfl, ?_⟩) ?_
            · (intro W9 hSw; obtain ⟨v1, v2, v3, v4, v5, v6⟩ := hSw; have u1 := conv_RB v5; have u2 := conv_RB v6; rw [HST.out] at u1 u2; clear v5 v6; go_simp; (try (first | with_reducible rfl | rfl | (simp; done) | (exact HZ0.out))))
            try simp only [Act.put, List.setIfInBounds_toArray, List.set_cons_zero, List.set_cons_succ]
            refine wpG_takeB (i := 18) (oi := ⟨some 112, _, _, _, _, _⟩) (v := .string s9) rfl (by kernel_rfl) (by kernel_rfl) (by kernel_rfl) (by decide) (fun _ _ _ h => h) h01 rfl hHeld (Or.inl ⟨by rfl, ?_⟩) ?_
            · (intro W9 hSw; obtain ⟨v1, v2, v3, v4, v5, v6⟩ := hSw; have u1 := conv_RB v5; have u2 := conv_RB v6; rw [HST.out] at u1 u2; clear v5 v6; go_simp; (try (first | with_reducible rfl | rfl | (simp; done) | (exact HZ0.out))))
            try simp only [Act.put, List.setIfInBounds_toArray, List.set_cons_zero, List.set_cons_succ]
            refine wpG_takeB (i := 19) (oi := ⟨some 113, _, _, _, _, _⟩) (v := .bool false) rfl (by kernel_rfl) (by kernel_rfl) (by kernel_rfl) (by decide) (fun _ _ _ h => h) h01 rfl hHeld (Or.inl ⟨by rfl, ?_⟩) ?_
            · (intro W9 hSw; obtain ⟨v1, v2, v3, v4, v5, v6⟩ := hSw; have u1 := conv_RB v5; have u2 := conv_RB v6; rw [HST.out] at u1 u2; clear v5 v6; go_simp; (try (first | with_reducible rfl | rfl | (simp; done) | (exact HZ0.out))))
            try simp only [Act.put, List.setIfInBounds_toArray, List.set_cons_zero, List.set_cons_succ]
            refine wpG_takeB (i := 20) (oi := ⟨some 114, _, _, _, _, _⟩) (v := .bool false) rfl (by kernel_rfl) (by kernel_rfl) (by kernel_rfl) (by decide) (fun _ _ _ h => h) h01 rfl hHeld (Or.inl ⟨by rfl, ?_⟩) ?_
            · (intro W9 hSw; obtain ⟨v1, v2, v3, v4, v5, v6⟩ := hSw; have u1 := conv_RB v5; have u2 := conv_RB v6; rw [HST.out] at u1 u2; clear v5 v6; go_simp; (try (first | with_reducible rfl | rfl | (simp; done) | (exact HZ0.out))))
            try simp only [Act.put, List.setIfInBounds_toArray, List.set_cons_zero, List.set_cons_succ]
            refine wpG_takeB (i := 21) (oi := ⟨some 115, _, _, _, _, _⟩) (v := .bool false) rfl (by kernel_rfl) (by kernel_rfl) (by kernel_rfl) (by decide) (fun _ _ _ h => h) h01 rfl hHeld (Or.inl ⟨by rfl, ?_⟩) ?_
            · (intro W9 hSw; obtain ⟨v1, v2, v3, v4, v5, v6⟩ := hSw; have u1 := conv_RB v5; have u2 := conv_RB v6; rw [HST.out] at u1 u2; clear v5 v6; go_simp; (try (first | with_reducible rfl | rfl | (simp; done) | (exact HZ0.out))))
            try simp only [Act.put, List.setIfInBounds_toArray, List.set_cons_zero, List.set_cons_succ]
            refine wpG_takeB (i := 22) (oi := ⟨some 116, _, _, _, _, _⟩) (v := .int .i64 (i : Int)) rfl (by kernel_rfl) (by kernel_rfl) (by kernel_rfl) (by decide) (fun _ _ _ h => h) h01 rfl hHeld (Or.inl ⟨by rfl, ?_⟩) ?_
            · (intro W9 hSw; obtain ⟨v1, v2, v3, v4, v5, v6⟩ := hSw; have u1 := conv_RB v5; have u2 := conv_RB v6; rw [HST.out] at u1 u2; clear v5 v6; go_simp; (try (first | with_reducible rfl | rfl | (simp; done) | (exact HZ0.out))))
            try simp only [Act.put, List.setIfInBounds_toArray, List.set_cons_zero, List.set_cons_succ]
            refine wpG_takeB (i := 23) (oi := ⟨some 117, _, _, _, _, _⟩) (v := .bool false) rfl (by kernel_rfl) (by kernel_rfl) (by kernel_rfl) (by decide) (fun _ _ _ h => h) h01 rfl hHeld (Or.inl ⟨by rfl, ?_⟩) ?_
            · (intro W9 hSw; obtain ⟨v1, v2, v3, v4, v5, v6⟩ := hSw; have u1 := conv_RB v5; have u2 := conv_RB v6; rw [HST.out] at u1 u2; clear v5 v6; go_simp; (try (first | with_reducible rfl | rfl | (simp; done) | (exact HZ0.out))))
            try simp only [Act.put, List.setIfInBounds_toArray, List.set_cons_zero, List.set_cons_succ]
            refine wpG_takeB (i := 24) (oi := ⟨some 118, _, _, _, _, _⟩) (v := .bool false) rfl (by kernel_rfl) (by kernel_rfl) (by kernel_rfl) (by decide) (fun _ _ _ h => h) h01 rfl hHeld (Or.inl ⟨by rfl, ?_⟩) ?_
            · (intro W9 hSw; obtain ⟨v1, v2, v3, v4, v5, v6⟩ := hSw; have u1 := conv_RB v5; have u2 := conv_RB v6; rw [HST.out] at u1 u2; clear v5 v6; go_simp; (try (first | with_reducible rfl | rfl | (simp; done) | (exact HZ0.out))))
            try simp only [Act.put, List.setIfInBounds_toArray, List.set_cons_zero, List.set_cons_succ]
            refine wpG_takeB (i := 25) (oi := ⟨some 119, _, _, _, _, _⟩) (v := undef) rfl (by kernel_rfl) (by kernel_rfl) (by kernel_rfl) (by decide) (fun _ _ _ h => h) h01 rfl hHeld (Or.inr ⟨by rfl, rfl⟩) ?_
            try simp only [Act.put, List.setIfInBounds_toArray, List.set_cons_zero, List.set_cons_succ]
            refine wpG_takeB (i := 26) (oi := ⟨some 120, _, _, _, _, _⟩) (v := undef) rfl (by kernel_rfl) (by kernel_rfl) (by kernel_rfl) (by decide) (fun _ _ _ h => h) h01 rfl hHeld (Or.inr ⟨by rfl, rfl⟩) ?_
            try simp only [Act.put, List.setIfInBounds_toArray, List.set_cons_zero, List.set_cons_succ]
            refine wpG_takeB (i := 27) (oi := ⟨some 121, _, _, _, _, _⟩) (v := undef) rfl (by kernel_rfl) (by kernel_rfl) (by kernel_rfl) (by decide) (fun _ _ _ h => h) h01 rfl hHeld (Or.inr ⟨by rfl, rfl⟩) ?_
            try simp only [Act.put, List.setIfInBounds_toArray, List.set_cons_zero, List.set_cons_succ]
            refine wpG_takeB (i := 28) (oi := ⟨some 122, _, _, _, _, _⟩) (v := undef) rfl (by kernel_rfl) (by kernel_rfl) (by kernel_rfl) (by decide) (fun _ _ _ h => h) h01 rfl hHeld (Or.inr ⟨by rfl, rfl⟩) ?_
            try simp only [Act.put, List.setIfInBounds_toArray, List.set_cons_zero, List.set_cons_succ]
            refine wpG_takeB (i := 29) (oi := ⟨some 123, _, _, _, _, _⟩) (v := undef) rfl (by kernel_rfl) (by kernel_rfl) (by kernel_rfl) (by decide) (fun _ _ _ h => h) h01 rfl hHeld (Or.inr ⟨by rfl, rfl⟩) ?_
            try simp only [Act.put, List.setIfInBounds_toArray, List.set_cons_zero, List.set_cons_succ]
            refine wpG_takeB (i := 30) (oi := ⟨some 124, _, _, _, _, _⟩) (v := undef) rfl (by kernel_rfl) (by kernel_rfl) (by kernel_rfl) (by decide) (fun _ _ _ h => h) h01 rfl hHeld (Or.inr ⟨by rfl, rfl⟩) ?_
            try simp only [Act.put, List.setIfInBounds_toArray, List.set_cons_zero, List.set_cons_succ]
            refine wpG_takeB (i := 31) (oi := ⟨some 125, _, _, _, _, _⟩) (v := undef) rfl (by kernel_rfl) (by kernel_rfl) (by kernel_rfl) (by decide) (fun _ _ _ h => h) h01 rfl hHeld (Or.inr ⟨by rfl, rfl⟩) ?_
            try simp only [Act.put, List.setIfInBounds_toArray, List.set_cons_zero, List.set_cons_succ]
            refine wpG_takeB (i := 32) (oi := ⟨some 126, _, _, _, _, _⟩) (v := undef) rfl (by kernel_rfl) (by kernel_rfl) (by kernel_rfl) (by decide) (fun _ _ _ h => h) h01 rfl hHeld (Or.inr ⟨by rfl, rfl⟩) ?_
            try simp only [Act.put, List.setIfInBounds_toArray, List.set_cons_zero, List.set_cons_succ]
            refine wpG_takeB (i := 33) (oi := ⟨some 127, _, _, _, _, _⟩) (v := undef) rfl (by kernel_rfl) (by kernel_rfl) (by kernel_rfl) (by decide) (fun _ _ _ h => h) h01 rfl hHeld (Or.inr ⟨by rfl, rfl⟩) ?_
            try simp only [Act.put, List.setIfInBounds_toArray, List.set_cons_zero, List.set_cons_succ]
            refine wpG_takeB (i := 34) (oi := ⟨some 128, _, _, _, _, _⟩) (v := undef) rfl (by kernel_rfl) (by kernel_rfl) (by kernel_rfl) (by decide) (fun _ _ _ h => h) h01 rfl hHeld (Or.inr ⟨by rfl, rfl⟩) ?_
            try simp only [Act.put, List.setIfInBounds_toArray, List.set_cons_zero, List.set_cons_succ]
            refine wpG_takeB (i := 35) (oi := ⟨some 129, _, _, _, _, _⟩) (v := undef) rfl (by kernel_rfl) (by kernel_rfl) (by kernel_rfl) (by decide) (fun _ _ _ h => h) h01 rfl hHeld (Or.inr ⟨by rfl, rfl⟩) ?_
            try simp only [Act.put, List.setIfInBounds_toArray, List.set_cons_zero, List.set_cons_succ]
            refine wpG_takeB (i := 36) (oi := ⟨some 130, _, _, _, _, _⟩) (v := undef) rfl (by kernel_rfl) (by kernel_rfl) (by kernel_rfl) (by decide) (fun _ _ _ h => h) h01 rfl hHeld (Or.inr ⟨by rfl, rfl⟩) ?_
            try simp only [Act.put, List.setIfInBounds_toArray, List.set_cons_zero, List.set_cons_succ]
            refine wpG_takeB (i := 37) (oi := ⟨some 131, _, _, _, _, _⟩) (v := .bool false) rfl (by kernel_rfl) (by kernel_rfl) (by kernel_rfl) (by decide) (fun _ _ _ h => h) h01 rfl hHeld (Or.inl ⟨by rfl, ?_⟩) ?_
            · (intro W9 hSw; obtain ⟨v1, v2, v3, v4, v5, v6⟩ := hSw; have u1 := conv_RB v5; have u2 := conv_RB v6; rw [HST.out] at u1 u2; clear v5 v6; go_simp; (try (first | with_reducible rfl | rfl | (simp; done) | (exact HZ0.out))))
            try simp only [Act.put, List.setIfInBounds_toArray, List.set_cons_zero, List.set_cons_succ]
            refine wpG_takeB (i := 38) (oi := ⟨some 132, _, _, _, _, _⟩) (v := .bool false) rfl (by kernel_rfl) (by kernel_rfl) (by kernel_rfl) (by decide) (fun _ _ _ h => h) h01 rfl hHeld (Or.inl ⟨by rfl, ?_⟩) ?_
            · (intro W9 hSw; obtain ⟨v1, v2, v3, v4, v5, v6⟩ := hSw; have u1 := conv_RB v5; have u2 := conv_RB v6; rw [HST.out] at u1 u2; clear v5 v6; go_simp; (try (first | with_reducible rfl | rfl | (simp; done) | (exact HZ0.out))))
            try simp only [Act.put, List.setIfInBounds_toArray, List.set_cons_zero, List.set_cons_succ]
            refine wpG_done (by kernel_rfl) ?_ _
            clear hHeld h01
            have hi20 : (i : Int) ≤ 20 := by have := HLT.out; have := HL.out; omega
            go_wp2_with fail
            go_roundw
            case rel => exact ⟨i + 1, by have := HLT.out; omega, by go_num, HBW⟩
            case measure => have := HLT.out; simp [intOf]; omega
          · obtain ⟨j, hij⟩ : ∃ j, i = j + 1 := ⟨i - 1, by omega⟩
            have HZ0 := Lib.hid (show 0 < i by omega)
            have hl20 := HL.out
            have HWJ := Lib.hid (show IntKind.i64.wrap ((i : Int) - 1) = (j : Int) from by rw [IntKind.wrap_i64]; omega)
            have hp1 := hprev j hij
            have hp2 := hpv j hij hi2
            obtain ⟨y9, hy9⟩ : ∃ y9 : Int, ((ds[j]'(by omega)).fr.at_ : Int) = y9 := ⟨_, rfl⟩
            rw [hy9] at hp1
            have hp3 := (HBW.out.cell (World.block_lt_of_cell? _ _ hp1)).trans hp1
            have hp4 : y9 < ((ds[i]).fr.at_ : Int) := by omega
            generalize ds[i] = d at *
            obtain ⟨x9, hx9⟩ : ∃ x9 : Int, (d.fr.at_ : Int) = x9 := ⟨_, rfl⟩
            rw [hx9] at hS6 hp4
            have HLE := Lib.hid hp4
            have HSd := Lib.hid (And.intro hS6 (And.intro hp3 trivial))
            have HIQ := Lib.hid (And.intro hi0 hlt)
            have HJ0 := Lib.hid (show (j : Int) < len by omega)
            have hj0 : (0 : Int) ≤ j := by omega
            have hjl : (j : Int) < len := HJ0.out
            clear hl20 hi2 hc1 hb2 hc2 hrb2 q1 q2 q3 hm1 hbs hcd hpv hprev hS5 hS6 hl9 hs9 hx9 h0 hi1 hp1 hp2 hp3 hp4 hy9 hij
            go_upto_region 25 with fail
            refine wp_region_G (S0 := (fun W => HoR b1 (o1 + i * 3) b2 (o2 + i) d (f i) x9 l9 W ∧ W.cell? ⟨b1, o1 + j * 3, none⟩ = some (.int .i64 y9) ∧ True)) (S1 := (fun W => HoR b1 (o1 + i * 3) b2 (o2 + i) d (f i) x9 l9 W ∧ W.cell? ⟨b1, o1 + j * 3, none⟩ = some (.int .i64 y9) ∧ True)) (c := 99) (by kernel_rfl) ?_
            have hHeld := HSd.out
            have h01 := (fun (W : World) (h : (fun W => HoR b1 (o1 + i * 3) b2 (o2 + i) d (f i) x9 l9 W ∧ W.cell? ⟨b1, o1 + j * 3, none⟩ = some (.int .i64 y9) ∧ True) W) => h)
            refine wpG_takeB (i := 0) (oi := ⟨some 94, _, _, _, _, _⟩) (v := .slice (some ⟨b1, o1, none⟩) len cA) rfl (by kernel_rfl) (by kernel_rfl) (by kernel_rfl) (by decide) (fun _ _ _ h => h) h01 rfl hHeld (Or.inl ⟨by rfl, ?_⟩) ?_
            · (intro W9 hSw; obtain ⟨⟨v1, v2, v3, v4, v5, v6⟩, v7, v8⟩ := hSw; have u1 := conv_RB v5; have u2 := conv_RB v6; rw [HST.out] at u1 u2; clear v5 v6; go_simp; (try (first | with_reducible rfl | rfl | (simp; done) | (exact HZ0.out) | (exact HWJ.out) | (exact HLE.out))))
            try simp only [Act.put, List.setIfInBounds_toArray, List.set_cons_zero, List.set_cons_succ]
            refine wpG_takeB (i := 1) (oi := ⟨some 95, _, _, _, _, _⟩) (v := .int .i64 (i : Int)) rfl (by kernel_rfl) (by kernel_rfl) (by kernel_rfl) (by decide) (fun _ _ _ h => h) h01 rfl hHeld (Or.inl ⟨by rfl, ?_⟩) ?_
            · (intro W9 hSw; obtain ⟨⟨v1, v2, v3, v4, v5, v6⟩, v7, v8⟩ := hSw; have u1 := conv_RB v5; have u2 := conv_RB v6; rw [HST.out] at u1 u2; clear v5 v6; go_simp; (try (first | with_reducible rfl | rfl | (simp; done) | (exact HZ0.out) | (exact HWJ.out) | (exact HLE.out))))
            try simp only [Act.put, List.setIfInBounds_toArray, List.set_cons_zero, List.set_cons_succ]
            refine wpG_takeB (i := 2) (oi := ⟨some 96, _, _, _, _, _⟩) (v := .pointer (some ⟨b1, o1 + i * 3, none⟩)) rfl (by kernel_rfl) (by kernel_rfl) (by kernel_rfl) (by decide) (fun _ _ _ h => h) h01 rfl hHeld (Or.inl ⟨by rfl, ?_⟩) ?_
            · (intro W9 hSw; obtain ⟨⟨v1, v2, v3, v4, v5, v6⟩, v7, v8⟩ := hSw; have u1 := conv_RB v5; have u2 := conv_RB v6; rw [HST.out] at u1 u2; clear v5 v6; go_simp; (try (first | with_reducible rfl | rfl | (simp; done) | (exact HZ0.out) | (exact HWJ.out) | (exact HLE.out))))
            try simp only [Act.put, List.setIfInBounds_toArray, List.set_cons_zero, List.set_cons_succ]
            refine wpG_takeB (i := 3) (oi := ⟨some 97, _, _, _, _, _⟩) (v := .pointer (some ⟨b1, o1 + i * 3 + 2, none⟩)) rfl (by kernel_rfl) (by kernel_rfl) (by kernel_rfl) (by decide) (fun _ _ _ h => h) h01 rfl hHeld (Or.inl ⟨by rfl, ?_⟩) ?_
            · (intro W9 hSw; obtain ⟨⟨v1, v2, v3, v4, v5, v6⟩, v7, v8⟩ := hSw; have u1 := conv_RB v5; have u2 := conv_RB v6; rw [HST.out] at u1 u2; clear v5 v6; go_simp; (try (first | with_reducible rfl | rfl | (simp; done) | (exact HZ0.out) | (exact HWJ.out) | (exact HLE.out))))
            try simp only [Act.put, List.setIfInBounds_toArray, List.set_cons_zero, List.set_cons_succ]
            refine wpG_takeB (i := 4) (oi := ⟨some 98, _, _, _, _, _⟩) (v := .int .i64 0) rfl (by kernel_rfl) (by kernel_rfl) (by kernel_rfl) (by decide) (fun _ _ _ h => h) h01 rfl hHeld (Or.inl ⟨by rfl, ?_⟩) ?_
            · (intro W9 hSw; obtain ⟨⟨v1, v2, v3, v4, v5, v6⟩, v7, v8⟩ := hSw; have u1 := conv_RB v5; have u2 := conv_RB v6; rw [HST.out] at u1 u2; clear v5 v6; go_simp; (try (first | with_reducible rfl | rfl | (simp; done) | (exact HZ0.out) | (exact HWJ.out) | (exact HLE.out))))
            try simp only [Act.put, List.setIfInBounds_toArray, List.set_cons_zero, List.set_cons_succ]
            refine wpG_oneB (i := 5) (o := ⟨some 99, _, _, _, _, _⟩) (by kernel_rfl) rfl rfl (fun K hK => ?_)
            go_simp
            (with_reducible refine (num_any 0 _).mono ?_); rintro e _ ⟨rfl, rfl⟩
            refine hK.out _ _ HSd.out (fun hHeld => ?_)
            clear hK K
            try simp only [Act.put, List.setIfInBounds_toArray, List.set_cons_zero, List.set_cons_succ]
            refine wpG_takeB (i := 6) (oi := ⟨some 100, _, _, _, _, _⟩) (v := .bool false) rfl (by kernel_rfl) (by kernel_rfl) (by kernel_rfl) (by decide) (fun _ _ _ h => h) h01 rfl hHeld (Or.inl ⟨by rfl, ?_⟩) ?_
            · (intro W9 hSw; obtain ⟨⟨v1, v2, v3, v4, v5, v6⟩, v7, v8⟩ := hSw; have u1 := conv_RB v5; have u2 := conv_RB v6; rw [HST.out] at u1 u2; clear v5 v6; go_simp; (try (first | with_reducible rfl | rfl | (simp; done) | (exact HZ0.out) | (exact HWJ.out) | (exact HLE.out))))
            try simp only [Act.put, List.setIfInBounds_toArray, List.set_cons_zero, List.set_cons_succ]
            refine wpG_takeB (i := 7) (oi := ⟨some 101, _, _, _, _, _⟩) (v := .bool false) rfl (by kernel_rfl) (by kernel_rfl) (by kernel_rfl) (by decide) (fun _ _ _ h => h) h01 rfl hHeld (Or.inl ⟨by rfl, ?_⟩) ?_
            · (intro W9 hSw; obtain ⟨⟨v1, v2, v3, v4, v5, v6⟩, v7, v8⟩ := hSw; have u1 := conv_RB v5; have u2 := conv_RB v6; rw [HST.out] at u1 u2; clear v5 v6; go_simp; (try (first | with_reducible rfl | rfl | (simp; done) | (exact HZ0.out) | (exact HWJ.out) | (exact HLE.out))))
            try simp only [Act.put, List.setIfInBounds_toArray, List.set_cons_zero, List.set_cons_succ]
            refine wpG_takeB (i := 8) (oi := ⟨some 102, _, _, _, _, _⟩) (v := .slice (some ⟨b1, o1, none⟩) len cA) rfl (by kernel_rfl) (by kernel_rfl) (by kernel_rfl) (by decide) (fun _ _ _ h => h) h01 rfl hHeld (Or.inl ⟨by rfl, ?_⟩) ?_
            · (intro W9 hSw; obtain ⟨⟨v1, v2, v3, v4, v5, v6⟩, v7, v8⟩ := hSw; have u1 := conv_RB v5; have u2 := conv_RB v6; rw [HST.out] at u1 u2; clear v5 v6; go_simp; (try (first | with_reducible rfl | rfl | (simp; done) | (exact HZ0.out) | (exact HWJ.out) | (exact HLE.out))))
            try simp only [Act.put, List.setIfInBounds_toArray, List.set_cons_zero, List.set_cons_succ]
            refine wpG_takeB (i := 9) (oi := ⟨some 103, _, _, _, _, _⟩) (v := .int .i64 (i : Int)) rfl (by kernel_rfl) (by kernel_rfl) (by kernel_rfl) (by decide) (fun _ _ _ h => h) h01 rfl hHeld (Or.inl ⟨by rfl, ?_⟩) ?_
            · (intro W9 hSw; obtain ⟨⟨v1, v2, v3, v4, v5, v6⟩, v7, v8⟩ := hSw; have u1 := conv_RB v5; have u2 := conv_RB v6; rw [HST.out] at u1 u2; clear v5 v6; go_simp; (try (first | with_reducible rfl | rfl | (simp; done) | (exact HZ0.out) | (exact HWJ.out) | (exact HLE.out))))
            try simp only [Act.put, List.setIfInBounds_toArray, List.set_cons_zero, List.set_cons_succ]
            refine wpG_takeB (i := 10) (oi := ⟨some 104, _, _, _, _, _⟩) (v := .pointer (some ⟨b1, o1 + i * 3, none⟩)) rfl (by kernel_rfl) (by kernel_rfl) (by kernel_rfl) (by decide) (fun _ _ _ h => h) h01 rfl hHeld (Or.inl ⟨by rfl, ?_⟩) ?_
            · (intro W9 hSw; obtain ⟨⟨v1, v2, v3, v4, v5, v6⟩, v7, v8⟩ := hSw; have u1 := conv_RB v5; have u2 := conv_RB v6; rw [HST.out] at u1 u2; clear v5 v6; go_simp; (try (first | with_reducible rfl | rfl | (simp; done) | (exact HZ0.out) | (exact HWJ.out) | (exact HLE.out))))
            try simp only [Act.put, List.setIfInBounds_toArray, List.set_cons_zero, List.set_cons_succ]
            refine wpG_takeB (i := 11) (oi := ⟨some 105, _, _, _, _, _⟩) (v := .pointer (some ⟨b1, o1 + i * 3 + 1, none⟩)) rfl (by kernel_rfl) (by kernel_rfl) (by kernel_rfl) (by decide) (fun _ _ _ h => h) h01 rfl hHeld (Or.inl ⟨by rfl, ?_⟩) ?_
            · (intro W9 hSw; obtain ⟨⟨v1, v2, v3, v4, v5, v6⟩, v7, v8⟩ := hSw; have u1 := conv_RB v5; have u2 := conv_RB v6; rw [HST.out] at u1 u2; clear v5 v6; go_simp; (try (first | with_reducible rfl | rfl | (simp; done) | (exact HZ0.out) | (exact HWJ.out) | (exact HLE.out))))
            try simp only [Act.put, List.setIfInBounds_toArray, List.set_cons_zero, List.set_cons_succ]
            refine wpG_takeB (i := 12) (oi := ⟨some 106, _, _, _, _, _⟩) (v := .slice d.A d.n d.cp) rfl (by kernel_rfl) (by kernel_rfl) (by kernel_rfl) (by decide) (fun _ _ _ h => h) h01 rfl hHeld (Or.inl ⟨by rfl, ?_⟩) ?_
            · (intro W9 hSw; obtain ⟨⟨v1, v2, v3, v4, v5, v6⟩, v7, v8⟩ := hSw; have u1 := conv_RB v5; have u2 := conv_RB v6; rw [HST.out] at u1 u2; clear v5 v6; go_simp; (try (first | with_reducible rfl | rfl | (simp; done) | (exact HZ0.out) | (exact HWJ.out) | (exact HLE.out))))
            try simp only [Act.put, List.setIfInBounds_toArray, List.set_cons_zero, List.set_cons_succ]
            refine wpG_takeB (i := 13) (oi := ⟨some 107, _, _, _, _, _⟩) (v := .string s9) rfl (by kernel_rfl) (by kernel_rfl) (by kernel_rfl) (by decide) (fun _ _ _ h => h) h01 rfl hHeld (Or.inl ⟨by rfl, ?_⟩) ?_
            · (intro W9 hSw; obtain ⟨⟨v1, v2, v3, v4, v5, v6⟩, v7, v8⟩ := hSw; have u1 := conv_RB v5; have u2 := conv_RB v6; rw [HST.out] at u1 u2; clear v5 v6; go_simp; (try (first | with_reducible rfl | rfl | (simp; done) | (exact HZ0.out) | (exact HWJ.out) | (exact HLE.out))))
            try simp only [Act.put, List.setIfInBounds_toArray, List.set_cons_zero, List.set_cons_succ]
            refine wpG_takeB (i := 14) (oi := ⟨some 108, _, _, _, _, _⟩) (v := .slice (some ⟨b2, o2, none⟩) len cL) rfl (by kernel_rfl) (by kernel_rfl) (by kernel_rfl) (by decide) (fun _ _ _ h => h) h01 rfl hHeld (Or.inl ⟨by rfl, ?_⟩) ?_
            · (intro W9 hSw; obtain ⟨⟨v1, v2, v3, v4, v5, v6⟩, v7, v8⟩ := hSw; have u1 := conv_RB v5; have u2 := conv_RB v6; rw [HST.out] at u1 u2; clear v5 v6; go_simp; (try (first | with_reducible rfl | rfl | (simp; done) | (exact HZ0.out) | (exact HWJ.out) | (exact HLE.out))))
            try simp only [Act.put, List.setIfInBounds_toArray, List.set_cons_zero, List.set_cons_succ]
            refine wpG_takeB (i := 15) (oi := ⟨some 109, _, _, _, _, _⟩) (v := .int .i64 (i : Int)) rfl (by kernel_rfl) (by kernel_rfl) (by kernel_rfl) (by decide) (fun _ _ _ h => h) h01 rfl hHeld (Or.inl ⟨by rfl, ?_⟩) ?_
            · (intro W9 hSw; obtain ⟨⟨v1, v2, v3, v4, v5, v6⟩, v7, v8⟩ := hSw; have u1 := conv_RB v5; have u2 := conv_RB v6; rw [HST.out] at u1 u2; clear v5 v6; go_simp; (try (first | with_reducible rfl | rfl | (simp; done) | (exact HZ0.out) | (exact HWJ.out) | (exact HLE.out))))
            try simp only [Act.put, List.setIfInBounds_toArray, List.set_cons_zero, List.set_cons_succ]
            refine wpG_takeB (i := 16) (oi := ⟨some 110, _, _, _, _, _⟩) (v := .pointer (some ⟨b2, o2 + i, none⟩)) rfl (by kernel_rfl) (by kernel_rfl) (by kernel_rfl) (by decide) (fun _ _ _ h => h) h01 rfl hHeld (Or.inl ⟨by rfl, ?_⟩) ?_
            · (intro W9 hSw; obtain ⟨⟨v1, v2, v3, v4, v5, v6⟩, v7, v8⟩ := hSw; have u1 := conv_RB v5; have u2 := conv_RB v6; rw [HST.out] at u1 u2; clear v5 v6; go_simp; (try (first | with_reducible rfl | rfl | (simp; done) | (exact HZ0.out) | (exact HWJ.out) | (exact HLE.out))))
            try simp only [Act.put, List.setIfInBounds_toArray, List.set_cons_zero, List.set_cons_succ]
            refine wpG_takeB (i := 17) (oi := ⟨some 111, _, _, _, _, _⟩) (v := .slice (f i).A (f i).n (f i).c) rfl (by kernel_rfl) (by kernel_rfl) (by kernel_rfl) (by decide) (fun _ _ _ h => h) h01 rfl hHeld (Or.inl ⟨by rfl, ?_⟩) ?_
            · (intro W9 hSw; obtain ⟨⟨v1, v2, v3, v4, v5, v6⟩, v7, v8⟩ := hSw; have u1 := conv_RB v5; have u2 := conv_RB v6; rw [HST.out] at u1 u2; clear v5 v6; go_simp; (try (first | with_reducible rfl | rfl | (simp; done) | (exact HZ0.out) | (exact HWJ.out) | (exact HLE.out))))
            try simp only [Act.put, List.setIfInBounds_toArray, List.set_cons_zero, List.set_cons_succ]
            refine wpG_takeB (i := 18) (oi := ⟨some 112, _, _, _, _, _⟩) (v := .string s9) rfl (by kernel_rfl) (by kernel_rfl) (by kernel_rfl) (by decide) (fun _ _ _ h => h) h01 rfl hHeld (Or.inl ⟨by rfl, ?_⟩) ?_
            · (intro W9 hSw; obtain ⟨⟨v1, v2, v3, v4, v5, v6⟩, v7, v8⟩ := hSw; have u1 := conv_RB v5; have u2 := conv_RB v6; rw [HST.out] at u1 u2; clear v5 v6; go_simp; (try (first | with_reducible rfl | rfl | (simp; done) | (exact HZ0.out) | (exact HWJ.out) | (exact HLE.out))))
            try simp only [Act.put, List.setIfInBounds_toArray, List.set_cons_zero, List.set_cons_succ]
            refine wpG_takeB (i := 19) (oi := ⟨some 113, _, _, _, _, _⟩) (v := .bool false) rfl (by kernel_rfl) (by kernel_rfl) (by kernel_rfl) (by decide) (fun _ _ _ h => h) h01 rfl hHeld (Or.inl ⟨by rfl, ?_⟩) ?_
            · (intro W9 hSw; obtain ⟨⟨v1, v2, v3, v4, v5, v6⟩, v7, v8⟩ := hSw; have u1 := conv_RB v5; have u2 := conv_RB v6; rw [HST.out] at u1 u2; clear v5 v6; go_simp; (try (first | with_reducible rfl | rfl | (simp; done) | (exact HZ0.out) | (exact HWJ.out) | (exact HLE.out))))
            try simp only [Act.put, List.setIfInBounds_toArray, List.set_cons_zero, List.set_cons_succ]
            refine wpG_takeB (i := 20) (oi := ⟨some 114, _, _, _, _, _⟩) (v := .bool false) rfl (by kernel_rfl) (by kernel_rfl) (by kernel_rfl) (by decide) (fun _ _ _ h => h) h01 rfl hHeld (Or.inl ⟨by rfl, ?_⟩) ?_
            · (intro W9 hSw; obtain ⟨⟨v1, v2, v3, v4, v5, v6⟩, v7, v8⟩ := hSw; have u1 := conv_RB v5; have u2 := conv_RB v6; rw [HST.out] at u1 u2; clear v5 v6; go_simp; (try (first | with_reducible rfl | rfl | (simp; done) | (exact HZ0.out) | (exact HWJ.out) | (exact HLE.out))))
            try simp only [Act.put, List.setIfInBounds_toArray, List.set_cons_zero, List.set_cons_succ]
            refine wpG_takeB (i := 21) (oi := ⟨some 115, _, _, _, _, _⟩) (v := .bool false) rfl (by kernel_rfl) (by kernel_rfl) (by kernel_rfl) (by decide) (fun _ _ _ h => h) h01 rfl hHeld (Or.inl ⟨by rfl, ?_⟩) ?_
            · (intro W9 hSw; obtain ⟨⟨v1, v2, v3, v4, v5, v6⟩, v7, v8⟩ := hSw; have u1 := conv_RB v5; have u2 := conv_RB v6; rw [HST.out] at u1 u2; clear v5 v6; go_simp; (try (first | with_reducible rfl | rfl | (simp; done) | (exact HZ0.out) | (exact HWJ.out) | (exact HLE.out))))
            try simp only [Act.put, List.setIfInBounds_toArray, List.set_cons_zero, List.set_cons_succ]
            refine wpG_takeB (i := 22) (oi := ⟨some 116, _, _, _, _, _⟩) (v := .int .i64 (i : Int)) rfl (by kernel_rfl) (by kernel_rfl) (by kernel_rfl) (by decide) (fun _ _ _ h => h) h01 rfl hHeld (Or.inl ⟨by rfl, ?_⟩) ?_
            · (intro W9 hSw; obtain ⟨⟨v1, v2, v3, v4, v5, v6⟩, v7, v8⟩ := hSw; have u1 := conv_RB v5; have u2 := conv_RB v6; rw [HST.out] at u1 u2; clear v5 v6; go_simp; (try (first | with_reducible rfl | rfl | (simp; done) | (exact HZ0.out) | (exact HWJ.out) | (exact HLE.out))))
            try simp only [Act.put, List.setIfInBounds_toArray, List.set_cons_zero, List.set_cons_succ]
            refine wpG_takeB (i := 23) (oi := ⟨some 117, _, _, _, _, _⟩) (v := .bool true) rfl (by kernel_rfl) (by kernel_rfl) (by kernel_rfl) (by decide) (fun _ _ _ h => h) h01 rfl hHeld (Or.inl ⟨by rfl, ?_⟩) ?_
            · (intro W9 hSw; obtain ⟨⟨v1, v2, v3, v4, v5, v6⟩, v7, v8⟩ := hSw; have u1 := conv_RB v5; have u2 := conv_RB v6; rw [HST.out] at u1 u2; clear v5 v6; go_simp; (try (first | with_reducible rfl | rfl | (simp; done) | (exact HZ0.out) | (exact HWJ.out) | (exact HLE.out))))
            try simp only [Act.put, List.setIfInBounds_toArray, List.set_cons_zero, List.set_cons_succ]
            refine wpG_takeB (i := 24) (oi := ⟨some 118, _, _, _, _, _⟩) (v := .bool true) rfl (by kernel_rfl) (by kernel_rfl) (by kernel_rfl) (by decide) (fun _ _ _ h => h) h01 rfl hHeld (Or.inl ⟨by rfl, ?_⟩) ?_
            · (intro W9 hSw; obtain ⟨⟨v1, v2, v3, v4, v5, v6⟩, v7, v8⟩ := hSw; have u1 := conv_RB v5; have u2 := conv_RB v6; rw [HST.out] at u1 u2; clear v5 v6; go_simp; (try (first | with_reducible rfl | rfl | (simp; done) | (exact HZ0.out) | (exact HWJ.out) | (exact HLE.out))))
            try simp only [Act.put, List.setIfInBounds_toArray, List.set_cons_zero, List.set_cons_succ]
            refine wpG_takeB (i := 25) (oi := ⟨some 119, _, _, _, _, _⟩) (v := .slice (some ⟨b1, o1, none⟩) len cA) rfl (by kernel_rfl) (by kernel_rfl) (by kernel_rfl) (by decide) (fun _ _ _ h => h) h01 rfl hHeld (Or.inl ⟨by rfl, ?_⟩) ?_
            · (intro W9 hSw; obtain ⟨⟨v1, v2, v3, v4, v5, v6⟩, v7, v8⟩ := hSw; have u1 := conv_RB v5; have u2 := conv_RB v6; rw [HST.out] at u1 u2; clear v5 v6; go_simp; (try (first | with_reducible rfl | rfl | (simp; done) | (exact HZ0.out) | (exact HWJ.out) | (exact HLE.out))))
            try simp only [Act.put, List.setIfInBounds_toArray, List.set_cons_zero, List.set_cons_succ]
            refine wpG_takeB (i := 26) (oi := ⟨some 120, _, _, _, _, _⟩) (v := .int .i64 (i : Int)) rfl (by kernel_rfl) (by kernel_rfl) (by kernel_rfl) (by decide) (fun _ _ _ h => h) h01 rfl hHeld (Or.inl ⟨by rfl, ?_⟩) ?_
            · (intro W9 hSw; obtain ⟨⟨v1, v2, v3, v4, v5, v6⟩, v7, v8⟩ := hSw; have u1 := conv_RB v5; have u2 := conv_RB v6; rw [HST.out] at u1 u2; clear v5 v6; go_simp; (try (first | with_reducible rfl | rfl | (simp; done) | (exact HZ0.out) | (exact HWJ.out) | (exact HLE.out))))
            try simp only [Act.put, List.setIfInBounds_toArray, List.set_cons_zero, List.set_cons_succ]
            refine wpG_takeB (i := 27) (oi := ⟨some 121, _, _, _, _, _⟩) (v := .pointer (some ⟨b1, o1 + i * 3, none⟩)) rfl (by kernel_rfl) (by kernel_rfl) (by kernel_rfl) (by decide) (fun _ _ _ h => h) h01 rfl hHeld (Or.inl ⟨by rfl, ?_⟩) ?_
            · (intro W9 hSw; obtain ⟨⟨v1, v2, v3, v4, v5, v6⟩, v7, v8⟩ := hSw; have u1 := conv_RB v5; have u2 := conv_RB v6; rw [HST.out] at u1 u2; clear v5 v6; go_simp; (try (first | with_reducible rfl | rfl | (simp; done) | (exact HZ0.out) | (exact HWJ.out) | (exact HLE.out))))
            try simp only [Act.put, List.setIfInBounds_toArray, List.set_cons_zero, List.set_cons_succ]
            refine wpG_takeB (i := 28) (oi := ⟨some 122, _, _, _, _, _⟩) (v := .pointer (some ⟨b1, o1 + i * 3, none⟩)) rfl (by kernel_rfl) (by kernel_rfl) (by kernel_rfl) (by decide) (fun _ _ _ h => h) h01 rfl hHeld (Or.inl ⟨by rfl, ?_⟩) ?_
            · (intro W9 hSw; obtain ⟨⟨v1, v2, v3, v4, v5, v6⟩, v7, v8⟩ := hSw; have u1 := conv_RB v5; have u2 := conv_RB v6; rw [HST.out] at u1 u2; clear v5 v6; go_simp; (try (first | with_reducible rfl | rfl | (simp; done) | (exact HZ0.out) | (exact HWJ.out) | (exact HLE.out))))
            try simp only [Act.put, List.setIfInBounds_toArray, List.set_cons_zero, List.set_cons_succ]
            refine wpG_takeB (i := 29) (oi := ⟨some 123, _, _, _, _, _⟩) (v := .int .i64 x9) rfl (by kernel_rfl) (by kernel_rfl) (by kernel_rfl) (by decide) (fun _ _ _ h => h) h01 rfl hHeld (Or.inl ⟨by rfl, ?_⟩) ?_
            · (intro W9 hSw; obtain ⟨⟨v1, v2, v3, v4, v5, v6⟩, v7, v8⟩ := hSw; have u1 := conv_RB v5; have u2 := conv_RB v6; rw [HST.out] at u1 u2; clear v5 v6; go_simp; (try (first | with_reducible rfl | rfl | (simp; done) | (exact HZ0.out) | (exact HWJ.out) | (exact HLE.out))))
            try simp only [Act.put, List.setIfInBounds_toArray, List.set_cons_zero, List.set_cons_succ]
            refine wpG_takeB (i := 30) (oi := ⟨some 124, _, _, _, _, _⟩) (v := .slice (some ⟨b1, o1, none⟩) len cA) rfl (by kernel_rfl) (by kernel_rfl) (by kernel_rfl) (by decide) (fun _ _ _ h => h) h01 rfl hHeld (Or.inl ⟨by rfl, ?_⟩) ?_
            · (intro W9 hSw; obtain ⟨⟨v1, v2, v3, v4, v5, v6⟩, v7, v8⟩ := hSw; have u1 := conv_RB v5; have u2 := conv_RB v6; rw [HST.out] at u1 u2; clear v5 v6; go_simp; (try (first | with_reducible rfl | rfl | (simp; done) | (exact HZ0.out) | (exact HWJ.out) | (exact HLE.out))))
            try simp only [Act.put, List.setIfInBounds_toArray, List.set_cons_zero, List.set_cons_succ]
            refine wpG_takeB (i := 31) (oi := ⟨some 125, _, _, _, _, _⟩) (v := .int .i64 (i : Int)) rfl (by kernel_rfl) (by kernel_rfl) (by kernel_rfl) (by decide) (fun _ _ _ h => h) h01 rfl hHeld (Or.inl ⟨by rfl, ?_⟩) ?_
            · (intro W9 hSw; obtain ⟨⟨v1, v2, v3, v4, v5, v6⟩, v7, v8⟩ := hSw; have u1 := conv_RB v5; have u2 := conv_RB v6; rw [HST.out] at u1 u2; clear v5 v6; go_simp; (try (first | with_reducible rfl | rfl | (simp; done) | (exact HZ0.out) | (exact HWJ.out) | (exact HLE.out))))
            try simp only [Act.put, List.setIfInBounds_toArray, List.set_cons_zero, List.set_cons_succ]
            refine wpG_takeB (i := 32) (oi := ⟨some 126, _, _, _, _, _⟩) (v := .int .i64 ((j : Nat) : Int)) rfl (by kernel_rfl) (by kernel_rfl) (by kernel_rfl) (by decide) (fun _ _ _ h => h) h01 rfl hHeld (Or.inl ⟨by rfl, ?_⟩) ?_
            · (intro W9 hSw; obtain ⟨⟨v1, v2, v3, v4, v5, v6⟩, v7, v8⟩ := hSw; have u1 := conv_RB v5; have u2 := conv_RB v6; rw [HST.out] at u1 u2; clear v5 v6; go_simp; (try (first | with_reducible rfl | rfl | (simp; done) | (exact HZ0.out) | (exact HWJ.out) | (exact HLE.out))))
            try simp only [Act.put, List.setIfInBounds_toArray, List.set_cons_zero, List.set_cons_succ]
            refine wpG_takeB (i := 33) (oi := ⟨some 127, _, _, _, _, _⟩) (v := .pointer (some ⟨b1, o1 + j * 3, none⟩)) rfl (by kernel_rfl) (by kernel_rfl) (by kernel_rfl) (by decide) (fun _ _ _ h => h) h01 rfl hHeld (Or.inl ⟨by rfl, ?_⟩) ?_
            · (intro W9 hSw; obtain ⟨⟨v1, v2, v3, v4, v5, v6⟩, v7, v8⟩ := hSw; have u1 := conv_RB v5; have u2 := conv_RB v6; rw [HST.out] at u1 u2; clear v5 v6; go_simp; (try (first | with_reducible rfl | rfl | (simp; done) | (exact HZ0.out) | (exact HWJ.out) | (exact HLE.out))))
            try simp only [Act.put, List.setIfInBounds_toArray, List.set_cons_zero, List.set_cons_succ]
            refine wpG_takeB (i := 34) (oi := ⟨some 128, _, _, _, _, _⟩) (v := .pointer (some ⟨b1, o1 + j * 3, none⟩)) rfl (by kernel_rfl) (by kernel_rfl) (by kernel_rfl) (by decide) (fun _ _ _ h => h) h01 rfl hHeld (Or.inl ⟨by rfl, ?_⟩) ?_
            · (intro W9 hSw; obtain ⟨⟨v1, v2, v3, v4, v5, v6⟩, v7, v8⟩ := hSw; have u1 := conv_RB v5; have u2 := conv_RB v6; rw [HST.out] at u1 u2; clear v5 v6; go_simp; (try (first | with_reducible rfl | rfl | (simp; done) | (exact HZ0.out) | (exact HWJ.out) | (exact HLE.out))))
            try simp only [Act.put, List.setIfInBounds_toArray, List.set_cons_zero, List.set_cons_succ]
            refine wpG_takeB (i := 35) (oi := ⟨some 129, _, _, _, _, _⟩) (v := .int .i64 y9) rfl (by kernel_rfl) (by kernel_rfl) (by kernel_rfl) (by decide) (fun _ _ _ h => h) h01 rfl hHeld (Or.inl ⟨by rfl, ?_⟩) ?_
            · (intro W9 hSw; obtain ⟨⟨v1, v2, v3, v4, v5, v6⟩, v7, v8⟩ := hSw; have u1 := conv_RB v5; have u2 := conv_RB v6; rw [HST.out] at u1 u2; clear v5 v6; go_simp; (try (first | with_reducible rfl | rfl | (simp; done) | (exact HZ0.out) | (exact HWJ.out) | (exact HLE.out))))
            try simp only [Act.put, List.setIfInBounds_toArray, List.set_cons_zero, List.set_cons_succ]
            refine wpG_takeB (i := 36) (oi := ⟨some 130, _, _, _, _, _⟩) (v := .bool false) rfl (by kernel_rfl) (by kernel_rfl) (by kernel_rfl) (by decide) (fun _ _ _ h => h) h01 rfl hHeld (Or.inl ⟨by rfl, ?_⟩) ?_
            · (intro W9 hSw; obtain ⟨⟨v1, v2, v3, v4, v5, v6⟩, v7, v8⟩ := hSw; have u1 := conv_RB v5; have u2 := conv_RB v6; rw [HST.out] at u1 u2; clear v5 v6; go_simp; (try (first | with_reducible rfl | rfl | (simp; done) | (exact HZ0.out) | (exact HWJ.out) | (exact HLE.out))))
            try simp only [Act.put, List.setIfInBounds_toArray, List.set_cons_zero, List.set_cons_succ]
            refine wpG_takeB (i := 37) (oi := ⟨some 131, _, _, _, _, _⟩) (v := .bool false) rfl (by kernel_rfl) (by kernel_rfl) (by kernel_rfl) (by decide) (fun _ _ _ h => h) h01 rfl hHeld (Or.inl ⟨by rfl, ?_⟩) ?_
            · (intro W9 hSw; obtain ⟨⟨v1, v2, v3, v4, v5, v6⟩, v7, v8⟩ := hSw; have u1 := conv_RB v5; have u2 := conv_RB v6; rw [HST.out] at u1 u2; clear v5 v6; go_simp; (try (first | with_reducible rfl | rfl | (simp; done) | (exact HZ0.out) | (exact HWJ.out) | (exact HLE.out))))
            try simp only [Act.put, List.setIfInBounds_toArray, List.set_cons_zero, List.set_cons_succ]
            refine wpG_takeB (i := 38) (oi := ⟨some 132, _, _, _, _, _⟩) (v := .bool false) rfl (by kernel_rfl) (by kernel_rfl) (by kernel_rfl) (by decide) (fun _ _ _ h => h) h01 rfl hHeld (Or.inl ⟨by rfl, ?_⟩) ?_
            · (intro W9 hSw; obtain ⟨⟨v1, v2, v3, v4, v5, v6⟩, v7, v8⟩ := hSw; have u1 := conv_RB v5; have u2 := conv_RB v6; rw [HST.out] at u1 u2; clear v5 v6; go_simp; (try (first | with_reducible rfl | rfl | (simp; done) | (exact HZ0.out) | (exact HWJ.out) | (exact HLE.out))))
            try simp only [Act.put, List.setIfInBounds_toArray, List.set_cons_zero, List.set_cons_succ]
            refine wpG_done (by kernel_rfl) ?_ _
            clear hHeld h01
            have hi20 : (i : Int) ≤ 20 := by have := HLT.out; have := HL.out; omega
            go_wp2_with fail
            go_roundw
            case rel => exact ⟨i + 1, by have := HLT.out; omega, by go_num, HBW⟩
            case measure => have := HLT.out; simp [intOf]; omega
        · have HB6 := Lib.hid (HB5.out.trans (HB.out.mono HB5.out.size))
          go_wp2_with (go_at_call 10; (with_reducible refine (C10.out _).mono ?_); rintro e w7 ⟨rfl, b7⟩; have HB7 := Lib.hid (HB6.out.trans (b7.mono HB6.out.size)); clear b7)
          go_ret
          exact ⟨rfl, HB7.out⟩

end Go.Proofs.Ytibkhjpjneoabaa
