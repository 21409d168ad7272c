/- The walk of CaptureBack. -/
import Derived.Test.YtgbkoegmoelheaaDb
import Derived.Test.YtgbkoegmoelheaaEa
import Derived.Test.YtgbkoegmoelheaaCr
import Derived.Test.YtgbkoegmoelheaaDf
import Derived.Deep.CutRange
namespace Go.Proofs.Ytgbkoegmoelheaa
open Go.RowKit
set_option linter.unusedVariables false
set_option linter.unusedSimpArgs false
set_option maxRecDepth 100000

theorem dec_noP {l : List UInt8} (h : l.head? ≠ some 80) : ∃ e, dec l = .error e := by
  unfold dec
  simp only
  split
  · exact ⟨_, rfl⟩
  · rename_i hlen
    rw [if_neg]
    · exact ⟨_, rfl⟩
    · rintro ⟨h1, -⟩
      cases l with
      | nil => simp at hlen
      | cons x l =>
        have : x = 80 := by simpa [magicB] using congrArg List.head? h1
        exact h (by rw [this]; rfl)
/-- Bytes without P are passed by. -/
theorem blks_skip (b : List UInt8) (q : Nat) : ∀ (k p : Nat), p + k = q → q ≤ b.length → (∀ j, p ≤ j → j < q → b[j]? ≠ some 80) → blks b p = blks b q
  | 0, p, h, _, _ => by rw [show p = q by omega]
  | k + 1, p, h, hq, hn => by
    obtain ⟨e, he⟩ := dec_noP (l := b.drop p) (by rw [List.head?_drop]; exact hn p (Nat.le_refl _) (by omega))
    rw [blks_err (by omega) he]
    exact blks_skip b q k (p + 1) (by omega) hq fun j h1 h2 => hn j (by omega) h2
/-- Where the blocks lie. -/
def fds : Nat → List (List Pk) → List Fd
  | _, [] => []
  | p, g :: gs => ⟨p, p + (encB g).length, g⟩ :: fds (p + (encB g).length) gs
def GOk (gs : List (List Pk)) : Prop := ∀ g ∈ gs, (∀ p ∈ g, validP p = true) ∧ fitsP g = true
theorem blks_groups (behind : List UInt8) (hb : ∀ x ∈ behind, x ≠ 80) : ∀ (gs : List (List Pk)) (pre : List UInt8), GOk gs → blks (pre ++ (gs.flatMap encB ++ behind)) pre.length = fds pre.length gs
  | [], pre, _ => by
    simp only [List.flatMap_nil, List.nil_append, fds]
    rw [blks_skip (pre ++ behind) (pre.length + behind.length) behind.length pre.length rfl (by simp) (fun j h1 h2 => ?_), blks_end (by simp)]
    rw [List.getElem?_append_right h1]
    intro h
    exact hb 80 (List.mem_of_getElem? h) rfl
  | g :: gs, pre, hg => by
    have h1 := hg g (by simp)
    have e : pre ++ ((g :: gs).flatMap encB ++ behind) = pre ++ (encB g ++ (gs.flatMap encB ++ behind)) := by simp [List.append_assoc]
    have hd : dec ((pre ++ (encB g ++ (gs.flatMap encB ++ behind))).drop pre.length) = .ok (g, (encB g).length) := by
      rw [drop_app rfl]
      exact dec_encB g _ h1.1 h1.2
    have hl := encB_length g
    rw [e, blks_ok (by simp [List.length_append]; omega) hd, fds]
    have ih := blks_groups behind hb gs (pre ++ encB g) fun x hx => hg x (by simp [hx])
    rw [List.length_append, List.append_assoc] at ih
    rw [ih]
theorem blks_all (before behind : List UInt8) (gs : List (List Pk)) (hf : ∀ x ∈ before, x ≠ 80) (hb : ∀ x ∈ behind, x ≠ 80) (hg : GOk gs) : blks (before ++ (gs.flatMap encB ++ behind)) 0 = fds before.length gs := by
  rw [blks_skip _ before.length before.length 0 (by omega) (by simp) (fun j _ h2 => ?_)]
  · exact blks_groups behind hb gs before hg
  · rw [List.getElem?_append_left h2]
    intro h
    exact hf 80 (List.mem_of_getElem? h) rfl
theorem rd_fds (gs : List (List Pk)) : ∀ (p : Nat) (s : RdP), s.e = p → (fds p gs).foldl rdStep s = ⟨s.l ++ gs.flatten, s.g, p + (gs.flatMap encB).length⟩ := by
  induction gs with
  | nil => intro p s h; subst h; simp [fds]
  | cons g gs ih =>
    intro p s h
    have e : rdStep s ⟨p, p + (encB g).length, g⟩ = ⟨s.l ++ g, s.g, p + (encB g).length⟩ := by
      unfold rdStep
      simp [h]
    rw [fds, List.foldl_cons, e, ih (p + (encB g).length) _ rfl]
    simp [List.append_assoc, Nat.add_assoc]
/-- What Read finds. -/
theorem read_groups (before behind : List UInt8) (gs : List (List Pk)) (hf : ∀ x ∈ before, x ≠ 80) (hb : ∀ x ∈ behind, x ≠ 80) (hg : GOk gs) (h0 : gs ≠ []) :
    (rdAll (blks (before ++ (gs.flatMap encB ++ behind)) 0)).l = gs.flatten ∧
    endG (rdAll (blks (before ++ (gs.flatMap encB ++ behind)) 0)) (before ++ (gs.flatMap encB ++ behind)).length = (if 0 < before.length then [(0, before.length)] else []) ++ (if 0 < behind.length then [(before.length + (gs.flatMap encB).length, before.length + (gs.flatMap encB).length + behind.length)] else []) := by
  rw [blks_all before behind gs hf hb hg]
  cases gs with
  | nil => exact absurd rfl h0
  | cons g gs =>
    have e : rdAll (fds before.length (g :: gs)) = ⟨(g :: gs).flatten, if 0 < before.length then [(0, before.length)] else [], before.length + ((g :: gs).flatMap encB).length⟩ := by
      unfold rdAll
      have e1 : rdStep ⟨[], [], 0⟩ ⟨before.length, before.length + (encB g).length, g⟩ = ⟨g, if 0 < before.length then [(0, before.length)] else [], before.length + (encB g).length⟩ := by
        unfold rdStep
        simp
      rw [fds, List.foldl_cons, e1, rd_fds gs (before.length + (encB g).length) _ rfl]
      simp [Nat.add_assoc]
    rw [e]
    refine ⟨rfl, ?_⟩
    unfold endG
    simp only [List.length_append]
    by_cases hb0 : 0 < behind.length
    · rw [if_pos (by omega), if_pos hb0, Nat.add_assoc]
    · rw [if_neg (by omega), if_neg hb0, List.append_nil]
/-- The groups of packets that lie closed, and all that were added. -/
structure Gh (s : StP) (gs : List (List Pk)) (wt : List Pk) : Prop where
  b : s.b = gs.flatMap encB
  ok : GOk gs
  all : wt = gs.flatten ++ s.l
theorem Gh.new : Gh ⟨[], [], 0⟩ [] [] := ⟨rfl, (fun g hg => by cases hg), rfl⟩
theorem Gh.close {s : StP} {gs : List (List Pk)} {wt : List Pk} (h : Gh s gs wt) (ho : OkP s) : ∃ gs2, Gh (closeP s) gs2 wt := by
  unfold closeP
  by_cases h0 : s.l = []
  · rw [if_pos h0]
    exact ⟨gs, h⟩
  · rw [if_neg h0]
    refine ⟨gs ++ [s.l], ?_, fun g hg => ?_, ?_⟩
    · simp [h.b]
    · rcases List.mem_append.1 hg with h1 | h1
      · exact h.ok g h1
      · rw [List.mem_singleton.1 h1]
        exact ⟨ho.v, ho.f h0⟩
    · simp [h.all]
theorem Gh.add {s : StP} {gs : List (List Pk)} {wt : List Pk} (h : Gh s gs wt) (ho : OkP s) (p : Pk) : ∃ gs2, Gh (addP s p).1 gs2 (if (addP s p).2 = 0 then wt ++ [p] else wt) := by
  by_cases hv : validP p = true
  · by_cases ht : p.t < s.last
    · rw [addP_old hv ht]
      exact ⟨gs, h⟩
    · by_cases hf : fitsP (s.l ++ [p]) = true
      · rw [addP_fit hv ht hf]
        exact ⟨gs, h.b, h.ok, by simp [h.all]⟩
      · rw [addP_new hv ht (by simpa using hf)]
        obtain ⟨gs2, h2⟩ := h.close ho
        refine ⟨gs2, h2.b, h2.ok, ?_⟩
        have := h2.all
        rw [closeP_l, List.append_nil] at this
        simp [this]
  · rw [addP_bad (by simpa using hv)]
    exact ⟨gs, h⟩
/-- At the end: what was added, and the bytes, are both there or neither. -/
theorem Gh.done {s : StP} {gs : List (List Pk)} {wt : List Pk} (h : Gh s gs wt) (hl : s.l = []) : wt = gs.flatten ∧ (wt = [] ↔ gs = []) ∧ (s.b = [] ↔ gs = []) := by
  have e : wt = gs.flatten := by rw [h.all, hl, List.append_nil]
  refine ⟨e, ?_, ?_⟩
  · rw [e]
    cases gs with
    | nil => simp
    | cons g gs =>
      have := (fitsP_iff.1 (h.ok g (by simp)).2).1
      constructor
      · intro h1
        have h2 := congrArg List.length h1
        simp at h2
        have h3 : g.length = 0 := by rw [h2.1]; rfl
        omega
      · intro h1; cases h1
  · rw [h.b]
    cases gs with
    | nil => simp
    | cons g gs =>
      have := encB_length g
      constructor
      · intro h1
        have h2 := congrArg List.length h1
        simp at h2
        have h3 : (encB g).length = 0 := by rw [h2.1]; rfl
        omega
      · intro h1; cases h1
section
variable {P : Program} {ops : Array Oper} {Q : Exit → Act → World → Prop} {rest : List Oper} {a : Act} {o : Oper} {w : World}
/-- append onto an own row, with the block in which the result lies. -/
theorem wpList_app_szB (hgd : o.guard = none) (s x : Operand) (t : TypeId) (hop : o.op = Op.call { callee := Callee.builtin Builtin.append, args := #[s, x], argTypes := #[t, t] }) {e : TypeId} {size bytes : Nat} (hE : ElS P t e size bytes) {base n m c : Nat} {v : Value} {xs news : List Value} {ad : Addr} (hs : a.eval s = v) (hown : w.ownsRow base e size v n xs) (hx : a.eval x = .slice (some ad) m c) (hsrc : HoldsS w size (some ad) m news) (h1 : ∀ u ∈ news, u.oneCell' = true) (h63 : n + m ≤ maxLen) (hby : (n + m) * bytes ≤ 140737488355328) (hbase : base ≤ w.heap.size)
    (hK : ∀ v' w', w'.ownsRow base e size v' (n + m) (xs ++ news) → w.grownBy w' v.ownBlock → (v'.ownBlock = v.ownBlock ∨ v'.ownBlock = some w.heap.size) → wpList P ops Q rest (a.put o.dst v') w') : wpList P ops Q (o :: rest) a w := by
  obtain ⟨i, z, h2, h3, h4, h5, h6⟩ := hE.i
  obtain ⟨v', w', hrun, p1, p2, _, p3⟩ := run_append_own_at (P := P) w base t o.type e i z size bytes hE.t h2 h3 h4 h5 h6 hE.pos v n xs hown ad m c news hsrc.1 (hsrc.2.2 ad rfl) h1 h63 hby hbase
  exact wpList_run hgd s x t hop hs hx hrun (hK v' w' p1 p2 p3)
end
structure BW (w : World) (B g i : Nat) (s : StP) (gs : List (List Pk)) (wt : List Pk) (vb vl : Value) (dsw ds : List Pd) (v : Value) (W : World) : Prop where
  ws : WS W B g vb vl dsw s
  gh : Gh s gs wt
  own : W.ownsRow B 31 3 v ds.length (ds.flatMap Pd.cells)
  mem : ∀ p ∈ ds, PdR w p
  sep : ∀ k, v.ownBlock = some k → ¬ WK g vb vl dsw k
  bel : Below w.heap.size w W
  len : s.b.length ≤ i * 8206
  dl : ds.length ≤ i
  wB : w.heap.size ≤ B
section
variable {w : World} {B g i : Nat} {s : StP} {gs : List (List Pk)} {wt : List Pk} {vb vl : Value} {dsw ds : List Pd} {v : Value} {W W' : World}
theorem BW.new (hk : Blk W g 46 #[.slice none 0 0, .slice none 0 0, .int .i64 0]) (hB : B ≤ g) (hb : Below w.heap.size w W) (hw : w.heap.size ≤ B) : BW w B g 0 ⟨[], [], 0⟩ [] [] (.slice none 0 0) (.slice none 0 0) [] [] (.slice none 0 0) W :=
  ⟨WS.new hk hB, Gh.new, World.ownsRow_nil _ _ 31 3, (fun p hp => by cases hp), (fun k hk => by cases hk), hb, by simp, Nat.zero_le _, hw⟩
/-- A call of the writer. -/
theorem BW.step (h : BW w B g i s gs wt vb vl dsw ds v W) {s2 : StP} (hst : StepW W W' B g vb vl dsw s2) {gs2 : List (List Pk)} {wt2 : List Pk} (hg : Gh s2 gs2 wt2) (hl : s2.b.length ≤ (i + 1) * 8206) : ∃ vb2 vl2 dsw2, BW w B g (i + 1) s2 gs2 wt2 vb2 vl2 dsw2 ds v W' := by
  obtain ⟨vb2, vl2, dsw2, h1, h2, h3, h4⟩ := hst
  refine ⟨vb2, vl2, dsw2, h1, hg, own_only h.own h2 fun k hk hf => h.sep k hk (.inl hf), h.mem, fun k hk hf => h.sep k hk (h4 k (own_lt h.own k hk) hf), h.bel.trans (h2.to_below h.bel.size fun k hk hf => ?_), hl, Nat.le_succ_of_le h.dl, h.wB⟩
  have := h.ws.ge k (.inl hf)
  have := h.wB
  omega
/-- The packet is taken down. -/
theorem BW.push (h : BW w B g (i + 1) s gs wt vb vl dsw ds v W) {p : Pd} {v2 : Value} (hd : ds.length ≤ i) (hp : PdR w p) (ho : W'.ownsRow B 31 3 v2 (ds.length + 1) (ds.flatMap Pd.cells ++ p.cells)) (hg : W.grownBy W' v.ownBlock) (hv : v2.ownBlock = v.ownBlock ∨ v2.ownBlock = some W.heap.size) : BW w B g (i + 1) s gs wt vb vl dsw (ds ++ [p]) v2 W' := by
  have hon : Only (fun k => v.ownBlock = some k) W W' := (Only.refl _ W).grown hg fun g e _ => e
  refine ⟨h.ws.only hon fun k hk e => h.sep k e hk, h.gh, ?_, fun q hq => ?_, fun k hk hf => ?_, h.bel.trans (hon.to_below h.bel.size fun k hk e => ?_), h.len, by simp; omega, h.wB⟩
  · rw [List.flatMap_append, List.length_append]
    simpa using ho
  · rcases List.mem_append.1 hq with h1 | h1
    · exact h.mem q h1
    · rw [List.mem_singleton.1 h1]; exact hp
  · rcases hv with e | e
    · exact h.sep k (e ▸ hk) hf
    · rw [e] at hk
      have hk2 : W.heap.size = k := by injection hk
      have := h.ws.lt k hf
      omega
  · have := (h.own.lt k e).1
    have := h.wB
    omega
end
/-- What Read returns, by its parts. -/
def ReadQ (w : World) (L : List UInt8) (n : Nat) (e : Ending) (w' : World) : Prop := ∃ A1 n1 c1 A2 n2 c2 ds, e = .returned (.tuple #[.slice A1 n1 c1, .slice A2 n2 c2]) ∧ PL w' A1 n1 c1 ds ∧ pks ds = (rdAll (blks L 0)).l ∧ GL w' A2 n2 c2 (endG (rdAll (blks L 0)) n) ∧ Below w.heap.size w w'
theorem read_q (A : Option Addr) (n c : Nat) (L : List UInt8) (w : World) (h : RB w A n c L) (hn : n ≤ 2000000) : Calls Try.prog 24 #[.slice A n c] w (ReadQ w L n) :=
  (read_any A n c L w h hn).mono fun e w' ⟨vl, vg, ds, h1, h2, h3, h4, h5⟩ => by
    obtain ⟨A1, c1, rfl⟩ := h2.form
    obtain ⟨A2, c2, rfl, -⟩ := own_formS h4
    exact ⟨A1, _, c1, A2, _, c2, ds, h1, h2.pl, h3, ⟨rfl, HoldsS.own h4⟩, h5⟩
theorem BW.below {w : World} {B g i : Nat} {s : StP} {gs : List (List Pk)} {wt : List Pk} {vb vl : Value} {dsw ds : List Pd} {v : Value} {W W2 : World} (h : BW w B g i s gs wt vb vl dsw ds v W) (hb : Below W.heap.size W W2) : BW w B g i s gs wt vb vl dsw ds v W2 :=
  ⟨h.ws.below hb, h.gh, own_keeps h.own fun k hk => hb.block k (own_lt h.own k hk), h.mem, h.sep, h.bel.trans (hb.mono h.bel.size), h.len, h.dl, h.wB⟩
/-- What Read finds in the writer's own bytes. -/
theorem read_own {s : StP} {gs : List (List Pk)} {wt : List Pk} (h : Gh s gs wt) (hl : s.l = []) : (rdAll (blks s.b 0)).l = wt ∧ endG (rdAll (blks s.b 0)) s.b.length = [] := by
  obtain ⟨e, h1, h2⟩ := h.done hl
  by_cases h0 : gs = []
  · rw [h2.2 h0, h1.2 h0]
    exact ⟨rfl, rfl⟩
  · have := read_groups [] [] gs (fun x hx => by cases hx) (fun x hx => by cases hx) h.ok h0
    simp only [List.nil_append, List.append_nil] at this
    rw [h.b, e]
    exact ⟨this.1, by simpa using this.2⟩

set_option maxHeartbeats 16000000 in
theorem back_law (A : Option Addr) (n c : Nat) (acs : List Ac) (A1 : Option Addr) (n1 c1 : Nat) (l1 : List UInt8) (A2 : Option Addr) (n2 c2 : Nat) (l2 : List UInt8) (w : World) (h0 : AL w A n c acs ∧ n ≤ c ∧ c * 48 ≤ 140737488355328) (hl1 : l1.length = n1) (hc1 : n1 ≤ c1) (hm1 : c1 ≤ maxLen) (hw1 : BS w w.heap.size A1 l1) (hz1 : A1 = none → c1 = 0) (hl2 : l2.length = n2) (hc2 : n2 ≤ c2) (hm2 : c2 ≤ maxLen) (hw2 : BS w w.heap.size A2 l2) (hz2 : A2 = none → c2 = 0) :
    Calls Try.prog 6 #[.slice A n c, .slice A1 n1 c1, .slice A2 n2 c2] w fun e w' => e = .returned (.bool true) ∧ Below w.heap.size w w' := by
  have HR1 := Lib.hid (show RB w A1 n1 c1 l1 from ⟨hl1, hw1.holds hl1, hc1, hm1, hz1⟩)
  have HR2 := Lib.hid (show RB w A2 n2 c2 l2 from ⟨hl2, hw2.holds hl2, hc2, hm2, hz2⟩)
  have HAL := Lib.hid h0.1
  have K := Lib.hid known_any
  have C19 := short_any A n c acs 150 w h0.1 (by have := h0.2; omega) (by omega) (by omega)
  obtain ⟨F, hF⟩ : ∃ F, fewB 150 (pks (apk acs)) = F := ⟨_, rfl⟩
  rw [hF] at C19
  have HFW := Lib.hid hF
  have C19 := Lib.hid C19
  have hn1 : (n1 : Int) ≤ 9223372036854775807 := by unfold maxLen at hm1; omega
  have hn2 : (n2 : Int) ≤ 9223372036854775807 := by unfold maxLen at hm2; omega
  clear h0 hF hl1 hc1 hm1 hw1 hz1 hl2 hc2 hm2 hw2 hz2
  cases F with
  | false =>
    go_enter Try.func6, Try.ntmps6
    go_wp2_with (first | (go_at_call 19; (with_reducible refine C19.out.mono ?_); rintro e w1 ⟨rfl, hb⟩; have HB := Lib.hid hb; clear hb) | (go_at_call 10; (with_reducible refine (K.out _).mono ?_); rintro e w2 ⟨rfl, hb⟩; have HB2 := Lib.hid (HB.out.trans (hb.mono HB.out.size)); clear hb))
    go_ret
    exact ⟨rfl, HB2.out⟩
  | true =>
  by_cases h1 : 50 < (n1 : Int)
  · have q1 : decide (50 < (n1 : Int)) = true := decide_eq_true h1
    go_enter Try.func6, Try.ntmps6
    go_wp2_with (first | (go_at_call 19; (with_reducible refine C19.out.mono ?_); rintro e w1 ⟨rfl, hb⟩; have HB := Lib.hid hb; clear hb) | (go_at_call 10; (with_reducible refine (K.out _).mono ?_); rintro e w2 ⟨rfl, hb⟩; have HB2 := Lib.hid (HB.out.trans (hb.mono HB.out.size)); clear hb))
    go_ret
    exact ⟨rfl, HB2.out⟩
  have q1 : decide (50 < (n1 : Int)) = false := decide_eq_false h1
  by_cases h2 : 50 < (n2 : Int)
  · have q2 : decide (50 < (n2 : Int)) = true := decide_eq_true h2
    go_enter Try.func6, Try.ntmps6
    go_wp2_with (first | (go_at_call 19; (with_reducible refine C19.out.mono ?_); rintro e w1 ⟨rfl, hb⟩; have HB := Lib.hid hb; clear hb) | (go_at_call 10; (with_reducible refine (K.out _).mono ?_); rintro e w2 ⟨rfl, hb⟩; have HB2 := Lib.hid (HB.out.trans (hb.mono HB.out.size)); clear hb))
    go_ret
    exact ⟨rfl, HB2.out⟩
  have q2 : decide (50 < (n2 : Int)) = false := decide_eq_false h2
  have hfw := few_of HFW.out HAL.out
  have HPN := Lib.hid hfw.2
  have hn0 : (n : Int) ≤ 150 := hfw.1
  clear hfw
  go_enter Try.func6, Try.ntmps6
  go_upto_region 3 with (go_at_call 19; (with_reducible refine C19.out.mono ?_); rintro e w1 ⟨rfl, hb⟩; have HB := Lib.hid hb; clear hb)
  clear hn1 hn2
  have hn1 : (n1 : Int) ≤ 50 := by omega
  have hn2 : (n2 : Int) ≤ 50 := by omega
  clear h1 h2 q1 q2
  obtain ⟨w3, hw3⟩ : ∃ w3, w1.alloc (.cells #[.slice A1 n1 c1, .slice A2 n2 c2] 23) = w3 := ⟨_, rfl⟩
  have hb3 : Below w1.heap.size w1 w3 := hw3 ▸ (Below.refl _ w1).alloc (Nat.le_refl _) _
  have HB3 := Lib.hid (HB.out.trans (hb3.mono HB.out.size))
  have hkb : Blk w3 w1.heap.size 23 #[.slice A1 n1 c1, .slice A2 n2 c2] := hw3 ▸ Blk.new w1 23 _
  have HKB := Lib.hid hkb
  clear hb3 hkb
  go_wp2_with fail
  try rw [hw3]
  clear hw3
  go_loopw [38] (fun ii wr => ∃ i : Nat, (i : Int) ≤ 2 ∧ ii = .int .i64 (i : Int) ∧ Hid (0 < i → ∀ x ∈ l1, x ≠ 80) ∧ Hid (1 < i → ∀ x ∈ l2, x ≠ 80) ∧ w3 = wr) (fun ii _ => 2 - (intOf ii).toNat)
  case atStart => exact ⟨0, by omega, rfl, Lib.hid (fun h => by omega), Lib.hid (fun h => by omega), rfl⟩
  case round =>
  obtain ⟨i, hi, rfl, HQ1, HQ2, rfl⟩ := hrel
  have hi0 : (0 : Int) ≤ i := by omega
  by_cases hlt : (i : Int) < 2
  case pos =>
    have k0 := HKB.out.cell 0
    have k1 := HKB.out.cell 1
    simp at k0 k1
    obtain rfl | rfl : i = 0 ∨ i = 1 := by omega
    · have HRW := Lib.hid (HR1.out.below HB3.out)
      go_wp2_with fail
      go_loopw [9] (fun kk wr => ∃ k : Nat, (k : Int) ≤ n1 ∧ kk = .int .i64 (k : Int) ∧ Hid (∀ j, j < k → l1[j]? ≠ some 80) ∧ w3 = wr) (fun kk _ => n1 - (intOf kk).toNat)
      case atStart => exact ⟨0, by omega, rfl, Lib.hid (fun j hj => by omega), rfl⟩
      case round =>
      obtain ⟨k, hk, rfl, HJ, rfl⟩ := hrel
      have hk0 : (0 : Int) ≤ k := by omega
      by_cases hlk : (k : Int) < n1
      case pos =>
        have hk1 : k < l1.length := by rw [HR1.out.len]; omega
        obtain ⟨b, o, e0, hat⟩ := HRW.out.at (by omega)
        subst e0
        have hc := hat k hk1
        have HX := Lib.hid (show l1[k]? = some l1[k] from List.getElem?_eq_getElem hk1)
        clear hat
        generalize l1[k] = x at *
        by_cases hx : x = 80
        · subst hx
          have hc2 : w3.cell? ⟨b, o + k, none⟩ = some (.int .u8 80) := hc
          clear hc
          go_wp2_with (go_at_call 10; (with_reducible refine (K.out _).mono ?_); rintro e w4 ⟨rfl, hb⟩; have HB4 := Lib.hid (HB3.out.trans (hb.mono HB3.out.size)); clear hb)
          go_ret
          exact ⟨rfl, HB4.out⟩
        · have HNE := Lib.hid hx
          obtain ⟨z, hz⟩ : ∃ z : Int, (x.toNat : Int) = z := ⟨_, rfl⟩
          have hz0 : z ≠ 80 := fun e => hx (UInt8.toNat_inj.1 (by show x.toNat = 80; omega))
          have qz : (z == 80) = false := by simpa using hz0
          rw [hz] at hc
          have HN := Lib.hid (show ∀ j, j < k + 1 → l1[j]? ≠ some 80 from fun j hj => by
            by_cases h : j < k
            · exact HJ.out j h
            · obtain rfl : j = k := by omega
              rw [HX.out]
              exact fun e => hx (Option.some.inj e))
          clear hz hx hz0
          go_wp2_with fail
          go_roundw
          case rel => exact ⟨k + 1, by omega, by go_num, HN, by first | exact trivial | rfl⟩
          case measure => simp [intOf]; omega
      case neg =>
      have HQ := Lib.hid (show ∀ x ∈ l1, x ≠ 80 from fun x hx e => by
        obtain ⟨j, hj, h2⟩ := List.getElem_of_mem hx
        have h3 := HR1.out.len
        exact HJ.out j (by omega) (by rw [List.getElem?_eq_getElem hj, h2, e]))
      go_wp2_with fail
      go_roundw
      case rel => exact ⟨1, by omega, rfl, Lib.hid (fun _ => HQ.out), Lib.hid (fun h => by omega), by first | exact trivial | rfl⟩
      case measure => simp [intOf]
    · have HRW := Lib.hid (HR2.out.below HB3.out)
      go_wp2_with fail
      go_loopw [9] (fun kk wr => ∃ k : Nat, (k : Int) ≤ n2 ∧ kk = .int .i64 (k : Int) ∧ Hid (∀ j, j < k → l2[j]? ≠ some 80) ∧ w3 = wr) (fun kk _ => n2 - (intOf kk).toNat)
      case atStart => exact ⟨0, by omega, rfl, Lib.hid (fun j hj => by omega), rfl⟩
      case round =>
      obtain ⟨k, hk, rfl, HJ, rfl⟩ := hrel
      have hk0 : (0 : Int) ≤ k := by omega
      by_cases hlk : (k : Int) < n2
      case pos =>
        have hk1 : k < l2.length := by rw [HR2.out.len]; omega
        obtain ⟨b, o, e0, hat⟩ := HRW.out.at (by omega)
        subst e0
        have hc := hat k hk1
        have HX := Lib.hid (show l2[k]? = some l2[k] from List.getElem?_eq_getElem hk1)
        clear hat
        generalize l2[k] = x at *
        by_cases hx : x = 80
        · subst hx
          have hc2 : w3.cell? ⟨b, o + k, none⟩ = some (.int .u8 80) := hc
          clear hc
          go_wp2_with (go_at_call 10; (with_reducible refine (K.out _).mono ?_); rintro e w4 ⟨rfl, hb⟩; have HB4 := Lib.hid (HB3.out.trans (hb.mono HB3.out.size)); clear hb)
          go_ret
          exact ⟨rfl, HB4.out⟩
        · have HNE := Lib.hid hx
          obtain ⟨z, hz⟩ : ∃ z : Int, (x.toNat : Int) = z := ⟨_, rfl⟩
          have hz0 : z ≠ 80 := fun e => hx (UInt8.toNat_inj.1 (by show x.toNat = 80; omega))
          have qz : (z == 80) = false := by simpa using hz0
          rw [hz] at hc
          have HN := Lib.hid (show ∀ j, j < k + 1 → l2[j]? ≠ some 80 from fun j hj => by
            by_cases h : j < k
            · exact HJ.out j h
            · obtain rfl : j = k := by omega
              rw [HX.out]
              exact fun e => hx (Option.some.inj e))
          clear hz hx hz0
          go_wp2_with fail
          go_roundw
          case rel => exact ⟨k + 1, by omega, by go_num, HN, by first | exact trivial | rfl⟩
          case measure => simp [intOf]; omega
      case neg =>
      have HQ := Lib.hid (show ∀ x ∈ l2, x ≠ 80 from fun x hx e => by
        obtain ⟨j, hj, h2⟩ := List.getElem_of_mem hx
        have h3 := HR2.out.len
        exact HJ.out j (by omega) (by rw [List.getElem?_eq_getElem hj, h2, e]))
      go_wp2_with fail
      go_roundw
      case rel => exact ⟨2, by omega, rfl, Lib.hid (fun _ => HQ1.out (by omega)), Lib.hid (fun _ => HQ.out), by first | exact trivial | rfl⟩
      case measure => simp [intOf]
  case neg =>
  have HQa := Lib.hid (HQ1.out (by omega))
  have HQb := Lib.hid (HQ2.out (by omega))
  clear HQ1 HQ2
  go_wp2_with fail
  obtain ⟨w5, hw5⟩ : ∃ w5, w3.alloc (.cells #[.slice none 0 0, .slice none 0 0, .int .i64 0] 46) = w5 := ⟨_, rfl⟩
  have hb5 : Below w3.heap.size w3 w5 := hw5 ▸ (Below.refl _ w3).alloc (Nat.le_refl _) _
  have kg : Blk w5 w3.heap.size 46 #[.slice none 0 0, .slice none 0 0, .int .i64 0] := hw5 ▸ Blk.new w3 46 _
  have HBW0 := Lib.hid (BW.new kg (Nat.le_refl _) (HB3.out.trans (hb5.mono HB3.out.size)) HB3.out.size)
  have HW3 := Lib.hid HB3.out.size
  obtain ⟨g, hg⟩ : ∃ g, w3.heap.size = g := ⟨_, rfl⟩
  obtain ⟨B, hB⟩ : ∃ B, g = B := ⟨_, rfl⟩
  have HBW0 : Hid (BW w B g 0 ⟨[], [], 0⟩ [] [] (.slice none 0 0) (.slice none 0 0) [] [] (.slice none 0 0) w5) := by
    rw [hg] at HBW0
    exact hB ▸ HBW0
  rw [hw5, hg]
  clear hb5 kg hw5 hg hB hlt hi hi0
  go_loopw [11, 12] (fun vv ii wr => ∃ (i : Nat) (s : StP) (gs : List (List Pk)) (vb vl : Value) (dsw ds : List Pd) (v : Value), (i : Int) ≤ n ∧ ii = .int .i64 (i : Int) ∧ v = vv ∧ Hid (BW w B g i s gs (pks ds) vb vl dsw ds v wr)) (fun _ ii _ => n - (intOf ii).toNat)
  case atStart => exact ⟨0, ⟨[], [], 0⟩, [], _, _, [], [], _, by omega, rfl, rfl, HBW0⟩
  case round =>
  clear HBW0
  obtain ⟨i, s, gs, vb, vl, dsw, ds, v, hi, rfl, rfl, HBW⟩ := hrel
  have hi0 : (0 : Int) ≤ i := by omega
  have HSB := Lib.hid (show s.b.length ≤ 1300000 by have := HBW.out.len; have h2 : i * 8206 ≤ 150 * 8206 := Nat.mul_le_mul_right _ (by omega); omega)
  obtain ⟨Av, cv, rfl, -⟩ := own_formS HBW.out.own
  have HDL := Lib.hid (show ds.length ≤ 150 by have := HBW.out.dl; omega)
  by_cases hlt : (i : Int) < n
  case pos =>
    have hi1 : i < acs.length := by rw [HAL.out.len]; omega
    obtain ⟨b, o, e0, hat⟩ := HAL.out.at (by omega)
    subst e0
    have HAT := Lib.hid (fun (W : World) (hb : Below w.heap.size w W) => (hat i hi1).below hb)
    have hrp := HAL.out.r _ (List.getElem_mem hi1)
    have hpn := HPN.out _ (List.getElem_mem hi1)
    clear hat
    generalize acs[i] = a at *
    have HPD := Lib.hid hrp
    have HPN1 := Lib.hid hpn
    obtain ⟨f0, f1, f2, f3⟩ := HAT.out _ HBW.out.bel
    obtain ⟨acl, hacl⟩ : ∃ b, a.cl = b := ⟨_, rfl⟩
    rw [hacl] at f0
    clear hrp hpn hacl
    cases acl with
    | true =>
      have C21 := Lib.hid (close_any wr B g vb vl dsw s HBW.out.ws (by have := HSB.out; omega))
      go_wp2_with (go_at_call 21; (with_reducible refine C21.out.mono ?_); rintro e w7 ⟨rfl, hst⟩; have HST := Lib.hid hst; clear hst)
      have hN : ∃ s2 gs2 vb2 vl2 dsw2, BW w B g (i + 1) s2 gs2 (pks ds) vb2 vl2 dsw2 ds (.slice Av ds.length cv) w7 := by
        obtain ⟨gs2, hg2⟩ := HBW.out.gh.close HBW.out.ws.ok
        obtain ⟨vb2, vl2, dsw2, h⟩ := HBW.out.step HST.out hg2 (by have := closeP_len HBW.out.ws.ok; have := HBW.out.len; omega)
        exact ⟨_, gs2, vb2, vl2, dsw2, h⟩
      obtain ⟨s2, gs2, vb2, vl2, dsw2, hN⟩ := hN
      have HN := Lib.hid hN
      clear hN
      go_roundw
      case rel => exact ⟨i + 1, s2, gs2, vb2, vl2, dsw2, ds, _, by omega, by go_num, rfl, HN⟩
      case measure => simp [intOf]; omega
    | false =>
      have C22 := add_any wr B g vb vl dsw s a.p.t a.p.f a.p.A a.p.n a.p.c a.p.d HBW.out.ws (HPD.out.below HBW.out.bel) (by have := HPN1.out; omega) (by have := HSB.out; omega)
      obtain ⟨ee, hee⟩ : ∃ ee, (addP s a.p.pk).2 = ee := ⟨_, rfl⟩
      obtain ⟨s2, hs2⟩ : ∃ s2, (addP s a.p.pk).1 = s2 := ⟨_, rfl⟩
      have C22 := Lib.hid (show Calls Try.prog 22 #[.pointer (some ⟨g, 0, none⟩), .agg #[.int .i64 a.p.t, .int .i64 a.p.f, .slice a.p.A a.p.n a.p.c]] wr (fun e w' => e = .returned (.int .i64 ee) ∧ StepW wr w' B g vb vl dsw s2) from hee ▸ hs2 ▸ C22)
      obtain ⟨gs2, hg2⟩ := HBW.out.gh.add HBW.out.ws.ok a.p.pk
      rw [hee, hs2] at hg2
      have HG2 := Lib.hid hg2
      have HLN := Lib.hid (show s2.b.length ≤ (i + 1) * 8206 by have := addP_len HBW.out.ws.ok a.p.pk; rw [hs2] at this; have := HBW.out.len; omega)
      clear hee hs2 hg2
      by_cases he : ee = 0
      · subst he
        go_upto_region 20 with (go_at_call 22; (with_reducible refine C22.out.mono ?_); rintro e w7 ⟨rfl, hst⟩; have HST := Lib.hid hst; clear hst f0 f1 f2 f3)
        have hN : ∃ vb2 vl2 dsw2, BW w B g (i + 1) s2 gs2 (pks ds ++ [a.p.pk]) vb2 vl2 dsw2 ds (.slice Av ds.length cv) w7 := by
          have := HG2.out
          first | rw [if_pos trivial] at this | rw [if_pos rfl] at this
          exact HBW.out.step HST.out this HLN.out
        obtain ⟨vb2, vl2, dsw2, hN⟩ := hN
        have HN := Lib.hid hN
        have HI2 := Lib.hid (show ds.length ≤ i from HBW.out.dl)
        obtain ⟨f0, f1, f2, f3⟩ := HAT.out _ hN.bel
        clear hN
        go_wp2_with (at_builtin; refine wpList_app_szB (base := B) (n := ds.length) (m := 1) (xs := ds.flatMap Pd.cells) (news := [.int .i64 a.p.t, .int .i64 a.p.f, .slice a.p.A a.p.n a.p.c]) rfl (.tmp 74) (.tmp 80) 22 rfl elP rfl (own_alloc HN.out.own) rfl (HoldsS.new _ 3 1 [.int .i64 a.p.t, .int .i64 a.p.f, .slice a.p.A a.p.n a.p.c] 31 rfl) (by simp [Value.oneCell']) (by have := HDL.out; unfold maxLen; omega) (by have := HDL.out; omega) (by have := HN.out.ws.base; simp; omega) ?_; intro v8 w8 hown hg hv; have HN8 := Lib.hid ((HN.out.below ((Below.refl w7.heap.size w7).alloc (Nat.le_refl _) _)).push HI2.out HPD.out hown hg hv); clear hown hg hv)
        go_roundw
        case rel => exact ⟨i + 1, s2, gs2, vb2, vl2, dsw2, ds ++ [a.p], v8, by omega, by go_num, rfl, by have h8 := HN8.out; rw [show pks ds ++ [a.p.pk] = pks (ds ++ [a.p]) by simp [pks]] at h8; exact Lib.hid h8⟩
        case measure => simp [intOf]; omega
      · have qe : (ee == 0) = false := by simpa using he
        have HE := Lib.hid he
        clear he
        go_wp2_with (go_at_call 22; (with_reducible refine C22.out.mono ?_); rintro e w7 ⟨rfl, hst⟩; have HST := Lib.hid hst; clear hst)
        have hN : ∃ vb2 vl2 dsw2, BW w B g (i + 1) s2 gs2 (pks ds) vb2 vl2 dsw2 ds (.slice Av ds.length cv) w7 := by
          have := HG2.out
          rw [if_neg HE.out] at this
          exact HBW.out.step HST.out this HLN.out
        obtain ⟨vb2, vl2, dsw2, hN⟩ := hN
        have HN := Lib.hid hN
        clear hN
        go_roundw
        case rel => exact ⟨i + 1, s2, gs2, vb2, vl2, dsw2, ds, _, by omega, by go_num, rfl, HN⟩
        case measure => simp [intOf]; omega
  case neg =>
  obtain ⟨w6, rfl⟩ : ∃ w6 : World, w6 = wr := ⟨_, rfl⟩
  have C21 := Lib.hid (close_any w6 B g vb vl dsw s HBW.out.ws (by have := HSB.out; omega))
  go_upto_region 23 with (go_at_call 21; (with_reducible refine C21.out.mono ?_); rintro e w7 ⟨rfl, hst⟩; have HST := Lib.hid hst; clear hst)
  obtain ⟨gs3, hg3⟩ := HBW.out.gh.close HBW.out.ws.ok
  obtain ⟨vb3, vl3, dsw3, h3⟩ := HBW.out.step HST.out hg3 (by have := closeP_len HBW.out.ws.ok; have := HBW.out.len; omega)
  have H3 := Lib.hid h3
  have hEl : (closeP s).b.length ≤ 1320000 := by have := closeP_len HBW.out.ws.ok; have := HSB.out; omega
  have C23 := bytes_any w7 B g vb3 vl3 dsw3 (closeP s) h3.ws (by omega)
  have hro := read_own hg3 (closeP_l s)
  have hdn := hg3.done (closeP_l s)
  have hgb := hg3.b
  have HOK := Lib.hid hg3.ok
  obtain ⟨E, hE⟩ : ∃ E, (closeP s).b = E := ⟨_, rfl⟩
  rw [hE] at hro hdn hgb hEl C23
  obtain ⟨m, hm⟩ : ∃ m, E.length = m := ⟨_, rfl⟩
  rw [hm] at hro hEl
  have HGB := Lib.hid hgb
  have HRO := Lib.hid hro
  have HDN := Lib.hid hdn
  have HEL := Lib.hid hEl
  have HM := Lib.hid hm
  have hm0 : (m : Int) ≤ 1320000 := by omega
  have hdl0 : (ds.length : Int) ≤ 150 := by have := HDL.out; omega
  have C23 := Lib.hid (C23.mono (R' := fun e w' => ∃ A13 c13, e = .returned (.slice A13 m c13) ∧ w'.ownsRow w7.heap.size 5 1 (.slice A13 m c13) m (E.map Go.Proofs.Ytgbkoegmoelheaa.u8) ∧ Below w7.heap.size w7 w') fun e w' ⟨v, h1, h2, h3⟩ => by
    rw [hm] at h2
    obtain ⟨A6, c6, rfl, -⟩ := own_form h2
    exact ⟨A6, c6, h1, h2, h3⟩)
  clear h3 hg3 hEl hro hdn hgb hE hm hlt hi hi0
  go_upto_region 24 with (go_at_call 23; (with_reducible refine C23.out.mono ?_); rintro e w8 ⟨A13, c13, rfl, ho, hb⟩; have HO8 := Lib.hid ho; have H38 := Lib.hid (H3.out.below hb); clear ho hb)
  have C24 := Lib.hid (read_q A13 m c13 E w8 (own_RB3 HO8.out) (by have := HEL.out; omega))
  go_upto_region 25 with (go_at_call 24; (with_reducible refine C24.out.mono ?_); rintro e w9 ⟨B1, m1, k1, B2, m2, k2, es, rfl, hp, hq, hg, hb⟩; have HP := Lib.hid hp; have HQ := Lib.hid hq; have HG := Lib.hid hg; have H39 := Lib.hid (H38.out.below hb); have HO9 := Lib.hid (own_keeps HO8.out fun k hk => hb.block k (own_lt HO8.out k hk)); clear hp hq hg hb)
  obtain rfl : m2 = 0 := by rw [← HG.out.len, HRO.out.2]; rfl
  have hpl : PL w9 Av ds.length cv ds := own_PL H39.out.own (fun q hq => (H39.out.mem q hq).below H39.out.bel) rfl
  have C17 := Lib.hid (same_any B1 Av m1 k1 ds.length cv es ds w9 HP.out hpl (by rw [HQ.out, HRO.out.1]) (by have h1 := HP.out.len; have h2 := congrArg List.length (HQ.out.trans HRO.out.1); have := HDL.out; simp [pks] at h2; omega))
  have HPL9 := Lib.hid hpl
  clear hpl
  by_cases h0 : gs3 = []
  · have hds : ds.length = 0 := by have := HDN.out.2.1.2 h0; have := congrArg List.length this; simpa [pks] using this
    have hmm : m = 0 := by have := HDN.out.2.2.2 h0; rw [← HM.out, this]; rfl
    have qa : ((ds.length : Int) == 0) = true := by rw [hds]; rfl
    have qb : ((m : Int) == 0) = true := by rw [hmm]; rfl
    clear hds hmm h0
    go_wp2_with (first | (go_at_call 17; (with_reducible refine C17.out.mono ?_); rintro e w10 ⟨rfl, hb⟩; have HBA := Lib.hid (H39.out.bel.trans (hb.mono H39.out.bel.size)); clear hb) | (go_at_call 10; (with_reducible refine (K.out _).mono ?_); rintro e w11 ⟨rfl, hb⟩; have HBB := Lib.hid (HBA.out.trans (hb.mono HBA.out.size)); clear hb))
    go_ret
    exact ⟨rfl, HBB.out⟩
  · have qa : ((ds.length : Int) == 0) = false := by
      have h1 : ds ≠ [] := fun e => h0 (HDN.out.2.1.1 (by rw [e]; rfl))
      have h2 : ds.length ≠ 0 := fun e => h1 (List.eq_nil_of_length_eq_zero e)
      simp
      first | exact h1 | omega
    have qb : ((m : Int) == 0) = false := by
      have h1 : E ≠ [] := fun e => h0 (HDN.out.2.2.1 e)
      have h2 : m ≠ 0 := fun e => h1 (List.eq_nil_of_length_eq_zero (HM.out.trans e))
      simp
      omega
    have HRG := Lib.hid (read_groups l1 l2 gs3 HQa.out HQb.out HOK.out h0)
    rw [← HGB.out] at HRG
    clear h0
    go_upto_region 29 with (go_at_call 17; (with_reducible refine C17.out.mono ?_); rintro e w10 ⟨rfl, hb⟩; have HBA := Lib.hid (H39.out.bel.trans (hb.mono H39.out.bel.size)); have HO10 := Lib.hid (own_keeps HO9.out fun k hk => hb.block k (own_lt HO9.out k hk)); have HPLA := Lib.hid (HPL9.out.below hb); clear hb)
    have hq1 : Holds w10 A1 n1 (l1.map Go.Proofs.Ytgbkoegmoelheaa.u8) := (HR1.out.below HBA.out).h
    go_wp2_with (first
      | (at_builtin; refine wpList_app_own (base := w10.heap.size) (n := 0) (m := n1) (xs := []) (news := l1.map Go.Proofs.Ytgbkoegmoelheaa.u8) rfl (.const (.slice none 0 0)) (.tmp 113) 23 rfl el22 rfl (World.ownsRow_nil _ _ 5 1) rfl hq1 (u8_one _) (by unfold maxLen; omega) (by omega) (Nat.le_refl _) ?_; intro v11 w11 hown hg hat; rw [Nat.zero_add, List.nil_append] at hown; have HO11 := Lib.hid hown; have HB11 := Lib.hid (below_own (Below.refl _ _) (Nat.le_refl _) (World.ownsRow_nil _ _ 5 1) hg); have HE11 := Lib.hid (own_keeps HO10.out fun k hk => HB11.out.block k (own_lt HO10.out k hk)); clear hown hg hat)
      | (at_builtin; refine wpList_app_own (base := w10.heap.size) (n := n1) (m := m) (xs := l1.map Go.Proofs.Ytgbkoegmoelheaa.u8) (news := E.map Go.Proofs.Ytgbkoegmoelheaa.u8) rfl (.tmp 114) (.tmp 115) 23 rfl el22 rfl HO11.out rfl (own_RB3 HE11.out).h (u8_one _) (by unfold maxLen; omega) (by omega) HB11.out.size ?_; intro v12 w12 hown hg hat; have HO12 := Lib.hid hown; have HB12 := Lib.hid (below_own HB11.out HB11.out.size HO11.out hg); clear hown hg hat)
      | (at_builtin; refine wpList_app_own (base := w10.heap.size) (n := n1 + m) (m := n2) (xs := l1.map Go.Proofs.Ytgbkoegmoelheaa.u8 ++ E.map Go.Proofs.Ytgbkoegmoelheaa.u8) (news := l2.map Go.Proofs.Ytgbkoegmoelheaa.u8) rfl (.tmp 116) (.tmp 117) 23 rfl el22 rfl HO12.out rfl (HR2.out.below (HBA.out.trans (HB12.out.mono HBA.out.size))).h (u8_one _) (by unfold maxLen; omega) (by omega) HB12.out.size ?_; intro v13 w13 hown hg hat; have HO13 := Lib.hid hown; have HB13 := Lib.hid (below_own HB12.out HB12.out.size HO12.out hg); clear hown hg hat; refine Hid.out ?_))
    obtain ⟨A14, c14, rfl, -⟩ := own_form HO13.out
    have HR14 := Lib.hid (show RB w13 A14 (n1 + m + n2) c14 (l1 ++ (E ++ l2)) from own_RB3 (by rw [List.map_append, List.map_append, ← List.append_assoc]; exact HO13.out))
    have HW13 := Lib.hid (HBA.out.trans (HB13.out.mono HBA.out.size))
    have C24 := Lib.hid (read_q A14 (n1 + m + n2) c14 (l1 ++ (E ++ l2)) w13 HR14.out (by omega))
    refine Lib.hid ?_
    clear hq1
    go_upto_region 30 with (go_at_call 24; (with_reducible refine C24.out.mono ?_); rintro e w14 ⟨B3, m3, k3, B4, m4, k4, es2, rfl, hp, hq, hg, hb⟩; have HP2 := Lib.hid hp; have HQ2 := Lib.hid hq; have HG2 := Lib.hid hg; have HW14 := Lib.hid (HW13.out.trans (hb.mono HW13.out.size)); have HPL14 := Lib.hid (HPLA.out.below (HB13.out.trans (hb.mono HB13.out.size))); clear hp hq hg hb)
    have hlen : (l1 ++ (E ++ l2)).length = n1 + m + n2 := by rw [List.length_append, List.length_append, HR1.out.len, HM.out, HR2.out.len, Nat.add_assoc]
    have hrg := HRG.out
    rw [hlen, HR1.out.len, HR2.out.len, HM.out] at hrg
    have C17 := Lib.hid (fun (W : World) (hb : Below w14.heap.size w14 W) => same_any B3 Av m3 k3 ds.length cv es2 ds W (HP2.out.below hb) (HPL14.out.below hb) (by rw [HQ2.out, hrg.1, HDN.out.1]) (by have h1 := HP2.out.len; have h2 := congrArg List.length (HQ2.out.trans (hrg.1.trans HDN.out.1.symm)); have := HDL.out; simp [pks] at h2; omega))
    have hgl := HG2.out
    rw [hrg.2] at hgl
    have HGL := Lib.hid hgl
    have HN12 := Lib.hid (And.intro hn1 hn2)
    have HMB := Lib.hid hm0
    clear hlen hrg hgl qa qb
    by_cases z1 : 0 < (n1 : Int)
    · have p1 : 0 < n1 := by omega
      by_cases z2 : 0 < (n2 : Int)
      · have p2 : 0 < n2 := by omega
        have HGX := Lib.hid (show GL w14 B4 m4 k4 [(0, n1), (n1 + m, n1 + m + n2)] from by have := HGL.out; rw [if_pos p1, if_pos p2] at this; exact this)
        clear p1 p2
        go_wp2_with (at_builtin; refine wpList_app_sz (base := w14.heap.size) (n := 0) (m := 1) (xs := []) (news := [.int .i64 0, .int .i64 (n1 : Int)]) rfl (.tmp 125) (.tmp 129) 59 rfl elG rfl (World.ownsRow_nil _ _ 63 2) rfl (HoldsS.new w14 2 1 [.int .i64 0, .int .i64 (n1 : Int)] 63 rfl) (by simp [Value.oneCell']) (by unfold maxLen; omega) (by omega) (by simp) (by simp) ?_; intro v15 w15 hown hg; have HO15 := Lib.hid (show w15.ownsRow w14.heap.size 63 2 v15 1 [.int .i64 0, .int .i64 (n1 : Int)] from hown); have HB15 := Lib.hid (below_own ((Below.refl w14.heap.size w14).alloc (Nat.le_refl _) _) (by simp) (World.ownsRow_nil _ _ 63 2) hg); clear hown hg; refine Hid.out ?_)
        obtain ⟨A15, c15, rfl, -⟩ := own_formS HO15.out
        refine Lib.hid ?_
        go_wp2_with (at_builtin; refine wpList_app_sz (base := w14.heap.size) (n := 1) (m := 1) (xs := [.int .i64 0, .int .i64 (n1 : Int)]) (news := [.int .i64 ((n1 : Int) + m), .int .i64 ((n1 : Int) + m + n2)]) rfl (.tmp 139) (.tmp 146) 59 rfl elG rfl (own_alloc HO15.out) rfl (HoldsS.new w15 2 1 [.int .i64 ((n1 : Int) + m), .int .i64 ((n1 : Int) + m + n2)] 63 rfl) (by simp [Value.oneCell']) (by unfold maxLen; omega) (by omega) (by have := HB15.out.size; simp; omega) (by simp) ?_; intro v16 w16 hown hg; have HO16 := Lib.hid (show w16.ownsRow w14.heap.size 63 2 v16 2 ([.int .i64 0, .int .i64 (n1 : Int)] ++ [.int .i64 ((n1 : Int) + m), .int .i64 ((n1 : Int) + m + n2)]) from hown); have HB16 := Lib.hid (below_own (HB15.out.alloc HB15.out.size _) (by have := HB15.out.size; simp; omega) (own_alloc HO15.out) hg); clear hown hg; refine Hid.out ?_)
        obtain ⟨A16, c16, rfl, -⟩ := own_formS HO16.out
        have HWX := Lib.hid (HW14.out.trans (HB16.out.mono HW14.out.size))
        have HGN := Lib.hid (show GL w16 A16 2 c16 [(0, n1), (n1 + m, n1 + m + n2)] from ⟨rfl, by have := HoldsS.own HO16.out; simpa [gcells, Int.natCast_add] using this⟩)
        have HGX2 := Lib.hid (show GL w16 B4 m4 k4 [(0, n1), (n1 + m, n1 + m + n2)] from ⟨HGX.out.len, HGX.out.h.keep HB16.out⟩)
        have C17 := Lib.hid (C17.out w16 HB16.out)
        refine Lib.hid ?_
        go_wp2_with (first | (go_at_call 17; (with_reducible refine C17.out.mono ?_); rintro e w20 ⟨rfl, hb⟩; have HW20 := Lib.hid (HWX.out.trans (hb.mono HWX.out.size)); have H20 := Lib.hid hb; clear hb) | (go_at_call 25; (with_reducible refine (gaps_any B4 A16 m4 k4 2 c16 [(0, n1), (n1 + m, n1 + m + n2)] _ ⟨HGX2.out.len, HGX2.out.h.keep H20.out⟩ ⟨HGN.out.len, HGN.out.h.keep H20.out⟩ (by have := HGX2.out.len; simp at this; omega)).mono ?_); rintro e w21 ⟨rfl, hb⟩; have HW21 := Lib.hid (HW20.out.trans (hb.mono HW20.out.size)); clear hb) | (go_at_call 10; (with_reducible refine (K.out _).mono ?_); rintro e w22 ⟨rfl, hb⟩; have HW22 := Lib.hid (HW21.out.trans (hb.mono HW21.out.size)); clear hb))
        go_ret
        exact ⟨rfl, HW22.out⟩
      · have p2 : ¬ 0 < n2 := by omega
        have HGX := Lib.hid (show GL w14 B4 m4 k4 [(0, n1)] from by have := HGL.out; rw [if_pos p1, if_neg p2] at this; exact this)
        clear p1 p2
        go_wp2_with (at_builtin; refine wpList_app_sz (base := w14.heap.size) (n := 0) (m := 1) (xs := []) (news := [.int .i64 0, .int .i64 (n1 : Int)]) rfl (.tmp 125) (.tmp 129) 59 rfl elG rfl (World.ownsRow_nil _ _ 63 2) rfl (HoldsS.new w14 2 1 [.int .i64 0, .int .i64 (n1 : Int)] 63 rfl) (by simp [Value.oneCell']) (by unfold maxLen; omega) (by omega) (by simp) (by simp) ?_; intro v15 w15 hown hg; have HO15 := Lib.hid (show w15.ownsRow w14.heap.size 63 2 v15 1 [.int .i64 0, .int .i64 (n1 : Int)] from hown); have HB15 := Lib.hid (below_own ((Below.refl w14.heap.size w14).alloc (Nat.le_refl _) _) (by simp) (World.ownsRow_nil _ _ 63 2) hg); clear hown hg; refine Hid.out ?_)
        obtain ⟨A15, c15, rfl, -⟩ := own_formS HO15.out
        have HWX := Lib.hid (HW14.out.trans (HB15.out.mono HW14.out.size))
        have HGN := Lib.hid (show GL w15 A15 1 c15 [(0, n1)] from ⟨rfl, by have := HoldsS.own HO15.out; simpa [gcells, Int.natCast_add] using this⟩)
        have HGX2 := Lib.hid (show GL w15 B4 m4 k4 [(0, n1)] from ⟨HGX.out.len, HGX.out.h.keep HB15.out⟩)
        have C17 := Lib.hid (C17.out w15 HB15.out)
        refine Lib.hid ?_
        go_wp2_with (first | (go_at_call 17; (with_reducible refine C17.out.mono ?_); rintro e w20 ⟨rfl, hb⟩; have HW20 := Lib.hid (HWX.out.trans (hb.mono HWX.out.size)); have H20 := Lib.hid hb; clear hb) | (go_at_call 25; (with_reducible refine (gaps_any B4 A15 m4 k4 1 c15 [(0, n1)] _ ⟨HGX2.out.len, HGX2.out.h.keep H20.out⟩ ⟨HGN.out.len, HGN.out.h.keep H20.out⟩ (by have := HGX2.out.len; simp at this; omega)).mono ?_); rintro e w21 ⟨rfl, hb⟩; have HW21 := Lib.hid (HW20.out.trans (hb.mono HW20.out.size)); clear hb) | (go_at_call 10; (with_reducible refine (K.out _).mono ?_); rintro e w22 ⟨rfl, hb⟩; have HW22 := Lib.hid (HW21.out.trans (hb.mono HW21.out.size)); clear hb))
        go_ret
        exact ⟨rfl, HW22.out⟩
    · have p1 : ¬ 0 < n1 := by omega
      by_cases z2 : 0 < (n2 : Int)
      · have p2 : 0 < n2 := by omega
        have HGX := Lib.hid (show GL w14 B4 m4 k4 [(n1 + m, n1 + m + n2)] from by have := HGL.out; rw [if_neg p1, if_pos p2] at this; exact this)
        clear p1 p2
        go_wp2_with (at_builtin; refine wpList_app_sz (base := w14.heap.size) (n := 0) (m := 1) (xs := []) (news := [.int .i64 ((n1 : Int) + m), .int .i64 ((n1 : Int) + m + n2)]) rfl (.tmp 139) (.tmp 146) 59 rfl elG rfl (World.ownsRow_nil _ _ 63 2) rfl (HoldsS.new w14 2 1 [.int .i64 ((n1 : Int) + m), .int .i64 ((n1 : Int) + m + n2)] 63 rfl) (by simp [Value.oneCell']) (by unfold maxLen; omega) (by omega) (by simp) (by simp) ?_; intro v15 w15 hown hg; have HO15 := Lib.hid (show w15.ownsRow w14.heap.size 63 2 v15 1 [.int .i64 ((n1 : Int) + m), .int .i64 ((n1 : Int) + m + n2)] from hown); have HB15 := Lib.hid (below_own ((Below.refl w14.heap.size w14).alloc (Nat.le_refl _) _) (by simp) (World.ownsRow_nil _ _ 63 2) hg); clear hown hg; refine Hid.out ?_)
        obtain ⟨A15, c15, rfl, -⟩ := own_formS HO15.out
        have HWX := Lib.hid (HW14.out.trans (HB15.out.mono HW14.out.size))
        have HGN := Lib.hid (show GL w15 A15 1 c15 [(n1 + m, n1 + m + n2)] from ⟨rfl, by have := HoldsS.own HO15.out; simpa [gcells, Int.natCast_add] using this⟩)
        have HGX2 := Lib.hid (show GL w15 B4 m4 k4 [(n1 + m, n1 + m + n2)] from ⟨HGX.out.len, HGX.out.h.keep HB15.out⟩)
        have C17 := Lib.hid (C17.out w15 HB15.out)
        refine Lib.hid ?_
        go_wp2_with (first | (go_at_call 17; (with_reducible refine C17.out.mono ?_); rintro e w20 ⟨rfl, hb⟩; have HW20 := Lib.hid (HWX.out.trans (hb.mono HWX.out.size)); have H20 := Lib.hid hb; clear hb) | (go_at_call 25; (with_reducible refine (gaps_any B4 A15 m4 k4 1 c15 [(n1 + m, n1 + m + n2)] _ ⟨HGX2.out.len, HGX2.out.h.keep H20.out⟩ ⟨HGN.out.len, HGN.out.h.keep H20.out⟩ (by have := HGX2.out.len; simp at this; omega)).mono ?_); rintro e w21 ⟨rfl, hb⟩; have HW21 := Lib.hid (HW20.out.trans (hb.mono HW20.out.size)); clear hb) | (go_at_call 10; (with_reducible refine (K.out _).mono ?_); rintro e w22 ⟨rfl, hb⟩; have HW22 := Lib.hid (HW21.out.trans (hb.mono HW21.out.size)); clear hb))
        go_ret
        exact ⟨rfl, HW22.out⟩
      · have p2 : ¬ 0 < n2 := by omega
        have HGX := Lib.hid (show GL w14 B4 m4 k4 [] from by have := HGL.out; rw [if_neg p1, if_neg p2] at this; exact this)
        have HGN := Lib.hid (show ∀ W : World, GL W none 0 0 [] from fun W => ⟨rfl, rfl, fun _ => rfl, fun b hb => by cases hb⟩)
        obtain rfl : m4 = 0 := by rw [← HGX.out.len]; rfl
        go_wp2_with (first | (go_at_call 17; (with_reducible refine (C17.out _ (Below.refl _ _)).mono ?_); rintro e w15 ⟨rfl, hb⟩; have HW15 := Lib.hid (HW14.out.trans (hb.mono HW14.out.size)); have H1415 := Lib.hid hb; clear hb) | (go_at_call 25; (with_reducible refine (gaps_any B4 none 0 k4 0 0 [] _ ⟨rfl, HGX.out.h.keep H1415.out⟩ (HGN.out _) (by omega)).mono ?_); rintro e w16 ⟨rfl, hb⟩; have HW16 := Lib.hid (HW15.out.trans (hb.mono HW15.out.size)); clear hb) | (go_at_call 10; (with_reducible refine (K.out _).mono ?_); rintro e w17 ⟨rfl, hb⟩; have HW17 := Lib.hid (HW16.out.trans (hb.mono HW16.out.size)); clear hb))
        go_ret
        exact ⟨rfl, HW17.out⟩
end Go.Proofs.Ytgbkoegmoelheaa
