/- packets: its contract. -/
import Derived.Test.YtgbkoegmoelheaaCi
import Derived.Deep.CutRange
namespace Go.Proofs.Ytgbkoegmoelheaa
open Go.RowKit
set_option linter.unusedVariables false
set_option linter.unusedSimpArgs false

theorem elP : ElS Try.prog 22 31 3 40 := ElS.mk' (z := .agg #[.int .i64 0, .int .i64 0, .slice none 0 0]) Try.underlying22 (by kernel_rfl) rfl (by decide)
section
variable {P : Program} {ops : Array Oper} {Q : Exit → Act → World → Prop} {md : Region.Mode} {S0 S1 : World → Prop} {c : Nat}
/-- Two operations may come up. -/
theorem wpG_twoB {i j : Nat} {oi oj : Oper} {fuel : Nat} {listed : Array Bool} {a : Act} {w : World} (hr : Region.ready md ops listed = [i, j]) (hoi : ops[i]? = some oi) (hoj : ops[j]? = some oj) (hci : (listed.setIfInBounds i true).getD c true = true) (hcj : (listed.setIfInBounds j true).getD c true = true)
    (h1 : ∀ K' : Act → World → Prop, Shut (∀ a w, S1 w → (S1 w → wpG P md ops Q S0 S1 c fuel (listed.setIfInBounds i true) a w) → K' a w) → if Region.wanted oi (yielded ops a.tmps) = true then Oper.wp P oi a w K' Q else K' (a.put oi.dst undef) w)
    (h2 : ∀ K' : Act → World → Prop, Shut (∀ a w, S1 w → (S1 w → wpG P md ops Q S0 S1 c fuel (listed.setIfInBounds j true) a w) → K' a w) → if Region.wanted oj (yielded ops a.tmps) = true then Oper.wp P oj a w K' Q else K' (a.put oj.dst undef) w) :
    wpG P md ops Q S0 S1 c (fuel + 1) listed a w := by
  refine ⟨fun h0 => absurd (hr ▸ h0) (by simp), hr ▸ fun k hk => ?_⟩
  have hk2 : k = i ∨ k = j := by simpa using hk
  rcases hk2 with rfl | rfl
  · exact wpOp_step hoi (fun K' hK => h1 K' (fun a w hS hW => hK a w ⟨⟨fun ht => (by rw [hci] at ht; cases ht), fun _ => hS⟩, hW hS⟩))
  · exact wpOp_step hoj (fun K' hK => h2 K' (fun a w hS hW => hK a w ⟨⟨fun ht => (by rw [hcj] at ht; cases ht), fun _ => hS⟩, hW hS⟩))
end

/-- Packets of the call's own. -/
structure PO (B : Nat) (W : World) (v : Value) (ds : List Pd) : Prop where
  own : W.ownsRow B 31 3 v ds.length (ds.flatMap Pd.cells)
  data : ∀ p ∈ ds, W.ownsRow B 5 1 p.data p.n (p.d.map u8)
  rng : ∀ p ∈ ds, -9223372036854775808 ≤ p.t ∧ p.t < 9223372036854775808 ∧ -9223372036854775808 ≤ p.f ∧ p.f < 9223372036854775808
theorem grown_drew0 {w w' : World} {r : Option Nat} (h : w.drew.grownBy w' r) : w.grownBy w' r := ⟨h.os, h.tape, h.output, h.size, h.block⟩
theorem PO.nil (B : Nat) (W : World) : PO B W (.slice none 0 0) [] := ⟨World.ownsRow_nil _ _ 31 3, (fun _ h => by cases h), (fun _ h => by cases h)⟩
theorem PO.below {B : Nat} {W W2 : World} {v : Value} {ds : List Pd} (h : PO B W v ds) (hb : Below W.heap.size W W2) : PO B W2 v ds :=
  ⟨own_keeps h.own fun g hg => hb.block g (own_lt h.own g hg), fun p hp => own_keeps (h.data p hp) fun g hg => hb.block g (own_lt (h.data p hp) g hg), h.rng⟩
theorem PO.base {B B2 : Nat} {W : World} {v : Value} {ds : List Pd} (h : PO B W v ds) (hB : B2 ≤ B) : PO B2 W v ds := ⟨own_base h.own hB, fun p hp => own_base (h.data p hp) hB, h.rng⟩
theorem PO.form {B : Nat} {W : World} {v : Value} {ds : List Pd} (h : PO B W v ds) : ∃ A c, v = .slice A ds.length c := by
  obtain ⟨A, c, e, -⟩ := own_formS h.own
  exact ⟨A, c, e⟩
theorem PO.pl {B : Nat} {W : World} {A : Option Addr} {n c : Nat} {ds : List Pd} (h : PO B W (.slice A n c) ds) : PL W A n c ds := by
  obtain ⟨A', c', e, h1, h2, h3, -⟩ := own_formS h.own
  injection e with e1 e2 e3
  subst e1 e2 e3
  exact ⟨rfl, HoldsS.own h.own, h1, h2, fun e => (h3 e).2, fun p hp => ⟨(h.rng p hp).1, (h.rng p hp).2.1, (h.rng p hp).2.2.1, (h.rng p hp).2.2.2, own_RB3 (h.data p hp)⟩⟩
theorem PO.push {B : Nat} {W W2 : World} {o : Obj} {v v2 : Value} {ds : List Pd} {p : Pd} (h : PO B W v ds) (hp : W.ownsRow B 5 1 p.data p.n (p.d.map u8)) (hr : -9223372036854775808 ≤ p.t ∧ p.t < 9223372036854775808 ∧ -9223372036854775808 ≤ p.f ∧ p.f < 9223372036854775808) (hown : W2.ownsRow B 31 3 v2 (ds.length + 1) (ds.flatMap Pd.cells ++ p.cells)) (hg : (W.alloc o).grownBy W2 v.ownBlock) : PO B W2 v2 (ds ++ [p]) := by
  refine ⟨by simpa using hown, fun q hq => ?_, fun q hq => ?_⟩
  · rcases List.mem_append.1 hq with h1 | h1
    · exact own_apartS (h.data q h1) h.own (by decide) hg
    · obtain rfl := List.mem_singleton.1 h1
      exact own_apartS hp h.own (by decide) hg
  · rcases List.mem_append.1 hq with h1 | h1
    · exact h.rng q h1
    · obtain rfl := List.mem_singleton.1 h1
      exact hr
def Cel3 (g : Nat) (Tm Fl : Int) (v : Value) (W : World) : Prop := W.cell? ⟨g, 0, none⟩ = some (.int .i64 Tm) ∧ W.cell? ⟨g, 1, none⟩ = some (.int .i64 Fl) ∧ W.cell? ⟨g, 2, none⟩ = some v
theorem step_app_sz {P : Program} {ops : Array Oper} {o : Oper} {a : Act} {w : World} {Q : Exit → Act → World → Prop} {K : Act → World → Prop} {E : Prop} (hgd : o.guard = none) (s x : Operand) (t : TypeId) (hop : o.op = Op.call { callee := Callee.builtin Builtin.append, args := #[s, x], argTypes := #[t, t] }) {e : TypeId} {size bytes : Nat} (hE : ElS P t e size bytes) {base n m c : Nat} {v : Value} {xs news : List Value} {A : Option Addr} (hs : a.eval s = v) (hown : w.ownsRow base e size v n xs) (hx : a.eval x = .slice A m c) (hsrc : HoldsS w size A m news) (h1 : ∀ u ∈ news, u.oneCell' = true) (h63 : n + m ≤ maxLen) (hby : (n + m) * bytes ≤ 140737488355328) (hbase : base ≤ w.heap.size) (hA : A ≠ none)
    (hK : ∀ v' w', w'.ownsRow base e size v' (n + m) (xs ++ news) → w.grownBy w' v.ownBlock → K (a.put o.dst v') w') : if Region.wanted o (yielded ops a.tmps) = true then Oper.wp P o a w K Q else E := by
  obtain ⟨v', w', hrun, p1, p2⟩ := run_app_sz (ty := o.type) hE hown hsrc h1 h63 hby hbase hA
  exact step_run hgd s x t hop hs hx hrun (hK v' w' p1 p2)
theorem packs_zero (b : List UInt8) : packs b 0 = if b.length = 0 then some [] else none := rfl
theorem packs_succ (b : List UInt8) (n : Nat) : packs b (n + 1) = if b.length < 10 then none else if b.length < 10 + num ((b.take 10).drop 8) then none else if validP ⟨num (b.take 6), num ((b.take 8).drop 6), (b.take (10 + num ((b.take 10).drop 8))).drop 10⟩ = true then (packs (b.drop (10 + num ((b.take 10).drop 8))) n).map (⟨num (b.take 6), num ((b.take 8).drop 6), (b.take (10 + num ((b.take 10).drop 8))).drop 10⟩ :: ·) else none := rfl
/-- What packets returns. -/
def PackR (w : World) (o : Option (List Pk)) (e : Ending) (w' : World) : Prop :=
  Below w.heap.size w w' ∧ ((o = none ∧ e = .panicked [errV 6]) ∨ ∃ v ds, e = .returned v ∧ PO w.heap.size w' v ds ∧ o = some (pks ds))
/-- A round's new packet. -/
structure Reg6 (wo wx : World) (g : Nat) (Tm Fl : Int) (v : Value) (s : Nat) (ys : List UInt8) : Prop where
  below : Below wo.heap.size wo wx
  ge : wo.heap.size ≤ g
  blk : Blk wx g 31 #[.int .i64 Tm, .int .i64 Fl, v]
  own : wx.ownsRow wo.heap.size 5 1 v s (ys.map u8)
theorem Reg6.of {wo W : World} {g : Nat} {Tm Fl : Int} {v : Value} {s : Nat} {ys : List UInt8} (hb : Below wo.heap.size wo W) (hg : wo.heap.size ≤ g) (hk : Blk W g 31 #[.int .i64 0, .int .i64 0, .slice none 0 0]) (hd : W.ownsRow wo.heap.size 5 1 v s (ys.map u8)) : Reg6 wo (((W.setCell ⟨g, 0, none⟩ (.int .i64 Tm)).setCell ⟨g, 1, none⟩ (.int .i64 Fl)).setCell ⟨g, 2, none⟩ v) g Tm Fl v s ys := by
  have hon : Only (fun b => b = g) W (((W.setCell ⟨g, 0, none⟩ (.int .i64 Tm)).setCell ⟨g, 1, none⟩ (.int .i64 Fl)).setCell ⟨g, 2, none⟩ v) := Only.set (p := fun b => b = g) (Only.set (p := fun b => b = g) (Only.set (p := fun b => b = g) (Only.refl _ W) (fun _ => rfl) 0 _) (fun _ => rfl) 1 _) (fun _ => rfl) 2 _
  have hk2 := ((hk.set_ 0 (.int .i64 Tm)).set_ 1 (.int .i64 Fl)).set_ 2 v
  simp only [List.setIfInBounds_toArray, List.set_cons_zero, List.set_cons_succ] at hk2
  refine ⟨hb.trans (hon.to_below hb.size fun b hlt e => by omega), hg, hk2, own_only hd hon fun k hk3 e => ?_⟩
  subst e
  exact own_ne hd hk (by decide) hk3
theorem Reg6.of2 {wo W : World} {Tm Fl : Int} {v : Value} {s : Nat} {ys : List UInt8} (hb : Below wo.heap.size wo W) (hd : W.ownsRow wo.heap.size 5 1 v s (ys.map u8)) : Reg6 wo (W.alloc (.cells #[.int .i64 Tm, .int .i64 Fl, v] 31)) W.heap.size Tm Fl v s ys :=
  ⟨hb.alloc hb.size _, hb.size, Blk.new W 31 _, own_alloc hd⟩
/-- A round's state. -/
structure PackI (w wr : World) (lk : Option (List Pk)) (l : List UInt8) (r : Nat) (A : Option Addr) (n c : Nat) (v : Value) (ds : List Pd) : Prop where
  below : Below w.heap.size w wr
  rb : RB w A n c l
  po : PO w.heap.size wr v ds
  eq : lk = (packs l r).map (pks ds ++ ·)

set_option maxRecDepth 100000 in
set_option maxHeartbeats 8000000 in
theorem packets_any (A : Option Addr) (n c : Nat) (l : List UInt8) (k : Nat) (w : World) (h : RB w A n c l) (hn : n ≤ 10000) (hk : k ≤ 64) :
    Calls Try.prog 42 #[.slice A n c, .int .i64 (k : Int)] w (PackR w (packs l k)) := by
  obtain ⟨lk, hlk⟩ : ∃ lk, packs l k = lk := ⟨_, rfl⟩
  rw [hlk]
  have HI0 := Lib.hid (show PackI w w lk l k A n c (.slice none 0 0) [] from ⟨Below.refl _ _, h, PO.nil _ _, by rw [hlk]; simp [pks]⟩)
  have HN0 := Lib.hid hn
  have hk0 : (k : Int) ≤ 64 := by omega
  clear h hn hk hlk
  go_enter Try.func42, Try.ntmps42
  go_wp2_with fail
  go_loopw [8, 0, 4] (fun ii bb vv wr => ∃ (i : Nat) (A : Option Addr) (n c : Nat) (v : Value) (l : List UInt8) (ds : List Pd), (i : Int) ≤ k ∧ ii = .int .i64 i ∧ bb = .slice A n c ∧ v = vv ∧ Hid (n ≤ 10000 ∧ ds.length = i) ∧ Hid (PackI w wr lk l (k - i) A n c v ds)) (fun ii _ _ _ => k - (intOf ii).toNat)
  case atStart => exact ⟨0, _, _, _, _, _, [], by omega, rfl, rfl, rfl, Lib.hid ⟨HN0.out, rfl⟩, HI0⟩
  case round =>
    clear HI0 HN0
    obtain ⟨i, A, n, c, v, l, ds, hi, rfl, rfl, rfl, HN, HI⟩ := hrel
    have hi0 : (0 : Int) ≤ i := by omega
    have hn0 : (n : Int) ≤ 10000 := by have := HN.out; omega
    obtain ⟨wo, rfl⟩ : ∃ wo : World, wo = wr := ⟨_, rfl⟩
    have M1 := Lib.hid (must_yes 6)
    have M0 := Lib.hid (must_no 6)
    have HLN := Lib.hid HI.out.rb.len
    by_cases hlt : (i : Int) < k
    · obtain ⟨r, hr⟩ : ∃ r, k - i = r + 1 := ⟨k - i - 1, by omega⟩
      have HR := Lib.hid hr
      have HPE : Hid (lk = (packs l (r + 1)).map (pks ds ++ ·)) := Lib.hid (by rw [← hr]; exact HI.out.eq)
      clear hr
      by_cases h10 : (10 : Int) ≤ n
      case neg =>
        have q0 : decide ((10 : Int) ≤ n) = false := decide_eq_false h10
        have HF := Lib.hid (show lk = none by rw [HPE.out, packs_succ, if_pos (by rw [HLN.out]; omega)]; rfl)
        clear h10
        go_wp2_with (go_at_call 40; (with_reducible refine (M0.out _).mono ?_); rintro e w1 ⟨rfl, rfl⟩)
        exact ⟨rfl, HI.out.below, .inl ⟨HF.out, rfl⟩⟩
      case pos =>
      have q0 : decide ((10 : Int) ≤ n) = true := decide_eq_true h10
      obtain ⟨A0, c0, hs0, hr0, -⟩ := slice_in w A n c 8 10 l HI.out.rb (by omega) (by omega)
      have C41 := Lib.hid (number_any A0 2 c0 _ wo (hr0.below HI.out.below) (by omega))
      have hs0' : ∀ W' : World, (Instr.slice 23 (.slice A n c) (some (.int .i64 8)) (some (.int .i64 10)) none).run Try.prog W' = .ok (.slice A0 2 c0) W' := hs0
      obtain ⟨s, hs⟩ : ∃ s, num ((l.take 10).drop 8) = s := ⟨_, rfl⟩
      have hsl := num_lt ((l.take 10).drop 8)
      have hsl2 : ((l.take 10).drop 8).length = 2 := by rw [List.length_drop, List.length_take, HLN.out]; omega
      rw [hsl2, hs] at hsl
      rw [hs] at C41
      obtain ⟨X, hX⟩ : ∃ X : Int, (s : Int) = X := ⟨_, rfl⟩
      rw [hX] at C41
      have hX0 : 0 ≤ X := by omega
      have hX1 : X < 65536 := by omega
      have HS := Lib.hid hs
      have HX := Lib.hid hX
      have H10 := Lib.hid h10
      clear hs hsl hsl2 hX hs0 h10
      go_wp2_with (first | (go_at_call 40; (with_reducible refine (M1.out _).mono ?_); rintro e w1 ⟨rfl, rfl⟩; go_loud (refine Hid.out ?_)))
      refine Lib.hid ?_
      go_wp2_with (go_at_call 41; (with_reducible refine C41.out.mono ?_); rintro e w2 ⟨rfl, b2⟩; have HB2 := Lib.hid (HI.out.below.trans (b2.mono HI.out.below.size)); have HPO := Lib.hid (HI.out.po.below b2); clear b2; refine Hid.out ?_)
      refine Lib.hid ?_
      by_cases hE : 10 + X ≤ (n : Int)
      case neg =>
        have q1 : decide (10 + X ≤ (n : Int)) = false := decide_eq_false hE
        have HF := Lib.hid (show lk = none by rw [HPE.out, packs_succ, if_neg (by rw [HLN.out]; have := H10.out; omega), HS.out, if_pos (by rw [HLN.out]; have := HX.out; omega)]; rfl)
        clear hE
        go_wp2_with (go_at_call 40; (with_reducible refine (M0.out _).mono ?_); rintro e w1 ⟨rfl, rfl⟩)
        exact ⟨rfl, HB2.out, .inl ⟨HF.out, rfl⟩⟩
      case pos =>
      have q1 : decide (10 + X ≤ (n : Int)) = true := decide_eq_true hE
      have HPE2 : Hid (lk = (if validP ⟨num (l.take 6), num ((l.take 8).drop 6), (l.take (10 + s)).drop 10⟩ = true then (packs (l.drop (10 + s)) r).map ((⟨num (l.take 6), num ((l.take 8).drop 6), (l.take (10 + s)).drop 10⟩ : Pk) :: ·) else none).map (pks ds ++ ·)) := Lib.hid (by rw [HPE.out, packs_succ, if_neg (by rw [HLN.out]; have := H10.out; omega), HS.out, if_neg (by rw [HLN.out]; have := HX.out; omega)])
      obtain ⟨A1, c1, hs1, hr1, -⟩ := slice_to w A n c 6 l HI.out.rb (by have := H10.out; omega)
      obtain ⟨A2, c2, hs2, hr2, -⟩ := slice_in w A n c 6 8 l HI.out.rb (by omega) (by have := H10.out; omega)
      obtain ⟨A3, c3, hs3, hr3, -⟩ := slice_in3 w A n c 10 (10 + s) l HI.out.rb (by omega) (by have := HX.out; omega)
      obtain ⟨A5, c5, hs5, hr5, -⟩ := slice_from w A n c (10 + s) l HI.out.rb (by have := HX.out; omega)
      have e10 : 10 + s - 10 = s := by omega
      have eX : ((10 + s : Nat) : Int) = 10 + X := by have := HX.out; omega
      rw [e10] at hs3 hr3
      rw [eX] at hs3 hs5
      obtain ⟨n5, hn5⟩ : ∃ n5, n - (10 + s) = n5 := ⟨_, rfl⟩
      rw [hn5] at hs5 hr5
      have HN5 := Lib.hid (show n5 ≤ 10000 by have := HN.out; omega)
      have HS1 : Hid (∀ W' : World, (Instr.slice 23 (.slice A n c) none (some (.int .i64 6)) none).run Try.prog W' = .ok (.slice A1 6 c1) W') := Lib.hid hs1
      have HS2 : Hid (∀ W' : World, (Instr.slice 23 (.slice A n c) (some (.int .i64 6)) (some (.int .i64 8)) none).run Try.prog W' = .ok (.slice A2 2 c2) W') := Lib.hid hs2
      have HS3 : Hid (∀ W' : World, (Instr.slice 23 (.slice A n c) (some (.int .i64 10)) (some (.int .i64 (10 + X))) (some (.int .i64 (10 + X)))).run Try.prog W' = .ok (.slice A3 s c3) W') := Lib.hid hs3
      have HS5 : Hid (∀ W' : World, (Instr.slice 23 (.slice A n c) (some (.int .i64 (10 + X))) none none).run Try.prog W' = .ok (.slice A5 n5 c5) W') := Lib.hid hs5
      have HR5 := Lib.hid hr5
      obtain ⟨Tm, hTm⟩ : ∃ Tm : Int, (num (l.take 6) : Int) = Tm := ⟨_, rfl⟩
      obtain ⟨Fl, hFl⟩ : ∃ Fl : Int, (num ((l.take 8).drop 6) : Int) = Fl := ⟨_, rfl⟩
      have C41a := Lib.hid (fun (W : World) (hb : Below w2.heap.size w2 W) => number_any A1 6 c1 _ W ((hr1.below HB2.out).below hb) (by omega))
      have C41b := Lib.hid (fun (W : World) (hb : Below w2.heap.size w2 W) => number_any A2 2 c2 _ W ((hr2.below HB2.out).below hb) (by omega))
      have C49 := Lib.hid (fun (W : World) (hb : Below w2.heap.size w2 W) => clone_any A3 s c3 _ W (by have := HX.out; omega) ((hr3.below HB2.out).below hb))
      rw [hTm] at C41a
      rw [hFl] at C41b
      obtain ⟨ys, hys⟩ : ∃ ys, (l.take (10 + s)).drop 10 = ys := ⟨_, rfl⟩
      rw [hys] at C49 HPE2
      have hysl : ys.length = s := by rw [← hys]; exact hr3.len
      have HYL := Lib.hid hysl
      have hT1 := num_lt (l.take 6)
      have hF1 := num_lt ((l.take 8).drop 6)
      have hT2 : (l.take 6).length = 6 := hr1.len
      have hF2 : ((l.take 8).drop 6).length = 2 := hr2.len
      rw [hT2] at hT1
      rw [hF2] at hF1
      have HTM := Lib.hid (show 0 ≤ Tm ∧ Tm < 281474976710656 by omega)
      have HFL := Lib.hid (show 0 ≤ Fl ∧ Fl < 65536 by omega)
      have hpk : (⟨num (l.take 6), num ((l.take 8).drop 6), ys⟩ : Pk) = ⟨Tm, Fl, ys⟩ := by rw [hTm, hFl]
      rw [hpk] at HPE2
      have HH := Lib.hid (And.intro hi0 (And.intro hlt (And.intro hn0 (And.intro hX0 (And.intro hX1 (And.intro hE hk0))))))
      clear hs1 hs2 hs3 hs5 hr1 hr2 hr3 hr5 hr0 e10 eX hn5 hTm hFl hys hysl hT1 hT2 hF1 hF2 hpk
      go_wp2_with (first | (go_at_call 40; (with_reducible refine (M1.out _).mono ?_); rintro e w1 ⟨rfl, rfl⟩; refine Hid.out ?_))
      refine Lib.hid ?_
      go_upto_region 6 with fail
      clear hi0 hlt hn0 hX0 hX1 hE hk0 hi
      go_cut [6] from 9 to 44 (fun p6 wx => ∃ (g : Nat) (A6 : Option Addr) (c6 : Nat), p6 = .pointer (some ⟨g, 0, none⟩) ∧ Hid (Reg6 w1 wx g Tm Fl (.slice A6 s c6) s ys))
      case first =>
        have HBc := Lib.hid (below_drew (Below.refl w1.heap.size w1))
        refine wp_region_G (S0 := (fun _ => True)) (S1 := (fun _ => True)) (c := 99) (by kernel_rfl) ?_
        have hHeld := trivial
        have h01 := (fun (W : World) (h : (fun _ => True) W) => h)
        refine wpG_takeB (i := 0) (oi := ⟨some 23, _, _, _, _, _⟩) (v := .slice A n c) rfl (by kernel_rfl) (by kernel_rfl) (by kernel_rfl) (by decide) (fun _ _ _ h => h) h01 rfl hHeld (Or.inl ⟨by rfl, ?_⟩) ?_
        · (intro W9 hSw; have g1 := HS1.out; have g2 := HS2.out; have g3 := HS3.out; go_simp; (try (first | with_reducible rfl | rfl | (exact HS1.out _) | (exact HS2.out _) | (exact HS3.out _) | (simp; done))))
        try simp only [Act.put, List.setIfInBounds_toArray, List.set_cons_zero, List.set_cons_succ]
        refine wpG_takeB (i := 1) (oi := ⟨some 24, _, _, _, _, _⟩) (v := .slice A1 6 c1) rfl (by kernel_rfl) (by kernel_rfl) (by kernel_rfl) (by decide) (fun _ _ _ h => h) h01 rfl hHeld (Or.inl ⟨by rfl, ?_⟩) ?_
        · (intro W9 hSw; have g1 := HS1.out; have g2 := HS2.out; have g3 := HS3.out; go_simp; (try (first | with_reducible rfl | rfl | (exact HS1.out _) | (exact HS2.out _) | (exact HS3.out _) | (simp; done))))
        try simp only [Act.put, List.setIfInBounds_toArray, List.set_cons_zero, List.set_cons_succ]
        refine wpG_takeB (i := 3) (oi := ⟨some 26, _, _, _, _, _⟩) (v := .slice A n c) rfl (by kernel_rfl) (by kernel_rfl) (by kernel_rfl) (by decide) (fun _ _ _ h => h) h01 rfl hHeld (Or.inl ⟨by rfl, ?_⟩) ?_
        · (intro W9 hSw; have g1 := HS1.out; have g2 := HS2.out; have g3 := HS3.out; go_simp; (try (first | with_reducible rfl | rfl | (exact HS1.out _) | (exact HS2.out _) | (exact HS3.out _) | (simp; done))))
        try simp only [Act.put, List.setIfInBounds_toArray, List.set_cons_zero, List.set_cons_succ]
        refine wpG_takeB (i := 4) (oi := ⟨some 27, _, _, _, _, _⟩) (v := .slice A2 2 c2) rfl (by kernel_rfl) (by kernel_rfl) (by kernel_rfl) (by decide) (fun _ _ _ h => h) h01 rfl hHeld (Or.inl ⟨by rfl, ?_⟩) ?_
        · (intro W9 hSw; have g1 := HS1.out; have g2 := HS2.out; have g3 := HS3.out; go_simp; (try (first | with_reducible rfl | rfl | (exact HS1.out _) | (exact HS2.out _) | (exact HS3.out _) | (simp; done))))
        try simp only [Act.put, List.setIfInBounds_toArray, List.set_cons_zero, List.set_cons_succ]
        refine wpG_takeB (i := 6) (oi := ⟨some 29, _, _, _, _, _⟩) (v := .slice A n c) rfl (by kernel_rfl) (by kernel_rfl) (by kernel_rfl) (by decide) (fun _ _ _ h => h) h01 rfl hHeld (Or.inl ⟨by rfl, ?_⟩) ?_
        · (intro W9 hSw; have g1 := HS1.out; have g2 := HS2.out; have g3 := HS3.out; go_simp; (try (first | with_reducible rfl | rfl | (exact HS1.out _) | (exact HS2.out _) | (exact HS3.out _) | (simp; done))))
        try simp only [Act.put, List.setIfInBounds_toArray, List.set_cons_zero, List.set_cons_succ]
        refine wpG_takeB (i := 7) (oi := ⟨some 30, _, _, _, _, _⟩) (v := .int .i64 (10 + X)) rfl (by kernel_rfl) (by kernel_rfl) (by kernel_rfl) (by decide) (fun _ _ _ h => h) h01 rfl hHeld (Or.inl ⟨by rfl, ?_⟩) ?_
        · (intro W9 hSw; have g1 := HS1.out; have g2 := HS2.out; have g3 := HS3.out; go_simp; (try (first | with_reducible rfl | rfl | (exact HS1.out _) | (exact HS2.out _) | (exact HS3.out _) | (simp; done))))
        try simp only [Act.put, List.setIfInBounds_toArray, List.set_cons_zero, List.set_cons_succ]
        refine wpG_takeB (i := 8) (oi := ⟨some 31, _, _, _, _, _⟩) (v := .int .i64 (10 + X)) rfl (by kernel_rfl) (by kernel_rfl) (by kernel_rfl) (by decide) (fun _ _ _ h => h) h01 rfl hHeld (Or.inl ⟨by rfl, ?_⟩) ?_
        · (intro W9 hSw; have g1 := HS1.out; have g2 := HS2.out; have g3 := HS3.out; go_simp; (try (first | with_reducible rfl | rfl | (exact HS1.out _) | (exact HS2.out _) | (exact HS3.out _) | (simp; done))))
        try simp only [Act.put, List.setIfInBounds_toArray, List.set_cons_zero, List.set_cons_succ]
        refine wpG_takeB (i := 9) (oi := ⟨some 32, _, _, _, _, _⟩) (v := .slice A3 s c3) rfl (by kernel_rfl) (by kernel_rfl) (by kernel_rfl) (by decide) (fun _ _ _ h => h) h01 rfl hHeld (Or.inl ⟨by rfl, ?_⟩) ?_
        · (intro W9 hSw; have g1 := HS1.out; have g2 := HS2.out; have g3 := HS3.out; go_simp; (try (first | with_reducible rfl | rfl | (exact HS1.out _) | (exact HS2.out _) | (exact HS3.out _) | (simp; done))))
        try simp only [Act.put, List.setIfInBounds_toArray, List.set_cons_zero, List.set_cons_succ]
        refine wpG_twoB (i := 2) (j := 12) (oi := ⟨some 25, _, _, _, _, _⟩) (oj := ⟨some 6, _, _, _, _, _⟩) (by kernel_rfl) rfl rfl rfl rfl (fun K hK => ?_) (fun K hK => ?_)
        · go_simp
          (with_reducible refine (C41a.out _ HBc.out).mono ?_); rintro e w2 ⟨rfl, b2⟩
          have hbn := b2
          have HBp := HBc
          have HBc := Lib.hid (HBp.out.trans (hbn.mono HBp.out.size))
          (try have HKc := Lib.hid (HKc.out.below hbn HKc.out.lt))
          (try have HDc := Lib.hid (own_keeps HDc.out fun g hg => hbn.block g (own_lt HDc.out g hg)))
          clear hbn
          clear b2
          refine hK.out _ _ trivial (fun hHeld => ?_)
          clear hK K
          try simp only [Act.put, List.setIfInBounds_toArray, List.set_cons_zero, List.set_cons_succ]
          refine wpG_twoB (i := 5) (j := 12) (oi := ⟨some 28, _, _, _, _, _⟩) (oj := ⟨some 6, _, _, _, _, _⟩) (by kernel_rfl) rfl rfl rfl rfl (fun K hK => ?_) (fun K hK => ?_)
          · go_simp
            (with_reducible refine (C41b.out _ HBc.out).mono ?_); rintro e w5 ⟨rfl, b5⟩
            have hbn := b5
            have HBp := HBc
            have HBc := Lib.hid (HBp.out.trans (hbn.mono HBp.out.size))
            (try have HKc := Lib.hid (HKc.out.below hbn HKc.out.lt))
            (try have HDc := Lib.hid (own_keeps HDc.out fun g hg => hbn.block g (own_lt HDc.out g hg)))
            clear hbn
            clear b5
            refine hK.out _ _ trivial (fun hHeld => ?_)
            clear hK K
            try simp only [Act.put, List.setIfInBounds_toArray, List.set_cons_zero, List.set_cons_succ]
            refine wpG_twoB (i := 10) (j := 12) (oi := ⟨some 33, _, _, _, _, _⟩) (oj := ⟨some 6, _, _, _, _, _⟩) (by kernel_rfl) rfl rfl rfl rfl (fun K hK => ?_) (fun K hK => ?_)
            · go_simp
              (with_reducible refine (C49.out _ HBc.out).mono ?_); rintro e w10 ⟨v10, rfl, o10, b10⟩
              rw [HYL.out] at o10
              obtain ⟨A6, c6, rfl, -⟩ := own_form o10
              have hbn := b10
              have HBp := HBc
              have HBc := Lib.hid (HBp.out.trans (hbn.mono HBp.out.size))
              (try have HKc := Lib.hid (HKc.out.below hbn HKc.out.lt))
              (try have HDc := Lib.hid (own_keeps HDc.out fun g hg => hbn.block g (own_lt HDc.out g hg)))
              clear hbn
              have HDc := Lib.hid (own_base o10 HBp.out.size)
              clear o10 b10
              refine hK.out _ _ trivial (fun hHeld => ?_)
              clear hK K
              try simp only [Act.put, List.setIfInBounds_toArray, List.set_cons_zero, List.set_cons_succ]
              refine wpG_takeB (i := 11) (oi := ⟨some 34, _, _, _, _, _⟩) (v := .agg #[.int .i64 Tm, .int .i64 Fl, .slice A6 s c6]) rfl (by kernel_rfl) (by kernel_rfl) (by kernel_rfl) (by decide) (fun _ _ _ h => h) h01 rfl hHeld (Or.inl ⟨by rfl, ?_⟩) ?_
              · (intro W9 hSw; have g1 := HS1.out; have g2 := HS2.out; have g3 := HS3.out; go_simp; (try (first | with_reducible rfl | rfl | (exact HS1.out _) | (exact HS2.out _) | (exact HS3.out _) | (simp; done))))
              try simp only [Act.put, List.setIfInBounds_toArray, List.set_cons_zero, List.set_cons_succ]
              refine wpG_oneB (i := 12) (o := ⟨some 6, _, _, _, _, _⟩) (by kernel_rfl) rfl rfl (fun K hK => ?_)
              go_simp
              have hbn : Below w10.heap.size w10 (w10.alloc (.cells #[.int .i64 0, .int .i64 0, .slice none 0 0] 31)) := (Below.refl w10.heap.size w10).alloc (Nat.le_refl _) (.cells #[.int .i64 0, .int .i64 0, .slice none 0 0] 31)
              have HKc : Hid (Blk (w10.alloc (.cells #[.int .i64 0, .int .i64 0, .slice none 0 0] 31)) w10.heap.size 31 #[.int .i64 0, .int .i64 0, .slice none 0 0]) := Lib.hid (Blk.new w10 31 #[.int .i64 0, .int .i64 0, .slice none 0 0])
              have HGc := Lib.hid HBc.out.size
              (try have HDp := HDc)
              (try have HDc := Lib.hid (own_keeps HDc.out fun g hg => hbn.block g (own_lt HDc.out g hg)))
              have HBp := HBc
              have HBc := Lib.hid (HBp.out.trans (hbn.mono HBp.out.size))
              clear hbn
              refine hK.out _ _ trivial (fun hHeld => ?_)
              clear hK K
              try simp only [Act.put, List.setIfInBounds_toArray, List.set_cons_zero, List.set_cons_succ]
              refine wpG_oneB (i := 13) (o := ⟨none, _, _, _, _, _⟩) (by kernel_rfl) rfl rfl (fun K hK => ?_)
              have kq0 := HKc.out.cell 0
              have kq1 := HKc.out.cell 1
              have kq2 := HKc.out.cell 2
              simp at kq0 kq1 kq2
              have z0 := HKc.out.frozen 0
              have z1 := HKc.out.frozen 1
              have z2 := HKc.out.frozen 2
              go_simp
              clear kq0 kq1 kq2 z0 z1 z2
              have HF := Lib.hid (Reg6.of (Tm := Tm) (Fl := Fl) HBc.out HGc.out HKc.out HDc.out)
              refine hK.out _ _ trivial (fun hHeld => ?_)
              clear hK K
              try simp only [Act.put, List.setIfInBounds_toArray, List.set_cons_zero, List.set_cons_succ]
              refine wpG_done (by kernel_rfl) ?_ _
              go_wp2_with fail
              go_meet
              first | exact ⟨_, _, _, rfl, HF⟩ | exact ⟨_, _, _, rfl, Lib.hid (Reg6.of2 HBp.out HDp.out)⟩
            · go_simp
              have hbn : Below w5.heap.size w5 (w5.alloc (.cells #[.int .i64 0, .int .i64 0, .slice none 0 0] 31)) := (Below.refl w5.heap.size w5).alloc (Nat.le_refl _) (.cells #[.int .i64 0, .int .i64 0, .slice none 0 0] 31)
              have HKc : Hid (Blk (w5.alloc (.cells #[.int .i64 0, .int .i64 0, .slice none 0 0] 31)) w5.heap.size 31 #[.int .i64 0, .int .i64 0, .slice none 0 0]) := Lib.hid (Blk.new w5 31 #[.int .i64 0, .int .i64 0, .slice none 0 0])
              have HGc := Lib.hid HBc.out.size
              (try have HDp := HDc)
              (try have HDc := Lib.hid (own_keeps HDc.out fun g hg => hbn.block g (own_lt HDc.out g hg)))
              have HBp := HBc
              have HBc := Lib.hid (HBp.out.trans (hbn.mono HBp.out.size))
              clear hbn
              refine hK.out _ _ trivial (fun hHeld => ?_)
              clear hK K
              try simp only [Act.put, List.setIfInBounds_toArray, List.set_cons_zero, List.set_cons_succ]
              refine wpG_oneB (i := 10) (o := ⟨some 33, _, _, _, _, _⟩) (by kernel_rfl) rfl rfl (fun K hK => ?_)
              go_simp
              (with_reducible refine (C49.out _ HBc.out).mono ?_); rintro e w10 ⟨v10, rfl, o10, b10⟩
              rw [HYL.out] at o10
              obtain ⟨A6, c6, rfl, -⟩ := own_form o10
              have hbn := b10
              have HBp := HBc
              have HBc := Lib.hid (HBp.out.trans (hbn.mono HBp.out.size))
              (try have HKc := Lib.hid (HKc.out.below hbn HKc.out.lt))
              (try have HDc := Lib.hid (own_keeps HDc.out fun g hg => hbn.block g (own_lt HDc.out g hg)))
              clear hbn
              have HDc := Lib.hid (own_base o10 HBp.out.size)
              clear o10 b10
              refine hK.out _ _ trivial (fun hHeld => ?_)
              clear hK K
              try simp only [Act.put, List.setIfInBounds_toArray, List.set_cons_zero, List.set_cons_succ]
              refine wpG_takeB (i := 11) (oi := ⟨some 34, _, _, _, _, _⟩) (v := .agg #[.int .i64 Tm, .int .i64 Fl, .slice A6 s c6]) rfl (by kernel_rfl) (by kernel_rfl) (by kernel_rfl) (by decide) (fun _ _ _ h => h) h01 rfl hHeld (Or.inl ⟨by rfl, ?_⟩) ?_
              · (intro W9 hSw; have g1 := HS1.out; have g2 := HS2.out; have g3 := HS3.out; go_simp; (try (first | with_reducible rfl | rfl | (exact HS1.out _) | (exact HS2.out _) | (exact HS3.out _) | (simp; done))))
              try simp only [Act.put, List.setIfInBounds_toArray, List.set_cons_zero, List.set_cons_succ]
              refine wpG_oneB (i := 13) (o := ⟨none, _, _, _, _, _⟩) (by kernel_rfl) rfl rfl (fun K hK => ?_)
              have kq0 := HKc.out.cell 0
              have kq1 := HKc.out.cell 1
              have kq2 := HKc.out.cell 2
              simp at kq0 kq1 kq2
              have z0 := HKc.out.frozen 0
              have z1 := HKc.out.frozen 1
              have z2 := HKc.out.frozen 2
              go_simp
              clear kq0 kq1 kq2 z0 z1 z2
              have HF := Lib.hid (Reg6.of (Tm := Tm) (Fl := Fl) HBc.out HGc.out HKc.out HDc.out)
              refine hK.out _ _ trivial (fun hHeld => ?_)
              clear hK K
              try simp only [Act.put, List.setIfInBounds_toArray, List.set_cons_zero, List.set_cons_succ]
              refine wpG_done (by kernel_rfl) ?_ _
              go_wp2_with fail
              go_meet
              first | exact ⟨_, _, _, rfl, HF⟩ | exact ⟨_, _, _, rfl, Lib.hid (Reg6.of2 HBp.out HDp.out)⟩
          · go_simp
            have hbn : Below w2.heap.size w2 (w2.alloc (.cells #[.int .i64 0, .int .i64 0, .slice none 0 0] 31)) := (Below.refl w2.heap.size w2).alloc (Nat.le_refl _) (.cells #[.int .i64 0, .int .i64 0, .slice none 0 0] 31)
            have HKc : Hid (Blk (w2.alloc (.cells #[.int .i64 0, .int .i64 0, .slice none 0 0] 31)) w2.heap.size 31 #[.int .i64 0, .int .i64 0, .slice none 0 0]) := Lib.hid (Blk.new w2 31 #[.int .i64 0, .int .i64 0, .slice none 0 0])
            have HGc := Lib.hid HBc.out.size
            (try have HDp := HDc)
            (try have HDc := Lib.hid (own_keeps HDc.out fun g hg => hbn.block g (own_lt HDc.out g hg)))
            have HBp := HBc
            have HBc := Lib.hid (HBp.out.trans (hbn.mono HBp.out.size))
            clear hbn
            refine hK.out _ _ trivial (fun hHeld => ?_)
            clear hK K
            try simp only [Act.put, List.setIfInBounds_toArray, List.set_cons_zero, List.set_cons_succ]
            refine wpG_oneB (i := 5) (o := ⟨some 28, _, _, _, _, _⟩) (by kernel_rfl) rfl rfl (fun K hK => ?_)
            go_simp
            (with_reducible refine (C41b.out _ HBc.out).mono ?_); rintro e w5 ⟨rfl, b5⟩
            have hbn := b5
            have HBp := HBc
            have HBc := Lib.hid (HBp.out.trans (hbn.mono HBp.out.size))
            (try have HKc := Lib.hid (HKc.out.below hbn HKc.out.lt))
            (try have HDc := Lib.hid (own_keeps HDc.out fun g hg => hbn.block g (own_lt HDc.out g hg)))
            clear hbn
            clear b5
            refine hK.out _ _ trivial (fun hHeld => ?_)
            clear hK K
            try simp only [Act.put, List.setIfInBounds_toArray, List.set_cons_zero, List.set_cons_succ]
            refine wpG_oneB (i := 10) (o := ⟨some 33, _, _, _, _, _⟩) (by kernel_rfl) rfl rfl (fun K hK => ?_)
            go_simp
            (with_reducible refine (C49.out _ HBc.out).mono ?_); rintro e w10 ⟨v10, rfl, o10, b10⟩
            rw [HYL.out] at o10
            obtain ⟨A6, c6, rfl, -⟩ := own_form o10
            have hbn := b10
            have HBp := HBc
            have HBc := Lib.hid (HBp.out.trans (hbn.mono HBp.out.size))
            (try have HKc := Lib.hid (HKc.out.below hbn HKc.out.lt))
            (try have HDc := Lib.hid (own_keeps HDc.out fun g hg => hbn.block g (own_lt HDc.out g hg)))
            clear hbn
            have HDc := Lib.hid (own_base o10 HBp.out.size)
            clear o10 b10
            refine hK.out _ _ trivial (fun hHeld => ?_)
            clear hK K
            try simp only [Act.put, List.setIfInBounds_toArray, List.set_cons_zero, List.set_cons_succ]
            refine wpG_takeB (i := 11) (oi := ⟨some 34, _, _, _, _, _⟩) (v := .agg #[.int .i64 Tm, .int .i64 Fl, .slice A6 s c6]) rfl (by kernel_rfl) (by kernel_rfl) (by kernel_rfl) (by decide) (fun _ _ _ h => h) h01 rfl hHeld (Or.inl ⟨by rfl, ?_⟩) ?_
            · (intro W9 hSw; have g1 := HS1.out; have g2 := HS2.out; have g3 := HS3.out; go_simp; (try (first | with_reducible rfl | rfl | (exact HS1.out _) | (exact HS2.out _) | (exact HS3.out _) | (simp; done))))
            try simp only [Act.put, List.setIfInBounds_toArray, List.set_cons_zero, List.set_cons_succ]
            refine wpG_oneB (i := 13) (o := ⟨none, _, _, _, _, _⟩) (by kernel_rfl) rfl rfl (fun K hK => ?_)
            have kq0 := HKc.out.cell 0
            have kq1 := HKc.out.cell 1
            have kq2 := HKc.out.cell 2
            simp at kq0 kq1 kq2
            have z0 := HKc.out.frozen 0
            have z1 := HKc.out.frozen 1
            have z2 := HKc.out.frozen 2
            go_simp
            clear kq0 kq1 kq2 z0 z1 z2
            have HF := Lib.hid (Reg6.of (Tm := Tm) (Fl := Fl) HBc.out HGc.out HKc.out HDc.out)
            refine hK.out _ _ trivial (fun hHeld => ?_)
            clear hK K
            try simp only [Act.put, List.setIfInBounds_toArray, List.set_cons_zero, List.set_cons_succ]
            refine wpG_done (by kernel_rfl) ?_ _
            go_wp2_with fail
            go_meet
            first | exact ⟨_, _, _, rfl, HF⟩ | exact ⟨_, _, _, rfl, Lib.hid (Reg6.of2 HBp.out HDp.out)⟩
        · go_simp
          have hbn : Below (w1.drew).heap.size (w1.drew) ((w1.alloc (.cells #[.int .i64 0, .int .i64 0, .slice none 0 0] 31)).drew) := (Below.refl (w1.drew).heap.size (w1.drew)).alloc (Nat.le_refl _) (.cells #[.int .i64 0, .int .i64 0, .slice none 0 0] 31)
          have HKc : Hid (Blk ((w1.alloc (.cells #[.int .i64 0, .int .i64 0, .slice none 0 0] 31)).drew) w1.heap.size 31 #[.int .i64 0, .int .i64 0, .slice none 0 0]) := Lib.hid (Blk.new (w1.drew) 31 #[.int .i64 0, .int .i64 0, .slice none 0 0])
          have HGc := Lib.hid HBc.out.size
          (try have HDp := HDc)
          (try have HDc := Lib.hid (own_keeps HDc.out fun g hg => hbn.block g (own_lt HDc.out g hg)))
          have HBp := HBc
          have HBc := Lib.hid (HBp.out.trans (hbn.mono HBp.out.size))
          clear hbn
          refine hK.out _ _ trivial (fun hHeld => ?_)
          clear hK K
          try simp only [Act.put, List.setIfInBounds_toArray, List.set_cons_zero, List.set_cons_succ]
          refine wpG_oneB (i := 2) (o := ⟨some 25, _, _, _, _, _⟩) (by kernel_rfl) rfl rfl (fun K hK => ?_)
          go_simp
          (with_reducible refine (C41a.out _ HBc.out).mono ?_); rintro e w2 ⟨rfl, b2⟩
          have hbn := b2
          have HBp := HBc
          have HBc := Lib.hid (HBp.out.trans (hbn.mono HBp.out.size))
          (try have HKc := Lib.hid (HKc.out.below hbn HKc.out.lt))
          (try have HDc := Lib.hid (own_keeps HDc.out fun g hg => hbn.block g (own_lt HDc.out g hg)))
          clear hbn
          clear b2
          refine hK.out _ _ trivial (fun hHeld => ?_)
          clear hK K
          try simp only [Act.put, List.setIfInBounds_toArray, List.set_cons_zero, List.set_cons_succ]
          refine wpG_oneB (i := 5) (o := ⟨some 28, _, _, _, _, _⟩) (by kernel_rfl) rfl rfl (fun K hK => ?_)
          go_simp
          (with_reducible refine (C41b.out _ HBc.out).mono ?_); rintro e w5 ⟨rfl, b5⟩
          have hbn := b5
          have HBp := HBc
          have HBc := Lib.hid (HBp.out.trans (hbn.mono HBp.out.size))
          (try have HKc := Lib.hid (HKc.out.below hbn HKc.out.lt))
          (try have HDc := Lib.hid (own_keeps HDc.out fun g hg => hbn.block g (own_lt HDc.out g hg)))
          clear hbn
          clear b5
          refine hK.out _ _ trivial (fun hHeld => ?_)
          clear hK K
          try simp only [Act.put, List.setIfInBounds_toArray, List.set_cons_zero, List.set_cons_succ]
          refine wpG_oneB (i := 10) (o := ⟨some 33, _, _, _, _, _⟩) (by kernel_rfl) rfl rfl (fun K hK => ?_)
          go_simp
          (with_reducible refine (C49.out _ HBc.out).mono ?_); rintro e w10 ⟨v10, rfl, o10, b10⟩
          rw [HYL.out] at o10
          obtain ⟨A6, c6, rfl, -⟩ := own_form o10
          have hbn := b10
          have HBp := HBc
          have HBc := Lib.hid (HBp.out.trans (hbn.mono HBp.out.size))
          (try have HKc := Lib.hid (HKc.out.below hbn HKc.out.lt))
          (try have HDc := Lib.hid (own_keeps HDc.out fun g hg => hbn.block g (own_lt HDc.out g hg)))
          clear hbn
          have HDc := Lib.hid (own_base o10 HBp.out.size)
          clear o10 b10
          refine hK.out _ _ trivial (fun hHeld => ?_)
          clear hK K
          try simp only [Act.put, List.setIfInBounds_toArray, List.set_cons_zero, List.set_cons_succ]
          refine wpG_takeB (i := 11) (oi := ⟨some 34, _, _, _, _, _⟩) (v := .agg #[.int .i64 Tm, .int .i64 Fl, .slice A6 s c6]) rfl (by kernel_rfl) (by kernel_rfl) (by kernel_rfl) (by decide) (fun _ _ _ h => h) h01 rfl hHeld (Or.inl ⟨by rfl, ?_⟩) ?_
          · (intro W9 hSw; have g1 := HS1.out; have g2 := HS2.out; have g3 := HS3.out; go_simp; (try (first | with_reducible rfl | rfl | (exact HS1.out _) | (exact HS2.out _) | (exact HS3.out _) | (simp; done))))
          try simp only [Act.put, List.setIfInBounds_toArray, List.set_cons_zero, List.set_cons_succ]
          refine wpG_oneB (i := 13) (o := ⟨none, _, _, _, _, _⟩) (by kernel_rfl) rfl rfl (fun K hK => ?_)
          have kq0 := HKc.out.cell 0
          have kq1 := HKc.out.cell 1
          have kq2 := HKc.out.cell 2
          simp at kq0 kq1 kq2
          have z0 := HKc.out.frozen 0
          have z1 := HKc.out.frozen 1
          have z2 := HKc.out.frozen 2
          go_simp
          clear kq0 kq1 kq2 z0 z1 z2
          have HF := Lib.hid (Reg6.of (Tm := Tm) (Fl := Fl) HBc.out HGc.out HKc.out HDc.out)
          refine hK.out _ _ trivial (fun hHeld => ?_)
          clear hK K
          try simp only [Act.put, List.setIfInBounds_toArray, List.set_cons_zero, List.set_cons_succ]
          refine wpG_done (by kernel_rfl) ?_ _
          go_wp2_with fail
          go_meet
          first | exact ⟨_, _, _, rfl, HF⟩ | exact ⟨_, _, _, rfl, Lib.hid (Reg6.of2 HBp.out HDp.out)⟩
      case rest =>
        obtain ⟨g, A6, c6, rfl, HG⟩ := hcut
        have HPO3 := Lib.hid (HPO.out.below HG.out.below)
        have HB3 := Lib.hid (HB2.out.trans (HG.out.below.mono HB2.out.size))
        have HC := Lib.hid (show Cel3 g Tm Fl (.slice A6 s c6) wc.drew from ⟨HG.out.blk.cell 0, HG.out.blk.cell 1, HG.out.blk.cell 2⟩)
        have HDL := Lib.hid (show ds.length ≤ 64 by have := HN.out.2; have := HH.out.2.1; have := HH.out.2.2.2.2.2.2; omega)
        have HVG := Lib.hid (show ∀ q, v.ownBlock = some q → q < g from fun q hq => Nat.lt_of_lt_of_le (own_lt HPO.out.own q hq) HG.out.ge)
        go_upto_region 7 with fail
        refine wp_region_G (S0 := (Cel3 g Tm Fl (.slice A6 s c6))) (S1 := (fun _ => True)) (c := 2) (by kernel_rfl) ?_
        have hHeld := HC.out
        have h01 := (fun (W : World) (h : (Cel3 g Tm Fl (.slice A6 s c6)) W) => trivial)
        refine wpG_takeA (i := 0) (oi := ⟨some 35, _, _, _, _, _⟩) (v := v) rfl (by kernel_rfl) (by kernel_rfl) (by kernel_rfl) (by decide) (fun _ _ _ h => h) h01 rfl hHeld (Or.inl ⟨by rfl, ?_⟩) ?_
        · (intro W9 hSw; have g5 := HS5.out; go_simp; (try (first | with_reducible rfl | rfl | (exact HS1.out _) | (exact HS2.out _) | (exact HS3.out _) | (simp; done))))
        try simp only [Act.put, List.setIfInBounds_toArray, List.set_cons_zero, List.set_cons_succ]
        refine wpG_take0 (i := 1) (oi := ⟨some 36, _, _, _, _, _⟩) (v := .agg #[.int .i64 Tm, .int .i64 Fl, .slice A6 s c6]) rfl (by kernel_rfl) (by kernel_rfl) (by kernel_rfl) (by decide) (by kernel_rfl) (fun _ _ _ h => h) rfl hHeld (Or.inl ⟨by rfl, ?_⟩) ?_
        · (intro W9 hSw; obtain ⟨q1, q2, q3⟩ := hSw; go_simp; (try (first | with_reducible rfl | rfl | (exact HS1.out _) | (exact HS2.out _) | (exact HS3.out _) | (simp; done))))
        try simp only [Act.put, List.setIfInBounds_toArray, List.set_cons_zero, List.set_cons_succ]
        refine wpG_takeA (i := 4) (oi := ⟨some 39, _, _, _, _, _⟩) (v := .slice A n c) rfl (by kernel_rfl) (by kernel_rfl) (by kernel_rfl) (by decide) (fun _ _ _ h => h) h01 rfl hHeld (Or.inl ⟨by rfl, ?_⟩) ?_
        · (intro W9 hSw; have g5 := HS5.out; go_simp; (try (first | with_reducible rfl | rfl | (exact HS1.out _) | (exact HS2.out _) | (exact HS3.out _) | (simp; done))))
        try simp only [Act.put, List.setIfInBounds_toArray, List.set_cons_zero, List.set_cons_succ]
        refine wpG_takeA (i := 5) (oi := ⟨some 40, _, _, _, _, _⟩) (v := .int .i64 (10 + X)) rfl (by kernel_rfl) (by kernel_rfl) (by kernel_rfl) (by decide) (fun _ _ _ h => h) h01 rfl hHeld (Or.inl ⟨by rfl, ?_⟩) ?_
        · (intro W9 hSw; have g5 := HS5.out; go_simp; (try (first | with_reducible rfl | rfl | (exact HS1.out _) | (exact HS2.out _) | (exact HS3.out _) | (simp; done))))
        try simp only [Act.put, List.setIfInBounds_toArray, List.set_cons_zero, List.set_cons_succ]
        refine wpG_takeA (i := 6) (oi := ⟨some 41, _, _, _, _, _⟩) (v := .slice A5 n5 c5) rfl (by kernel_rfl) (by kernel_rfl) (by kernel_rfl) (by decide) (fun _ _ _ h => h) h01 rfl hHeld (Or.inl ⟨by rfl, ?_⟩) ?_
        · (intro W9 hSw; have g5 := HS5.out; go_simp; (try (first | with_reducible rfl | rfl | (exact HS1.out _) | (exact HS2.out _) | (exact HS3.out _) | (simp; done))))
        try simp only [Act.put, List.setIfInBounds_toArray, List.set_cons_zero, List.set_cons_succ]
        refine wpG_oneB (i := 2) (o := ⟨some 37, _, _, _, _, _⟩) (by kernel_rfl) rfl rfl (fun K hK => ?_)
        go_simp
        refine hK.out _ _ trivial (fun hHeld => ?_)
        clear hK K
        try simp only [Act.put, List.setIfInBounds_toArray, List.set_cons_zero, List.set_cons_succ]
        refine wpG_oneB (i := 3) (o := ⟨some 38, _, _, _, _, _⟩) (by kernel_rfl) rfl rfl (fun K hK => ?_)
        refine step_app_sz (base := w.heap.size) (n := ds.length) (m := 1) (xs := ds.flatMap Pd.cells) (news := [.int .i64 Tm, .int .i64 Fl, .slice A6 s c6]) rfl (.tmp 35) (.tmp 37) 22 rfl elP rfl (own_drew (own_alloc HPO3.out.own)) rfl (HoldsS.new _ 3 1 [.int .i64 Tm, .int .i64 Fl, .slice A6 s c6] 31 rfl) (by simp [Value.oneCell']) (by have := HDL.out; unfold maxLen; omega) (by have := HDL.out; omega) (by have := HB3.out.size; simp; omega) (by simp) ?_
        intro v9 w9 hown hg
        have HO9 := Lib.hid hown
        have HG9 := Lib.hid hg
        clear hown hg
        refine hK.out _ _ trivial (fun hHeld => ?_)
        clear hK K
        try simp only [Act.put, List.setIfInBounds_toArray, List.set_cons_zero, List.set_cons_succ]
        refine wpG_takeB (i := 7) (oi := ⟨some 4, _, _, _, _, _⟩) (v := v9) rfl (by kernel_rfl) (by kernel_rfl) (by kernel_rfl) (by decide) (fun _ _ _ h => h) h01 rfl hHeld (Or.inl ⟨by rfl, ?_⟩) ?_
        · (intro W9 hSw; have g5 := HS5.out; go_simp; (try (first | with_reducible rfl | rfl | (exact HS1.out _) | (exact HS2.out _) | (exact HS3.out _) | (simp; done))))
        try simp only [Act.put, List.setIfInBounds_toArray, List.set_cons_zero, List.set_cons_succ]
        refine wpG_takeB (i := 8) (oi := ⟨some 0, _, _, _, _, _⟩) (v := .slice A5 n5 c5) rfl (by kernel_rfl) (by kernel_rfl) (by kernel_rfl) (by decide) (fun _ _ _ h => h) h01 rfl hHeld (Or.inl ⟨by rfl, ?_⟩) ?_
        · (intro W9 hSw; have g5 := HS5.out; go_simp; (try (first | with_reducible rfl | rfl | (exact HS1.out _) | (exact HS2.out _) | (exact HS3.out _) | (simp; done))))
        try simp only [Act.put, List.setIfInBounds_toArray, List.set_cons_zero, List.set_cons_succ]
        refine wpG_done (by kernel_rfl) ?_ _
        have HBL9 := Lib.hid (HB3.out.trans ((below_drew ((Below.refl wc.heap.size wc).alloc (Nat.le_refl _) (.cells #[.int .i64 Tm, .int .i64 Fl, .slice A6 s c6] 31))).mono HB3.out.size))
        have HB9 := Lib.hid (below_own HBL9.out HBL9.out.size (own_drew (own_alloc HPO3.out.own)) HG9.out)
        have hblk9 := (HG.out.blk.alloc (.cells #[.int .i64 Tm, .int .i64 Fl, .slice A6 s c6] 31)).drew.grown HG9.out (fun e => by have := HVG.out g e.symm; omega)
        have HPO9 := Lib.hid (PO.push (p := ⟨Tm, Fl, A6, s, c6, ys⟩) HPO3.out (own_base HG.out.own (by have := HB2.out.size; exact this)) (show -9223372036854775808 ≤ Tm ∧ Tm < 9223372036854775808 ∧ -9223372036854775808 ≤ Fl ∧ Fl < 9223372036854775808 by have := HTM.out; have := HFL.out; omega) HO9.out (grown_drew0 HG9.out))
        obtain ⟨f0, f1, f2⟩ : Cel3 g Tm Fl (.slice A6 s c6) w9 := ⟨hblk9.cell 0, hblk9.cell 1, hblk9.cell 2⟩
        have C12 := Lib.hid (valid_any ⟨Tm, Fl, A6, s, c6, ys⟩ w9 HYL.out (by have := HX.out; have := HH.out.2.2.2.2.1; show s ≤ 100000; omega))
        unfold Pd.val at C12
        simp only at C12
        have hpk2 : (⟨Tm, Fl, A6, s, c6, ys⟩ : Pd).pk = ⟨Tm, Fl, ys⟩ := rfl
        rw [hpk2] at C12
        clear hHeld h01 hblk9
        cases hval : validP ⟨Tm, Fl, ys⟩ with
        | false =>
          rw [hval] at C12
          have HF := Lib.hid (show lk = none by rw [HPE2.out, hval]; rfl)
          clear hval
          go_wp2_with (first | (go_at_call 12; (with_reducible refine C12.out.mono ?_); rintro e w10 ⟨rfl, hb⟩; have HB10 := Lib.hid (HB9.out.trans (hb.mono HB9.out.size)); clear hb) | (go_at_call 40; (with_reducible refine (M0.out _).mono ?_); rintro e w1 ⟨rfl, rfl⟩))
          exact ⟨rfl, HB10.out, .inl ⟨HF.out, rfl⟩⟩
        | true =>
          rw [hval] at C12
          have HF := Lib.hid (show lk = (packs (l.drop (10 + s)) r).map (pks (ds ++ [⟨Tm, Fl, A6, s, c6, ys⟩]) ++ ·) by
            rw [HPE2.out, hval, if_pos rfl]
            cases packs (l.drop (10 + s)) r with
            | none => rfl
            | some q => simp [pks, Pd.pk])
          clear hval
          have hi02 := HH.out.1
          have hlt2 := HH.out.2.1
          have hk02 := HH.out.2.2.2.2.2.2
          go_wp2_with (first | (go_at_call 12; (with_reducible refine C12.out.mono ?_); rintro e w10 ⟨rfl, hb⟩; have HB10 := Lib.hid (HB9.out.trans (hb.mono HB9.out.size)); have HPO10 := Lib.hid (HPO9.out.below hb); clear hb) | (go_at_call 40; (with_reducible refine (M1.out _).mono ?_); rintro e w1 ⟨rfl, rfl⟩))
          go_roundw
          case rel => exact ⟨i + 1, A5, n5, c5, v9, _, ds ++ [⟨Tm, Fl, A6, s, c6, ys⟩], by omega, by go_num, rfl, rfl, Lib.hid ⟨HN5.out, by rw [List.length_append, HN.out.2]; rfl⟩, Lib.hid ⟨HB10.out, HR5.out, HPO10.out, by rw [HF.out]; have := HR.out; rw [show k - (i + 1) = r by omega]⟩⟩
          case measure => simp [intOf]; omega
    · have hki : k - i = 0 := by omega
      have HPE : Hid (lk = if n = 0 then some (pks ds) else none) := Lib.hid (by
        have := HI.out.eq
        rw [hki, packs_zero, HLN.out] at this
        rw [this]
        by_cases h0 : n = 0
        · rw [if_pos h0, if_pos h0]; simp
        · rw [if_neg h0, if_neg h0]; rfl)
      clear hki
      by_cases h0 : n = 0
      · subst h0
        have q0 : (((0 : Nat) : Int) == 0) = true := by decide
        go_wp2_with (go_at_call 40; (with_reducible refine (M1.out _).mono ?_); rintro e w1 ⟨rfl, rfl⟩)
        go_ret
        exact ⟨HI.out.below, .inr ⟨_, ds, rfl, HI.out.po, by rw [HPE.out]; rfl⟩⟩
      · have q0 : ((n : Int) == 0) = false := by simp; omega
        have HF := Lib.hid (show lk = none by rw [HPE.out, if_neg h0])
        clear h0
        go_wp2_with (go_at_call 40; (with_reducible refine (M0.out _).mono ?_); rintro e w1 ⟨rfl, rfl⟩)
        exact ⟨rfl, HI.out.below, .inl ⟨HF.out, rfl⟩⟩
end Go.Proofs.Ytgbkoegmoelheaa
