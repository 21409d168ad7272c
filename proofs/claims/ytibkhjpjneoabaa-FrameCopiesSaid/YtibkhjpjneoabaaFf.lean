/- A reader's state: the plain model, and the small contracts on it. -/
import Derived.Test.YtibkhjpjneoabaaFe
import Derived.Test.YtibkhjpjneoabaaVrBeg
import Derived.Test.YtibkhjpjneoabaaVrRd
import Derived.Test.YtibkhjpjneoabaaVrRBeg
namespace Go.Proofs.Ytibkhjpjneoabaa
open Go.RowKit
set_option linter.unusedVariables false
set_option linter.unusedSimpArgs false

/-- A result: its place, its bytes, its code. -/
structure Fr where
  at_ : Nat
  bytes : List UInt8
  code : Int
/-- A reader's state. -/
structure St where
  st : Int
  off : Nat
  at_ : Nat
  held : List UInt8
  begun : Bool
  esc : Bool
  lost : Bool
def St.new : St := ⟨0, 0, 0, [], false, false, false⟩
def St.ended (s : St) : St := { s with held := [], begun := false, esc := false }
/-- The result of sealed bytes. -/
def openS (c : Int) (a : Nat) (l : List UInt8) : Fr :=
  if l.length < tailN c then ⟨a, [], 4⟩
  else if sumB c (l.take (l.length - tailN c)) = l.drop (l.length - tailN c) then ⟨a, l.take (l.length - tailN c), 0⟩ else ⟨a, [], 10⟩
/-- A byte of a stream with lengths. -/
def preS (m c : Int) (s : St) (x : UInt8) : St × Option Fr :=
  let h := s.held ++ [x]
  if (Vr.readS h false).2.2 ≠ 0 ∨ m < (Vr.readS h false).1 then
    if (Vr.beginsS h false 0 m).1 then ({ s with held := h }, none)
    else if (Vr.beginsS h false 0 34359738367).1 then ({ s with st := 2 }.ended, some ⟨s.at_, [], 5⟩)
    else ({ s with st := 2 }.ended, some ⟨s.at_, [], 6⟩)
  else if (h.length : Int) < (Vr.readS h false).2.1 + (Vr.readS h false).1 + tailN c then ({ s with held := h }, none)
  else (s.ended, some (openS c s.at_ ((h.drop (Vr.readS h false).2.1.toNat).take ((Vr.readS h false).1.toNat + tailN c))))
/-- A damaged frame. -/
def damS (s : St) (x : UInt8) (code : Int) : St × Option Fr := ((if x = 126 then s else { s with st := 1 }).ended, some ⟨s.at_, [], code⟩)
def pushS (m c : Int) (s : St) (x y : UInt8) : St × Option Fr :=
  if m + tailN c < ((s.held ++ [y]).length : Int) then damS s x 5 else ({ s with held := s.held ++ [y], esc := false }, none)
/-- A byte of a stream with delimiters. -/
def delS (m c : Int) (s : St) (x : UInt8) : St × Option Fr :=
  if s.esc then (if x = 94 ∨ x = 93 then pushS m c s x (x ^^^ 32) else damS s x 6)
  else if x = 126 then (s.ended, some (openS c s.at_ s.held))
  else if x = 125 then ({ s with esc := true }, none)
  else pushS m c s x x
/-- A byte of a frame that began. -/
def readB (k m c : Int) (s : St) (x : UInt8) : St × Option Fr := if k = 1 then preS m c s x else delS m c s x
/-- A byte. -/
def stepS (k m c : Int) (s : St) (x : UInt8) : St × Option Fr :=
  if s.st = 1 then ({ s with off := s.off + 1, st := if x = 126 then 0 else 1 }, none)
  else if s.st = 2 then ({ s with off := s.off + 1 }, none)
  else if s.begun then readB k m c { s with off := s.off + 1 } x
  else if k = 2 ∧ x = 126 then ({ s with off := s.off + 1 }, none)
  else readB k m c { s with off := s.off + 1, begun := true, at_ := s.off } x
/-- Bytes. -/
def feedS (k m c : Int) (s : St) : List UInt8 → St × List Fr
  | [] => (s, [])
  | x :: r => ((feedS k m c (stepS k m c s x).1 r).1, (stepS k m c s x).2.toList ++ (feedS k m c (stepS k m c s x).1 r).2)

/-- A reader's block and its own bytes. -/
structure RdS (W : World) (B r : Nat) (k m c : Int) (v : Value) (s : St) : Prop where
  blk : Blk W r 58 #[.int .i64 k, .int .i64 m, .int .i64 c, .int .i64 s.st, .int .i64 s.off, .int .i64 s.at_, v, .bool s.begun, .bool s.esc, .bool s.lost]
  own : W.ownsRow B 5 1 v s.held.length (s.held.map u8)
  base : B ≤ W.heap.size
  nil : s.held = [] → v.ownBlock = none
section
variable {W W2 : World} {B r : Nat} {k m c : Int} {v : Value} {s : St}
theorem RdS.ne (h : RdS W B r k m c v s) : v.ownBlock ≠ some r := own_ne h.own h.blk (by decide)
theorem RdS.only {p : Nat → Prop} (h : RdS W B r k m c v s) (ho : Only p W W2) (hp : ∀ q, SFo r v q → ¬ p q) : RdS W2 B r k m c v s := ⟨h.blk.only ho (hp _ (.inl rfl)), own_only h.own ho fun q hq => hp q (.inr hq), Nat.le_trans h.base ho.size, h.nil⟩
theorem RdS.below (h : RdS W B r k m c v s) (hb : Below W.heap.size W W2) : RdS W2 B r k m c v s := h.only (Only.of_below (p := fun _ => False) hb) fun _ _ x => x
theorem RdS.lt (h : RdS W B r k m c v s) : ∀ q, SFo r v q → q < W.heap.size := fun q hq => by
  rcases hq with rfl | hq
  · exact h.blk.lt
  · exact own_lt h.own q hq
theorem RdS.form (h : RdS W B r k m c v s) : ∃ A cp, v = .slice A s.held.length cp := by
  obtain ⟨A, cp, e, -⟩ := own_form h.own
  exact ⟨A, cp, e⟩
end

set_option maxRecDepth 100000 in
theorem num_any (n : Int) (w : World) : Calls Try.prog 15 #[.int .i64 n] w fun e w' => e = .returned (.int .i64 n) ∧ w = w' := by
  go_enter Try.func15, Try.ntmps15
  go_wp2_with fail
  go_ret
  exact ⟨rfl, rfl⟩
set_option maxRecDepth 100000 in
theorem none_nil (w : World) : Calls Try.prog 32 #[.pointer none] w fun e w' => e = .returned (.bool true) ∧ w = w' := by
  go_enter Try.func32, Try.ntmps32
  go_wp2_with fail
  go_ret
  exact ⟨rfl, rfl⟩
set_option maxRecDepth 100000 in
theorem none_zero (g : Nat) (w : World) (hg : w.cell? ⟨g, 1, none⟩ = some (.int .i64 0)) : Calls Try.prog 32 #[.pointer (some ⟨g, 0, none⟩)] w fun e w' => e = .returned (.bool true) ∧ w = w' := by
  go_enter Try.func32, Try.ntmps32
  go_wp2_with fail
  go_ret
  exact ⟨rfl, rfl⟩
set_option maxRecDepth 100000 in
theorem none_some (g : Nat) (m : Int) (w : World) (h1 : 1 ≤ m) (hg : w.cell? ⟨g, 1, none⟩ = some (.int .i64 m)) : Calls Try.prog 32 #[.pointer (some ⟨g, 0, none⟩)] w fun e w' => e = .returned (.bool false) ∧ w = w' := by
  have q : (m == 0) = false := by simp; omega
  clear h1
  go_enter Try.func32, Try.ntmps32
  go_wp2_with fail
  go_ret
  exact ⟨rfl, rfl⟩

/-- What the functions return that yield a result, or none. -/
theorem fr_res {fn : Func} {tmps : Array Value} {W : World} {bx : Nat} {x y z : Value} {b : Bool} (hf : fn.results = Try.f49.results) (h4 : tmps.getD 4 undef = .pointer (some ⟨bx, 0, none⟩)) (h5 : tmps.getD 5 undef = .bool b) (hb : Blk W bx 44 #[x, y, z]) : (results fn tmps).run Try.prog W = .ok (.tuple #[.agg #[x, y, z], .bool b]) W := by
  have e : results fn tmps = results Try.f49 tmps := by unfold results; rw [hf]
  rw [e]
  have c0 : W.cell? ⟨bx, 0, none⟩ = some x := hb.cell 0
  have c1 : W.cell? ⟨bx, 1, none⟩ = some y := hb.cell 1
  have c2 : W.cell? ⟨bx, 2, none⟩ = some z := hb.cell 2
  simp at h4 h5
  simp [results, Try.results49, go_sem, h4, h5, c0, c1, c2]
set_option maxRecDepth 100000 in
set_option maxHeartbeats 1000000 in
theorem ended_any (B r : Nat) (k m c : Int) (v : Value) (s : St) (a d : Int) (A : Option Addr) (n cp : Nat) (w : World) (h : RdS w B r k m c v s) :
    Calls Try.prog 49 #[.pointer (some ⟨r, 0, none⟩), .agg #[.int .i64 a, .slice A n cp, .int .i64 d]] w fun e w' => e = .returned (.tuple #[.agg #[.int .i64 a, .slice A n cp, .int .i64 d], .bool true]) ∧ RdS w' B r k m c (.slice none 0 0) s.ended ∧ Only (fun q => q = r) w w' := by
  obtain ⟨W0, hW0⟩ : ∃ W0, (w.alloc (.cells #[.int .i64 a, .slice A n cp, .int .i64 d] 44)).alloc (.cells #[.int .i64 0, .slice none 0 0, .int .i64 0] 44) = W0 := ⟨_, rfl⟩
  have hb0 : Below w.heap.size w W0 := hW0 ▸ ((Below.refl _ w).alloc (Nat.le_refl _) _).alloc (by simp) _
  have k3 : Blk W0 w.heap.size 44 #[.int .i64 a, .slice A n cp, .int .i64 d] := hW0 ▸ (Blk.new w 44 _).alloc _
  have k4 : Blk W0 (w.heap.size + 1) 44 #[.int .i64 0, .slice none 0 0, .int .i64 0] := by have := Blk.new (w.alloc (.cells #[.int .i64 a, .slice A n cp, .int .i64 d] 44)) 44 #[.int .i64 0, .slice none 0 0, .int .i64 0]; rw [World.size_alloc, hW0] at this; exact this
  have h0 := h.below hb0
  have kb := h0.blk
  have k6 : W0.cell? ⟨r, 6, none⟩ = some v := kb.cell 6
  have k7 : W0.cell? ⟨r, 7, none⟩ = some (.bool s.begun) := kb.cell 7
  have k8 : W0.cell? ⟨r, 8, none⟩ = some (.bool s.esc) := kb.cell 8
  have z6 := kb.frozen 6
  have z7 := kb.frozen 7
  have z8 := kb.frozen 8
  have HK4 := Lib.hid k4
  have HK3 := Lib.hid k3
  have HB0 := Lib.hid hb0
  have H0 := Lib.hid h0
  have HLT := Lib.hid h.blk.lt
  have HW0 := Lib.hid hW0
  clear h h0 kb k3 k4 hb0 hW0
  go_enter Try.func49, Try.ntmps49
  go_upto_region 1 with fail
  rw [HW0.out]
  clear HW0
  go_upto_region 2 with fail
  clear k6 k7 k8 z6 z7 z8
  obtain ⟨W1, hW1⟩ : ∃ W1, ((W0.setCell ⟨r, 6, none⟩ (.slice none 0 0)).setCell ⟨r, 7, none⟩ (.bool false)).setCell ⟨r, 8, none⟩ (.bool false) = W1 := ⟨_, rfl⟩
  have hr1 : Blk W1 r 58 #[.int .i64 k, .int .i64 m, .int .i64 c, .int .i64 s.st, .int .i64 s.off, .int .i64 s.at_, .slice none 0 0, .bool false, .bool false, .bool s.lost] := by
    have := ((H0.out.blk.set_ 6 (.slice none 0 0)).set_ 7 (.bool false)).set_ 8 (.bool false)
    rw [hW1] at this
    simpa using this
  have h4 : Blk W1 (w.heap.size + 1) 44 #[.int .i64 0, .slice none 0 0, .int .i64 0] := hW1 ▸ ((HK4.out.far (p := ⟨r, 6, none⟩) (by have := HLT.out; simp; omega) _).far (p := ⟨r, 7, none⟩) (by have := HLT.out; simp; omega) _).far (p := ⟨r, 8, none⟩) (by have := HLT.out; simp; omega) _
  have h3 : Blk W1 w.heap.size 44 #[.int .i64 a, .slice A n cp, .int .i64 d] := hW1 ▸ ((HK3.out.far (p := ⟨r, 6, none⟩) (by have := HLT.out; simp; omega) _).far (p := ⟨r, 7, none⟩) (by have := HLT.out; simp; omega) _).far (p := ⟨r, 8, none⟩) (by have := HLT.out; simp; omega) _
  have hon : Only (fun q => q = r) w W1 := hW1 ▸ (((Only.of_below (p := fun q => q = r) HB0.out).set (fun _ => rfl) 6 (.slice none 0 0)).set (fun _ => rfl) 7 (.bool false)).set (fun _ => rfl) 8 (.bool false)
  have hB := Nat.le_trans H0.out.base (show W0.heap.size ≤ W1.heap.size by rw [← hW1]; simp)
  have p0 : W1.cell? ⟨w.heap.size, 0, none⟩ = some (.int .i64 a) := h3.cell 0
  have p1 : W1.cell? ⟨w.heap.size, 1, none⟩ = some (.slice A n cp) := h3.cell 1
  have p2 : W1.cell? ⟨w.heap.size, 2, none⟩ = some (.int .i64 d) := h3.cell 2
  have q0 : W1.cell? ⟨w.heap.size + 1, 0, none⟩ = some (.int .i64 0) := h4.cell 0
  have q1 : W1.cell? ⟨w.heap.size + 1, 1, none⟩ = some (.slice none 0 0) := h4.cell 1
  have q2 : W1.cell? ⟨w.heap.size + 1, 2, none⟩ = some (.int .i64 0) := h4.cell 2
  have z0 := h4.frozen 0
  have z1 := h4.frozen 1
  have z2 := h4.frozen 2
  rw [hW1]
  have H4 := Lib.hid h4
  have HR1 := Lib.hid hr1
  have HON := Lib.hid hon
  have HBB := Lib.hid hB
  clear hr1 h4 h3 hon hW1 hB
  go_wp2_with fail
  have hk := ((H4.out.set_ 0 (.int .i64 a)).set_ 1 (.slice A n cp)).set_ 2 (.int .i64 d)
  simp only [List.setIfInBounds_toArray, List.set_cons_zero, List.set_cons_succ] at hk
  refine bodyPost_ret (v := .tuple #[.agg #[.int .i64 a, .slice A n cp, .int .i64 d], .bool true]) (fr_res rfl rfl rfl hk) rfl ⟨rfl, ?_, ?_⟩
  · exact ⟨((HR1.out.far (p := ⟨w.heap.size + 1, 0, none⟩) (by have := HLT.out; simp; omega) _).far (p := ⟨w.heap.size + 1, 1, none⟩) (by have := HLT.out; simp; omega) _).far (p := ⟨w.heap.size + 1, 2, none⟩) (by have := HLT.out; simp; omega) _, by simpa [St.ended] using World.ownsRow_nil _ _ 5 1, by simpa using HBB.out, fun _ => rfl⟩
  · exact ((HON.out.set (fun h => by omega) 0 _).set (fun h => by omega) 1 _).set (fun h => by omega) 2 _
end Go.Proofs.Ytibkhjpjneoabaa
