/- The cursor: pass, next, is, run, need. -/
import Derived.Test.YtkihoekldklkhaaDoorTb
import Derived.Test.YtkihoekldklkhaaDoorMk
import Derived.Lib.TrimByte
namespace Go.Proofs.YtkihoekldklkhaaDoor
open Go.RowKit
set_option linter.unusedVariables false
set_option linter.unusedSimpArgs false

/-- Where the scanner is: its block. -/
def Sc (L : List UInt8) (sb i : Nat) (w : World) : Prop := Blk w sb 89 #[.string ⟨L.toArray⟩, .int .i64 (i : Int), .int .i64 ((lcOf L i).1 : Int), .int .i64 ((lcOf L i).2 : Int)]
theorem Blk.drewN {w : World} {g : Nat} {t : TypeId} {cs : Array Value} (h : Blk w g t cs) (m : Nat) : Blk (w.drewN m) g t cs := Blk.below h (below_drewN (Below.refl _ w) m) h.lt
theorem Sc.drewN {L : List UInt8} {sb i : Nat} {w : World} (h : Sc L sb i w) (m : Nat) : Sc L sb i (w.drewN m) := Blk.below h (below_drewN (Below.refl _ w) m) h.lt
theorem Sc.below {L : List UInt8} {sb i : Nat} {w w' : World} (h : Sc L sb i w) (hb : Below w.heap.size w w') : Sc L sb i w' := Blk.below h hb h.lt
theorem only_drewN {p : Nat → Prop} {w W : World} (h : Only p w W) (m : Nat) : Only p w (W.drewN m) := h.below (below_drewN (Below.refl _ W) m)
theorem run_idx (L : List UInt8) (i : Nat) (hi : i < L.length) (W : World) : (Instr.index 9 (.string ⟨L.toArray⟩) (.int .i64 (i : Int))).run Tryd.prog W = .ok (.int .u8 ((L[i]).toNat : Int)) W := by
  have h3 : (⟨L.toArray⟩ : ByteArray)[i]? = some L[i] := (getElem?_pos (⟨L.toArray⟩ : ByteArray) i (by rw [Lib.size_mk]; exact hi)).trans rfl
  generalize (⟨L.toArray⟩ : ByteArray) = S at *
  simp [Instr.index, go_sem, h3]
theorem headP_in {p : Int → Bool} {L : List UInt8} {i : Nat} (hi : i < L.length) : headP p (L.drop i) = p ((L[i]).toNat : Int) := by rw [List.drop_eq_getElem_cons hi]; rfl
theorem headP_out {p : Int → Bool} {L : List UInt8} {i : Nat} (hi : L.length ≤ i) : headP p (L.drop i) = false := by rw [List.drop_eq_nil_of_le hi]; rfl
theorem u8r (c : UInt8) : (0 : Int) ≤ (c.toNat : Int) ∧ (c.toNat : Int) < 256 := by have := c.toNat_lt; omega
theorem lc_nl {L : List UInt8} {i : Nat} (hi : i < L.length) (h : (((L[i]).toNat : Int) == 10) = true) : lcOf L (i + 1) = ((lcOf L i).1 + 1, 1) := by
  have h2 : L[i] = 10 := by
    have h3 : ((L[i]).toNat : Int) = 10 := by simpa using h
    exact UInt8.toNat_inj.1 (by show (L[i]).toNat = 10; omega)
  rw [lcOf_succ hi]; unfold lcStep; rw [if_pos h2]
theorem lc_no {L : List UInt8} {i : Nat} (hi : i < L.length) (h : (((L[i]).toNat : Int) == 10) = false) : lcOf L (i + 1) = ((lcOf L i).1, (lcOf L i).2 + 1) := by
  have h2 : ¬ L[i] = 10 := fun e => by rw [e] at h; simp at h
  rw [lcOf_succ hi]; unfold lcStep; rw [if_neg h2]
set_option maxRecDepth 100000 in
set_option maxHeartbeats 1000000 in
theorem pass_any (L : List UInt8) (sb i : Nat) (w : World) (h : Sc L sb i w) (hi : i < L.length) (hn : L.length ≤ 1000000) :
    Calls Tryd.prog 73 #[.pointer (some ⟨sb, 0, none⟩)] w fun e w' => e = .returned (.tuple #[]) ∧ Sc L sb (i + 1) w' ∧ Only (fun k => k = sb) w w' := by
  have hidx := run_idx L i hi
  have hlc := lcOf_le L i
  have hb : Blk w sb 89 #[.string ⟨L.toArray⟩, .int .i64 (i : Int), .int .i64 ((lcOf L i).1 : Int), .int .i64 ((lcOf L i).2 : Int)] := h
  have hsz : (⟨L.toArray⟩ : ByteArray).size = L.length := Lib.size_mk L
  cases hx : ((L[i]).toNat : Int) == 10 with
  | true =>
    have hl := lc_nl hi hx
    have HG : Hid (∀ w', Blk w' sb 89 #[.string ⟨L.toArray⟩, .int .i64 ((i : Int) + 1), .int .i64 (((lcOf L i).1 : Int) + 1), .int .i64 1] → Sc L sb (i + 1) w') := Lib.hid (fun w' hk => by unfold Sc; rw [hl]; simpa using hk)
    generalize (L[i]).toNat = y at *
    obtain ⟨x, hxy⟩ : ∃ x : Int, (y : Int) = x := ⟨_, rfl⟩
    rw [hxy] at hidx hx
    obtain ⟨ln, hln⟩ : ∃ ln : Int, ((lcOf L i).1 : Int) = ln := ⟨_, rfl⟩
    obtain ⟨cl, hcl⟩ : ∃ cl : Int, ((lcOf L i).2 : Int) = cl := ⟨_, rfl⟩
    obtain ⟨k, hk⟩ : ∃ k : Int, (i : Int) = k := ⟨_, rfl⟩
    have b1 : 0 ≤ ln := by omega
    have b2 : ln ≤ 2000000 := by omega
    have b3 : 0 ≤ cl := by omega
    have b4 : cl ≤ 2000000 := by omega
    have b5 : 0 ≤ k := by omega
    have b6 : k ≤ 2000000 := by omega
    rw [hln, hcl, hk] at hb
    rw [hk] at hidx
    rw [hk, hln] at HG
    generalize (⟨L.toArray⟩ : ByteArray) = St at *
    have e0 := hb.cell 0
    have e1 := hb.cell 1
    have e2 := hb.cell 2
    have e3 := hb.cell 3
    simp only [List.getElem?_toArray, List.getElem?_cons_zero, List.getElem?_cons_succ] at e0 e1 e2 e3
    have f0 := hb.frozen 0
    have f1 := hb.frozen 1
    have f2 := hb.frozen 2
    have f3 := hb.frozen 3
    have HB := Lib.hid hb
    clear hb h hi hn hlc hl hxy hln hcl hk hsz
    go_enter Tryd.func73, Tryd.ntmps73
    go_upto_region 1 with fail
    go_quiet (fail)
    go_wp2_with fail
    first | go_end0 | skip
    refine ⟨rfl, HG.out _ ?_, ?_⟩
    · have := ((((HB.out.set_ 3 (.int .i64 (cl + 1))).drewN nq).set_ 2 (.int .i64 (ln + 1))).set_ 3 (.int .i64 1)).set_ 1 (.int .i64 (k + 1))
      simpa using this
    · exact (((only_drewN ((Only.refl (fun k => k = sb) w).set (fun _ => rfl) 3 _) nq).set (fun _ => rfl) 2 _).set (fun _ => rfl) 3 _).set (fun _ => rfl) 1 _
  | false =>
    have hl := lc_no hi hx
    have HG : Hid (∀ w', Blk w' sb 89 #[.string ⟨L.toArray⟩, .int .i64 ((i : Int) + 1), .int .i64 ((lcOf L i).1 : Int), .int .i64 (((lcOf L i).2 : Int) + 1)] → Sc L sb (i + 1) w') := Lib.hid (fun w' hk => by unfold Sc; rw [hl]; simpa using hk)
    generalize (L[i]).toNat = y at *
    obtain ⟨x, hxy⟩ : ∃ x : Int, (y : Int) = x := ⟨_, rfl⟩
    rw [hxy] at hidx hx
    obtain ⟨ln, hln⟩ : ∃ ln : Int, ((lcOf L i).1 : Int) = ln := ⟨_, rfl⟩
    obtain ⟨cl, hcl⟩ : ∃ cl : Int, ((lcOf L i).2 : Int) = cl := ⟨_, rfl⟩
    obtain ⟨k, hk⟩ : ∃ k : Int, (i : Int) = k := ⟨_, rfl⟩
    have b1 : 0 ≤ ln := by omega
    have b2 : ln ≤ 2000000 := by omega
    have b3 : 0 ≤ cl := by omega
    have b4 : cl ≤ 2000000 := by omega
    have b5 : 0 ≤ k := by omega
    have b6 : k ≤ 2000000 := by omega
    rw [hln, hcl, hk] at hb
    rw [hk] at hidx
    rw [hk, hln, hcl] at HG
    generalize (⟨L.toArray⟩ : ByteArray) = St at *
    have e0 := hb.cell 0
    have e1 := hb.cell 1
    have e2 := hb.cell 2
    have e3 := hb.cell 3
    simp only [List.getElem?_toArray, List.getElem?_cons_zero, List.getElem?_cons_succ] at e0 e1 e2 e3
    have f0 := hb.frozen 0
    have f1 := hb.frozen 1
    have f2 := hb.frozen 2
    have f3 := hb.frozen 3
    have HB := Lib.hid hb
    clear hb h hi hn hlc hl hxy hln hcl hk hsz
    go_enter Tryd.func73, Tryd.ntmps73
    go_upto_region 1 with fail
    go_quiet (fail)
    go_wp2_with fail
    first | go_end0 | skip
    refine ⟨rfl, HG.out _ ?_, ?_⟩
    · have := ((HB.out.set_ 3 (.int .i64 (cl + 1))).drewN nq).set_ 1 (.int .i64 (k + 1))
      simpa using this
    · exact (only_drewN ((Only.refl (fun k => k = sb) w).set (fun _ => rfl) 3 _) nq).set (fun _ => rfl) 1 _
/-- A function of bytes that only looks. -/
def PredF (F : Nat) (p : Int → Bool) : Prop := Enters Tryd.prog F ∧ ∀ (x : Int) (w : World), 0 ≤ x → x < 256 → Calls Tryd.prog F #[.int .u8 x] w fun e w' => e = .returned (.bool (p x)) ∧ w' = w
/-- One that captures a value. -/
def PredC (F : Nat) (c : Value) (p : Int → Bool) (w : World) : Prop := Enters Tryd.prog F ∧ ∀ (x : Int) (m : Nat), 0 ≤ x → x < 256 → Calls Tryd.prog F #[.int .u8 x, c] (w.drewN m) fun e w' => e = .returned (.bool (p x)) ∧ ∃ m', w' = (w.drewN m).drewN m'
set_option maxRecDepth 100000 in
set_option maxHeartbeats 1000000 in
theorem next_any (F : Nat) (p : Int → Bool) (L : List UInt8) (sb i : Nat) (w : World) (hp : PredF F p) (h : Sc L sb i w) (hn : L.length ≤ 1000000) :
    Calls Tryd.prog 66 #[.pointer (some ⟨sb, 0, none⟩), .func (.func F) #[] #[]] w fun e w' => e = .returned (.bool (headP p (L.drop i))) ∧ ∃ m, w' = w.drewN m := by
  have hb : Blk w sb 89 #[.string ⟨L.toArray⟩, .int .i64 (i : Int), .int .i64 ((lcOf L i).1 : Int), .int .i64 ((lcOf L i).2 : Int)] := h
  have hsz : (⟨L.toArray⟩ : ByteArray).size = L.length := Lib.size_mk L
  have e0 := hb.cell 0
  have e1 := hb.cell 1
  simp only [List.getElem?_toArray, List.getElem?_cons_zero, List.getElem?_cons_succ] at e0 e1
  obtain ⟨hen, hpx⟩ := hp
  have hen' : ∀ args w, (callFunc F args).run Tryd.prog w = .ok (.enter F args) w := hen
  by_cases hi : i < L.length
  · rw [headP_in hi]
    have hidx := run_idx L i hi
    obtain ⟨x0, x1⟩ := u8r (L[i])
    generalize (L[i]).toNat = y at *
    obtain ⟨x, hxy⟩ : ∃ x : Int, (y : Int) = x := ⟨_, rfl⟩
    rw [hxy] at hidx x0 x1 ⊢
    have C1 := Lib.hid (fun W => hpx x W x0 x1)
    have hi1 : (i : Int) < L.length := by omega
    generalize p x = b at *
    generalize (⟨L.toArray⟩ : ByteArray) = St at *
    have q0 : decide ((i : Int) < (St.size : Int)) = true := by rw [hsz]; simpa using hi
    generalize (i : Int) = k at *
    clear hb h hi hn hxy x0 x1 hpx hi1 hsz
    go_enter Tryd.func66, Tryd.ntmps66
    go_upto_region 1 with fail
    go_quiet (first | (go_at_fn F; refine Calls.quiet_of_same (C1.out _)))
    go_wp2
    go_ret
    exact ⟨by first | rfl | simp, _, rfl⟩
  · rw [headP_out (by omega)]
    generalize (⟨L.toArray⟩ : ByteArray) = St at *
    have q0 : decide ((i : Int) < (St.size : Int)) = false := by rw [hsz]; simpa using hi
    generalize (i : Int) = k at *
    clear hb h hi hn hpx hsz
    go_enter Tryd.func66, Tryd.ntmps66
    go_upto_region 1 with fail
    go_quiet (fail)
    go_wp2
    go_ret
    exact ⟨by first | rfl | simp, _, rfl⟩
set_option maxRecDepth 100000 in
set_option maxHeartbeats 1000000 in
theorem next_cap (F : Nat) (p : Int → Bool) (c : Value) (L : List UInt8) (sb i : Nat) (w : World) (hp : PredC F c p w) (h : Sc L sb i w) (hn : L.length ≤ 1000000) :
    Calls Tryd.prog 66 #[.pointer (some ⟨sb, 0, none⟩), .func (.func F) #[] #[c]] w fun e w' => e = .returned (.bool (headP p (L.drop i))) ∧ ∃ m, w' = w.drewN m := by
  have hb : Blk w sb 89 #[.string ⟨L.toArray⟩, .int .i64 (i : Int), .int .i64 ((lcOf L i).1 : Int), .int .i64 ((lcOf L i).2 : Int)] := h
  have hsz : (⟨L.toArray⟩ : ByteArray).size = L.length := Lib.size_mk L
  have e0 := hb.cell 0
  have e1 := hb.cell 1
  simp only [List.getElem?_toArray, List.getElem?_cons_zero, List.getElem?_cons_succ] at e0 e1
  obtain ⟨hen, hpx⟩ := hp
  have hen' : ∀ args w, (callFunc F args).run Tryd.prog w = .ok (.enter F args) w := hen
  by_cases hi : i < L.length
  · rw [headP_in hi]
    have hidx := run_idx L i hi
    obtain ⟨x0, x1⟩ := u8r (L[i])
    generalize (L[i]).toNat = y at *
    obtain ⟨x, hxy⟩ : ∃ x : Int, (y : Int) = x := ⟨_, rfl⟩
    rw [hxy] at hidx x0 x1 ⊢
    have C1 := Lib.hid (fun m => hpx x m x0 x1)
    have hi1 : (i : Int) < L.length := by omega
    generalize p x = b at *
    generalize (⟨L.toArray⟩ : ByteArray) = St at *
    have q0 : decide ((i : Int) < (St.size : Int)) = true := by rw [hsz]; simpa using hi
    generalize (i : Int) = k at *
    clear hb h hi hn hxy x0 x1 hpx hi1 hsz
    go_enter Tryd.func66, Tryd.ntmps66
    go_upto_region 1 with fail
    go_quiet (first | (go_at_fn F; refine Calls.quiet_of (C1.out _)))
    go_wp2
    go_ret
    exact ⟨by first | rfl | simp, _, rfl⟩
  · rw [headP_out (by omega)]
    generalize (⟨L.toArray⟩ : ByteArray) = St at *
    have q0 : decide ((i : Int) < (St.size : Int)) = false := by rw [hsz]; simpa using hi
    generalize (i : Int) = k at *
    clear hb h hi hn hpx hsz
    go_enter Tryd.func66, Tryd.ntmps66
    go_upto_region 1 with fail
    go_quiet (fail)
    go_wp2
    go_ret
    exact ⟨by first | rfl | simp, _, rfl⟩

end Go.Proofs.YtkihoekldklkhaaDoor
