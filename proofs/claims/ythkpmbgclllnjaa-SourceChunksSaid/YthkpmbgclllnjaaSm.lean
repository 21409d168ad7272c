/- Left, Offset, Room, Ended, open, take. -/
import Derived.Test.YthkpmbgclllnjaaSt
namespace Go.Proofs.Ythkpmbgclllnjaa
open Go.RowKit
set_option linter.unusedVariables false
set_option linter.unusedSimpArgs false

theorem fld0 (p : Option Addr) (i : Int) (b : Bool) (W : World) : (Instr.field 65 (.agg #[.pointer p, .int .i64 i, .bool b]) 0).run Try.prog W = .ok (.pointer p) W := by kernel_rfl
theorem fld1 (p : Option Addr) (i : Int) (b : Bool) (W : World) : (Instr.field 65 (.agg #[.pointer p, .int .i64 i, .bool b]) 1).run Try.prog W = .ok (.int .i64 i) W := by kernel_rfl
theorem fld2 (p : Option Addr) (i : Int) (b : Bool) (W : World) : (Instr.field 65 (.agg #[.pointer p, .int .i64 i, .bool b]) 2).run Try.prog W = .ok (.bool b) W := by kernel_rfl
attribute [local go_sem] fld0 fld1 fld2

set_option maxRecDepth 100000 in
theorem bleft_none (w : World) : Calls Try.prog 36 #[.pointer none] w fun e w' => e = .returned (.int .i64 0) ∧ w = w' := by
  go_enter Try.func36, Try.ntmps36
  go_wp2_with fail
  go_ret
  exact ⟨rfl, rfl⟩
set_option maxRecDepth 100000 in
theorem bleft_some (bb : Nat) (A : Option Addr) (n c : Nat) (tk : Int) (w : World) (h : Blk w bb 63 #[.slice A n c, .int .i64 tk]) : Calls Try.prog 36 #[.pointer (some ⟨bb, 0, none⟩)] w fun e w' => e = .returned (.int .i64 n) ∧ w = w' := by
  have h0 := h.cell 0
  simp at h0
  clear h
  go_enter Try.func36, Try.ntmps36
  go_wp2_with fail
  go_ret
  exact ⟨rfl, rfl⟩
set_option maxRecDepth 100000 in
theorem boff_none (w : World) : Calls Try.prog 35 #[.pointer none] w fun e w' => e = .returned (.int .i64 0) ∧ w = w' := by
  go_enter Try.func35, Try.ntmps35
  go_wp2_with fail
  go_ret
  exact ⟨rfl, rfl⟩
set_option maxRecDepth 100000 in
theorem boff_some (bb : Nat) (v : Value) (tk : Int) (w : World) (h : Blk w bb 63 #[v, .int .i64 tk]) : Calls Try.prog 35 #[.pointer (some ⟨bb, 0, none⟩)] w fun e w' => e = .returned (.int .i64 tk) ∧ w = w' := by
  have h0 := h.cell 1
  simp at h0
  clear h
  go_enter Try.func35, Try.ntmps35
  go_wp2_with fail
  go_ret
  exact ⟨rfl, rfl⟩

section
variable {w : World} {B bs bt bb : Nat} {v : Value} {lim : Nat} {l : List UInt8} {tk : Nat} {cl : Bool}
theorem SS.form (h : SS w B bs bt bb v lim l tk cl) : ∃ A c, v = .slice A l.length c ∧ RB w A l.length c l := own_RB h.own

set_option maxRecDepth 100000 in
theorem left_some (h : SS w B bs bt bb v lim l tk cl) : Calls Try.prog 14 #[.pointer (some ⟨bs, 0, none⟩)] w fun e w' => e = .returned (.int .i64 l.length) ∧ Below w.heap.size w w' := by
  have H := Lib.hid h
  have C := Lib.hid (get_some bs bt bb lim cl w h.src h.st)
  obtain ⟨A, c, rfl, -⟩ := h.form
  clear h
  go_enter Try.func14, Try.ntmps14
  go_wp2_with (first
    | (go_at_call 32; (with_reducible refine C.out.mono ?_); rintro e w1 ⟨rfl, b1⟩; have HB := Lib.hid b1; have HK := Lib.hid (bleft_some bb A l.length c tk w1 (H.out.buf.below b1 H.out.buf.lt)); clear b1)
    | (go_at_call 36; (with_reducible refine HK.out.mono ?_); rintro e w2 ⟨rfl, rfl⟩))
  go_ret
  exact ⟨rfl, HB.out⟩
set_option maxRecDepth 100000 in
theorem off_some (h : SS w B bs bt bb v lim l tk cl) : Calls Try.prog 13 #[.pointer (some ⟨bs, 0, none⟩)] w fun e w' => e = .returned (.int .i64 tk) ∧ Below w.heap.size w w' := by
  have H := Lib.hid h
  have C := Lib.hid (get_some bs bt bb lim cl w h.src h.st)
  clear h
  go_enter Try.func13, Try.ntmps13
  go_wp2_with (first
    | (go_at_call 32; (with_reducible refine C.out.mono ?_); rintro e w1 ⟨rfl, b1⟩; have HB := Lib.hid b1; have HK := Lib.hid (boff_some bb v tk w1 (H.out.buf.below b1 H.out.buf.lt)); clear b1)
    | (go_at_call 35; (with_reducible refine HK.out.mono ?_); rintro e w2 ⟨rfl, rfl⟩))
  go_ret
  exact ⟨rfl, HB.out⟩
set_option maxRecDepth 100000 in
theorem room_some (h : SS w B bs bt bb v lim l tk cl) : Calls Try.prog 25 #[.pointer (some ⟨bs, 0, none⟩)] w fun e w' => e = .returned (.int .i64 ((lim : Int) - l.length)) ∧ Below w.heap.size w w' := by
  have H := Lib.hid h
  have C := Lib.hid (get_some bs bt bb lim cl w h.src h.st)
  have q1 : (l.length : Int) ≤ lim := by have := h.lenB; omega
  have q2 : (lim : Int) ≤ 1048576 := by have := h.limB; omega
  have q3 : (0 : Int) ≤ l.length := by omega
  clear h
  go_enter Try.func25, Try.ntmps25
  go_wp2_with (first
    | (go_at_call 32; (with_reducible refine C.out.mono ?_); rintro e w1 ⟨rfl, b1⟩; have HB := Lib.hid b1; have HK := Lib.hid (left_some (H.out.below b1)); clear b1)
    | (go_at_call 14; (with_reducible refine HK.out.mono ?_); rintro e w2 ⟨rfl, b2⟩; have HB2 := Lib.hid (HB.out.trans (b2.mono HB.out.size)); clear b2))
  go_ret
  exact ⟨rfl, HB2.out⟩
set_option maxRecDepth 100000 in
theorem ended_some (h : SS w B bs bt bb v lim l tk cl) : Calls Try.prog 26 #[.pointer (some ⟨bs, 0, none⟩)] w fun e w' => e = .returned (.bool (cl && decide (l.length = 0))) ∧ Below w.heap.size w w' := by
  have H := Lib.hid h
  have C := Lib.hid (get_some bs bt bb lim cl w h.src h.st)
  obtain ⟨n, hn⟩ : ∃ n, l.length = n := ⟨_, rfl⟩
  have HN := Lib.hid hn
  rw [hn]
  clear h hn
  cases cl
  · go_enter Try.func26, Try.ntmps26
    go_wp2_with (go_at_call 32; (with_reducible refine C.out.mono ?_); rintro e w1 ⟨rfl, b1⟩; have HB := Lib.hid b1; clear b1)
    go_ret
    exact ⟨rfl, HB.out⟩
  · have q : ((n : Int) == 0) = decide (n = 0) := by by_cases h : n = 0 <;> simp [h]
    have Q := Lib.hid q
    clear q
    go_enter Try.func26, Try.ntmps26
    go_wp2_with (first
      | (go_at_call 32; (with_reducible refine C.out.mono ?_); rintro e w1 ⟨rfl, b1⟩; have HB := Lib.hid b1; have HK := Lib.hid (left_some (H.out.below b1)); clear b1)
      | (go_at_call 14; (with_reducible refine HK.out.mono ?_); rintro e w2 ⟨rfl, b2⟩; have HB2 := Lib.hid (HB.out.trans (b2.mono HB.out.size)); clear b2))
    go_ret
    exact ⟨by rw [HN.out]; rw [Bool.true_and, ← Q.out]; rfl, HB2.out⟩
set_option maxRecDepth 100000 in
theorem open_some (h : SS w B bs bt bb v lim l tk cl) : Calls Try.prog 29 #[.pointer (some ⟨bs, 0, none⟩)] w fun e w' => e = .returned (.int .i64 (if cl then 8 else 0)) ∧ w = w' := by
  have C := Lib.hid (none_some bs bt w h.src)
  have e0 := h.src.cell 0
  have f2 := h.st.cell 2
  simp at e0 f2
  clear h
  cases cl
  all_goals
    go_enter Try.func29, Try.ntmps29
    go_wp2_with (go_at_call 38; (with_reducible refine C.out.mono ?_); rintro e w1 ⟨rfl, rfl⟩)
    go_ret
    exact ⟨rfl, rfl⟩
end
section
variable {p : Option Addr} {w : World}
set_option maxRecDepth 100000 in
theorem left_none (h : NoSrc p w) : Calls Try.prog 14 #[.pointer p] w fun e w' => e = .returned (.int .i64 0) ∧ Below w.heap.size w w' := by
  have C := Lib.hid (get_none p w h)
  clear h
  go_enter Try.func14, Try.ntmps14
  go_wp2_with (first
    | (go_at_call 32; (with_reducible refine C.out.mono ?_); rintro e w1 ⟨rfl, b1⟩; have HB := Lib.hid b1; clear b1)
    | (go_at_call 36; (with_reducible refine (bleft_none _).mono ?_); rintro e w2 ⟨rfl, rfl⟩))
  go_ret
  exact ⟨rfl, HB.out⟩
set_option maxRecDepth 100000 in
theorem off_none (h : NoSrc p w) : Calls Try.prog 13 #[.pointer p] w fun e w' => e = .returned (.int .i64 0) ∧ Below w.heap.size w w' := by
  have C := Lib.hid (get_none p w h)
  clear h
  go_enter Try.func13, Try.ntmps13
  go_wp2_with (first
    | (go_at_call 32; (with_reducible refine C.out.mono ?_); rintro e w1 ⟨rfl, b1⟩; have HB := Lib.hid b1; clear b1)
    | (go_at_call 35; (with_reducible refine (boff_none _).mono ?_); rintro e w2 ⟨rfl, rfl⟩))
  go_ret
  exact ⟨rfl, HB.out⟩
set_option maxRecDepth 100000 in
theorem room_none (h : NoSrc p w) : Calls Try.prog 25 #[.pointer p] w fun e w' => e = .returned (.int .i64 0) ∧ Below w.heap.size w w' := by
  have C := Lib.hid (get_none p w h)
  have H := Lib.hid h
  clear h
  go_enter Try.func25, Try.ntmps25
  go_wp2_with (first
    | (go_at_call 32; (with_reducible refine C.out.mono ?_); rintro e w1 ⟨rfl, b1⟩; have HB := Lib.hid b1; have HK := Lib.hid (left_none (H.out.below b1)); clear b1)
    | (go_at_call 14; (with_reducible refine HK.out.mono ?_); rintro e w2 ⟨rfl, b2⟩; have HB2 := Lib.hid (HB.out.trans (b2.mono HB.out.size)); clear b2))
  go_ret
  exact ⟨rfl, HB2.out⟩
set_option maxRecDepth 100000 in
theorem ended_none (h : NoSrc p w) : Calls Try.prog 26 #[.pointer p] w fun e w' => e = .returned (.bool false) ∧ Below w.heap.size w w' := by
  have C := Lib.hid (get_none p w h)
  clear h
  go_enter Try.func26, Try.ntmps26
  go_wp2_with (go_at_call 32; (with_reducible refine C.out.mono ?_); rintro e w1 ⟨rfl, b1⟩; have HB := Lib.hid b1; clear b1)
  go_ret
  exact ⟨rfl, HB.out⟩
set_option maxRecDepth 100000 in
theorem open_none (h : NoSrc p w) : Calls Try.prog 29 #[.pointer p] w fun e w' => e = .returned (.int .i64 1) ∧ w = w' := by
  have C := Lib.hid (h w (Below.refl _ _))
  clear h
  go_enter Try.func29, Try.ntmps29
  go_wp2_with (go_at_call 38; (with_reducible refine C.out.mono ?_); rintro e w1 ⟨rfl, rfl⟩)
  go_ret
  exact ⟨rfl, rfl⟩
end

set_option maxRecDepth 100000 in
set_option maxHeartbeats 1000000 in
theorem take_any (B bb : Nat) (v : Value) (l : List UInt8) (tk n : Nat) (w : World) (hg : Blk w bb 63 #[v, .int .i64 tk]) (ho : w.ownsRow B 5 1 v l.length (l.map u8)) (hn : n ≤ l.length) (hl : l.length ≤ 1048576) (ht : tk ≤ 4000000000) :
    Calls Try.prog 30 #[.pointer (some ⟨bb, 0, none⟩), .int .i64 n] w fun e w' => (e = .returned (.tuple #[]) ∧ ∃ v', Blk w' bb 63 #[v', .int .i64 ((tk + n : Nat) : Int)] ∧ w'.ownsRow w.heap.size 5 1 v' (l.length - n) ((l.drop n).map u8) ∧ Only (fun k => k = bb) w w') := by
  obtain ⟨A, c, rfl, hr⟩ := own_RB ho
  obtain ⟨A', c', hs, hr', -⟩ := slice_from w A l.length c n l hr hn
  have C := Lib.hid (clone_any A' (l.length - n) c' (l.drop n) w (by omega) hr')
  have e0 := hg.cell 0
  have e1 := hg.cell 1
  have f0 := hg.frozen 0
  have f1 := hg.frozen 1
  simp at e0 e1
  have HG := Lib.hid hg
  have q1 : (tk : Int) ≤ 4000000000 := by omega
  have q2 : (n : Int) ≤ 1048576 := by omega
  have q3 : (0 : Int) ≤ tk := by omega
  have q4 : (0 : Int) ≤ n := by omega
  clear hg ho hr hr' hn hl ht
  go_enter Try.func30, Try.ntmps30
  go_wp2_with (go_at_call 39; (with_reducible refine C.out.mono ?_); rintro e w1 ⟨v1, rfl, o1, b1⟩; rw [List.length_drop] at o1; obtain ⟨A1, c1, rfl, -⟩ := own_form o1; have g1 := HG.out.below b1 HG.out.lt; have e0' := g1.cell 0; have e1' := g1.cell 1; have f0' := g1.frozen 0; have f1' := g1.frozen 1; simp at e0' e1'; have HO := Lib.hid o1; have HB := Lib.hid b1; have HG1 := Lib.hid g1; clear o1 b1 g1)
  refine bodyPost_end (v := .tuple #[]) (by simp [results, Try.results30, go_sem]) rfl ⟨rfl, .slice A1 (l.length - n) c1, ?_, ?_, ?_⟩
  · have h9 := (HG1.out.set_ 0 (.slice A1 (l.length - n) c1)).set_ 1 (.int .i64 ((tk : Int) + n))
    simpa using h9
  · have hne : ∀ k, (Value.slice A1 (l.length - n) c1).ownBlock = some k → k ≠ bb := fun k hk => by have := HO.out.lt k hk; have := HG.out.lt; omega
    have h9 := HO.out
    exact own_keeps h9 fun k hk => by
      rw [Below.heap_setCell _ _ _ _ (by simpa using hne k hk), Below.heap_setCell _ _ _ _ (by simpa using hne k hk)]
  · exact Only.set (Only.set (Only.of_below (p := fun k => k = bb) HB.out) (fun _ => rfl) 0 _) (fun _ => rfl) 1 _
end Go.Proofs.Ythkpmbgclllnjaa
