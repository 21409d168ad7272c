/- A source's state, and the small contracts on it. -/
import Derived.Test.YthkpmbgclllnjaaSl
namespace Go.Proofs.Ythkpmbgclllnjaa
open Go.RowKit
set_option linter.unusedVariables false
set_option linter.unusedSimpArgs false

/-- A source's state: its own three blocks, its own bytes, limit, how many are taken, whether it is closed. -/
structure SS (w : World) (B bs bt bb : Nat) (v : Value) (lim : Nat) (l : List UInt8) (tk : Nat) (cl : Bool) : Prop where
  src : Blk w bs 56 #[.pointer (some ⟨bt, 0, none⟩)]
  st : Blk w bt 65 #[.pointer (some ⟨bb, 0, none⟩), .int .i64 lim, .bool cl]
  buf : Blk w bb 63 #[v, .int .i64 tk]
  own : w.ownsRow B 5 1 v l.length (l.map u8)
  base : B ≤ w.heap.size
  limB : lim ≤ 1048576
  lenB : l.length ≤ lim
  tkB : tk ≤ 4000000000
/-- What a call may turn. -/
def SF (bt bb : Nat) (v : Value) (k : Nat) : Prop := k = bt ∨ k = bb ∨ v.ownBlock = some k
def Hat (v v' : Value) (w : World) : Prop := v'.ownBlock = v.ownBlock ∨ ∀ k, v'.ownBlock = some k → w.heap.size ≤ k
theorem Hat.refl (v : Value) (w : World) : Hat v v w := .inl rfl
theorem Hat.sf {bt bb : Nat} {v v' : Value} {w : World} (h : Hat v v' w) : ∀ b, b < w.heap.size → SF bt bb v' b → SF bt bb v b := fun b hb hs => by
  rcases hs with h1 | h1 | h1
  · exact .inl h1
  · exact .inr (.inl h1)
  · rcases h with h | h
    · exact .inr (.inr (h ▸ h1))
    · have := h b h1; omega
section
variable {w w' : World} {B bs bt bb : Nat} {v : Value} {lim : Nat} {l : List UInt8} {tk : Nat} {cl : Bool}
theorem SS.only {p : Nat → Prop} (h : SS w B bs bt bb v lim l tk cl) (ho : Only p w w') (hp : ∀ k, k = bs ∨ SF bt bb v k → ¬ p k) : SS w' B bs bt bb v lim l tk cl :=
  ⟨h.src.only ho (hp _ (.inl rfl)), h.st.only ho (hp _ (.inr (.inl rfl))), h.buf.only ho (hp _ (.inr (.inr (.inl rfl)))), own_only h.own ho fun k hk => hp _ (.inr (.inr (.inr hk))), Nat.le_trans h.base ho.size, h.limB, h.lenB, h.tkB⟩
theorem SS.below (h : SS w B bs bt bb v lim l tk cl) (hb : Below w.heap.size w w') : SS w' B bs bt bb v lim l tk cl := h.only (Only.of_below (p := fun _ => False) hb) fun _ _ x => x
theorem SS.lt (h : SS w B bs bt bb v lim l tk cl) : ∀ k, k = bs ∨ SF bt bb v k → k < w.heap.size := fun k hk => by
  rcases hk with rfl | rfl | rfl | hk
  · exact h.src.lt
  · exact h.st.lt
  · exact h.buf.lt
  · exact own_lt h.own k hk
theorem SS.ne_tb (h : SS w B bs bt bb v lim l tk cl) : bt ≠ bb := by
  rintro rfl
  have h1 := h.st
  have h2 := h.buf
  unfold Blk at h1 h2
  rw [h1] at h2
  cases h2
theorem SS.ne_st (h : SS w B bs bt bb v lim l tk cl) : bs ≠ bt := by
  rintro rfl
  have h1 := h.src
  have h2 := h.st
  unfold Blk at h1 h2
  rw [h1] at h2
  cases h2
theorem SS.ne_sb (h : SS w B bs bt bb v lim l tk cl) : bs ≠ bb := by
  rintro rfl
  have h1 := h.src
  have h2 := h.buf
  unfold Blk at h1 h2
  rw [h1] at h2
  cases h2
end
/-- A block that is no byte row is not the row's block. -/
theorem own_ne {w : World} {B n g : Nat} {t : TypeId} {v : Value} {xs : List Value} {cs : Array Value} (h : w.ownsRow B 5 1 v n xs) (hg : Blk w g t cs) (ht : t ≠ 5) : v.ownBlock ≠ some g := by
  rcases h.2 with ⟨rfl, _⟩ | ⟨g', cap, cur, rfl, _, hh, _⟩
  · simp [Value.ownBlock]
  · intro he
    have hgg : g' = g := by simpa [Value.ownBlock] using he
    subst hgg
    have hq : Blk w g' 5 cur := hh
    unfold Blk at hq hg
    rw [hq] at hg
    injection hg with hg
    injection hg with _ ht2
    exact ht ht2.symm

set_option maxRecDepth 100000 in
theorem none_nil (w : World) : Calls Try.prog 38 #[.pointer none] w fun e w' => e = .returned (.bool true) ∧ w = w' := by
  go_enter Try.func38, Try.ntmps38
  go_wp2_with fail
  go_ret
  exact ⟨rfl, rfl⟩
set_option maxRecDepth 100000 in
theorem none_zero (g : Nat) (w : World) (hg : Blk w g 56 #[.pointer none]) : Calls Try.prog 38 #[.pointer (some ⟨g, 0, none⟩)] w fun e w' => e = .returned (.bool true) ∧ w = w' := by
  have h0 := hg.cell 0
  simp at h0
  clear hg
  go_enter Try.func38, Try.ntmps38
  go_wp2_with fail
  go_ret
  exact ⟨rfl, rfl⟩
set_option maxRecDepth 100000 in
theorem none_some (g bt : Nat) (w : World) (hg : Blk w g 56 #[.pointer (some ⟨bt, 0, none⟩)]) : Calls Try.prog 38 #[.pointer (some ⟨g, 0, none⟩)] w fun e w' => e = .returned (.bool false) ∧ w = w' := by
  have h0 := hg.cell 0
  simp at h0
  clear hg
  go_enter Try.func38, Try.ntmps38
  go_wp2_with fail
  go_ret
  exact ⟨rfl, rfl⟩
/-- There is no source at p. -/
def NoSrc (p : Option Addr) (w : World) : Prop := ∀ W, Below w.heap.size w W → Calls Try.prog 38 #[.pointer p] W fun e w' => e = .returned (.bool true) ∧ W = w'
theorem NoSrc.nil (w : World) : NoSrc none w := fun W _ => none_nil W
theorem NoSrc.zero {g : Nat} {w : World} (hg : Blk w g 56 #[.pointer none]) : NoSrc (some ⟨g, 0, none⟩) w := fun W hb => none_zero g W (hg.below hb hg.lt)
theorem NoSrc.below {p : Option Addr} {w w' : World} (h : NoSrc p w) (hb : Below w.heap.size w w') : NoSrc p w' := fun W h2 => h W (hb.trans (h2.mono hb.size))

theorem blk_row {W : World} {g : Nat} {cs : Array Value} {t : TypeId} {P : Program} {fn : Func} {p : Tmp} {ty : TypeId} (h : fn.results = #[.cell p ty]) (tmps : Array Value) (d : TypeDesc)
    (hp : tmps.getD p undef = .pointer (some ⟨g, 0, none⟩)) (hg : Blk W g t cs) (hu : P.underlying ty = some d) (hd : (match d with | .struct _ | .array _ _ => true | _ => false) = true) (hi : (P.info? ty).map (·.size) = some cs.size) :
    (results fn tmps).run P W = .ok (.agg cs) W := results_cell_row h tmps W g t cs (0, 0) d hp hg hu hd hi

set_option maxRecDepth 100000 in
set_option maxHeartbeats 1000000 in
theorem get_none (p : Option Addr) (w : World) (hn : NoSrc p w) : Calls Try.prog 32 #[.pointer p] w fun e w' => e = .returned (.agg #[.pointer none, .int .i64 0, .bool false]) ∧ Below w.heap.size w w' := by
  have C := Lib.hid (hn (w.alloc (.cells #[.pointer none, .int .i64 0, .bool false] 65)) ((Below.refl _ w).alloc (Nat.le_refl _) _))
  clear hn
  go_enter Try.func32, Try.ntmps32
  go_wp2_with (go_at_call 38; (with_reducible refine C.out.mono ?_); rintro e w1 ⟨rfl, rfl⟩)
  have hk := Blk.new w 65 #[.pointer none, .int .i64 0, .bool false]
  have hb := (Below.refl w.heap.size w).alloc (Nat.le_refl _) (.cells #[.pointer none, .int .i64 0, .bool false] 65)
  refine bodyPost_ret (v := .agg #[.pointer none, .int .i64 0, .bool false]) ?_ rfl ⟨rfl, ?_⟩
  · simp [results, Try.results32, go_sem]
  · exact hb
set_option maxRecDepth 100000 in
set_option maxHeartbeats 1000000 in
theorem get_some (bs bt bb : Nat) (lim : Nat) (cl : Bool) (w : World) (h1 : Blk w bs 56 #[.pointer (some ⟨bt, 0, none⟩)]) (h2 : Blk w bt 65 #[.pointer (some ⟨bb, 0, none⟩), .int .i64 lim, .bool cl]) :
    Calls Try.prog 32 #[.pointer (some ⟨bs, 0, none⟩)] w fun e w' => e = .returned (.agg #[.pointer (some ⟨bb, 0, none⟩), .int .i64 lim, .bool cl]) ∧ Below w.heap.size w w' := by
  have hb : Below w.heap.size w (w.alloc (.cells #[.pointer none, .int .i64 0, .bool false] 65)) := (Below.refl _ w).alloc (Nat.le_refl _) _
  have C := Lib.hid (none_some bs bt _ (h1.below hb h1.lt))
  have e0 := h1.cell 0
  have f0 := h2.cell 0
  have f1 := h2.cell 1
  have f2 := h2.cell 2
  simp at e0 f0 f1 f2
  have l1 := h1.lt
  have l2 := h2.lt
  have HB := Lib.hid hb
  clear h1 h2 hb
  go_enter Try.func32, Try.ntmps32
  go_wp2_with (go_at_call 38; (with_reducible refine C.out.mono ?_); rintro e w1 ⟨rfl, rfl⟩)
  refine bodyPost_ret (v := .agg #[.pointer (some ⟨bb, 0, none⟩), .int .i64 lim, .bool cl]) ?_ rfl ⟨rfl, ?_⟩
  · simp [results, Try.results32, go_sem]
  · exact (Below.refl _ w).alloc (Nat.le_refl _) _
end Go.Proofs.Ythkpmbgclllnjaa
