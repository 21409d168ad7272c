/- Appends, by an equation on the run: laid once, used outside and inside a fence. Over any program. -/
import Derived.Test.YtkihoekldklkhaaDoorBase
import Derived.Test.YtkihoekldklkhaaDoorLaws
import Derived.Maps.AppendAt
namespace Go.Proofs.YtkihoekldklkhaaDoor
open Go.RowKit

section
variable {P : Program} {w : World} {ops : Array Oper} {rest : List Oper} {o : Oper} {a : Act} {Q : Exit → Act → World → Prop}

theorem wpList_run (hg : o.guard = none) (s x : Operand) (t : TypeId) (hop : o.op = Op.call { callee := Callee.builtin Builtin.append, args := #[s, x], argTypes := #[t, t] })
    {v u v' : Value} {w' : World} (hs : a.eval s = v) (hx : a.eval x = u) (hrun : (Builtin.append_ #[t, t] o.type #[v, u]).run P w = .ok v' w') (hK : wpList P ops Q rest (a.put o.dst v') w') : wpList P ops Q (o :: rest) a w := by
  refine wpList_plain hg fun K hK' => ?_
  unfold Oper.wp
  simp [execOp, hop, resolve, invoke, builtin, hs, hx, hrun, Result.andThen]
  exact hK' _ _ hK

theorem wpListIn_run {F : Fence} {nn : Nat} (hg : o.guard = none) (s x : Operand) (t : TypeId) (hop : o.op = Op.call { callee := Callee.builtin Builtin.append, args := #[s, x], argTypes := #[t, t] })
    {v u v' : Value} {w' : World} (hs : a.eval s = v) (hx : a.eval x = u) (hrun : (Builtin.append_ #[t, t] o.type #[v, u]).run P w = .ok v' w') (hK : wpListIn F nn P ops Q rest (a.put o.dst v') w') : wpListIn F nn P ops Q (o :: rest) a w := by
  refine wpListIn_plain hg fun K hK' => ?_
  unfold Oper.wpIn
  refine ⟨?_, ?_⟩
  · simp [Oper.about, hop, resolve, Target.leads, Sem.run_pure]
  · rw [Oper.semAt_plain F _ _ (by rw [hop]; intro c hc'; cases hc')]
    simp [execOp, hop, resolve, invoke, builtin, hs, hx, hrun, Result.andThen]
    exact hK' _ _ hK
end

/-- What is known of an element type of one cell. -/
structure El (P : Program) (t e : TypeId) (bytes : Nat) : Prop where
  ht : P.underlying t = some (.slice e)
  hi : ∃ i z, P.info? e = some i ∧ i.zero = some z ∧ i.size = 1 ∧ i.bytes = bytes ∧ z.cells.size = 1

section
variable {P : Program} {w : World} {t ty e : TypeId} {bytes : Nat}

theorem run_app_nil (hE : El P t e bytes) {v : Value} (hv : (∃ A n c, v = .slice A n c ∧ n ≤ c ∧ (A = none → n = 0 ∧ c = 0))) (c : Nat) : (Builtin.append_ #[t, t] ty #[v, .slice none 0 c]).run P w = .ok v w := by
  obtain ⟨i, z, hi, hz, hs, hb, hzs⟩ := hE.hi
  obtain ⟨A, n, c', rfl, hn, hA⟩ := hv
  cases A with
  | none =>
    obtain ⟨rfl, rfl⟩ := hA rfl
    simp [Builtin.append_, run_underlying hE.ht, sizeOf, typeInfo, hi, Builtin.lenOf, Builtin.firstCells]
  | some b => simp [Builtin.append_, run_underlying hE.ht, sizeOf, typeInfo, hi, Builtin.lenOf, Builtin.firstCells, hn, storeCells]

/-- Onto a row of the call's own, or nil: it may grow. -/
theorem run_app_own (hE : El P t e bytes) {base n m c : Nat} {v : Value} {xs news : List Value} {A : Option Addr} (hown : w.ownsRow base e 1 v n xs) (hx : Holds w A m news) (h1 : ∀ u ∈ news, u.oneCell' = true)
    (h63 : n + m ≤ maxLen) (hby : (n + m) * bytes ≤ 140737488355328) (hbase : base ≤ w.heap.size) :
    ∃ v' w', (Builtin.append_ #[t, t] ty #[v, .slice A m c]).run P w = .ok v' w' ∧ w'.ownsRow base e 1 v' (n + m) (xs ++ news) ∧ w.grownBy w' v.ownBlock ∧ (v'.ownBlock = v.ownBlock ∨ v'.ownBlock = some w.heap.size) := by
  obtain ⟨i, z, hi, hz, hs, hb, hzs⟩ := hE.hi
  cases A with
  | none =>
    obtain ⟨rfl, _⟩ := hx.2.1 rfl
    obtain rfl : news = [] := List.eq_nil_of_length_eq_zero (by simpa using hx.1)
    obtain ⟨A', cap, rfl, hn, _, hA, _⟩ := own_form hown
    exact ⟨_, w, run_app_nil hE ⟨_, _, _, rfl, hn, hA⟩ c, by simpa using hown, World.grownBy.refl w _, .inl rfl⟩
  | some ad =>
    obtain ⟨v', w', h, h2, h3, _, h5⟩ := run_append_own_at (P := P) w base t ty e i z 1 bytes hE.ht hi hz hs hb hzs (by omega) v n xs hown ad m c news hx.1 (fun j u hu => hx.2.2 ad rfl j u hu) h1 h63 hby hbase
    exact ⟨v', w', h, h2, h3, h5⟩

/-- Onto a row with room: the value is known. -/
theorem run_app_fits (hE : El P t e bytes) {base n m c cap g : Nat} {xs news : List Value} {A : Option Addr} (hown : w.ownsRow base e 1 (.slice (some ⟨g, 0, none⟩) n cap) n xs) (hx : Holds w A m news) (h1 : ∀ u ∈ news, u.oneCell' = true) (hroom : n + m ≤ cap) :
    ∃ w', (Builtin.append_ #[t, t] ty #[.slice (some ⟨g, 0, none⟩) n cap, .slice A m c]).run P w = .ok (.slice (some ⟨g, 0, none⟩) (n + m) cap) w' ∧ w'.ownsRow base e 1 (.slice (some ⟨g, 0, none⟩) (n + m) cap) (n + m) (xs ++ news) ∧ w.grownBy w' (some g) := by
  obtain ⟨i, z, hi, hz, hs, hb, hzs⟩ := hE.hi
  cases A with
  | none =>
    obtain ⟨rfl, _⟩ := hx.2.1 rfl
    obtain rfl : news = [] := List.eq_nil_of_length_eq_zero (by simpa using hx.1)
    exact ⟨w, run_app_nil hE ⟨_, _, _, rfl, by omega, fun h => (by cases h)⟩ c, by simpa using hown, World.grownBy.refl w _⟩
  | some ad => exact run_append_fits (P := P) w base t ty e i 1 hE.ht hi hs g n cap xs hown ad m c news hx.1 (fun j u hu => hx.2.2 ad rfl j u hu) h1 hroom

/-- Onto a slice that has no room: the elements lie in a new row. -/
theorem run_app_grows (hE : El P t e bytes) {n m c cap : Nat} {xs news : List Value} {A A' : Option Addr} (ho : Holds w A' n xs) (hcap : A' = none → cap = 0) (hx : Holds w A m news) (h1 : ∀ u ∈ news, u.oneCell' = true)
    (hfull : cap < n + m) (hnc : n ≤ cap) (h63 : n + m ≤ maxLen) (hby : (n + m) * bytes ≤ 140737488355328) :
    ∃ v' w', (Builtin.append_ #[t, t] ty #[.slice A' n cap, .slice A m c]).run P w = .ok v' w' ∧ w'.ownsRow w.heap.size e 1 v' (n + m) (xs ++ news) ∧ w.grownBy w' none := by
  obtain ⟨i, z, hi, hz, hs, hb, hzs⟩ := hE.hi
  cases A with
  | none => obtain ⟨rfl, _⟩ := hx.2.1 rfl; omega
  | some ad =>
    cases A' with
    | some b => exact run_append_arg_grows (P := P) w t ty e i z 1 bytes hE.ht hi hz hs hb hzs (by omega) b n cap xs ho.1 (fun j u hu => ho.2.2 b rfl j u hu) ad m c news hx.1 (fun j u hu => hx.2.2 ad rfl j u hu) hfull h63 hby
    | none =>
      obtain ⟨rfl, _⟩ := ho.2.1 rfl
      obtain rfl : xs = [] := List.eq_nil_of_length_eq_zero (by simpa using ho.1)
      obtain rfl := hcap rfl
      obtain ⟨v', w', hrun, r1, r2, _⟩ := run_append_own (P := P) w w.heap.size t ty e i z 1 bytes hE.ht hi hz hs hb hzs (by omega) (.slice none 0 0) 0 [] (World.ownsRow_nil w _ e 1) ad m c news hx.1 (fun j u hu => hx.2.2 ad rfl j u hu) h1 h63 hby (Nat.le_refl _)
      exact ⟨v', w', hrun, r1, r2⟩
end

theorem u8_one (l : List UInt8) : ∀ u ∈ l.map u8, u.oneCell' = true := by
  intro u hu
  obtain ⟨x, _, rfl⟩ := List.mem_map.1 hu
  rfl
theorem holds_own {w : World} {B n : Nat} {e : TypeId} {A : Option Addr} {c : Nat} {xs : List Value} (h : w.ownsRow B e 1 (.slice A n c) n xs) : Holds w A n xs := by
  obtain ⟨A', cap, hv, _, _, hA, hc⟩ := own_form h
  cases hv
  exact ⟨h.1, fun hn => ⟨(hA hn).1, (hA hn).1⟩, hc⟩
/-- A place of an own row behind its length. -/
theorem own_spare {w : World} {B n cap g k : Nat} {e : TypeId} {xs : List Value} (h : w.ownsRow B e 1 (.slice (some ⟨g, 0, none⟩) n cap) n xs) (hk : k < cap) : ∃ u, w.cell? ⟨g, k, none⟩ = some u ∧ w.frozen? ⟨g, k, none⟩ = false := by
  rcases h.2 with ⟨h0, _⟩ | ⟨g', cap', cur, hv, hg, hh, hn, hm, hs, ht⟩
  · cases h0
  · cases hv
    have hb : Blk w g e cur := hh
    have : k < cur.size := by omega
    exact ⟨cur[k], by rw [hb.cell]; simp [this], hb.frozen k⟩
theorem own_push {w : World} {B n cap g : Nat} {e : TypeId} {xs : List Value} (h : w.ownsRow B e 1 (.slice (some ⟨g, 0, none⟩) n cap) n xs) (hk : n < cap) (u : Value) : (w.setCell ⟨g, n, none⟩ u).ownsRow B e 1 (.slice (some ⟨g, 0, none⟩) (n + 1) cap) (n + 1) (xs ++ [u]) := by
  rcases h.2 with ⟨h0, _⟩ | ⟨g', cap', cur, hv, hg, hh, hn, hm, hs, ht⟩
  · cases h0
  · cases hv
    have hb : Blk w g e cur := hh
    have hz : n < cur.size := by omega
    have hx : xs.length = n := by have := h.1; omega
    refine ⟨by simp [hx], .inr ⟨g, cap, cur.setIfInBounds n u, rfl, hg, hb.set_ n u, by omega, hm, by simpa using hs, ?_⟩⟩
    rw [Nat.mul_one, Array.toList_setIfInBounds]
    rw [Nat.mul_one] at ht
    rw [← ht, List.take_succ_eq_append_getElem (by simpa using hz)]
    simp [List.take_set]
    rw [List.set_eq_of_length_le (by simp; omega)]
theorem own_prefix {w : World} {B n m cap g : Nat} {e : TypeId} {xs : List Value} (h : w.ownsRow B e 1 (.slice (some ⟨g, 0, none⟩) m cap) m xs) (hn : n ≤ m) : w.ownsRow B e 1 (.slice (some ⟨g, 0, none⟩) n cap) n (xs.take n) := by
  rcases h.2 with ⟨h0, _⟩ | ⟨g', cap', cur, hv, hg, hh, hnc, hm, hs, ht⟩
  · cases h0
  · cases hv
    have hx := h.1
    refine ⟨by simp; omega, .inr ⟨g, cap, cur, rfl, hg, hh, by omega, hm, hs, ?_⟩⟩
    rw [← ht, List.take_take]
    congr 1
    omega
theorem own_len {w : World} {B n k cap : Nat} {e : TypeId} {A : Option Addr} {xs : List Value} (h : w.ownsRow B e 1 (.slice A k cap) n xs) : k = n ∨ (A = none ∧ n = 0) := by
  rcases h.2 with ⟨h0, h1⟩ | ⟨g', cap'', cur, hv, _⟩
  · cases h0; exact .inr ⟨rfl, h1⟩
  · cases hv; exact .inl rfl
theorem El.mk' {P : Program} {t e : TypeId} {bytes : Nat} {z : Value} (ht : P.underlying t = some (.slice e)) (hi : (P.info? e).map (fun i => (i.zero, i.size, i.bytes)) = some (some z, 1, bytes)) (hz : z.cells.size = 1) : El P t e bytes := by
  obtain ⟨i0, hi0, hz0, hz1, hz2⟩ := info_parts hi
  exact ⟨ht, i0, z, hi0, hz0, hz1, hz2, hz⟩
end Go.Proofs.YtkihoekldklkhaaDoor
