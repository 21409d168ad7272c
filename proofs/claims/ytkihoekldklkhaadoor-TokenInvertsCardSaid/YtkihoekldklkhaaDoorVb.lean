/- Plain laws of the scanner: tokens one behind the other are scanned as they were. -/
import Derived.Test.YtkihoekldklkhaaDoorVa
import Derived.Test.YtkihoekldklkhaaDoorTr
namespace Go.Proofs.YtkihoekldklkhaaDoor
open Go.RowKit
set_option linter.unusedVariables false
set_option linter.unusedSimpArgs false

theorem headP_app {p : Int → Bool} (hp : p ((32 : UInt8).toNat : Int) = false) (w y : List UInt8) : headP p (w ++ 32 :: y) = headP p w := by
  cases w with
  | nil => simpa [headP] using hp
  | cons c w => simp [headP]
theorem runL_app {p : Int → Bool} (hp : p ((32 : UInt8).toNat : Int) = false) : ∀ (M : Nat) (w y : List UInt8), runL p M w = w.length → runL p M (w ++ 32 :: y) = w.length
  | 0, w, y, h => by unfold runL at h ⊢; exact h
  | M + 1, [], y, h => by
    rw [List.nil_append]
    unfold runL
    rw [if_neg (by rw [hp]; simp)]
    rfl
  | M + 1, c :: w, y, h => by
    rw [List.cons_append]
    unfold runL at h ⊢
    split at h
    · rename_i q
      rw [if_pos q, runL_app hp M w y (by simpa using h)]
      rfl
    · simp at h
theorem cntL_app {p : Int → Bool} : ∀ (w y : List UInt8), cntL p w < w.length → cntL p (w ++ y) = cntL p w
  | [], y, h => by simp at h
  | c :: w, y, h => by
    rw [List.cons_append]
    rw [cntL_cons] at h ⊢
    rw [cntL_cons]
    split
    · rename_i q
      rw [if_pos q] at h
      rw [cntL_app w y (by simpa using h)]
    · rfl
theorem digsL_app (base : Int) (al : Bool) : ∀ (w y : List UInt8) (v : Int) (n k : Nat) (u : Int), digsL base al w v n = .ok k u (n + w.length) → digsL base al (w ++ 32 :: y) v n = .ok k u (n + w.length)
  | [], y, v, n, k, u, h => by
    unfold digsL at h
    rw [List.nil_append]
    unfold digsL
    have e1 : hexI ((32 : UInt8).toNat : Int) = -1 := by decide
    have e2 : worI ((32 : UInt8).toNat : Int) = false := by decide
    rw [if_neg (by rw [e1]; omega), if_neg (by rw [e2]; simp)]
    exact h
  | c :: w, y, v, n, k, u, h => by
    rw [List.cons_append]
    unfold digsL at h ⊢
    split at h
    · split at h
      · cases h
      · split at h
        · rename_i h1 h2 h3
          rw [if_pos h1, if_neg h2, if_pos h3]
          rw [List.length_cons] at h ⊢
          have e : n + (w.length + 1) = (n + 1) + w.length := by omega
          rw [e] at h ⊢
          exact digsL_app base al w y _ _ k u h
        · cases h
    · split at h
      · cases h
      · injection h with _ _ h3
        rw [List.length_cons] at h3
        omega
theorem drop_app1 {w : List UInt8} (i : Nat) (y : List UInt8) (h : i ≤ w.length) : (w ++ y).drop i = w.drop i ++ y := List.drop_append_of_le_length h
/-- A token stands there, too, when a space follows. -/
theorem tok_app {w : List UInt8} {k : Nat} {v : Int} (y : List UInt8) (h : tokL w = .ok k v w.length) : tokL (w ++ 32 :: y) = .ok k v w.length := by
  have hn := (tokL_ok h).1
  unfold tokL at h ⊢
  rw [headP_app (by decide), headP_app (by decide), headP_app (by decide), headP_app (by decide)]
  split at h
  · rename_i q; rw [if_pos q]
    unfold wordL at h ⊢
    split at h
    · cases h
    · injection h with e1 e2 e3
      rw [runL_app (by decide) _ _ _ e3]
      have : (w ++ 32 :: y).drop w.length = 32 :: y := by simp
      rw [this, if_neg (by have : headP worI (32 :: y) = false := by (show worI ((32 : UInt8).toNat : Int) = false); decide
                           rw [this]; simp), e1, e2]
  · rename_i q; rw [if_neg q]
    split at h
    · rename_i q1; rw [if_pos q1]
      unfold numL at h ⊢
      rw [headP_app (by decide), drop_app1 1 _ (by omega), headP_app (by decide)]
      split at h
      · rename_i q2
        have h2 := headP_drop q2.2
        rw [if_pos q2, drop_app1 2 _ (by omega), headP_app (by decide)]
        split at h
        · rename_i q3
          rw [if_pos q3]
          have e : w.length = 2 + (w.drop 2).length := by rw [List.length_drop]; omega
          rw [e] at h ⊢
          exact digsL_app _ _ _ _ _ _ _ _ h
        · cases h
      · rename_i q2
        rw [if_neg q2]
        have e : w.length = 0 + w.length := by omega
        rw [e] at h ⊢
        exact digsL_app _ _ _ _ _ _ _ _ h
    · rename_i q1; rw [if_neg q1]
      split at h
      · rename_i q2; rw [if_pos q2]
        unfold quoL at h ⊢
        split at h
        · rename_i q3
          injection h with e1 e2 e3
          have hl : (w.drop 1).length = w.length - 1 := List.length_drop ..
          rw [drop_app1 1 _ (by omega), cntL_app _ _ (by omega), drop_app1 _ _ (by omega), headP_app (by decide), if_pos q3, e1, e2, e3]
        · cases h
      · rename_i q2; rw [if_neg q2]
        split at h
        · rename_i q3; rw [if_pos q3]
          unfold symL at h ⊢
          have ht : twoL (w ++ 32 :: y) = twoL w := by
            unfold twoL
            rw [headP_app (by decide), headP_app (by decide), drop_app1 1 _ (by omega), headP_app (by decide), headP_app (by decide)]
          rw [ht]
          exact h
        · cases h
/-- The first byte of a token is no blank. -/
theorem tok_first {c : UInt8} {w : List UInt8} {k : Nat} {v : Int} {n : Nat} (h : tokL (c :: w) = .ok k v n) (y : List UInt8) : skipL false (c :: y) = 0 := by
  have key : ∀ d : UInt8, d = 32 ∨ d = 9 ∨ d = 10 ∨ d = 13 ∨ d = 35 → tokL (d :: w) = .bad 0 := by
    intro d hd
    unfold tokL
    have hf : ∀ p : Int → Bool, headP p (d :: w) = p (d.toNat : Int) := fun _ => rfl
    simp only [hf]
    rcases hd with rfl | rfl | rfl | rfl | rfl <;> (rw [if_neg (by decide), if_neg (by decide), if_neg (by decide), if_neg (by decide)])
  have hne : ¬ (c = 32 ∨ c = 9 ∨ c = 10 ∨ c = 13 ∨ c = 35) := fun hd => by rw [key c hd] at h; cases h
  unfold skipL
  have hx : ∀ (n : Nat) (hn : n < 256), (c.toNat : Int) = n → c = UInt8.ofNat n := fun n hn e => by
    apply UInt8.toNat_inj.1
    rw [UInt8.toNat_ofNat']
    omega
  have hb : ¬ blkI c.toNat = true := fun hb => by
    unfold blkI at hb
    simp at hb
    refine hne ?_
    rcases hb with ((hb | hb) | hb) | hb
    · left; exact hx 32 (by decide) (by omega)
    · right; left; exact hx 9 (by decide) (by omega)
    · right; right; left; exact hx 10 (by decide) (by omega)
    · right; right; right; left; exact hx 13 (by decide) (by omega)
  rw [if_neg hb, if_neg (fun e => hne (.inr (.inr (.inr (.inr e)))))]
def whK (t : Tk) : List UInt8 := wholeL (t.k : Int) t.t
/-- A token whose text is a token. -/
structure GoodT (t : Tk) : Prop where
  h : tokL (whK t) = .ok t.k t.v (whK t).length
  tx : txtL t.k (whK t) (whK t).length = t.t
theorem GoodT.pos {t : Tk} (h : GoodT t) : 0 < (whK t).length := (tokL_ok h.h).1
theorem GoodT.skip {t : Tk} (h : GoodT t) (y : List UInt8) : skipL false (whK t ++ y) = 0 := by
  have hp := h.pos
  have h1 := h.h
  generalize whK t = w at *
  cases w with
  | nil => simp at hp
  | cons c w => exact tok_first h1 _
theorem txt_take {k : Nat} {r : List UInt8} {n : Nat} (m : List UInt8) (h : n ≤ r.length) : txtL k (r ++ m) n = txtL k r n := by
  unfold txtL
  split
  · rw [List.take_append_of_le_length (by omega)]
  · rw [List.take_append_of_le_length (by omega)]
theorem headI {x : Nat} {r : List UInt8} (h : headP (isI (x : Int)) r = true) (hx : x < 256) : ∃ r', r = UInt8.ofNat x :: r' := by
  cases r with
  | nil => cases h
  | cons c r =>
    refine ⟨r, ?_⟩
    have h2 : isI (x : Int) c.toNat = true := h
    unfold isI at h2
    simp at h2
    have : c = UInt8.ofNat x := by
      apply UInt8.toNat_inj.1
      rw [UInt8.toNat_ofNat']
      omega
    rw [this]
theorem whole_of {r : List UInt8} {k : Nat} {v : Int} {n : Nat} (h : tokL r = .ok k v n) : wholeL (k : Int) (txtL k r n) = r.take n := by
  by_cases hk : k = 3
  · subst hk
    unfold tokL at h
    split at h
    · have := kind_of_wordL h; omega
    · split at h
      · have := kind_of_numL h; omega
      · split at h
        · rename_i q
          unfold quoL at h
          split at h
          · rename_i q2
            injection h with _ _ e3
            obtain ⟨r1, rfl⟩ := headI (x := 34) q (by decide)
            have hd : (UInt8.ofNat 34 :: r1).drop 1 = r1 := rfl
            rw [hd] at q2 e3
            generalize cntL quoI r1 = j at *
            obtain ⟨r2, hr2⟩ := headI (x := 34) q2 (by decide)
            subst e3
            have h34 : UInt8.ofNat 34 = 34 := rfl
            rw [h34] at hr2 ⊢
            have e1 : r1[j]? = some 34 := by
              have : (r1.drop j)[0]? = some 34 := by rw [hr2]; rfl
              rwa [List.getElem?_drop, Nat.add_zero] at this
            have e2 : txtL 3 ((34 : UInt8) :: r1) (j + 2) = r1.take j := by
              unfold txtL
              rw [if_pos rfl]
              have : j + 2 - 1 = j + 1 := by omega
              rw [this, List.take_succ_cons]
              rfl
            rw [e2]
            unfold wholeL
            rw [if_pos (by rfl)]
            rw [List.take_succ_cons, List.take_add_one, e1]
            rfl
          · cases h
        · split at h
          · unfold symL at h; injection h with e1; omega
          · cases h
  · unfold wholeL txtL
    rw [if_neg hk, if_neg (by omega)]
theorem good_of {r : List UInt8} {k : Nat} {v : Int} {n a : Nat} (h : tokL r = .ok k v n) : GoodT ⟨k, txtL k r n, v, a⟩ ∧ whK ⟨k, txtL k r n, v, a⟩ = r.take n := by
  have hw : whK ⟨k, txtL k r n, v, a⟩ = r.take n := whole_of h
  have hok := tokL_ok h
  have hl : (r.take n).length = n := by rw [List.length_take]; omega
  refine ⟨⟨?_, ?_⟩, hw⟩
  · rw [hw, hl]
    exact tok_take h (Nat.le_refl _)
  · rw [hw, hl]
    show txtL k (r.take n) n = txtL k r n
    unfold txtL
    split
    · rw [List.take_take, Nat.min_eq_left (by omega)]
    · rw [List.take_take, Nat.min_self]
def lenW (ts : List Tk) : Nat := (ts.map fun t => (whK t).length).sum
theorem scan_good : ∀ (m : Nat) (r : List UInt8) (i : Nat), r.length ≤ m → (∀ t ∈ (scanL i r).1, GoodT t) ∧ lenW (scanL i r).1 ≤ r.length := by
  intro m
  induction m with
  | zero =>
    intro r i hm
    have : r = [] := List.length_eq_zero_iff.1 (by omega)
    subst this
    rw [scanL_fin (by simp)]
    exact ⟨fun t ht => by simp at ht, by simp [lenW]⟩
  | succ m ih =>
    intro r i hm
    have hs := skipL_le false r
    by_cases hr : r.drop (skipL false r) = []
    · rw [scanL_fin hr]
      exact ⟨fun t ht => by simp at ht, by simp [lenW]⟩
    cases ht : tokL (r.drop (skipL false r)) with
    | bad n =>
      rw [scanL_bad hr ht]
      exact ⟨fun t ht => by simp at ht, by simp [lenW]⟩
    | ok k v n =>
      rw [scanL_tok hr ht]
      have hn := tokL_ok ht
      have hl : n ≤ r.length - skipL false r := by have := hn.2.1; rwa [List.length_drop] at this
      obtain ⟨g1, g2⟩ := good_of (a := i + skipL false r) ht
      obtain ⟨i1, i2⟩ := ih ((r.drop (skipL false r)).drop n) (i + skipL false r + n) (by rw [List.length_drop, List.length_drop]; omega)
      refine ⟨fun t ht => ?_, ?_⟩
      · rcases List.mem_cons.1 ht with rfl | ht
        · exact g1
        · exact i1 t ht
      · unfold lenW at i2 ⊢
        rw [List.map_cons, List.sum_cons, g2]
        rw [List.length_drop, List.length_drop] at i2
        have : ((r.drop (skipL false r)).take n).length = n := by rw [List.length_take, List.length_drop]; omega
        rw [this]
        omega
/-! Tokens one behind the other. -/
def SepOk (s : List UInt8) : Prop := ∀ y, skipL false (s ++ y) = s.length + skipL false y
def catF (f : Nat → List UInt8) : Nat → List Tk → List UInt8
  | _, [] => []
  | j, t :: ts => f j ++ (whK t ++ catF f (j + 1) ts)
theorem catF_snoc (f : Nat → List UInt8) (t : Tk) : ∀ (ts : List Tk) (j : Nat), catF f j (ts ++ [t]) = catF f j ts ++ f (j + ts.length) ++ whK t
  | [], j => by simp [catF]
  | s :: ts, j => by
    rw [List.cons_append, catF, catF_snoc f t ts (j + 1), catF]
    have e : j + (s :: ts).length = j + 1 + ts.length := by rw [List.length_cons]; omega
    rw [e]
    simp [List.append_assoc]
theorem catF_len (f : Nat → List UInt8) (M : Nat) (hf : ∀ m, (f m).length ≤ M) : ∀ (ts : List Tk) (j : Nat), (catF f j ts).length ≤ ts.length * M + lenW ts
  | [], j => by simp [catF]
  | t :: ts, j => by
    have := catF_len f M hf ts (j + 1)
    have h1 := hf j
    unfold lenW at this ⊢
    rw [catF, List.length_append, List.length_append, List.length_cons, List.map_cons, List.sum_cons, Nat.add_mul]
    omega
def keyT (t : Tk) : Nat × List UInt8 × Int := (t.k, t.t, t.v)
theorem scan_cat (e : List UInt8) (he : e = [] ∨ ∃ y, e = 32 :: y) (hes : skipL false e = e.length) (f : Nat → List UInt8) (hf : ∀ m, SepOk (f m)) (hf2 : ∀ m, 0 < m → ∃ y, f m = 32 :: y) :
    ∀ (ts : List Tk) (j i : Nat), (∀ t ∈ ts, GoodT t) → (scanL i (catF f j ts ++ e)).2 = none ∧ (scanL i (catF f j ts ++ e)).1.map keyT = ts.map keyT
  | [], j, i, _ => by
    have : catF f j [] ++ e = e := rfl
    rw [this, scanL_fin (by rw [hes]; simp)]
    exact ⟨rfl, rfl⟩
  | t :: ts, j, i, hg => by
    have hgt := hg t (List.mem_cons_self ..)
    have ih := scan_cat e he hes f hf hf2 ts (j + 1) (i + (f j).length + (whK t).length) fun x hx => hg x (List.mem_cons_of_mem _ hx)
    have hY : (catF f (j + 1) ts ++ e) = [] ∨ ∃ y, catF f (j + 1) ts ++ e = 32 :: y := by
      cases ts with
      | nil => exact he
      | cons s ts =>
        obtain ⟨y, hy⟩ := hf2 (j + 1) (by omega)
        right
        rw [catF, hy]
        exact ⟨_, rfl⟩
    have hc : catF f j (t :: ts) ++ e = f j ++ (whK t ++ (catF f (j + 1) ts ++ e)) := by rw [catF]; simp [List.append_assoc]
    generalize catF f (j + 1) ts ++ e = Y at *
    rw [hc]
    have hsk : skipL false (f j ++ (whK t ++ Y)) = (f j).length := by rw [hf j, hgt.skip]; rfl
    have hdr : (f j ++ (whK t ++ Y)).drop (skipL false (f j ++ (whK t ++ Y))) = whK t ++ Y := by rw [hsk]; simp
    have htk : tokL (whK t ++ Y) = .ok t.k t.v (whK t).length := by
      rcases hY with rfl | ⟨y, rfl⟩
      · rw [List.append_nil]; exact hgt.h
      · exact tok_app y hgt.h
    have hne : (f j ++ (whK t ++ Y)).drop (skipL false (f j ++ (whK t ++ Y))) ≠ [] := by
      rw [hdr]
      intro q
      have := hgt.pos
      rw [List.append_eq_nil_iff] at q
      rw [q.1] at this
      simp at this
    rw [scanL_tok hne (by rw [hdr]; exact htk), hdr, hsk]
    have hd2 : (whK t ++ Y).drop (whK t).length = Y := by simp
    rw [hd2]
    refine ⟨ih.1, ?_⟩
    rw [List.map_cons, ih.2]
    have : txtL t.k (whK t ++ Y) (whK t).length = t.t := by rw [txt_take _ (Nat.le_refl _), hgt.tx]
    rw [this]
    rfl
/-- The tokens as a list of tokens. -/
def tdOf (L : List UInt8) (t : Tk) : Td := ⟨t.k, t.t, t.v, ((lcOf L t.a).1 : Int), ((lcOf L t.a).2 : Int)⟩
theorem tdOf_C (L : List UInt8) (t : Tk) : TdC (tdOf L t) = TkC L t := rfl
theorem tdOf_flat (L : List UInt8) (ts : List Tk) : (ts.map (tdOf L)).flatMap TdC = ts.flatMap (TkC L) := by
  induction ts with
  | nil => rfl
  | cons t ts ih => rw [List.map_cons, List.flatMap_cons, List.flatMap_cons, ih, tdOf_C]
theorem tdOf_wh (L : List UInt8) (t : Tk) : (tdOf L t).wh = whK t := rfl
def fJ (m : Nat) : List UInt8 := if m = 0 then [] else [32]
theorem fJ_ok (m : Nat) : SepOk (fJ m) := fun y => by
  unfold fJ
  split
  · simp
  · have : ([32] ++ y : List UInt8) = 32 :: y := rfl
    rw [this]
    conv => lhs; unfold skipL
    rw [if_pos (by decide)]
    simp; omega
theorem fJ_32 (m : Nat) (h : 0 < m) : ∃ y, fJ m = 32 :: y := ⟨[], by unfold fJ; rw [if_neg (by omega)]⟩
theorem good_one (L : List UInt8) {t : Tk} (h : GoodT t) : oneT (tdOf L t) = true := by
  have hs := scan_cat [] (.inl rfl) rfl fJ fJ_ok fJ_32 [t] 0 0 fun x hx => by rw [List.mem_singleton.1 hx]; exact h
  have e : catF fJ 0 [t] ++ [] = whK t := by simp [catF, fJ]
  rw [e] at hs
  obtain ⟨h1, h2⟩ := hs
  obtain ⟨R, hR⟩ : ∃ R, scanL 0 (whK t) = R := ⟨_, rfl⟩
  rw [hR] at h1 h2
  obtain ⟨ys, o⟩ := R
  simp only at h1 h2
  subst h1
  cases ys with
  | nil => cases h2
  | cons y ys => cases ys with
    | cons z zs => simp at h2
    | nil =>
      rw [oneT_one (y := y) (by rw [tdOf_wh]; exact hR)]
      simp [keyT] at h2
      obtain ⟨a, b, c⟩ := h2
      simp [tdOf, a, b, c]
theorem cat_join (L : List UInt8) : ∀ (ts : List Tk) (m : Nat), catF fJ (m + 1) ts = Lib.joinTail [32] (ts.map whK)
  | [], m => rfl
  | t :: ts, m => by
    have e : Lib.joinTail [32] ((t :: ts).map whK) = [32] ++ whK t ++ Lib.joinTail [32] (ts.map whK) := by simp [Lib.joinTail]
    rw [catF, cat_join L ts (m + 1), e]
    simp [fJ]
theorem joinT_cat (L : List UInt8) (ts : List Tk) : joinT (ts.map (tdOf L)) = catF fJ 0 ts := by
  unfold joinT
  have e : (ts.map (tdOf L)).map Td.wh = ts.map whK := by rw [List.map_map]; rfl
  rw [e]
  cases ts with
  | nil => rfl
  | cons t ts => rw [List.map_cons, Lib.join_cons, catF, cat_join L ts 0]; simp [fJ]
/-- What stands between the tokens: a space, and one of four. -/
def bl4 (k : Nat) : List UInt8 := if k = 0 then [] else if k = 1 then [10] else if k = 2 then [9] else [35, 32, 97, 32, 34, 32, 98, 10]
def fW (b : Nat → Nat) (m : Nat) : List UInt8 := 32 :: bl4 (b m)
theorem sk_sp (y : List UInt8) : skipL false (32 :: y) = skipL false y + 1 := by
  conv => lhs; unfold skipL
  rw [if_pos (by decide)]
theorem fW_ok (b : Nat → Nat) (m : Nat) : SepOk (fW b m) := fun y => by
  unfold fW
  rw [List.cons_append, sk_sp, List.length_cons]
  unfold bl4
  split
  · simp; omega
  · split
    · have e : skipL false ([10] ++ y) = skipL false y + 1 := by rfl
      rw [e]; simp; omega
    · split
      · have e : skipL false ([9] ++ y) = skipL false y + 1 := by rfl
        rw [e]; simp; omega
      · have e : skipL false ([35, 32, 97, 32, 34, 32, 98, 10] ++ y) = skipL false y + 1 + 1 + 1 + 1 + 1 + 1 + 1 + 1 := by rfl
        rw [e]; simp; omega
theorem fW_32 (b : Nat → Nat) (m : Nat) (h : 0 < m) : ∃ y, fW b m = 32 :: y := ⟨_, rfl⟩
theorem fW_len (b : Nat → Nat) (m : Nat) : (fW b m).length ≤ 9 := by unfold fW bl4; rw [List.length_cons]; split <;> (try split) <;> (try split) <;> simp
theorem end_sk : skipL false [32, 35] = [(32 : UInt8), 35].length := by rfl
/-- The two scans of TokenInverts give the tokens again. -/
theorem scan_join {L : List UInt8} {ts : List Tk} (hg : ∀ t ∈ ts, GoodT t) : (scanL 0 (joinT (ts.map (tdOf L)))).2 = none ∧ (scanL 0 (joinT (ts.map (tdOf L)))).1.map keyT = ts.map keyT := by
  have := scan_cat [] (.inl rfl) rfl fJ fJ_ok fJ_32 ts 0 0 hg
  rw [List.append_nil] at this
  rw [joinT_cat]
  exact this
theorem scan_wide {b : Nat → Nat} {ts : List Tk} (hg : ∀ t ∈ ts, GoodT t) : (scanL 0 (catF (fW b) 0 ts ++ [32, 35])).2 = none ∧ (scanL 0 (catF (fW b) 0 ts ++ [32, 35])).1.map keyT = ts.map keyT :=
  scan_cat [32, 35] (.inr ⟨_, rfl⟩) end_sk (fW b) (fW_ok b) (fW_32 b) ts 0 0 hg
end Go.Proofs.YtkihoekldklkhaaDoor
