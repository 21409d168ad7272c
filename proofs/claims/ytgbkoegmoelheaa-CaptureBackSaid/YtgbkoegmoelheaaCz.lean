/- The reference's Read. -/
import Derived.Test.YtgbkoegmoelheaaCy
namespace Go.Proofs.Ytgbkoegmoelheaa
open Go.RowKit
set_option linter.unusedVariables false
set_option linter.unusedSimpArgs false

theorem elA : ElS Try.prog 69 96 2 16 := ElS.mk' (z := .agg #[.int .i64 0, .int .i64 0]) Try.underlying69 (by kernel_rfl) rfl (by decide)
def acells (x : Fd) : List Value := [.int .i64 (x.at_ : Int), .int .i64 (x.l.length : Int)]
structure RJ (w wr : World) (xs : List Fd) (j : Nat) (s : RdP) (vl vg va : Value) (ds : List Pd) : Prop where
  po : PO w.heap.size wr vl ds
  eq : pks ds = s.l
  gs : wr.ownsRow w.heap.size 63 2 vg s.g.length (s.g.flatMap gcells)
  as_ : wr.ownsRow w.heap.size 96 2 va j ((xs.take j).flatMap acells)
  below : Below w.heap.size w wr
theorem own_some {w : World} {B n sz : Nat} {e : TypeId} {A : Option Addr} {c : Nat} {xs : List Value} (h : w.ownsRow B e sz (.slice A n c) n xs) (h0 : 0 < n) : A ≠ none := by
  obtain ⟨A', c', e, -, -, -, hg⟩ := own_formS h
  injection e with e1 e2 e3
  obtain ⟨g, hg2, -⟩ := hg h0
  rw [e1, hg2]
  simp
section
variable {w X W2 W3 W5 : World} {xs : List Fd} {j : Nat} {s : RdP} {vl vg va : Value} {ds : List Pd}
theorem RJ.below_ (h : RJ w X xs j s vl vg va ds) (hb : Below X.heap.size X W2) : RJ w W2 xs j s vl vg va ds :=
  ⟨h.po.below hb, h.eq, own_keeps h.gs fun k hk => hb.block k (own_lt h.gs k hk), own_keeps h.as_ fun k hk => hb.block k (own_lt h.as_ k hk), h.below.trans (hb.mono h.below.size)⟩
theorem PO.grownS {B B' n sz : Nat} {e : TypeId} {v v' : Value} {ys : List Value} (h : PO B X v ds) (k : X.ownsRow B' e sz v' n ys) (h31 : (31 : Nat) ≠ e) (h5 : (5 : Nat) ≠ e) {o : Obj} (hg : (X.alloc o).grownBy W2 v'.ownBlock) : PO B W2 v ds :=
  ⟨own_apartS h.own k h31 hg, fun p hp => own_apartS (h.data p hp) k h5 hg, h.rng⟩
theorem RJ.gap (h : RJ w X xs j s vl vg va ds) {o : Obj} {t : Nat} {vg2 : Value} (hown : W2.ownsRow w.heap.size 63 2 vg2 (s.g.length + 1) (s.g.flatMap gcells ++ [.int .i64 (s.e : Int), .int .i64 (t : Int)])) (hg : (X.alloc o).grownBy W2 vg.ownBlock) :
    RJ w W2 xs j ⟨s.l, s.g ++ [(s.e, t)], s.e⟩ vl vg2 va ds :=
  ⟨h.po.grownS h.gs (by decide) (by decide) hg, h.eq, by simpa [gcells] using hown, own_apartS h.as_ h.gs (by decide) hg, below_own (h.below.alloc h.below.size o) (by have := h.below.size; simp; omega) (own_alloc h.gs) hg⟩
theorem RJ.keepA (h : RJ w X xs j s vl vg va ds) (hg : X.grownBy W3 vl.ownBlock) : W3.ownsRow w.heap.size 96 2 va j ((xs.take j).flatMap acells) := own_keeps h.as_ fun q hq => hg.block q (own_lt h.as_ q hq) fun e => own_neS h.as_ h.po.own (by decide) q hq e.symm
theorem RJ.fin (h : RJ w X xs j s vl vg va ds) {x : Fd} {ds5 : List Pd} {v5 : Value} {B5 : Nat} (h5 : PO B5 X v5 ds5) (hx : xs[j]? = some x) (he : pks ds5 = x.l) (hB5 : w.heap.size ≤ B5) {vl2 va2 : Value} (hown : W3.ownsRow w.heap.size 31 3 vl2 (ds.length + ds5.length) (ds.flatMap Pd.cells ++ ds5.flatMap Pd.cells)) (hg : X.grownBy W3 vl.ownBlock) {o : Obj}
    (hown5 : W5.ownsRow w.heap.size 96 2 va2 (j + 1) ((xs.take j).flatMap acells ++ [.int .i64 (x.at_ : Int), .int .i64 (ds5.length : Int)])) (hg5 : (W3.alloc o).grownBy W5 va.ownBlock) :
    RJ w W5 xs (j + 1) ⟨s.l ++ x.l, s.g, x.en⟩ vl2 vg va2 (ds ++ ds5) := by
  have k5 : ∀ {B' m : Nat} {v : Value} {ys : List Value}, X.ownsRow B' 5 1 v m ys → W5.ownsRow B' 5 1 v m ys := fun hq => own_apartS (own_keeps hq fun q hk => hg.block q (own_lt hq q hk) fun e => own_neS hq h.po.own (by decide) q hk e.symm) (h.keepA hg) (by decide) hg5
  have hb3 := below_own h.below h.below.size h.po.own hg
  refine ⟨⟨?_, fun p hp => ?_, fun p hp => ?_⟩, ?_, own_apartS (own_keeps h.gs fun q hk => hg.block q (own_lt h.gs q hk) fun e => own_neS h.gs h.po.own (by decide) q hk e.symm) (h.keepA hg) (by decide) hg5, ?_, below_own (hb3.alloc hb3.size o) (by have := hb3.size; simp; omega) (own_alloc (h.keepA hg)) hg5⟩
  · rw [List.length_append, List.flatMap_append]
    exact own_apartS hown (h.keepA hg) (by decide) hg5
  · rcases List.mem_append.1 hp with h1 | h1
    · exact k5 (h.po.data p h1)
    · exact own_base (k5 (h5.data p h1)) hB5
  · rcases List.mem_append.1 hp with h1 | h1
    · exact h.po.rng p h1
    · exact h5.rng p h1
  · show (ds ++ ds5).map Pd.pk = s.l ++ x.l
    rw [List.map_append]
    exact congr (congrArg _ h.eq) he
  · have hl5 : ds5.length = x.l.length := by rw [← he]; simp [pks]
    rw [List.take_add_one, hx, List.flatMap_append]
    rw [hl5] at hown5
    simpa [acells] using hown5
end

/-- What the reference's Read returns. -/
def RReadR (w : World) (L : List UInt8) (n : Nat) (e : Ending) (w' : World) : Prop := ∃ xs vl vg va ds, xs = blks L 0 ∧ e = .returned (.tuple #[vl, vg, va]) ∧ PO w.heap.size w' vl ds ∧ pks ds = (rdAll xs).l ∧ w'.ownsRow w.heap.size 63 2 vg (endG (rdAll xs) n).length ((endG (rdAll xs) n).flatMap gcells) ∧ w'.ownsRow w.heap.size 96 2 va xs.length (xs.flatMap acells) ∧ Below w.heap.size w w'

set_option maxRecDepth 100000 in
set_option maxHeartbeats 8000000 in
theorem rread_any (A : Option Addr) (n c : Nat) (L : List UInt8) (w : World) (h : RB w A n c L) (hn : n ≤ 2000000) :
    Calls Try.prog 28 #[.slice A n c] w (RReadR w L n) := by
  have HR := Lib.hid h
  have HN := Lib.hid hn
  have HLN := Lib.hid h.len
  obtain ⟨xs, hxs⟩ : ∃ xs, blks L 0 = xs := ⟨_, rfl⟩
  have hsp := blks_spec L
  rw [hxs] at hsp
  have HXL := Lib.hid hxs
  have HXS := Lib.hid (show ∀ x ∈ xs, fitsP x.l = true ∧ x.at_ ≤ 2000000 ∧ x.en ≤ 2000000 from fun x hx => by have := hsp.2 x hx; have := h.len; exact ⟨(hsp.2 x hx).1, by omega, by omega⟩)
  have HNX := Lib.hid (show xs.length ≤ 2000000 by have := hsp.1; have := h.len; omega)
  have HS0 := Lib.hid (show (⟨[], [], 0⟩ : RdP) = rdAll (xs.take 0) ∧ xs.drop 0 = blks L (max 0 0) ∧ 0 ≤ n ∧ 0 ≤ xs.length from ⟨rfl, by rw [← hxs]; rfl, Nat.zero_le _, Nat.zero_le _⟩)
  have hn0 : (n : Int) ≤ 2000000 := by omega
  clear h hn hsp hxs
  go_enter Try.func28, Try.ntmps28
  go_wp2_with fail
  go_loopw [5, 6, 7, 8, 9] (fun lv gv av ev iv wr => ∃ (i j : Nat) (s : RdP) (ds : List Pd) (vl vg va : Value), (i : Int) ≤ n ∧ iv = .int .i64 (i : Int) ∧ ev = .int .i64 (s.e : Int) ∧ vl = lv ∧ vg = gv ∧ va = av ∧ Hid (RJ w wr xs j s vl vg va ds) ∧ Hid (s = rdAll (xs.take j) ∧ xs.drop j = blks L (max i s.e) ∧ s.e ≤ n ∧ j ≤ xs.length)) (fun _ _ _ _ iv _ => n - (intOf iv).toNat)
  case atStart => exact ⟨0, 0, ⟨[], [], 0⟩, [], _, _, _, by omega, rfl, rfl, rfl, rfl, rfl, Lib.hid ⟨PO.nil _ _, rfl, World.ownsRow_nil _ _ 63 2, World.ownsRow_nil _ _ 96 2, Below.refl _ _⟩, HS0⟩
  case round =>
    obtain ⟨i, j, s, ds, vl, vg, va, hi, rfl, rfl, rfl, rfl, rfl, HRJ, HS⟩ := hrel
    obtain ⟨Al, cl, rfl⟩ := HRJ.out.po.form
    obtain ⟨Ag, cg, rfl, -⟩ := own_formS HRJ.out.gs
    obtain ⟨Aa, ca, rfl, -⟩ := own_formS HRJ.out.as_
    have hbd := rd_bound xs (fun y hy => (HXS.out y hy).1) j
    rw [← HS.out.1] at hbd
    have hdl : ds.length = s.l.length := by rw [← HRJ.out.eq]; simp [pks]
    obtain ⟨nl, hnl⟩ : ∃ nl, ds.length = nl := ⟨_, rfl⟩
    obtain ⟨ng, hng⟩ : ∃ ng, s.g.length = ng := ⟨_, rfl⟩
    have HDL := Lib.hid hnl
    have HNG := Lib.hid hng
    rw [hnl] at HRJ ⊢
    rw [hng] at HRJ ⊢
    have HMM := Lib.hid (show nl ≤ 128000000 ∧ ng ≤ 2000000 ∧ j ≤ 2000000 by have := HNX.out; have := HS.out.2.2.2; omega)
    obtain ⟨E, hE⟩ : ∃ E : Int, (s.e : Int) = E := ⟨_, rfl⟩
    obtain ⟨I, hI⟩ : ∃ I : Int, (i : Int) = I := ⟨_, rfl⟩
    have HE := Lib.hid hE
    have HI := Lib.hid hI
    rw [hE]
    rw [hI]
    have hI0 : 0 ≤ I := by omega
    have hE0 : 0 ≤ E := by omega
    have hEn : E ≤ n := by have := HS.out.2.2.1; omega
    rw [hI] at hi
    clear hbd hdl hnl hng hE hI
    by_cases hlt : I < (n : Int)
    · by_cases hsk : I < E
      · have q1 : decide (I < E) = true := decide_eq_true hsk
        have HSK := Lib.hid hsk
        clear hsk
        go_wp2_with fail
        go_roundw
        case rel => exact ⟨i + 1, j, s, ds, _, _, _, by have := HI.out; omega, by rw [← HI.out]; go_num, congrArg (Value.int .i64) HE.out.symm, rfl, rfl, rfl, HRJ, Lib.hid ⟨HS.out.1, by rw [HS.out.2.1]; have := HSK.out; have := HE.out; have := HI.out; rw [show max (i + 1) s.e = max i s.e by omega], HS.out.2.2⟩⟩
        case measure => have := HI.out; simp [intOf]; omega
      have q1 : decide (I < E) = false := decide_eq_false hsk
      have hlp : i < L.length := by rw [HLN.out]; have := HI.out; omega
      have hmax : max i s.e = i := by have := HE.out; have := HI.out; omega
      have hdr := HS.out.2.1
      rw [hmax] at hdr
      obtain ⟨A', c', hsf, hr2, -⟩ := slice_from wr A n c i L (HR.out.below HRJ.out.below) (by have := HI.out; omega)
      rw [HI.out] at hsf
      have C18 := rdec_any A' (n - i) c' (L.drop i) wr hr2 (by have := HN.out; omega)
      obtain ⟨np, hnp⟩ : ∃ np, n - i = np := ⟨_, rfl⟩
      rw [hnp] at C18 hsf
      have HSF : Hid (∀ W' : World, (Instr.slice 23 (.slice A n c) (some (.int .i64 I)) none none).run Try.prog W' = .ok (.slice A' np c') W') := Lib.hid hsf
      clear hsf hr2 hnp
      have hsf := HSF.out
      cases hdec : dec (L.drop i) with
      | error k =>
        rw [hdec] at C18
        have C18 := Lib.hid (C18.mono (R' := fun e w' => e = .returned (.tuple #[.slice none 0 0, .int .i64 0, .int .i64 k]) ∧ Below wr.heap.size wr w') fun e w' h => by
          obtain ⟨hb, ⟨k2, h1, h2⟩ | ⟨v, ds, m, h1, -⟩⟩ := h
          · cases h1; exact ⟨h2, hb⟩
          · cases h1)
        have hk : (k != 0) = true := by rcases dec_err_ne hdec with rfl | rfl | rfl <;> decide
        have HX := Lib.hid (hdr.trans (blks_err hlp hdec))
        have HSK := Lib.hid hsk
        clear hdec hlp hdr hmax hsk
        go_wp2_with (go_at_call 18; (with_reducible refine C18.out.mono ?_); rintro e w1 ⟨rfl, hb⟩; have HRJ1 := Lib.hid (HRJ.out.below_ hb); clear hb)
        go_roundw
        case rel => exact ⟨i + 1, j, s, ds, _, _, _, by have := HI.out; omega, by rw [← HI.out]; go_num, congrArg (Value.int .i64) HE.out.symm, rfl, rfl, rfl, HRJ1, Lib.hid ⟨HS.out.1, by rw [HX.out]; have := HSK.out; have := HE.out; have := HI.out; rw [show max (i + 1) s.e = i + 1 by omega], HS.out.2.2⟩⟩
        case measure => have := HI.out; simp [intOf]; omega
      | ok x =>
        obtain ⟨q, m⟩ := x
        rw [hdec] at C18
        have C18 := Lib.hid (C18.mono (R' := fun e w' => ∃ A8 c8 ds, e = .returned (.tuple #[.slice A8 ds.length c8, .int .i64 (m : Int), .int .i64 0]) ∧ Below wr.heap.size wr w' ∧ PO wr.heap.size w' (.slice A8 ds.length c8) ds ∧ pks ds = q) fun e w' h => by
          obtain ⟨hb, ⟨k2, h1, h2⟩ | ⟨v, ds, m2, h1, h2, h3⟩⟩ := h
          · cases h1
          · injection h1 with h1
            injection h1 with h4 h5
            subst h4 h5
            obtain ⟨A8, c8, rfl⟩ := h3.form
            exact ⟨A8, c8, ds, h2, hb, h3, rfl⟩)
        have hml := dec_ok_le hdec
        have hfq := fitsP_iff.1 (fits_of_dec hdec)
        have hml2 : i + m ≤ n := by have := hml.2; rw [List.length_drop, HLN.out] at this; have := HI.out; omega
        have HMI := Lib.hid (show i + m ≤ n ∧ 11 ≤ m from ⟨hml2, hml.1⟩)
        obtain ⟨M, hM⟩ : ∃ M : Int, (m : Int) = M := ⟨_, rfl⟩
        have HM := Lib.hid hM
        rw [hM] at C18
        have hM1 : 11 ≤ M := by omega
        have hM2 : I + M ≤ n := by have := HI.out; omega
        have HX := Lib.hid (drop_cons (hdr.trans (blks_ok hlp hdec)))
        have HQL := Lib.hid (show 1 ≤ q.length ∧ q.length ≤ 64 from ⟨hfq.1, hfq.2.1⟩)
        have HSK := Lib.hid hsk
        have HIN : Hid ((((⟨i, i + m, q⟩ : Fd).at_ : Nat) : Int) = I) := Lib.hid HI.out
        clear hdec hlp hdr hmax hml hml2 hfq hM hsk
        by_cases hgap : E < I
        · have q2 : decide (E < I) = true := decide_eq_true hgap
          have HGAP := Lib.hid (show s.e < i by have := HE.out; have := HI.out; omega)
          clear hgap
          go_wp2_with (first | (go_at_call 18; (with_reducible refine C18.out.mono ?_); rintro e w1 ⟨A8, c8, ds5, rfl, hb, hpo, hq⟩; have HB1 := Lib.hid hb; have HPO5 := Lib.hid hpo; have HQ5 := Lib.hid hq; have HRJ1 := Lib.hid (HRJ.out.below_ hb); clear hb hpo hq) | (at_builtin; go_must (refine wpList_app_sz (base := w.heap.size) (n := ng) (m := 1) (xs := s.g.flatMap gcells) (news := [.int .i64 E, .int .i64 I]) rfl (.tmp 35) (.tmp 39) 59 rfl elG rfl (own_alloc (by have := HRJ1.out.gs; rw [HNG.out] at this; exact this)) rfl (HoldsS.new _ 2 1 [.int .i64 E, .int .i64 I] 63 rfl) (by simp [Value.oneCell']) (by have := HMM.out; unfold maxLen; omega) (by have := HMM.out; omega) (by have := HRJ1.out.below.size; simp; omega) (by simp) ?_; intro v2 w2 hown hg; obtain ⟨A2, c2, rfl, -⟩ := own_formS hown; have HOG := Lib.hid hown; have HGG := Lib.hid (show (w1.alloc (.cells #[.int .i64 E, .int .i64 I] 63)).grownBy w2 (Value.slice Ag ng cg).ownBlock from hg); clear hown hg; refine Hid.out ?_)))
          refine Lib.hid ?_
          have HRJ2 := Lib.hid (HRJ1.out.gap (t := i) (by rw [HNG.out, HE.out, HI.out]; exact HOG.out) HGG.out)
          have HPO52 := Lib.hid (HPO5.out.grownS (by have := HRJ1.out.gs; rw [HNG.out] at this; exact this) (by decide) (by decide) HGG.out)
          have HN5 := Lib.hid (show 1 ≤ ds5.length ∧ ds5.length ≤ 64 by have := HQL.out; have h1 : ds5.length = q.length := (by rw [← HQ5.out]; simp [pks]); omega)
          have HO5L := Lib.hid (HPO52.out.own)
          go_wp2_with (at_builtin; go_must (refine wpList_app_sz (base := w.heap.size) (n := nl) (m := ds5.length) (xs := ds.flatMap Pd.cells) (news := ds5.flatMap Pd.cells) rfl (.tmp 41) (.tmp 42) 22 rfl elP rfl (by have := HRJ2.out.po.own; rw [HDL.out] at this; exact this) rfl (HoldsS.own HO5L.out) (cells_one ds5) (by have := HMM.out; have := HN5.out; unfold maxLen; omega) (by have := HMM.out; have := HN5.out; omega) HRJ2.out.below.size (own_some HO5L.out (by have := HN5.out; omega)) ?_; intro v3 w3 hown hg; obtain ⟨A3, c3, rfl, -⟩ := own_formS hown; have HO3 := Lib.hid hown; have HG3 := Lib.hid (show w2.grownBy w3 (Value.slice Al nl cl).ownBlock from hg); clear hown hg; refine Hid.out ?_))
          refine Lib.hid ?_
          obtain ⟨n5, hn5⟩ : ∃ n5, ds5.length = n5 := ⟨_, rfl⟩
          have HN55 := Lib.hid hn5
          rw [hn5]
          clear hn5
          have HA3 := Lib.hid (HRJ2.out.keepA HG3.out)
          go_wp2_with (at_builtin; go_must (refine wpList_app_sz (base := w.heap.size) (n := j) (m := 1) (xs := (xs.take j).flatMap acells) (news := [.int .i64 I, .int .i64 (n5 : Int)]) rfl (.tmp 44) (.tmp 49) 69 rfl elA rfl (own_alloc HA3.out) rfl (HoldsS.new _ 2 1 [.int .i64 I, .int .i64 (n5 : Int)] 96 rfl) (by simp [Value.oneCell']) (by have := HMM.out; unfold maxLen; omega) (by have := HMM.out; omega) (by have := HRJ2.out.below.size; have := HG3.out.size; simp; omega) (by simp) ?_; intro v5 w5 hown hg; obtain ⟨A5, c5, rfl, -⟩ := own_formS hown; have HO5 := Lib.hid hown; have HG5 := Lib.hid (show (w3.alloc (.cells #[.int .i64 I, .int .i64 (n5 : Int)] 96)).grownBy w5 (Value.slice Aa j ca).ownBlock from hg); clear hown hg))
          have hrj9 := (RJ.fin HRJ2.out HPO52.out HX.out.2.1 HQ5.out (show w.heap.size ≤ wr.heap.size from HRJ.out.below.size) (by rw [HDL.out]; exact HO3.out) HG3.out (by rw [HIN.out, HN55.out]; exact HO5.out) HG5.out)
          rw [HN55.out] at hrj9
          have HRJ9 := Lib.hid hrj9
          clear hrj9
          go_roundw
          case rel => exact ⟨i + 1, j + 1, ⟨s.l ++ q, s.g ++ [(s.e, i)], i + m⟩, ds ++ ds5, _, _, _, by have := HI.out; omega, by rw [← HI.out]; go_num, congrArg (Value.int .i64) (by have := HI.out; have := HM.out; show I + M = ((i + m : Nat) : Int); omega), rfl, rfl, rfl, HRJ9, Lib.hid ⟨by rw [rdAll_take HX.out.2.1, ← HS.out.1, rdStep, if_pos HGAP.out], by rw [HX.out.2.2]; have := HMI.out; show blks L (i + m) = blks L (max (i + 1) (i + m)); rw [show max (i + 1) (i + m) = i + m by omega], HMI.out.1, HX.out.1⟩⟩
          case measure => have := HI.out; simp [intOf]; omega
        · have q2 : decide (E < I) = false := decide_eq_false hgap
          have HGAP := Lib.hid (show ¬ s.e < i by have := HE.out; have := HI.out; omega)
          clear hgap
          go_upto_region 13 with (go_at_call 18; (with_reducible refine C18.out.mono ?_); rintro e w1 ⟨A8, c8, ds5, rfl, hb, hpo, hq⟩; have HB1 := Lib.hid hb; have HPO5 := Lib.hid hpo; have HQ5 := Lib.hid hq; have HRJ1 := Lib.hid (HRJ.out.below_ hb); clear hb hpo hq)
          have HN5 := Lib.hid (show 1 ≤ ds5.length ∧ ds5.length ≤ 64 by have := HQL.out; have h1 : ds5.length = q.length := (by rw [← HQ5.out]; simp [pks]); omega)
          have HO5L := Lib.hid (HPO5.out.own)
          go_wp2_with (at_builtin; go_must (refine wpList_app_sz (base := w.heap.size) (n := nl) (m := ds5.length) (xs := ds.flatMap Pd.cells) (news := ds5.flatMap Pd.cells) rfl (.tmp 41) (.tmp 42) 22 rfl elP rfl (by have := HRJ1.out.po.own; rw [HDL.out] at this; exact this) rfl (HoldsS.own HO5L.out) (cells_one ds5) (by have := HMM.out; have := HN5.out; unfold maxLen; omega) (by have := HMM.out; have := HN5.out; omega) HRJ1.out.below.size (own_some HO5L.out (by have := HN5.out; omega)) ?_; intro v3 w3 hown hg; obtain ⟨A3, c3, rfl, -⟩ := own_formS hown; have HO3 := Lib.hid hown; have HG3 := Lib.hid (show w1.grownBy w3 (Value.slice Al nl cl).ownBlock from hg); clear hown hg; refine Hid.out ?_))
          refine Lib.hid ?_
          obtain ⟨n5, hn5⟩ : ∃ n5, ds5.length = n5 := ⟨_, rfl⟩
          have HN55 := Lib.hid hn5
          rw [hn5]
          clear hn5
          have HA3 := Lib.hid (HRJ1.out.keepA HG3.out)
          go_wp2_with (at_builtin; go_must (refine wpList_app_sz (base := w.heap.size) (n := j) (m := 1) (xs := (xs.take j).flatMap acells) (news := [.int .i64 I, .int .i64 (n5 : Int)]) rfl (.tmp 44) (.tmp 49) 69 rfl elA rfl (own_alloc HA3.out) rfl (HoldsS.new _ 2 1 [.int .i64 I, .int .i64 (n5 : Int)] 96 rfl) (by simp [Value.oneCell']) (by have := HMM.out; unfold maxLen; omega) (by have := HMM.out; omega) (by have := HRJ1.out.below.size; have := HG3.out.size; simp; omega) (by simp) ?_; intro v5 w5 hown hg; obtain ⟨A5, c5, rfl, -⟩ := own_formS hown; have HO5 := Lib.hid hown; have HG5 := Lib.hid (show (w3.alloc (.cells #[.int .i64 I, .int .i64 (n5 : Int)] 96)).grownBy w5 (Value.slice Aa j ca).ownBlock from hg); clear hown hg))
          have hrj9 := (RJ.fin HRJ1.out HPO5.out HX.out.2.1 HQ5.out (show w.heap.size ≤ wr.heap.size from HRJ.out.below.size) (by rw [HDL.out]; exact HO3.out) HG3.out (by rw [HIN.out, HN55.out]; exact HO5.out) HG5.out)
          rw [HN55.out] at hrj9
          have HRJ9 := Lib.hid hrj9
          clear hrj9
          go_roundw
          case rel => exact ⟨i + 1, j + 1, ⟨s.l ++ q, s.g, i + m⟩, ds ++ ds5, _, _, _, by have := HI.out; omega, by rw [← HI.out]; go_num, congrArg (Value.int .i64) (by have := HI.out; have := HM.out; show I + M = ((i + m : Nat) : Int); omega), rfl, rfl, rfl, HRJ9, Lib.hid ⟨by rw [rdAll_take HX.out.2.1, ← HS.out.1, rdStep, if_neg HGAP.out], by rw [HX.out.2.2]; have := HMI.out; show blks L (i + m) = blks L (max (i + 1) (i + m)); rw [show max (i + 1) (i + m) = i + m by omega], HMI.out.1, HX.out.1⟩⟩
          case measure => have := HI.out; simp [intOf]; omega
    · have hjN : j = xs.length := by
        have h1 := HS.out.2.1
        rw [blks_end (by rw [HLN.out]; have := HI.out; omega)] at h1
        have h2 := congrArg List.length h1
        have := HS.out.2.2.2
        simp at h2
        omega
      subst hjN
      have hsd : s = rdAll xs := by have := HS.out.1; rw [List.take_of_length_le (Nat.le_refl _)] at this; exact this
      have HSD := Lib.hid hsd.symm
      have HAS := Lib.hid (show wr.ownsRow w.heap.size 96 2 (.slice Aa xs.length ca) xs.length (xs.flatMap acells) from by have := HRJ.out.as_; rw [List.take_of_length_le (Nat.le_refl _)] at this; exact this)
      clear hsd
      by_cases hgap : E < (n : Int)
      · have q2 : decide (E < (n : Int)) = true := decide_eq_true hgap
        have HEG := Lib.hid (show endG (rdAll xs) n = s.g ++ [(s.e, n)] by unfold endG; rw [HSD.out, if_pos (by have := HE.out; omega)])
        clear hgap
        go_wp2_with (at_builtin; go_must (refine wpList_app_sz (base := w.heap.size) (n := ng) (m := 1) (xs := s.g.flatMap gcells) (news := [.int .i64 E, .int .i64 (n : Int)]) rfl (.tmp 58) (.tmp 63) 59 rfl elG rfl (own_alloc (by have := HRJ.out.gs; rw [HNG.out] at this; exact this)) rfl (HoldsS.new _ 2 1 [.int .i64 E, .int .i64 (n : Int)] 63 rfl) (by simp [Value.oneCell']) (by have := HMM.out; unfold maxLen; omega) (by have := HMM.out; omega) (by have := HRJ.out.below.size; simp; omega) (by simp) ?_; intro v2 w2 hown hg; have HOG := Lib.hid hown; have HGG := Lib.hid (show (wr.alloc (.cells #[.int .i64 E, .int .i64 (n : Int)] 63)).grownBy w2 (Value.slice Ag ng cg).ownBlock from hg); clear hown hg))
        go_ret3
        have hrj := HRJ.out.gap (t := n) (by rw [HNG.out, HE.out]; exact HOG.out) HGG.out
        refine ⟨xs, _, _, _, ds, HXL.out.symm, rfl, hrj.po, by rw [hrj.eq, HSD.out], ?_, own_apartS HAS.out HRJ.out.gs (by decide) HGG.out, hrj.below⟩
        rw [HEG.out]
        exact hrj.gs
      · have q2 : decide (E < (n : Int)) = false := decide_eq_false hgap
        have HEG := Lib.hid (show endG (rdAll xs) n = s.g by unfold endG; rw [HSD.out, if_neg (by have := HE.out; omega)])
        clear hgap
        go_wp2_with fail
        go_ret3
        refine ⟨xs, _, _, _, ds, HXL.out.symm, rfl, HRJ.out.po, by rw [HRJ.out.eq, HSD.out], ?_, HAS.out, HRJ.out.below⟩
        rw [HEG.out]
        exact HRJ.out.gs
end Go.Proofs.Ytgbkoegmoelheaa
