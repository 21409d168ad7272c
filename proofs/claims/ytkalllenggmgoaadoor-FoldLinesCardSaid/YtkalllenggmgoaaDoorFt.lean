/- Read of a block. -/
import Derived.Test.YtkalllenggmgoaaDoorFs
import Derived.Test.YtkalllenggmgoaaDoorMk
namespace Go.Proofs.YtkalllenggmgoaaDoor
open Go.RowKit
attribute [local go_sem] wide_fn wide_depth wide_fn_in wide_depth_in Oper.semAt_some
set_option linter.unusedVariables false
set_option linter.unusedSimpArgs false

theorem own_blk {w : World} {B n sz g : Nat} {e t : TypeId} {v : Value} {xs : List Value} {cs : Array Value} (h : w.ownsRow B e sz v n xs) (hg : Blk w g t cs) (ht : e ≠ t) : v.ownBlock ≠ some g := by
  rcases h.2 with ⟨rfl, _⟩ | ⟨g', cap, cur, rfl, _, hh, _⟩
  · simp [Value.ownBlock]
  · intro he
    cases he
    unfold Blk at hg
    rw [hg] at hh
    injection hh with hh
    injection hh with _ h2
    exact ht h2.symm
theorem dn_ne {X : World} {Bd g B n sz : Nat} {dv v : Value} {ds : List Ld} {xs : List Value} (h : DnOk Bd X dv ds) (hv : X.ownsRow B 25 sz v n xs) : ∀ k, DnF dv ds k → v.ownBlock ≠ some k := fun k hk e => by
  rcases hk with hk | ⟨d, hd, hk | hk⟩
  · exact own_neS hv h.dn (by decide) k e hk
  · exact own_neS hv (h.dr d hd).nm (by decide) k e hk
  · exact own_neS hv (h.dr d hd).tx (by decide) k e hk
theorem dn_neB {X : World} {Bd g : Nat} {dv : Value} {ds : List Ld} {cs : Array Value} (h : DnOk Bd X dv ds) (hb : Blk X g 22 cs) : ∀ k, DnF dv ds k → k ≠ g := fun k hk e => by
  subst e
  rcases hk with hk | ⟨d, hd, hk | hk⟩
  · exact own_blk h.dn hb (by decide) hk
  · exact own_blk (h.dr d hd).nm hb (by decide) hk
  · exact own_blk (h.dr d hd).tx hb (by decide) hk
theorem own_still {b B n sz : Nat} {X Y : World} {e : TypeId} {v : Value} {xs : List Value} (h : X.ownsRow B e sz v n xs) (hs : Still b X Y) : Y.ownsRow B e sz v n xs := by
  refine ⟨h.1, ?_⟩
  rcases h.2 with h0 | ⟨g, cap, cur, h0, h1, hh, h2⟩
  · exact .inl h0
  · exact .inr ⟨g, cap, cur, h0, h1, hs.cells g e cur hh, h2⟩
/-- A round's growth. -/
theorem RdI.push {w X W2 : World} {Bd ob m : Nat} {dv : Value} {ds : List Ld} {hs : List Hd} {ov v2 : Value} {o : Obj} {h : Hd} (hr : RdI w Bd ob dv ds m hs X ov) (hown : W2.ownsRow w.heap.size 25 2 v2 (m + 1) (hs.flatMap Hd.cells ++ h.cells)) (hg : (X.alloc o).grownBy W2 ov.ownBlock) (hob : w.heap.size ≤ ob) :
    RdI w Bd ob dv ds (m + 1) (hs ++ [h]) (W2.setCell ⟨ob, 0, none⟩ v2) v2 ∧ Only (fun k => k = ob ∨ ov.ownBlock = some k) X (W2.setCell ⟨ob, 0, none⟩ v2) := by
  have hne : ov.ownBlock ≠ some ob := own_blk hr.own hr.bx (by decide)
  have hkx : Blk W2 ob 22 #[ov] := (hr.bx.alloc o).grown hg (fun e => hne e.symm)
  have hne2 : v2.ownBlock ≠ some ob := own_blk hown hkx (by decide)
  have hon1 : Only (fun k => ov.ownBlock = some k) X W2 := Only.app hg
  have hon : Only (fun k => k = ob ∨ ov.ownBlock = some k) X (W2.setCell ⟨ob, 0, none⟩ v2) := Only.set (p := fun k => k = ob ∨ ov.ownBlock = some k) (Only.mono hon1 fun b _ e => .inr e) (fun _ => .inl rfl) 0 _
  have hk2 := hkx.set_ 0 v2
  simp only [List.setIfInBounds_toArray, List.set_cons_zero] at hk2
  refine ⟨⟨hk2, ?_, by simp [hr.len], hr.below.trans (hon.to_below hr.below.size fun b hb e => ?_), hr.dn.keep fun k hk => hon.block k (hr.dn.lt k hk).2 fun e => ?_⟩, hon⟩
  · have := own_setCell hown (a := ⟨ob, 0, none⟩) (fun e => hne2 e) v2
    simpa using this
  · rcases e with e | e
    · omega
    · have := (hr.own.lt b e).1; omega
  · rcases e with e | e
    · exact dn_neB hr.dn hr.bx k hk e
    · exact dn_ne (g := 0) hr.dn hr.own k hk e
theorem RdI.keepsO {w X Y : World} {Bd ob m : Nat} {dv : Value} {ds : List Ld} {hs : List Hd} {ov : Value} (h : RdI w Bd ob dv ds m hs X ov) (ho : Only (fun k => k = ob ∨ ov.ownBlock = some k) X Y) (B : Nat) : KeepsFrom B X Y := keeps_only ho (fun k o hp hk => hp.elim (fun e => by subst e; exact h.bx.cells_ hk) (fun e => own_cells_ h.own e hk)) B
def tms20 (A : Option Addr) (n c : Nat) (lo : Bool) (b6 ob g : Nat) (k : Nat × List UInt8 × List UInt8) (bx : Nat) : Array Value := #[.slice A n c, .bool lo, undef, undef, .slice none 0 0, .int .i64 0, .pointer (some ⟨b6, 0, none⟩), .pointer (some ⟨ob, 0, none⟩), undef, .pointer (some ⟨bx, 0, none⟩), .slice A n c, .bool lo, .agg #[.int .i64 (n : Int), .int .i64 0, .int .i64 (-1)], .bool false, .pointer (some ⟨b6, 2, none⟩), .int .i64 (-1), .bool false, .bool false, .pointer (some ⟨b6, 1, none⟩), .int .i64 0, .bool false, .bool false, .pointer (some ⟨b6, 0, none⟩), .int .i64 (n : Int), .slice A n c, .int .i64 (n : Int), .bool false, .slice A n c, .bool lo, fn41 g, .int .i64 (k.1 : Int), .agg #[.string ⟨k.2.1.toArray⟩, .string ⟨k.2.2.toArray⟩], undef, undef, undef, undef, undef]
def RdAx (w : World) (Bd ob : Nat) (dv : Value) (ds : List Ld) (F : Nat → Prop) (ks : List (Nat × List UInt8 × List UInt8)) (A : Option Addr) (n c : Nat) (lo : Bool) (b6 g : Nat) (i : Nat) (vs : Array Value) (X0 : World) (a' : Act) (X : World) : Prop := a'.defers = [] ∧ ∃ bx k, RdA w Bd ob dv ds F ks i vs X0 X a'.tmps bx k (tms20 A n c lo b6 ob g k)
set_option maxRecDepth 100000 in
set_option maxHeartbeats 1000000 in
theorem read_ok (A : Option Addr) (n c : Nat) (l : List UInt8) (lo : Bool) (w : World) (h : RB w A n c l) (hn : n ≤ 1000000) (hr : scanR l lo = ⟨(n : Int), 0, -1⟩) :
    Calls Tryd.prog 20 #[.slice A n c, .bool lo] w (ReadE l lo w) := by
  have C22 := Lib.hid (scan22_any A n c l lo w h hn)
  have HR : Hid (readF l lo = (0, (linesF l lo).map kHd)) := Lib.hid (by
    unfold readF linesF
    rw [hr]
    simp only
    rw [if_neg (by omega), if_neg (by omega), if_neg (by rw [h.len]; omega), if_neg (by omega), List.map_map]
    rfl)
  rw [hr] at C22
  have HRB := Lib.hid h
  have hnn : n ≤ 1000000 := hn
  have HN := Lib.hid hnn
  clear h hn hr hnn
  refine (callsIn_wide (n := 100)).1 ?_
  refine callsIn_of_wp_marks Tryd.func20 rfl trivial ?_ rfl
  simp only [Tryd.ntmps20, List.size_toArray, List.length_cons, List.length_nil, Nat.reduceAdd, Nat.reduceSub, Array.replicate_succ, Array.replicate_zero, List.push_toArray, List.append_toArray, List.nil_append, List.cons_append]
  gi_wp2_with (first | (gi_at_call 22; (with_reducible refine (callsIn_wide.2 C22.out).mono ?_); rintro e w1 ⟨rfl, hb⟩; have HB1 := Lib.hid hb; clear hb) | (gi_at_call 24; (with_reducible refine (callsIn_wide.2 (lines_any A n c l lo _ (HRB.out.below (((HB1.out.alloc HB1.out.size _).alloc (by have := HB1.out.size; simp; omega) _))) HN.out)).mono ?_); rintro e w4 ⟨g, dv, ds, rfl, hl⟩; have HL := Lib.hid hl; clear hl; unfold fn41))

  have hbw : Below w.heap.size w w4 := ((HB1.out.alloc HB1.out.size _).alloc (by have := HB1.out.size; simp; omega) _).trans (HL.out.below.mono (by have := HB1.out.size; simp; omega))
  obtain ⟨b6, hb6⟩ : ∃ b6, w1.heap.size = b6 := ⟨_, rfl⟩
  have hob : Blk w4 (b6 + 1) 22 #[.slice none 0 0] := by
    have h1 := Blk.new (w1.alloc (.cells #[.int .i64 (n : Int), .int .i64 0, .int .i64 (-1)] 43)) 22 #[.slice none 0 0]
    have e1 : (w1.alloc (.cells #[.int .i64 (n : Int), .int .i64 0, .int .i64 (-1)] 43)).heap.size = b6 + 1 := by simp [hb6]
    rw [e1] at h1
    exact h1.below HL.out.below (by simp [hb6])
  have hdl := HL.out.dn.lt
  obtain ⟨ks, hks⟩ : ∃ ks, linesF l lo = ks := ⟨_, rfl⟩
  have hkeys := HL.out.keys
  rw [hks] at hkeys
  have hfew := linesF_few l lo
  rw [hks] at hfew
  have HKS := Lib.hid hks
  have hdn := HL.out.dn
  have hlen : ds.length ≤ 1000 := by have := congrArg List.length hkeys; simp at this; omega
  obtain ⟨ka, kn, kt, kg, ko, kp, klo, kpl, hblk⟩ := HL.out.blk
  have HBW := Lib.hid hbw
  have HOB := Lib.hid hob
  have HDL := Lib.hid hdl
  have HFEW := Lib.hid hfew
  have HS6 := Lib.hid (show w.heap.size ≤ b6 from hb6 ▸ HB1.out.size)
  rw [hb6]
  obtain ⟨W0, hW0⟩ : ∃ W0, W0 = w4 := ⟨_, rfl⟩
  rw [← hW0]
  rw [← hW0] at hdn hblk
  have HW4 := Lib.hid hW0
  have HIT : Hid (∀ W1, Below W0.heap.size W0 W1 → W1.heap.size = W0.heap.size + 2 → Iter Fence.wide 99 Tryd.prog 41 #[.pointer (some ⟨g, 0, none⟩)] (LAt ks) (LKp (DnF dv ds)) (fun X Y => Below X.heap.size X Y) ks.length W1) := Lib.hid (fun W1 hb1 hz1 => by
    have := lines_iter 99 W1 _ g ka kn kt kg ko kp klo kpl dv ds (hblk.below hb1 hblk.lt) (hdn.below hb1) hlen
    rw [hkeys] at this
    exact this)
  rw [← hW0] at HBW HOB HDL
  have HFD : Hid (∀ k, DnF dv ds k → k < W0.heap.size) := Lib.hid (fun k hk => (HDL.out k hk).2)
  have HSZ0 : Hid (w.heap.size ≤ W0.heap.size) := Lib.hid HBW.out.size
  obtain ⟨BD, hBD⟩ : ∃ BD, ((w1.alloc (.cells #[.int .i64 (n : Int), .int .i64 0, .int .i64 (-1)] 43)).alloc (.cells #[.slice none 0 0] 22)).heap.size = BD := ⟨_, rfl⟩
  rw [hBD] at hdn
  have HDN := Lib.hid hdn
  clear hBD hbw hob hdl hks hkeys hfew hdn hlen hblk ka kn kt kg ko kp klo kpl hb6 hW0 HL
  refine wpIn_iter (N := ks.length) (At := LAt ks) (Kp := LKp (DnF dv ds)) (Step := fun X Y => Below X.heap.size X Y) rfl (by omega) (gf := 41) (lb := #[.pointer (some ⟨g, 0, none⟩)]) rfl trivial (enters_of Tryd.func41 (by kernel_rfl) rfl)
    HIT.out
    (fun X Y hXY k hk hkX => hXY.block k hkX)
    (fun vs X => lkp_calm W0.heap.size (DnF dv ds) HFD.out vs X)
    (fun i vs X ⟨k, _, h⟩ => by rw [h]; rfl)
    (fun i X => RdIx w BD (b6 + 1) dv ds ((ks.take i).map kHd) X)
    (fun cd i X => False)
    ?hI (fun cd i X k o o' hk hX ho h => h) ?hIS (fun cd i X Y h hs => h) ?h0
    (fun i vs X a' W => RdAx w BD (b6 + 1) dv ds (DnF dv ds) ks A n c lo b6 g i vs X a' W)
    ?hAx ?assign ?body ?done ?stop
  case hI => exact fun i X k o o' hk hX ho ⟨ov, h⟩ => ⟨ov, h.calm (by have := HSZ0.out; omega) hX ho⟩
  case hIS => exact fun i X Y ⟨ov, h⟩ hs => ⟨ov, h.below_ hs⟩
  case h0 => exact fun W1 hb1 hz1 => ⟨.slice none 0 0, ⟨HOB.out.below hb1 HOB.out.lt, by simpa using World.ownsRow_nil W1 w.heap.size 25 2, rfl, HBW.out.trans (hb1.mono HBW.out.size), HDN.out.below hb1⟩⟩
  case hAx => exact fun i vs X0 a' X k o o' hk hX ho ⟨hd, bx, kk, h⟩ => ⟨hd, bx, kk, h.hx, h.htm, h.bk.calm hX ho, lkp_calm W0.heap.size (DnF dv ds) HFD.out vs X0 X k o o' hk hX ho h.kp, by
    obtain ⟨ov, hr⟩ := h.ri
    exact ⟨ov, hr.calm (by have := HSZ0.out; omega) hX ho⟩⟩
  case assign =>
    rintro l' i vs X K hl hi ⟨ov, hri⟩ ⟨k, hx, rfl⟩ hlt hK
    have hb := (Below.refl X.heap.size X).alloc (Nat.le_refl _) (.cells #[.string ⟨k.2.1.toArray⟩, .string ⟨k.2.2.toArray⟩] 25)
    gi_wp2
    refine hK _ _ (keeps_below hb _) ?_
    exact ⟨rfl, X.heap.size, k, hx, rfl, Blk.new X 25 _, ⟨hb.size, fun j hj => hb.block j (by have := HFD.out j hj; have := hl; omega)⟩, ov, hri.below_ hb⟩
  case body =>
    rintro l' i vs X0 ⟨tm, df⟩ WX hl hi hr ⟨hdf, bx, k, hax⟩
    obtain ⟨hx, htm, hbk, hkp, ⟨ov, hri⟩⟩ := hax
    have hil : (ks.take i).length ≤ 100 := by rw [List.length_take]; have := HFEW.out; omega
    obtain ⟨Ao, co, e, -⟩ := own_formS hri.own
    subst e
    dsimp only at hdf htm
    unfold tms20 at htm
    subst hdf htm
    obtain ⟨hs, hhs⟩ : ∃ hs, (ks.take i).map kHd = hs := ⟨_, rfl⟩
    have hhl : hs.length = (ks.take i).length := by rw [← hhs]; simp
    have hnx : (ks.take (i + 1)).map kHd = hs ++ [kHd k] := by
      rw [List.take_add_one, hx, List.map_append, hhs]; rfl
    have HNX := Lib.hid hnx
    rw [hhs] at hri
    obtain ⟨m, hm⟩ : ∃ m, hs.length = m := ⟨_, rfl⟩
    rw [hm] at hri
    have HM : Hid (m ≤ 100) := Lib.hid (by omega)
    have e7 : WX.cell? ⟨b6 + 1, 0, none⟩ = some (.slice Ao m co) := hri.bx.cell 0
    have x0 : WX.cell? ⟨bx, 0, none⟩ = some (.string ⟨k.2.1.toArray⟩) := hbk.cell 0
    have x1 : WX.cell? ⟨bx, 1, none⟩ = some (.string ⟨k.2.2.toArray⟩) := hbk.cell 1
    have HRI := Lib.hid hri
    have HKP := Lib.hid hkp
    have hcells : (kHd k).cells = [.string ⟨k.2.1.toArray⟩, .string ⟨k.2.2.toArray⟩] := rfl
    have HCL := Lib.hid hcells
    have hszw : w.heap.size ≤ WX.heap.size := hri.below.size
    have HSW := Lib.hid hszw
    generalize (⟨k.2.1.toArray⟩ : ByteArray) = sn at *
    generalize (⟨k.2.2.toArray⟩ : ByteArray) = st at *
    clear hx hbk hkp hri hil hhl hhs hnx hcells hszw hr
    gi_wp2_with (gi_at_builtin; go_must (refine wpListIn_app_sz (base := w.heap.size) (n := m) (m := 1) (xs := hs.flatMap Hd.cells) (news := [.string sn, .string st]) rfl (.tmp 32) (.tmp 34) 22 rfl elH rfl (own_alloc HRI.out.own) rfl (HoldsS.new _ 2 1 [.string sn, .string st] 25 rfl) (by simp [Value.oneCell']) (by have := HM.out; unfold maxLen; omega) (by have := HM.out; omega) (by have := HSW.out; simp; omega) (by simp) ?_; intro v2 w2 hown hg; obtain ⟨A2, c2, e2, -⟩ := own_formS hown; subst e2; have HOWN := Lib.hid hown; have HG := Lib.hid hg; clear hown hg; have kx := ((HRI.out.bx.alloc (.cells #[.string sn, .string st] 25)).grown HG.out (fun e => by have := own_blk HRI.out.own HRI.out.bx (by decide); exact this e.symm)); have kx0 := kx.cell 0; have kxf := kx.frozen 0; have kx0' : w2.cell? ⟨b6 + 1, 0, none⟩ = some (.slice Ao m co) := kx0; have HKX := Lib.hid kx; clear kx kx0))
    obtain ⟨hri2, hon2⟩ := RdI.push (h := kHd k) HRI.out (by rw [HCL.out]; exact HOWN.out) HG.out (by have := HS6.out; omega)
    have HRI2 := Lib.hid hri2
    have hk2 := HRI.out.keepsO hon2 W0.heap.size
    have hF : LKp (DnF dv ds) vs WX (w2.setCell ⟨b6 + 1, 0, none⟩ (.slice A2 (m + 1) c2)) := ⟨hon2.size, fun j hj => hon2.block j ((HRI.out.dn.lt j hj).2) (fun e => by
      rcases e with e | e
      · exact dn_neB HRI.out.dn HRI.out.bx j hj e
      · exact dn_ne (g := 0) HRI.out.dn HRI.out.own j hj e)⟩
    refine ⟨hk2, ⟨Nat.le_trans HKP.out.1 hF.1, fun j hj => (hF.2 j hj).trans (HKP.out.2 j hj)⟩, ?_⟩
    show RdIx w BD (b6 + 1) dv ds ((ks.take (i + 1)).map kHd) _
    rw [HNX.out]
    refine ⟨.slice A2 (m + 1) c2, ?_⟩
    rw [hri2.len]
    exact hri2
  case done =>
    rintro D WX hD ⟨ov, hri⟩ hK
    rw [List.take_of_length_le (Nat.le_refl _)] at hri
    have hil : ks.length ≤ 100 := HFEW.out
    obtain ⟨Ao, co, e, -⟩ := own_formS hri.own
    subst e
    obtain ⟨hs, hhs⟩ : ∃ hs, ks.map kHd = hs := ⟨_, rfl⟩
    have HHS := Lib.hid hhs
    rw [hhs] at hri
    obtain ⟨m, hm⟩ : ∃ m, hs.length = m := ⟨_, rfl⟩
    have HMM := Lib.hid hm
    rw [hm] at hri
    have e7 : WX.cell? ⟨b6 + 1, 0, none⟩ = some (.slice Ao m co) := hri.bx.cell 0
    have HRI := Lib.hid hri
    have HK := Lib.hid hK
    have HD := Lib.hid (show w.heap.size ≤ D by have := HSZ0.out; omega)
    have HM : Hid (Marks w.heap.size [D] WX) := Lib.hid ⟨by simp, fun E hE => by rw [List.mem_singleton.1 hE]; exact ⟨HD.out, HK.out⟩⟩
    clear hri hK hD hil hhs hm
    simp only [Exit.inBlock, Exit.then]
    go_at_K
    gi_wp2_with fail
    refine leaves_marks2 (v := .tuple #[.slice Ao m co, .int .i64 0]) [D] WX HM.out fun w' hs' => ⟨by simp [results, Tryd.results20, go_sem], .slice Ao m co, by rw [HR.out]; rfl, ?_, HRI.out.below.trans hs'.to_below⟩
    rw [HR.out]
    simp only
    rw [HKS.out, HHS.out, HMM.out]
    exact own_still HRI.out.own hs'
  case stop => exact fun D cd i X hD hi h hK => h.elim
end Go.Proofs.YtkalllenggmgoaaDoor
