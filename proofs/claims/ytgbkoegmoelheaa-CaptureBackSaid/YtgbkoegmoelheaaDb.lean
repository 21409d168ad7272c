/- known. -/
import Derived.Test.YtgbkoegmoelheaaDa
namespace Go.Proofs.Ytgbkoegmoelheaa
open Go.RowKit
set_option linter.unusedVariables false
set_option linter.unusedSimpArgs false

def PK1 : Pk := ⟨1, 2, [97, 98]⟩
def PK0 : Pk := ⟨0, 2, [97, 98]⟩
def E1 : List UInt8 := encB [PK1]
def E2 : List UInt8 := E1.set 23 (E1.getD 23 0 ^^^ 1)
def E3 : List UInt8 := E2.set 0 (E2.getD 0 0 ^^^ 1)
theorem e1_len : E1.length = 24 := by kernel_rfl
theorem e11_len : (encB [PK1, PK1]).length = 36 := by kernel_rfl
theorem d_1 : dec (E1.take 23) = .error 4 := by kernel_rfl
theorem d_2 : dec E2 = .error 10 := by kernel_rfl
theorem d_3 : dec E3 = .error 6 := by kernel_rfl
theorem b_1 : blks (E1 ++ [0, 0, 0]) 0 = [⟨0, 24, [PK1]⟩] := by kernel_rfl
theorem f_1 : fitsP [PK1] = true := by kernel_rfl
theorem f_2 : fitsP [PK1, PK1] = true := by kernel_rfl
theorem v_1 : validP PK1 = true := by kernel_rfl
theorem v_0 : validP PK0 = true := by kernel_rfl
theorem PL.lit (w : World) (ds : List Pd) (n : Nat) (cs : Array Value) (hc : cs = (ds.flatMap Pd.cells).toArray) (hl : ds.length = n) (hn : n ≤ 1000) (hr : ∀ p ∈ ds, PdR w p) : PL (w.alloc (.cells cs 31)) (some ⟨w.heap.size, 0, none⟩) n n ds := by
  subst hc
  exact ⟨hl, HoldsS.new w 3 n _ 31 (by rw [pd_len, hl]), Nat.le_refl _, by unfold maxLen; omega, fun e => (by cases e), fun p hp => (hr p hp).below ((Below.refl _ w).alloc (Nat.le_refl _) _)⟩/-- The packet of the examples, its data at g. -/
def pdk (t : Int) (g : Nat) : Pd := ⟨t, 2, some ⟨g, 0, none⟩, 2, 2, [97, 98]⟩
theorem pdk_new (w : World) (t : Int) (h1 : -9223372036854775808 ≤ t) (h2 : t < 9223372036854775808) : PdR (w.alloc (.cells #[.int .u8 97, .int .u8 98] 5 (2, 3))) (pdk t w.heap.size) :=
  ⟨h1, h2, by show (-9223372036854775808 : Int) ≤ 2; decide, by show (2 : Int) < 9223372036854775808; decide, RB.litM w [97, 98] 2 2 3 _ rfl rfl (by omega)⟩
theorem kblock1 (W : World) (g : Nat) (hp : PdR W (pdk 1 g)) : Calls Try.prog 11 #[.slice (some ⟨W.heap.size, 0, none⟩) 1 1] (W.alloc (.cells #[.int .i64 1, .int .i64 2, .slice (some ⟨g, 0, none⟩) 2 2] 31)) fun e w' => ∃ A c, e = .returned (.tuple #[.slice A 24 c, .int .i64 0]) ∧ w'.ownsRow W.heap.size 5 1 (.slice A 24 c) 24 (E1.map Go.Proofs.Ytgbkoegmoelheaa.u8) ∧ Below W.heap.size W w' := by
  have hb := (Below.refl W.heap.size W).alloc (Nat.le_refl _) (.cells #[.int .i64 1, .int .i64 2, .slice (some ⟨g, 0, none⟩) 2 2] 31)
  refine (blockB_yes _ 1 1 [pdk 1 g] _ (PL.lit W [pdk 1 g] 1 _ rfl rfl (by omega) (fun p hp2 => by rw [List.mem_singleton.1 hp2]; exact hp)) (by kernel_rfl) f_1).mono ?_
  rintro e w' ⟨v, rfl, o, b⟩
  have e1 : encB (pks [pdk 1 g]) = E1 := rfl
  rw [e1, e1_len] at o
  obtain ⟨A, c, rfl, -⟩ := own_form o
  exact ⟨A, c, rfl, own_base o (by simp), hb.trans (b.mono hb.size)⟩
theorem kblock2 (W : World) (g : Nat) (hp : PdR W (pdk 1 g)) : Calls Try.prog 11 #[.slice (some ⟨W.heap.size, 0, none⟩) 2 2] (W.alloc (.cells #[.int .i64 1, .int .i64 2, .slice (some ⟨g, 0, none⟩) 2 2, .int .i64 1, .int .i64 2, .slice (some ⟨g, 0, none⟩) 2 2] 31)) fun e w' => ∃ A c, e = .returned (.tuple #[.slice A 36 c, .int .i64 0]) ∧ Below W.heap.size W w' := by
  have hb := (Below.refl W.heap.size W).alloc (Nat.le_refl _) (.cells #[.int .i64 1, .int .i64 2, .slice (some ⟨g, 0, none⟩) 2 2, .int .i64 1, .int .i64 2, .slice (some ⟨g, 0, none⟩) 2 2] 31)
  refine (blockB_yes _ 2 2 [pdk 1 g, pdk 1 g] _ (PL.lit W [pdk 1 g, pdk 1 g] 2 _ rfl rfl (by omega) (fun p hp2 => by simp at hp2; rw [hp2]; exact hp)) (by kernel_rfl) f_2).mono ?_
  rintro e w' ⟨v, rfl, o, b⟩
  have e1 : (encB (pks [pdk 1 g, pdk 1 g])).length = 36 := e11_len
  rw [e1] at o
  obtain ⟨A, c, rfl, -⟩ := own_form o
  exact ⟨A, c, rfl, hb.trans (b.mono hb.size)⟩
theorem kblock0 (W : World) : Calls Try.prog 11 #[.slice none 0 0] W fun e w' => e = .returned (.tuple #[.slice none 0 0, .int .i64 2]) ∧ Below W.heap.size W w' := blockB_no none 0 0 [] W (PL.nil W) (by omega) (fun p hp => by cases hp) (.inr (by kernel_rfl))
def s0P : StP := ⟨[], [], 0⟩
def s1P : StP := ⟨[], [PK1], 1⟩
theorem add_1 : addP s0P PK1 = (s1P, 0) := by kernel_rfl
theorem add_0 : addP s1P PK0 = (s1P, 8) := by kernel_rfl
theorem cl_1 : closeP s1P = ⟨E1, [], 1⟩ := by kernel_rfl
theorem s0_ok : OkP s0P := ⟨fun p hp => (by cases hp), fun h => absurd rfl h, (by show (0 : Int) ≤ 0; decide), (by show (0 : Int) ≤ 1099511627776; decide)⟩

set_option maxRecDepth 100000 in
set_option maxHeartbeats 8000000 in
theorem known_any (w : World) : Calls Try.prog 10 #[] w fun e w' => e = .returned (.bool true) ∧ Below w.heap.size w w' := by
  have hcv := fun (W : World) => Lib.run_convert_bytes_const (P := Try.prog) W 23 5 #[.int .u8 97, .int .u8 98] 2 2 Try.underlying23 Try.underlying5
  obtain ⟨W1, hW1⟩ : ∃ W1, (w.alloc (.cells #[.int .u8 97, .int .u8 98] 5 (2, 3))).alloc (.cells #[.int .i64 1, .int .i64 2, .slice (some ⟨w.heap.size, 0, none⟩) 2 2] 31) = W1 := ⟨_, rfl⟩
  have HW1 := Lib.hid hW1
  have hb1 : Below w.heap.size w W1 := hW1 ▸ ((Below.refl _ w).alloc (Nat.le_refl _) _).alloc (by simp) _
  have HB1 := Lib.hid hb1
  have HP1 := Lib.hid (show PdR W1 (pdk 1 w.heap.size) from hW1 ▸ (pdk_new w 1 (by decide) (by decide)).below ((Below.refl _ _).alloc (Nat.le_refl _) _))
  have HK1 := Lib.hid (show Blk W1 (w.heap.size + 1) 31 #[.int .i64 1, .int .i64 2, .slice (some ⟨w.heap.size, 0, none⟩) 2 2] from by
    have := Blk.new (w.alloc (.cells #[.int .u8 97, .int .u8 98] 5 (2, 3))) 31 #[.int .i64 1, .int .i64 2, .slice (some ⟨w.heap.size, 0, none⟩) 2 2]
    rw [World.size_alloc, hW1] at this
    exact this)
  clear hW1 hb1
  go_enter Try.func10, Try.ntmps10
  go_upto_region 2 with fail
  rw [HW1.out]
  have q0 := HK1.out.cell 0
  have q1 := HK1.out.cell 1
  have q2 := HK1.out.cell 2
  simp at q0 q1 q2
  have C11a := Lib.hid (kblock1 W1 w.heap.size HP1.out)
  go_upto_region 3 with (go_at_call 11; (with_reducible refine C11a.out.mono ?_); rintro e w2 ⟨A2, c2, rfl, o2, b2⟩; have HA2 := Lib.hid o2; have HB2 := Lib.hid (HB1.out.trans (b2.mono HB1.out.size)); have HP2 := Lib.hid (HP1.out.below b2); have HK2 := Lib.hid (HK1.out.below b2 HK1.out.lt); clear o2 b2 q0 q1 q2; have q0 := HK2.out.cell 0; have q1 := HK2.out.cell 1; have q2 := HK2.out.cell 2; simp at q0 q1 q2)
  have C11b := Lib.hid (kblock2 w2 w.heap.size HP2.out)
  go_upto_region 4 with (go_at_call 11; (with_reducible refine C11b.out.mono ?_); rintro e w3 ⟨A4, c4, rfl, b3⟩; have HA3 := Lib.hid (own_keeps HA2.out fun k hk => b3.block k (own_lt HA2.out k hk)); have HB3 := Lib.hid (HB2.out.trans (b3.mono HB2.out.size)); have HP3 := Lib.hid (HP2.out.below b3); have HK3 := Lib.hid (HK2.out.below b3 HK2.out.lt); clear b3 q0 q1 q2)
  have C11c := Lib.hid (kblock0 w3)
  go_upto_region 7 with (go_at_call 11; (with_reducible refine C11c.out.mono ?_); rintro e w4 ⟨rfl, b4⟩; have HA4 := Lib.hid (own_keeps HA3.out fun k hk => b4.block k (own_lt HA3.out k hk)); have HB4 := Lib.hid (HB3.out.trans (b4.mono HB3.out.size)); have HP4 := Lib.hid (HP3.out.below b4); have HK4 := Lib.hid (HK3.out.below b4 HK3.out.lt); clear b4)
  go_upto_region 8 with fail
  have hcv2 := hcv (w4.alloc (.cells #[.slice none 0 0, .slice none 0 0, .int .i64 0] 46))
  rw [World.size_alloc] at hcv2
  obtain ⟨W5, hW5⟩ : ∃ W5, ((w4.alloc (.cells #[.slice none 0 0, .slice none 0 0, .int .i64 0] 46)).alloc (.cells #[.int .u8 97, .int .u8 98] 5 (2, 3))).alloc (.cells #[.int .i64 0, .int .i64 2, .slice (some ⟨w4.heap.size + 1, 0, none⟩) 2 2] 31) = W5 := ⟨_, rfl⟩
  have HW5 := Lib.hid hW5
  have hb5 : Below w4.heap.size w4 W5 := hW5 ▸ (((Below.refl _ w4).alloc (Nat.le_refl _) _).alloc (by simp) _).alloc (by simp; omega) _
  have HB45 := Lib.hid hb5
  have HB5 := Lib.hid (HB4.out.trans (hb5.mono HB4.out.size))
  have HP5 := Lib.hid (HP4.out.below hb5)
  have HK5 := Lib.hid (HK4.out.below hb5 HK4.out.lt)
  have HA5 := Lib.hid (own_keeps HA4.out fun k hk => hb5.block k (own_lt HA4.out k hk))
  have HAG := Lib.hid (show ∀ k, (Value.slice A2 24 c2).ownBlock = some k → k < w4.heap.size from fun k hk => own_lt HA4.out k hk)
  have HKG := Lib.hid (show w.heap.size + 1 < w4.heap.size from HK4.out.lt)
  have hz5 : W5.heap.size = w4.heap.size + 3 := by rw [← hW5]; simp
  have HGW := Lib.hid (show w4.heap.size ≤ W5.heap.size by omega)
  have HW5a := Lib.hid (show WS W5 w4.heap.size w4.heap.size (.slice none 0 0) (.slice none 0 0) [] s0P from ⟨hW5 ▸ ((Blk.new w4 46 _).alloc _).alloc _, World.ownsRow_nil _ _ 5 1, PO.nil _ _, rfl, by omega, Nat.le_refl _, (fun p hp => by cases hp), s0_ok⟩)
  have HEP5 := Lib.hid (show PdR W5 (pdk 0 (w4.heap.size + 1)) from by
    have := (pdk_new (w4.alloc (.cells #[.slice none 0 0, .slice none 0 0, .int .i64 0] 46)) 0 (by decide) (by decide)).below ((Below.refl _ _).alloc (Nat.le_refl _) (.cells #[.int .i64 0, .int .i64 2, .slice (some ⟨w4.heap.size + 1, 0, none⟩) 2 2] 31))
    rw [World.size_alloc, hW5] at this
    exact this)
  have HEK5 := Lib.hid (show Blk W5 (w4.heap.size + 1 + 1) 31 #[.int .i64 0, .int .i64 2, .slice (some ⟨w4.heap.size + 1, 0, none⟩) 2 2] from by
    have := Blk.new ((w4.alloc (.cells #[.slice none 0 0, .slice none 0 0, .int .i64 0] 46)).alloc (.cells #[.int .u8 97, .int .u8 98] 5 (2, 3))) 31 #[.int .i64 0, .int .i64 2, .slice (some ⟨w4.heap.size + 1, 0, none⟩) 2 2]
    rw [World.size_alloc, World.size_alloc, hW5] at this
    exact this)
  clear hcv hW5 hb5 hz5
  go_upto_region 9 with fail
  rw [HW5.out]
  clear hcv2
  have q0 := HK5.out.cell 0
  have q1 := HK5.out.cell 1
  have q2 := HK5.out.cell 2
  simp at q0 q1 q2
  have C22a : Hid (Calls Try.prog 22 #[.pointer (some ⟨w4.heap.size, 0, none⟩), .agg #[.int .i64 1, .int .i64 2, .slice (some ⟨w.heap.size, 0, none⟩) 2 2]] W5 fun e w' => e = .returned (.int .i64 0) ∧ StepW W5 w' w4.heap.size w4.heap.size (.slice none 0 0) (.slice none 0 0) [] s1P) := Lib.hid (by
    have := add_any W5 w4.heap.size w4.heap.size (.slice none 0 0) (.slice none 0 0) [] s0P 1 2 (some ⟨w.heap.size, 0, none⟩) 2 2 [97, 98] HW5a.out HP5.out (by omega) (by simp [s0P])
    rw [show (⟨1, 2, [97, 98]⟩ : Pk) = PK1 from rfl, add_1] at this
    exact this)
  go_wp2_with (go_at_call 22; (with_reducible refine C22a.out.mono ?_); rintro e w6 ⟨rfl, hs⟩; have HS6 := Lib.hid hs; clear hs; refine Hid.out ?_)
  obtain ⟨vb6, vl6, ds6, hws6, hon6, hhat6, -⟩ := HS6.out
  have hn6 : ∀ k, WF w4.heap.size (.slice none 0 0) k → k = w4.heap.size := fun k hk => hk.elim id (fun h => by simp [Value.ownBlock] at h)
  have hb6 := hon6.to_below HGW.out (fun b hb hk => by have := hn6 b hk; omega)
  have HWS6 := Lib.hid hws6
  have HB6 := Lib.hid hb6
  have HEK6 := Lib.hid (HEK5.out.only hon6 fun hk => by have := hn6 _ hk; omega)
  have HEP6 := Lib.hid (show PdR w6 (pdk 0 (w4.heap.size + 1)) from ⟨HEP5.out.t1, HEP5.out.t2, HEP5.out.f1, HEP5.out.f2, HEP5.out.r.only hon6 fun a hA h0 hk => by
    have h1 := hn6 _ hk
    have h2 : (⟨w4.heap.size + 1, 0, none⟩ : Addr) = a := by have : some (⟨w4.heap.size + 1, 0, none⟩ : Addr) = some a := hA; injection this
    rw [← h2] at h1
    simp at h1⟩)
  refine Lib.hid ?_
  clear q0 q1 q2 hws6 hon6 hhat6 hn6 hb6
  have q0 := HEK6.out.cell 0
  have q1 := HEK6.out.cell 1
  have q2 := HEK6.out.cell 2
  simp at q0 q1 q2
  have C22b : Hid (Calls Try.prog 22 #[.pointer (some ⟨w4.heap.size, 0, none⟩), .agg #[.int .i64 0, .int .i64 2, .slice (some ⟨w4.heap.size + 1, 0, none⟩) 2 2]] w6 fun e w' => e = .returned (.int .i64 8) ∧ StepW w6 w' w4.heap.size w4.heap.size vb6 vl6 ds6 s1P) := Lib.hid (by
    have := add_any w6 w4.heap.size w4.heap.size vb6 vl6 ds6 s1P 0 2 (some ⟨w4.heap.size + 1, 0, none⟩) 2 2 [97, 98] HWS6.out HEP6.out (by omega) (by simp [s1P])
    rw [show (⟨0, 2, [97, 98]⟩ : Pk) = PK0 from rfl, add_0] at this
    exact this)
  go_wp2_with (go_at_call 22; (with_reducible refine C22b.out.mono ?_); rintro e w7 ⟨rfl, hs⟩; have HS7 := Lib.hid hs; clear hs; refine Hid.out ?_)
  obtain ⟨vb7, vl7, ds7, hws7, hon7, hhat7, -⟩ := HS7.out
  have HWS7 := Lib.hid hws7
  have HB7 := Lib.hid (HB6.out.trans (hon7.to_below HWS6.out.base (fun b hb hk => by have := HWS6.out.ge b (.inl hk); omega)))
  refine Lib.hid ?_
  clear q0 q1 q2 hws7 hon7 hhat7
  have C21 : Hid (Calls Try.prog 21 #[.pointer (some ⟨w4.heap.size, 0, none⟩)] w7 fun e w' => e = .returned (.int .i64 0) ∧ StepW w7 w' w4.heap.size w4.heap.size vb7 vl7 ds7 ⟨E1, [], 1⟩) := Lib.hid (by
    have := close_any w7 w4.heap.size w4.heap.size vb7 vl7 ds7 s1P HWS7.out (by simp [s1P])
    rw [cl_1] at this
    exact this)
  go_wp2_with (go_at_call 21; (with_reducible refine C21.out.mono ?_); rintro e w8 ⟨rfl, hs⟩; have HS8 := Lib.hid hs; clear hs; refine Hid.out ?_)
  obtain ⟨vb8, vl8, ds8, hws8, hon8, hhat8, -⟩ := HS8.out
  have HWS8 := Lib.hid hws8
  have HB8 := Lib.hid (HB7.out.trans (hon8.to_below HWS7.out.base (fun b hb hk => by have := HWS7.out.ge b (.inl hk); omega)))
  refine Lib.hid ?_
  clear hws8 hon8 hhat8
  have C26 := Lib.hid (waiting_any w8 w4.heap.size w4.heap.size vb8 vl8 ds8 ⟨E1, [], 1⟩ HWS8.out)
  go_upto_region 11 with (go_at_call 26; (with_reducible refine C26.out.mono ?_); rintro e w9 ⟨rfl, hb⟩; have HWS9 := Lib.hid (HWS8.out.below hb); have HB9 := Lib.hid (HB8.out.trans (hb.mono (Nat.le_trans HGW.out HB8.out.size))); clear hb)
  have HB49 := Lib.hid (HB45.out.trans HB9.out)
  have HA9 := Lib.hid (own_keeps HA4.out fun k hk => HB49.out.block k (own_lt HA4.out k hk))
  have HP9 := Lib.hid (HP4.out.below HB49.out)
  have HK9 := Lib.hid (HK4.out.below HB49.out HK4.out.lt)
  have HW9 := Lib.hid (HB4.out.trans (HB49.out.mono HB4.out.size))
  have C23 : Hid (Calls Try.prog 23 #[.pointer (some ⟨w4.heap.size, 0, none⟩)] w9 fun e w' => ∃ A c, e = .returned (.slice A 24 c) ∧ w'.ownsRow w9.heap.size 5 1 (.slice A 24 c) 24 (E1.map Go.Proofs.Ytgbkoegmoelheaa.u8) ∧ Below w9.heap.size w9 w') := Lib.hid ((bytes_any w9 w4.heap.size w4.heap.size vb8 vl8 ds8 ⟨E1, [], 1⟩ HWS9.out (by rw [e1_len]; omega)).mono fun e w' h => by
    obtain ⟨v, rfl, o, hb⟩ := h
    have o' : w'.ownsRow w9.heap.size 5 1 v E1.length (E1.map Go.Proofs.Ytgbkoegmoelheaa.u8) := o
    rw [e1_len] at o'
    obtain ⟨A, c, rfl, -⟩ := own_form o'
    exact ⟨A, c, rfl, o', hb⟩)
  go_wp2_with (go_at_call 23; (with_reducible refine C23.out.mono ?_); rintro e w10 ⟨A10, c10, rfl, o10, b10⟩; have HO10 := Lib.hid o10; have HB10 := Lib.hid b10; clear o10 b10; refine Hid.out ?_)
  refine Lib.hid ?_
  have HL3 := Lib.hid (RB.lit w10 [0, 0, 0] 3 #[.int .u8 0, .int .u8 0, .int .u8 0] rfl rfl (by omega))
  go_wp2_with (at_builtin; go_must (refine wpList_app_own (base := w9.heap.size) (n := 24) (m := 3) (xs := E1.map Go.Proofs.Ytgbkoegmoelheaa.u8) (news := [.int .u8 0, .int .u8 0, .int .u8 0]) rfl (.tmp 81) (.tmp 82) 23 rfl el22 rfl (own_alloc HO10.out) rfl HL3.out.h (by simp [Value.oneCell']) (by decide) (by decide) (by have := HB10.out.size; simp; omega) ?_; intro v11 w11 hown hg hat; refine Hid.out ?_))
  obtain ⟨A11, c11, rfl, -⟩ := own_form hown
  have HB11 := Lib.hid (below_own (HB10.out.alloc HB10.out.size (.cells #[.int .u8 0, .int .u8 0, .int .u8 0] 5)) (by have := HB10.out.size; simp; omega) (own_alloc HO10.out) hg)
  have HR11 := Lib.hid (show RB w11 A11 27 c11 (E1 ++ [0, 0, 0]) from own_RB3 (by rw [List.map_append]; exact hown))
  refine Lib.hid ?_
  clear hown hg hat
  have C24 : Hid (Calls Try.prog 24 #[.slice A11 27 c11] w11 fun e w' => ∃ Al cl Ag cg ds, e = .returned (.tuple #[.slice Al 1 cl, .slice Ag 1 cg]) ∧ PO w11.heap.size w' (.slice Al 1 cl) ds ∧ pks ds = [PK1] ∧ w'.ownsRow w11.heap.size 63 2 (.slice Ag 1 cg) 1 ([((24 : Nat), (27 : Nat))].flatMap gcells) ∧ Below w11.heap.size w11 w') := Lib.hid ((read_any A11 27 c11 (E1 ++ [0, 0, 0]) w11 HR11.out (by omega)).mono fun e w' h => by
    obtain ⟨vl, vg, ds, rfl, hpo, heq, hgs, hb⟩ := h
    rw [b_1] at heq hgs
    have e1 : (rdAll [⟨0, 24, [PK1]⟩]).l = [PK1] := by kernel_rfl
    have e2 : endG (rdAll [⟨0, 24, [PK1]⟩]) 27 = [(24, 27)] := by kernel_rfl
    rw [e1] at heq
    rw [e2] at hgs
    have hl : ds.length = 1 := by have := congrArg List.length heq; simpa [pks] using this
    obtain ⟨Al, cl, rfl⟩ := hpo.form
    obtain ⟨Ag, cg, rfl, -⟩ := own_formS hgs
    rw [hl] at hpo ⊢
    exact ⟨Al, cl, Ag, cg, ds, rfl, hpo, heq, hgs, hb⟩)
  go_upto_region 12 with (go_at_call 24; (with_reducible refine C24.out.mono ?_); rintro e w12 ⟨Al, cl, Ag, cg, ds12, rfl, hpo, heq, hgs, hb⟩; have HPO12 := Lib.hid hpo; have HEQ12 := Lib.hid heq; have HGS12 := Lib.hid hgs; have HB12 := Lib.hid (HB11.out.trans (hb.mono HB11.out.size)); clear hpo heq hgs hb)
  have HA12 := Lib.hid (own_keeps HA9.out fun k hk => HB12.out.block k (own_lt HA9.out k hk))
  have HP12 := Lib.hid (HP9.out.below HB12.out)
  have HK12 := Lib.hid (HK9.out.below HB12.out HK9.out.lt)
  have HW12 := Lib.hid (HW9.out.trans (HB12.out.mono HW9.out.size))
  have q0 := HK12.out.cell 0
  have q1 := HK12.out.cell 1
  have q2 := HK12.out.cell 2
  simp at q0 q1 q2
  have C17 : Hid (Calls Try.prog 17 #[.slice Al 1 cl, .slice (some ⟨w12.heap.size, 0, none⟩) 1 1] (w12.alloc (.cells #[.int .i64 1, .int .i64 2, .slice (some ⟨w.heap.size, 0, none⟩) 2 2] 31)) fun e w' => e = .returned (.bool true) ∧ Below w12.heap.size w12 w') := Lib.hid ((same_any Al (some ⟨w12.heap.size, 0, none⟩) 1 cl 1 1 ds12 [pdk 1 w.heap.size] (w12.alloc (.cells #[.int .i64 1, .int .i64 2, .slice (some ⟨w.heap.size, 0, none⟩) 2 2] 31)) (HPO12.out.pl.below ((Below.refl _ _).alloc (Nat.le_refl _) _)) (PL.lit w12 [pdk 1 w.heap.size] 1 _ rfl rfl (by omega) (fun p hp2 => by rw [List.mem_singleton.1 hp2]; exact HP12.out)) (by rw [HEQ12.out]; rfl) (by omega)).mono fun e w' h => ⟨h.1, ((Below.refl _ _).alloc (Nat.le_refl _) _).trans (h.2.mono (by simp))⟩)
  go_wp2_with (go_at_call 17; (with_reducible refine C17.out.mono ?_); rintro e w13 ⟨rfl, b13⟩; have HB13 := Lib.hid b13; clear b13; refine Hid.out ?_)
  refine Lib.hid ?_
  clear q0 q1 q2
  have C25 : Hid (Calls Try.prog 25 #[.slice Ag 1 cg, .slice (some ⟨w13.heap.size, 0, none⟩) 1 1] (w13.alloc (.cells #[.int .i64 24, .int .i64 27] 63)) fun e w' => e = .returned (.bool true) ∧ Below w13.heap.size w13 w') := Lib.hid ((gaps_any Ag (some ⟨w13.heap.size, 0, none⟩) 1 cg 1 1 [(24, 27)] (w13.alloc (.cells #[.int .i64 24, .int .i64 27] 63)) (((own_GL HGS12.out).below HB13.out).below ((Below.refl _ _).alloc (Nat.le_refl _) _)) ⟨rfl, HoldsS.new w13 2 1 [.int .i64 24, .int .i64 27] 63 rfl⟩ (by omega)).mono fun e w' h => ⟨h.1, ((Below.refl _ _).alloc (Nat.le_refl _) _).trans (h.2.mono (by simp))⟩)
  go_upto_region 14 with (go_at_call 25; (with_reducible refine C25.out.mono ?_); rintro e w14 ⟨rfl, b14⟩; have HB14 := Lib.hid (HB13.out.trans (b14.mono HB13.out.size)); clear b14)
  have HA14 := Lib.hid (own_keeps HA12.out fun k hk => HB14.out.block k (own_lt HA12.out k hk))
  have HW14 := Lib.hid (HW12.out.trans (HB14.out.mono HW12.out.size))
  obtain ⟨g2, cap2, e2, hg2, -, -, -, -⟩ := own_holds HA14.out (by omega)
  have HG2 := Lib.hid hg2
  cases e2
  clear hg2
  have HS1 := Lib.hid HB1.out.size
  obtain ⟨A15, c15, hs15, hr15, -⟩ := slice_to w14 (some ⟨g2, 0, none⟩) 24 c2 23 E1 (own_RB3 HA14.out) (by omega)
  have C16a : Hid (Calls Try.prog 16 #[.slice A15 23 c15] w14 fun e w' => e = .returned (.tuple #[.slice none 0 0, .int .i64 0, .int .i64 4]) ∧ Below w14.heap.size w14 w') := Lib.hid ((dec_any A15 23 c15 _ w14 hr15 (by omega)).mono fun e w' h => by
    rw [d_1] at h
    obtain ⟨hb, ⟨k, h1, h2⟩ | ⟨v, ds, m, h1, -⟩⟩ := h
    · cases h1; exact ⟨h2, hb⟩
    · cases h1)
  have hs15' : ∀ W' : World, (Instr.slice 23 (.slice (some ⟨g2, 0, none⟩) 24 c2) none (some (.int .i64 23)) none).run Try.prog W' = .ok (.slice A15 23 c15) W' := hs15
  clear hs15 hr15
  go_upto_region 15 with (go_at_call 16; (with_reducible refine C16a.out.mono ?_); rintro e w15 ⟨rfl, b15⟩; have HB15 := Lib.hid b15; clear b15)
  have HA15 := Lib.hid (own_keeps HA14.out fun k hk => HB15.out.block k (own_lt HA14.out k hk))
  have HW15 := Lib.hid (HW14.out.trans (HB15.out.mono HW14.out.size))
  have kx := (own_holds HA15.out (by omega))
  have kc : w15.cell? ⟨g2, 23, none⟩ = some (.int .u8 228) := by
    obtain ⟨g', cap', e', -, -, -, -, hc⟩ := own_holds HA15.out (by omega)
    cases e'
    have := hc 23 (.int .u8 228) (by kernel_rfl)
    rwa [Addr.add_lit] at this
  have kf := own_frozen (k := 23) HA15.out
  have hx1 : bits .xor .u8 228 1 = 229 := by kernel_rfl
  go_upto_region 16 with fail
  clear kx kc kf
  have HA16 := Lib.hid (show (w15.setCell ⟨g2, 23, none⟩ (.int .u8 229)).ownsRow W1.heap.size 5 1 (.slice (some ⟨g2, 0, none⟩) 24 c2) 24 (E2.map Go.Proofs.Ytgbkoegmoelheaa.u8) from by
    have := own_store (k := 23) HA15.out (.int .u8 229)
    have e : (E1.map Go.Proofs.Ytgbkoegmoelheaa.u8).set 23 (.int .u8 229) = E2.map Go.Proofs.Ytgbkoegmoelheaa.u8 := by kernel_rfl
    rw [e] at this
    exact this)
  have HW16 := Lib.hid (show Below w.heap.size w (w15.setCell ⟨g2, 23, none⟩ (.int .u8 229)) from Below.setCell HW15.out (by have := HG2.out; have := HS1.out; show w.heap.size ≤ g2; omega) _)
  obtain ⟨W16, hW16⟩ : ∃ W16, w15.setCell ⟨g2, 23, none⟩ (.int .u8 229) = W16 := ⟨_, rfl⟩
  rw [hW16] at HA16 HW16 ⊢
  clear hW16
  have C16b : Hid (Calls Try.prog 16 #[.slice (some ⟨g2, 0, none⟩) 24 c2] W16 fun e w' => e = .returned (.tuple #[.slice none 0 0, .int .i64 0, .int .i64 10]) ∧ Below W16.heap.size W16 w') := Lib.hid ((dec_any (some ⟨g2, 0, none⟩) 24 c2 E2 W16 (own_RB3 HA16.out) (by omega)).mono fun e w' h => by
    rw [d_2] at h
    obtain ⟨hb, ⟨k, h1, h2⟩ | ⟨v, ds, m, h1, -⟩⟩ := h
    · cases h1; exact ⟨h2, hb⟩
    · cases h1)
  go_upto_region 17 with (go_at_call 16; (with_reducible refine C16b.out.mono ?_); rintro e w17 ⟨rfl, b17⟩; have HB17 := Lib.hid b17; clear b17)
  have HA17 := Lib.hid (own_keeps HA16.out fun k hk => HB17.out.block k (own_lt HA16.out k hk))
  have HW17 := Lib.hid (HW16.out.trans (HB17.out.mono HW16.out.size))
  have kc : w17.cell? ⟨g2, 0, none⟩ = some (.int .u8 80) := by
    obtain ⟨g', cap', e', -, -, -, -, hc⟩ := own_holds HA17.out (by omega)
    cases e'
    have := hc 0 (.int .u8 80) (by kernel_rfl)
    rwa [Addr.add_lit] at this
  have kf := own_frozen (k := 0) HA17.out
  have hx2 : bits .xor .u8 80 1 = 81 := by kernel_rfl
  go_upto_region 18 with fail
  clear kc kf
  have HA18 := Lib.hid (show (w17.setCell ⟨g2, 0, none⟩ (.int .u8 81)).ownsRow W1.heap.size 5 1 (.slice (some ⟨g2, 0, none⟩) 24 c2) 24 (E3.map Go.Proofs.Ytgbkoegmoelheaa.u8) from by
    have := own_store (k := 0) HA17.out (.int .u8 81)
    have e : (E2.map Go.Proofs.Ytgbkoegmoelheaa.u8).set 0 (.int .u8 81) = E3.map Go.Proofs.Ytgbkoegmoelheaa.u8 := by kernel_rfl
    rw [e] at this
    exact this)
  have HW18 := Lib.hid (show Below w.heap.size w (w17.setCell ⟨g2, 0, none⟩ (.int .u8 81)) from Below.setCell HW17.out (by have := HG2.out; have := HS1.out; show w.heap.size ≤ g2; omega) _)
  obtain ⟨W18, hW18⟩ : ∃ W18, w17.setCell ⟨g2, 0, none⟩ (.int .u8 81) = W18 := ⟨_, rfl⟩
  rw [hW18] at HA18 HW18 ⊢
  clear hW18
  have C16c : Hid (Calls Try.prog 16 #[.slice (some ⟨g2, 0, none⟩) 24 c2] W18 fun e w' => e = .returned (.tuple #[.slice none 0 0, .int .i64 0, .int .i64 6]) ∧ Below W18.heap.size W18 w') := Lib.hid ((dec_any (some ⟨g2, 0, none⟩) 24 c2 E3 W18 (own_RB3 HA18.out) (by omega)).mono fun e w' h => by
    rw [d_3] at h
    obtain ⟨hb, ⟨k, h1, h2⟩ | ⟨v, ds, m, h1, -⟩⟩ := h
    · cases h1; exact ⟨h2, hb⟩
    · cases h1)
  go_wp2_with (go_at_call 16; (with_reducible refine C16c.out.mono ?_); rintro e w19 ⟨rfl, b19⟩; have HW19 := Lib.hid (HW18.out.trans (b19.mono HW18.out.size)); clear b19)
  go_ret
  exact ⟨rfl, HW19.out⟩
end Go.Proofs.Ytgbkoegmoelheaa
