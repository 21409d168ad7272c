/- The contracts of (*Reader).take, Take and Little at a reader's state and without one. -/
import Derived.Test.YthgbnpafhkhjpaaTak
namespace Go.Proofs.Ythgbnpafhkhjpaa
open Go.RowKit
set_option linter.unusedVariables false
set_option linter.unusedSimpArgs false

theorem firstE_stop : ∀ (cs ds : List (Bool × Int)), firstE cs ≠ 0 → firstE (cs ++ ds) = firstE cs
  | [], ds, h => absurd rfl h
  | (true, _) :: cs, ds, h => firstE_stop cs ds h
  | (false, e) :: cs, ds, h => rfl
theorem rE_bad (l : List UInt8) (p : Nat) (cs : List (Bool × Int)) (c1 c2 : Int) (h : firstE cs ≠ 0) : rE l p cs c1 = rE l p cs c2 := by
  unfold rE
  rw [firstE_stop ([(true, 1)] ++ cs) _ h, firstE_stop ([(true, 1)] ++ cs) _ h]
theorem takeC_nz (k a b pl : Int) : ∀ c ∈ takeC k a b pl, c.2 ≠ 0 := by
  intro c hc
  simp [takeC] at hc
  rcases hc with rfl | rfl <;> simp
theorem takeC_in {k a b pl : Int} (h : firstE (takeC k a b pl) = 0) : a ≤ k ∧ k ≤ b ∧ pl.tmod 8 = 0 := by
  cases hd : (decide (a ≤ k) && decide (k ≤ b))
  · simp [takeC, hd, firstE] at h
  · cases hq : (pl.tmod 8 == 0)
    · simp [takeC, hd, hq, firstE] at h
    · simp at hd hq; exact ⟨hd.1, hd.2, hq⟩

theorem take_some (B g : Nat) (v : Value) (l : List UInt8) (p : Nat) (k a b : Int) (w : World) (ha : 0 ≤ a) (hr : RS w B g v l p) :
    Calls Try.prog 44 #[.pointer (some ⟨g, 0, none⟩), .int .i64 k, .int .i64 a, .int .i64 b] w fun e w' => ∃ v', e = .returned (.tuple #[v', .int .i64 (rE l p (takeC k a b p) (takeN k))]) ∧ w'.ownsRow w.heap.size 5 1 v' ((rN (rE l p (takeC k a b p) (takeN k)) (takeN k) + 7) / 8) ((pack (cut l p (rN (rE l p (takeC k a b p) (takeN k)) (takeN k)))).map u8) ∧ RS w' B g v l (p + rN (rE l p (takeC k a b p) (takeN k)) (takeN k)) ∧ Two g (.slice none 0 0) w w' := by
  have hg := hr.blk.lt
  obtain ⟨E, hE⟩ : ∃ E, rE l p (takeC k a b p) (takeN k) = E := ⟨_, rfl⟩
  rw [hE]
  refine (take_walk (some ⟨g, 0, none⟩) k a b p E ((rN E (takeN k) + 7) / 8) ((pack (cut l p (rN E (takeN k)))).map u8) (fun W => RS W B g v l (p + rN E (takeN k)) ∧ Two g (.slice none 0 0) w W) w (fun W hb => rplace_some g _ _ _ W (hr.below hb (Nat.le_refl _)).blk) fun b2 W cnt hb hc hcnt => ?_).mono ?_
  · have hEc : rE l p (takeC k a b p) cnt = E := by
      by_cases hk : 0 ≤ k
      · rw [hcnt hk, hE]
      · rw [← hE]
        exact rE_bad _ _ _ _ _ fun h => by have := takeC_in h; omega
    have hNc : rN E cnt = rN E (takeN k) := by
      unfold rN
      split
      · rename_i h0
        obtain ⟨f1, f2⟩ := firstE_front ([(true, 1)] ++ takeC k a b p) _ (by intro c hc; simp at hc; rcases hc with rfl | hc; simp; exact takeC_nz _ _ _ _ c hc) (show firstE _ = 0 from hE.trans h0)
        have := takeC_in (show firstE (takeC k a b p) = 0 from f1)
        rw [hcnt (by omega)]
      · rfl
    refine (pass_rs B g v l p cnt b2 2 _ W (hr.below hb (Nat.le_refl _)) hc rfl (by omega) (by omega) (takeC_nz _ _ _ _) ?_).mono ?_
    · intro h
      have h3 := takeC_in h
      rw [hcnt (by omega)]
      unfold takeN
      omega
    · rintro e w' ⟨v', rfl, k1, k2, k3⟩
      rw [hEc, hNc] at *
      exact ⟨v', _, rfl, own_base k1 hb.size, ⟨k2, Two.of_below hb k3⟩, k3.size⟩
  · rintro e w' ⟨v', rfl, k1, w1, ⟨k2, k3⟩, k4, k5⟩
    exact ⟨v', rfl, k1, k2.low k5 hg fun k hk => own_lt hr.own k hk, k3.below k5⟩

theorem take_none (p : Option Addr) (k a b : Int) (w : World) (h49 : ∀ W, Below w.heap.size w W → Calls Try.prog 49 #[.pointer p] W fun e w' => e = .returned (.bool false) ∧ W = w') :
    Calls Try.prog 44 #[.pointer p, .int .i64 k, .int .i64 a, .int .i64 b] w fun e w' => ∃ v', e = .returned (.tuple #[v', .int .i64 1]) ∧ w'.ownsRow w.heap.size 5 1 v' 0 [] ∧ Below w.heap.size w w' := by
  refine (take_walk p k a b 0 1 0 [] (fun W => Below w.heap.size w W) w (fun W hb => rplace_none _ W (h49 W hb)) fun b2 W cnt hb hc hcnt => ?_).mono ?_
  · refine (pass_none p cnt b2 2 _ W hc rfl (by omega) (by omega) (fun W2 h2 => h49 W2 (hb.trans (h2.mono hb.size)))).mono ?_
    rintro e w' ⟨rfl, h⟩
    exact ⟨_, _, rfl, World.ownsRow_nil _ _ 5 1, hb.trans (h.mono hb.size), h.size⟩
  · rintro e w' ⟨v', rfl, k1, w1, k2, k4, k5⟩
    exact ⟨v', rfl, k1, k2.trans k5⟩

set_option maxRecDepth 100000 in
theorem rtake_of (p : Option Addr) (k E : Int) (n : Nat) (xs : List Value) (P : World → Prop) (w : World)
    (h44 : Calls Try.prog 44 #[.pointer p, .int .i64 k, .int .i64 0, .int .i64 k] w fun e w' => ∃ v', e = .returned (.tuple #[v', .int .i64 E]) ∧ w'.ownsRow w.heap.size 5 1 v' n xs ∧ P w') :
    Calls Try.prog 21 #[.pointer p, .int .i64 k] w fun e w' => ∃ v', e = .returned (.tuple #[v', .int .i64 E]) ∧ w'.ownsRow w.heap.size 5 1 v' n xs ∧ P w' := by
  have C44 := Lib.hid h44
  clear h44
  go_enter Try.func21, Try.ntmps21
  go_wp2_with (first | (go_at_call 44; (with_reducible refine C44.out.mono ?_); rintro e w1 ⟨v1, rfl, ho, hP⟩; obtain ⟨A1, c1, rfl, -⟩ := own_form ho; have HO := Lib.hid ho; have HP := Lib.hid hP; clear ho hP))
  go_ret2
  exact ⟨_, rfl, HO.out, HP.out⟩

/-- The little number of bytes. -/
def leV : List UInt8 → Nat
  | [] => 0
  | x :: l => x.toNat + 256 * leV l
theorem leV_lt : ∀ l : List UInt8, leV l < 256 ^ l.length
  | [] => by simp [leV]
  | x :: l => by
    have h1 := leV_lt l
    have h2 := x.toNat_lt
    simp only [leV, List.length_cons, Nat.pow_succ]
    omega
theorem leV_snoc : ∀ (l : List UInt8) (x : UInt8), leV (l ++ [x]) = leV l + 256 ^ l.length * x.toNat
  | [], x => by simp [leV]
  | y :: l, x => by
    simp only [List.cons_append, leV, leV_snoc l x, List.length_cons, Nat.pow_succ]
    rw [Nat.mul_add, Nat.mul_comm (256 ^ l.length) 256, ← Nat.mul_assoc]
    omega
theorem or_le (V x i : Nat) (hV : V < 256 ^ i) (hx : x < 256) (hi : i < 4) : Go.bits BinOp.or IntKind.i64 (V : Int) ((x : Int) * 256 ^ i) = ((V + 256 ^ i * x : Nat) : Int) := by
  have e1 : ((x : Int) * 256 ^ i) = ((x * 256 ^ i : Nat) : Int) := by simp
  have hp : 256 ^ i ≤ 256 ^ 3 := Nat.pow_le_pow_right (by omega) (by omega)
  have hm : x * 256 ^ i ≤ 255 * 256 ^ 3 := Nat.mul_le_mul (by omega) hp
  rw [e1, i64_or_nat V (x * 256 ^ i) (by omega) (by omega)]
  have h256 : 256 ^ i = 2 ^ (8 * i) := by rw [Nat.pow_mul]
  have h2 : V ||| x * 256 ^ i = x <<< (8 * i) + V := by
    rw [Nat.or_comm, Nat.shiftLeft_add_eq_or_of_lt (by rw [← h256]; exact hV), Nat.shiftLeft_eq, h256]
  rw [h2, Nat.shiftLeft_eq, ← h256]
  congr 1
  rw [Nat.mul_comm x]
  omega

set_option maxRecDepth 100000 in
set_option maxHeartbeats 2000000 in
theorem rlittle_of (p : Option Addr) (k E : Int) (l : List UInt8) (P : World → Prop) (w : World) (hl : l.length ≤ 4)
    (h44 : Calls Try.prog 44 #[.pointer p, .int .i64 k, .int .i64 1, .int .i64 4] w fun e w' => ∃ v', e = .returned (.tuple #[v', .int .i64 E]) ∧ w'.ownsRow w.heap.size 5 1 v' l.length (l.map u8) ∧ P w') :
    Calls Try.prog 20 #[.pointer p, .int .i64 k] w fun e w' => e = .returned (.tuple #[.int .i64 (leV l), .int .i64 E]) ∧ P w' := by
  have C44 := Lib.hid h44
  obtain ⟨n, hn⟩ : ∃ n, l.length = n := ⟨_, rfl⟩
  rw [hn] at C44 hl
  have HN := Lib.hid hn
  clear h44 hn
  have hl4 : (n : Int) ≤ 4 := by omega
  go_enter Try.func20, Try.ntmps20
  go_wp2_with (first | (go_at_call 44; (with_reducible refine C44.out.mono ?_); rintro e w1 ⟨v1, rfl, ho, hP⟩; obtain ⟨A1, c1, rfl, -⟩ := own_form ho; have HO := Lib.hid ho; have HP := Lib.hid hP; clear ho hP))
  go_loopw [4, 17] (fun vv ii wz => ∃ i : Nat, (i : Int) ≤ n ∧ vv = .int .i64 (leV (l.take i)) ∧ ii = .int .i64 i ∧ wz = w1) (fun _ ii _ => n - (intOf ii).toNat)
  case atStart => exact ⟨0, by omega, by simp [leV], rfl, rfl⟩
  case round =>
    obtain ⟨i, hi, rfl, rfl, rfl⟩ := hrel
    have hi0 : (0 : Int) ≤ i := by omega
    by_cases hlt : (i : Int) < n
    · have hil : i < l.length := by rw [HN.out]; omega
      obtain ⟨g1, cap, hv, -, -, -, -, hcs⟩ := own_holds HO.out (by omega)
      cases hv
      have hc1 := hcs i (Ythgbnpafhkhjpaa.u8 l[i]) (by rw [List.getElem?_map, List.getElem?_eq_getElem hil]; rfl)
      rw [Addr.add_lit, Nat.zero_add] at hc1
      unfold Ythgbnpafhkhjpaa.u8 at hc1
      have hsn := leV_snoc (l.take i) l[i]
      have hVl := leV_lt (l.take i)
      rw [List.take_append_getElem hil] at hsn
      have htl : (l.take i).length = i := by simp; omega
      rw [htl] at hsn hVl
      have hxl := l[i].toNat_lt
      have hor := or_le (leV (l.take i)) l[i].toNat i hVl hxl (by omega)
      obtain ⟨V, hV⟩ : ∃ V, leV (l.take i) = V := ⟨_, rfl⟩
      obtain ⟨x, hx⟩ : ∃ x, l[i].toNat = x := ⟨_, rfl⟩
      rw [hx] at hc1 hor hsn hxl
      rw [hV] at hor hsn hVl ⊢
      have HSN := Lib.hid hsn
      clear hcs hV hx hsn
      have hx0 : (0 : Int) ≤ x := by omega
      have hx1 : (x : Int) < 256 := by omega
      have hV0 : (0 : Int) ≤ V := by omega
      clear hxl
      rcases (show i = 0 ∨ i = 1 ∨ i = 2 ∨ i = 3 by omega) with rfl | rfl | rfl | rfl
      · simp at hor hVl HSN
        subst hVl
        go_wp2_with fail
        refine ⟨⟨1, by omega, ?_, rfl, trivial⟩, by simp [intOf]; omega⟩
        rw [HSN.out]
        simp at hor; rw [hor]; simp
      · simp at hor hVl HSN
        go_wp2_with fail
        refine ⟨⟨2, by omega, ?_, rfl, trivial⟩, by simp [intOf]; omega⟩
        rw [HSN.out]
        simp
      · simp at hor hVl HSN
        go_wp2_with fail
        refine ⟨⟨3, by omega, ?_, rfl, trivial⟩, by simp [intOf]; omega⟩
        rw [HSN.out]
        simp
      · simp at hor hVl HSN
        go_wp2_with fail
        refine ⟨⟨4, by omega, ?_, rfl, trivial⟩, by simp [intOf]; omega⟩
        rw [HSN.out]
        simp
    · obtain rfl : i = n := by omega
      have hta : l.take i = l := List.take_of_length_le (by rw [HN.out]; exact Nat.le_refl _)
      rw [hta]
      go_wp2_with fail
      go_ret2
      exact ⟨rfl, HP.out⟩
end Go.Proofs.Ythgbnpafhkhjpaa
