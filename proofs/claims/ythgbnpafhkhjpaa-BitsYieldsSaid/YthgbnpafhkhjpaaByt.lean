/- The contract of (*Writer).Bytes. -/
import Derived.Test.YthgbnpafhkhjpaaPut
import Derived.Deep.RegionHeld3
namespace Go.Proofs.Ythgbnpafhkhjpaa
open Go.RowKit
set_option linter.unusedVariables false
set_option linter.unusedSimpArgs false

set_option maxRecDepth 100000 in
theorem from_any (S : Option Addr) (p : Int) (w : World) : Calls Try.prog 40 #[.pointer S, .int .i64 p] w fun e w' => e = .returned (.func (.func 65) #[] #[.pointer (some ⟨w.heap.size + 1, 0, none⟩), .pointer (some ⟨w.heap.size, 0, none⟩)]) ∧ (w.alloc (.cells #[.pointer S] 98)).alloc (.cells #[.int .i64 p] 3) = w' := by
  go_enter Try.func40, Try.ntmps40
  go_wp2_with fail
  go_ret
  exact ⟨rfl, rfl⟩

set_option maxRecDepth 100000 in
theorem waligned_any (p : Option Addr) (len : Int) (w : World) (h13 : ∀ W, Below w.heap.size w W → Calls Try.prog 13 #[.pointer p] W fun e w' => e = .returned (.int .i64 len) ∧ W = w') :
    Calls Try.prog 42 #[.pointer p] w fun e w' => e = .returned (.agg #[.bool (len.tmod 8 == 0), .int .i64 8]) ∧ w.alloc (.cells #[.bool (len.tmod 8 == 0), .int .i64 8] 72) = w' := by
  have C := Lib.hid (h13 (w.alloc (.cells #[.bool false, .int .i64 0] 72)) ((Below.refl _ w).alloc (Nat.le_refl _) _))
  clear h13
  go_enter Try.func42, Try.ntmps42
  go_wp2_with (go_at_call 13; (with_reducible refine C.out.mono ?_); rintro e w1 ⟨rfl, rfl⟩)
  refine bodyPost_ret (v := .agg #[.bool (len.tmod 8 == 0), .int .i64 8]) ?_ rfl ⟨rfl, rfl⟩
  exact results_cell_row rfl _ _ w.heap.size 72 #[.bool (len.tmod 8 == 0), .int .i64 8] (0, 0) _ rfl (Blk.new w 72 _) Try.underlying72 rfl (by kernel_rfl)

theorem cell_keep {w : World} {a : Addr} {v : Value} (h : w.cell? a = some v) (o : Obj) : (w.alloc o).cell? a = some v := by
  rw [World.cell?_alloc_lt w o a (World.block_lt_of_cell? _ _ h)]; exact h
theorem cell_drew {w : World} {a : Addr} {v : Value} (h : w.cell? a = some v) : w.drew.cell? a = some v := h
theorem CS.alloc {w : World} {b o : Nat} {cs : List (Bool × Int)} (h : CS w b o cs) (ob : Obj) : CS (w.alloc ob) b o cs := h.keep ((Below.refl _ w).alloc (Nat.le_refl _) _)
theorem CS.drew {w : World} {b o : Nat} {cs : List (Bool × Int)} (h : CS w b o cs) : CS w.drew b o cs := h
theorem cs_at2 {W : World} {b : Nat} {x y : Bool} {e f : Int} (hb : b = W.heap.size) : CS (W.alloc (.cells #[.bool x, .int .i64 e, .bool y, .int .i64 f] 72)) b 0 [(x, e), (y, f)] := by
  subst hb
  exact cs_new W [(x, e), (y, f)]
theorem blk_at {W : World} {g : Nat} {t : TypeId} {cs : Array Value} (hb : g = W.heap.size) : Blk (W.alloc (.cells cs t)) g t cs := by
  subst hb
  exact Blk.new W t cs

set_option maxRecDepth 100000 in
set_option maxHeartbeats 4000000 in
theorem bytes_walk (p A : Option Addr) (n c : Nat) (len : Int) (there : Bool) (Q : Int → World → Prop) (w : World) (hn : n ≤ 1000000)
    (h36 : ∀ W, Below w.heap.size w W → Calls Try.prog 36 #[.pointer p] W fun e w' => e = .returned (.bool there) ∧ W = w')
    (h13 : ∀ W, Below w.heap.size w W → Calls Try.prog 13 #[.pointer p] W fun e w' => e = .returned (.int .i64 len) ∧ W = w')
    (h34 : ∀ (b Pb Sb : Nat) (W : World), Below w.heap.size w W → CS W b 0 [(there, 1), (len.tmod 8 == 0, 8)] → w.heap.size ≤ Pb → w.heap.size ≤ Sb → Blk W Pb 3 #[.int .i64 0] → Blk W Sb 98 #[.pointer (some ⟨w.heap.size, 0, none⟩)] → Blk W w.heap.size 61 #[.slice A n c, .int .i64 ((8 * n : Nat) : Int)] →
      Calls Try.prog 34 #[.pointer p, .func (.func 65) #[] #[.pointer (some ⟨Pb, 0, none⟩), .pointer (some ⟨Sb, 0, none⟩)], .int .i64 ((8 * n : Nat) : Int), .slice (some ⟨b, 0, none⟩) 2 2] W fun e w' => ∃ x, e = .returned (.int .i64 x) ∧ w'.cell? ⟨w.heap.size, 1, none⟩ = some (.int .i64 ((8 * n : Nat) : Int)) ∧ Q x w') :
    Calls Try.prog 43 #[.pointer p, .slice A n c] w fun e w' => ∃ x, e = .returned (.int .i64 x) ∧ Q x w' := by
  have H36 := Lib.hid h36
  have H13 := Lib.hid h13
  have H34 := Lib.hid h34
  have hn2 : (8 : Int) * n ≤ 10000000 := by omega
  have hn0 : (0 : Int) ≤ n := by omega
  have hq : ((8 * n : Nat) : Int) = 8 * (n : Int) := by omega
  clear h36 h13 h34 hn
  rw [hq] at H34
  clear hq
  go_enter Try.func43, Try.ntmps43
  go_wp2_with fail
  have hc1 : (w.alloc (.cells #[.slice A n c, .int .i64 (8 * n)] 61)).cell? ⟨w.heap.size, 1, none⟩ = some (.int .i64 (8 * n)) := (Blk.new w 61 #[.slice A n c, .int .i64 (8 * n)]).cell 1
  go_region_held3 (fun W : World => W.cell? ⟨w.heap.size, 1, none⟩ = some (.int .i64 (8 * n))) (first | exact hc1 | exact hcc | (refine cell_drew ?_; repeat' first | exact hc1 | refine cell_keep ?_ _))
    (first
      | (go_at_call 40; (with_reducible refine (from_any _ _ _).mono ?_); rintro e w1 ⟨rfl, rfl⟩)
      | (go_at_call 36; (refine (H36.out _ ?_).mono ?_); (· refine below_drew ?_; repeat' first | exact Below.refl _ _ | refine Below.alloc ?_ (by first | (simp; done) | (simp; omega) | omega) _); rintro e w1 ⟨rfl, rfl⟩)
      | (go_at_call 42; (refine (waligned_any p len _ (fun W hW => H13.out W ?_)).mono ?_); (· refine Below.trans ?_ (hW.mono (by first | (simp; done) | (simp; omega) | omega)); refine below_drew ?_; repeat' first | exact Below.refl _ _ | refine Below.alloc ?_ (by first | (simp; done) | (simp; omega) | omega) _); rintro e w1 ⟨rfl, rfl⟩)
      | (go_at_call 34; (refine (H34.out _ _ _ _ ?_ ?_ ?_ ?_ ?_ ?_ ?_).mono ?_); (· refine below_drew ?_; repeat' first | exact Below.refl _ _ | refine Below.alloc ?_ (by first | (simp; done) | (simp; omega) | omega) _); (· refine CS.drew ?_; repeat' first | exact cs_at2 (by simp) | refine CS.alloc ?_ _); (· first | (simp; done) | (simp; omega) | omega); (· first | (simp; done) | (simp; omega) | omega); (· refine Blk.drew ?_; repeat' first | exact blk_at (by simp) | refine Blk.alloc ?_ _); (· refine Blk.drew ?_; repeat' first | exact blk_at (by simp) | refine Blk.alloc ?_ _); (· refine Blk.drew ?_; repeat' first | exact blk_at (by simp) | refine Blk.alloc ?_ _); rintro e w1 ⟨x, rfl, hcc, hQ⟩))
  all_goals
    go_wp2_with fail
    go_ret
    exact ⟨x, rfl, hQ⟩

def bytesE (bs : List Bool) (n : Nat) : Int := firstE [(true, 1), ((bs.length : Int).tmod 8 == 0, 8), (decide (((8 * n : Nat) : Int) ≤ 8388608 - (bs.length : Int)), 7)]

theorem bytes_err (B g : Nat) (val : Value) (bs : List Bool) (A : Option Addr) (n c : Nat) (w : World) (hn : n ≤ 1000000) (hw : WS w B g 63 [.bool true] val bs) (hm : bs.length ≤ 8388608) (hE : bytesE bs n ≠ 0) :
    Calls Try.prog 43 #[.pointer (some ⟨g, 0, none⟩), .slice A n c] w fun e w' => ∃ x, e = .returned (.int .i64 x) ∧ (x = bytesE bs n ∧ Below w.heap.size w w') := by
  refine bytes_walk (some ⟨g, 0, none⟩) A n c bs.length true (fun x w' => x = bytesE bs n ∧ Below w.heap.size w w') w hn (nil_below hw.blk) (len_below hw.blk) fun b Pb Sb W hb hc _ _ _ _ h61 => ?_
  refine (write_err (some ⟨g, 0, none⟩) _ _ bs.length (bytesE bs n) b 2 _ W hc rfl (by omega) (by omega) (fun W2 hb2 => len_below hw.blk W2 (hb.trans (hb2.mono hb.size))) (by omega) (by omega) rfl (by simpa using hE)).mono ?_
  rintro e w' ⟨rfl, h⟩
  exact ⟨_, rfl, (h61.below h h61.lt).cell 1, rfl, hb.trans (h.mono hb.size)⟩

theorem bytes_none (p A : Option Addr) (n c : Nat) (w : World) (hn : n ≤ 1000000) (h36 : ∀ W, Below w.heap.size w W → Calls Try.prog 36 #[.pointer p] W fun e w' => e = .returned (.bool false) ∧ W = w') :
    Calls Try.prog 43 #[.pointer p, .slice A n c] w fun e w' => ∃ x, e = .returned (.int .i64 x) ∧ (x = 1 ∧ Below w.heap.size w w') := by
  refine bytes_walk p A n c 0 false (fun x w' => x = 1 ∧ Below w.heap.size w w') w hn h36 (fun W hb => wlen_none _ W (h36 W hb)) fun b Pb Sb W hb hc _ _ _ _ h61 => ?_
  refine (write_err p _ _ 0 1 b 2 _ W hc rfl (by omega) (by omega) (fun W2 hb2 => wlen_none _ W2 (h36 W2 (hb.trans (hb2.mono hb.size)))) (by omega) (by omega) rfl rfl).mono ?_
  rintro e w' ⟨rfl, h⟩
  exact ⟨_, rfl, (h61.below h h61.lt).cell 1, rfl, hb.trans (h.mono hb.size)⟩

theorem bytes_some (B g : Nat) (val : Value) (bs : List Bool) (A : Option Addr) (n c : Nat) (l : List UInt8) (w : World) (hn : n ≤ 1000000) (hw : WS w B g 63 [.bool true] val bs) (hl : Holds w A n (l.map u8)) (hA : ∀ b, A = some b → 0 < n → b.block < w.heap.size ∧ b.block ≠ g ∧ val.ownBlock ≠ some b.block) (hE : bytesE bs n = 0) :
    Calls Try.prog 43 #[.pointer (some ⟨g, 0, none⟩), .slice A n c] w fun e w' => ∃ x, e = .returned (.int .i64 x) ∧ (x = 0 ∧ ∃ v', WS w' B g 63 [.bool true] v' (bs ++ ubits l) ∧ Two g val w w' ∧ Hat val v' w) := by
  have h1 : ((bs.length : Int).tmod 8 == 0) = true := by
    cases h : ((bs.length : Int).tmod 8 == 0)
    · simp [bytesE, firstE, h] at hE
    · rfl
  have h2 : decide (((8 * n : Nat) : Int) ≤ 8388608 - (bs.length : Int)) = true := by
    cases h : decide (((8 * n : Nat) : Int) ≤ 8388608 - (bs.length : Int))
    · rw [bytesE, h1, h] at hE; simp [firstE] at hE
    · rfl
  have hll : l.length = n := by have := hl.1; simpa using this
  have hgs := hw.blk.lt
  refine bytes_walk (some ⟨g, 0, none⟩) A n c bs.length true _ w hn (nil_below hw.blk) (len_below hw.blk) fun b Pb Sb W hb hc hPl hSl hP hS h61 => ?_
  have hwW := hw.below hb (Nat.le_refl _)
  refine (write_ok B g val bs (bbit l) (8 * n) 65 _ b 2 _ W hc rfl (by omega) (by omega) hwW (by rw [h1]; rfl) (by simp at h2; omega) (enters_of Try.func65 (by kernel_rfl) rfl) (fun W2 hb2 => ?_)).mono ?_
  · have h := from_iter 99 W2 Pb Sb w.heap.size 61 #[.slice A n c, .int .i64 ((8 * n : Nat) : Int)] 0 (8 * n) n c A l (hP.below hb2 hP.lt) (hS.below hb2 hS.lt) (h61.below hb2 h61.lt) rfl rfl ((hl.keep hb).keep hb2) (Nat.le_refl _) (by omega)
    simp only [Nat.zero_add, Nat.sub_zero] at h
    by_cases hn0 : 0 < n
    · refine h.weaken fun vs X Y hk => ⟨hk.low _ hS.lt (by omega) (own_not_blk hwW.own hS (by decide)), hk.low _ h61.lt (by omega) (own_not_blk hwW.own h61 (by decide)), fun q hq => ?_⟩
      obtain ⟨q1, q2, q3⟩ := hA q hq hn0
      exact hk.low _ (Nat.lt_of_lt_of_le q1 hb.size) q2 q3
    · obtain rfl : n = 0 := by omega
      intro l' J Jx hJ hJx hY hj0
      exact h l' J Jx (fun i X Y h1 h2 => hJ i X Y h1 (h2 ▸ Still.refl _ X)) (fun i X Y h1 h2 => hJx i X Y h1 (h2 ▸ Still.refl _ X)) (fun i hi => absurd hi (Nat.not_lt_zero i)) hj0
  · rintro e w' ⟨rfl, v', k1, k2, k3⟩
    refine ⟨_, rfl, ?_, rfl, v', by rw [ubits, hll]; exact k1, Two.of_below hb k2, ?_⟩
    · have : Blk w' w.heap.size 61 _ := (k2.block _ h61.lt (by omega) (own_not_blk hwW.own h61 (by decide))).trans h61
      exact this.cell 1
    · rcases k3 with k3 | k3
      · exact .inl k3
      · exact .inr fun k hk => Nat.le_trans hb.size (k3 k hk)
end Go.Proofs.Ythgbnpafhkhjpaa
