/- The contract of cipher.Block. -/
import Derived.Test.YtbfejjjdolfcfaaBlk
namespace Go.Proofs.Ytbfejjjdolfcfaa
open Go.RowKit
set_option linter.unusedVariables false
set_option linter.unusedSimpArgs false

def kon : List Int := [1634760805, 857760878, 2036477234, 1797285236]
/-- The numbers of a state. -/
def numS (ks ns : List Int) (c : Int) : List Int := kon ++ (ks ++ ([c] ++ ns))
def wordS (ks ns : List Int) (c : Int) : List Nat := (numS ks ns c).map Int.toNat
/-- The bytes of a block. -/
def blkB (ks ns : List Int) (c : Int) : List UInt8 := outW (wordS ks ns c) (dbls 10 (wordS ks ns c)) 16
def goodB (ks ns : List Int) (c : Int) : Prop := ks.length = 8 ∧ ns.length = 3 ∧ (numS ks ns c).all isW = true
theorem numS_length (ks ns : List Int) (c : Int) : (numS ks ns c).length = 5 + ks.length + ns.length := by simp [numS, kon]; omega
theorem wordS_ok {ks ns : List Int} {c : Int} (h : goodB ks ns c) : St16 (wordS ks ns c) := by
  refine ⟨by rw [wordS, List.length_map, numS_length, h.1, h.2.1], fun x hx => ?_⟩
  obtain ⟨v, hv, rfl⟩ := List.mem_map.1 hx
  have := List.all_eq_true.1 h.2.2 v hv
  simp [isW] at this
  omega
theorem iw_one (l : List Int) : ∀ u ∈ l.map iw, u.oneCell' = true := by
  intro u hu
  obtain ⟨x, _, rfl⟩ := List.mem_map.1 hu
  rfl
theorem holds_blk {w : World} {g : Nat} {t : TypeId} {cs : Array Value} (h : Blk w g t cs) {n : Nat} {vs : List Value} (hn : vs.length = n) (hv : cs.toList = vs) : Holds w (some ⟨g, 0, none⟩) n vs :=
  ⟨by omega, fun h => (by cases h), fun b hb j u hu => by
    cases hb
    rw [Addr.add_lit, Nat.zero_add, h.cell]
    subst hv
    simpa using hu⟩

theorem concat4 (A1 A2 : Option Addr) (n1 c1 n2 c2 : Nat) (ks ns : List Int) (ctr : Int) (w : World) (h1 : Holds w A1 n1 (ks.map iw)) (h2 : Holds w A2 n2 (ns.map iw)) (b1 : n1 ≤ 1000) (b2 : n2 ≤ 1000) :
    Calls Try.prog 24 #[.slice (some ⟨w.heap.size + 1 + 1, 0, none⟩) 4 4] (((w.alloc (.cells #[.int .i64 1634760805, .int .i64 857760878, .int .i64 2036477234, .int .i64 1797285236] 3)).alloc (.cells #[.int .i64 ctr] 3)).alloc (.cells #[.slice (some ⟨w.heap.size, 0, none⟩) 4 4, .slice A1 n1 c1, .slice (some ⟨w.heap.size + 1, 0, none⟩) 1 1, .slice A2 n2 c2] 29)) fun e w' =>
      ∃ v, e = .returned v ∧ w'.ownsRow w.heap.size 3 1 v (5 + n1 + n2) ((numS ks ns ctr).map iw) ∧ Below w.heap.size w w' := by
  have e0 : Blk (((w.alloc (.cells #[.int .i64 1634760805, .int .i64 857760878, .int .i64 2036477234, .int .i64 1797285236] 3)).alloc (.cells #[.int .i64 ctr] 3)).alloc (.cells #[.slice (some ⟨w.heap.size, 0, none⟩) 4 4, .slice A1 n1 c1, .slice (some ⟨w.heap.size + 1, 0, none⟩) 1 1, .slice A2 n2 c2] 29)) w.heap.size 3 #[.int .i64 1634760805, .int .i64 857760878, .int .i64 2036477234, .int .i64 1797285236] := ((Blk.new w 3 _).alloc _).alloc _
  have e1 : Blk (((w.alloc (.cells #[.int .i64 1634760805, .int .i64 857760878, .int .i64 2036477234, .int .i64 1797285236] 3)).alloc (.cells #[.int .i64 ctr] 3)).alloc (.cells #[.slice (some ⟨w.heap.size, 0, none⟩) 4 4, .slice A1 n1 c1, .slice (some ⟨w.heap.size + 1, 0, none⟩) 1 1, .slice A2 n2 c2] 29)) (w.heap.size + 1) 3 #[.int .i64 ctr] := (blk_new1 w _ 3 _).alloc _
  have e2 : Blk (((w.alloc (.cells #[.int .i64 1634760805, .int .i64 857760878, .int .i64 2036477234, .int .i64 1797285236] 3)).alloc (.cells #[.int .i64 ctr] 3)).alloc (.cells #[.slice (some ⟨w.heap.size, 0, none⟩) 4 4, .slice A1 n1 c1, .slice (some ⟨w.heap.size + 1, 0, none⟩) 1 1, .slice A2 n2 c2] 29)) (w.heap.size + 1 + 1) 29 #[.slice (some ⟨w.heap.size, 0, none⟩) 4 4, .slice A1 n1 c1, .slice (some ⟨w.heap.size + 1, 0, none⟩) 1 1, .slice A2 n2 c2] := by
    have := blk_new1 (w.alloc (.cells #[.int .i64 1634760805, .int .i64 857760878, .int .i64 2036477234, .int .i64 1797285236] 3)) (.cells #[.int .i64 ctr] 3) 29 #[.slice (some ⟨w.heap.size, 0, none⟩) 4 4, .slice A1 n1 c1, .slice (some ⟨w.heap.size + 1, 0, none⟩) 1 1, .slice A2 n2 c2]
    simpa using this
  have hb : Below w.heap.size w (((w.alloc (.cells #[.int .i64 1634760805, .int .i64 857760878, .int .i64 2036477234, .int .i64 1797285236] 3)).alloc (.cells #[.int .i64 ctr] 3)).alloc (.cells #[.slice (some ⟨w.heap.size, 0, none⟩) 4 4, .slice A1 n1 c1, .slice (some ⟨w.heap.size + 1, 0, none⟩) 1 1, .slice A2 n2 c2] 29)) := (((Below.refl _ w).alloc (Nat.le_refl _) _).alloc (by simp) _).alloc (by simp; omega) _
  generalize ((w.alloc (.cells #[.int .i64 1634760805, .int .i64 857760878, .int .i64 2036477234, .int .i64 1797285236] 3)).alloc (.cells #[.int .i64 ctr] 3)).alloc (.cells #[.slice (some ⟨w.heap.size, 0, none⟩) 4 4, .slice A1 n1 c1, .slice (some ⟨w.heap.size + 1, 0, none⟩) 1 1, .slice A2 n2 c2] 29) = W at *
  have hc := concat_any (w.heap.size + 1 + 1) 29 [⟨some ⟨w.heap.size, 0, none⟩, 4, 4, kon.map iw⟩, ⟨A1, n1, c1, ks.map iw⟩, ⟨some ⟨w.heap.size + 1, 0, none⟩, 1, 1, [iw ctr]⟩, ⟨A2, n2, c2, ns.map iw⟩] W e2
    (by
      intro r hr
      simp at hr
      rcases hr with rfl | rfl | rfl | rfl
      · exact ⟨holds_blk e0 rfl rfl, iw_one kon⟩
      · exact ⟨h1.keep hb, iw_one ks⟩
      · exact ⟨holds_blk e1 rfl rfl, iw_one [ctr]⟩
      · exact ⟨h2.keep hb, iw_one ns⟩)
    (by simp) (by simp [totN]; omega)
  refine hc.mono fun e w' ⟨v, he, ho, hb'⟩ => ⟨v, he, ?_, hb.trans (hb'.mono hb.size)⟩
  have e3 : totN [⟨some ⟨w.heap.size, 0, none⟩, 4, 4, kon.map iw⟩, ⟨A1, n1, c1, ks.map iw⟩, ⟨some ⟨w.heap.size + 1, 0, none⟩, 1, 1, [iw ctr]⟩, ⟨A2, n2, c2, ns.map iw⟩] = 5 + n1 + n2 := by simp [totN]; omega
  have e4 : catV [⟨some ⟨w.heap.size, 0, none⟩, 4, 4, kon.map iw⟩, ⟨A1, n1, c1, ks.map iw⟩, ⟨some ⟨w.heap.size + 1, 0, none⟩, 1, 1, [iw ctr]⟩, ⟨A2, n2, c2, ns.map iw⟩] = (numS ks ns ctr).map iw := by simp [catV, numS]
  rw [e3, e4] at ho
  exact own_base ho hb.size

set_option maxRecDepth 100000 in
set_option maxHeartbeats 1000000 in
theorem blk_len1 (A1 A2 : Option Addr) (n1 c1 n2 c2 : Nat) (ks ns : List Int) (ctr : Int) (w : World) (h1 : Holds w A1 n1 (ks.map iw)) (h2 : Holds w A2 n2 (ns.map iw)) (b1 : n1 ≤ 1000) (b2 : n2 ≤ 1000) (l1 : ks.length = n1) (l2 : ns.length = n2) (h8 : n1 ≠ 8) :
    Calls Try.prog 12 #[.slice A1 n1 c1, .slice A2 n2 c2, .int .i64 ctr] w fun e w' => e = .returned (.tuple #[.slice none 0 0, .int .i64 2]) ∧ Below w.heap.size w w' := by
  have C24 := Lib.hid (concat4 A1 A2 n1 c1 n2 c2 ks ns ctr w h1 h2 b1 b2)
  have d1 : ((n1 : Int) != 8) = true := by rw [bne_iff_ne]; omega
  clear h1 h2 l1 l2 h8
  go_enter Try.func12, Try.ntmps12
  go_wp2_with fail
  (with_reducible refine C24.out.mono ?_); rintro e w1 ⟨v, rfl, ho, hb1⟩
  obtain ⟨A3, cap3, rfl, -⟩ := own_form ho
  have HO1 := Lib.hid ho
  have HB1 := Lib.hid hb1
  clear ho hb1
  go_wp2_with fail
  go_ret2
  exact ⟨rfl, HB1.out⟩

set_option maxRecDepth 100000 in
set_option maxHeartbeats 1000000 in
theorem blk_len2 (A1 A2 : Option Addr) (n1 c1 n2 c2 : Nat) (ks ns : List Int) (ctr : Int) (w : World) (h1 : Holds w A1 n1 (ks.map iw)) (h2 : Holds w A2 n2 (ns.map iw)) (b1 : n1 ≤ 1000) (b2 : n2 ≤ 1000) (l1 : ks.length = n1) (l2 : ns.length = n2) (h8 : n1 = 8) (h3 : n2 ≠ 3) :
    Calls Try.prog 12 #[.slice A1 n1 c1, .slice A2 n2 c2, .int .i64 ctr] w fun e w' => e = .returned (.tuple #[.slice none 0 0, .int .i64 2]) ∧ Below w.heap.size w w' := by
  have C24 := Lib.hid (concat4 A1 A2 n1 c1 n2 c2 ks ns ctr w h1 h2 b1 b2)
  have d1 : ((n2 : Int) != 3) = true := by rw [bne_iff_ne]; omega
  clear h1 h2 l1 l2 h3
  subst h8
  go_enter Try.func12, Try.ntmps12
  go_wp2_with fail
  (with_reducible refine C24.out.mono ?_); rintro e w1 ⟨v, rfl, ho, hb1⟩
  obtain ⟨A3, cap3, rfl, -⟩ := own_form ho
  have HO1 := Lib.hid ho
  have HB1 := Lib.hid hb1
  clear ho hb1
  go_wp2_with fail
  go_ret2
  exact ⟨rfl, HB1.out⟩

set_option maxRecDepth 100000 in
set_option maxHeartbeats 1000000 in
theorem blk_word (A1 A2 : Option Addr) (n1 c1 n2 c2 : Nat) (ks ns : List Int) (ctr : Int) (w : World) (h1 : Holds w A1 n1 (ks.map iw)) (h2 : Holds w A2 n2 (ns.map iw)) (b1 : n1 ≤ 1000) (b2 : n2 ≤ 1000) (l1 : ks.length = n1) (l2 : ns.length = n2) (h8 : n1 = 8) (h3 : n2 = 3) (hw : (numS ks ns ctr).all isW = false) :
    Calls Try.prog 12 #[.slice A1 n1 c1, .slice A2 n2 c2, .int .i64 ctr] w fun e w' => e = .returned (.tuple #[.slice none 0 0, .int .i64 2]) ∧ Below w.heap.size w w' := by
  subst h8 h3
  have C24 := Lib.hid (concat4 A1 A2 8 c1 3 c2 ks ns ctr w h1 h2 b1 b2)
  have c25 := fun A c W hh => contains_any A 16 c (numS ks ns ctr) W (by rw [numS_length, l1, l2]) (by omega) hh
  rw [hw] at c25
  have C25 := Lib.hid c25
  clear h1 h2 l1 l2 hw c25
  go_enter Try.func12, Try.ntmps12
  go_wp2_with fail
  (with_reducible refine C24.out.mono ?_); rintro e w1 ⟨v, rfl, ho, hb1⟩
  obtain ⟨A3, cap3, rfl, -⟩ := own_form ho
  have HO1 := Lib.hid ho
  have HB1 := Lib.hid hb1
  clear ho hb1
  go_wp2_with (go_at_call 25; (with_reducible refine (C25.out _ _ _ (holds_own HO1.out)).mono ?_); rintro e w2 ⟨rfl, rfl⟩)
  go_ret2
  exact ⟨rfl, HB1.out⟩

set_option maxRecDepth 100000 in
set_option maxHeartbeats 1000000 in
theorem blk_good (A1 A2 : Option Addr) (n1 c1 n2 c2 : Nat) (ks ns : List Int) (ctr : Int) (w : World) (h1 : Holds w A1 n1 (ks.map iw)) (h2 : Holds w A2 n2 (ns.map iw)) (b1 : n1 ≤ 1000) (b2 : n2 ≤ 1000) (l1 : ks.length = n1) (l2 : ns.length = n2) (h8 : n1 = 8) (h3 : n2 = 3) (hw : (numS ks ns ctr).all isW = true) :
    Calls Try.prog 12 #[.slice A1 n1 c1, .slice A2 n2 c2, .int .i64 ctr] w fun e w' => Rowed w 5 64 ((blkB ks ns ctr).map u8) (fun v => .tuple #[v, .int .i64 0]) e w' := by
  subst h8 h3
  have C24 := Lib.hid (concat4 A1 A2 8 c1 3 c2 ks ns ctr w h1 h2 b1 b2)
  have c25 := fun A c W hh => contains_any A 16 c (numS ks ns ctr) W (by rw [numS_length, l1, l2]) (by omega) hh
  rw [hw] at c25
  have C25 := Lib.hid c25
  have HW := Lib.hid (show St16 (wordS ks ns ctr) from wordS_ok ⟨l1, l2, hw⟩)
  have HLEN := Lib.hid (show (numS ks ns ctr).length = 16 by rw [numS_length, l1, l2])
  have HALL := Lib.hid (List.all_eq_true.1 hw)
  have HSUM := Lib.hid (show (numS ks ns ctr).map Int.toNat = wordS ks ns ctr from rfl)
  have C28 := Lib.hid (fun W => block_any (wordS ks ns ctr) W HW.out)
  rw [show outW (wordS ks ns ctr) (dbls 10 (wordS ks ns ctr)) 16 = blkB ks ns ctr from rfl] at C28
  generalize blkB ks ns ctr = out at *
  generalize wordS ks ns ctr = S at *
  generalize numS ks ns ctr = F at *
  clear h1 h2 l1 l2 hw c25
  go_enter Try.func12, Try.ntmps12
  go_wp2_with fail
  (with_reducible refine C24.out.mono ?_); rintro e w1 ⟨v, rfl, ho, hb1⟩
  obtain ⟨A3, cap3, rfl, -⟩ := own_form ho
  have HO1 := Lib.hid ho
  have HB1 := Lib.hid hb1
  clear ho hb1
  go_wp2_with (go_at_call 25; (with_reducible refine (C25.out _ _ _ (holds_own HO1.out)).mono ?_); rintro e w2 ⟨rfl, rfl⟩)
  have HZ := Lib.hid (Blk.new w1 66 #[.int .u32 0, .int .u32 0, .int .u32 0, .int .u32 0, .int .u32 0, .int .u32 0, .int .u32 0, .int .u32 0, .int .u32 0, .int .u32 0, .int .u32 0, .int .u32 0, .int .u32 0, .int .u32 0, .int .u32 0, .int .u32 0])
  have HOZ := Lib.hid (own_alloc (o := .cells #[.int .u32 0, .int .u32 0, .int .u32 0, .int .u32 0, .int .u32 0, .int .u32 0, .int .u32 0, .int .u32 0, .int .u32 0, .int .u32 0, .int .u32 0, .int .u32 0, .int .u32 0, .int .u32 0, .int .u32 0, .int .u32 0] 66) HO1.out)
  have HBZ := Lib.hid (HB1.out.alloc HB1.out.size (.cells #[.int .u32 0, .int .u32 0, .int .u32 0, .int .u32 0, .int .u32 0, .int .u32 0, .int .u32 0, .int .u32 0, .int .u32 0, .int .u32 0, .int .u32 0, .int .u32 0, .int .u32 0, .int .u32 0, .int .u32 0, .int .u32 0] 66))
  have HHZ := Lib.hid (show w.heap.size ≤ w1.heap.size from HB1.out.size)
  obtain ⟨g, hg⟩ : ∃ g, w1.heap.size = g := ⟨_, rfl⟩
  rw [hg] at HZ HHZ ⊢
  clear hg
  generalize w1.alloc (.cells #[.int .u32 0, .int .u32 0, .int .u32 0, .int .u32 0, .int .u32 0, .int .u32 0, .int .u32 0, .int .u32 0, .int .u32 0, .int .u32 0, .int .u32 0, .int .u32 0, .int .u32 0, .int .u32 0, .int .u32 0, .int .u32 0] 66) = W at *
  go_loopw [10, 11, 33] (fun _ _ i wr => ∃ k : Nat, k ≤ 16 ∧ i = .int .i64 k ∧ Blk wr g 66 (cw (S.take k ++ List.replicate (16 - k) 0)) ∧ wr.ownsRow w.heap.size 3 1 (.slice A3 16 cap3) 16 (F.map iw) ∧ Below w.heap.size w wr) (fun _ _ i _ => 16 - (intOf i).toNat)
  case atStart => exact ⟨0, by omega, rfl, HZ.out, HOZ.out, HBZ.out⟩
  case round =>
    obtain ⟨k, hk, rfl, hb, ho, hbw⟩ := hrel
    have HB3 := Lib.hid hb
    have HO3 := Lib.hid ho
    have HBW3 := Lib.hid hbw
    clear hb ho hbw
    by_cases hlt : (k : Int) < 16
    · have hkF : k < F.length := by rw [HLEN.out]; omega
      have hkS : k < S.length := by rw [HW.out.1]; omega
      obtain ⟨ad, rfl⟩ : ∃ ad, A3 = some ad := by
        obtain ⟨gg, cc, hv, -⟩ := own_holds HO3.out (by omega)
        cases hv
        exact ⟨_, rfl⟩
      have hcell := (holds_own HO3.out).2.2 ad rfl k (iw F[k]) (by simp [List.getElem?_eq_getElem hkF])
      have hlen : (S.take k ++ List.replicate (16 - k) 0).length = 16 := by simp [HW.out.1]; omega
      have hold := HB3.out.cell k
      have hfr := HB3.out.frozen k
      have hsome : ∃ u, (cw (S.take k ++ List.replicate (16 - k) 0))[k]? = some u := ⟨_, Array.getElem?_eq_getElem (by simp [cw] at hlen ⊢; omega)⟩
      obtain ⟨u, hu⟩ := hsome
      rw [hu] at hold
      have hx := HALL.out F[k] (List.getElem_mem hkF)
      have hSF : S[k] = F[k].toNat := by have := HSUM.out; subst this; simp
      have hset : (S.take k ++ List.replicate (16 - k) 0).set k S[k] = S.take (k + 1) ++ List.replicate (16 - (k + 1)) 0 := by
        rw [List.set_append_right _ _ (by simp; omega)]
        have : (S.take k).length = k := by simp; omega
        rw [this, Nat.sub_self, show 16 - k = (16 - (k + 1)) + 1 by omega, List.replicate_succ, List.set_cons_zero, List.take_succ_eq_append_getElem hkS, List.append_assoc]
        rfl
      rw [hSF] at hset
      have HSET := Lib.hid hset
      simp [isW] at hx
      obtain ⟨hx0, hx1⟩ := hx
      unfold iw at hcell
      generalize F[k] = x at *
      clear hset hSF hu hlen
      go_wp2_with fail
      go_roundw
      case rel =>
        refine ⟨k + 1, by omega, by go_num, ?_, own_far HO3.out HB3.out (by decide) (Below_set _ _ _ _), HBW3.out.setCell HHZ.out _⟩
        rw [← HSET.out, cw_set]
        have := HB3.out.set_ k (.int .u32 x)
        rw [show x = ((x.toNat : Nat) : Int) by omega] at this ⊢
        exact this
      case measure => simp [intOf]; omega
    · obtain rfl : k = 16 := by omega
      have hb3 := HB3.out
      rw [List.take_of_length_le (by rw [HW.out.1]; omega), show 16 - 16 = 0 from rfl, List.replicate_zero, List.append_nil] at hb3
      have HB4 := Lib.hid hb3
      have hu66 := Try.underlying66
      have HI := Lib.hid (show (Try.prog.info? 66).map (·.size) = some (cw S).size by rw [cw_size HW.out]; kernel_rfl)
      clear hb3 hlt
      go_wp2_with (first
        | (refine wpList_load_row (o := ⟨some 43, _, _, _, _, _⟩) rfl 66 (.tmp 9) rfl g rfl 66 (cw S) (0, 0) _ HB4.out hu66 rfl HI.out ?_)
        | (go_at_call 28; (with_reducible refine (C28.out _).mono ?_); rintro e w6 ⟨v6, rfl, ho6, hb6⟩; have HO6 := Lib.hid ho6; have HB6 := Lib.hid hb6; clear ho6 hb6))
      go_ret2
      exact ⟨v6, rfl, own_base HO6.out HBW3.out.size, HBW3.out.trans (HB6.out.mono HBW3.out.size)⟩

/-- What Block answers: the bytes and the error. -/
theorem block_ends (ks ns : List Int) (ctr : Int) : ∃ (l : List UInt8) (E : Int), (goodB ks ns ctr → l = blkB ks ns ctr ∧ E = 0) ∧ (¬ goodB ks ns ctr → l = [] ∧ E = 2) := by
  by_cases h : goodB ks ns ctr
  · exact ⟨_, 0, fun _ => ⟨rfl, rfl⟩, fun h' => absurd h h'⟩
  · exact ⟨[], 2, fun h' => absurd h' h, fun _ => ⟨rfl, rfl⟩⟩
theorem blkB_length (ks ns : List Int) (c : Int) : (blkB ks ns c).length = 64 := by unfold blkB; rw [outW_length]
theorem blk_any (A1 A2 : Option Addr) (n1 c1 n2 c2 : Nat) (ks ns : List Int) (ctr : Int) (l : List UInt8) (E : Int) (hg : goodB ks ns ctr → l = blkB ks ns ctr ∧ E = 0) (hb : ¬ goodB ks ns ctr → l = [] ∧ E = 2) (w : World) (h1 : Holds w A1 n1 (ks.map iw)) (h2 : Holds w A2 n2 (ns.map iw)) (b1 : n1 ≤ 1000) (b2 : n2 ≤ 1000) :
    Calls Try.prog 12 #[.slice A1 n1 c1, .slice A2 n2 c2, .int .i64 ctr] w fun e w' => Rowed w 5 l.length (l.map u8) (fun v => .tuple #[v, .int .i64 E]) e w' := by
  have l1 : ks.length = n1 := by have := h1.1; simp at this; omega
  have l2 : ns.length = n2 := by have := h2.1; simp at this; omega
  have hno : ∀ {e : Ending} {w' : World}, l = [] ∧ E = 2 → (e = .returned (.tuple #[.slice none 0 0, .int .i64 2]) ∧ Below w.heap.size w w') → Rowed w 5 l.length (l.map u8) (fun v => .tuple #[v, .int .i64 E]) e w' := by
    rintro e w' ⟨rfl, rfl⟩ ⟨rfl, hb⟩
    exact ⟨_, rfl, World.ownsRow_nil _ _ 5 1, hb⟩
  by_cases h8 : n1 = 8
  · by_cases h3 : n2 = 3
    · cases hw : (numS ks ns ctr).all isW with
      | true =>
        obtain ⟨rfl, rfl⟩ := hg ⟨by omega, by omega, hw⟩
        rw [blkB_length]
        exact blk_good A1 A2 n1 c1 n2 c2 ks ns ctr w h1 h2 b1 b2 l1 l2 h8 h3 hw
      | false =>
        exact (blk_word A1 A2 n1 c1 n2 c2 ks ns ctr w h1 h2 b1 b2 l1 l2 h8 h3 hw).mono fun e w' h => hno (hb (fun h' => by rw [h'.2.2] at hw; cases hw)) h
    · exact (blk_len2 A1 A2 n1 c1 n2 c2 ks ns ctr w h1 h2 b1 b2 l1 l2 h8 h3).mono fun e w' h => hno (hb (fun h' => h3 (by rw [← l2]; exact h'.2.1))) h
  · exact (blk_len1 A1 A2 n1 c1 n2 c2 ks ns ctr w h1 h2 b1 b2 l1 l2 h8).mono fun e w' h => hno (hb (fun h' => h8 (by rw [← l1]; exact h'.1))) h
end Go.Proofs.Ytbfejjjdolfcfaa
