/- The contract of the reference's Block. -/
import Derived.Test.YtbfejjjdolfcfaaXo3
import Derived.Test.YtbfejjjdolfcfaaRq
import Derived.Test.YtbfejjjdolfcfaaOrd
import Derived.RegionTactic
namespace Go.Proofs.Ytbfejjjdolfcfaa
open Go.RowKit
set_option linter.unusedVariables false
set_option linter.unusedSimpArgs false

def nw (x : Nat) : Value := .int .i64 (x : Int)
theorem nw_one (l : List Nat) : ∀ u ∈ l.map nw, u.oneCell' = true := by
  intro u hu
  obtain ⟨x, _, rfl⟩ := List.mem_map.1 hu
  rfl
theorem q8_idx : ∀ (j : Nat) (h : j < 8), ∃ a b c d : Nat, (q8[j]'(show j < q8.length from h)) = (a, b, c, d) ∧ (a < 16 ∧ b < 16 ∧ c < 16 ∧ d < 16) ∧ (a ≠ b ∧ a ≠ c ∧ a ≠ d ∧ b ≠ c ∧ b ≠ d ∧ c ≠ d) ∧ j % 4 = a ∧
    (j < 4 → 4 + a = b ∧ 8 + a = c ∧ 12 + a = d) ∧ (4 ≤ j → 4 + (j + 1) % 4 = b ∧ 8 + (j + 2) % 4 = c ∧ 12 + (j + 3) % 4 = d) := by
  intro j h
  match j, h with
  | 0, _ => exact ⟨_, _, _, _, rfl, by decide, by decide, by decide, by decide, by decide⟩
  | 1, _ => exact ⟨_, _, _, _, rfl, by decide, by decide, by decide, by decide, by decide⟩
  | 2, _ => exact ⟨_, _, _, _, rfl, by decide, by decide, by decide, by decide, by decide⟩
  | 3, _ => exact ⟨_, _, _, _, rfl, by decide, by decide, by decide, by decide, by decide⟩
  | 4, _ => exact ⟨_, _, _, _, rfl, by decide, by decide, by decide, by decide, by decide⟩
  | 5, _ => exact ⟨_, _, _, _, rfl, by decide, by decide, by decide, by decide, by decide⟩
  | 6, _ => exact ⟨_, _, _, _, rfl, by decide, by decide, by decide, by decide, by decide⟩
  | 7, _ => exact ⟨_, _, _, _, rfl, by decide, by decide, by decide, by decide, by decide⟩
  | (_ + 8), h => exact absurd h (by omega)
theorem own_nat {w : World} {B g c : Nat} {zs : List Nat} (h : w.ownsRow B 3 1 (.slice (some ⟨g, 0, none⟩) 16 c) 16 (zs.map nw)) (hs : St16 zs) {i : Nat} (hi : i < 16) : w.cell? ⟨g, i, none⟩ = some (.int .i64 (zs.getD i 0 : Nat)) ∧ zs.getD i 0 < 4294967296 := by
  have hl : i < zs.length := by rw [hs.1]; exact hi
  have hg : zs.getD i 0 = zs[i] := by simp [List.getD, List.getElem?_eq_getElem hl]
  rw [hg]
  refine ⟨?_, hs.2 _ (List.getElem_mem hl)⟩
  have := h.cells (g := g) rfl i (nw zs[i]) (by simp [List.getElem?_eq_getElem hl])
  rw [Addr.add_lit, Nat.zero_add] at this
  exact this
theorem num_nat {ks ns : List Int} {c : Int} (h : (numS ks ns c).all isW = true) : (numS ks ns c).map iw = (wordS ks ns c).map nw := by
  unfold wordS
  rw [List.map_map]
  refine List.map_congr_left fun x hx => ?_
  have := List.all_eq_true.1 h x hx
  simp [isW] at this
  show Value.int .i64 x = .int .i64 ((x.toNat : Nat) : Int)
  congr 1
  omega
theorem good_iff (ks ns : List Int) (c : Int) : goodB ks ns c ↔ wordsB ks 8 = true ∧ wordsB ns 3 = true ∧ isW c = true := by
  unfold goodB wordsB numS kon
  simp only [List.all_append, List.all_cons, List.all_nil, Bool.and_true, Bool.and_eq_true, beq_iff_eq]
  have h1 : isW 1634760805 = true := by decide
  have h2 : isW 857760878 = true := by decide
  have h3 : isW 2036477234 = true := by decide
  have h4 : isW 1797285236 = true := by decide
  simp only [h1, h2, h3, h4, true_and]
  constructor
  · rintro ⟨a, b, c, d, e⟩; exact ⟨⟨c, by omega⟩, ⟨e, by omega⟩, d⟩
  · rintro ⟨⟨a, b⟩, ⟨c, d⟩, e⟩; exact ⟨by omega, by omega, a, e, c⟩

set_option maxRecDepth 100000 in
theorem rblk_bad (A1 A2 : Option Addr) (n1 c1 n2 c2 : Nat) (ks ns : List Int) (ctr : Int) (w : World) (h1 : Holds w A1 n1 (ks.map iw)) (h2 : Holds w A2 n2 (ns.map iw)) (b1 : n1 ≤ 1000) (b2 : n2 ≤ 1000) (l1 : ks.length = n1) (l2 : ns.length = n2) (hb : ¬ goodB ks ns ctr) :
    Calls Try.prog 13 #[.slice A1 n1 c1, .slice A2 n2 c2, .int .i64 ctr] w fun e w' => e = .returned (.tuple #[.slice none 0 0, .int .i64 2]) ∧ w = w' := by
  have C1 := Lib.hid (words_any A1 n1 c1 8 ks w l1 (by omega) h1)
  have C2 := Lib.hid (words_any A2 n2 c2 3 ns w l2 (by omega) h2)
  rw [good_iff] at hb
  cases hw1 : wordsB ks 8 with
  | false =>
    rw [hw1] at C1
    clear hb hw1 h1 h2
    go_enter Try.func13, Try.ntmps13
    go_wp2_with fail
    (with_reducible refine C1.out.mono ?_); rintro e w1 ⟨rfl, rfl⟩
    go_wp2_with fail
    go_ret2
    exact ⟨rfl, rfl⟩
  | true =>
    cases hw2 : wordsB ns 3 with
    | false =>
      rw [hw1] at C1
      rw [hw2] at C2
      clear hb hw1 hw2 h1 h2
      go_enter Try.func13, Try.ntmps13
      go_wp2_with fail
      (with_reducible refine C1.out.mono ?_); rintro e w1 ⟨rfl, rfl⟩
      go_wp2_with fail
      (with_reducible refine C2.out.mono ?_); rintro e w1 ⟨rfl, rfl⟩
      go_wp2_with fail
      go_ret2
      exact ⟨rfl, rfl⟩
    | true =>
      have hc : ¬ (0 ≤ ctr ∧ ctr < 4294967296) := fun h => hb ⟨hw1, hw2, by simp [isW]; exact h⟩
      rw [hw1] at C1
      rw [hw2] at C2
      clear hb hw1 hw2 h1 h2
      by_cases h0 : ctr < 0
      · clear hc
        go_enter Try.func13, Try.ntmps13
        go_wp2_with fail
        (with_reducible refine C1.out.mono ?_); rintro e w1 ⟨rfl, rfl⟩
        go_wp2_with fail
        (with_reducible refine C2.out.mono ?_); rintro e w1 ⟨rfl, rfl⟩
        go_wp2_with fail
        go_ret2
        exact ⟨rfl, rfl⟩
      · have h0' : 0 ≤ ctr := by omega
        have h1' : 4294967296 ≤ ctr := by omega
        clear hc h0
        go_enter Try.func13, Try.ntmps13
        go_wp2_with fail
        (with_reducible refine C1.out.mono ?_); rintro e w1 ⟨rfl, rfl⟩
        go_wp2_with fail
        (with_reducible refine C2.out.mono ?_); rintro e w1 ⟨rfl, rfl⟩
        go_wp2_with fail
        go_ret2
        exact ⟨rfl, rfl⟩
end Go.Proofs.Ytbfejjjdolfcfaa
