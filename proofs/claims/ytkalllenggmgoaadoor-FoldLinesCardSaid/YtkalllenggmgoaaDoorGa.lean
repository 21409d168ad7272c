/- The reference: the text of a line. -/
import Derived.Test.YtkalllenggmgoaaDoorFx
namespace Go.Proofs.YtkalllenggmgoaaDoor
open Go.RowKit
set_option linter.unusedVariables false
set_option linter.unusedSimpArgs false

def gp (raw : List UInt8) (f i : Nat) : List UInt8 := (raw.take i).drop (f + 1)
def odd32 (l : List UInt8) : Bool := l.any fun c => decide (c ≠ 32)
def gapV (raw : List UInt8) (f i k : Nat) : List UInt8 := if odd32 (gp raw f k) then [32] else gp raw f i
theorem gp_succ {raw : List UInt8} {f i : Nat} (hi : i < raw.length) (hf : f < i) : gp raw f (i + 1) = gp raw f i ++ [raw[i]] := by
  unfold gp
  rw [List.take_succ_eq_append_getElem hi, List.drop_append_of_le_length (by rw [List.length_take]; omega)]
theorem gp_self (raw : List UInt8) (f : Nat) : gp raw f (f + 1) = [] := by
  unfold gp
  exact List.drop_eq_nil_of_le (by rw [List.length_take]; omega)
theorem gapV_step {raw : List UInt8} {f i k : Nat} (hk : k < raw.length) (hf : f < k) : gapV raw f i (k + 1) = if raw[k] ≠ 32 then [32] else gapV raw f i k := by
  unfold gapV odd32
  rw [gp_succ hk hf, List.any_append]
  by_cases h : raw[k] = 32 <;> by_cases h2 : (gp raw f k).any (fun c => decide (c ≠ 32)) = true <;> simp [h, h2]
theorem gapV_start (raw : List UInt8) (f i : Nat) : gapV raw f i (f + 1) = gp raw f i := by
  unfold gapV
  rw [gp_self]
  rfl
theorem gapV_len (raw : List UInt8) (f i k : Nat) : (gapV raw f i k).length ≤ raw.length + 1 := by
  unfold gapV gp
  split
  · simp
  · rw [List.length_drop, List.length_take]; omega
def txt (raw : List UInt8) (i : Nat) : List UInt8 := (txF (raw.take i)).text
def TxI (raw : List UInt8) (i : Nat) (a : Int) : Prop :=
  (a = -1 ∧ txt raw i = []) ∨ ∃ f : Nat, a = f ∧ f < i ∧ txt raw i ≠ [] ∧ (txF (raw.take i)).gap = gp raw f i ∧ (txF (raw.take i)).spr = odd32 (gp raw f i)
theorem txt_len (raw : List UInt8) (i : Nat) : (txt raw i).length ≤ raw.length := by
  have := (txF_len (raw.take i)).2
  rw [List.length_take] at this
  unfold txt
  omega
theorem take_one {raw : List UInt8} {i : Nat} (hi : i < raw.length) : raw.take (i + 1) = raw.take i ++ [raw[i]] := List.take_succ_eq_append_getElem hi
theorem TxI.wait {raw : List UInt8} {i : Nat} {a : Int} (h : TxI raw i a) (hi : i < raw.length) (hv : vis raw[i] = false) : TxI raw (i + 1) a ∧ txt raw (i + 1) = txt raw i := by
  have e : txF (raw.take (i + 1)) = (txF (raw.take i)).wait raw[i] := by rw [take_one hi, txF_snoc, hv]; rfl
  have ht : txt raw (i + 1) = txt raw i := by unfold txt; rw [e]; rfl
  refine ⟨?_, ht⟩
  rcases h with ⟨h1, h2⟩ | ⟨f, h1, h2, h3, h4, h5⟩
  · exact .inl ⟨h1, by rw [ht, h2]⟩
  · refine .inr ⟨f, h1, by omega, by rw [ht]; exact h3, ?_, ?_⟩
    · rw [e, gp_succ hi h2, ← h4]; rfl
    · rw [e, gp_succ hi h2]
      unfold odd32
      rw [List.any_append]
      show ((txF (raw.take i)).spr || decide (raw[i] ≠ 32)) = _
      rw [h5]
      simp [odd32]
theorem TxI.put {raw : List UInt8} {i : Nat} {a : Int} (h : TxI raw i a) (hi : i < raw.length) (hv : vis raw[i] = true) : TxI raw (i + 1) i ∧
    ((a = -1 ∧ txt raw (i + 1) = txt raw i ++ [raw[i]]) ∨ ∃ f : Nat, a = f ∧ f < i ∧ txt raw (i + 1) = txt raw i ++ gapV raw f i i ++ [raw[i]]) := by
  have e : txF (raw.take (i + 1)) = (txF (raw.take i)).put raw[i] := by rw [take_one hi, txF_snoc, hv]; rfl
  have ht : txt raw (i + 1) = (if (txt raw i).isEmpty then [] else txt raw i ++ (txF (raw.take i)).eff) ++ [raw[i]] := by unfold txt; rw [e]; rfl
  refine ⟨.inr ⟨i, rfl, by omega, by rw [ht]; simp, by rw [e, gp_self]; rfl, by rw [e, gp_self]; rfl⟩, ?_⟩
  rcases h with ⟨h1, h2⟩ | ⟨f, h1, h2, h3, h4, h5⟩
  · exact .inl ⟨h1, by rw [ht, h2]; rfl⟩
  · refine .inr ⟨f, h1, h2, ?_⟩
    rw [ht, if_neg (by simpa using h3)]
    unfold gapV Ln.eff
    rw [h5, h4]
theorem slice_one {W : World} {A : Option Addr} {n c i : Nat} {raw : List UInt8} (h : RB W A n c raw) (hi : i < raw.length) : ∃ A' c', (∀ W' : World, (Instr.slice 26 (.slice A n c) (some (.int .i64 (i : Int))) (some (.int .i64 ((i : Int) + 1))) none).run Tryd.prog W' = .ok (.slice A' 1 c') W') ∧ RB W A' 1 c' [raw[i]] := by
  obtain ⟨A', c', h1, h2, -⟩ := slice_in W A n c i (i + 1) raw h (by omega) (by have := h.len; omega)
  rw [show i + 1 - i = 1 by omega] at h1 h2
  refine ⟨A', c', fun W' => h1 W', ?_⟩
  have : (raw.take (i + 1)).drop i = [raw[i]] := by
    rw [take_one hi, List.drop_append_of_le_length (by rw [List.length_take]; omega), List.drop_eq_nil_of_le (by rw [List.length_take]; omega)]
    rfl
  rwa [this] at h2
theorem slice_gap {W : World} {A : Option Addr} {n c f i : Nat} {raw : List UInt8} (h : RB W A n c raw) (hi : i ≤ raw.length) (hf : f < i) : ∃ A' m' c', (∀ W' : World, (Instr.slice 26 (.slice A n c) (some (.int .i64 ((f : Int) + 1))) (some (.int .i64 (i : Int))) none).run Tryd.prog W' = .ok (.slice A' m' c') W') ∧ RB W A' m' c' (gp raw f i) := by
  obtain ⟨A', c', h1, h2, -⟩ := slice_in W A n c (f + 1) i raw h (by omega) (by have := h.len; omega)
  exact ⟨A', _, c', fun W' => h1 W', h2⟩
set_option maxRecDepth 100000 in
set_option maxHeartbeats 1000000 in
theorem texts_any (A : Option Addr) (n c : Nat) (raw : List UInt8) (w : World) (h : RB w A n c raw) (hn : n ≤ 1000000) :
    Calls Tryd.prog 44 #[.slice A n c] w fun e w' => e = .returned (.string ⟨(txF raw).text.toArray⟩) ∧ w' = w := by
  have HP := Lib.hid h
  have HLEN := Lib.hid h.len
  have hn0 : (n : Int) ≤ 1000000 := by omega
  clear h hn
  go_enter Tryd.func44, Tryd.ntmps44
  go_upto_region 4 with fail
  go_loopw [5, 3, 4] (fun iv ov av wr => ∃ (i : Nat) (a : Int), (i : Int) ≤ n ∧ iv = .int .i64 i ∧ ov = .string ⟨(txt raw i).toArray⟩ ∧ av = .int .i64 a ∧ Hid (TxI raw i a) ∧ wr = w) (fun iv _ _ _ => n - (intOf iv).toNat)
  case atStart => exact ⟨0, -1, by omega, rfl, rfl, rfl, Lib.hid (.inl ⟨rfl, rfl⟩), rfl⟩
  case round =>
    obtain ⟨i, a, hi, rfl, rfl, rfl, HT, rfl⟩ := hrel
    by_cases hlt : (i : Int) < n
    · have hi1 : i < raw.length := by rw [HLEN.out]; omega
      obtain ⟨b, o, e, hc⟩ := HP.out.at (by omega)
      subst e
      have hci := hc i hi1
      have C55 := Lib.hid (rvis_any ((raw[i]).toNat : Int) wr (by omega) (by have := (raw[i]).toNat_lt; omega))
      obtain ⟨x, hx⟩ : ∃ x : Int, ((raw[i]).toNat : Int) = x := ⟨_, rfl⟩
      have hvx : vis raw[i] = visI x := by rw [← hx]; rfl
      cases hv : visI x with
      | false =>
        obtain ⟨t1, t2⟩ := HT.out.wait hi1 (by rw [hvx]; exact hv)
        rw [hx] at C55 hci
        rw [hv] at C55
        have HT1 := Lib.hid t1
        have HT2 := Lib.hid t2
        clear t1 t2 hx hvx hc hv hi1
        go_wp2_with (go_at_call 55; (with_reducible refine C55.out.mono ?_); rintro e9 w9 ⟨rfl, hw9⟩; replace hw9 := hw9.symm; subst hw9)
        go_roundw
        case rel => exact ⟨i + 1, a, by omega, by go_num, by rw [HT2.out], rfl, HT1, by first | trivial | rfl⟩
        case measure => simp [intOf]; omega
      | true =>
        obtain ⟨t1, t2⟩ := HT.out.put hi1 (by rw [hvx]; exact hv)
        have HT1 := Lib.hid t1
        obtain ⟨A1, c1, hr1, rb1⟩ := slice_one HP.out hi1
        have hcv1 := conv_RB rb1
        rw [hx] at C55 hci
        rw [hv] at C55
        have zt := size_str (txt raw i)
        have ztl := txt_len raw i
        have zx := size_str [raw[i]]
        simp only [List.length_cons, List.length_nil, Nat.zero_add] at zx
        rcases t2 with ⟨rfl, t2⟩ | ⟨f, rfl, hf, t2⟩
        · have e1 : (⟨(txt raw i).toArray⟩ : ByteArray) ++ ⟨([raw[i]] : List UInt8).toArray⟩ = ⟨(txt raw (i + 1)).toArray⟩ := by
            apply ByteArray.ext
            rw [t2]
            simp
          obtain ⟨s1, hs1⟩ : ∃ s1, (⟨(txt raw (i + 1)).toArray⟩ : ByteArray) = s1 := ⟨_, rfl⟩
          rw [hs1] at e1
          have HS1 := Lib.hid hs1
          clear t1 t2 hx hvx hc hv rb1 hs1
          generalize (⟨(txt raw i).toArray⟩ : ByteArray) = sa at *
          generalize (⟨([raw[i]] : List UInt8).toArray⟩ : ByteArray) = sx at *
          have cc0 : ¬ 9223372036854775807 < (txt raw i).length + 1 := by have := HLEN.out; omega
          go_wp2_with (go_at_call 55; (with_reducible refine C55.out.mono ?_); rintro e9 w9 ⟨rfl, hw9⟩; replace hw9 := hw9.symm; subst hw9)
          go_roundw
          case rel => exact ⟨i + 1, i, by omega, by go_num, by rw [HS1.out], rfl, HT1, by first | trivial | rfl⟩
          case measure => simp [intOf]; omega
        · obtain ⟨A2, m2, c2, hr2, rb2⟩ := slice_gap HP.out (Nat.le_of_lt hi1) hf
          have hcv2 := conv_RB rb2
          rw [← gapV_start raw f i] at hcv2
          have e1 : (⟨(txt raw i).toArray⟩ : ByteArray) ++ ⟨(gapV raw f i i).toArray⟩ = ⟨(txt raw i ++ gapV raw f i i).toArray⟩ := by
            apply ByteArray.ext
            simp
          have e2 : (⟨(txt raw i ++ gapV raw f i i).toArray⟩ : ByteArray) ++ ⟨([raw[i]] : List UInt8).toArray⟩ = ⟨(txt raw (i + 1)).toArray⟩ := by
            apply ByteArray.ext
            rw [t2]
            simp
          have HE1 := Lib.hid e1
          have HE2 := Lib.hid e2
          have HZT := Lib.hid zt
          have HZX := Lib.hid zx
          have HCV1 := Lib.hid hcv1
          have HR1 := Lib.hid hr1
          have HC := Lib.hid hc
          have hfi : (f : Int) < i := by omega
          have hf0 : (0 : Int) ≤ f := by omega
          clear t1 t2 hx hvx hc hv rb1 rb2 e1 e2 zt zx hcv1 hr1 hf
          go_upto_region 10 with (go_at_call 55; (with_reducible refine C55.out.mono ?_); rintro e9 w9 ⟨rfl, hw9⟩; replace hw9 := hw9.symm; subst hw9)
          clear hr2 hcv2 hci
          obtain ⟨wo, hwo⟩ : ∃ wo, wr = wo := ⟨_, rfl⟩
          go_loopw [6, 7] (fun gv kv w2 => ∃ k : Nat, (k : Int) ≤ i ∧ (f : Int) < k ∧ kv = .int .i64 k ∧ gv = .string ⟨(gapV raw f i k).toArray⟩ ∧ w2 = wo) (fun _ kv _ => i - (intOf kv).toNat)
          case atStart => exact ⟨f + 1, by omega, by omega, by go_num, rfl, hwo⟩
          case round =>
            obtain ⟨k, hk, hfk, rfl, rfl, rfl⟩ := hrel
            subst hwo
            by_cases hki : (k : Int) < i
            · have hk1 : k < raw.length := by omega
              have hck := HC.out k hk1
              have hst := gapV_step (i := i) hk1 (by omega : f < k)
              by_cases h32 : ((raw[k]).toNat : Int) = 32
              · have h33 : raw[k] = 32 := by rw [u8_iff]; show (raw[k]).toNat = 32; omega
                rw [h33] at hst
                simp only [ne_eq, not_true_eq_false, if_false] at hst
                rw [h32] at hck
                have HST := Lib.hid hst
                clear hst h32 h33 hk1
                go_wp2_with fail
                go_roundw
                case rel => exact ⟨k + 1, by omega, by omega, by go_num, by rw [HST.out], by first | trivial | rfl⟩
                case measure => simp [intOf]; omega
              · have h33 : raw[k] ≠ 32 := by
                  intro h9
                  rw [u8_iff] at h9
                  apply h32
                  rw [h9]
                  rfl
                rw [if_pos h33] at hst
                have HST := Lib.hid hst
                have hq : (((raw[k]).toNat : Int) != 32) = true := by simp only [bne_iff_ne, ne_eq]; exact h32
                generalize ((raw[k]).toNat : Int) = y at *
                clear hst h32 h33 hk1
                go_wp2_with fail
                go_roundw
                case rel => exact ⟨k + 1, by omega, by omega, by go_num, by rw [HST.out], by first | trivial | rfl⟩
                case measure => simp [intOf]; omega
            · obtain rfl : k = i := by omega
              have e1 := HE1.out
              have e2 := HE2.out
              have zt := HZT.out
              have zx := HZX.out
              have zg := size_str (gapV raw f k k)
              have zgl := gapV_len raw f k k
              have zb := size_str (txt raw k ++ gapV raw f k k)
              rw [List.length_append] at zb
              have hcv1 := HCV1.out
              have hr1 := HR1.out
              obtain ⟨s1, hs1⟩ : ∃ s1, (⟨(txt raw (k + 1)).toArray⟩ : ByteArray) = s1 := ⟨_, rfl⟩
              rw [hs1] at e2
              have HS1 := Lib.hid hs1
              clear hs1
              generalize (⟨(txt raw k ++ gapV raw f k k).toArray⟩ : ByteArray) = sb at *
              generalize (⟨(txt raw k).toArray⟩ : ByteArray) = sa at *
              generalize (⟨(gapV raw f k k).toArray⟩ : ByteArray) = sg at *
              generalize (⟨([raw[k]] : List UInt8).toArray⟩ : ByteArray) = sx at *
              have cc0 : ¬ 9223372036854775807 < (txt raw k).length + (gapV raw f k k).length := by have := HLEN.out; omega
              have cc1 : ¬ 9223372036854775807 < (txt raw k).length + (gapV raw f k k).length + 1 := by have := HLEN.out; omega
              go_wp2_with fail
              go_roundw
              case rel => exact ⟨k + 1, k, by omega, by go_num, by rw [HS1.out], rfl, HT1, by first | trivial | rfl⟩
              case measure => simp [intOf]; omega
    · have HE : Hid (txt raw i = (txF raw).text) := Lib.hid (by unfold txt; rw [List.take_of_length_le]; rw [HLEN.out]; omega)
      go_wp2_with fail
      go_ret
      exact ⟨by rw [← HE.out]; rfl, rfl⟩

end Go.Proofs.YtkalllenggmgoaaDoor
