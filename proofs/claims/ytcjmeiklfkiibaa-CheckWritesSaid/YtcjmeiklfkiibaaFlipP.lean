/- Plain laws: one bit changed changes each checksum; a checksum behind its bytes gives zero; checksums of two pieces. No walk. -/
import Derived.Test.YtcjmeiklfkiibaaOneP
import Derived.Test.YtcjmeiklfkiibaaCrcP
import Derived.Test.YtcjmeiklfkiibaaChk
import Derived.Test.YtcjmeiklfkiibaaByt
import Derived.Test.YtcjmeiklfkiibaaJoin
namespace Go.Proofs.Ytcjmeiklfkiibaa

/-! the CRC is injective -/
theorem stepB_inj {a b : Nat} (ha : a < 65536) (hb : b < 65536) (h : stepB a = stepB b) : a = b := by
  unfold stepB at h
  have e : ∀ x : Nat, (x ^^^ 4129) % 2 = (x + 1) % 2 := fun x => by
    have h := Nat.xor_mod_two_pow (a := x) (b := 4129) (n := 1)
    simp only [Nat.pow_one] at h
    rw [h]
    have h1 : x % 2 = 0 ∨ x % 2 = 1 := by omega
    rcases h1 with h1 | h1 <;> rw [h1] <;> simp <;> omega
  split at h <;> split at h
  · have h2 : (a * 2 % 65536) = (b * 2 % 65536) := by
      have := congrArg (· ^^^ 4129) h
      simpa [Nat.xor_assoc] using this
    omega
  · have := congrArg (· % 2) h
    simp only [e] at this
    omega
  · have := congrArg (· % 2) h
    simp only [e] at this
    omega
  · omega
theorem iterS_inj : ∀ (k a b : Nat), a < 65536 → b < 65536 → iterS k a = iterS k b → a = b
  | 0, _, _, _, _, h => h
  | k + 1, _, _, ha, hb, h => stepB_inj ha hb (iterS_inj k _ _ (stepB_lt ha) (stepB_lt hb) h)
theorem divS_inj (l : List UInt8) : ∀ a b : Nat, a < 65536 → b < 65536 → divS a l = divS b l → a = b := by
  induction l with
  | nil => intro a b _ _ h; rw [divS_nil, divS_nil] at h; exact h
  | cons x l ih =>
    intro a b ha hb h
    rw [divS_cons, divS_cons] at h
    have h1 := ih _ _ (iterS_lt 8 _ (xorB_lt ha x.toNat_lt)) (iterS_lt 8 _ (xorB_lt hb x.toNat_lt)) h
    have h2 := iterS_inj 8 _ _ (xorB_lt ha x.toNat_lt) (xorB_lt hb x.toNat_lt) h1
    have := congrArg (· ^^^ (x.toNat * 256)) h2
    simpa [Nat.xor_assoc] using this
theorem divS_append (l m : List UInt8) : ∀ a, divS a (l ++ m) = divS (divS a l) m := by
  induction l with
  | nil => intro a; rw [divS_nil, List.nil_append]
  | cons x l ih => intro a; rw [List.cons_append, divS_cons, divS_cons, ih]
theorem divS_flip (l m : List UInt8) (x y : UInt8) (hne : x ≠ y) : divS 65535 (l ++ x :: m) ≠ divS 65535 (l ++ y :: m) := by
  intro h
  rw [divS_append, divS_append, divS_cons, divS_cons] at h
  have hr := divS_lt l 65535 (by omega)
  have h1 := divS_inj m _ _ (iterS_lt 8 _ (xorB_lt hr x.toNat_lt)) (iterS_lt 8 _ (xorB_lt hr y.toNat_lt)) h
  have h2 := iterS_inj 8 _ _ (xorB_lt hr x.toNat_lt) (xorB_lt hr y.toNat_lt) h1
  have h3 := congrArg (divS 65535 l ^^^ ·) h2
  simp only [← Nat.xor_assoc, Nat.xor_self, Nat.zero_xor] at h3
  exact hne (UInt8.toNat_inj.1 (by omega))

/-! the other two are sums -/
theorem totS_append (l m : List UInt8) : ∀ c, totS c (l ++ m) = totS c l + totS (c + l.length) m := by
  induction l with
  | nil => intro c; simp [totS]
  | cons x l ih =>
    intro c
    rw [List.cons_append, totS, totS, ih, List.length_cons]
    rw [show c + 1 + (l.length : Int) = c + ((l.length + 1 : Nat) : Int) by omega]
    split <;> omega
theorem wrdS_flip (l m : List UInt8) (x y : UInt8) (d : Int) (hd : d = 1 ∨ d = 2 ∨ d = 4 ∨ d = 8 ∨ d = 16 ∨ d = 32 ∨ d = 64 ∨ d = 128) (h : (x.toNat : Int) = y.toNat + d ∨ (y.toNat : Int) = x.toNat + d) :
    wrdS 0 0 (l ++ x :: m) ≠ wrdS 0 0 (l ++ y :: m) := by
  rw [wrdS_eq _ 0 0 (by omega) (by omega), wrdS_eq _ 0 0 (by omega) (by omega), totS_append, totS_append, totS, totS]
  have h1 := totS_range l 0
  have h2 := totS_range m (0 + (l.length : Int) + 1)
  obtain ⟨t, ht⟩ : ∃ t, totS 0 l + totS (0 + (l.length : Int) + 1) m = t := ⟨_, rfl⟩
  have hx := x.toNat_lt
  have hy := y.toNat_lt
  have ht0 : 0 ≤ t := by omega
  unfold fT
  split
  · rw [show (0 : Int) + (totS 0 l + ((x.toNat : Int) * 256 + totS (0 + (l.length : Int) + 1) m)) = t + x.toNat * 256 by omega, show (0 : Int) + (totS 0 l + ((y.toNat : Int) * 256 + totS (0 + (l.length : Int) + 1) m)) = t + y.toNat * 256 by omega]
    split <;> split <;> omega
  · rw [show (0 : Int) + (totS 0 l + ((x.toNat : Int) + totS (0 + (l.length : Int) + 1) m)) = t + x.toNat by omega, show (0 : Int) + (totS 0 l + ((y.toNat : Int) + totS (0 + (l.length : Int) + 1) m)) = t + y.toNat by omega]
    split <;> split <;> omega

/-- The sum of bytes. -/
def sumB : List UInt8 → Int
  | [] => 0
  | x :: l => x.toNat + sumB l
/-- The sum of the sums. -/
def accB : List UInt8 → Int
  | [] => 0
  | x :: l => x.toNat * (l.length + 1) + accB l
theorem sumB_append (l m : List UInt8) : sumB (l ++ m) = sumB l + sumB m := by
  induction l with
  | nil => simp [sumB]
  | cons x l ih => rw [List.cons_append, sumB, sumB, ih]; omega
theorem accB_append (l m : List UInt8) : accB (l ++ m) = accB l + m.length * sumB l + accB m := by
  induction l with
  | nil => simp [sumB, accB]
  | cons x l ih =>
    rw [List.cons_append, accB, accB, ih, sumB, List.length_append]
    have e : ((l.length + m.length : Nat) : Int) = l.length + m.length := by omega
    rw [e]
    have : (x.toNat : Int) * ((l.length : Int) + m.length + 1) = x.toNat * ((l.length : Int) + 1) + m.length * x.toNat := by
      rw [Int.mul_comm (m.length : Int), ← Int.mul_add]; congr 1; omega
    rw [this, Int.mul_add, Int.mul_add (m.length : Int)]
    omega
theorem emod_of {x y k : Int} (h : x = y + 65521 * k) : x % 65521 = y % 65521 := by omega
theorem adlS_eq (l : List UInt8) : ∀ a b : Int, 0 ≤ a → a < 65521 → 0 ≤ b → b < 65521 → (adlS a b l).1 = (a + sumB l) % 65521 ∧ (adlS a b l).2 = (b + l.length * a + accB l) % 65521 := by
  induction l with
  | nil => intro a b h1 h2 h3 h4; simp only [adlS, sumB, accB, List.length_nil]; constructor <;> omega
  | cons x l ih =>
    intro a b h1 h2 h3 h4
    rw [adlS]
    obtain ⟨e1, e2⟩ := ih ((a + x.toNat) % 65521) ((b + (a + x.toNat)) % 65521) (by omega) (by omega) (by omega) (by omega)
    rw [e1, e2, sumB, accB]
    refine ⟨by omega, ?_⟩
    rw [List.length_cons, show ((l.length + 1 : Nat) : Int) = l.length + 1 by omega]
    refine emod_of (k := -((b + (a + x.toNat)) / 65521 + l.length * ((a + x.toNat) / 65521))) ?_
    rw [Int.emod_def (b + (a + (x.toNat : Int))), Int.emod_def (a + (x.toNat : Int)), Int.mul_sub, Int.mul_left_comm (l.length : Int) 65521, Int.add_mul, Int.one_mul, Int.mul_add (x.toNat : Int), Int.mul_one, Int.mul_add (l.length : Int), Int.mul_comm (x.toNat : Int) l.length]
    omega
theorem adlS_join (l m : List UInt8) : (adlS 1 0 (l ++ m)).1 = lowJ ((adlS 1 0 l).2 * 65536 + (adlS 1 0 l).1) ((adlS 1 0 m).2 * 65536 + (adlS 1 0 m).1) ∧
    (adlS 1 0 (l ++ m)).2 = highJ ((adlS 1 0 l).2 * 65536 + (adlS 1 0 l).1) ((adlS 1 0 m).2 * 65536 + (adlS 1 0 m).1) m.length := by
  obtain ⟨a1, a2⟩ := adlS_eq (l ++ m) 1 0 (by omega) (by omega) (by omega) (by omega)
  obtain ⟨l1, l2⟩ := adlS_eq l 1 0 (by omega) (by omega) (by omega) (by omega)
  obtain ⟨m1, m2⟩ := adlS_eq m 1 0 (by omega) (by omega) (by omega) (by omega)
  have r1 := adlS_range l 1 0 (by omega) (by omega) (by omega) (by omega)
  have r2 := adlS_range m 1 0 (by omega) (by omega) (by omega) (by omega)
  unfold lowJ highJ
  generalize (adlS 1 0 (l ++ m)).1 = p1 at *
  generalize (adlS 1 0 (l ++ m)).2 = p2 at *
  generalize (adlS 1 0 l).1 = q1 at *
  generalize (adlS 1 0 l).2 = q2 at *
  generalize (adlS 1 0 m).1 = s1 at *
  generalize (adlS 1 0 m).2 = s2 at *
  rw [show (q2 * 65536 + q1) % 65536 = q1 by omega, show (s2 * 65536 + s1) % 65536 = s1 by omega, show (q2 * 65536 + q1) / 65536 = q2 by omega, show (s2 * 65536 + s1) / 65536 = s2 by omega]
  rw [sumB_append] at a1
  rw [accB_append, List.length_append, show ((l.length + m.length : Nat) : Int) = l.length + m.length by omega] at a2
  refine ⟨by omega, ?_⟩
  rw [a2, l2, m2]
  refine emod_of (k := (0 + l.length * 1 + accB l) / 65521 + (0 + m.length * 1 + accB m) / 65521 + ((m.length : Int) / 65521) * ((q1 - 1) % 65521) + m.length * ((1 + sumB l) / 65521 + (q1 - 1) / 65521)) ?_
  have e : (m.length : Int) * sumB l = ((m.length : Int) % 65521) * ((q1 - 1) % 65521) + 65521 * (((m.length : Int) / 65521) * ((q1 - 1) % 65521) + m.length * ((1 + sumB l) / 65521 + (q1 - 1) / 65521)) := by
    have hs : sumB l = (q1 - 1) % 65521 + 65521 * ((1 + sumB l) / 65521 + (q1 - 1) / 65521) := by omega
    have hm : (m.length : Int) = (m.length : Int) % 65521 + 65521 * ((m.length : Int) / 65521) := by omega
    generalize (1 + sumB l) / 65521 + (q1 - 1) / 65521 = t at *
    generalize (q1 - 1) % 65521 = u at *
    generalize hn : (m.length : Int) = n at *
    rw [hs, Int.mul_add, Int.mul_left_comm]
    have h2 : n * u = (n % 65521) * u + 65521 * (n / 65521 * u) := by
      rw [← Int.mul_assoc, ← Int.add_mul, ← hm]
    omega
  omega
theorem chk_join (l m : List UInt8) : chkS 3 (l ++ m) = highJ (chkS 3 l) (chkS 3 m) m.length * 65536 + lowJ (chkS 3 l) (chkS 3 m) := by
  have h := adlS_join l m
  unfold chkS
  rw [if_neg (by omega), if_neg (by omega), if_neg (by omega), if_neg (by omega), if_neg (by omega), if_neg (by omega), h.1, h.2]
/-- Ranges of the checksums. -/
def topS (k : Int) : Int := if k = 3 then 4294967296 else 65536
theorem chk_range (k : Int) (hk : 1 ≤ k ∧ k ≤ 3) (l : List UInt8) : 0 ≤ chkS k l ∧ chkS k l < topS k := by
  unfold chkS topS
  have h1 := wrdS_range l 0 0 (by omega) (by omega)
  have h2 := divS_lt l 65535 (by omega)
  have h3 := adlS_range l 1 0 (by omega) (by omega) (by omega) (by omega)
  split
  · rw [if_neg (by omega)]; omega
  · split
    · rw [if_neg (by omega)]; omega
    · split <;> omega
/-- A bit changed. -/
theorem chk_flip (k : Int) (l m : List UInt8) (x y : UInt8) (d : Int) (hd : d = 1 ∨ d = 2 ∨ d = 4 ∨ d = 8 ∨ d = 16 ∨ d = 32 ∨ d = 64 ∨ d = 128) (h : (x.toNat : Int) = y.toNat + d ∨ (y.toNat : Int) = x.toNat + d) :
    chkS k (l ++ x :: m) ≠ chkS k (l ++ y :: m) := by
  have hne : x ≠ y := by rintro rfl; omega
  unfold chkS
  split
  · have := wrdS_flip l m x y d hd h
    omega
  · split
    · have := divS_flip l m x y hne
      omega
    · have hr := fun z : UInt8 => adlS_range (l ++ z :: m) 1 0 (by omega) (by omega) (by omega) (by omega)
      have e := fun z : UInt8 => (adlS_eq (l ++ z :: m) 1 0 (by omega) (by omega) (by omega) (by omega)).1
      simp only [sumB_append, sumB] at e
      have ex := e x
      have ey := e y
      have rx := hr x
      have ry := hr y
      have hx := x.toNat_lt
      have hy := y.toNat_lt
      generalize (adlS 1 0 (l ++ x :: m)).1 = p1 at *
      generalize (adlS 1 0 (l ++ y :: m)).1 = p2 at *
      omega
/-- A checksum behind its bytes. -/
theorem iter_low (a : Nat) (h : a < 256) : iterS 8 a = a * 256 := by
  simp only [iterS]
  unfold stepB
  rw [if_neg (show ¬ 65536 ≤ a * 2 by omega), if_neg (show ¬ 65536 ≤ a * 2 * 2 by omega), if_neg (show ¬ 65536 ≤ a * 2 * 2 * 2 by omega), if_neg (show ¬ 65536 ≤ a * 2 * 2 * 2 * 2 by omega), if_neg (show ¬ 65536 ≤ a * 2 * 2 * 2 * 2 * 2 by omega), if_neg (show ¬ 65536 ≤ a * 2 * 2 * 2 * 2 * 2 * 2 by omega), if_neg (show ¬ 65536 ≤ a * 2 * 2 * 2 * 2 * 2 * 2 * 2 by omega), if_neg (show ¬ 65536 ≤ a * 2 * 2 * 2 * 2 * 2 * 2 * 2 * 2 by omega)]
  omega
theorem xor_high (v : Nat) : v ^^^ (v / 256 * 256) = v % 256 := by
  refine Nat.eq_of_testBit_eq fun i => ?_
  rw [Nat.testBit_xor, show v / 256 * 256 = v / 2 ^ 8 * 2 ^ 8 from rfl, Nat.testBit_mul_two_pow, Nat.testBit_div_two_pow, show v % 256 = v % 2 ^ 8 from rfl, Nat.testBit_mod_two_pow]
  by_cases h : 8 ≤ i
  · simp [h, show ¬ i < 8 by omega, show i - 8 + 8 = i by omega]
  · simp [h, show i < 8 by omega]
theorem toNat_of (m : Int) (h : m < 256) : (UInt8.ofNat m.toNat).toNat = m.toNat := by
  rw [UInt8.toNat_ofNat']; omega
theorem chk_zero (k : Int) (hk : k = 1 ∨ k = 2) (l : List UInt8) (he : k = 1 → l.length % 2 = 0) : chkS k (l ++ bytS k (chkS k l)) = 0 := by
  have hr := chk_range k (by omega) l
  unfold topS at hr
  rw [if_neg (by omega)] at hr
  have hb : bytS k (chkS k l) = [UInt8.ofNat (chkS k l / 256).toNat, UInt8.ofNat (chkS k l % 256).toNat] := by unfold bytS; rw [if_neg (by omega)]
  rw [hb]
  have e1 := toNat_of (chkS k l / 256) (by omega)
  have e2 := toNat_of (chkS k l % 256) (by omega)
  rcases hk with rfl | rfl
  · have he := he rfl
    unfold chkS at *
    simp only [if_pos] at *
    rw [wrdS_eq _ 0 0 (by omega) (by omega), totS_append, totS, totS, totS, e1, e2, if_pos (by omega), if_neg (by omega)]
    rw [wrdS_eq l 0 0 (by omega) (by omega)] at *
    have ht := (totS_range l 0).1
    unfold fT at *
    split at * <;> split <;> omega
  · unfold chkS at *
    simp only [show ¬ ((2 : Int) = 1) by omega, if_pos, if_false] at *
    rw [divS_append, divS_cons, divS_cons, divS_nil, e1, e2]
    generalize divS 65535 l = v at *
    rw [show ((v : Int) / 256).toNat = v / 256 by omega, show ((v : Int) % 256).toNat = v % 256 by omega, xor_high, iter_low (v % 256) (by omega), Nat.xor_self]
    rfl
end Go.Proofs.Ytcjmeiklfkiibaa
