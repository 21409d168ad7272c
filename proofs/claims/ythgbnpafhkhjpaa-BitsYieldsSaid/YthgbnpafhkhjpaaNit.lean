/- The iterator that yields nothing. -/
import Derived.Test.YthgbnpafhkhjpaaOfI
namespace Go.Proofs.Ythgbnpafhkhjpaa
open Go.RowKit
attribute [local go_sem] wide_fn wide_depth wide_fn_in wide_depth_in
set_option linter.unusedVariables false
set_option linter.unusedSimpArgs false

set_option maxRecDepth 100000 in
theorem none_iter (n : Nat) (W : World) (At : Nat → Array Value → World → Prop) (Kp : Array Value → World → World → Prop) (Step : World → World → Prop) :
    Iter Fence.wide n Try.prog 61 #[] At Kp Step 0 W := by
  intro l J Jx hJ hJx hY h0
  have H0 := Lib.hid h0
  clear hJ hJx hY h0
  refine callsIn_of_wp Try.func61 rfl trivial ?_ rfl
  simp only [Try.ntmps61, List.size_toArray, List.length_cons, List.length_nil, Nat.reduceAdd, Nat.reduceSub, Array.replicate_succ, Array.replicate_zero, List.push_toArray, List.append_toArray, List.nil_append, List.cons_append]
  gi_wp2_with fail
  go_end0
  exact ⟨⟨_, rfl⟩, .inl H0.out⟩
end Go.Proofs.Ythgbnpafhkhjpaa
