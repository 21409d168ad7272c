/- The contract of the reference's Block, for any input. -/
import Derived.Test.YtbfejjjdolfcfaaRb2
namespace Go.Proofs.Ytbfejjjdolfcfaa
open Go.RowKit

theorem rblk_any (A1 A2 : Option Addr) (n1 c1 n2 c2 : Nat) (ks ns : List Int) (ctr : Int) (l : List UInt8) (E : Int) (hg : goodB ks ns ctr → l = blkB ks ns ctr ∧ E = 0) (hb : ¬ goodB ks ns ctr → l = [] ∧ E = 2) (w : World) (h1 : Holds w A1 n1 (ks.map iw)) (h2 : Holds w A2 n2 (ns.map iw)) (b1 : n1 ≤ 1000) (b2 : n2 ≤ 1000) :
    Calls Try.prog 13 #[.slice A1 n1 c1, .slice A2 n2 c2, .int .i64 ctr] w fun e w' => Rowed w 5 l.length (l.map u8) (fun v => .tuple #[v, .int .i64 E]) e w' := by
  have l1 : ks.length = n1 := by have := h1.1; simpa using this
  have l2 : ns.length = n2 := by have := h2.1; simpa using this
  by_cases hG : goodB ks ns ctr
  · obtain ⟨rfl, rfl⟩ := hg hG
    have e1 : n1 = 8 := by rw [← l1]; exact hG.1
    have e2 : n2 = 3 := by rw [← l2]; exact hG.2.1
    subst e1 e2
    rw [blkB_length]
    exact rblk_good A1 A2 c1 c2 ks ns ctr w h1 h2 l1 l2 hG
  · obtain ⟨rfl, rfl⟩ := hb hG
    exact (rblk_bad A1 A2 n1 c1 n2 c2 ks ns ctr w h1 h2 b1 b2 l1 l2 hG).mono fun e w' ⟨he, hw⟩ => ⟨_, he, World.ownsRow_nil w' _ 5 1, hw ▸ Below.refl _ _⟩
end Go.Proofs.Ytbfejjjdolfcfaa
