/-
  WALKS: seg.walk's claim.
-/
import Derived.Test.YgcfagW57
namespace Go.Proofs.Ygcfag
open Go.RowKit
set_option linter.unusedVariables false
set_option linter.unusedSimpArgs false

set_option maxHeartbeats 1000000 in
set_option maxRecDepth 100000 in
theorem wclaim_any (g s at_ n : Nat) (S : Nat → Bool) (w : World) (hs : s < 8) (hset : SetAt w g (s * 4) S) (hn : at_ + n ≤ 256) :
    Calls Fagg.prog 77 #[.pointer (some ⟨g, 0, none⟩), .int .u8 (s : Int), .int .u16 (at_ : Int), .int .u16 (n : Int)] w fun e w' => e = .returned (.bool (freeB S at_ (at_ + n))) ∧ SetAt w' g (s * 4) (with_ S at_ (at_ + n)) ∧ Wrote4 g (s * 4) w w' := by
  have HC := hide (claim_any g (s * 4) at_ n S w hset hn)
  obtain ⟨v0, c0, _, _⟩ := hset 0 (by omega)
  clear hset
  go_enter Fagg.func77, Fagg.ntmps77
  go_wp2_with (go_at_call 146; with_reducible refine (unhide HC).mono ?_; rintro e w1 ⟨rfl, h1, h2⟩; have H1 := hide h1; have H2 := hide h2; clear h1 h2)
  go_ret
  exact ⟨rfl, unhide H1, unhide H2⟩
end Go.Proofs.Ygcfag
