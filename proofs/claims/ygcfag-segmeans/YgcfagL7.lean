/-
  LAW 7: SegMeans.
-/
import Derived.Test.YgcfagW85
import Derived.Test.YgcfagW77
import Derived.Test.YgcfagW15
import Derived.Test.YgcfagL13
namespace Go.Proofs.Ygcfag
open Go.RowKit
set_option linter.unusedVariables false
set_option linter.unusedSimpArgs false

set_option maxHeartbeats 400000 in
theorem segMeans_any (a : Option Addr) (n c m : Nat) (ms : List (List Int)) (w : World) (hs : SegsAt w a ms) (hm : ms.length = m) (hmn : min n 9 = m) (hnc : n ≤ c) (hc : c ≤ 9223372036854775807) (hw : ∀ i, Wds (ms.getD i [])) (hl : ∀ m ∈ ms, m.length ≤ 17592186043904) : Calls Fagg.prog 7 #[.slice a n c] w fun e w' => e = .returned (.bool true) ∧ Below w.heap.size w w' := by
  have HCUT := hide (cut_any a n c w hnc hc)
  rw [hmn] at HCUT
  have HV := hide (valid_any a m c ms w hs hm hw)
  have HM := hide (fun W (hW : Below w.heap.size w W) => mvalid_any a m c ms W (hs.below hW) hm (by omega) hl hw)
  generalize validOf ms = v at *
  clear hs hm hmn hnc hc hw hl
  go_enter Fagg.func7, Fagg.ntmps7
  go_wp2_with (first | (go_at_call 26; with_reducible refine (unhide HCUT).mono ?_; rintro e w1 ⟨rfl, hw1⟩; rw [hw1]; clear hw1) | (go_at_call 31; with_reducible refine (unhide HV).mono ?_; rintro e w2 ⟨rfl, hb2⟩) | (go_at_call 32; with_reducible refine (unhide HM _ hb2).mono ?_; rintro e w3 ⟨rfl, hb3⟩))
  go_ret
  exact ⟨by simp, hb2.trans (hb3.mono hb2.size)⟩
end Go.Proofs.Ygcfag
