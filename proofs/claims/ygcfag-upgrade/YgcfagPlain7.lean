/-
  PLAIN: what fits, and sealing.
-/
import Derived.Test.YgcfagPlain6
import Derived.Test.YgcfagPlain4
namespace Go.Proofs.Ygcfag
set_option linter.unusedVariables false
set_option linter.unusedSimpArgs false

/-- How many words lie in the segments. -/
def total (ms : List (List Int)) : Nat := (ms.map List.length).sum

/-- seg.Fits. -/
def fitsOf (ms : List (List Int)) : Bool := decide (1 ≤ ms.length ∧ ms.length ≤ 8 ∧ 1 ≤ (ms.getD 0 []).length ∧ total ms ≤ 256)

theorem total_nil : total [] = 0 := rfl
theorem total_cons (m : List Int) (ms : List (List Int)) : total (m :: ms) = m.length + total ms := by simp [total]
theorem total_append : ∀ (a b : List (List Int)), total (a ++ b) = total a + total b
  | [], b => by simp [total]
  | m :: a, b => by rw [List.cons_append, total_cons, total_cons, total_append a b]; omega
theorem take_snocL {α : Type} (d : α) : ∀ (xs : List α) (k : Nat), k < xs.length → xs.take (k + 1) = xs.take k ++ [xs.getD k d] := by
  intro xs k h
  rw [List.take_succ_eq_append_getElem h]
  simp [List.getD, h]
theorem total_step (ms : List (List Int)) (k : Nat) (h : k < ms.length) : total (ms.take (k + 1)) = total (ms.take k) + (ms.getD k []).length := by
  rw [take_snocL [] ms k h, total_append, total_cons, total_nil]; omega
theorem total_le (ms : List (List Int)) (k : Nat) : total (ms.take k) ≤ total ms := by
  have : total ms = total (ms.take k) + total (ms.drop k) := by rw [← total_append, List.take_append_drop]
  omega
theorem total_ge (ms : List (List Int)) (k : Nat) (h : k < ms.length) : (ms.getD k []).length ≤ total ms := by
  have := total_step ms k h
  have := total_le ms (k + 1)
  omega
theorem flat_total : ∀ (ms : List (List Int)), ms.flatten.length = total ms
  | [] => rfl
  | m :: ms => by simp [total_cons, flat_total ms]
end Go.Proofs.Ygcfag
