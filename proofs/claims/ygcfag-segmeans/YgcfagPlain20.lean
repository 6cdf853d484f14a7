/-
  PLAIN: how many words are free at the beginning; what Validate answers.
-/
import Derived.Test.YgcfagPlain19
namespace Go.Proofs.Ygcfag
set_option linter.unusedVariables false
set_option linter.unusedSimpArgs false

theorem freeS_bd (L : List (Nat × Nat × Nat)) (s n : Nat) : freeS L s n ≤ n := by
  unfold freeS
  have := List.countP_le_length (p := fun i => !covB L s i) (l := List.range n)
  simpa using this

theorem freeN_take (ms : List (List Int)) (L : List (Nat × Nat × Nat)) : ∀ k, k ≤ ms.length → ((List.range k).map fun s => freeS L s (ms.getD s []).length).sum ≤ total (ms.take k)
  | 0, _ => by simp
  | k + 1, h => by
    have ih := freeN_take ms L k (by omega)
    rw [List.range_succ, List.map_append, List.sum_append, total_step ms k (by omega)]
    have := freeS_bd L k (ms.getD k []).length
    simp only [List.map_cons, List.map_nil, List.sum_cons, List.sum_nil, Nat.add_zero]
    omega

theorem freeN_bd (ms : List (List Int)) (L : List (Nat × Nat × Nat)) : freeN ms L ≤ total ms := by
  have := freeN_take ms L ms.length (Nat.le_refl _)
  rw [List.take_of_length_le (Nat.le_refl _)] at this
  exact this

theorem fits_more {ms : List (List Int)} (h : fitsOf ms = true) : 1 ≤ (ms.getD 0 []).length ∧ total ms ≤ 256 := by
  have hf' : 1 ≤ ms.length ∧ ms.length ≤ 8 ∧ 1 ≤ (ms.getD 0 []).length ∧ total ms ≤ 256 := by simpa [fitsOf] using h
  exact hf'.2.2

theorem free_start {ms : List (List Int)} (h : fitsOf ms = true) : 1 + freeN ms [(0, 0, 1)] ≤ 256 := by
  obtain ⟨hn1, hn8, hlen⟩ := fits_facts h
  obtain ⟨h0, ht⟩ := fits_more h
  have h1 := freeN_add (ms := ms) (L := []) (s := 0) (a := 0) (n := 1) (by simp [apartB]) (by omega) (by omega)
  have h2 := freeN_bd ms []
  simp at h1
  omega

/-- What both validators answer. -/
def validOf (ms : List (List Int)) : Bool := fitsOf ms && FB ms [(0, 0, 1)] [(8, 0, 0)]
end Go.Proofs.Ygcfag
