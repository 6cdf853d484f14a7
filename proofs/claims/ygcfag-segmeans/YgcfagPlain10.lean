/-
  PLAIN: a sealed frame opens.
-/
import Derived.Test.YgcfagPlain9
import Derived.Test.YgcfagPlain5
namespace Go.Proofs.Ygcfag
set_option linter.unusedVariables false
set_option linter.unusedSimpArgs false

theorem bys_of {xs : List Int} (h : ∀ y ∈ xs, 0 ≤ y ∧ y < 256) : Bys xs := by
  intro i
  by_cases hi : i < xs.length
  · have e : xs.getD i 0 = xs[i] := by simp [List.getD, hi]
    rw [e]; exact h _ (List.getElem_mem hi)
  · have e : xs.getD i 0 = 0 := by simp [List.getD, Nat.not_lt.1 hi]
    rw [e]; omega
theorem bys_mem {xs : List Int} (h : Bys xs) {y : Int} (hy : y ∈ xs) : 0 ≤ y ∧ y < 256 := by
  obtain ⟨i, hi, rfl⟩ := List.getElem_of_mem hy
  have := h i
  simpa [List.getD, hi] using this
theorem bys_cons {x : Int} {xs : List Int} (hx : 0 ≤ x ∧ x < 256) (h : Bys xs) : Bys (x :: xs) :=
  bys_of fun y hy => by
    rcases List.mem_cons.1 hy with rfl | hy
    · exact hx
    · exact bys_mem h hy
theorem flat8_bys : ∀ (xs : List Int), Bys (xs.flatMap bytes8)
  | [] => by simp [Bys]
  | x :: xs => by rw [List.flatMap_cons]; exact (bytes8_bys x).append (flat8_bys xs)

theorem packOf_bd : ∀ (n : Nat) (xs : List Int), xs.length ≤ n → (packOf xs).length ≤ 10 * xs.length ∧ Bys (packOf xs)
  | n, [], _ => by simp [packOf, packAt, Bys]
  | 0, x :: xs, h => by simp at h
  | n + 1, x :: xs, hn => by
    have hn' : xs.length ≤ n := by simpa using hn
    have hl := nonzero_popc x
    have hp := popc_le (tagN x)
    have hnz : Bys (nonzero x) := by
      refine bys_of fun y hy => ?_
      unfold nonzero at hy
      exact bys_mem (bytes8_bys x) ((List.mem_filter.1 hy).1)
    by_cases t0 : tagN x = 0
    · rw [packOf_zero t0]
      have hz := zerosOf_le xs 255
      have ih := packOf_bd n (xs.drop (zerosOf xs 255)) (by simp; omega)
      simp only [List.length_drop] at ih
      refine ⟨by simp; omega, ?_⟩
      exact bys_cons (by omega) (bys_cons (by omega) ih.2)
    · by_cases t1 : tagN x = 255
      · rw [packOf_full t1]
        have hd := denseOf_le xs 255
        generalize denseOf xs 255 = d at *
        have ih := packOf_bd n (xs.drop d) (by simp; omega)
        have hf := flat8_len (xs.take d)
        simp only [List.length_drop, List.length_take] at ih hf
        refine ⟨by simp only [List.length_append, List.length_cons, hf]; omega, ?_⟩
        exact (bys_cons (by omega) hnz).append (bys_cons (by omega) ((flat8_bys _).append ih.2))
      · rw [packOf_some t0 t1]
        have ih := packOf_bd n xs hn'
        have ht := tagN_lt x
        refine ⟨by simp only [List.length_append, List.length_cons]; omega, ?_⟩
        exact (bys_cons (by omega) hnz).append ih.2
end Go.Proofs.Ygcfag
