/-
  WALKS: smodel.zeroTail's loop.
-/
import Derived.Test.YgcfagW55
namespace Go.Proofs.Ygcfag
open Go.RowKit
set_option linter.unusedVariables false
set_option linter.unusedSimpArgs false

/-- Byte j of a word. -/
def byteOf (x : Int) (j : Nat) : Int := x / 2 ^ (j * 8) % 256

theorem tail_zero (x : Int) (r : Nat) (h0 : 0 ≤ x) (h1 : x < 18446744073709551616) (hr : r < 8) : (∀ j, r ≤ j → j < 8 → byteOf x j = 0) ↔ x / 2 ^ (r * 8) = 0 := by
  unfold byteOf
  constructor
  · intro h
    have b0 := fun hh => h 0 hh (by omega)
    have b1 := fun hh => h 1 hh (by omega)
    have b2 := fun hh => h 2 hh (by omega)
    have b3 := fun hh => h 3 hh (by omega)
    have b4 := fun hh => h 4 hh (by omega)
    have b5 := fun hh => h 5 hh (by omega)
    have b6 := fun hh => h 6 hh (by omega)
    have b7 := fun hh => h 7 hh (by omega)
    simp only [Nat.reduceMul, Int.reducePow, Nat.zero_mul, Int.pow_zero, Int.ediv_one] at *
    match r, hr with
    | 0, _ => simp only [Nat.zero_mul, Int.pow_zero, Int.ediv_one]; omega
    | 1, _ => simp only [Nat.reduceMul, Int.reducePow]; omega
    | 2, _ => simp only [Nat.reduceMul, Int.reducePow]; omega
    | 3, _ => simp only [Nat.reduceMul, Int.reducePow]; omega
    | 4, _ => simp only [Nat.reduceMul, Int.reducePow]; omega
    | 5, _ => simp only [Nat.reduceMul, Int.reducePow]; omega
    | 6, _ => simp only [Nat.reduceMul, Int.reducePow]; omega
    | 7, _ => simp only [Nat.reduceMul, Int.reducePow]; omega
  · intro h j hj hj8
    have e : x / 2 ^ (j * 8) = x / 2 ^ (r * 8) / 2 ^ ((j - r) * 8) := by
      rw [Int.ediv_ediv_of_nonneg (Int.le_of_lt (Int.pow_pos (by omega))), ← Int.pow_add, ← Nat.add_mul, show r + (j - r) = j by omega]
    rw [e, h]; simp
end Go.Proofs.Ygcfag
