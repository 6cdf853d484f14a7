/-
  PLAIN: words and their bytes; packing.
-/
import Derived.Test.YgcfagPlain3
namespace Go.Proofs.Ygcfag
set_option linter.unusedVariables false
set_option linter.unusedSimpArgs false

/-- The eight bytes of a word, the least first. -/
def bytes8 (w : Int) : List Int := [w % 256, w / 256 % 256, w / 65536 % 256, w / 16777216 % 256, w / 4294967296 % 256, w / 1099511627776 % 256, w / 281474976710656 % 256, w / 72057594037927936 % 256]

theorem le_bytes8 (w : Int) (h0 : 0 ≤ w) (h1 : w < 18446744073709551616) : le (bytes8 w) = w := by
  simp only [bytes8, le]; omega

theorem bytes8_bys (w : Int) : Bys (bytes8 w) := by
  intro i
  match i with
  | 0 => simp [bytes8]; omega
  | 1 => simp [bytes8]; omega
  | 2 => simp [bytes8]; omega
  | 3 => simp [bytes8]; omega
  | 4 => simp [bytes8]; omega
  | 5 => simp [bytes8]; omega
  | 6 => simp [bytes8]; omega
  | 7 => simp [bytes8]; omega
  | n + 8 => simp [bytes8]

/-- 1 for a byte that is not zero. -/
def nz (x : Int) : Nat := if x = 0 then 0 else 1

/-- The tag of a word. -/
def tagN (w : Int) : Nat := nz (w % 256) + 2 * nz (w / 256 % 256) + 4 * nz (w / 65536 % 256) + 8 * nz (w / 16777216 % 256) + 16 * nz (w / 4294967296 % 256) + 32 * nz (w / 1099511627776 % 256) + 64 * nz (w / 281474976710656 % 256) + 128 * nz (w / 72057594037927936 % 256)

theorem nz_le (x : Int) : nz x ≤ 1 := by unfold nz; split <;> omega
theorem tagN_lt (w : Int) : tagN w < 256 := by
  unfold tagN
  have := nz_le (w % 256)
  have := nz_le (w / 256 % 256)
  have := nz_le (w / 65536 % 256)
  have := nz_le (w / 16777216 % 256)
  have := nz_le (w / 4294967296 % 256)
  have := nz_le (w / 1099511627776 % 256)
  have := nz_le (w / 281474976710656 % 256)
  have := nz_le (w / 72057594037927936 % 256)
  omega

/-- How many words of zero stand ahead, at most 'most'. -/
def zerosOf : List Int → Nat → Nat
  | [], _ => 0
  | x :: xs, 0 => 0
  | x :: xs, m + 1 => if x = 0 then zerosOf xs m + 1 else 0

/-- At most one byte of it is zero. -/
def dense1 (w : Int) : Bool := decide (popc (255 - tagN w) ≤ 1)

def denseOf : List Int → Nat → Nat
  | [], _ => 0
  | x :: xs, 0 => 0
  | x :: xs, m + 1 => if dense1 x = true then denseOf xs m + 1 else 0

/-- The bytes that are not zero. -/
def nonzero (w : Int) : List Int := (bytes8 w).filter (fun x => decide (x ≠ 0))

/-- The packed stream. -/
def packAt : Nat → List Int → List Int
  | 0, _ => []
  | f + 1, [] => []
  | f + 1, w :: r =>
    if tagN w = 0 then (0 :: (zerosOf r 255 : Int) :: packAt f (r.drop (zerosOf r 255)))
    else if tagN w = 255 then (255 :: nonzero w) ++ (denseOf r 255 : Int) :: ((r.take (denseOf r 255)).flatMap bytes8 ++ packAt f (r.drop (denseOf r 255)))
    else ((tagN w : Int) :: nonzero w) ++ packAt f r

def packOf (a : List Int) : List Int := packAt a.length a

theorem zerosOf_le : ∀ (xs : List Int) (m : Nat), zerosOf xs m ≤ xs.length ∧ zerosOf xs m ≤ m
  | [], _ => by simp [zerosOf]
  | x :: xs, 0 => by simp [zerosOf]
  | x :: xs, m + 1 => by
    have := zerosOf_le xs m
    unfold zerosOf
    split <;> simp <;> omega
theorem denseOf_le : ∀ (xs : List Int) (m : Nat), denseOf xs m ≤ xs.length ∧ denseOf xs m ≤ m
  | [], _ => by simp [denseOf]
  | x :: xs, 0 => by simp [denseOf]
  | x :: xs, m + 1 => by
    have := denseOf_le xs m
    unfold denseOf
    split <;> simp <;> omega

/-- The search comes on while the word ahead is zero. -/
theorem zerosOf_step : ∀ (xs : List Int) (m k : Nat), k ≤ zerosOf xs m → (k = zerosOf xs m ↔ ¬ (k < xs.length ∧ k < m ∧ xs.getD k 0 = 0))
  | [], m, k, h => by simp [zerosOf] at *; exact h
  | x :: xs, 0, k, h => by simp [zerosOf] at *; omega
  | x :: xs, m + 1, k, h => by
    unfold zerosOf at *
    by_cases hx : x = 0
    · rw [if_pos hx] at h ⊢
      cases k with
      | zero => simp [hx]
      | succ k =>
        have ih := zerosOf_step xs m k (by omega)
        simp only [List.length_cons, List.getD_cons_succ, Nat.add_lt_add_iff_right, Nat.add_right_cancel_iff]
        exact ih
    · rw [if_neg hx] at h ⊢
      obtain rfl : k = 0 := by omega
      simp [hx]
theorem denseOf_step : ∀ (xs : List Int) (m k : Nat), k ≤ denseOf xs m → (k = denseOf xs m ↔ ¬ (k < xs.length ∧ k < m ∧ dense1 (xs.getD k 0) = true))
  | [], m, k, h => by simp [denseOf] at *; exact h
  | x :: xs, 0, k, h => by simp [denseOf] at *; omega
  | x :: xs, m + 1, k, h => by
    unfold denseOf at *
    by_cases hx : dense1 x = true
    · rw [if_pos hx] at h ⊢
      cases k with
      | zero => simp [hx]
      | succ k =>
        have ih := denseOf_step xs m k (by omega)
        simp only [List.length_cons, List.getD_cons_succ, Nat.add_lt_add_iff_right, Nat.add_right_cancel_iff]
        exact ih
    · rw [if_neg hx] at h ⊢
      obtain rfl : k = 0 := by omega
      simp [hx]

theorem packAt_fuel : ∀ (f : Nat) (xs : List Int), xs.length ≤ f → packAt f xs = packAt xs.length xs
  | 0, xs, h => by
    have : xs = [] := List.eq_nil_of_length_eq_zero (by omega)
    subst this; rfl
  | f + 1, [], h => by simp [packAt]
  | f + 1, x :: xs, h => by
    have e : (x :: xs).length = xs.length + 1 := rfl
    have hz := zerosOf_le xs 255
    have hd := denseOf_le xs 255
    simp at h
    rw [e, packAt, packAt]
    rw [packAt_fuel f (xs.drop (zerosOf xs 255)) (by simp; omega), packAt_fuel xs.length (xs.drop (zerosOf xs 255)) (by simp),
      packAt_fuel f (xs.drop (denseOf xs 255)) (by simp; omega), packAt_fuel xs.length (xs.drop (denseOf xs 255)) (by simp), packAt_fuel f xs h]

theorem packOf_zero {x : Int} {xs : List Int} (h : tagN x = 0) : packOf (x :: xs) = 0 :: (zerosOf xs 255 : Int) :: packOf (xs.drop (zerosOf xs 255)) := by
  unfold packOf
  have e : (x :: xs).length = xs.length + 1 := rfl
  rw [e, packAt, if_pos h, packAt_fuel xs.length _ (by simp)]
theorem packOf_full {x : Int} {xs : List Int} (h : tagN x = 255) : packOf (x :: xs) = (255 :: nonzero x) ++ (denseOf xs 255 : Int) :: ((xs.take (denseOf xs 255)).flatMap bytes8 ++ packOf (xs.drop (denseOf xs 255))) := by
  unfold packOf
  have e : (x :: xs).length = xs.length + 1 := rfl
  rw [e, packAt, if_neg (by omega), if_pos h, packAt_fuel xs.length _ (by simp)]
theorem packOf_some {x : Int} {xs : List Int} (h : tagN x ≠ 0) (h2 : tagN x ≠ 255) : packOf (x :: xs) = ((tagN x : Int) :: nonzero x) ++ packOf xs := by
  unfold packOf
  have e : (x :: xs).length = xs.length + 1 := rfl
  rw [e, packAt, if_neg h, if_neg h2]

/-- The bytes that are not zero among the first k. -/
def nzk (x : Int) (k : Nat) : List Int := ((bytes8 x).take k).filter (fun y => decide (y ≠ 0))

theorem bytes8_getD (x : Int) (k : Nat) (hk : k < 8) : (bytes8 x).getD k 0 = x / 256 ^ k % 256 := by
  match k, hk with
  | 0, _ => simp [bytes8]
  | 1, _ => rfl
  | 2, _ => rfl
  | 3, _ => rfl
  | 4, _ => rfl
  | 5, _ => rfl
  | 6, _ => rfl
  | 7, _ => rfl

theorem nzk_step (x : Int) (k : Nat) (hk : k < 8) : nzk x (k + 1) = nzk x k ++ (if x / 256 ^ k % 256 = 0 then [] else [x / 256 ^ k % 256]) := by
  unfold nzk
  have hl : k < (bytes8 x).length := by simpa [bytes8] using hk
  rw [take_snoc (bytes8 x) k hl, List.filter_append, bytes8_getD x k hk]
  by_cases h : x / 256 ^ k % 256 = 0
  · rw [if_pos h]; simp [h]
  · rw [if_neg h]; simp [h]

theorem div_step (x : Int) (k : Nat) : x / 256 ^ k / 256 = x / 256 ^ (k + 1) := by
  rw [Int.ediv_ediv_of_nonneg (Int.le_of_lt (Int.pow_pos (by omega))), Int.pow_succ]

theorem nzk_end (x : Int) (k : Nat) (hk : k ≤ 8) (h0 : x / 256 ^ k = 0) : nzk x k = nonzero x := by
  have key : ∀ m, k + m ≤ 8 → nzk x (k + m) = nzk x k ∧ x / 256 ^ (k + m) = 0 := by
    intro m
    induction m with
    | zero => intro _; exact ⟨rfl, h0⟩
    | succ m ih =>
      intro hm
      obtain ⟨i1, i2⟩ := ih (by omega)
      have := nzk_step x (k + m) (by omega)
      rw [i2] at this
      simp at this
      refine ⟨?_, ?_⟩
      · rw [← Nat.add_assoc, this, i1]
      · rw [← Nat.add_assoc, ← div_step, i2]; rfl
  have := (key (8 - k) (by omega)).1
  rw [show k + (8 - k) = 8 by omega] at this
  rw [← this]
  unfold nzk nonzero
  rw [List.take_of_length_le (by simp [bytes8])]

theorem nzk_len (x : Int) (k : Nat) : (nzk x k).length ≤ k := by
  unfold nzk
  refine Nat.le_trans (List.length_filter_le _ _) ?_
  simp; omega

end Go.Proofs.Ygcfag
