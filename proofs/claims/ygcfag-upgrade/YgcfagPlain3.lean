/-
  PLAIN: words out of bytes, a frame's parts.
-/
import Derived.Test.YgcfagPlain2
namespace Go.Proofs.Ygcfag
set_option linter.unusedVariables false
set_option linter.unusedSimpArgs false

/-- The j-th word of bytes. -/
def wordAt (xs : List Int) (j : Nat) : Int := le ((xs.drop (8 * j)).take 8)
def plainWords (xs : List Int) (n : Nat) : List Int := (List.range n).map (wordAt xs)

/-- The words of a payload. -/
def payload (xs : List Int) (packed : Bool) (n : Nat) : Option (List Int) :=
  if packed then unpack xs else if xs.length = 8 * n then some (plainWords xs n) else none

/-- The first k made, the rest still zero. -/
def filled (f : Nat → Int) (n k : Nat) : List Int := (List.range k).map f ++ List.replicate (n - k) 0

theorem filled_zero (f : Nat → Int) (n : Nat) : filled f n 0 = List.replicate n 0 := by simp [filled]
theorem filled_all (f : Nat → Int) (n : Nat) : filled f n n = (List.range n).map f := by simp [filled]
theorem filled_len (f : Nat → Int) (n k : Nat) (h : k ≤ n) : (filled f n k).length = n := by simp [filled]; omega
theorem filled_set (f : Nat → Int) (n k : Nat) (h : k < n) : (filled f n k).set k (f k) = filled f n (k + 1) := by
  unfold filled
  have e : n - k = (n - (k + 1)) + 1 := by omega
  rw [e, List.replicate_succ, List.set_append_right _ _ (by simp)]
  simp [List.range_succ]

/-- The table of lengths, after k entries: the lengths, how many segments, how many words are left. -/
def tabAt (f : Nat → Nat) (total : Nat) : Nat → Option (List Nat × Nat × Nat)
  | 0 => some ([], 0, total)
  | k + 1 =>
    match tabAt f total k with
    | none => none
    | some (l, n, lf) => if f k = 0 then some (l ++ [0], n, lf) else if n < k ∨ lf < f k - 1 then none else some (l ++ [f k - 1], n + 1, lf - (f k - 1))

/-- .. whole: the lengths, how many segments. -/
def tableOf (f : Nat → Nat) (total : Nat) : Option (List Nat × Nat) :=
  match tabAt f total 8 with
  | none => none
  | some (l, n, lf) => if lf = 0 ∧ 0 < l.getD 0 0 then some (l, n) else none

theorem tabAt_facts (f : Nat → Nat) (total : Nat) : ∀ (k : Nat) (l : List Nat) (n lf : Nat), tabAt f total k = some (l, n, lf) → l.length = k ∧ n ≤ k ∧ lf ≤ total ∧ lf + l.sum = total ∧ (∀ j, n ≤ j → l.getD j 0 = 0) ∧ (∀ j, j < n → l.getD j 0 + 1 = f j)
  | 0, l, n, lf, h => by simp [tabAt] at h; obtain ⟨rfl, rfl, rfl⟩ := h; simp
  | k + 1, l, n, lf, h => by
    rw [tabAt] at h
    cases hp : tabAt f total k with
    | none => rw [hp] at h; cases h
    | some p =>
      obtain ⟨l0, n0, lf0⟩ := p
      have ih := tabAt_facts f total k l0 n0 lf0 hp
      rw [hp] at h
      simp only at h
      obtain ⟨i1, i2, i3, i4, i5, i6⟩ := ih
      split at h
      · simp at h
        obtain ⟨rfl, rfl, rfl⟩ := h
        refine ⟨by simp [i1], by omega, by omega, by simp; omega, fun j hj => ?_, fun j hj => ?_⟩
        · simp only [List.getD, List.getElem?_append]
          split
          · have := i5 j hj; simpa [List.getD] using this
          · cases hjk : j - l0.length <;> simp
        · have := i6 j hj
          rw [← this]
          simp only [List.getD, List.getElem?_append]
          rw [if_pos (by omega)]
      · split at h
        · cases h
        · simp at h
          obtain ⟨rfl, rfl, rfl⟩ := h
          refine ⟨by simp [i1], by omega, by omega, by simp; omega, fun j hj => ?_, fun j hj => ?_⟩
          · rw [List.getD_eq_getElem?_getD, List.getElem?_eq_none (by simp; omega)]; rfl
          · by_cases hjn : j < n0
            · have := i6 j hjn
              rw [← this]
              simp only [List.getD, List.getElem?_append]
              rw [if_pos (by omega)]
            · obtain rfl : j = k := by omega
              simp only [List.getD, List.getElem?_append]
              rw [if_neg (by omega), i1]
              simp; omega

theorem tabAt_none (f : Nat → Nat) (total k : Nat) (h : tabAt f total k = none) : ∀ m, k ≤ m → tabAt f total m = none
  | 0, hm => by obtain rfl : k = 0 := by omega
                exact h
  | m + 1, hm => by
    by_cases e : k = m + 1
    · rw [← e]; exact h
    · rw [tabAt, tabAt_none f total k h m (by omega)]

theorem tabAt_zero {f : Nat → Nat} {total k : Nat} {l : List Nat} {n lf : Nat} (h : tabAt f total k = some (l, n, lf)) (he : f k = 0) : tabAt f total (k + 1) = some (l ++ [0], n, lf) := by
  rw [tabAt, h]; simp only; rw [if_pos he]
theorem tabAt_bad {f : Nat → Nat} {total k : Nat} {l : List Nat} {n lf : Nat} (h : tabAt f total k = some (l, n, lf)) (he : f k ≠ 0) (hb : n < k ∨ lf < f k - 1) : tabAt f total (k + 1) = none := by
  rw [tabAt, h]; simp only; rw [if_neg he, if_pos hb]
theorem tabAt_next {f : Nat → Nat} {total k : Nat} {l : List Nat} {n lf : Nat} (h : tabAt f total k = some (l, n, lf)) (he : f k ≠ 0) (hb : ¬ (n < k ∨ lf < f k - 1)) : tabAt f total (k + 1) = some (l ++ [f k - 1], n + 1, lf - (f k - 1)) := by
  rw [tabAt, h]; simp only; rw [if_neg he, if_neg hb]

theorem getD_snoc (l : List Nat) (x j : Nat) : (l ++ [x]).getD j 0 = if j = l.length then x else l.getD j 0 := by
  simp only [List.getD, List.getElem?_append]
  split
  · rw [if_neg (by omega)]
  · by_cases h : j = l.length
    · rw [if_pos h, h]; simp
    · rw [if_neg h, List.getElem?_eq_none (by simp; omega), List.getElem?_eq_none (by omega)]

end Go.Proofs.Ygcfag
