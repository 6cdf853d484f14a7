/-
  PLAIN: what a frame of segments holds.
-/
import Derived.Test.YgcfagPlain3
namespace Go.Proofs.Ygcfag
set_option linter.unusedVariables false
set_option linter.unusedSimpArgs false

/-- A number's bytes in a frame. -/
def num (xs : List Int) (a n : Nat) : Int := le ((xs.drop a).take n)

/-- Words cut into pieces of these lengths. -/
def cuts : List Nat → List Int → List (List Int)
  | [], _ => []
  | k :: ks, xs => xs.take k :: cuts ks (xs.drop k)

/-- Entry i of the table of lengths. -/
def entry (xs : List Int) (i : Nat) : Nat := (le ((xs.drop (2 * i)).take 2)).toNat

/-- Behind the header: the table, the payload. -/
def openRest (xs : List Int) (fl wd : Int) : Nat × List (List Int) :=
  match tableOf (entry ((xs.drop 16).take 16)) wd.toNat with
  | none => (7, [])
  | some (l, n) =>
    match payload (xs.drop 32) (fl == 1) wd.toNat with
    | none => (8, [])
    | some all => if all.length = wd.toNat then (0, cuts (l.take n) all) else (8, [])

/-- The first code that applies, and the segments. -/
def openOf (xs : List Int) : Nat × List (List Int) :=
  if xs.length < 32 then (1, [])
  else if num xs 0 4 ≠ 827742039 then (2, [])
  else if num xs 4 2 ≠ 2 then (3, [])
  else if 1 < num xs 6 2 then (4, [])
  else if 256 < num xs 8 4 then (5, [])
  else if sumOn (sumOn 2166136261 (xs.take 12)) (xs.drop 16) ≠ num xs 12 4 then (6, [])
  else openRest xs (num xs 6 2) (num xs 8 4)

theorem openOf_ge (xs : List Int) (h : ¬ xs.length < 32) : openOf xs =
  if num xs 0 4 ≠ 827742039 then (2, [])
  else if num xs 4 2 ≠ 2 then (3, [])
  else if 1 < num xs 6 2 then (4, [])
  else if 256 < num xs 8 4 then (5, [])
  else if sumOn (sumOn 2166136261 (xs.take 12)) (xs.drop 16) ≠ num xs 12 4 then (6, [])
  else openRest xs (num xs 6 2) (num xs 8 4) := by unfold openOf; rw [if_neg h]

theorem num_bd (xs : List Int) (a n : Nat) (h : Bys xs) : 0 ≤ num xs a n ∧ num xs a n < 256 ^ n :=
  ⟨le_nonneg _ ((h.drop a).take n), le_lt _ n ((h.drop a).take n) (by simp; omega)⟩

theorem cuts_length : ∀ (l : List Nat) (xs : List Int), (cuts l xs).length = l.length
  | [], _ => rfl
  | k :: ks, xs => by simp [cuts, cuts_length ks]

theorem cuts_snoc : ∀ (l : List Nat) (k : Nat) (xs : List Int), cuts (l ++ [k]) xs = cuts l xs ++ [(xs.drop l.sum).take k]
  | [], k, xs => by simp [cuts]
  | j :: l, k, xs => by
    simp only [List.cons_append, cuts, cuts_snoc l k, List.sum_cons, List.drop_drop, List.cons.injEq]

theorem take_snocN (l : List Nat) (k : Nat) (h : k < l.length) : l.take (k + 1) = l.take k ++ [l.getD k 0] := by
  rw [List.take_succ_eq_append_getElem h]; simp [List.getD, h]

theorem sum_take_le (l : List Nat) : ∀ k, (l.take k).sum ≤ l.sum := by
  induction l with
  | nil => simp
  | cons x l ih => intro k; cases k with
    | zero => simp
    | succ k => simp; exact ih k

theorem sum_take_succ (l : List Nat) (k : Nat) (h : k < l.length) : (l.take k).sum + l.getD k 0 = (l.take (k + 1)).sum := by
  rw [take_snocN l k h]; simp

theorem tableOf_facts {f : Nat → Nat} {total : Nat} {l : List Nat} {n : Nat} (h : tableOf f total = some (l, n)) : l.length = 8 ∧ n ≤ 8 ∧ l.sum = total ∧ 0 < l.getD 0 0 ∧ 1 ≤ n ∧ (∀ j, n ≤ j → l.getD j 0 = 0) ∧ (∀ j, j < n → l.getD j 0 + 1 = f j) := by
  unfold tableOf at h
  cases hp : tabAt f total 8 with
  | none => rw [hp] at h; cases h
  | some p =>
    obtain ⟨l0, n0, lf⟩ := p
    rw [hp] at h
    simp only at h
    split at h
    · rename_i hc
      simp at h
      obtain ⟨rfl, rfl⟩ := h
      obtain ⟨h1, h2, h3, h4, h5, h6⟩ := tabAt_facts f total 8 _ _ _ hp
      refine ⟨h1, h2, by omega, hc.2, ?_, h5, h6⟩
      rcases Nat.eq_zero_or_pos n0 with e | e
      · have := h5 0 (by omega); omega
      · exact e
    · cases h

end Go.Proofs.Ygcfag
