/-
  PLAIN: pieces of a list; the law's own reading of a table of lengths.
-/
import Derived.Test.YgcfagPlain4
namespace Go.Proofs.Ygcfag
set_option linter.unusedVariables false
set_option linter.unusedSimpArgs false

theorem cuts_getD : ∀ (l : List Nat) (xs : List Int) (i : Nat), i < l.length → (cuts l xs).getD i [] = (xs.drop (l.take i).sum).take (l.getD i 0)
  | [], _, i, h => by simp at h
  | k :: ks, xs, 0, _ => by simp [cuts]
  | k :: ks, xs, i + 1, h => by
    have ih := cuts_getD ks (xs.drop k) i (by simpa using h)
    simp only [cuts, List.getD_cons_succ, List.take_succ_cons, List.sum_cons, ih, List.drop_drop]

theorem cuts_piece (l : List Nat) (xs : List Int) (i : Nat) (hi : i < l.length) (h : l.sum ≤ xs.length) : ((cuts l xs).getD i []).length = l.getD i 0 := by
  rw [cuts_getD l xs i hi, List.length_take, List.length_drop]
  have h1 := sum_take_succ l i hi
  have h2 := sum_take_le l (i + 1)
  omega

/-- The law's own reading of the table, after k entries: the lengths, their sum, whether the last was none. -/
def ownTab (f : Nat → Nat) : Nat → Option (List Nat × Nat × Bool)
  | 0 => some ([], 0, false)
  | k + 1 =>
    match ownTab f k with
    | none => none
    | some (l, s, e) => if (0 < f k ∧ e = true) ∨ (k = 0 ∧ f k < 2) then none else if f k = 0 then some (l, s, true) else some (l ++ [f k - 1], s + (f k - 1), false)

theorem ownTab_bad {f : Nat → Nat} {k : Nat} {l : List Nat} {s : Nat} {e : Bool} (h : ownTab f k = some (l, s, e)) (hb : (0 < f k ∧ e = true) ∨ (k = 0 ∧ f k < 2)) : ownTab f (k + 1) = none := by
  rw [ownTab, h]; simp only; rw [if_pos hb]
theorem ownTab_end {f : Nat → Nat} {k : Nat} {l : List Nat} {s : Nat} {e : Bool} (h : ownTab f k = some (l, s, e)) (hb : ¬ ((0 < f k ∧ e = true) ∨ (k = 0 ∧ f k < 2))) (hz : f k = 0) : ownTab f (k + 1) = some (l, s, true) := by
  rw [ownTab, h]; simp only; rw [if_neg hb, if_pos hz]
theorem ownTab_next {f : Nat → Nat} {k : Nat} {l : List Nat} {s : Nat} {e : Bool} (h : ownTab f k = some (l, s, e)) (hb : ¬ ((0 < f k ∧ e = true) ∨ (k = 0 ∧ f k < 2))) (hz : f k ≠ 0) : ownTab f (k + 1) = some (l ++ [f k - 1], s + (f k - 1), false) := by
  rw [ownTab, h]; simp only; rw [if_neg hb, if_neg hz]
theorem ownTab_none (f : Nat → Nat) (k : Nat) (h : ownTab f k = none) : ∀ m, k ≤ m → ownTab f m = none
  | 0, hm => by obtain rfl : k = 0 := by omega
                exact h
  | m + 1, hm => by
    by_cases e : k = m + 1
    · rw [← e]; exact h
    · rw [ownTab, ownTab_none f k h m (by omega)]

/-- How the two readings go together. -/
theorem own_rel (f : Nat → Nat) (total : Nat) : ∀ k, k ≤ 8 →
    (ownTab f k = none ∧ tableOf f total = none) ∨
    ∃ lens s e, ownTab f k = some (lens, s, e) ∧ lens.sum = s ∧
      ((∃ l n lf, tabAt f total k = some (l, n, lf) ∧ lens = l.take n ∧ s + lf = total ∧ (e = true ↔ n < k) ∧ (1 ≤ k → 1 ≤ n ∧ 2 ≤ f 0)) ∨ (tabAt f total k = none ∧ total < s ∧ 1 ≤ k)) := by
  intro k
  induction k with
  | zero => intro _; exact .inr ⟨[], 0, false, rfl, rfl, .inl ⟨[], 0, total, rfl, rfl, by omega, by simp, by omega⟩⟩
  | succ k ih =>
    intro hk
    rcases ih (by omega) with ⟨h1, h2⟩ | ⟨lens, s, e, h1, hs, h2⟩
    · exact .inl ⟨by rw [ownTab, h1], h2⟩
    · by_cases hbad : (0 < f k ∧ e = true) ∨ (k = 0 ∧ f k < 2)
      · refine .inl ⟨ownTab_bad h1 hbad, ?_⟩
        rcases h2 with ⟨l, n, lf, t1, t2, t3, t4, t5⟩ | ⟨t1, t2, t3⟩
        · rcases hbad with ⟨b1, b2⟩ | ⟨b1, b2⟩
          · unfold tableOf
            rw [tabAt_none f total (k + 1) (tabAt_bad t1 (by omega) (.inl (t4.1 b2))) 8 (by omega)]
          · subst b1
            cases ht : tableOf f total with
            | none => rfl
            | some p =>
              obtain ⟨l', n'⟩ := p
              have hf := tableOf_facts ht
              have := hf.2.2.2.2.2.2 0 (by omega)
              omega
        · unfold tableOf
          rw [tabAt_none f total k t1 8 (by omega)]
      · by_cases hz : f k = 0
        · refine .inr ⟨lens, s, true, ownTab_end h1 hbad hz, hs, ?_⟩
          rcases h2 with ⟨l, n, lf, t1, t2, t3, t4, t5⟩ | ⟨t1, t2, t3⟩
          · have hfa := tabAt_facts f total k l n lf t1
            refine .inl ⟨l ++ [0], n, lf, tabAt_zero t1 hz, ?_, t3, ⟨fun _ => by omega, fun _ => rfl⟩, fun _ => ?_⟩
            · rw [List.take_append_of_le_length (by omega)]; exact t2
            · have : 1 ≤ k := by
                rcases Nat.eq_zero_or_pos k with e0 | e0
                · exact absurd (.inr ⟨e0, by omega⟩) hbad
                · exact e0
              exact t5 this
          · exact .inr ⟨tabAt_none f total k t1 (k + 1) (by omega), t2, by omega⟩
        · refine .inr ⟨lens ++ [f k - 1], s + (f k - 1), false, ownTab_next h1 hbad hz, by simp [hs], ?_⟩
          rcases h2 with ⟨l, n, lf, t1, t2, t3, t4, t5⟩ | ⟨t1, t2, t3⟩
          · have hfa := tabAt_facts f total k l n lf t1
            have hnk : n = k := by
              by_cases hlt : n < k
              · exact absurd (.inl ⟨by omega, t4.2 hlt⟩) hbad
              · omega
            by_cases hlf : lf < f k - 1
            · exact .inr ⟨tabAt_bad t1 hz (.inr hlf), by omega, by omega⟩
            · refine .inl ⟨l ++ [f k - 1], n + 1, lf - (f k - 1), tabAt_next t1 hz (by omega), ?_, by omega, by simp; omega, fun _ => ?_⟩
              · rw [t2, List.take_of_length_le (by omega), List.take_of_length_le (by simp; omega)]
              · refine ⟨by omega, ?_⟩
                rcases Nat.eq_zero_or_pos k with e0 | e0
                · subst e0
                  have : ¬ f 0 < 2 := fun h => hbad (.inr ⟨rfl, h⟩)
                  omega
                · exact (t5 e0).2
          · exact .inr ⟨tabAt_none f total k t1 (k + 1) (by omega), by omega, by omega⟩

/-- What the law's own reading says of the table. -/
theorem own_table (f : Nat → Nat) (total : Nat) :
    (ownTab f 8 = none ∧ tableOf f total = none) ∨
    ∃ lens s e, ownTab f 8 = some (lens, s, e) ∧ lens.sum = s ∧ ((s ≠ total ∧ tableOf f total = none) ∨ (s = total ∧ ∃ l n, tableOf f total = some (l, n) ∧ lens = l.take n)) := by
  rcases own_rel f total 8 (by omega) with h | ⟨lens, s, e, h1, hs, h2⟩
  · exact .inl h
  · refine .inr ⟨lens, s, e, h1, hs, ?_⟩
    rcases h2 with ⟨l, n, lf, t1, t2, t3, t4, t5⟩ | ⟨t1, t2, _⟩
    · have hfa := tabAt_facts f total 8 l n lf t1
      have h5 := t5 (by omega)
      have hl0 := hfa.2.2.2.2.2 0 (by omega)
      by_cases hlf : lf = 0
      · exact .inr ⟨by omega, l, n, by unfold tableOf; rw [t1]; simp only; rw [if_pos ⟨hlf, by omega⟩], t2⟩
      · exact .inl ⟨by omega, by unfold tableOf; rw [t1]; simp only; rw [if_neg (fun h => hlf h.1)]⟩
    · exact .inl ⟨by omega, by unfold tableOf; rw [t1]⟩

end Go.Proofs.Ygcfag
