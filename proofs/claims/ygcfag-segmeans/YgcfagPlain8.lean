/-
  PLAIN: a turned byte turns the sum; a frame with a turned byte does not open.
-/
import Derived.Test.YgcfagPlain7
namespace Go.Proofs.Ygcfag
set_option linter.unusedVariables false
set_option linter.unusedSimpArgs false

theorem mul_back (z : Int) (hz : 0 ≤ z ∧ z < 4294967296) : z * 16777619 % 4294967296 * 899433627 % 4294967296 = z := by
  have h1 := Int.emod_add_mul_ediv (z * 16777619) 4294967296
  have h2 : z * 16777619 % 4294967296 * 899433627 = z + 4294967296 * (z * 3513497 - z * 16777619 / 4294967296 * 899433627) := by omega
  rw [h2, Int.add_mul_emod_self_left]
  exact Int.emod_eq_of_lt hz.1 hz.2
theorem mul_inj (x y : Int) (hx : 0 ≤ x ∧ x < 4294967296) (hy : 0 ≤ y ∧ y < 4294967296) (h : x * 16777619 % 4294967296 = y * 16777619 % 4294967296) : x = y := by
  rw [← mul_back x hx, ← mul_back y hy, h]

theorem xor_bd (h c : Int) (h0 : 0 ≤ h ∧ h < 4294967296) (hc : 0 ≤ c ∧ c < 256) : 0 ≤ ((h.toNat ^^^ c.toNat : Nat) : Int) ∧ ((h.toNat ^^^ c.toNat : Nat) : Int) < 4294967296 := by
  have := Nat.xor_lt_two_pow (x := h.toNat) (y := c.toNat) (n := 32) (by omega) (by omega)
  omega

theorem xor_inj_l (a b c : Nat) (h : a ^^^ c = b ^^^ c) : a = b := by
  have := congrArg (· ^^^ c) h
  simpa [Nat.xor_assoc] using this

theorem xor_inj_r (a b c : Nat) (h : c ^^^ a = c ^^^ b) : a = b := xor_inj_l a b c (by rw [Nat.xor_comm a, Nat.xor_comm b]; exact h)

theorem fnv_inj_l (h h' c : Int) (h0 : 0 ≤ h ∧ h < 4294967296) (h1 : 0 ≤ h' ∧ h' < 4294967296) (hc : 0 ≤ c ∧ c < 256) (he : fnv h c = fnv h' c) : h = h' := by
  have := mul_inj _ _ (xor_bd h c h0 hc) (xor_bd h' c h1 hc) he
  have := xor_inj_l h.toNat h'.toNat c.toNat (by omega)
  omega

theorem fnv_inj_r (h c c' : Int) (h0 : 0 ≤ h ∧ h < 4294967296) (hc : 0 ≤ c ∧ c < 256) (hc' : 0 ≤ c' ∧ c' < 256) (he : fnv h c = fnv h c') : c = c' := by
  have := mul_inj _ _ (xor_bd h c h0 hc) (xor_bd h c' h0 hc') he
  have := xor_inj_r c.toNat c'.toNat h.toNat (by omega)
  omega

theorem fnv_bd (h c : Int) : 0 ≤ fnv h c ∧ fnv h c < 4294967296 := by unfold fnv; omega

theorem sumOn_inj : ∀ (xs : List Int) (h h' : Int), Bys xs → (0 ≤ h ∧ h < 4294967296) → (0 ≤ h' ∧ h' < 4294967296) → sumOn h xs = sumOn h' xs → h = h'
  | [], h, h', _, _, _, e => e
  | x :: xs, h, h', hx, h0, h1, e => by
    have hc := hx.cons
    exact fnv_inj_l h h' x h0 h1 hc.1 (sumOn_inj xs _ _ hc.2 (fnv_bd _ _) (fnv_bd _ _) e)

theorem sumOn_set : ∀ (xs : List Int) (h : Int) (i : Nat) (y : Int), Bys xs → (0 ≤ h ∧ h < 4294967296) → i < xs.length → 0 ≤ y ∧ y < 256 → y ≠ xs.getD i 0 → sumOn h (xs.set i y) ≠ sumOn h xs
  | [], h, i, y, _, _, hi, _, _ => by simp at hi
  | x :: xs, h, 0, y, hx, h0, hi, hy, hne => by
    intro e
    have hc := hx.cons
    exact hne (fnv_inj_r h y x h0 hy hc.1 (sumOn_inj xs _ _ hc.2 (fnv_bd _ _) (fnv_bd _ _) e))
  | x :: xs, h, i + 1, y, hx, h0, hi, hy, hne => by
    exact sumOn_set xs (fnv h x) i y hx.cons.2 (fnv_bd _ _) (by simpa using hi) hy (by simpa using hne)

theorem le_set : ∀ (xs : List Int) (i : Nat) (y : Int), i < xs.length → y ≠ xs.getD i 0 → le (xs.set i y) ≠ le xs
  | [], i, y, hi, _ => by simp at hi
  | x :: xs, 0, y, hi, hne => by
    have : y ≠ x := by simpa using hne
    simp only [List.set_cons_zero, le]; omega
  | x :: xs, i + 1, y, hi, hne => by
    have := le_set xs i y (by simpa using hi) (by simpa using hne)
    simp only [List.set_cons_succ, le]; omega

theorem set_take_lt (xs : List Int) (i k : Nat) (y : Int) (h : i < k) : (xs.set i y).take k = (xs.take k).set i y := by
  rw [List.take_set]
theorem set_drop_ge (xs : List Int) (i k : Nat) (y : Int) (h : k ≤ i) : (xs.set i y).drop k = (xs.drop k).set (i - k) y := by
  rw [List.drop_set, if_neg (by omega)]
theorem set_take_ge (xs : List Int) (i k : Nat) (y : Int) (h : k ≤ i) : (xs.set i y).take k = xs.take k := by
  rw [List.take_set_of_le h]
theorem set_drop_lt (xs : List Int) (i k : Nat) (y : Int) (h : i < k) : (xs.set i y).drop k = xs.drop k := by
  rw [List.drop_set, if_pos h]
theorem getD_take' (xs : List Int) (i k : Nat) (h : i < k) : (xs.take k).getD i 0 = xs.getD i 0 := by
  simp [List.getD, h]
theorem getD_drop' (xs : List Int) (i k : Nat) (h : k ≤ i) : (xs.drop k).getD (i - k) 0 = xs.getD i 0 := by
  simp [List.getD, show k + (i - k) = i by omega]

/-- A frame whose sum is right, a byte of it turned: it does not open. -/
theorem open_turned (xs : List Int) (i : Nat) (y : Int) (hx : Bys xs) (h32 : 32 ≤ xs.length) (hs : sumOn (sumOn 2166136261 (xs.take 12)) (xs.drop 16) = num xs 12 4) (hi : i < xs.length) (hy : 0 ≤ y ∧ y < 256) (hne : y ≠ xs.getD i 0) :
    (openOf (xs.set i y)).1 ≠ 0 := by
  have key : sumOn (sumOn 2166136261 ((xs.set i y).take 12)) ((xs.set i y).drop 16) ≠ num (xs.set i y) 12 4 := by
    have hb := sumOn_bd 2166136261 (xs.take 12) (by omega) (by omega)
    by_cases h1 : i < 12
    · rw [set_drop_lt _ _ _ _ (by omega), show num (xs.set i y) 12 4 = num xs 12 4 by unfold num; rw [set_drop_lt _ _ _ _ h1], ← hs, set_take_lt _ _ _ _ h1]
      intro e
      have h2 := sumOn_set (xs.take 12) 2166136261 i y (hx.take 12) (by omega) (by simp; omega) hy (by rw [getD_take' _ _ _ h1]; exact hne)
      exact h2 (sumOn_inj (xs.drop 16) _ _ (hx.drop 16) (sumOn_bd _ _ (by omega) (by omega)) hb e)
    · rw [set_take_ge _ _ _ _ (by omega)]
      by_cases h2 : i < 16
      · rw [set_drop_lt _ _ _ _ h2, hs]
        unfold num
        rw [set_drop_ge _ _ _ _ (by omega), set_take_lt _ _ _ _ (by omega)]
        refine Ne.symm (le_set _ _ _ (by simp; omega) ?_)
        rw [getD_take' _ _ _ (by omega), getD_drop' _ _ _ (by omega)]; exact hne
      · rw [set_drop_ge _ _ _ _ (by omega), show num (xs.set i y) 12 4 = num xs 12 4 by unfold num; rw [set_drop_ge _ _ _ _ (by omega), set_take_ge _ _ _ _ (by omega)], ← hs]
        exact sumOn_set (xs.drop 16) _ (i - 16) y (hx.drop 16) hb (by simp; omega) hy (by rw [getD_drop' _ _ _ (by omega)]; exact hne)
  unfold openOf
  rw [if_neg (by simp; omega)]
  repeat' split
  all_goals first | (simp; done) | exact absurd ‹_› (by simpa using key)
end Go.Proofs.Ygcfag
