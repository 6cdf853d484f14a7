/-
  PLAIN: a mask of bits; a set of places held in words.
-/
import Derived.Test.YgcfagPlain14
namespace Go.Proofs.Ygcfag
set_option linter.unusedVariables false
set_option linter.unusedSimpArgs false

/-- 'run' bits from 'sh' on. -/
def maskN (run sh : Nat) : Nat := (2 ^ 64 - 1) / 2 ^ (64 - run) * 2 ^ sh % 2 ^ 64

theorem maskN_lt (run sh : Nat) : maskN run sh < 18446744073709551616 := by
  unfold maskN
  exact Nat.mod_lt _ (by decide)

theorem maskN_bit (run sh j : Nat) (hr : run + sh ≤ 64) (hj : j < 64) : (maskN run sh).testBit j = decide (sh ≤ j ∧ j < sh + run) := by
  unfold maskN
  rw [Nat.testBit_mod_two_pow, ← Nat.shiftLeft_eq, ← Nat.shiftRight_eq_div_pow, Nat.testBit_shiftLeft, Nat.testBit_shiftRight, Nat.testBit_two_pow_sub_one]
  by_cases h1 : sh ≤ j
  · by_cases h2 : j < sh + run
    · simp [hj, h1, h2]; omega
    · simp [hj, h1, h2]; omega
  · simp [h1]

/-- No place from lo to hi is in the set. -/
def freeB (S : Nat → Bool) (lo hi : Nat) : Bool := decide (∀ i, i < hi → lo ≤ i → S i = false)
/-- The places from lo to hi besides. -/
def with_ (S : Nat → Bool) (lo hi : Nat) : Nat → Bool := fun i => S i || decide (lo ≤ i ∧ i < hi)

theorem freeB_same (S : Nat → Bool) (lo : Nat) : freeB S lo lo = true := by
  unfold freeB
  exact decide_eq_true (fun i h1 h2 => by omega)

/-- The word v holds the places from 64 k on. -/
def Holds (S : Nat → Bool) (k v : Nat) : Prop := v < 18446744073709551616 ∧ ∀ j, j < 64 → v.testBit j = S (64 * k + j)

theorem and_free {S : Nat → Bool} {k v run sh : Nat} (h : Holds S k v) (hr : run + sh ≤ 64) : (v &&& maskN run sh = 0) ↔ freeB S (64 * k + sh) (64 * k + sh + run) = true := by
  unfold freeB
  rw [decide_eq_true_iff]
  constructor
  · intro hz i h1 h2
    have hj : i - 64 * k < 64 := by omega
    have hb := h.2 (i - 64 * k) hj
    rw [show 64 * k + (i - 64 * k) = i by omega] at hb
    have hm := maskN_bit run sh (i - 64 * k) hr hj
    have ht : (v &&& maskN run sh).testBit (i - 64 * k) = false := by rw [hz]; simp
    rw [Nat.testBit_and, hb, hm] at ht
    have hd : decide (sh ≤ i - 64 * k ∧ i - 64 * k < sh + run) = true := by simp; omega
    rw [hd] at ht
    simpa using ht
  · intro hf
    apply Nat.eq_of_testBit_eq
    intro j
    rw [Nat.testBit_and, Nat.zero_testBit]
    by_cases hj : j < 64
    · rw [h.2 j hj, maskN_bit run sh j hr hj]
      by_cases hd : sh ≤ j ∧ j < sh + run
      · rw [hf (64 * k + j) (by omega) (by omega)]; simp
      · simp [hd]
    · have : v.testBit j = false := Nat.testBit_lt_two_pow (Nat.lt_of_lt_of_le h.1 (by
        have : 2 ^ 64 ≤ 2 ^ j := Nat.pow_le_pow_right (by omega) (by omega)
        omega))
      simp [this]

theorem or_holds {S : Nat → Bool} {k v run sh : Nat} (h : Holds S k v) (hr : run + sh ≤ 64) : Holds (with_ S (64 * k + sh) (64 * k + sh + run)) k (v ||| maskN run sh) := by
  refine ⟨?_, fun j hj => ?_⟩
  · have h1 := h.1
    have h2 := maskN_lt run sh
    have := Nat.or_lt_two_pow (x := v) (y := maskN run sh) (n := 64) (by omega) (by omega)
    omega
  · rw [Nat.testBit_or, h.2 j hj, maskN_bit run sh j hr hj]
    unfold with_
    congr 1
    exact decide_eq_decide.2 (by omega)

theorem holds_other {S : Nat → Bool} {k v lo hi : Nat} (h : Holds S k v) (hd : hi ≤ 64 * k ∨ 64 * k + 64 ≤ lo) : Holds (with_ S lo hi) k v := by
  refine ⟨h.1, fun j hj => ?_⟩
  rw [h.2 j hj]
  unfold with_
  have : decide (lo ≤ 64 * k + j ∧ 64 * k + j < hi) = false := by simp; omega
  rw [this]; simp

theorem with_with (S : Nat → Bool) (lo mid hi : Nat) (h1 : lo ≤ mid) (h2 : mid ≤ hi) : with_ (with_ S lo mid) mid hi = with_ S lo hi := by
  funext i
  unfold with_
  rw [Bool.or_assoc]
  congr 1
  by_cases a : lo ≤ i ∧ i < mid
  · simp [a]; omega
  · by_cases b : mid ≤ i ∧ i < hi
    · simp [b]; omega
    · simp [a, b]; omega

theorem with_self (S : Nat → Bool) (lo : Nat) : with_ S lo lo = S := by
  funext i; unfold with_
  have : decide (lo ≤ i ∧ i < lo) = false := decide_eq_false (by omega)
  rw [this]; simp

theorem free_with (S : Nat → Bool) (lo mid hi : Nat) (h1 : lo ≤ mid) (h2 : mid ≤ hi) : (freeB S lo mid && freeB (with_ S lo mid) mid hi) = freeB S lo hi := by
  unfold freeB
  rw [← Bool.decide_and]
  apply decide_eq_decide.2
  constructor
  · rintro ⟨h3, h4⟩ i hi1 hi2
    by_cases hm : i < mid
    · exact h3 i hm hi2
    · have := h4 i hi1 (by omega)
      unfold with_ at this
      simp at this
      exact this.1
  · intro h3
    refine ⟨fun i hi1 hi2 => h3 i (by omega) hi2, fun i hi1 hi2 => ?_⟩
    unfold with_
    have : decide (lo ≤ i ∧ i < mid) = false := by simp; omega
    rw [this, h3 i hi1 (by omega)]; rfl
end Go.Proofs.Ygcfag
