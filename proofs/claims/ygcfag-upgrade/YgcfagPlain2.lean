/-
  PLAIN: facts on one step of unpacking.
-/
import Derived.Test.YgcfagPlain
namespace Go.Proofs.Ygcfag
set_option linter.unusedVariables false
set_option linter.unusedSimpArgs false

theorem headOf_none {s : List Int} {t : Nat} (ht : s.getD 0 0 = (t : Int)) (h : t = 0 ∨ t = 255) (hl : s.length ≤ 1 + popc t) : headOf s = none := by
  unfold headOf; rw [ht, Int.toNat_natCast, if_pos h, if_pos hl]

theorem headOf_some {s : List Int} {t m : Nat} (ht : s.getD 0 0 = (t : Int)) (h : t = 0 ∨ t = 255) (hl : ¬ s.length ≤ 1 + popc t) (hm : s.getD (1 + popc t) 0 = (m : Int)) :
    headOf s = some (1 + popc t + 1, m, if t = 255 then 8 * m else 0) := by
  unfold headOf; rw [ht, Int.toNat_natCast, if_pos h, if_neg hl, hm, Int.toNat_natCast]

theorem headOf_plain {s : List Int} {t : Nat} (ht : s.getD 0 0 = (t : Int)) (h : ¬ (t = 0 ∨ t = 255)) : headOf s = some (1 + popc t, 0, 0) := by
  unfold headOf; rw [ht, Int.toNat_natCast, if_neg h]

theorem stepOf_none {s out : List Int} (h : headOf s = none) : stepOf s out = none := by unfold stepOf; rw [h]

theorem stepOf_out {s out : List Int} {K M V : Nat} (h : headOf s = some (K, M, V)) (hb : s.length < K + V ∨ 256 < out.length + 1 + M) : stepOf s out = none := by
  unfold stepOf; rw [h]; simp only; rw [if_pos hb]

theorem stepOf_some {s out : List Int} {K M V t : Nat} (h : headOf s = some (K, M, V)) (hb : ¬ (s.length < K + V ∨ 256 < out.length + 1 + M)) (ht : s.getD 0 0 = (t : Int)) :
    stepOf s out = some (K + V, out ++ part t s.tail 8 :: (List.range M).map (moreWord s K V)) := by
  unfold stepOf; rw [h]; simp only; rw [if_neg hb, ht, Int.toNat_natCast]

theorem tag_round : ∀ t : Fin 256, ∀ p : Fin 9, t.val / 2 ^ p.val * 2 ^ p.val ≠ 0 →
    (p.val ≤ low8 (t.val / 2 ^ p.val * 2 ^ p.val) ∧ low8 (t.val / 2 ^ p.val * 2 ^ p.val) < 8) ∧
    (t.val / 2 ^ p.val * 2 ^ p.val) &&& (t.val / 2 ^ p.val * 2 ^ p.val - 1) = t.val / 2 ^ (low8 (t.val / 2 ^ p.val * 2 ^ p.val) + 1) * 2 ^ (low8 (t.val / 2 ^ p.val * 2 ^ p.val) + 1) ∧
    popc (t.val % 2 ^ (low8 (t.val / 2 ^ p.val * 2 ^ p.val) + 1)) = popc (t.val % 2 ^ p.val) + 1 ∧ popc (t.val % 2 ^ p.val) < popc t.val ∧
    popc (t.val % 2 ^ low8 (t.val / 2 ^ p.val * 2 ^ p.val)) = popc (t.val % 2 ^ p.val) ∧ t.val / 2 ^ low8 (t.val / 2 ^ p.val * 2 ^ p.val) % 2 = 1 := by decide +kernel

theorem tag_gap : ∀ t : Fin 256, ∀ p : Fin 9, ∀ j : Fin 9, p.val ≤ j.val → j.val < low8 (t.val / 2 ^ p.val * 2 ^ p.val) → t.val / 2 ^ j.val % 2 ≠ 1 := by decide +kernel

theorem tag_end : ∀ t : Fin 256, popc (t.val % 2 ^ 8) = popc t.val := by decide +kernel

theorem part_skip (t : Nat) (bs : List Int) (p : Nat) : ∀ q, p ≤ q → (∀ j, p ≤ j → j < q → t / 2 ^ j % 2 ≠ 1) → part t bs q = part t bs p
  | 0, h, _ => by obtain rfl : p = 0 := by omega
                  rfl
  | q + 1, h, hz => by
    by_cases e : p = q + 1
    · rw [e]
    · rw [part, if_neg (hz q (by omega) (by omega)), part_skip t bs p q (by omega) (fun j h1 h2 => hz j h1 (by omega))]; omega

theorem part_bd (t : Nat) (bs : List Int) (h : Bys bs) : ∀ p, 0 ≤ part t bs p ∧ part t bs p < 256 ^ p
  | 0 => by simp [part]
  | p + 1 => by
    have ih := part_bd t bs h p
    have hb := h (popc (t % 2 ^ p))
    have hpos : (0 : Int) < 256 ^ p := Int.pow_pos (by omega)
    have h1 := Int.mul_nonneg hb.1 (Int.le_of_lt hpos)
    have h2 := Int.mul_le_mul_of_nonneg_right (show bs.getD (popc (t % 2 ^ p)) 0 ≤ 255 by omega) (Int.le_of_lt hpos)
    rw [part, Int.pow_succ]
    split <;> omega

/-- One round of gathering a word: what the next bit that is set brings. -/
theorem gather_round (t p : Nat) (bs : List Int) (ht : t < 256) (hp : p ≤ 8) (hr : t / 2 ^ p * 2 ^ p ≠ 0) :
    let l := low8 (t / 2 ^ p * 2 ^ p)
    p ≤ l ∧ l < 8 ∧ (t / 2 ^ p * 2 ^ p) &&& (t / 2 ^ p * 2 ^ p - 1) = t / 2 ^ (l + 1) * 2 ^ (l + 1) ∧ popc (t % 2 ^ (l + 1)) = popc (t % 2 ^ p) + 1 ∧ popc (t % 2 ^ p) < popc t ∧
    part t bs (l + 1) = part t bs p + bs.getD (popc (t % 2 ^ p)) 0 * 256 ^ l ∧ part t bs l = part t bs p := by
  have h := tag_round ⟨t, ht⟩ ⟨p, by omega⟩ hr
  have hs : part t bs (low8 (t / 2 ^ p * 2 ^ p)) = part t bs p := part_skip t bs p _ h.1.1 (fun j h1 h2 => tag_gap ⟨t, ht⟩ ⟨p, by omega⟩ ⟨j, by have := h.1.2; simp at this; omega⟩ h1 h2)
  refine ⟨h.1.1, h.1.2, h.2.1, h.2.2.1, h.2.2.2.1, ?_, hs⟩
  rw [part, hs, if_pos h.2.2.2.2.2]
  have := h.2.2.2.2.1
  simp only at this
  rw [this]

theorem gather_end (t p : Nat) (bs : List Int) (ht : t < 256) (hp : p ≤ 8) (hr : t / 2 ^ p * 2 ^ p = 0) : part t bs p = part t bs 8 := by
  refine (part_skip t bs p 8 hp fun j h1 h2 => ?_).symm
  have h0 : t / 2 ^ p = 0 := by
    rcases Nat.mul_eq_zero.1 hr with h | h
    · exact h
    · exact absurd h (by have := Nat.two_pow_pos p; omega)
  have h3 : t < 2 ^ p := (Nat.div_eq_zero_iff_lt (Nat.two_pow_pos p)).1 h0
  have h4 : 2 ^ p ≤ 2 ^ j := Nat.pow_le_pow_right (by omega) h1
  rw [Nat.div_eq_of_lt (by omega)]
  omega

/-- Step upon step. -/
def unpackAt : Nat → List Int → List Int → Option (List Int)
  | 0, s, out => if s = [] then some out else none
  | f + 1, s, out => if s = [] then some out else
    match stepOf s out with
    | none => none
    | some (k, out') => unpackAt f (s.drop k) out'

def unpack (xs : List Int) : Option (List Int) := if 4096 < xs.length then none else unpackAt xs.length xs []

theorem headOf_bd {s : List Int} {K M V : Nat} (h : headOf s = some (K, M, V)) : 1 ≤ K := by
  unfold headOf at h
  split at h
  · split at h
    · cases h
    · simp at h; omega
  · simp at h; omega

theorem stepOf_bd {s out out' : List Int} {k : Nat} (h : stepOf s out = some (k, out')) : 1 ≤ k ∧ k ≤ s.length ∧ out'.length ≤ 256 ∧ out.length + 1 ≤ out'.length := by
  unfold stepOf at h
  split at h
  · cases h
  · rename_i K M V hh
    split at h
    · cases h
    · have := headOf_bd hh
      simp at h
      obtain ⟨rfl, rfl⟩ := h
      simp
      omega

theorem unpackAt_fuel : ∀ (f : Nat) (s out : List Int), s.length ≤ f → unpackAt f s out = unpackAt s.length s out
  | 0, s, out, h => by
    have : s = [] := List.eq_nil_of_length_eq_zero (by omega)
    subst this; rfl
  | f + 1, [], out, h => by simp [unpackAt]
  | f + 1, x :: s, out, h => by
    have e : (x :: s).length = s.length + 1 := rfl
    rw [e, unpackAt, unpackAt]
    simp only [reduceCtorEq, if_false]
    cases hs : stepOf (x :: s) out with
    | none => rfl
    | some p =>
      obtain ⟨k, out'⟩ := p
      simp only
      have := stepOf_bd hs
      have hl : ((x :: s).drop k).length = s.length + 1 - k := by simp
      simp at h
      rw [unpackAt_fuel f ((x :: s).drop k) out' (by omega), unpackAt_fuel s.length ((x :: s).drop k) out' (by omega)]

theorem unpackAt_step {s out out' : List Int} {k : Nat} (h : stepOf s out = some (k, out')) : unpackAt s.length s out = unpackAt (s.drop k).length (s.drop k) out' := by
  have hb := stepOf_bd h
  cases s with
  | nil => simp at hb; omega
  | cons x s =>
    have e : (x :: s).length = s.length + 1 := rfl
    rw [e, unpackAt]
    simp only [reduceCtorEq, if_false, h]
    exact unpackAt_fuel _ _ _ (by simp; omega)

theorem unpackAt_fail {s out : List Int} (hs : s ≠ []) (h : stepOf s out = none) : unpackAt s.length s out = none := by
  cases s with
  | nil => exact absurd rfl hs
  | cons x s =>
    have e : (x :: s).length = s.length + 1 := rfl
    rw [e, unpackAt]
    simp only [reduceCtorEq, if_false, h]

end Go.Proofs.Ygcfag
