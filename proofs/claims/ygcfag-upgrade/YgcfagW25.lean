/-
  WALKS: the parts of wire.ResolveWord.
-/
import Derived.Test.YgcfagW24
namespace Go.Proofs.Ygcfag
open Go.RowKit
set_option linter.unusedVariables false
set_option linter.unusedSimpArgs false

theorem take_0_2 (x : Int) (w : World) (hx : 0 ≤ x) (hx2 : x < 18446744073709551616) : Calls Fagg.prog 67 #[.int .u64 x, .int .u8 0, .int .u8 2] w fun e w' => e = .returned (.int .u64 (x % 4)) ∧ w' = w := by
  have h := take_any x 0 2 w hx hx2 (by omega) (by omega)
  have e : x / 2 ^ 0 % 2 ^ 2 = x % 4 := by simp only [Int.pow_zero, Int.ediv_one, Int.reducePow]
  rw [e] at h
  exact h
theorem take_0_3 (x : Int) (w : World) (hx : 0 ≤ x) (hx2 : x < 18446744073709551616) : Calls Fagg.prog 67 #[.int .u64 x, .int .u8 0, .int .u8 3] w fun e w' => e = .returned (.int .u64 (x % 8)) ∧ w' = w := by
  have h := take_any x 0 3 w hx hx2 (by omega) (by omega)
  have e : x / 2 ^ 0 % 2 ^ 3 = x % 8 := by simp only [Int.pow_zero, Int.ediv_one, Int.reducePow]
  rw [e] at h
  exact h
theorem take_2_1 (x : Int) (w : World) (hx : 0 ≤ x) (hx2 : x < 18446744073709551616) : Calls Fagg.prog 67 #[.int .u64 x, .int .u8 2, .int .u8 1] w fun e w' => e = .returned (.int .u64 (x / 4 % 2)) ∧ w' = w := by
  have h := take_any x 2 1 w hx hx2 (by omega) (by omega)
  have e : x / 2 ^ 2 % 2 ^ 1 = x / 4 % 2 := by simp only [Int.pow_zero, Int.ediv_one, Int.reducePow]
  rw [e] at h
  exact h
theorem take_3_29 (x : Int) (w : World) (hx : 0 ≤ x) (hx2 : x < 18446744073709551616) : Calls Fagg.prog 67 #[.int .u64 x, .int .u8 3, .int .u8 29] w fun e w' => e = .returned (.int .u64 (x / 8 % 536870912)) ∧ w' = w := by
  have h := take_any x 3 29 w hx hx2 (by omega) (by omega)
  have e : x / 2 ^ 3 % 2 ^ 29 = x / 8 % 536870912 := by simp only [Int.pow_zero, Int.ediv_one, Int.reducePow]
  rw [e] at h
  exact h
theorem take_32_32 (x : Int) (w : World) (hx : 0 ≤ x) (hx2 : x < 18446744073709551616) : Calls Fagg.prog 67 #[.int .u64 x, .int .u8 32, .int .u8 32] w fun e w' => e = .returned (.int .u64 (x / 4294967296 % 4294967296)) ∧ w' = w := by
  have h := take_any x 32 32 w hx hx2 (by omega) (by omega)
  have e : x / 2 ^ 32 % 2 ^ 32 = x / 4294967296 % 4294967296 := by simp only [Int.pow_zero, Int.ediv_one, Int.reducePow]
  rw [e] at h
  exact h
theorem take_2_30 (x : Int) (w : World) (hx : 0 ≤ x) (hx2 : x < 18446744073709551616) : Calls Fagg.prog 67 #[.int .u64 x, .int .u8 2, .int .u8 30] w fun e w' => e = .returned (.int .u64 (x / 4 % 1073741824)) ∧ w' = w := by
  have h := take_any x 2 30 w hx hx2 (by omega) (by omega)
  have e : x / 2 ^ 2 % 2 ^ 30 = x / 4 % 1073741824 := by simp only [Int.pow_zero, Int.ediv_one, Int.reducePow]
  rw [e] at h
  exact h
theorem take_32_16 (x : Int) (w : World) (hx : 0 ≤ x) (hx2 : x < 18446744073709551616) : Calls Fagg.prog 67 #[.int .u64 x, .int .u8 32, .int .u8 16] w fun e w' => e = .returned (.int .u64 (x / 4294967296 % 65536)) ∧ w' = w := by
  have h := take_any x 32 16 w hx hx2 (by omega) (by omega)
  have e : x / 2 ^ 32 % 2 ^ 16 = x / 4294967296 % 65536 := by simp only [Int.pow_zero, Int.ediv_one, Int.reducePow]
  rw [e] at h
  exact h
theorem take_48_16 (x : Int) (w : World) (hx : 0 ≤ x) (hx2 : x < 18446744073709551616) : Calls Fagg.prog 67 #[.int .u64 x, .int .u8 48, .int .u8 16] w fun e w' => e = .returned (.int .u64 (x / 281474976710656 % 65536)) ∧ w' = w := by
  have h := take_any x 48 16 w hx hx2 (by omega) (by omega)
  have e : x / 2 ^ 48 % 2 ^ 16 = x / 281474976710656 % 65536 := by simp only [Int.pow_zero, Int.ediv_one, Int.reducePow]
  rw [e] at h
  exact h
theorem take_32_3 (x : Int) (w : World) (hx : 0 ≤ x) (hx2 : x < 18446744073709551616) : Calls Fagg.prog 67 #[.int .u64 x, .int .u8 32, .int .u8 3] w fun e w' => e = .returned (.int .u64 (x / 4294967296 % 8)) ∧ w' = w := by
  have h := take_any x 32 3 w hx hx2 (by omega) (by omega)
  have e : x / 2 ^ 32 % 2 ^ 3 = x / 4294967296 % 8 := by simp only [Int.pow_zero, Int.ediv_one, Int.reducePow]
  rw [e] at h
  exact h
theorem take_35_29 (x : Int) (w : World) (hx : 0 ≤ x) (hx2 : x < 18446744073709551616) : Calls Fagg.prog 67 #[.int .u64 x, .int .u8 35, .int .u8 29] w fun e w' => e = .returned (.int .u64 (x / 34359738368 % 536870912)) ∧ w' = w := by
  have h := take_any x 35 29 w hx hx2 (by omega) (by omega)
  have e : x / 2 ^ 35 % 2 ^ 29 = x / 34359738368 % 536870912 := by simp only [Int.pow_zero, Int.ediv_one, Int.reducePow]
  rw [e] at h
  exact h

set_option maxHeartbeats 1000000 in
set_option maxRecDepth 100000 in
theorem sections_any (x : Int) (w : World) (hx : 0 ≤ x) (hx2 : x < 18446744073709551616) :
    Calls Fagg.prog 140 #[.int .u64 x] w fun e w' => e = .returned (if sizedB x then .tuple #[.int .u8 (dataOf x), .int .u8 (ptrsOf x), .bool true] else .tuple #[.int .u8 0, .int .u8 0, .bool false]) ∧ w' = w := by
  have H1 := hide (take_32_16 x w hx hx2)
  have H2 := hide (take_48_16 x w hx hx2)
  have hd := data_bd x
  have hp := ptrs_bd x
  have HS : Hid (sizedB x = decide (dataOf x ≤ 8 ∧ ptrsOf x ≤ 8)) := rfl
  rw [unhide HS]
  unfold dataOf ptrsOf at *
  generalize x / 4294967296 % 65536 = d at *
  generalize x / 281474976710656 % 65536 = p at *
  clear HS
  by_cases h1 : d ≤ 8
  · have e1 : ¬ d > 8 := by omega
    by_cases h2 : p ≤ 8
    · have e2 : ¬ p > 8 := by omega
      simp only [h1, h2, and_self, decide_true, if_true]
      go_enter Fagg.func140, Fagg.ntmps140
      go_wp2_with (go_at_call 67; first | (with_reducible refine (unhide H1).mono ?_; rintro e w1 ⟨rfl, hw1⟩; subst hw1) | (with_reducible refine (unhide H2).mono ?_; rintro e w1 ⟨rfl, hw1⟩; subst hw1))
      go_ret3
      exact ⟨rfl, rfl⟩
    · have e2 : p > 8 := by omega
      simp only [h1, h2, and_false, decide_false, Bool.false_eq_true, if_false]
      go_enter Fagg.func140, Fagg.ntmps140
      go_wp2_with (go_at_call 67; first | (with_reducible refine (unhide H1).mono ?_; rintro e w1 ⟨rfl, hw1⟩; subst hw1) | (with_reducible refine (unhide H2).mono ?_; rintro e w1 ⟨rfl, hw1⟩; subst hw1))
      go_ret3
      exact ⟨rfl, rfl⟩
  · have e1 : d > 8 := by omega
    simp only [h1, false_and, decide_false, Bool.false_eq_true, if_false]
    go_enter Fagg.func140, Fagg.ntmps140
    go_wp2_with (go_at_call 67; first | (with_reducible refine (unhide H1).mono ?_; rintro e w1 ⟨rfl, hw1⟩; subst hw1) | (with_reducible refine (unhide H2).mono ?_; rintro e w1 ⟨rfl, hw1⟩; subst hw1))
    go_ret3
    exact ⟨rfl, rfl⟩

set_option maxHeartbeats 1000000 in
set_option maxRecDepth 100000 in
theorem spans_any (a : Option Addr) (n c : Nat) (low tt k : Int) (w : World) (hn : n ≤ 256) (hlow : 0 ≤ low ∧ low ≤ 1) (hto : -1073741824 ≤ tt ∧ tt ≤ 1073741824) (hk : 0 ≤ k ∧ k ≤ 1073741000) :
    Calls Fagg.prog 141 #[.agg #[.slice a n c, .int .u16 low], .int .i32 tt, .int .i32 k] w fun e w' => e = .returned (.bool (spansB n low tt k)) ∧ Below w.heap.size w w' := by
  have hbel : Below w.heap.size w (w.alloc (Obj.cells #[Value.slice a n c, Value.int IntKind.u16 low] 254)) := (Below.refl _ _).alloc (Nat.le_refl _) _
  by_cases h0 : k = 0
  · have HS := hide (show spansB n low tt k = decide (0 ≤ tt ∧ tt ≤ (n : Int)) by unfold spansB; rw [if_pos h0])
    subst h0
    by_cases h1 : 0 ≤ tt
    · have e1 : tt ≥ 0 := h1
      have HF := hide (show decide (tt ≤ (n : Int)) = spansB n low tt 0 by rw [unhide HS]; simp [h1])
      clear HS
      go_enter Fagg.func141, Fagg.ntmps141
      go_wp2
      go_ret
      exact ⟨by rw [← unhide HF]; rfl, hbel⟩
    · have e1 : ¬ tt ≥ 0 := h1
      have HF := hide (show spansB n low tt 0 = false by rw [unhide HS]; simp [h1])
      clear HS
      go_enter Fagg.func141, Fagg.ntmps141
      go_wp2
      go_ret
      exact ⟨by rw [unhide HF]; rfl, hbel⟩
  · have e0 : (k == 0) = false := by simp [h0]
    have HS := hide (show spansB n low tt k = decide (low ≤ tt ∧ tt + k ≤ (n : Int)) by unfold spansB; rw [if_neg h0])
    by_cases h1 : low ≤ tt
    · have e1 : tt ≥ low := h1
      have HF := hide (show decide (tt + k ≤ (n : Int)) = spansB n low tt k by rw [unhide HS]; simp [h1])
      clear HS
      go_enter Fagg.func141, Fagg.ntmps141
      go_wp2
      go_ret
      exact ⟨by rw [← unhide HF]; rfl, hbel⟩
    · have e1 : ¬ tt ≥ low := h1
      have HF := hide (show spansB n low tt k = false by rw [unhide HS]; simp [h1])
      clear HS
      go_enter Fagg.func141, Fagg.ntmps141
      go_wp2
      go_ret
      exact ⟨by rw [unhide HF]; rfl, hbel⟩
end Go.Proofs.Ygcfag
