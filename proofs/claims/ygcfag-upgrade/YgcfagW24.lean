/-
  WALKS: bit fields.
-/
import Derived.Test.YgcfagW15
import Derived.Test.YgcfagPlain12
import Derived.Laws.BitsLemmas
namespace Go.Proofs.Ygcfag
open Go.RowKit
set_option linter.unusedVariables false
set_option linter.unusedSimpArgs false

theorem pow_bd (n : Nat) (h : n ≤ 63) : 1 ≤ (2 : Int) ^ n ∧ (2 : Int) ^ n ≤ 9223372036854775808 := by
  have h1 : 2 ^ n ≤ 2 ^ 63 := Nat.pow_le_pow_right (by omega) h
  have h2 : 0 < 2 ^ n := Nat.two_pow_pos n
  have e : (2 : Int) ^ n = ((2 ^ n : Nat) : Int) := by simp
  rw [e]; omega

theorem u64_wrap (n : Int) (h0 : 0 ≤ n) (h1 : n < 18446744073709551616) : IntKind.u64.wrap n = n := by
  simp [IntKind.wrap, IntKind.bits, IntKind.signed]; omega

theorem and_mask (x : Int) (n : Nat) (h0 : 0 ≤ x) (h1 : x < 18446744073709551616) (hn : n ≤ 64) : bits .and .u64 x (2 ^ n - 1) = x % 2 ^ n :=
  bits_mask .u64 64 (by decide) (fun n h0 h1 => u64_wrap n h0 (by simpa using h1)) n hn x h0 (by simpa using h1)

set_option maxHeartbeats 1000000 in
theorem mask_any (n : Nat) (w : World) (hn : n ≤ 63) :
    Calls Fagg.prog 138 #[.int .u8 (n : Int)] w fun e w' => e = .returned (.int .u64 (2 ^ n - 1)) ∧ w' = w := by
  have hp := pow_bd n hn
  go_enter Fagg.func138, Fagg.ntmps138
  go_wp2
  go_ret
  exact ⟨rfl, rfl⟩

set_option maxHeartbeats 1000000 in
theorem fits2_any (a n : Nat) (w : World) (hn : a + n ≤ 64) :
    Calls Fagg.prog 137 #[.int .u8 (a : Int), .int .u8 (n : Int)] w fun e w' => e = .returned (.bool true) ∧ w' = w := by
  have e1 : (a : Int) + (n : Int) ≤ 64 := by omega
  go_enter Fagg.func137, Fagg.ntmps137
  go_wp2
  go_ret
  exact ⟨by simp, rfl⟩

set_option maxHeartbeats 1000000 in
theorem take_any (x : Int) (a n : Nat) (w : World) (hx : 0 ≤ x) (hx2 : x < 18446744073709551616) (hn : a + n ≤ 64) (hn2 : n ≤ 63) :
    Calls Fagg.prog 67 #[.int .u64 x, .int .u8 (a : Int), .int .u8 (n : Int)] w fun e w' => e = .returned (.int .u64 (x / 2 ^ a % 2 ^ n)) ∧ w' = w := by
  have H1 := hide (fits2_any a n w hn)
  have H2 := hide (mask_any n w hn2)
  have h0 : 0 ≤ x / 2 ^ a := Int.ediv_nonneg hx (Int.le_of_lt (Int.pow_pos (by omega)))
  have h1 : x / 2 ^ a ≤ x := Int.ediv_le_self _ hx
  have HA := hide (and_mask (x / 2 ^ a) n h0 (by omega) (by omega))
  go_enter Fagg.func67, Fagg.ntmps67
  go_wp2_with (first | (go_at_call 137; refine (unhide H1).mono ?_; rintro e w1 ⟨rfl, hw1⟩; subst hw1) | (go_at_call 138; refine (unhide H2).mono ?_; rintro e w1 ⟨rfl, hw1⟩; subst hw1))
  go_ret
  exact ⟨ret_int (unhide HA), rfl⟩

theorem nat_xor29 (y : Nat) (h1 : y < 1073741824) : y ^^^ 536870912 = if y < 536870912 then y + 536870912 else y - 536870912 := by
  have hm : (y ^^^ 2 ^ 29) % 2 ^ 29 = y % 2 ^ 29 ^^^ 2 ^ 29 % 2 ^ 29 := Nat.xor_mod_two_pow
  have hd : (y ^^^ 2 ^ 29) / 2 ^ 29 = y / 2 ^ 29 ^^^ 2 ^ 29 / 2 ^ 29 := Nat.xor_div_two_pow
  simp only [Nat.reducePow, Nat.reduceMod, Nat.reduceDiv, Nat.xor_zero] at hm hd
  split
  · rw [show y / 536870912 = 0 by omega] at hd
    simp at hd
    omega
  · rw [show y / 536870912 = 1 by omega] at hd
    simp at hd
    omega

theorem xor29 (y : Int) (h0 : 0 ≤ y) (h1 : y < 1073741824) : bits .xor .u64 y 536870912 = if y < 536870912 then y + 536870912 else y - 536870912 := by
  obtain ⟨a, rfl⟩ := Int.eq_ofNat_of_zero_le h0
  have h := nat_xor29 a (by omega)
  have e : bits .xor .u64 (a : Int) 536870912 = ((a ^^^ 536870912 : Nat) : Int) := by
    show IntKind.u64.wrap ((BitVec.ofInt 64 (a : Int) ^^^ BitVec.ofInt 64 ((536870912 : Nat) : Int)).toNat : Int) = _
    rw [BitVec.toNat_xor, ofInt_u64 a (by omega), ofInt_u64 536870912 (by omega), u64_wrap _ (by omega) (by rw [h]; split <;> omega)]
  rw [e, h]
  split <;> split <;> omega

theorem sign_fin (x : Int) : wrap64 (IntKind.u64.wrap ((if x % 1073741824 < 536870912 then x % 1073741824 + 536870912 else x % 1073741824 - 536870912) - 536870912)) = sgn30 x := by
  unfold sgn30
  split
  · rw [u64_wrap _ (by omega) (by omega)]
    simp [wrap64, IntKind.wrap, IntKind.bits, IntKind.signed]
    omega
  · simp [wrap64, IntKind.wrap, IntKind.bits, IntKind.signed]
    omega

set_option maxHeartbeats 1000000 in
theorem sign_any (x : Int) (w : World) (hx : 0 ≤ x) (hx2 : x < 18446744073709551616) :
    Calls Fagg.prog 139 #[.int .u64 x, .int .u8 30] w fun e w' => e = .returned (.int .i64 (sgn30 x)) ∧ w' = w := by
  have H2 := hide (mask_any 30 w (by omega))
  have HA := hide (and_mask x 30 hx hx2 (by omega))
  go_enter Fagg.func139, Fagg.ntmps139
  go_wp2_with (go_at_call 138; refine (unhide H2).mono ?_; rintro e w1 ⟨rfl, hw1⟩; subst hw1)
  go_ret
  refine ⟨ret_int ?_, rfl⟩
  have h := unhide HA
  simp only [Int.reducePow, Int.reduceSub] at h
  rw [h, xor29 _ (by omega) (by omega), sign_fin]

set_option maxHeartbeats 1000000 in
theorem low_s (s : Int) (w : World) (hx : 0 ≤ s) (hx2 : s < 256) :
    Calls Fagg.prog 69 #[.int .u8 s] w fun e w' => e = .returned (.int .u16 (if s = 0 then 1 else 0)) ∧ w' = w := by
  by_cases h : s = 0
  · subst h
    go_enter Fagg.func69, Fagg.ntmps69
    go_wp2
    go_ret
    exact ⟨rfl, rfl⟩
  · have e1 : (s == 0) = false := by simp [h]
    rw [if_neg h]
    go_enter Fagg.func69, Fagg.ntmps69
    go_wp2
    go_ret
    exact ⟨rfl, rfl⟩

set_option maxHeartbeats 1000000 in
theorem lowOf_s (s : Int) (w : World) (hx : 0 ≤ s) (hx2 : s < 256) :
    Calls Fagg.prog 73 #[.int .i64 s] w fun e w' => e = .returned (.int .i64 (if s = 0 then 1 else 0)) ∧ w' = w := by
  by_cases h : s = 0
  · subst h
    go_enter Fagg.func73, Fagg.ntmps73
    go_wp2
    go_ret
    exact ⟨rfl, rfl⟩
  · have e1 : (s == 0) = false := by simp [h]
    rw [if_neg h]
    go_enter Fagg.func73, Fagg.ntmps73
    go_wp2
    go_ret
    exact ⟨rfl, rfl⟩
end Go.Proofs.Ygcfag
