/-
  WALKS: bitsx.Put.
-/
import Derived.Test.YgcfagW57
namespace Go.Proofs.Ygcfag
open Go.RowKit
set_option linter.unusedVariables false
set_option linter.unusedSimpArgs false

/-- w with the n bits from bit 'a' on replaced by the low n bits of v. -/
def putN (w v a n : Nat) : Nat := ((BitVec.ofNat 64 w &&& ~~~(BitVec.ofNat 64 ((2 ^ n - 1) * 2 ^ a))) ||| BitVec.ofNat 64 (v % 2 ^ n * 2 ^ a)).toNat

theorem putN_lt (w v a n : Nat) : putN w v a n < 18446744073709551616 := by
  unfold putN
  exact BitVec.isLt _

theorem putN_bit (w v a n j : Nat) (han : a + n ≤ 64) (hj : j < 64) : (putN w v a n).testBit j = if a ≤ j ∧ j < a + n then v.testBit (j - a) else w.testBit j := by
  unfold putN
  rw [BitVec.testBit_toNat, BitVec.getLsbD_or, BitVec.getLsbD_and, BitVec.getLsbD_not, BitVec.getLsbD_ofNat, BitVec.getLsbD_ofNat, BitVec.getLsbD_ofNat, ← Nat.shiftLeft_eq, ← Nat.shiftLeft_eq, Nat.testBit_shiftLeft, Nat.testBit_shiftLeft, Nat.testBit_two_pow_sub_one, Nat.testBit_mod_two_pow]
  by_cases h1 : a ≤ j
  · by_cases h2 : j < a + n
    · have h3 : j - a < n := by omega
      simp [hj, h1, h2, h3]
    · have h3 : ¬ j - a < n := by omega
      simp [hj, h1, h2, h3]
  · simp [hj, h1]

theorem u64_andNot_nat (a b : Nat) (ha : a < 18446744073709551616) (hb : b < 18446744073709551616) : bits .andNot .u64 (a : Int) (b : Int) = ((BitVec.ofNat 64 a &&& ~~~(BitVec.ofNat 64 b)).toNat : Int) := by
  have h : bits .andNot .u64 (a : Int) (b : Int) = IntKind.u64.wrap ((BitVec.ofInt 64 (a : Int) &&& ~~~(BitVec.ofInt 64 (b : Int))).toNat : Int) := rfl
  rw [h, BitVec.ofInt_natCast, BitVec.ofInt_natCast]
  exact u64_wrap _ (Int.natCast_nonneg _) (by have := (BitVec.ofNat 64 a &&& ~~~(BitVec.ofNat 64 b)).isLt; omega)

theorem mask_64 (w : World) : Calls Fagg.prog 138 #[.int .u8 64] w fun e w' => e = .returned (.int .u64 18446744073709551615) ∧ w' = w := by
  go_enter Fagg.func138, Fagg.ntmps138
  go_wp2
  go_ret
  exact ⟨rfl, rfl⟩

theorem mask_any64 (n : Nat) (w : World) (hn : n ≤ 64) : Calls Fagg.prog 138 #[.int .u8 (n : Int)] w fun e w' => e = .returned (.int .u64 ((2 ^ n - 1 : Nat) : Int)) ∧ w' = w := by
  by_cases h : n = 64
  · subst h; exact mask_64 w
  · have hm := mask_any n w (by omega)
    have e : (((2 ^ n - 1 : Nat)) : Int) = 2 ^ n - 1 := by
      have : 0 < 2 ^ n := Nat.two_pow_pos n
      rw [Int.ofNat_sub (by omega)]; simp
    rw [e]; exact hm

set_option maxHeartbeats 1000000 in
theorem put_any (x v a n : Nat) (w : World) (hx : x < 18446744073709551616) (hv : v < 18446744073709551616) (hn : a + n ≤ 64) (ha : a < 64) :
    Calls Fagg.prog 168 #[.int .u64 (x : Int), .int .u64 (v : Int), .int .u8 (a : Int), .int .u8 (n : Int)] w fun e w' => e = .returned (.int .u64 (putN x v a n : Int)) ∧ w' = w := by
  have H1 := hide (fits2_any a n w hn)
  have H2 := hide (mask_any64 n w (by omega))
  have hm1 : 2 ^ n - 1 < 18446744073709551616 := by
    have : 2 ^ n ≤ 2 ^ 64 := Nat.pow_le_pow_right (by omega) (by omega)
    omega
  have hm2 : (2 ^ n - 1) * 2 ^ a < 18446744073709551616 := by
    have h1 : (2 ^ n - 1) * 2 ^ a ≤ 2 ^ n * 2 ^ a - 2 ^ a := by rw [Nat.sub_mul, Nat.one_mul]; exact Nat.le_refl _
    have h2 : 2 ^ n * 2 ^ a ≤ 2 ^ 64 := by rw [← Nat.pow_add]; exact Nat.pow_le_pow_right (by omega) (by omega)
    have h3 : 0 < 2 ^ a := Nat.two_pow_pos a
    have h4 : 0 < 2 ^ n := Nat.two_pow_pos n
    have h5 : 2 ^ a ≤ 2 ^ n * 2 ^ a := Nat.le_mul_of_pos_left _ h4
    omega
  have hvm : v &&& (2 ^ n - 1) = v % 2 ^ n := Nat.and_two_pow_sub_one_eq_mod v n
  have hm3 : v % 2 ^ n * 2 ^ a < 18446744073709551616 := by
    have h1 : v % 2 ^ n ≤ 2 ^ n - 1 := by have := Nat.mod_lt v (Nat.two_pow_pos n); omega
    exact Nat.lt_of_le_of_lt (Nat.mul_le_mul_right _ h1) hm2
  have ha2 : bits .and .u64 (v : Int) ((2 ^ n - 1 : Nat) : Int) = ((v % 2 ^ n : Nat) : Int) := by rw [u64_and_nat v _ hv hm1, hvm]
  have ha3 := u64_andNot_nat x ((2 ^ n - 1) * 2 ^ a) hx hm2
  have ha4 := u64_or_nat ((BitVec.ofNat 64 x &&& ~~~(BitVec.ofNat 64 ((2 ^ n - 1) * 2 ^ a))).toNat) (v % 2 ^ n * 2 ^ a) (BitVec.isLt _) hm3
  have hw2 : IntKind.u64.wrap (((2 ^ n - 1 : Nat) : Int) * 2 ^ a) = (((2 ^ n - 1) * 2 ^ a : Nat) : Int) := by
    have e : ((2 ^ n - 1 : Nat) : Int) * 2 ^ a = (((2 ^ n - 1) * 2 ^ a : Nat) : Int) := by rw [Int.natCast_mul, Int.natCast_pow]; rfl
    rw [e]
    exact u64_wrap _ (Int.natCast_nonneg _) (by omega)
  have hw3 : IntKind.u64.wrap (((v % 2 ^ n : Nat) : Int) * 2 ^ a) = ((v % 2 ^ n * 2 ^ a : Nat) : Int) := by
    have e : ((v % 2 ^ n : Nat) : Int) * 2 ^ a = ((v % 2 ^ n * 2 ^ a : Nat) : Int) := by rw [Int.natCast_mul, Int.natCast_pow]; rfl
    rw [e]
    exact u64_wrap _ (Int.natCast_nonneg _) (by omega)
  have hi : ¬ (a : Int) ≥ 64 := by omega
  generalize hM : 2 ^ n - 1 = M at *
  generalize hV : v % 2 ^ n = V at *
  have HR := hide (show bits .or .u64 (bits .andNot .u64 (x : Int) (IntKind.u64.wrap ((M : Int) * 2 ^ a))) (IntKind.u64.wrap (bits .and .u64 (v : Int) (M : Int) * 2 ^ a)) = (putN x v a n : Int) by
    rw [hw2, ha2, hw3, ha3, ha4]
    unfold putN
    rw [hM, hV, BitVec.toNat_or, BitVec.toNat_ofNat (V * 2 ^ a), Nat.mod_eq_of_lt hm3])
  clear ha2 ha3 ha4 hw2 hw3 hvm hM hV hm2 hm3
  go_enter Fagg.func168, Fagg.ntmps168
  go_wp2_with (first | (go_at_call 137; with_reducible refine (unhide H1).mono ?_; rintro e w1 ⟨rfl, hw1⟩; subst hw1) | (go_at_call 138; with_reducible refine (unhide H2).mono ?_; rintro e w1 ⟨rfl, hw1⟩; subst hw1))
  go_ret
  exact ⟨ret_int (unhide HR), rfl⟩
end Go.Proofs.Ygcfag
