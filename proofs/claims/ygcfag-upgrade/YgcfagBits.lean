/-
  BITS: bytes side by side; the tag of a word.
-/
import Derived.Test.YgcfagBase
import Derived.Test.YgcfagPlain6
namespace Go.Proofs.Ygcfag
open Go.RowKit
set_option linter.unusedVariables false
set_option linter.unusedSimpArgs false

theorem and_step (b c q p : Nat) (hb : b < 256) (hc : c < 256) : (b + 256 * q) &&& (c + 256 * p) = (b &&& c) + 256 * (q &&& p) := by
  have h1 : ((b + 256 * q) &&& (c + 256 * p)) % 2 ^ 8 = (b &&& c) := by
    rw [Nat.and_mod_two_pow, show (b + 256 * q) % 2 ^ 8 = b by omega, show (c + 256 * p) % 2 ^ 8 = c by omega]
  have h2 : ((b + 256 * q) &&& (c + 256 * p)) >>> 8 = (q &&& p) := by
    rw [Nat.shiftRight_and_distrib, Nat.shiftRight_eq_div_pow, Nat.shiftRight_eq_div_pow, show (b + 256 * q) / 2 ^ 8 = q by omega, show (c + 256 * p) / 2 ^ 8 = p by omega]
  rw [Nat.shiftRight_eq_div_pow] at h2
  omega

theorem or_step (b c q p : Nat) (hb : b < 256) (hc : c < 256) : (b + 256 * q) ||| (c + 256 * p) = (b ||| c) + 256 * (q ||| p) := by
  have h1 : ((b + 256 * q) ||| (c + 256 * p)) % 2 ^ 8 = (b ||| c) := by
    rw [Nat.or_mod_two_pow, show (b + 256 * q) % 2 ^ 8 = b by omega, show (c + 256 * p) % 2 ^ 8 = c by omega]
  have h2 : ((b + 256 * q) ||| (c + 256 * p)) >>> 8 = (q ||| p) := by
    rw [Nat.shiftRight_or_distrib, Nat.shiftRight_eq_div_pow, Nat.shiftRight_eq_div_pow, show (b + 256 * q) / 2 ^ 8 = q by omega, show (c + 256 * p) / 2 ^ 8 = p by omega]
  rw [Nat.shiftRight_eq_div_pow] at h2
  omega

/-- Eight bytes side by side. -/
def side (b0 b1 b2 b3 b4 b5 b6 b7 : Nat) : Nat := b0 + 256 * (b1 + 256 * (b2 + 256 * (b3 + 256 * (b4 + 256 * (b5 + 256 * (b6 + 256 * b7))))))

theorem side_and (b0 b1 b2 b3 b4 b5 b6 b7 c0 c1 c2 c3 c4 c5 c6 c7 : Nat) (h0 : b0 < 256) (h1 : b1 < 256) (h2 : b2 < 256) (h3 : b3 < 256) (h4 : b4 < 256) (h5 : b5 < 256) (h6 : b6 < 256)
    (k0 : c0 < 256) (k1 : c1 < 256) (k2 : c2 < 256) (k3 : c3 < 256) (k4 : c4 < 256) (k5 : c5 < 256) (k6 : c6 < 256) :
    side b0 b1 b2 b3 b4 b5 b6 b7 &&& side c0 c1 c2 c3 c4 c5 c6 c7 = side (b0 &&& c0) (b1 &&& c1) (b2 &&& c2) (b3 &&& c3) (b4 &&& c4) (b5 &&& c5) (b6 &&& c6) (b7 &&& c7) := by
  unfold side
  rw [and_step _ _ _ _ h0 k0, and_step _ _ _ _ h1 k1, and_step _ _ _ _ h2 k2, and_step _ _ _ _ h3 k3, and_step _ _ _ _ h4 k4, and_step _ _ _ _ h5 k5, and_step _ _ _ _ h6 k6]

theorem side_or (b0 b1 b2 b3 b4 b5 b6 b7 c0 c1 c2 c3 c4 c5 c6 c7 : Nat) (h0 : b0 < 256) (h1 : b1 < 256) (h2 : b2 < 256) (h3 : b3 < 256) (h4 : b4 < 256) (h5 : b5 < 256) (h6 : b6 < 256)
    (k0 : c0 < 256) (k1 : c1 < 256) (k2 : c2 < 256) (k3 : c3 < 256) (k4 : c4 < 256) (k5 : c5 < 256) (k6 : c6 < 256) :
    side b0 b1 b2 b3 b4 b5 b6 b7 ||| side c0 c1 c2 c3 c4 c5 c6 c7 = side (b0 ||| c0) (b1 ||| c1) (b2 ||| c2) (b3 ||| c3) (b4 ||| c4) (b5 ||| c5) (b6 ||| c6) (b7 ||| c7) := by
  unfold side
  rw [or_step _ _ _ _ h0 k0, or_step _ _ _ _ h1 k1, or_step _ _ _ _ h2 k2, or_step _ _ _ _ h3 k3, or_step _ _ _ _ h4 k4, or_step _ _ _ _ h5 k5, or_step _ _ _ _ h6 k6]

/-- What becomes of one byte. -/
theorem top_byte : ∀ b : Fin 256, (b.val &&& 127) < 128 ∧ (((b.val &&& 127) + 127) ||| b.val) < 256 ∧ ((((b.val &&& 127) + 127) ||| b.val) &&& 128) = 128 * (if b.val = 0 then 0 else 1) := by decide +kernel

theorem tag_gather : ∀ t0 t1 t2 t3 t4 t5 t6 t7 : Fin 2, (side t0.val t1.val t2.val t3.val t4.val t5.val t6.val t7.val * 72624976668147840 % 18446744073709551616) / 72057594037927936 % 256 = t0.val + 2 * t1.val + 4 * t2.val + 8 * t3.val + 16 * t4.val + 32 * t5.val + 64 * t6.val + 128 * t7.val := by decide +kernel

theorem tag_nat (b0 b1 b2 b3 b4 b5 b6 b7 : Nat) (h0 : b0 < 256) (h1 : b1 < 256) (h2 : b2 < 256) (h3 : b3 < 256) (h4 : b4 < 256) (h5 : b5 < 256) (h6 : b6 < 256) (h7 : b7 < 256) :
    ((((((side b0 b1 b2 b3 b4 b5 b6 b7 &&& 9187201950435737471) + 9187201950435737471) ||| side b0 b1 b2 b3 b4 b5 b6 b7) &&& 9259542123273814144) / 128 * 72624976668147840) % 18446744073709551616) / 72057594037927936 % 256
      = (if b0 = 0 then 0 else 1) + 2 * (if b1 = 0 then 0 else 1) + 4 * (if b2 = 0 then 0 else 1) + 8 * (if b3 = 0 then 0 else 1) + 16 * (if b4 = 0 then 0 else 1) + 32 * (if b5 = 0 then 0 else 1) + 64 * (if b6 = 0 then 0 else 1) + 128 * (if b7 = 0 then 0 else 1) := by
  have e1 : (9187201950435737471 : Nat) = side 127 127 127 127 127 127 127 127 := rfl
  have e2 : (9259542123273814144 : Nat) = side 128 128 128 128 128 128 128 128 := rfl
  have p0 := top_byte ⟨b0, h0⟩
  have p1 := top_byte ⟨b1, h1⟩
  have p2 := top_byte ⟨b2, h2⟩
  have p3 := top_byte ⟨b3, h3⟩
  have p4 := top_byte ⟨b4, h4⟩
  have p5 := top_byte ⟨b5, h5⟩
  have p6 := top_byte ⟨b6, h6⟩
  have p7 := top_byte ⟨b7, h7⟩
  simp only at p0 p1 p2 p3 p4 p5 p6 p7
  have hs : ∀ a0 a1 a2 a3 a4 a5 a6 a7 : Nat, side a0 a1 a2 a3 a4 a5 a6 a7 + 9187201950435737471 = side (a0 + 127) (a1 + 127) (a2 + 127) (a3 + 127) (a4 + 127) (a5 + 127) (a6 + 127) (a7 + 127) := by
    intros; rw [e1]; unfold side; omega
  have hq : ∀ a0 a1 a2 a3 a4 a5 a6 a7 : Nat, side (128 * a0) (128 * a1) (128 * a2) (128 * a3) (128 * a4) (128 * a5) (128 * a6) (128 * a7) / 128 = side a0 a1 a2 a3 a4 a5 a6 a7 := by
    intros; unfold side; omega
  rw [show (side b0 b1 b2 b3 b4 b5 b6 b7 &&& 9187201950435737471) = side b0 b1 b2 b3 b4 b5 b6 b7 &&& side 127 127 127 127 127 127 127 127 from rfl,
    side_and _ _ _ _ _ _ _ _ _ _ _ _ _ _ _ _ h0 h1 h2 h3 h4 h5 h6 (by omega) (by omega) (by omega) (by omega) (by omega) (by omega) (by omega), hs,
    side_or _ _ _ _ _ _ _ _ _ _ _ _ _ _ _ _ (by omega) (by omega) (by omega) (by omega) (by omega) (by omega) (by omega) h0 h1 h2 h3 h4 h5 h6, e2,
    side_and _ _ _ _ _ _ _ _ _ _ _ _ _ _ _ _ p0.2.1 p1.2.1 p2.2.1 p3.2.1 p4.2.1 p5.2.1 p6.2.1 (by omega) (by omega) (by omega) (by omega) (by omega) (by omega) (by omega),
    p0.2.2, p1.2.2, p2.2.2, p3.2.2, p4.2.2, p5.2.2, p6.2.2, p7.2.2, hq]
  have hb : ∀ b : Nat, ∃ t : Fin 2, (if b = 0 then 0 else 1 : Nat) = t.val := fun b => by
    by_cases hb : b = 0
    · exact ⟨0, by simp [hb]⟩
    · exact ⟨1, by simp [hb]⟩
  obtain ⟨t0, g0⟩ := hb b0
  obtain ⟨t1, g1⟩ := hb b1
  obtain ⟨t2, g2⟩ := hb b2
  obtain ⟨t3, g3⟩ := hb b3
  obtain ⟨t4, g4⟩ := hb b4
  obtain ⟨t5, g5⟩ := hb b5
  obtain ⟨t6, g6⟩ := hb b6
  obtain ⟨t7, g7⟩ := hb b7
  rw [g0, g1, g2, g3, g4, g5, g6, g7]
  exact tag_gather t0 t1 t2 t3 t4 t5 t6 t7

theorem side_of (n : Nat) (h : n < 18446744073709551616) : n = side (n % 256) (n / 256 % 256) (n / 65536 % 256) (n / 16777216 % 256) (n / 4294967296 % 256) (n / 1099511627776 % 256) (n / 281474976710656 % 256) (n / 72057594037927936 % 256) := by
  unfold side; omega

theorem nz_nat (n : Nat) : nz (n : Int) = if n = 0 then 0 else 1 := by unfold nz; split <;> split <;> omega

theorem tag_num (w : Int) (h0 : 0 ≤ w) (h1 : w < 18446744073709551616) :
    IntKind.u64.wrap (bits .andNot .u64 (bits .or .u64 (IntKind.u64.wrap (bits .and .u64 w 9187201950435737471 + 9187201950435737471)) w) 9187201950435737471 / 128 * 72624976668147840) / 72057594037927936 % 256 = (tagN w : Int) := by
  obtain ⟨n, rfl⟩ := Int.eq_ofNat_of_zero_le h0
  have hn : n < 18446744073709551616 := by omega
  have T := tag_nat (n % 256) (n / 256 % 256) (n / 65536 % 256) (n / 16777216 % 256) (n / 4294967296 % 256) (n / 1099511627776 % 256) (n / 281474976710656 % 256) (n / 72057594037927936 % 256) (by omega) (by omega) (by omega) (by omega) (by omega) (by omega) (by omega) (by omega)
  rw [← side_of n hn] at T
  have ha : n &&& 9187201950435737471 ≤ 9187201950435737471 := Nat.and_le_right
  have e1 : bits .and .u64 (n : Int) 9187201950435737471 = ((n &&& 9187201950435737471 : Nat) : Int) := u64_and_nat n 9187201950435737471 hn (by omega)
  have e2 : IntKind.u64.wrap (((n &&& 9187201950435737471 : Nat) : Int) + 9187201950435737471) = (((n &&& 9187201950435737471) + 9187201950435737471 : Nat) : Int) := by rw [IntKind.wrap_u64]; omega
  have e3 := u64_or_nat ((n &&& 9187201950435737471) + 9187201950435737471) n (by omega) hn
  have ho : ((n &&& 9187201950435737471) + 9187201950435737471) ||| n < 2 ^ 64 := Nat.or_lt_two_pow (by omega) (by omega)
  have e4 := u64_andNot_nat (((n &&& 9187201950435737471) + 9187201950435737471) ||| n) 9187201950435737471 (by omega) (by omega)
  rw [e1, e2, e3]
  rw [show (9187201950435737471 : Int) = ((9187201950435737471 : Nat) : Int) from rfl, e4, IntKind.wrap_u64]
  rw [show (18446744073709551615 - 9187201950435737471 : Nat) = 9259542123273814144 from rfl]
  have hT : (tagN (n : Int) : Int) = ((((((((n &&& 9187201950435737471) + 9187201950435737471) ||| n) &&& 9259542123273814144) / 128 * 72624976668147840) % 18446744073709551616) / 72057594037927936 % 256 : Nat) : Int) := by
    rw [T]
    unfold tagN
    have c (k : Nat) : nz ((n : Int) / (k : Int) % 256) = if n / k % 256 = 0 then 0 else 1 := by rw [← nz_nat]; congr 1
    have c0 : nz ((n : Int) % 256) = if n % 256 = 0 then 0 else 1 := by rw [← nz_nat]; congr 1
    have c1 := c 256
    have c2 := c 65536
    have c3 := c 16777216
    have c4 := c 4294967296
    have c5 := c 1099511627776
    have c6 := c 281474976710656
    have c7 := c 72057594037927936
    simp only [Int.cast_ofNat_Int] at c1 c2 c3 c4 c5 c6 c7
    rw [c0, c1, c2, c3, c4, c5, c6, c7]
  rw [hT]
  generalize (((n &&& 9187201950435737471) + 9187201950435737471) ||| n) &&& 9259542123273814144 = X
  simp only [Int.natCast_emod, Int.natCast_ediv, Int.natCast_mul]
  rfl
end Go.Proofs.Ygcfag
