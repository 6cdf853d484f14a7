/-
  WALKS: bitsx.Word, frame.SumOn, Sum, segwire.sum, frame.ReadHeader, law.number, law.ownSum.
-/
import Derived.Test.YgcfagBase
import Derived.Deep.RegionWith
import Derived.BigQuiet
namespace Go.Proofs.Ygcfag
open Go.RowKit
set_option linter.unusedVariables false
set_option linter.unusedSimpArgs false

theorem word_num (x0 x1 x2 x3 x4 x5 x6 x7 : Int) (h0 : 0 ≤ x0 ∧ x0 < 256) (h1 : 0 ≤ x1 ∧ x1 < 256) (h2 : 0 ≤ x2 ∧ x2 < 256) (h3 : 0 ≤ x3 ∧ x3 < 256)
    (h4 : 0 ≤ x4 ∧ x4 < 256) (h5 : 0 ≤ x5 ∧ x5 < 256) (h6 : 0 ≤ x6 ∧ x6 < 256) (h7 : 0 ≤ x7 ∧ x7 < 256) :
    bits BinOp.or IntKind.u64 (bits BinOp.or IntKind.u64 (bits BinOp.or IntKind.u64 (bits BinOp.or IntKind.u64 (bits BinOp.or IntKind.u64 (bits BinOp.or IntKind.u64 (bits BinOp.or IntKind.u64 x0 (x1 * 256)) (x2 * 65536)) (x3 * 16777216)) (x4 * 4294967296)) (x5 * 1099511627776)) (x6 * 281474976710656)) (x7 * 72057594037927936)
      = le [x0, x1, x2, x3, x4, x5, x6, x7] := by
  have e (a b : Int) (i : Nat) (ha : 0 ≤ a) (ha' : a < 18446744073709551616) (hb : 0 ≤ b) (hb' : b < 18446744073709551616) (hd : b % (2 ^ i : Nat) = 0) (hl : a < (2 ^ i : Nat)) : bits .or .u64 a b = a + b := by
    rw [u64_or a b ha ha' hb hb', Nat.or_comm, nat_join i]
    · omega
    · have : ((b.toNat % 2 ^ i : Nat) : Int) = 0 := by
        rw [Int.natCast_emod, Int.toNat_of_nonneg hb]; exact hd
      omega
    · omega
  rw [e (x0) (x1 * 256) 8 (by omega) (by omega) (by omega) (by omega) (by omega) (by omega)]
  rw [e (x0 + x1 * 256) (x2 * 65536) 16 (by omega) (by omega) (by omega) (by omega) (by omega) (by omega)]
  rw [e (x0 + x1 * 256 + x2 * 65536) (x3 * 16777216) 24 (by omega) (by omega) (by omega) (by omega) (by omega) (by omega)]
  rw [e (x0 + x1 * 256 + x2 * 65536 + x3 * 16777216) (x4 * 4294967296) 32 (by omega) (by omega) (by omega) (by omega) (by omega) (by omega)]
  rw [e (x0 + x1 * 256 + x2 * 65536 + x3 * 16777216 + x4 * 4294967296) (x5 * 1099511627776) 40 (by omega) (by omega) (by omega) (by omega) (by omega) (by omega)]
  rw [e (x0 + x1 * 256 + x2 * 65536 + x3 * 16777216 + x4 * 4294967296 + x5 * 1099511627776) (x6 * 281474976710656) 48 (by omega) (by omega) (by omega) (by omega) (by omega) (by omega)]
  rw [e (x0 + x1 * 256 + x2 * 65536 + x3 * 16777216 + x4 * 4294967296 + x5 * 1099511627776 + x6 * 281474976710656) (x7 * 72057594037927936) 56 (by omega) (by omega) (by omega) (by omega) (by omega) (by omega)]
  simp only [le]
  omega

set_option maxHeartbeats 400000 in
theorem word_any (x0 x1 x2 x3 x4 x5 x6 x7 : Int) (h0 : 0 ≤ x0 ∧ x0 < 256) (h1 : 0 ≤ x1 ∧ x1 < 256) (h2 : 0 ≤ x2 ∧ x2 < 256) (h3 : 0 ≤ x3 ∧ x3 < 256)
    (h4 : 0 ≤ x4 ∧ x4 < 256) (h5 : 0 ≤ x5 ∧ x5 < 256) (h6 : 0 ≤ x6 ∧ x6 < 256) (h7 : 0 ≤ x7 ∧ x7 < 256) (w : World) :
    Calls Fagg.prog 181 #[.agg #[.int .u8 x0, .int .u8 x1, .int .u8 x2, .int .u8 x3, .int .u8 x4, .int .u8 x5, .int .u8 x6, .int .u8 x7]] w
     fun e w' => e = .returned (.int .u64 (le [x0, x1, x2, x3, x4, x5, x6, x7])) ∧ w' = w.alloc (.cells #[.int .u8 x0, .int .u8 x1, .int .u8 x2, .int .u8 x3, .int .u8 x4, .int .u8 x5, .int .u8 x6, .int .u8 x7] 225) := by
  have HH := word_num x0 x1 x2 x3 x4 x5 x6 x7 h0 h1 h2 h3 h4 h5 h6 h7
  have H : Hid (_ = _) := HH
  clear HH
  go_enter Fagg.func181, Fagg.ntmps181
  go_wp2
  go_ret
  exact ⟨ret_int H.out, rfl⟩

theorem word_bel (x0 x1 x2 x3 x4 x5 x6 x7 : Int) (h0 : 0 ≤ x0 ∧ x0 < 256) (h1 : 0 ≤ x1 ∧ x1 < 256) (h2 : 0 ≤ x2 ∧ x2 < 256) (h3 : 0 ≤ x3 ∧ x3 < 256)
    (h4 : 0 ≤ x4 ∧ x4 < 256) (h5 : 0 ≤ x5 ∧ x5 < 256) (h6 : 0 ≤ x6 ∧ x6 < 256) (h7 : 0 ≤ x7 ∧ x7 < 256) (w : World) :
    Calls Fagg.prog 181 #[.agg #[.int .u8 x0, .int .u8 x1, .int .u8 x2, .int .u8 x3, .int .u8 x4, .int .u8 x5, .int .u8 x6, .int .u8 x7]] w
     fun e w' => e = .returned (.int .u64 (le [x0, x1, x2, x3, x4, x5, x6, x7])) ∧ Below w.heap.size w w' :=
  (word_any x0 x1 x2 x3 x4 x5 x6 x7 h0 h1 h2 h3 h4 h5 h6 h7 w).mono fun _ _ ⟨he, hw⟩ => ⟨he, by rw [hw]; exact (Below.refl _ _).alloc (Nat.le_refl _) _⟩

theorem u32_xor' (a b : Int) (h1 : 0 ≤ a) (h2 : a < 4294967296) (h3 : 0 ≤ b) (h4 : b < 4294967296) : bits .xor .u32 a b * 16777619 % 4294967296 = fnv a b := by
  rw [u32_xor a b h1 h2 h3 h4]; rfl

set_option maxHeartbeats 400000 in
theorem sumOn_any (h : Int) (a : Option Addr) (n c : Nat) (xs : List Int) (w : World) (hs : Sl .u8 w a xs) (hn : xs.length = n) (hm : n ≤ 9223372036854775807)
   (h0 : 0 ≤ h) (h1 : h < 4294967296) (hx : Bys xs) :
    Calls Fagg.prog 179 #[.int .u32 h, .slice a n c] w fun e w' => e = .returned (.int .u32 (sumOn h xs)) ∧ w' = w := by
  go_enter Fagg.func179, Fagg.ntmps179
  go_wp2
  go_loop [0, 9] (fun v i => ∃ k : Nat, k ≤ n ∧ i = .int .i64 k ∧ v = .int .u32 (sumOn h (xs.take k))) (fun _ i => n - (intOf i).toNat)
  case atStart => exact ⟨0, Nat.zero_le _, rfl, rfl⟩
  case round =>
    obtain ⟨k, hk, rfl, rfl⟩ := hrel
    by_cases hlt : k < n
    · obtain ⟨b, off, rfl, hc⟩ := hs.at (i := k) (by omega)
      have hck := hc k (by omega)
      have hxk := hx k
      have HS : Hid (_ = _) := sumOn_snoc h xs k (by omega)
      have hbd := sumOn_bd h (xs.take k) h0 h1
      generalize xs.getD k 0 = x at *
      generalize sumOn h (xs.take k) = s at *
      clear hc hx hs
      go_wp2
      go_round
      case rel => exact ⟨k + 1, by omega, by go_num, by rw [HS.out, ← u32_xor' s x hbd.1 hbd.2 hxk.1 (by omega)]⟩
      case measure => simp [intOf]; omega
    · go_wp2
      go_ret
      exact ⟨ret_int (by rw [List.take_of_length_le (by omega)]), rfl⟩

set_option maxHeartbeats 400000 in
theorem sum_any (a : Option Addr) (n c : Nat) (xs : List Int) (w : World) (hs : Sl .u8 w a xs) (hn : xs.length = n) (hm : n ≤ 9223372036854775807) (hx : Bys xs) :
    Calls Fagg.prog 180 #[.slice a n c] w fun e w' => e = .returned (.int .u32 (sumOn 2166136261 xs)) ∧ w' = w := by
  go_enter Fagg.func180, Fagg.ntmps180
  go_wp2_with (go_at_call 179; refine (sumOn_any _ a n c xs _ hs hn hm (by omega) (by omega) hx).mono ?_; rintro e w' ⟨rfl, rfl⟩)
  go_ret
  exact ⟨rfl, rfl⟩

set_option maxHeartbeats 400000 in
theorem segsum_any (a : Option Addr) (n c : Nat) (xs : List Int) (w : World) (hs : Sl .u8 w a xs) (hn : xs.length = n) (hnc : n ≤ c) (hm : c ≤ 9223372036854775807) (hx : Bys xs) (h32 : 32 ≤ n) :
    Calls Fagg.prog 114 #[.slice a n c] w fun e w' => e = .returned (.int .u32 (sumOn (sumOn 2166136261 (xs.take 12)) (xs.drop 16))) ∧ ∃ m, w' = w.drewN m := by
  obtain ⟨b, off, rfl, hc⟩ := hs.at (i := 0) (by omega)
  have h1 : (12 : Int) ≤ (c : Int) := by omega
  have h2 : (16 : Int) ≤ (n : Int) := by omega
  have h3 : ¬ c = 16 := by omega
  have hb := sumOn_bd 2166136261 (xs.take 12) (by omega) (by omega)
  have hd : Sl .u8 w (some ⟨b, off + 16, none⟩) (xs.drop 16) := by have := hs.drop 16 c (by omega); rw [if_neg h3] at this; exact this
  clear hc
  go_enter Fagg.func114, Fagg.ntmps114
  go_wp2_with fail
  go_quiet (first | (go_at_call 180; refine Calls.quiet_of_same (sum_any _ _ _ (xs.take 12) _ ?_ ?_ ?_ ?_); exact (hs.take 12).drewN _; simp; omega; omega; exact hx.take 12) | (go_at_call 179; refine Calls.quiet_of_same (sumOn_any _ _ _ _ (xs.drop 16) _ ?_ ?_ ?_ ?_ ?_ ?_); exact hd.drewN _; simp [hn]; omega; exact hb.1; exact hb.2; exact hx.drop 16))
  go_wp2
  go_ret
  exact ⟨rfl, _, rfl⟩

theorem bits_or8 (v x : Int) (h0 : 0 ≤ v) (h1 : v < 72057594037927936) (hx : 0 ≤ x ∧ x < 256) : bits .or .u64 (v * 256) x = x + 256 * v := by
  rw [or_join (v * 256) x 8 (by omega) (by omega) (by omega) (by omega) (by omega) (by omega)]; omega

/-- The number of the last k of n bytes. -/
theorem le_step (xs : List Int) (k : Nat) (hk : k < xs.length) : le (xs.drop k) = xs.getD k 0 + 256 * le (xs.drop (k + 1)) := by
  rw [List.drop_eq_getElem_cons hk]; simp [le, List.getD, hk]

theorem le_top (xs : List Int) (n k : Nat) (h : Bys xs) (hn : xs.length ≤ n) (hn8 : n ≤ 8) (hk : 1 ≤ k) (hl : xs.length ≤ n) : 0 ≤ le (xs.drop k) ∧ le (xs.drop k) < 72057594037927936 := by
  refine ⟨le_nonneg _ (h.drop k), ?_⟩
  have := le_lt (xs.drop k) 7 (h.drop k) (by simp; omega)
  simpa using this

set_option maxHeartbeats 400000 in
theorem number_any (a : Option Addr) (n c at_ m : Nat) (xs : List Int) (w : World) (hs : Sl .u8 w a xs) (hn : xs.length = n) (hm : n ≤ 9223372036854775807) (hx : Bys xs) (h8 : m ≤ 8) (hat : at_ + m ≤ n) :
    Calls Fagg.prog 118 #[.slice a n c, .int .i64 at_, .int .i64 m] w fun e w' => e = .returned (.int .u64 (le ((xs.drop at_).take m))) ∧ w' = w := by
  have hl : ((xs.drop at_).take m).length = m := by simp; omega
  have hget : ∀ i, i < m → ((xs.drop at_).take m).getD i 0 = xs.getD (at_ + i) 0 := fun i hi => by simp [List.getD, hi]
  have hy : Bys ((xs.drop at_).take m) := (hx.drop _).take _
  have HG := hide hget
  clear hget
  generalize (xs.drop at_).take m = ys at *
  go_enter Fagg.func118, Fagg.ntmps118
  go_wp2
  go_loop [7, 8] (fun v i => ∃ k : Nat, k ≤ m ∧ i = .int .i64 ((k : Int) - 1) ∧ v = .int .u64 (le (ys.drop k))) (fun _ i => ((intOf i) + 1).toNat)
  case atStart => exact ⟨m, Nat.le_refl _, rfl, by rw [List.drop_of_length_le (by omega)]; rfl⟩
  case round =>
    obtain ⟨k, hk, rfl, rfl⟩ := hrel
    by_cases hlt : 1 ≤ k
    · obtain ⟨b, off, rfl, hc⟩ := hs.at (i := at_) (by omega)
      obtain ⟨j, rfl⟩ : ∃ j, k = j + 1 := ⟨k - 1, by omega⟩
      have hck := hc (at_ + j) (by omega)
      have hxk := hx (at_ + j)
      have HS : Hid (_ = _) := le_step ys j (by omega)
      rw [unhide HG j (by omega)] at HS
      have hbd := le_top ys m (j + 1) hy (by omega) h8 (by omega) (by omega)
      generalize xs.getD (at_ + j) 0 = x at *
      generalize le (ys.drop (j + 1)) = s at *
      clear hc hx hs hy
      have HB : Hid (_ = _) := bits_or8 s x hbd.1 hbd.2 hxk
      go_wp2
      go_round
      case rel => exact ⟨j, by omega, by go_num, by rw [HS.out, ← HB.out]⟩
      case measure => simp [intOf] <;> omega
    · go_wp2
      go_ret
      obtain rfl : k = 0 := by omega
      exact ⟨ret_int (by simp), rfl⟩

theorem u64_own (a b : Int) (h1 : 0 ≤ a) (h2 : a < 4294967296) (h3 : 0 ≤ b) (h4 : b < 4294967296) : bits .and .u64 (bits .xor .u64 a b * 16777619) 4294967295 = fnv a b := by
  have hx := u64_xor a b h1 (by omega) h3 (by omega)
  have hlt : a.toNat ^^^ b.toNat < 2 ^ 32 := Nat.xor_lt_two_pow (by omega) (by omega)
  rw [hx, u64_and _ _ (by omega) (by omega) (by omega) (by omega)]
  have e : (4294967295 : Int).toNat = 4294967295 := rfl
  rw [e, nat_mask32]
  unfold fnv
  omega

theorem u64_xor_lt (a b : Int) (h1 : 0 ≤ a) (h2 : a < 4294967296) (h3 : 0 ≤ b) (h4 : b < 4294967296) : 0 ≤ bits .xor .u64 a b ∧ bits .xor .u64 a b < 4294967296 := by
  have hx := u64_xor a b h1 (by omega) h3 (by omega)
  have hlt : a.toNat ^^^ b.toNat < 2 ^ 32 := Nat.xor_lt_two_pow (by omega) (by omega)
  rw [hx]; omega

set_option maxHeartbeats 400000 in
theorem ownSum_any (a : Option Addr) (n c : Nat) (xs : List Int) (w : World) (hs : Sl .u8 w a xs) (hn : xs.length = n) (hm : n ≤ 9223372036854775807) (hx : Bys xs) :
    Calls Fagg.prog 119 #[.slice a n c] w fun e w' => e = .returned (.int .u64 (sumOn 2166136261 xs)) ∧ w' = w := by
  go_enter Fagg.func119, Fagg.ntmps119
  go_wp2
  go_loop [3, 8] (fun v i => ∃ k : Nat, k ≤ n ∧ i = .int .i64 k ∧ v = .int .u64 (sumOn 2166136261 (xs.take k))) (fun _ i => n - (intOf i).toNat)
  case atStart => exact ⟨0, Nat.zero_le _, rfl, rfl⟩
  case round =>
    obtain ⟨k, hk, rfl, rfl⟩ := hrel
    by_cases hlt : k < n
    · obtain ⟨b, off, rfl, hc⟩ := hs.at (i := k) (by omega)
      have hck := hc k (by omega)
      have hxk := hx k
      have HS : Hid (_ = _) := sumOn_snoc 2166136261 xs k (by omega)
      have hbd := sumOn_bd 2166136261 (xs.take k) (by omega) (by omega)
      generalize xs.getD k 0 = x at *
      generalize sumOn 2166136261 (xs.take k) = s at *
      have hxo := u64_xor_lt s x hbd.1 hbd.2 hxk.1 (by omega)
      have HU : Hid (_ = _) := u64_own s x hbd.1 hbd.2 hxk.1 (by omega)
      clear hc hx hs
      go_wp2
      go_round
      case rel => exact ⟨k + 1, by omega, by go_num, by rw [HS.out, ← HU.out]⟩
      case measure => simp [intOf]; omega
    · go_wp2
      go_ret
      exact ⟨ret_int (by rw [List.take_of_length_le (by omega)]), rfl⟩
end Go.Proofs.Ygcfag
