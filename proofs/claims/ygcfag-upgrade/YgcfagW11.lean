/-
  WALKS: bitsx.Bytes, pack.tagOf, isDense, zeros, dense.
-/
import Derived.Test.YgcfagBits
namespace Go.Proofs.Ygcfag
open Go.RowKit
set_option linter.unusedVariables false
set_option linter.unusedSimpArgs false

/-- The eight bytes, as a value. -/
def aggB (w : Int) : Value := .agg #[.int .u8 (w % 256), .int .u8 (w / 256 % 256), .int .u8 (w / 65536 % 256), .int .u8 (w / 16777216 % 256), .int .u8 (w / 4294967296 % 256), .int .u8 (w / 1099511627776 % 256), .int .u8 (w / 281474976710656 % 256), .int .u8 (w / 72057594037927936 % 256)]

set_option maxHeartbeats 400000 in
theorem bytes_any (x : Int) (w : World) (h0 : 0 ≤ x) (h1 : x ≤ 18446744073709551615) :
    Calls Fagg.prog 112 #[.int .u64 x] w fun e w' => e = .returned (aggB x) ∧ Below w.heap.size w w' := by
  go_enter Fagg.func112, Fagg.ntmps112
  go_wp2
  refine bodyPost_ret (v := aggB x) ?_ rfl ⟨rfl, (Below.refl _ _).alloc (Nat.le_refl _) _⟩
  have e : x / 72057594037927936 % 256 = x / 72057594037927936 := by omega
  simp [results, Fagg.results112, go_sem, aggB, e]

set_option maxHeartbeats 400000 in
theorem tagOf_any (x : Int) (w : World) (h0 : 0 ≤ x) (h1 : x ≤ 18446744073709551615) :
    Calls Fagg.prog 176 #[.int .u64 x] w fun e w' => e = .returned (.int .u8 (tagN x : Int)) ∧ w' = w := by
  have H := hide (tag_num x h0 (by omega))
  clear h0 h1
  go_enter Fagg.func176, Fagg.ntmps176
  go_wp2
  go_ret
  exact ⟨ret_int (unhide H), rfl⟩

theorem dense_tab : ∀ t : Fin 256, (bits .and .u8 (bits .xor .u8 IntKind.u8.max (t.val : Int)) ((bits .xor .u8 IntKind.u8.max (t.val : Int) - 1) % 256) == 0) = decide (popc (255 - t.val) ≤ 1) := by decide +kernel

set_option maxHeartbeats 400000 in
theorem isDense_any (t : Nat) (w : World) (ht : t < 256) :
    Calls Fagg.prog 213 #[.int .u8 (t : Int)] w fun e w' => e = .returned (.bool (decide (popc (255 - t) ≤ 1))) ∧ w' = w := by
  have H := hide (dense_tab ⟨t, ht⟩)
  simp only at H
  go_enter Fagg.func213, Fagg.ntmps213
  go_wp2
  go_ret
  exact ⟨congrArg (fun b => Ending.returned (Value.bool b)) (unhide H), rfl⟩

set_option maxHeartbeats 400000 in
theorem zeros_any (a : Option Addr) (n c m : Nat) (xs : List Int) (w : World) (hs : Sl .u64 w a xs) (hn : xs.length = n) (hn2 : n ≤ 256) (hm : m ≤ 255) :
    Calls Fagg.prog 177 #[.slice a n c, .int .i64 (m : Int)] w fun e w' => e = .returned (.int .i64 (zerosOf xs m : Int)) ∧ w' = w := by
  have HS := hide hs
  have hle := zerosOf_le xs m
  have HST := hide (zerosOf_step xs m)
  generalize zerosOf xs m = z at *
  clear hs
  go_enter Fagg.func177, Fagg.ntmps177
  go_wp2_with fail
  go_loop [5] (fun y => ∃ k : Nat, k ≤ z ∧ y = .int .i64 (k : Int)) (fun y => z - (intOf y).toNat)
  case atStart => exact ⟨0, by omega, rfl⟩
  case round =>
    obtain ⟨k, hk, rfl⟩ := hrel
    have hst := unhide HST k hk
    by_cases hkn : k < n
    · have e1 : (k : Int) < (n : Int) := by omega
      by_cases hkm : k < m
      · have e2 : (k : Int) < (m : Int) := by omega
        obtain ⟨b, off, rfl, hc⟩ := (unhide HS).at (i := k) (by omega)
        have hck := hc k (by omega)
        clear hc
        by_cases hx : xs.getD k 0 = 0
        · have e3 : (xs.getD k 0 == 0) = true := beq_iff_eq.2 hx
          have hkz : k < z := by
            rcases Nat.lt_or_ge k z with h | h
            · exact h
            · exact absurd ⟨by omega, hkm, hx⟩ (hst.1 (by omega))
          clear hx hst
          generalize xs.getD k 0 = x at *
          go_wp2
          go_round
          case rel => exact ⟨k + 1, by omega, by go_num⟩
          case measure => simp [intOf]; omega
        · have e3 : (xs.getD k 0 == 0) = false := beq_eq_false_iff_ne.2 hx
          obtain rfl : k = z := hst.2 (fun h => hx h.2.2)
          clear hx hst
          generalize xs.getD k 0 = x at *
          go_wp2
          go_ret
          exact ⟨rfl, rfl⟩
      · have e2 : ¬ (k : Int) < (m : Int) := by omega
        obtain rfl : k = z := by omega
        clear hst
        go_wp2
        go_ret
        exact ⟨rfl, rfl⟩
    · have e1 : ¬ (k : Int) < (n : Int) := by omega
      obtain rfl : k = z := by omega
      clear hst
      go_wp2
      go_ret
      exact ⟨rfl, rfl⟩

/-- Words. -/
def Wds (xs : List Int) : Prop := ∀ i, 0 ≤ xs.getD i 0 ∧ xs.getD i 0 ≤ 18446744073709551615

set_option maxHeartbeats 400000 in
theorem dense_any (a : Option Addr) (n c m : Nat) (xs : List Int) (w : World) (hs : Sl .u64 w a xs) (hw : Wds xs) (hn : xs.length = n) (hn2 : n ≤ 256) (hm : m ≤ 255) :
    Calls Fagg.prog 178 #[.slice a n c, .int .i64 (m : Int)] w fun e w' => e = .returned (.int .i64 (denseOf xs m : Int)) ∧ w' = w := by
  have HS := hide hs
  have HW := hide hw
  have hle := denseOf_le xs m
  have HST := hide (denseOf_step xs m)
  generalize denseOf xs m = z at *
  clear hs hw
  go_enter Fagg.func178, Fagg.ntmps178
  go_wp2_with fail
  go_loop [5] (fun y => ∃ k : Nat, k ≤ z ∧ y = .int .i64 (k : Int)) (fun y => z - (intOf y).toNat)
  case atStart => exact ⟨0, by omega, rfl⟩
  case round =>
    obtain ⟨k, hk, rfl⟩ := hrel
    have hst := unhide HST k hk
    by_cases hkn : k < n
    · have e1 : (k : Int) < (n : Int) := by omega
      by_cases hkm : k < m
      · have e2 : (k : Int) < (m : Int) := by omega
        obtain ⟨b, off, rfl, hc⟩ := (unhide HS).at (i := k) (by omega)
        have hck := hc k (by omega)
        have hwk := unhide HW k
        have HTG := hide (tagOf_any (xs.getD k 0) w hwk.1 hwk.2)
        have HDN := hide (show Calls Fagg.prog 213 #[.int .u8 (tagN (xs.getD k 0) : Int)] w fun e w' => e = .returned (.bool (dense1 (xs.getD k 0))) ∧ w' = w from isDense_any (tagN (xs.getD k 0)) w (tagN_lt _))
        clear hc
        cases hx : dense1 (xs.getD k 0)
        · rw [hx] at HDN
          obtain rfl : k = z := hst.2 (fun h => by rw [h.2.2] at hx; cases hx)
          clear hx hst
          generalize tagN (xs.getD k 0) = t at *
          generalize xs.getD k 0 = x at *
          go_wp2_with (first | (go_at_call 176; refine (unhide HTG).mono ?_; rintro e w' ⟨rfl, hw⟩; rw [hw]; clear hw) | (go_at_call 213; refine (unhide HDN).mono ?_; rintro e w' ⟨rfl, hw⟩; rw [hw]; clear hw))
          go_ret
          exact ⟨rfl, rfl⟩
        · rw [hx] at HDN
          have hkz : k < z := by
            rcases Nat.lt_or_ge k z with h | h
            · exact h
            · exact absurd ⟨by omega, hkm, hx⟩ (hst.1 (by omega))
          clear hx hst
          generalize tagN (xs.getD k 0) = t at *
          generalize xs.getD k 0 = x at *
          go_wp2_with (first | (go_at_call 176; refine (unhide HTG).mono ?_; rintro e w' ⟨rfl, hw⟩; rw [hw]; clear hw) | (go_at_call 213; refine (unhide HDN).mono ?_; rintro e w' ⟨rfl, hw⟩; rw [hw]; clear hw))
          go_round
          case rel => exact ⟨k + 1, by omega, by go_num⟩
          case measure => simp [intOf]; omega
      · have e2 : ¬ (k : Int) < (m : Int) := by omega
        obtain rfl : k = z := by omega
        clear hst
        go_wp2_with fail
        go_ret
        exact ⟨rfl, rfl⟩
    · have e1 : ¬ (k : Int) < (n : Int) := by omega
      obtain rfl : k = z := by omega
      clear hst
      go_wp2_with fail
      go_ret
      exact ⟨rfl, rfl⟩

end Go.Proofs.Ygcfag
