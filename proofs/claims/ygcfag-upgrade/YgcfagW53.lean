/-
  WALKS: wire.Words and wire.Extent of a pointer that Resolve gave.
-/
import Derived.Test.YgcfagW27
import Derived.Test.YgcfagPlain14
namespace Go.Proofs.Ygcfag
open Go.RowKit
set_option linter.unusedVariables false
set_option linter.unusedSimpArgs false

set_option maxHeartbeats 1000000 in
set_option maxRecDepth 100000 in
theorem wp_struct (at_ d p : Int) (w : World) (h2 : 0 ≤ d ∧ d ≤ 8) (h3 : 0 ≤ p ∧ p ≤ 8) : Calls Fagg.prog 145 #[.agg #[.int .u8 1, .int .u16 at_, .int .u8 d, .int .u8 p, .int .u8 0, .int .u16 0]] w fun e w' => e = .returned (.int .u16 (d + p)) ∧ Below w.heap.size w w' := by
  have e1 : d ≤ 8 := h2.2
  have e2 : p ≤ 8 := h3.2
  go_enter Fagg.func145, Fagg.ntmps145
  go_wp2_with fail
  go_ret
  exact ⟨ret_int (by go_num), (Below.refl _ _).alloc (Nat.le_refl _) _⟩

set_option maxHeartbeats 1000000 in
set_option maxRecDepth 100000 in
theorem wp_structs (at_ d p n : Int) (w : World) (h2 : 0 ≤ d ∧ d ≤ 8) (h3 : 0 ≤ p ∧ p ≤ 8) (h4 : 0 ≤ n ∧ n ≤ 128) (h5 : n * (d + p) + 1 ≤ 256) : Calls Fagg.prog 145 #[.agg #[.int .u8 2, .int .u16 at_, .int .u8 d, .int .u8 p, .int .u8 7, .int .u16 n]] w fun e w' => e = .returned (.int .u16 (1 + n * (d + p))) ∧ Below w.heap.size w w' := by
  have e1 : d ≤ 8 := h2.2
  have e2 : p ≤ 8 := h3.2
  have e3 : ¬ n > 128 := by omega
  have hm : 0 ≤ n * (d + p) := Int.mul_nonneg h4.1 (by omega)
  generalize hmd : n * (d + p) = md at *
  have e4 : min (1 + md) 257 = 1 + md := by omega
  go_enter Fagg.func145, Fagg.ntmps145
  go_wp2_with fail
  go_ret
  exact ⟨rfl, (Below.refl _ _).alloc (Nat.le_refl _) _⟩

set_option maxHeartbeats 1000000 in
set_option maxRecDepth 100000 in
theorem wp_2 (at_ n : Int) (w : World) (h0 : 0 ≤ n) (h1 : n ≤ 128) : Calls Fagg.prog 145 #[.agg #[.int .u8 2, .int .u16 at_, .int .u8 0, .int .u8 0, .int .u8 2, .int .u16 n]] w fun e w' => e = .returned (.int .u16 ((n + 7) / 8)) ∧ Below w.heap.size w w' := by
  have e1 : ¬ n > 128 := by omega
  go_enter Fagg.func145, Fagg.ntmps145
  go_wp2_with fail
  go_quiet ((go_at_call 147; exact Calls.quiet_of ((width_2 _).mono fun e w' h => ⟨h.1, 0, h.2⟩)))
  go_wp2
  go_ret
  refine ⟨ret_int ?_, ?_⟩
  · rw [Int.tdiv_eq_ediv_of_nonneg (by omega), IntKind.wrap_u16]; omega
  · exact ((Below.refl _ _).alloc (Nat.le_refl _) _).trans ((drewN_below _ _).mono (by simp))

set_option maxHeartbeats 1000000 in
set_option maxRecDepth 100000 in
theorem wp_3 (at_ n : Int) (w : World) (h0 : 0 ≤ n) (h1 : n ≤ 128) : Calls Fagg.prog 145 #[.agg #[.int .u8 2, .int .u16 at_, .int .u8 0, .int .u8 0, .int .u8 3, .int .u16 n]] w fun e w' => e = .returned (.int .u16 ((n * 2 + 7) / 8)) ∧ Below w.heap.size w w' := by
  have e1 : ¬ n > 128 := by omega
  go_enter Fagg.func145, Fagg.ntmps145
  go_wp2_with fail
  go_quiet ((go_at_call 147; exact Calls.quiet_of ((width_3 _).mono fun e w' h => ⟨h.1, 0, h.2⟩)))
  go_wp2
  go_ret
  refine ⟨ret_int ?_, ?_⟩
  · rw [Int.tdiv_eq_ediv_of_nonneg (by omega), IntKind.wrap_u16]; omega
  · exact ((Below.refl _ _).alloc (Nat.le_refl _) _).trans ((drewN_below _ _).mono (by simp))

set_option maxHeartbeats 1000000 in
set_option maxRecDepth 100000 in
theorem wp_4 (at_ n : Int) (w : World) (h0 : 0 ≤ n) (h1 : n ≤ 128) : Calls Fagg.prog 145 #[.agg #[.int .u8 2, .int .u16 at_, .int .u8 0, .int .u8 0, .int .u8 4, .int .u16 n]] w fun e w' => e = .returned (.int .u16 ((n * 4 + 7) / 8)) ∧ Below w.heap.size w w' := by
  have e1 : ¬ n > 128 := by omega
  go_enter Fagg.func145, Fagg.ntmps145
  go_wp2_with fail
  go_quiet ((go_at_call 147; exact Calls.quiet_of ((width_4 _).mono fun e w' h => ⟨h.1, 0, h.2⟩)))
  go_wp2
  go_ret
  refine ⟨ret_int ?_, ?_⟩
  · rw [Int.tdiv_eq_ediv_of_nonneg (by omega), IntKind.wrap_u16]; omega
  · exact ((Below.refl _ _).alloc (Nat.le_refl _) _).trans ((drewN_below _ _).mono (by simp))

set_option maxHeartbeats 1000000 in
set_option maxRecDepth 100000 in
theorem wp_5 (at_ n : Int) (w : World) (h0 : 0 ≤ n) (h1 : n ≤ 128) : Calls Fagg.prog 145 #[.agg #[.int .u8 2, .int .u16 at_, .int .u8 0, .int .u8 0, .int .u8 5, .int .u16 n]] w fun e w' => e = .returned (.int .u16 ((n * 8 + 7) / 8)) ∧ Below w.heap.size w w' := by
  have e1 : ¬ n > 128 := by omega
  go_enter Fagg.func145, Fagg.ntmps145
  go_wp2_with fail
  go_quiet ((go_at_call 147; exact Calls.quiet_of ((width_5 _).mono fun e w' h => ⟨h.1, 0, h.2⟩)))
  go_wp2
  go_ret
  refine ⟨ret_int ?_, ?_⟩
  · rw [Int.tdiv_eq_ediv_of_nonneg (by omega), IntKind.wrap_u16]; omega
  · exact ((Below.refl _ _).alloc (Nat.le_refl _) _).trans ((drewN_below _ _).mono (by simp))

set_option maxHeartbeats 1000000 in
set_option maxRecDepth 100000 in
theorem wp_6 (at_ n : Int) (w : World) (h0 : 0 ≤ n) (h1 : n ≤ 128) : Calls Fagg.prog 145 #[.agg #[.int .u8 2, .int .u16 at_, .int .u8 0, .int .u8 0, .int .u8 6, .int .u16 n]] w fun e w' => e = .returned (.int .u16 n) ∧ Below w.heap.size w w' := by
  have e1 : ¬ n > 128 := by omega
  go_enter Fagg.func145, Fagg.ntmps145
  go_wp2_with fail
  go_ret
  exact ⟨rfl, (Below.refl _ _).alloc (Nat.le_refl _) _⟩

/-- The words of what Resolve gave. -/
theorem words_good (q : Pt) (w : World) (h : GoodPt q) : Calls Fagg.prog 145 #[ptV q] w fun e w' => e = .returned (.int .u16 (wordsOf q)) ∧ Below w.heap.size w w' := by
  cases h with
  | struct at_ d p h1 h2 h3 =>
    have e : wordsOf ⟨1, at_, d, p, 0, 0⟩ = d + p := by simp [wordsOf]
    rw [e]; exact wp_struct at_ d p w h2 h3
  | list at_ c n h1 h2 h3 =>
    obtain rfl | rfl | rfl | rfl | rfl : c = 2 ∨ c = 3 ∨ c = 4 ∨ c = 5 ∨ c = 6 := by omega
    · have e : wordsOf ⟨2, at_, 0, 0, 2, n⟩ = (n + 7) / 8 := by simp [wordsOf, listWords]
      rw [e]; exact wp_2 at_ n w h3.1 h3.2
    · have e : wordsOf ⟨2, at_, 0, 0, 3, n⟩ = (n * 2 + 7) / 8 := by simp [wordsOf, listWords]
      rw [e]; exact wp_3 at_ n w h3.1 h3.2
    · have e : wordsOf ⟨2, at_, 0, 0, 4, n⟩ = (n * 4 + 7) / 8 := by simp [wordsOf, listWords]
      rw [e]; exact wp_4 at_ n w h3.1 h3.2
    · have e : wordsOf ⟨2, at_, 0, 0, 5, n⟩ = (n * 8 + 7) / 8 := by simp [wordsOf, listWords]
      rw [e]; exact wp_5 at_ n w h3.1 h3.2
    · have e : wordsOf ⟨2, at_, 0, 0, 6, n⟩ = n := by simp [wordsOf, listWords]
      rw [e]; exact wp_6 at_ n w h3.1 h3.2
  | structs at_ d p n h1 h2 h3 h4 h5 =>
    have e : wordsOf ⟨2, at_, d, p, 7, n⟩ = 1 + n * (d + p) := by simp [wordsOf]
    rw [e]; exact wp_structs at_ d p n w h2 h3 h4 h5

theorem wordsOf_bd {q : Pt} (h : GoodPt q) : 0 ≤ wordsOf q ∧ wordsOf q ≤ 256 := by
  cases h with
  | struct at_ d p h1 h2 h3 => simp [wordsOf]; omega
  | list at_ c n h1 h2 h3 =>
    obtain rfl | rfl | rfl | rfl | rfl : c = 2 ∨ c = 3 ∨ c = 4 ∨ c = 5 ∨ c = 6 := by omega
    all_goals (simp [wordsOf, listWords]; omega)
  | structs at_ d p n h1 h2 h3 h4 h5 =>
    have hm : 0 ≤ n * (d + p) := Int.mul_nonneg h4.1 (by omega)
    simp [wordsOf]; omega
end Go.Proofs.Ygcfag
