/-
  WALKS: wire.Width, wire.Words of a plain list.
-/
import Derived.Test.YgcfagW25
namespace Go.Proofs.Ygcfag
open Go.RowKit
set_option linter.unusedVariables false
set_option linter.unusedSimpArgs false

set_option maxHeartbeats 1000000 in
theorem width_2 (w : World) : Calls Fagg.prog 147 #[.int .u8 2] w fun e w' => e = .returned (.int .u8 1) ∧ w' = w := by
  go_enter Fagg.func147, Fagg.ntmps147
  go_wp2
  go_ret
  exact ⟨rfl, rfl⟩

set_option maxHeartbeats 1000000 in
theorem width_3 (w : World) : Calls Fagg.prog 147 #[.int .u8 3] w fun e w' => e = .returned (.int .u8 2) ∧ w' = w := by
  go_enter Fagg.func147, Fagg.ntmps147
  go_wp2
  go_ret
  exact ⟨rfl, rfl⟩

set_option maxHeartbeats 1000000 in
theorem width_4 (w : World) : Calls Fagg.prog 147 #[.int .u8 4] w fun e w' => e = .returned (.int .u8 4) ∧ w' = w := by
  go_enter Fagg.func147, Fagg.ntmps147
  go_wp2
  go_ret
  exact ⟨rfl, rfl⟩

set_option maxHeartbeats 1000000 in
theorem width_5 (w : World) : Calls Fagg.prog 147 #[.int .u8 5] w fun e w' => e = .returned (.int .u8 8) ∧ w' = w := by
  go_enter Fagg.func147, Fagg.ntmps147
  go_wp2
  go_ret
  exact ⟨rfl, rfl⟩

set_option maxHeartbeats 1000000 in
set_option maxRecDepth 100000 in
theorem wl_2 (n : Int) (w : World) (h0 : 0 ≤ n) (h1 : n ≤ 128) : Calls Fagg.prog 145 #[.agg #[.int .u8 2, .int .u16 0, .int .u8 0, .int .u8 0, .int .u8 2, .int .u16 n]] w fun e w' => e = .returned (.int .u16 ((n + 7) / 8)) ∧ Below w.heap.size w w' := by
  have e1 : ¬ n > 128 := by omega
  go_enter Fagg.func145, Fagg.ntmps145
  go_wp2_with fail
  go_quiet ((go_at_call 147; exact Calls.quiet_of ((width_2 _).mono fun e w' h => ⟨h.1, 0, h.2⟩)))
  go_wp2
  go_ret
  refine ⟨ret_int ?_, ?_⟩
  · rw [Int.tdiv_eq_ediv_of_nonneg (by omega), IntKind.wrap_u16]; omega
  · exact ((Below.refl _ _).alloc (Nat.le_refl _) _).trans ((drewN_below _ _).mono (by simp))

set_option maxHeartbeats 1000000 in
set_option maxRecDepth 100000 in
theorem wl_3 (n : Int) (w : World) (h0 : 0 ≤ n) (h1 : n ≤ 128) : Calls Fagg.prog 145 #[.agg #[.int .u8 2, .int .u16 0, .int .u8 0, .int .u8 0, .int .u8 3, .int .u16 n]] w fun e w' => e = .returned (.int .u16 ((n * 2 + 7) / 8)) ∧ Below w.heap.size w w' := by
  have e1 : ¬ n > 128 := by omega
  go_enter Fagg.func145, Fagg.ntmps145
  go_wp2_with fail
  go_quiet ((go_at_call 147; exact Calls.quiet_of ((width_3 _).mono fun e w' h => ⟨h.1, 0, h.2⟩)))
  go_wp2
  go_ret
  refine ⟨ret_int ?_, ?_⟩
  · rw [Int.tdiv_eq_ediv_of_nonneg (by omega), IntKind.wrap_u16]; omega
  · exact ((Below.refl _ _).alloc (Nat.le_refl _) _).trans ((drewN_below _ _).mono (by simp))

set_option maxHeartbeats 1000000 in
set_option maxRecDepth 100000 in
theorem wl_4 (n : Int) (w : World) (h0 : 0 ≤ n) (h1 : n ≤ 128) : Calls Fagg.prog 145 #[.agg #[.int .u8 2, .int .u16 0, .int .u8 0, .int .u8 0, .int .u8 4, .int .u16 n]] w fun e w' => e = .returned (.int .u16 ((n * 4 + 7) / 8)) ∧ Below w.heap.size w w' := by
  have e1 : ¬ n > 128 := by omega
  go_enter Fagg.func145, Fagg.ntmps145
  go_wp2_with fail
  go_quiet ((go_at_call 147; exact Calls.quiet_of ((width_4 _).mono fun e w' h => ⟨h.1, 0, h.2⟩)))
  go_wp2
  go_ret
  refine ⟨ret_int ?_, ?_⟩
  · rw [Int.tdiv_eq_ediv_of_nonneg (by omega), IntKind.wrap_u16]; omega
  · exact ((Below.refl _ _).alloc (Nat.le_refl _) _).trans ((drewN_below _ _).mono (by simp))

set_option maxHeartbeats 1000000 in
set_option maxRecDepth 100000 in
theorem wl_5 (n : Int) (w : World) (h0 : 0 ≤ n) (h1 : n ≤ 128) : Calls Fagg.prog 145 #[.agg #[.int .u8 2, .int .u16 0, .int .u8 0, .int .u8 0, .int .u8 5, .int .u16 n]] w fun e w' => e = .returned (.int .u16 ((n * 8 + 7) / 8)) ∧ Below w.heap.size w w' := by
  have e1 : ¬ n > 128 := by omega
  go_enter Fagg.func145, Fagg.ntmps145
  go_wp2_with fail
  go_quiet ((go_at_call 147; exact Calls.quiet_of ((width_5 _).mono fun e w' h => ⟨h.1, 0, h.2⟩)))
  go_wp2
  go_ret
  refine ⟨ret_int ?_, ?_⟩
  · rw [Int.tdiv_eq_ediv_of_nonneg (by omega), IntKind.wrap_u16]; omega
  · exact ((Below.refl _ _).alloc (Nat.le_refl _) _).trans ((drewN_below _ _).mono (by simp))

set_option maxHeartbeats 1000000 in
set_option maxRecDepth 100000 in
theorem wl_6 (n : Int) (w : World) (h0 : 0 ≤ n) (h1 : n ≤ 128) : Calls Fagg.prog 145 #[.agg #[.int .u8 2, .int .u16 0, .int .u8 0, .int .u8 0, .int .u8 6, .int .u16 n]] w fun e w' => e = .returned (.int .u16 n) ∧ Below w.heap.size w w' := by
  have e1 : ¬ n > 128 := by omega
  go_enter Fagg.func145, Fagg.ntmps145
  go_wp2_with fail
  go_ret
  exact ⟨rfl, (Below.refl _ _).alloc (Nat.le_refl _) _⟩

/-- The words of a plain list. -/
theorem wl_any (code n : Int) (w : World) (hc : 2 ≤ code) (hc2 : code ≤ 6) (h0 : 0 ≤ n) (h1 : n ≤ 128) : Calls Fagg.prog 145 #[.agg #[.int .u8 2, .int .u16 0, .int .u8 0, .int .u8 0, .int .u8 code, .int .u16 n]] w fun e w' => e = .returned (.int .u16 (listWords code n)) ∧ Below w.heap.size w w' := by
  obtain rfl | rfl | rfl | rfl | rfl : code = 2 ∨ code = 3 ∨ code = 4 ∨ code = 5 ∨ code = 6 := by omega
  · have e : listWords 2 n = (n + 7) / 8 := by unfold listWords; simp
    rw [e]; exact wl_2 n w h0 h1
  · have e : listWords 3 n = (n * 2 + 7) / 8 := by unfold listWords; simp
    rw [e]; exact wl_3 n w h0 h1
  · have e : listWords 4 n = (n * 4 + 7) / 8 := by unfold listWords; simp
    rw [e]; exact wl_4 n w h0 h1
  · have e : listWords 5 n = (n * 8 + 7) / 8 := by unfold listWords; simp
    rw [e]; exact wl_5 n w h0 h1
  · have e : listWords 6 n = n := by unfold listWords; simp
    rw [e]; exact wl_6 n w h0 h1

theorem listWords_bd (code n : Int) (hc : 2 ≤ code) (hc2 : code ≤ 6) (h0 : 0 ≤ n) (h1 : n ≤ 128) : 0 ≤ listWords code n ∧ listWords code n ≤ 128 := by
  obtain rfl | rfl | rfl | rfl | rfl : code = 2 ∨ code = 3 ∨ code = 4 ∨ code = 5 ∨ code = 6 := by omega
  all_goals (unfold listWords; simp; omega)
end Go.Proofs.Ygcfag
