/-
  WALKS: law's typesOf; schema's widthOf.
-/
import Derived.Test.YgcfagW118
namespace Go.Proofs.Ygcfag
open Go.RowKit
set_option linter.unusedVariables false
set_option linter.unusedSimpArgs false

theorem und246 : Fagg.prog.underlying 246 = some (.array 11 5) := by kernel_rfl
def shOf : Nat → Nat | 0 => 0 | 1 => 3 | 2 => 4 | 3 => 5 | 4 => 6 | 5 => 3 | 6 => 4 | 7 => 5 | 8 => 6 | 9 => 5 | _ => 6
theorem shOf_ok (k : Nat) : ShOK (shOf k) := by
  unfold shOf ShOK; split <;> simp
theorem width_k0 (w : World) : Calls Fagg.prog 58 #[.int .u8 0] w fun e w' => e = .returned (.int .u8 1) ∧ w' = w := by
  have I0 := fun (cs : Array Value) (hc : cs = #[.int .u8 1, .int .u8 8, .int .u8 16, .int .u8 32, .int .u8 64, .int .u8 8, .int .u8 16, .int .u8 32, .int .u8 64, .int .u8 32, .int .u8 64]) (W : World) => show (Instr.index 246 (.agg cs) (.int .u8 0)).run Fagg.prog W = .ok (.int .u8 1) W by subst hc; simp [Instr.index, run_underlying und246, asIntOf, go_sem]
  have I1 := I0 _ rfl
  clear I0
  go_enter Fagg.func58, Fagg.ntmps58
  go_wp2_with fail
  go_ret
  exact ⟨rfl, rfl⟩
theorem width_k1 (w : World) : Calls Fagg.prog 58 #[.int .u8 1] w fun e w' => e = .returned (.int .u8 8) ∧ w' = w := by
  have I0 := fun (cs : Array Value) (hc : cs = #[.int .u8 1, .int .u8 8, .int .u8 16, .int .u8 32, .int .u8 64, .int .u8 8, .int .u8 16, .int .u8 32, .int .u8 64, .int .u8 32, .int .u8 64]) (W : World) => show (Instr.index 246 (.agg cs) (.int .u8 1)).run Fagg.prog W = .ok (.int .u8 8) W by subst hc; simp [Instr.index, run_underlying und246, asIntOf, go_sem]
  have I1 := I0 _ rfl
  clear I0
  go_enter Fagg.func58, Fagg.ntmps58
  go_wp2_with fail
  go_ret
  exact ⟨rfl, rfl⟩
theorem width_k2 (w : World) : Calls Fagg.prog 58 #[.int .u8 2] w fun e w' => e = .returned (.int .u8 16) ∧ w' = w := by
  have I0 := fun (cs : Array Value) (hc : cs = #[.int .u8 1, .int .u8 8, .int .u8 16, .int .u8 32, .int .u8 64, .int .u8 8, .int .u8 16, .int .u8 32, .int .u8 64, .int .u8 32, .int .u8 64]) (W : World) => show (Instr.index 246 (.agg cs) (.int .u8 2)).run Fagg.prog W = .ok (.int .u8 16) W by subst hc; simp [Instr.index, run_underlying und246, asIntOf, go_sem]
  have I1 := I0 _ rfl
  clear I0
  go_enter Fagg.func58, Fagg.ntmps58
  go_wp2_with fail
  go_ret
  exact ⟨rfl, rfl⟩
theorem width_k3 (w : World) : Calls Fagg.prog 58 #[.int .u8 3] w fun e w' => e = .returned (.int .u8 32) ∧ w' = w := by
  have I0 := fun (cs : Array Value) (hc : cs = #[.int .u8 1, .int .u8 8, .int .u8 16, .int .u8 32, .int .u8 64, .int .u8 8, .int .u8 16, .int .u8 32, .int .u8 64, .int .u8 32, .int .u8 64]) (W : World) => show (Instr.index 246 (.agg cs) (.int .u8 3)).run Fagg.prog W = .ok (.int .u8 32) W by subst hc; simp [Instr.index, run_underlying und246, asIntOf, go_sem]
  have I1 := I0 _ rfl
  clear I0
  go_enter Fagg.func58, Fagg.ntmps58
  go_wp2_with fail
  go_ret
  exact ⟨rfl, rfl⟩
theorem width_k4 (w : World) : Calls Fagg.prog 58 #[.int .u8 4] w fun e w' => e = .returned (.int .u8 64) ∧ w' = w := by
  have I0 := fun (cs : Array Value) (hc : cs = #[.int .u8 1, .int .u8 8, .int .u8 16, .int .u8 32, .int .u8 64, .int .u8 8, .int .u8 16, .int .u8 32, .int .u8 64, .int .u8 32, .int .u8 64]) (W : World) => show (Instr.index 246 (.agg cs) (.int .u8 4)).run Fagg.prog W = .ok (.int .u8 64) W by subst hc; simp [Instr.index, run_underlying und246, asIntOf, go_sem]
  have I1 := I0 _ rfl
  clear I0
  go_enter Fagg.func58, Fagg.ntmps58
  go_wp2_with fail
  go_ret
  exact ⟨rfl, rfl⟩
theorem width_k5 (w : World) : Calls Fagg.prog 58 #[.int .u8 5] w fun e w' => e = .returned (.int .u8 8) ∧ w' = w := by
  have I0 := fun (cs : Array Value) (hc : cs = #[.int .u8 1, .int .u8 8, .int .u8 16, .int .u8 32, .int .u8 64, .int .u8 8, .int .u8 16, .int .u8 32, .int .u8 64, .int .u8 32, .int .u8 64]) (W : World) => show (Instr.index 246 (.agg cs) (.int .u8 5)).run Fagg.prog W = .ok (.int .u8 8) W by subst hc; simp [Instr.index, run_underlying und246, asIntOf, go_sem]
  have I1 := I0 _ rfl
  clear I0
  go_enter Fagg.func58, Fagg.ntmps58
  go_wp2_with fail
  go_ret
  exact ⟨rfl, rfl⟩
theorem width_k6 (w : World) : Calls Fagg.prog 58 #[.int .u8 6] w fun e w' => e = .returned (.int .u8 16) ∧ w' = w := by
  have I0 := fun (cs : Array Value) (hc : cs = #[.int .u8 1, .int .u8 8, .int .u8 16, .int .u8 32, .int .u8 64, .int .u8 8, .int .u8 16, .int .u8 32, .int .u8 64, .int .u8 32, .int .u8 64]) (W : World) => show (Instr.index 246 (.agg cs) (.int .u8 6)).run Fagg.prog W = .ok (.int .u8 16) W by subst hc; simp [Instr.index, run_underlying und246, asIntOf, go_sem]
  have I1 := I0 _ rfl
  clear I0
  go_enter Fagg.func58, Fagg.ntmps58
  go_wp2_with fail
  go_ret
  exact ⟨rfl, rfl⟩
theorem width_k7 (w : World) : Calls Fagg.prog 58 #[.int .u8 7] w fun e w' => e = .returned (.int .u8 32) ∧ w' = w := by
  have I0 := fun (cs : Array Value) (hc : cs = #[.int .u8 1, .int .u8 8, .int .u8 16, .int .u8 32, .int .u8 64, .int .u8 8, .int .u8 16, .int .u8 32, .int .u8 64, .int .u8 32, .int .u8 64]) (W : World) => show (Instr.index 246 (.agg cs) (.int .u8 7)).run Fagg.prog W = .ok (.int .u8 32) W by subst hc; simp [Instr.index, run_underlying und246, asIntOf, go_sem]
  have I1 := I0 _ rfl
  clear I0
  go_enter Fagg.func58, Fagg.ntmps58
  go_wp2_with fail
  go_ret
  exact ⟨rfl, rfl⟩
theorem width_k8 (w : World) : Calls Fagg.prog 58 #[.int .u8 8] w fun e w' => e = .returned (.int .u8 64) ∧ w' = w := by
  have I0 := fun (cs : Array Value) (hc : cs = #[.int .u8 1, .int .u8 8, .int .u8 16, .int .u8 32, .int .u8 64, .int .u8 8, .int .u8 16, .int .u8 32, .int .u8 64, .int .u8 32, .int .u8 64]) (W : World) => show (Instr.index 246 (.agg cs) (.int .u8 8)).run Fagg.prog W = .ok (.int .u8 64) W by subst hc; simp [Instr.index, run_underlying und246, asIntOf, go_sem]
  have I1 := I0 _ rfl
  clear I0
  go_enter Fagg.func58, Fagg.ntmps58
  go_wp2_with fail
  go_ret
  exact ⟨rfl, rfl⟩
theorem width_k9 (w : World) : Calls Fagg.prog 58 #[.int .u8 9] w fun e w' => e = .returned (.int .u8 32) ∧ w' = w := by
  have I0 := fun (cs : Array Value) (hc : cs = #[.int .u8 1, .int .u8 8, .int .u8 16, .int .u8 32, .int .u8 64, .int .u8 8, .int .u8 16, .int .u8 32, .int .u8 64, .int .u8 32, .int .u8 64]) (W : World) => show (Instr.index 246 (.agg cs) (.int .u8 9)).run Fagg.prog W = .ok (.int .u8 32) W by subst hc; simp [Instr.index, run_underlying und246, asIntOf, go_sem]
  have I1 := I0 _ rfl
  clear I0
  go_enter Fagg.func58, Fagg.ntmps58
  go_wp2_with fail
  go_ret
  exact ⟨rfl, rfl⟩
theorem width_k10 (w : World) : Calls Fagg.prog 58 #[.int .u8 10] w fun e w' => e = .returned (.int .u8 64) ∧ w' = w := by
  have I0 := fun (cs : Array Value) (hc : cs = #[.int .u8 1, .int .u8 8, .int .u8 16, .int .u8 32, .int .u8 64, .int .u8 8, .int .u8 16, .int .u8 32, .int .u8 64, .int .u8 32, .int .u8 64]) (W : World) => show (Instr.index 246 (.agg cs) (.int .u8 10)).run Fagg.prog W = .ok (.int .u8 64) W by subst hc; simp [Instr.index, run_underlying und246, asIntOf, go_sem]
  have I1 := I0 _ rfl
  clear I0
  go_enter Fagg.func58, Fagg.ntmps58
  go_wp2_with fail
  go_ret
  exact ⟨rfl, rfl⟩
theorem width_any (k : Nat) (hk : k < 11) (w : World) : Calls Fagg.prog 58 #[.int .u8 (k : Int)] w fun e w' => e = .returned (.int .u8 ((2 ^ shOf k : Nat) : Int)) ∧ w' = w := by
  match k, hk with
  | 0, _ => exact width_k0 w
  | 1, _ => exact width_k1 w
  | 2, _ => exact width_k2 w
  | 3, _ => exact width_k3 w
  | 4, _ => exact width_k4 w
  | 5, _ => exact width_k5 w
  | 6, _ => exact width_k6 w
  | 7, _ => exact width_k7 w
  | 8, _ => exact width_k8 w
  | 9, _ => exact width_k9 w
  | 10, _ => exact width_k10 w

/-- The cells of a row of types. -/
def tsCells (l : List Nat) : List Value := l.flatMap (fun (k : Nat) => [Value.int .u8 (k : Int), .int .u8 0, .int .u8 0, .int .u8 0])
theorem tsCells_cons (k : Nat) (l : List Nat) : tsCells (k :: l) = [Value.int .u8 (k : Int), .int .u8 0, .int .u8 0, .int .u8 0] ++ tsCells l := rfl
theorem tsCells_len (l : List Nat) : (tsCells l).length = 4 * l.length := by
  induction l with
  | nil => rfl
  | cons p l ih => rw [tsCells_cons, List.length_append, ih]; simp; omega
theorem tsCells_get (l : List Nat) (j r : Nat) (hj : j < l.length) (hr : r < 4) : (tsCells l)[4 * j + r]? = [Value.int .u8 ((l.getD j 0 : Nat) : Int), .int .u8 0, .int .u8 0, .int .u8 0][r]? := by
  induction l generalizing j with
  | nil => simp at hj
  | cons p l ih =>
    rw [tsCells_cons]
    cases j with
    | zero => rw [List.getElem?_append_left (by simp; omega)]; simp
    | succ j =>
      rw [List.getElem?_append_right (by simp; omega)]
      rw [show 4 * (j + 1) + r - ([Value.int .u8 (p : Int), .int .u8 0, .int .u8 0, .int .u8 0] : List Value).length = 4 * j + r by simp; omega]
      simpa using ih j (by simpa using hj)
theorem tsCells_set (l : List Nat) (j k : Nat) (hj : j < l.length) : (tsCells l).set (j * 4) (.int .u8 (k : Int)) = tsCells (l.set j k) := by
  induction l generalizing j with
  | nil => simp at hj
  | cons p l ih =>
    cases j with
    | zero => rfl
    | succ j =>
      rw [List.set_cons_succ, tsCells_cons, tsCells_cons, List.set_append_right _ _ (by simp; omega)]
      rw [show (j + 1) * 4 - ([Value.int .u8 (p : Int), .int .u8 0, .int .u8 0, .int .u8 0] : List Value).length = j * 4 by simp; omega]
      rw [ih j (by simpa using hj)]
theorem info110 : (Fagg.prog.info? 110).map (fun i => (i.zero, i.size, i.bytes)) = some (some (.agg #[.int .u8 0, .int .u8 0, .int .u8 0, .int .u8 0]), 4, 4) := by kernel_rfl
def kindN (ks : List Int) (m : Nat) : List Nat := (ks.take m).map (fun k => (k % 11).toNat)
/-- The kinds of which j are laid. -/
def laid (ks : List Int) (m j : Nat) : List Nat := kindN ks j ++ List.replicate (m - j) 0
theorem laid_len (ks : List Int) (m j : Nat) (hj : j ≤ m) (hm : m ≤ ks.length) : (laid ks m j).length = m := by simp [laid, kindN]; omega
theorem laid_set (ks : List Int) (m j : Nat) (hj : j < m) (hm : m ≤ ks.length) : (laid ks m j).set j ((ks.getD j 0 % 11).toNat) = laid ks m (j + 1) := by
  have h1 : (kindN ks j).length = j := by simp [kindN]; omega
  unfold laid
  rw [List.set_append_right _ _ (by omega), h1, Nat.sub_self, show m - j = (m - (j + 1)) + 1 by omega, List.replicate_succ, List.set_cons_zero]
  have h2 : kindN ks (j + 1) = kindN ks j ++ [(ks.getD j 0 % 11).toNat] := by
    unfold kindN
    rw [List.take_add_one, List.map_append, List.getElem?_eq_getElem (by omega), List.getD_eq_getElem?_getD, List.getElem?_eq_getElem (by omega)]
    rfl
  rw [h2, List.append_assoc]; rfl
end Go.Proofs.Ygcfag
