/-
  WALKS: bitsx.Ones and Low at bytes.
-/
import Derived.Test.YgcfagBase
namespace Go.Proofs.Ygcfag
open Go.RowKit
set_option linter.unusedVariables false
set_option linter.unusedSimpArgs false

def onesE (x : Int) : Int :=
  let a := IntKind.u64.wrap (x - bits BinOp.and IntKind.u64 (x / 2) 6148914691236517205)
  let b := IntKind.u64.wrap (bits BinOp.and IntKind.u64 a 3689348814741910323 + bits BinOp.and IntKind.u64 (a / 4) 3689348814741910323)
  let c := bits BinOp.and IntKind.u64 (IntKind.u64.wrap (b + b / 16)) 1085102592571150095
  IntKind.u64.wrap (c * 72340172838076673) / 72057594037927936 % 256

theorem onesE_eq : ∀ x : Fin 256, onesE (x.val : Int) = (popc x.val : Int) := by decide +kernel

theorem onesE_int (x : Int) (h0 : 0 ≤ x) (h1 : x < 256) : onesE x = (popc x.toNat : Int) := by
  obtain ⟨n, rfl⟩ := Int.eq_ofNat_of_zero_le h0
  exact onesE_eq ⟨n, by omega⟩

set_option maxHeartbeats 400000 in
theorem ones_any (x : Int) (w : World) (h0 : 0 ≤ x) (h1 : x < 256) :
    Calls Fagg.prog 215 #[.int .u64 x] w fun e w' => e = .returned (.int .u8 (popc x.toNat : Int)) ∧ w' = w := by
  have H := hide (onesE_int x h0 h1)
  go_enter Fagg.func215, Fagg.ntmps215
  go_wp2
  go_ret
  exact ⟨ret_int (unhide H), rfl⟩

theorem lowE_eq : ∀ x : Fin 256, x.val ≠ 0 → IntKind.u64.wrap (bits .and .u64 (x.val : Int) (IntKind.u64.wrap (-(x.val : Int))) - 1) = (2 ^ low8 x.val - 1 : Nat) := by decide +kernel
theorem low8_popc : ∀ x : Fin 256, x.val ≠ 0 → popc (2 ^ low8 x.val - 1) = low8 x.val ∧ 2 ^ low8 x.val - 1 < 256 := by decide +kernel

set_option maxHeartbeats 400000 in
theorem low_any (x : Int) (w : World) (h0 : 1 ≤ x) (h1 : x < 256) :
    Calls Fagg.prog 216 #[.int .u64 x] w fun e w' => e = .returned (.int .u8 (low8 x.toNat : Int)) ∧ w' = w := by
  obtain ⟨n, rfl⟩ := Int.eq_ofNat_of_zero_le (show 0 ≤ x by omega)
  have H := hide (lowE_eq ⟨n, by omega⟩ (by simp; omega))
  have HP := hide (low8_popc ⟨n, by omega⟩ (by simp; omega))
  go_enter Fagg.func216, Fagg.ntmps216
  go_wp2_with fail
  rw [unhide H]
  refine (ones_any _ _ (by omega) (by have := (unhide HP).2; omega)).mono ?_
  rintro e w' ⟨rfl, rfl⟩
  go_wp2
  go_ret
  exact ⟨ret_int (by rw [Int.toNat_natCast, (unhide HP).1]), rfl⟩

theorem low_nat (r l : Nat) (w : World) (h0 : 1 ≤ r) (h1 : r < 256) (hl : Hid (low8 r = l)) :
    Calls Fagg.prog 216 #[.int .u64 (r : Int)] w fun e w' => e = .returned (.int .u8 (l : Int)) ∧ w' = w :=
  (low_any (r : Int) w (by omega) (by omega)).mono fun _ _ ⟨he, hw⟩ => ⟨by rw [he, Int.toNat_natCast, unhide hl], hw⟩

/-- A cursor in the midst of its stream. -/
theorem check_any (g n c i : Nat) (a : Option Addr) (ao : Option Addr) (no co : Nat) (w : World) (h0 : w.cell? ⟨g, 0, none⟩ = some (.slice a n c)) (h1 : w.cell? ⟨g, 1, none⟩ = some (.int .u16 (i : Int)))
    (h2 : w.cell? ⟨g, 2, none⟩ = some (.slice ao no co)) (hn : (n : Int) ≤ 4096) (hi : (i : Int) ≤ (n : Int)) (ho : (no : Int) ≤ 256) :
    Calls Fagg.prog 214 #[.pointer (some ⟨g, 0, none⟩)] w fun e w' => e = .returned (.bool true) ∧ ∃ m, w' = w.drewN m := by
  go_enter Fagg.func214, Fagg.ntmps214
  go_wp2_with fail
  go_quiet (fail)
  go_wp2
  go_ret
  exact ⟨rfl, _, rfl⟩
end Go.Proofs.Ygcfag
