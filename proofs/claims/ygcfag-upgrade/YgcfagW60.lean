/-
  WALKS: seg.walk's push, whole.
-/
import Derived.Test.YgcfagW59
namespace Go.Proofs.Ygcfag
open Go.RowKit
set_option linter.unusedVariables false
set_option linter.unusedSimpArgs false

/-- The stack of pointer words still to be followed: place, segment, depth. -/
structure StackAt (w : World) (g : Nat) (L : List (Nat × Nat × Nat)) : Prop where
  le : L.length ≤ 256
  cnt : w.cell? ⟨g, 800, none⟩ = some (.int .u16 (L.length : Int))
  cntf : w.frozen? ⟨g, 800, none⟩ = false
  room : ∀ p, 32 ≤ p → p < 800 → (∃ v, w.cell? ⟨g, p, none⟩ = some v) ∧ w.frozen? ⟨g, p, none⟩ = false
  c0 : ∀ i, i < L.length → w.cell? ⟨g, 32 + i * 3, none⟩ = some (.int .u16 ((L.getD i (0, 0, 0)).1 : Int))
  c1 : ∀ i, i < L.length → w.cell? ⟨g, 32 + i * 3 + 1, none⟩ = some (.int .u8 ((L.getD i (0, 0, 0)).2.1 : Int))
  c2 : ∀ i, i < L.length → w.cell? ⟨g, 32 + i * 3 + 2, none⟩ = some (.int .u8 ((L.getD i (0, 0, 0)).2.2 : Int))

/-- Nothing but the stack has turned. -/
structure WroteS (g : Nat) (w w' : World) : Prop where
  cell : ∀ b p, b ≠ g ∨ p < 32 ∨ 800 < p → w'.cell? ⟨b, p, none⟩ = w.cell? ⟨b, p, none⟩
  frozen : ∀ b p, w'.frozen? ⟨b, p, none⟩ = w.frozen? ⟨b, p, none⟩
  size : w'.heap.size = w.heap.size
  bel : ∀ B, B ≤ g → Below B w w'
theorem WroteS.refl (g : Nat) (w : World) : WroteS g w w := ⟨fun _ _ _ => rfl, fun _ _ => rfl, rfl, fun _ _ => Below.refl _ _⟩
theorem WroteS.set {g : Nat} {w u : World} (h : WroteS g w u) (p : Nat) (h1 : 32 ≤ p) (h2 : p ≤ 800) (x : Value) : WroteS g w (u.setCell ⟨g, p, none⟩ x) := by
  refine ⟨fun b p' hb => ?_, fun b p' => ?_, ?_, fun B hB => (h.bel B hB).setCell hB _⟩
  · rw [← h.cell b p' hb]
    by_cases hb' : b = g
    · have hp : ¬ p' = p := by omega
      subst hb'
      simp [go_sem, hp]
    · simp [go_sem, hb']
  · rw [← h.frozen b p']; simp [go_sem]
  · rw [← h.size]; simp
theorem WroteS.drew {g : Nat} {w u : World} (h : WroteS g w u) : WroteS g w u.drew := ⟨h.cell, h.frozen, h.size, fun B hB => (h.bel B hB).drew⟩

theorem cell_other (u : World) (g p p' : Nat) (x : Value) (h : p' ≠ p) : (u.setCell ⟨g, p, none⟩ x).cell? ⟨g, p', none⟩ = u.cell? ⟨g, p', none⟩ := by simp [go_sem, h]
theorem cell_same (u : World) (g p : Nat) (x y : Value) (h : u.cell? ⟨g, p, none⟩ = some y) : (u.setCell ⟨g, p, none⟩ x).cell? ⟨g, p, none⟩ = some x := by simp [go_sem, h]
theorem frozen_set (u : World) (g p p' : Nat) (x : Value) : (u.setCell ⟨g, p, none⟩ x).frozen? ⟨g, p', none⟩ = u.frozen? ⟨g, p', none⟩ := by simp [go_sem]
end Go.Proofs.Ygcfag
