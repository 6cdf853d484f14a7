/-
  WALKS: the builder: its rows; hang.
-/
import Derived.Test.YgcfagW107
namespace Go.Proofs.Ygcfag
open Go.RowKit
set_option linter.unusedVariables false
set_option linter.unusedSimpArgs false

def bOff : Nat → Nat | 0 => 0 | k + 1 => k + 5
def bTy : Nat → TypeId | 0 => 32 | 1 => 58 | 5 => 4 | _ => 5
def bSz : Nat → Nat | 1 => 6 | _ => 1
def upd {α : Type} (f : Nat → α) (k : Nat) (x : α) : Nat → α := fun i => if i = k then x else f i
theorem upd_same {α : Type} (f : Nat → α) (k : Nat) (x : α) : upd f k x k = x := by simp [upd]
theorem upd_other {α : Type} (f : Nat → α) (k : Nat) (x : α) {i : Nat} (h : i ≠ k) : upd f k x i = f i := by simp [upd, h]
theorem bOff_inj {i j : Nat} (h : bOff i = bOff j) : i = j := by
  unfold bOff at h
  split at h <;> split at h <;> omega
theorem bOff_lt {i : Nat} (h : i < 6) : bOff i < 10 := by unfold bOff; split <;> omega

/-- A builder at block B: its six rows, each its own. -/
structure BdAt (w0 w : World) (B : Nat) (v : Nat → Value) (n : Nat → Nat) (xs : Nat → List Value) : Prop where
  bel : Below w0.heap.size w0 w
  bb : w0.heap.size ≤ B
  bl : B < w.heap.size
  cell : ∀ k, k < 6 → w.cell? ⟨B, bOff k, none⟩ = some (v k)
  fz : ∀ p, p < 10 → w.frozen? ⟨B, p, none⟩ = false
  own : ∀ k, k < 6 → w.ownsRow w0.heap.size (bTy k) (bSz k) (v k) (n k) (xs k)
  ne : ∀ i j, i < 6 → j < 6 → i ≠ j → (v i).ownBlock = none ∨ (v i).ownBlock ≠ (v j).ownBlock
  nb : ∀ k, k < 6 → (v k).ownBlock ≠ some B

/-- Blocks that are neither the builder's own nor its rows' lie as they lay. -/
structure FarFrom (w w' : World) (B : Nat) (v v' : Nat → Value) : Prop where
  size : w.heap.size ≤ w'.heap.size
  blk : ∀ k, k < w.heap.size → k ≠ B → (∀ i, i < 6 → (v i).ownBlock ≠ some k) → w'.heap[k]? = w.heap[k]? ∧ ∀ i, i < 6 → (v' i).ownBlock ≠ some k
theorem FarFrom.trans {w1 w2 w3 : World} {B : Nat} {v1 v2 v3 : Nat → Value} (h : FarFrom w1 w2 B v1 v2) (h' : FarFrom w2 w3 B v2 v3) : FarFrom w1 w3 B v1 v3 :=
  ⟨Nat.le_trans h.size h'.size, fun k hk hB hv => by
    obtain ⟨a1, a2⟩ := h.blk k hk hB hv
    obtain ⟨b1, b2⟩ := h'.blk k (Nat.lt_of_lt_of_le hk h.size) hB a2
    exact ⟨b1.trans a1, b2⟩⟩
theorem FarFrom.of_below {w w' : World} {B : Nat} {v : Nat → Value} (h : Below w.heap.size w w') : FarFrom w w' B v v :=
  ⟨h.size, fun k hk _ hv => ⟨h.block k hk, hv⟩⟩
theorem FarFrom.cell {w w' : World} {B : Nat} {v v' : Nat → Value} (h : FarFrom w w' B v v') {G : Nat} (hG : G < w.heap.size) (hB : G ≠ B) (hv : ∀ i, i < 6 → (v i).ownBlock ≠ some G) (p : Nat) : w'.cell? ⟨G, p, none⟩ = w.cell? ⟨G, p, none⟩ :=
  World.cell?_of_block (a := ⟨G, p, none⟩) (h.blk G hG hB hv).1

section
variable {w0 w : World} {B : Nat} {v : Nat → Value} {n : Nat → Nat} {xs : Nat → List Value}
theorem BdAt.below (h : BdAt w0 w B v n xs) {w' : World} (hb : Below w.heap.size w w') : BdAt w0 w' B v n xs :=
  ⟨h.bel.trans (hb.mono h.bel.size), h.bb, Nat.lt_of_lt_of_le h.bl hb.size, fun k hk => (hb.cell (p := ⟨B, bOff k, none⟩) h.bl).trans (h.cell k hk), fun p hp => (hb.frozen (p := ⟨B, p, none⟩) h.bl).trans (h.fz p hp), fun k hk => owns_below (h.own k hk) hb, h.ne, h.nb⟩
theorem BdAt.drew (h : BdAt w0 w B v n xs) : BdAt w0 w.drew B v n xs := h.below (Below.refl _ _).drew
theorem BdAt.alloc (h : BdAt w0 w B v n xs) (o : Obj) : BdAt w0 (w.alloc o) B v n xs := h.below ((Below.refl _ _).alloc (Nat.le_refl _) _)
theorem BdAt.own0 (h : BdAt w0 w B v n xs) : w.ownsRow w0.heap.size 32 1 (v 0) (n 0) (xs 0) := h.own 0 (by omega)
theorem BdAt.own1 (h : BdAt w0 w B v n xs) : w.ownsRow w0.heap.size 58 6 (v 1) (n 1) (xs 1) := h.own 1 (by omega)
theorem BdAt.own2 (h : BdAt w0 w B v n xs) : w.ownsRow w0.heap.size 5 1 (v 2) (n 2) (xs 2) := h.own 2 (by omega)
theorem BdAt.own3 (h : BdAt w0 w B v n xs) : w.ownsRow w0.heap.size 5 1 (v 3) (n 3) (xs 3) := h.own 3 (by omega)
theorem BdAt.own4 (h : BdAt w0 w B v n xs) : w.ownsRow w0.heap.size 5 1 (v 4) (n 4) (xs 4) := h.own 4 (by omega)
theorem BdAt.own5 (h : BdAt w0 w B v n xs) : w.ownsRow w0.heap.size 4 1 (v 5) (n 5) (xs 5) := h.own 5 (by omega)
theorem BdAt.c0 (h : BdAt w0 w B v n xs) : w.cell? ⟨B, 0, none⟩ = some (v 0) := h.cell 0 (by omega)
theorem BdAt.c1 (h : BdAt w0 w B v n xs) : w.cell? ⟨B, 5, none⟩ = some (v 1) := h.cell 1 (by omega)
theorem BdAt.c2 (h : BdAt w0 w B v n xs) : w.cell? ⟨B, 6, none⟩ = some (v 2) := h.cell 2 (by omega)
theorem BdAt.c3 (h : BdAt w0 w B v n xs) : w.cell? ⟨B, 7, none⟩ = some (v 3) := h.cell 3 (by omega)
theorem BdAt.c4 (h : BdAt w0 w B v n xs) : w.cell? ⟨B, 8, none⟩ = some (v 4) := h.cell 4 (by omega)
theorem BdAt.c5 (h : BdAt w0 w B v n xs) : w.cell? ⟨B, 9, none⟩ = some (v 5) := h.cell 5 (by omega)
theorem BdAt.size (h : BdAt w0 w B v n xs) : w0.heap.size ≤ w.heap.size := h.bel.size

/-- Row k is appended to, and the new value is stored. -/
theorem BdAt.put (h : BdAt w0 w B v n xs) (k : Nat) (hk : k < 6) {w1 w2 : World} (hb : Below w.heap.size w w1) (m : Nat) (news : List Value) {g cap : Nat}
    (ho : w2.ownsRow w0.heap.size (bTy k) (bSz k) (.slice (some ⟨g, 0, none⟩) (n k + m) cap) (n k + m) (xs k ++ news)) (hg : w1.grownBy w2 (v k).ownBlock) (hat : (v k).ownBlock = some g ∨ g = w1.heap.size) :
    BdAt w0 (w2.setCell ⟨B, bOff k, none⟩ (.slice (some ⟨g, 0, none⟩) (n k + m) cap)) B (upd v k (.slice (some ⟨g, 0, none⟩) (n k + m) cap)) (upd n k (n k + m)) (upd xs k (xs k ++ news)) ∧ w2.cell? ⟨B, bOff k, none⟩ = some (v k) ∧ w2.frozen? ⟨B, bOff k, none⟩ = false ∧ FarFrom w (w2.setCell ⟨B, bOff k, none⟩ (.slice (some ⟨g, 0, none⟩) (n k + m) cap)) B v (upd v k (.slice (some ⟨g, 0, none⟩) (n k + m) cap)) := by
  have h1 := h.below hb
  have hB1 := h1.bl
  have hlt : ∀ i, i < 6 → ∀ b, (v i).ownBlock = some b → b < w1.heap.size := fun i hi b hb => ((h1.own i hi).lt b hb).2
  have hgB : g ≠ B := by
    rcases hat with e | e
    · intro e2; subst e2; exact h.nb k hk e
    · omega
  have cfar : ∀ p, w2.cell? ⟨B, p, none⟩ = w1.cell? ⟨B, p, none⟩ := fun p => hg.cell_far ⟨B, p, none⟩ hB1 (fun e => h.nb k hk e.symm)
  have ffar : ∀ p, w2.frozen? ⟨B, p, none⟩ = w1.frozen? ⟨B, p, none⟩ := fun p => hg.frozen_far ⟨B, p, none⟩ hB1 (fun e => h.nb k hk e.symm)
  have hbel : Below w0.heap.size w0 w2 := h1.bel.grown hg h1.bel.size (fun b hb => ((h1.own k hk).lt b hb).1)
  have hoth : ∀ i, i < 6 → i ≠ k → (v i).ownBlock = none ∨ (v i).ownBlock ≠ some g := by
    intro i hi hik
    rcases hat with e | e
    · have := h.ne i k hi hk hik; rw [e] at this; exact this
    · cases hv : (v i).ownBlock with
      | none => exact .inl rfl
      | some b => right; have := hlt i hi b hv; simp; omega
  refine ⟨⟨hbel.setCell h.bb _, h.bb, by have := hg.size; simp; omega, ?_, ?_, ?_, ?_, ?_⟩, (cfar _).trans (h1.cell k hk), (ffar _).trans (h1.fz _ (bOff_lt hk)), ⟨?_, ?_⟩⟩
  · intro i hi
    by_cases hik : i = k
    · subst hik
      rw [upd_same]
      exact cell_same _ _ _ _ _ ((cfar _).trans (h1.cell i hi))
    · rw [upd_other _ _ _ hik, World.cell?_setCell_other _ _ _ _ (fun e => by simp only [Addr.mk.injEq] at e; exact hik (bOff_inj e.2.1.symm)), cfar]
      exact h1.cell i hi
  · intro p hp
    rw [World.frozen?_setCell, ffar]
    exact h1.fz p hp
  · intro i hi
    by_cases hik : i = k
    · subst hik
      rw [upd_same, upd_same, upd_same]
      exact ownsRow_setCell_other ho (by simp [Value.ownBlock]; exact hgB) _
    · rw [upd_other _ _ _ hik, upd_other _ _ _ hik, upd_other _ _ _ hik]
      exact ownsRow_setCell_other ((h1.own i hi).kept hg (h.ne i k hi hk hik)) (h.nb i hi) _
  · intro i j hi hj hij
    by_cases hik : i = k
    · subst hik
      rw [upd_same, upd_other _ _ _ (Ne.symm hij)]
      right
      rcases hoth j hj (Ne.symm hij) with e | e
      · rw [e]; simp [Value.ownBlock]
      · exact fun e2 => e e2.symm
    · rw [upd_other _ _ _ hik]
      by_cases hjk : j = k
      · subst hjk
        rw [upd_same]
        exact hoth i hi hik
      · rw [upd_other _ _ _ hjk]; exact h.ne i j hi hj hij
  · intro i hi
    by_cases hik : i = k
    · subst hik
      rw [upd_same]; simp [Value.ownBlock]; exact hgB
    · rw [upd_other _ _ _ hik]; exact h.nb i hi
  · have := hg.size; have := hb.size; simp; omega
  · intro b hbl hbB hbv
    have hb1 : b < w1.heap.size := Nat.lt_of_lt_of_le hbl hb.size
    refine ⟨?_, ?_⟩
    · rw [Below.heap_setCell _ _ _ _ hbB, hg.block b hb1 (fun e => hbv k hk e.symm)]
      exact hb.block b hbl
    · intro i hi
      by_cases hik : i = k
      · subst hik
        rw [upd_same]
        simp only [Value.ownBlock]
        rcases hat with e | e
        · intro e2; exact hbv i hi (e.trans e2)
        · intro e2; have := Option.some.inj e2; omega
      · rw [upd_other _ _ _ hik]; exact hbv i hi
end

theorem info58 : (Fagg.prog.info? 58).map (fun i => (i.zero, i.size, i.bytes)) = some (some (.agg #[.int .u8 0, .int .u16 0, .int .u8 0, .int .u8 0, .int .u8 0, .int .u16 0]), 6, 10) := by kernel_rfl
theorem info5b : (Fagg.prog.info? 5).map (fun i => (i.zero, i.size, i.bytes)) = some (some (.int .u8 0), 1, 1) := by kernel_rfl
theorem info4 : (Fagg.prog.info? 4).map (fun i => (i.zero, i.size, i.bytes)) = some (some (.bool false), 1, 1) := by kernel_rfl
end Go.Proofs.Ygcfag
