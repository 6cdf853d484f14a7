/-
  WALKS: what smodel.gather keeps: the list of intervals in memory.
-/
import Derived.Test.YgcfagPlain16
import Derived.Test.YgcfagW1
import Derived.Test.YgcfagSub
import Derived.Deep.AppendLies
import Derived.Laws.OwnMore
namespace Go.Proofs.Ygcfag
open Go.RowKit
set_option linter.unusedVariables false
set_option linter.unusedSimpArgs false

theorem owns_below {B : Nat} {e : TypeId} {k : Nat} {v : Value} {n : Nat} {xs : List Value} {w w' : World} (h : w.ownsRow B e k v n xs) (hb : Below w.heap.size w w') : w'.ownsRow B e k v n xs := by
  obtain ⟨h1, h2 | ⟨g, cap, cur, hv, hB, hg, h3⟩⟩ := h
  · exact ⟨h1, .inl h2⟩
  · refine ⟨h1, .inr ⟨g, cap, cur, hv, hB, ?_, h3⟩⟩
    rw [hb.block g ?_]
    · exact hg
    · rcases Nat.lt_or_ge g w.heap.size with hlt | hge
      · exact hlt
      · rw [Array.getElem?_eq_none hge] at hg; cases hg

def cells3 (L : List (Nat × Nat × Nat)) : List Value := L.flatMap fun o => [.int .u8 (o.1 : Int), .int .i64 (o.2.1 : Int), .int .i64 (o.2.2 : Int)]

theorem cells3_len : ∀ L : List (Nat × Nat × Nat), (cells3 L).length = L.length * 3
  | [] => rfl
  | o :: L => by have := cells3_len L; simp only [cells3, List.flatMap_cons, List.length_append, List.length_cons, List.length_nil] at *; omega

theorem cells3_at : ∀ (L : List (Nat × Nat × Nat)) (i : Nat) (h : i < L.length),
    (cells3 L)[i * 3]? = some (.int .u8 ((L.getD i (0, 0, 0)).1 : Int)) ∧ (cells3 L)[i * 3 + 1]? = some (.int .i64 ((L.getD i (0, 0, 0)).2.1 : Int)) ∧ (cells3 L)[i * 3 + 2]? = some (.int .i64 ((L.getD i (0, 0, 0)).2.2 : Int))
  | o :: L, 0, h => by simp [cells3]
  | o :: L, i + 1, h => by
    have hi := cells3_at L i (by simpa using h)
    have e : ∀ k, (cells3 (o :: L))[k + 3]? = (cells3 L)[k]? := fun k => by simp [cells3]
    rw [show (i + 1) * 3 = i * 3 + 3 by omega, show i * 3 + 3 + 1 = i * 3 + 1 + 3 by omega, show i * 3 + 3 + 2 = i * 3 + 2 + 3 by omega, e, e, e]
    simpa using hi

/-- The list of intervals lies behind the pointer to g, its row in block b. -/
structure SeenAt (w : World) (g b : Nat) (L : List (Nat × Nat × Nat)) : Prop where
  own : ∃ cap, w.cell? ⟨g, 0, none⟩ = some (.slice (some ⟨b, 0, none⟩) L.length cap) ∧ w.ownsRow 0 164 3 (.slice (some ⟨b, 0, none⟩) L.length cap) L.length (cells3 L)
  froz : w.frozen? ⟨g, 0, none⟩ = false
  ne : b ≠ g

/-- What may turn while the list grows. -/
structure SeenStep (g b b' : Nat) (w w' : World) : Prop where
  os : w'.os = w.os
  tape : w'.tape = w.tape
  output : w'.output = w.output
  size : w.heap.size ≤ w'.heap.size
  at_ : b' = b ∨ w.heap.size ≤ b'
  block : ∀ k, k < w.heap.size → k ≠ g → k ≠ b → w'.heap[k]? = w.heap[k]?

theorem SeenStep.of_below {g b : Nat} {w w' : World} (h : Below w.heap.size w w') : SeenStep g b b w w' := ⟨h.os, h.tape, h.output, h.size, .inl rfl, fun k hk _ _ => h.block k hk⟩

theorem SeenStep.trans {g b b' b'' : Nat} {w w' w'' : World} (h : SeenStep g b b' w w') (k : SeenStep g b' b'' w' w'') : SeenStep g b b'' w w'' :=
  ⟨k.os.trans h.os, k.tape.trans h.tape, k.output.trans h.output, Nat.le_trans h.size k.size, by
    have h1 := h.at_; have h2 := k.at_; have h3 := h.size; omega, fun i hi h1 h2 => (k.block i (Nat.lt_of_lt_of_le hi h.size) h1 (by have h3 := h.at_; omega)).trans (h.block i hi h1 h2)⟩

theorem SeenStep.below {g b b' B : Nat} {w w' : World} (h : SeenStep g b b' w w') (h1 : B ≤ g) (h2 : B ≤ b) (h3 : B ≤ w.heap.size) : Below B w w' :=
  ⟨h.os, h.tape, h.output, h.size, fun k hk => h.block k (by omega) (by omega) (by omega)⟩

theorem SeenStep.cell {g b b' : Nat} {w w' : World} (h : SeenStep g b b' w w') {p : Addr} (h1 : p.block < w.heap.size) (h2 : p.block ≠ g) (h3 : p.block ≠ b) : w'.cell? p = w.cell? p := World.cell?_of_block (w := w) (h.block p.block h1 h2 h3)

theorem SeenAt.lt {w : World} {g b : Nat} {L : List (Nat × Nat × Nat)} (h : SeenAt w g b L) : g < w.heap.size ∧ b < w.heap.size := by
  obtain ⟨cap, hc, ho⟩ := h.own
  exact ⟨World.block_lt_of_cell? w _ hc, (ho.lt b rfl).2⟩

theorem SeenAt.below {w u : World} {g b : Nat} {L : List (Nat × Nat × Nat)} (h : SeenAt w g b L) (hb : Below w.heap.size w u) : SeenAt u g b L := by
  have hl := h.lt
  obtain ⟨cap, hc, ho⟩ := h.own
  exact ⟨⟨cap, (hb.cell (p := ⟨g, 0, none⟩) hl.1).trans hc, owns_below ho hb⟩, (hb.frozen (p := ⟨g, 0, none⟩) hl.1).trans h.froz, h.ne⟩

end Go.Proofs.Ygcfag
