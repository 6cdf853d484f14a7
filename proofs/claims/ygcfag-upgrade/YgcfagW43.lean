/-
  WALKS: law.ownResolve: what its results hold.
-/
import Derived.Test.YgcfagW38
import Derived.Test.YgcfagW39
import Derived.Test.YgcfagW40
namespace Go.Proofs.Ygcfag
open Go.RowKit
set_option linter.unusedVariables false
set_option linter.unusedSimpArgs false

structure R7 (w : World) (G : Nat) (s : Int) (q : Pt) : Prop where
  c0 : w.cell? ⟨G, 0, none⟩ = some (.int .u8 s)
  c1 : w.cell? ⟨G, 1, none⟩ = some (.int .u8 q.kind)
  c2 : w.cell? ⟨G, 2, none⟩ = some (.int .u16 q.at_)
  c3 : w.cell? ⟨G, 3, none⟩ = some (.int .u8 q.data)
  c4 : w.cell? ⟨G, 4, none⟩ = some (.int .u8 q.ptrs)
  c5 : w.cell? ⟨G, 5, none⟩ = some (.int .u8 q.code)
  c6 : w.cell? ⟨G, 6, none⟩ = some (.int .u16 q.count)
structure R3 (w : World) (G : Nat) (s i k : Int) : Prop where
  c0 : w.cell? ⟨G, 0, none⟩ = some (.int .u8 s)
  c1 : w.cell? ⟨G, 1, none⟩ = some (.int .u16 i)
  c2 : w.cell? ⟨G, 2, none⟩ = some (.int .u8 k)
/-- All but the two blocks is as it was. -/
structure Else (A : Nat) (w w' : World) : Prop where
  blk : ∀ b, b ≠ A → b ≠ A + 1 → w'.heap[b]? = w.heap[b]?
theorem else_refl (A : Nat) (w : World) : Else A w w := ⟨fun _ _ _ => rfl⟩
theorem else_drew {A : Nat} {w u : World} (h : Else A w u) : Else A w u.drew := ⟨h.blk⟩
theorem else_set {A : Nat} {w u : World} (h : Else A w u) {p : Addr} (hp : p.block = A ∨ p.block = A + 1) (v : Value) : Else A w (u.setCell p v) :=
  ⟨fun b h1 h2 => (Below.heap_setCell u p v b (by rcases hp with hp | hp <;> omega)).trans (h.blk b h1 h2)⟩
theorem else_set7 {A : Nat} {w u : World} (h : Else A w u) (v0 v1 v2 v3 v4 v5 v6 : Value) : Else A w (((((((u.setCell ⟨A, 0, none⟩ v0).setCell ⟨A, 1, none⟩ v1).setCell ⟨A, 2, none⟩ v2).setCell ⟨A, 3, none⟩ v3).setCell ⟨A, 4, none⟩ v4).setCell ⟨A, 5, none⟩ v5).setCell ⟨A, 6, none⟩ v6) :=
  else_set (else_set (else_set (else_set (else_set (else_set (else_set h (.inl rfl) _) (.inl rfl) _) (.inl rfl) _) (.inl rfl) _) (.inl rfl) _) (.inl rfl) _) (.inl rfl) _
theorem else_set3 {A : Nat} {w u : World} (h : Else A w u) (x0 x1 x2 : Value) : Else A w (((u.setCell ⟨A + 1, 0, none⟩ x0).setCell ⟨A + 1, 1, none⟩ x1).setCell ⟨A + 1, 2, none⟩ x2) :=
  else_set (else_set (else_set h (.inr rfl) _) (.inr rfl) _) (.inr rfl) _
theorem else_cell {A : Nat} {w u : World} (h : Else A w u) {p : Addr} (h1 : p.block ≠ A) (h2 : p.block ≠ A + 1) : u.cell? p = w.cell? p := World.cell?_of_block (w := w) (h.blk p.block h1 h2)
theorem else_9 {A : Nat} {w u : World} (h9 : Z3 w (A + 1 + 1)) (h : Else A w u) : Else A w u ∧ u.cell? ⟨A + 1 + 1, 0, none⟩ = some (.int .u8 0) ∧ u.cell? ⟨A + 1 + 1, 1, none⟩ = some (.int .u16 0) ∧ u.cell? ⟨A + 1 + 1, 2, none⟩ = some (.int .u8 0) :=
  ⟨h, (else_cell h (p := ⟨A + 1 + 1, 0, none⟩) (by show A + 1 + 1 ≠ A; omega) (by show A + 1 + 1 ≠ A + 1; omega)).trans h9.c0, (else_cell h (p := ⟨A + 1 + 1, 1, none⟩) (by show A + 1 + 1 ≠ A; omega) (by show A + 1 + 1 ≠ A + 1; omega)).trans h9.c1, (else_cell h (p := ⟨A + 1 + 1, 2, none⟩) (by show A + 1 + 1 ≠ A; omega) (by show A + 1 + 1 ≠ A + 1; omega)).trans h9.c2⟩
theorem else_9p {A G : Nat} {w u : World} {q : Pt} (h9 : Z3 w (A + 1 + 1)) (hG : A + 1 + 1 < G) (hp : PtAt w G q) (h : Else A w u) : Else A w u ∧ u.cell? ⟨A + 1 + 1, 0, none⟩ = some (.int .u8 0) ∧ u.cell? ⟨A + 1 + 1, 1, none⟩ = some (.int .u16 0) ∧ u.cell? ⟨A + 1 + 1, 2, none⟩ = some (.int .u8 0) ∧ u.cell? ⟨G, 0, none⟩ = some (.int .u8 q.kind) ∧ u.cell? ⟨G, 1, none⟩ = some (.int .u16 q.at_) ∧ u.cell? ⟨G, 2, none⟩ = some (.int .u8 q.data) ∧ u.cell? ⟨G, 3, none⟩ = some (.int .u8 q.ptrs) ∧ u.cell? ⟨G, 4, none⟩ = some (.int .u8 q.code) ∧ u.cell? ⟨G, 5, none⟩ = some (.int .u16 q.count) := by
  obtain ⟨k1, k2, k3, k4⟩ := else_9 h9 h
  have hh : ∀ o, u.cell? ⟨G, o, none⟩ = w.cell? ⟨G, o, none⟩ := fun o => else_cell h (p := ⟨G, o, none⟩) (by show G ≠ A; omega) (by show G ≠ A + 1; omega)
  exact ⟨k1, k2, k3, k4, (hh 0).trans hp.c0, (hh 1).trans hp.c1, (hh 2).trans hp.c2, (hh 3).trans hp.c3, (hh 4).trans hp.c4, (hh 5).trans hp.c5⟩

set_option maxHeartbeats 1000000 in
theorem laid_73 {A : Nat} {w : World} (h7 : Z7 w A) (h3 : Z3 w (A + 1)) (s : Int) (q : Pt) (i0 i1 i2 : Int) : R7 ((((((((((w.setCell ⟨A, 0, none⟩ (.int .u8 s)).setCell ⟨A, 1, none⟩ (.int .u8 q.kind)).setCell ⟨A, 2, none⟩ (.int .u16 q.at_)).setCell ⟨A, 3, none⟩ (.int .u8 q.data)).setCell ⟨A, 4, none⟩ (.int .u8 q.ptrs)).setCell ⟨A, 5, none⟩ (.int .u8 q.code)).setCell ⟨A, 6, none⟩ (.int .u16 q.count)).setCell ⟨A + 1, 0, none⟩ (.int .u8 i0)).setCell ⟨A + 1, 1, none⟩ (.int .u16 i1)).setCell ⟨A + 1, 2, none⟩ (.int .u8 i2)) A s q ∧ R3 ((((((((((w.setCell ⟨A, 0, none⟩ (.int .u8 s)).setCell ⟨A, 1, none⟩ (.int .u8 q.kind)).setCell ⟨A, 2, none⟩ (.int .u16 q.at_)).setCell ⟨A, 3, none⟩ (.int .u8 q.data)).setCell ⟨A, 4, none⟩ (.int .u8 q.ptrs)).setCell ⟨A, 5, none⟩ (.int .u8 q.code)).setCell ⟨A, 6, none⟩ (.int .u16 q.count)).setCell ⟨A + 1, 0, none⟩ (.int .u8 i0)).setCell ⟨A + 1, 1, none⟩ (.int .u16 i1)).setCell ⟨A + 1, 2, none⟩ (.int .u8 i2)) (A + 1) i0 i1 i2 := by
  obtain ⟨a0, a1, a2, a3, a4, a5, a6, e0, e1, e2, e3, e4, e5, e6⟩ := h7
  obtain ⟨z0, z1, z2, y0, y1, y2⟩ := h3
  exact ⟨⟨by simp [go_sem, a0, a1, a2, a3, a4, a5, a6, z0, z1, z2], by simp [go_sem, a0, a1, a2, a3, a4, a5, a6, z0, z1, z2], by simp [go_sem, a0, a1, a2, a3, a4, a5, a6, z0, z1, z2], by simp [go_sem, a0, a1, a2, a3, a4, a5, a6, z0, z1, z2], by simp [go_sem, a0, a1, a2, a3, a4, a5, a6, z0, z1, z2], by simp [go_sem, a0, a1, a2, a3, a4, a5, a6, z0, z1, z2], by simp [go_sem, a0, a1, a2, a3, a4, a5, a6, z0, z1, z2]⟩, ⟨by simp [go_sem, a0, a1, a2, a3, a4, a5, a6, z0, z1, z2], by simp [go_sem, a0, a1, a2, a3, a4, a5, a6, z0, z1, z2], by simp [go_sem, a0, a1, a2, a3, a4, a5, a6, z0, z1, z2]⟩⟩
set_option maxHeartbeats 1000000 in
theorem laid_37 {A : Nat} {w : World} (h7 : Z7 w A) (h3 : Z3 w (A + 1)) (s : Int) (q : Pt) (i0 i1 i2 : Int) : R7 ((((((((((w.setCell ⟨A + 1, 0, none⟩ (.int .u8 i0)).setCell ⟨A + 1, 1, none⟩ (.int .u16 i1)).setCell ⟨A + 1, 2, none⟩ (.int .u8 i2)).setCell ⟨A, 0, none⟩ (.int .u8 s)).setCell ⟨A, 1, none⟩ (.int .u8 q.kind)).setCell ⟨A, 2, none⟩ (.int .u16 q.at_)).setCell ⟨A, 3, none⟩ (.int .u8 q.data)).setCell ⟨A, 4, none⟩ (.int .u8 q.ptrs)).setCell ⟨A, 5, none⟩ (.int .u8 q.code)).setCell ⟨A, 6, none⟩ (.int .u16 q.count)) A s q ∧ R3 ((((((((((w.setCell ⟨A + 1, 0, none⟩ (.int .u8 i0)).setCell ⟨A + 1, 1, none⟩ (.int .u16 i1)).setCell ⟨A + 1, 2, none⟩ (.int .u8 i2)).setCell ⟨A, 0, none⟩ (.int .u8 s)).setCell ⟨A, 1, none⟩ (.int .u8 q.kind)).setCell ⟨A, 2, none⟩ (.int .u16 q.at_)).setCell ⟨A, 3, none⟩ (.int .u8 q.data)).setCell ⟨A, 4, none⟩ (.int .u8 q.ptrs)).setCell ⟨A, 5, none⟩ (.int .u8 q.code)).setCell ⟨A, 6, none⟩ (.int .u16 q.count)) (A + 1) i0 i1 i2 := by
  obtain ⟨a0, a1, a2, a3, a4, a5, a6, e0, e1, e2, e3, e4, e5, e6⟩ := h7
  obtain ⟨z0, z1, z2, y0, y1, y2⟩ := h3
  exact ⟨⟨by simp [go_sem, a0, a1, a2, a3, a4, a5, a6, z0, z1, z2], by simp [go_sem, a0, a1, a2, a3, a4, a5, a6, z0, z1, z2], by simp [go_sem, a0, a1, a2, a3, a4, a5, a6, z0, z1, z2], by simp [go_sem, a0, a1, a2, a3, a4, a5, a6, z0, z1, z2], by simp [go_sem, a0, a1, a2, a3, a4, a5, a6, z0, z1, z2], by simp [go_sem, a0, a1, a2, a3, a4, a5, a6, z0, z1, z2], by simp [go_sem, a0, a1, a2, a3, a4, a5, a6, z0, z1, z2]⟩, ⟨by simp [go_sem, a0, a1, a2, a3, a4, a5, a6, z0, z1, z2], by simp [go_sem, a0, a1, a2, a3, a4, a5, a6, z0, z1, z2], by simp [go_sem, a0, a1, a2, a3, a4, a5, a6, z0, z1, z2]⟩⟩
theorem R7.drew {w : World} {G : Nat} {s : Int} {q : Pt} (h : R7 w G s q) : R7 w.drew G s q := ⟨h.c0, h.c1, h.c2, h.c3, h.c4, h.c5, h.c6⟩
theorem R3.drew {w : World} {G : Nat} {s i k : Int} (h : R3 w G s i k) : R3 w.drew G s i k := ⟨h.c0, h.c1, h.c2⟩
theorem below_37 {B b1 b2 : Nat} {u w : World} (h : Below B u w) (h1 : B ≤ b1) (h2 : B ≤ b2) (x0 x1 x2 : Value) (v0 v1 v2 v3 v4 v5 v6 : Value) : Below B u ((((((((((w.setCell ⟨b2, 0, none⟩ x0).setCell ⟨b2, 1, none⟩ x1).setCell ⟨b2, 2, none⟩ x2).setCell ⟨b1, 0, none⟩ v0).setCell ⟨b1, 1, none⟩ v1).setCell ⟨b1, 2, none⟩ v2).setCell ⟨b1, 3, none⟩ v3).setCell ⟨b1, 4, none⟩ v4).setCell ⟨b1, 5, none⟩ v5).setCell ⟨b1, 6, none⟩ v6) :=
  (((((((((h.setCell h2 _).setCell h2 _).setCell h2 _).setCell h1 _).setCell h1 _).setCell h1 _).setCell h1 _).setCell h1 _).setCell h1 _).setCell h1 _
end Go.Proofs.Ygcfag
