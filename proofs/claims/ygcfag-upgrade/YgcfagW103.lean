/-
  WALKS: tree.Norm of a tree of one node.
-/
import Derived.Test.YgcfagW102
namespace Go.Proofs.Ygcfag
open Go.RowKit
set_option linter.unusedVariables false
set_option linter.unusedSimpArgs false

theorem info184 : (Fagg.prog.info? 184).map (fun i => i.zero) = some (some (.agg (List.replicate 512 (Value.int .i16 0)).toArray)) := by kernel_rfl
theorem info185 : (Fagg.prog.info? 185).map (fun i => i.zero) = some (some (.agg (List.replicate 512 (Value.int .i64 0)).toArray)) := by kernel_rfl

/-- What Norm holds ahead of its loop. -/
structure NF (w0 w : World) (N O F X Y : Nat) (vf vx vy : Int) : Prop where
  bel : Below w0.heap.size w0 w
  ord : w0.heap.size ≤ N ∧ N < O ∧ O < F ∧ F < X ∧ X < Y ∧ Y < w.heap.size
  o0 : w.cell? ⟨O, 0, none⟩ = some (.slice (some ⟨N, 0, none⟩) 1 1)
  o1 : w.cell? ⟨O, 1, none⟩ = some (.int .i16 0)
  n0 : w.cell? ⟨N, 0, none⟩ = some (.int .u8 0)
  n1 : w.cell? ⟨N, 1, none⟩ = some (.int .u8 0)
  n2 : w.cell? ⟨N, 2, none⟩ = some (.slice none 0 0)
  n3 : w.cell? ⟨N, 3, none⟩ = some (.slice none 0 0)
  f0 : w.cell? ⟨F, 0, none⟩ = some (.int .i16 vf)
  x0 : w.cell? ⟨X, 0, none⟩ = some (.int .i64 vx)
  y0 : w.cell? ⟨Y, 0, none⟩ = some (.int .i64 vy)
  zO : ∀ p, w.frozen? ⟨O, p, none⟩ = false
  zN : ∀ p, w.frozen? ⟨N, p, none⟩ = false
  zF : ∀ p, w.frozen? ⟨F, p, none⟩ = false
  zX : ∀ p, w.frozen? ⟨X, p, none⟩ = false
  zY : ∀ p, w.frozen? ⟨Y, p, none⟩ = false

theorem NF.below {w0 w : World} {N O F X Y : Nat} {vf vx vy : Int} (h : NF w0 w N O F X Y vf vx vy) {w' : World} (hb : Below w.heap.size w w') : NF w0 w' N O F X Y vf vx vy := by
  obtain ⟨h1, h2, h3, h4, h5, h6⟩ := h.ord
  have c : ∀ b p, b ≤ Y → w'.cell? ⟨b, p, none⟩ = w.cell? ⟨b, p, none⟩ := fun b p hb' => hb.cell (p := ⟨b, p, none⟩) (by show b < _; omega)
  have f : ∀ b p, b ≤ Y → w'.frozen? ⟨b, p, none⟩ = w.frozen? ⟨b, p, none⟩ := fun b p hb' => hb.frozen (p := ⟨b, p, none⟩) (by show b < _; omega)
  have hs := hb.size
  exact ⟨h.bel.trans (hb.mono h.bel.size), ⟨h1, h2, h3, h4, h5, by omega⟩, (c _ _ (by omega)).trans h.o0, (c _ _ (by omega)).trans h.o1, (c _ _ (by omega)).trans h.n0, (c _ _ (by omega)).trans h.n1, (c _ _ (by omega)).trans h.n2, (c _ _ (by omega)).trans h.n3, (c _ _ (by omega)).trans h.f0, (c _ _ (by omega)).trans h.x0, (c _ _ (by omega)).trans h.y0, fun p => (f _ _ (by omega)).trans (h.zO p), fun p => (f _ _ (by omega)).trans (h.zN p), fun p => (f _ _ (by omega)).trans (h.zF p), fun p => (f _ _ (by omega)).trans (h.zX p), fun p => (f _ _ (by omega)).trans (h.zY p)⟩

theorem NF.setF {w0 w : World} {N O F X Y : Nat} {vf vx vy : Int} (h : NF w0 w N O F X Y vf vx vy) (v : Int) : NF w0 (w.setCell ⟨F, 0, none⟩ (.int .i16 v)) N O F X Y v vx vy := by
  obtain ⟨h1, h2, h3, h4, h5, h6⟩ := h.ord
  have c : ∀ b p, b ≠ F → (w.setCell ⟨F, 0, none⟩ (.int .i16 v)).cell? ⟨b, p, none⟩ = w.cell? ⟨b, p, none⟩ := fun b p hb' => World.cell?_setCell_other _ _ _ _ (fun e => by simp only [Addr.mk.injEq] at e; exact hb' e.1.symm)
  have f : ∀ b p, (w.setCell ⟨F, 0, none⟩ (.int .i16 v)).frozen? ⟨b, p, none⟩ = w.frozen? ⟨b, p, none⟩ := fun b p => by simp [go_sem]
  exact ⟨h.bel.setCell (by show _ ≤ F; omega) _, ⟨h1, h2, h3, h4, h5, by simpa using h6⟩, (c _ _ (by omega)).trans h.o0, (c _ _ (by omega)).trans h.o1, (c _ _ (by omega)).trans h.n0, (c _ _ (by omega)).trans h.n1, (c _ _ (by omega)).trans h.n2, (c _ _ (by omega)).trans h.n3, cell_same _ _ _ _ _ h.f0, (c _ _ (by omega)).trans h.x0, (c _ _ (by omega)).trans h.y0, fun p => (f _ _).trans (h.zO p), fun p => (f _ _).trans (h.zN p), fun p => (f _ _).trans (h.zF p), fun p => (f _ _).trans (h.zX p), fun p => (f _ _).trans (h.zY p)⟩

theorem NF.setX {w0 w : World} {N O F X Y : Nat} {vf vx vy : Int} (h : NF w0 w N O F X Y vf vx vy) (v : Int) : NF w0 (w.setCell ⟨X, 0, none⟩ (.int .i64 v)) N O F X Y vf v vy := by
  obtain ⟨h1, h2, h3, h4, h5, h6⟩ := h.ord
  have c : ∀ b p, b ≠ X → (w.setCell ⟨X, 0, none⟩ (.int .i64 v)).cell? ⟨b, p, none⟩ = w.cell? ⟨b, p, none⟩ := fun b p hb' => World.cell?_setCell_other _ _ _ _ (fun e => by simp only [Addr.mk.injEq] at e; exact hb' e.1.symm)
  have f : ∀ b p, (w.setCell ⟨X, 0, none⟩ (.int .i64 v)).frozen? ⟨b, p, none⟩ = w.frozen? ⟨b, p, none⟩ := fun b p => by simp [go_sem]
  exact ⟨h.bel.setCell (by show _ ≤ X; omega) _, ⟨h1, h2, h3, h4, h5, by simpa using h6⟩, (c _ _ (by omega)).trans h.o0, (c _ _ (by omega)).trans h.o1, (c _ _ (by omega)).trans h.n0, (c _ _ (by omega)).trans h.n1, (c _ _ (by omega)).trans h.n2, (c _ _ (by omega)).trans h.n3, (c _ _ (by omega)).trans h.f0, cell_same _ _ _ _ _ h.x0, (c _ _ (by omega)).trans h.y0, fun p => (f _ _).trans (h.zO p), fun p => (f _ _).trans (h.zN p), fun p => (f _ _).trans (h.zF p), fun p => (f _ _).trans (h.zX p), fun p => (f _ _).trans (h.zY p)⟩

theorem NF.setY {w0 w : World} {N O F X Y : Nat} {vf vx vy : Int} (h : NF w0 w N O F X Y vf vx vy) (v : Int) : NF w0 (w.setCell ⟨Y, 0, none⟩ (.int .i64 v)) N O F X Y vf vx v := by
  obtain ⟨h1, h2, h3, h4, h5, h6⟩ := h.ord
  have c : ∀ b p, b ≠ Y → (w.setCell ⟨Y, 0, none⟩ (.int .i64 v)).cell? ⟨b, p, none⟩ = w.cell? ⟨b, p, none⟩ := fun b p hb' => World.cell?_setCell_other _ _ _ _ (fun e => by simp only [Addr.mk.injEq] at e; exact hb' e.1.symm)
  have f : ∀ b p, (w.setCell ⟨Y, 0, none⟩ (.int .i64 v)).frozen? ⟨b, p, none⟩ = w.frozen? ⟨b, p, none⟩ := fun b p => by simp [go_sem]
  exact ⟨h.bel.setCell (by show _ ≤ Y; omega) _, ⟨h1, h2, h3, h4, h5, by simpa using h6⟩, (c _ _ (by omega)).trans h.o0, (c _ _ (by omega)).trans h.o1, (c _ _ (by omega)).trans h.n0, (c _ _ (by omega)).trans h.n1, (c _ _ (by omega)).trans h.n2, (c _ _ (by omega)).trans h.n3, (c _ _ (by omega)).trans h.f0, (c _ _ (by omega)).trans h.x0, cell_same _ _ _ _ _ h.y0, fun p => (f _ _).trans (h.zO p), fun p => (f _ _).trans (h.zN p), fun p => (f _ _).trans (h.zF p), fun p => (f _ _).trans (h.zX p), fun p => (f _ _).trans (h.zY p)⟩

theorem NF.other {w0 w : World} {N O F X Y : Nat} {vf vx vy : Int} (h : NF w0 w N O F X Y vf vx vy) (M p : Nat) (v : Value) (hM : Y < M) : NF w0 (w.setCell ⟨M, p, none⟩ v) N O F X Y vf vx vy := by
  obtain ⟨h1, h2, h3, h4, h5, h6⟩ := h.ord
  have c : ∀ b q, b ≠ M → (w.setCell ⟨M, p, none⟩ v).cell? ⟨b, q, none⟩ = w.cell? ⟨b, q, none⟩ := fun b q hb' => World.cell?_setCell_other _ _ _ _ (fun e => by simp only [Addr.mk.injEq] at e; exact hb' e.1.symm)
  have f : ∀ b q, (w.setCell ⟨M, p, none⟩ v).frozen? ⟨b, q, none⟩ = w.frozen? ⟨b, q, none⟩ := fun b q => by simp [go_sem]
  exact ⟨h.bel.setCell (by show _ ≤ M; omega) _, ⟨h1, h2, h3, h4, h5, by simpa using h6⟩, (c _ _ (by omega)).trans h.o0, (c _ _ (by omega)).trans h.o1, (c _ _ (by omega)).trans h.n0, (c _ _ (by omega)).trans h.n1, (c _ _ (by omega)).trans h.n2, (c _ _ (by omega)).trans h.n3, (c _ _ (by omega)).trans h.f0, (c _ _ (by omega)).trans h.x0, (c _ _ (by omega)).trans h.y0, fun p => (f _ _).trans (h.zO p), fun p => (f _ _).trans (h.zN p), fun p => (f _ _).trans (h.zF p), fun p => (f _ _).trans (h.zX p), fun p => (f _ _).trans (h.zY p)⟩

theorem held2c {T : Nat} {w u : World} {x y : Value} (hT : T < w.heap.size) (h0 : w.cell? ⟨T, 0, none⟩ = some x) (h1 : w.cell? ⟨T, 1, none⟩ = some y) (h : Below w.heap.size w u) : Below w.heap.size w u ∧ u.cell? ⟨T, 0, none⟩ = some x ∧ u.cell? ⟨T, 1, none⟩ = some y :=
  ⟨h, (h.cell (p := ⟨T, 0, none⟩) hT).trans h0, (h.cell (p := ⟨T, 1, none⟩) hT).trans h1⟩

theorem node_made {w7 : World} : NodeAt (w7.alloc (Obj.cells #[Value.int IntKind.u8 1, Value.int IntKind.u8 0, Value.slice none 0 0, Value.slice none 0 0] 174)).drew w7.heap.size (.slice none 0 0) := ⟨by simp, by simp, by simp, by simp, by simp⟩
theorem NodeAt.below {w w' : World} {M : Nat} {v : Value} (h : NodeAt w M v) (hb : Below w.heap.size w w') : NodeAt w' M v := by
  have hM := World.block_lt_of_cell? w _ h.c0
  exact ⟨(hb.cell (p := ⟨M, 0, none⟩) hM).trans h.c0, (hb.cell (p := ⟨M, 1, none⟩) hM).trans h.c1, (hb.cell (p := ⟨M, 2, none⟩) hM).trans h.c2, (hb.cell (p := ⟨M, 3, none⟩) hM).trans h.c3, (hb.frozen (p := ⟨M, 2, none⟩) hM).trans h.f2⟩
theorem NodeAt.set {w : World} {M : Nat} {v : Value} (h : NodeAt w M v) (u : Value) : NodeAt (w.setCell ⟨M, 2, none⟩ u) M u := by
  refine ⟨?_, ?_, cell_same _ _ _ _ _ h.c2, ?_, ?_⟩
  · rw [cell_other _ _ _ _ _ (by omega)]; exact h.c0
  · rw [cell_other _ _ _ _ _ (by omega)]; exact h.c1
  · rw [cell_other _ _ _ _ _ (by omega)]; exact h.c3
  · rw [frozen_set]; exact h.f2
theorem sized_conv {w w' : World} {e : Ending} {t : Nat} {l : List Value} (h : ∃ A' c', e = Ending.returned (Value.slice A' t c') ∧ w'.ownsRow w.drew.heap.size 32 1 (Value.slice A' t c') t l ∧ Below w.drew.heap.size w.drew w') : ∃ A' c', e = Ending.returned (Value.slice A' t c') ∧ w'.ownsRow w.heap.size 32 1 (Value.slice A' t c') t l ∧ Below w.heap.size w w' := by
  obtain ⟨A, cap, h1, h2, h3⟩ := h
  exact ⟨A, cap, h1, h2, below_of_drew h3⟩
theorem held_bx {B X : Nat} {w0 u : World} {N O F Y : Nat} {vf vx vy : Int} {x : Value} (hB : B < w0.heap.size) (h0 : w0.cell? ⟨B, 2, none⟩ = some x) (h : NF w0 u N O F X Y vf vx vy) : Below w0.heap.size w0 u ∧ u.cell? ⟨B, 2, none⟩ = some x ∧ u.cell? ⟨X, 0, none⟩ = some (.int .i64 vx) :=
  ⟨h.bel, (h.bel.cell (p := ⟨B, 2, none⟩) hB).trans h0, h.x0⟩

theorem norm_world (w0 w2 : World) (N O : Nat) (X Y : List Value) (hX : X[0]? = some (.int .i16 0)) (hY : Y[0]? = some (.int .i64 0)) (hb : Below w0.heap.size w0 w2) (ho : w0.heap.size ≤ N ∧ N < O ∧ O < w2.heap.size) (o0 : w2.cell? ⟨O, 0, none⟩ = some (.slice (some ⟨N, 0, none⟩) 1 1)) (o1 : w2.cell? ⟨O, 1, none⟩ = some (.int .i16 0)) (n0 : w2.cell? ⟨N, 0, none⟩ = some (.int .u8 0)) (n1 : w2.cell? ⟨N, 1, none⟩ = some (.int .u8 0)) (n2 : w2.cell? ⟨N, 2, none⟩ = some (.slice none 0 0)) (n3 : w2.cell? ⟨N, 3, none⟩ = some (.slice none 0 0)) (zO : ∀ p, w2.frozen? ⟨O, p, none⟩ = false) (zN : ∀ p, w2.frozen? ⟨N, p, none⟩ = false) :
    NF w0 (((w2.alloc (.cells X.toArray 184)).alloc (.cells Y.toArray 185)).alloc (.cells Y.toArray 185)) N O w2.heap.size (w2.heap.size + 1) (w2.heap.size + 2) 0 0 0 := by
  have s1 : (w2.alloc (.cells X.toArray 184)).heap.size = w2.heap.size + 1 := by simp
  have s2 : ((w2.alloc (.cells X.toArray 184)).alloc (.cells Y.toArray 185)).heap.size = w2.heap.size + 2 := by simp
  have hb2 : Below w2.heap.size w2 (((w2.alloc (.cells X.toArray 184)).alloc (.cells Y.toArray 185)).alloc (.cells Y.toArray 185)) := (((Below.refl _ _).alloc (Nat.le_refl _) _).alloc (by simp) _).alloc (by simp; omega) _
  have c : ∀ b p, b ≤ O → (((w2.alloc (.cells X.toArray 184)).alloc (.cells Y.toArray 185)).alloc (.cells Y.toArray 185)).cell? ⟨b, p, none⟩ = w2.cell? ⟨b, p, none⟩ := fun b p h => hb2.cell (p := ⟨b, p, none⟩) (by show b < _; omega)
  have f : ∀ b p, b ≤ O → (((w2.alloc (.cells X.toArray 184)).alloc (.cells Y.toArray 185)).alloc (.cells Y.toArray 185)).frozen? ⟨b, p, none⟩ = w2.frozen? ⟨b, p, none⟩ := fun b p h => hb2.frozen (p := ⟨b, p, none⟩) (by show b < _; omega)
  refine ⟨hb.trans (hb2.mono hb.size), ⟨ho.1, ho.2.1, ho.2.2, by omega, by omega, by simp⟩, (c _ _ (by omega)).trans o0, (c _ _ (by omega)).trans o1, (c _ _ (by omega)).trans n0, (c _ _ (by omega)).trans n1, (c _ _ (by omega)).trans n2, (c _ _ (by omega)).trans n3, ?_, ?_, ?_, fun p => (f _ _ (by omega)).trans (zO p), fun p => (f _ _ (by omega)).trans (zN p), fun p => by rw [frozen?_alloc_cells, frozen?_alloc_cells]; simp, fun p => ?_, fun p => ?_⟩
  · rw [World.cell?_alloc_lt _ _ _ (by simp; omega), World.cell?_alloc_lt _ _ _ (by simp), cell_of_row _ _ 0 X.toArray 184 (0, 0) (heap_alloc_new w2 _), List.getElem?_toArray]; exact hX
  · rw [World.cell?_alloc_lt _ _ _ (by simp), ← s1, cell_of_row _ _ 0 Y.toArray 185 (0, 0) (heap_alloc_new _ _), List.getElem?_toArray]; exact hY
  · rw [← s2, cell_of_row _ _ 0 Y.toArray 185 (0, 0) (heap_alloc_new _ _), List.getElem?_toArray]; exact hY
  · rw [frozen?_alloc_cells, ← s1]; simp
  · rw [← s2, World.frozen?_alloc_new]

/-- A tree's blocks are new. -/
structure FreshT (b : Nat) (w : World) (O N : Nat) (A : Option Addr) : Prop where
  o : b ≤ O
  n : b ≤ N
  a : ∀ x, A = some x → b ≤ x.block ∧ x.block < w.heap.size

theorem norm_fin {w w10 : World} {N O F X Y t c' b : Nat} {vf vx vy : Int} {A' : Option Addr} {zs : List Int} (h : NF w w10 N O F X Y vf vx vy) (hwb : w.heap.size ≤ b) (hNb : N < b) (ho : w10.ownsRow b 32 1 (.slice A' t c') t (zs.map (Value.int .u64))) :
    ((((w10.setCell ⟨N, 0, none⟩ (.int .u8 1)).setCell ⟨N, 1, none⟩ (.int .u8 0)).setCell ⟨N, 2, none⟩ (.slice A' t c')).setCell ⟨N, 3, none⟩ (.slice none 0 0)).cell? ⟨O, 0, none⟩ = some (.slice (some ⟨N, 0, none⟩) 1 1) ∧ Hid (∃ A'' c'', TreeAt ((((w10.setCell ⟨N, 0, none⟩ (.int .u8 1)).setCell ⟨N, 1, none⟩ (.int .u8 0)).setCell ⟨N, 2, none⟩ (.slice A' t c')).setCell ⟨N, 3, none⟩ (.slice none 0 0)) O N 1 A'' t c'' zs ∧ FreshT w.heap.size ((((w10.setCell ⟨N, 0, none⟩ (.int .u8 1)).setCell ⟨N, 1, none⟩ (.int .u8 0)).setCell ⟨N, 2, none⟩ (.slice A' t c')).setCell ⟨N, 3, none⟩ (.slice none 0 0)) O N A'' ∧ Below w.heap.size w ((((w10.setCell ⟨N, 0, none⟩ (.int .u8 1)).setCell ⟨N, 1, none⟩ (.int .u8 0)).setCell ⟨N, 2, none⟩ (.slice A' t c')).setCell ⟨N, 3, none⟩ (.slice none 0 0))) := by
  obtain ⟨h1, h2, h3, h4, h5, h6⟩ := h.ord
  have hc : ∀ o, ((((w10.setCell ⟨N, 0, none⟩ (.int .u8 1)).setCell ⟨N, 1, none⟩ (.int .u8 0)).setCell ⟨N, 2, none⟩ (.slice A' t c')).setCell ⟨N, 3, none⟩ (.slice none 0 0)).cell? ⟨O, o, none⟩ = w10.cell? ⟨O, o, none⟩ := fun o => by
    rw [World.cell?_setCell_other _ _ _ _ (fun e => by simp only [Addr.mk.injEq] at e; omega), World.cell?_setCell_other _ _ _ _ (fun e => by simp only [Addr.mk.injEq] at e; omega), World.cell?_setCell_other _ _ _ _ (fun e => by simp only [Addr.mk.injEq] at e; omega), World.cell?_setCell_other _ _ _ _ (fun e => by simp only [Addr.mk.injEq] at e; omega)]
  have ho' := ownsRow_setCell_below (ownsRow_setCell_below (ownsRow_setCell_below (ownsRow_setCell_below ho (a := ⟨N, 0, none⟩) hNb (.int .u8 1)) (a := ⟨N, 1, none⟩) hNb (.int .u8 0)) (a := ⟨N, 2, none⟩) hNb (.slice A' t c')) (a := ⟨N, 3, none⟩) hNb (.slice none 0 0)
  obtain ⟨hl, _, hsl, _⟩ := Sl.of_own ho'
  refine ⟨(hc 0).trans h.o0, hide ⟨A', c', ⟨(hc 0).trans h.o0, (hc 1).trans h.o1, ?_, ?_, ?_, ?_, hsl, hl.symm⟩, ⟨by omega, h1, fun x hx => by subst hx; have := ho'.lt x.block rfl; exact ⟨by omega, this.2⟩⟩, (((h.bel.setCell h1 _).setCell h1 _).setCell h1 _).setCell h1 _⟩⟩
  · rw [cell_other _ _ _ _ _ (by omega), cell_other _ _ _ _ _ (by omega), cell_other _ _ _ _ _ (by omega)]; exact cell_same _ _ _ _ _ h.n0
  · rw [cell_other _ _ _ _ _ (by omega), cell_other _ _ _ _ _ (by omega)]; exact cell_same _ _ _ _ _ ((cell_other _ _ _ _ _ (by omega)).trans h.n1)
  · rw [cell_other _ _ _ _ _ (by omega)]; exact cell_same _ _ _ _ _ ((cell_other _ _ _ _ _ (by omega)).trans ((cell_other _ _ _ _ _ (by omega)).trans h.n2))
  · exact cell_same _ _ _ _ _ ((cell_other _ _ _ _ _ (by omega)).trans ((cell_other _ _ _ _ _ (by omega)).trans ((cell_other _ _ _ _ _ (by omega)).trans h.n3)))
theorem norm_fin2 {w w10 : World} {N O F X Y t c' b : Nat} {vf vx vy : Int} {A' : Option Addr} {zs : List Int} (h : NF w w10 N O F X Y vf vx vy) (hwb : w.heap.size ≤ b) (hNb : N < b) (ho : w10.ownsRow b 32 1 (.slice A' t c') t (zs.map (Value.int .u64))) :
    ((((w10.setCell ⟨N, 0, none⟩ (.int .u8 1)).setCell ⟨N, 1, none⟩ (.int .u8 0)).setCell ⟨N, 2, none⟩ (.slice A' t c')).setCell ⟨N, 3, none⟩ (.slice none 0 0)).drew.cell? ⟨O, 0, none⟩ = some (.slice (some ⟨N, 0, none⟩) 1 1) ∧ Hid (∃ A'' c'', TreeAt ((((w10.setCell ⟨N, 0, none⟩ (.int .u8 1)).setCell ⟨N, 1, none⟩ (.int .u8 0)).setCell ⟨N, 2, none⟩ (.slice A' t c')).setCell ⟨N, 3, none⟩ (.slice none 0 0)).drew O N 1 A'' t c'' zs ∧ FreshT w.heap.size ((((w10.setCell ⟨N, 0, none⟩ (.int .u8 1)).setCell ⟨N, 1, none⟩ (.int .u8 0)).setCell ⟨N, 2, none⟩ (.slice A' t c')).setCell ⟨N, 3, none⟩ (.slice none 0 0)).drew O N A'' ∧ Below w.heap.size w ((((w10.setCell ⟨N, 0, none⟩ (.int .u8 1)).setCell ⟨N, 1, none⟩ (.int .u8 0)).setCell ⟨N, 2, none⟩ (.slice A' t c')).setCell ⟨N, 3, none⟩ (.slice none 0 0)).drew) := by
  obtain ⟨h1, h2⟩ := norm_fin h hwb hNb ho
  obtain ⟨A2, c2, h3, h5, h4⟩ := unhide h2
  exact ⟨h1, hide ⟨A2, c2, h3.below (Below.refl _ _).drew, ⟨h5.o, h5.n, h5.a⟩, h4.drew⟩⟩
theorem held_om {O M : Nat} {u : World} {x y : Value} (h0 : u.cell? ⟨O, 0, none⟩ = some x) (h : NodeAt u M y) : u.cell? ⟨O, 0, none⟩ = some x ∧ u.cell? ⟨M, 0, none⟩ = some (.int .u8 1) ∧ u.cell? ⟨M, 1, none⟩ = some (.int .u8 0) ∧ u.cell? ⟨M, 2, none⟩ = some y ∧ u.cell? ⟨M, 3, none⟩ = some (.slice none 0 0) := ⟨h0, h.c0, h.c1, h.c2, h.c3⟩
theorem held_drew {O M : Nat} {u : World} {x y z a b : Value} (h : u.cell? ⟨O, 0, none⟩ = some x ∧ u.cell? ⟨M, 0, none⟩ = some a ∧ u.cell? ⟨M, 1, none⟩ = some b ∧ u.cell? ⟨M, 2, none⟩ = some y ∧ u.cell? ⟨M, 3, none⟩ = some z) : u.drew.cell? ⟨O, 0, none⟩ = some x ∧ u.drew.cell? ⟨M, 0, none⟩ = some a ∧ u.drew.cell? ⟨M, 1, none⟩ = some b ∧ u.drew.cell? ⟨M, 2, none⟩ = some y ∧ u.drew.cell? ⟨M, 3, none⟩ = some z := h
theorem held_set {O M N p : Nat} {u : World} {x y z a b v : Value} (hO : O ≠ N) (hM : M ≠ N) (h : u.cell? ⟨O, 0, none⟩ = some x ∧ u.cell? ⟨M, 0, none⟩ = some a ∧ u.cell? ⟨M, 1, none⟩ = some b ∧ u.cell? ⟨M, 2, none⟩ = some y ∧ u.cell? ⟨M, 3, none⟩ = some z) : (u.setCell ⟨N, p, none⟩ v).cell? ⟨O, 0, none⟩ = some x ∧ (u.setCell ⟨N, p, none⟩ v).cell? ⟨M, 0, none⟩ = some a ∧ (u.setCell ⟨N, p, none⟩ v).cell? ⟨M, 1, none⟩ = some b ∧ (u.setCell ⟨N, p, none⟩ v).cell? ⟨M, 2, none⟩ = some y ∧ (u.setCell ⟨N, p, none⟩ v).cell? ⟨M, 3, none⟩ = some z := by
  have hc : ∀ B o, B ≠ N → (u.setCell ⟨N, p, none⟩ v).cell? ⟨B, o, none⟩ = u.cell? ⟨B, o, none⟩ := fun B o hB => World.cell?_setCell_other _ _ _ _ (fun e => by simp only [Addr.mk.injEq] at e; exact hB e.1.symm)
  exact ⟨(hc _ _ hO).trans h.1, (hc _ _ hM).trans h.2.1, (hc _ _ hM).trans h.2.2.1, (hc _ _ hM).trans h.2.2.2.1, (hc _ _ hM).trans h.2.2.2.2⟩

set_option maxHeartbeats 3000000 in
set_option maxRecDepth 100000 in
theorem norm_any (T B cap d capd : Nat) (A : Option Addr) (ys : List Int) (w : World) (ht : TreeAt w T B cap A d capd ys) (hd : d ≤ 8) :
    Calls Fagg.prog 38 #[.pointer (some ⟨T, 0, none⟩)] w fun e w' => ∃ O N A' c', e = .returned (.pointer (some ⟨O, 0, none⟩)) ∧ TreeAt w' O N 1 A' (trimN ys d) c' (ys.take (trimN ys d)) ∧ FreshT w.heap.size w' O N A' ∧ Below w.heap.size w w' := by
  have HCH := hide (tcheck_any T B cap d capd A ys w ht hd)
  have HTR := hide (fun W (hW : Below w.heap.size w W) => trimmed_any T B cap d capd A ys W (ht.below hW) hd)
  have HSZ := hide (fun W (hW : Below w.heap.size w W) => sized_any A d capd (trimN ys d) ys W (ht.dat.below hW) ht.len (trimN_le ys d) hd)
  have HT := hide ht
  have hle : trimN ys d ≤ 8 := Nat.le_trans (trimN_le ys d) hd
  have hLE : Hid ((ys.take (trimN ys d)).length = trimN ys d) := hide (by rw [List.length_take, ht.len]; exact Nat.min_eq_left (trimN_le ys d))
  generalize trimN ys d = t at *
  have hT : T < w.heap.size := World.block_lt_of_cell? w _ ht.n
  have hB : B < w.heap.size := World.block_lt_of_cell? w _ ht.k0
  clear ht hd
  have z0 : (List.replicate 512 (Value.int .i16 0))[0]? = some (.int .i16 0) := rfl
  have z1 : (List.replicate 512 (Value.int .i64 0))[0]? = some (.int .i64 0) := rfl
  have i0 := info184
  have i1 := info185
  generalize List.replicate 512 (Value.int .i16 0) = Z0 at *
  generalize List.replicate 512 (Value.int .i64 0) = Z1 at *
  go_enter Fagg.func38, Fagg.ntmps38
  refine wp_seq_k (fun K0 hK0 => ?_)
  have HC0 := hide hK0
  clear hK0
  go_wp2_with fail
  refine unhide HC0 _ _ ?_
  clear HC0
  refine wp_seq_k (fun K0 hK0 => ?_)
  have HC0 := hide hK0
  clear hK0
  go_wp2_with (go_at_call 36; with_reducible refine (unhide HCH).mono ?_; rintro e w1 ⟨rfl, hb1⟩; have r1 := (hb1.cell (p := ⟨T, 1, none⟩) hT).trans (unhide HT).r; have HB1 := hide hb1; clear hb1)
  refine unhide HC0 _ _ ?_
  clear HC0
  refine wp_seq_k (fun K0 hK0 => ?_)
  have HC0 := hide hK0
  clear hK0
  go_wp2_with fail
  refine unhide HC0 _ _ ?_
  clear HC0
  refine gen_world _ (fun w' => Below w.heap.size w w' ∧ (w.heap.size ≤ w1.heap.size ∧ w1.heap.size < w1.heap.size + 1 ∧ w1.heap.size + 1 < w'.heap.size) ∧ w'.cell? ⟨w1.heap.size + 1, 0, none⟩ = some (.slice (some ⟨w1.heap.size, 0, none⟩) 1 1) ∧ w'.cell? ⟨w1.heap.size + 1, 1, none⟩ = some (.int .i16 0) ∧ w'.cell? ⟨w1.heap.size, 0, none⟩ = some (.int .u8 0) ∧ w'.cell? ⟨w1.heap.size, 1, none⟩ = some (.int .u8 0) ∧ w'.cell? ⟨w1.heap.size, 2, none⟩ = some (.slice none 0 0) ∧ w'.cell? ⟨w1.heap.size, 3, none⟩ = some (.slice none 0 0) ∧ (∀ p, w'.frozen? ⟨w1.heap.size + 1, p, none⟩ = false) ∧ (∀ p, w'.frozen? ⟨w1.heap.size, p, none⟩ = false)) ⟨((unhide HB1).alloc (unhide HB1).size _).alloc (by have := (unhide HB1).size; simp; omega) _, ⟨(unhide HB1).size, by omega, by simp⟩, by simp, by simp, by simp, by simp, by simp, by simp, fun p => by simp, fun p => by simp⟩ ?_
  rintro w2 ⟨hb2, ho2, o0, o1, n0, n1, n2, n3, zO, zN⟩
  generalize w1.heap.size + 1 = O at *
  generalize w1.heap.size = N at *
  have HW := hide (norm_world w w2 N O Z0 Z1 z0 z1 hb2 ho2 o0 o1 n0 n1 n2 n3 zO zN)
  clear z0 z1 hb2 ho2 o0 o1 n0 n1 n2 n3 zO zN r1 HB1 HCH
  have e1 : (w2.alloc (.cells Z0.toArray 184)).heap.size = w2.heap.size + 1 := by simp
  have e2 : ((w2.alloc (.cells Z0.toArray 184)).alloc (.cells Z1.toArray 185)).heap.size = w2.heap.size + 2 := by simp
  refine wp_seq_k (fun K0 hK0 => ?_)
  have HC0 := hide hK0
  clear hK0
  refine wp_region_lit ?_
  refine wpList_alloc_big i0 rfl rfl ?_
  simp only [Act.put, List.setIfInBounds_toArray, List.set_cons_zero, List.set_cons_succ]
  go_wp2_with fail
  refine unhide HC0 _ _ ?_
  clear HC0
  refine wp_seq_k (fun K0 hK0 => ?_)
  have HC0 := hide hK0
  clear hK0
  refine wp_region_lit ?_
  refine wpList_alloc_big i1 rfl rfl ?_
  simp only [Act.put, List.setIfInBounds_toArray, List.set_cons_zero, List.set_cons_succ]
  refine wpList_alloc_big i1 rfl rfl ?_
  simp only [Act.put, List.setIfInBounds_toArray, List.set_cons_zero, List.set_cons_succ]
  go_wp2_with fail
  refine unhide HC0 _ _ ?_
  clear HC0
  simp only [e1, e2]
  clear e1 e2 i0 i1
  refine gen_world _ (fun w' => NF w w' N O w2.heap.size (w2.heap.size + 1) (w2.heap.size + 2) 0 0 0) (unhide HW) ?_
  clear HW
  generalize w2.heap.size + 2 = Y
  generalize w2.heap.size + 1 = X
  generalize w2.heap.size = F
  clear w1 w2
  intro w3 h3
  have H3 := hide h3
  have r3 := (h3.bel.cell (p := ⟨T, 1, none⟩) hT).trans (unhide HT).r
  have c3 := h3.f0
  have f3 := h3.zF 0
  clear h3
  refine wp_seq_k (fun K0 hK0 => ?_)
  have HC0 := hide hK0
  clear hK0
  go_wp2_with fail
  refine unhide HC0 _ _ ?_
  clear HC0
  refine gen_world _ (fun w' => NF w w' N O F X Y 0 0 0) ((unhide H3).setF 0) ?_
  clear r3 c3 f3 H3
  clear w3
  intro w4 h4
  have H4 := hide h4
  have HN4 := hide ((unhide HTR w4.drew h4.bel.drew).mono (fun e w' h => And.intro h.1 (below_of_drew h.2)))
  have t0 := (h4.bel.cell (p := ⟨T, 0, none⟩) hT).trans (unhide HT).n
  have t1 := (h4.bel.cell (p := ⟨T, 1, none⟩) hT).trans (unhide HT).r
  have s0 := (unhide HT).n
  have s1 := (unhide HT).r
  have hXY : ¬ X = Y := by have := h4.ord; omega
  have hYX : ¬ Y = X := by have := h4.ord; omega
  clear h4
  refine wp_seq_k (fun K0 hK0 => ?_)
  have HC0 := hide hK0
  clear hK0
  go_wp2_with fail
  go_region_held2 (fun w' => Below w.heap.size w w' ∧ w'.cell? ⟨T, 0, none⟩ = some (.slice (some ⟨B, 0, none⟩) 1 cap) ∧ w'.cell? ⟨T, 1, none⟩ = some (.int .i16 0)) ((refine held2c hT s0 s1 ?_; first | exact (unhide H4).bel.drew | exact (unhide H5).bel | exact ((unhide H5).setX _).bel | exact ((unhide H5).setY _).bel | exact (((unhide H5).setX _).setY _).bel | exact (((unhide H5).setY _).setX _).bel)) ((go_at_call 88; with_reducible refine (unhide HN4).mono ?_; rintro e w5 ⟨rfl, hb5⟩; have H5 := hide ((unhide H4).below hb5); have a5 := (unhide H5).x0; have b5 := (unhide H5).y0; have p5 := (unhide H5).zX 0; have q5 := (unhide H5).zY 0; clear hb5))
  refine unhide HC0 _ _ ?_
  clear HC0
  refine gen_world _ (fun w' => NF w w' N O F X Y 0 (t : Int) 0) (((unhide H5).setX _).setY _) ?_
  clear H5 a5 b5 p5 q5 H4 HN4 t0 t1
  intro w6 h6
  have H6 := hide h6
  have t0 := (h6.bel.cell (p := ⟨T, 0, none⟩) hT).trans s0
  have l0 := h6.f0
  have u0 := h6.o0
  clear h6
  go_wp2_with fail
  go_loopw [7] (fun s wr => (s = .int .i64 0 ∧ wr = w6) ∨ (s = .int .i64 1 ∧ wr.cell? ⟨O, 0, none⟩ = some (.slice (some ⟨N, 0, none⟩) 1 1) ∧ Hid (∃ A' c', TreeAt wr O N 1 A' t c' (ys.take t) ∧ FreshT w.heap.size wr O N A' ∧ Below w.heap.size w wr))) (fun s _ => 1 - (intOf s).toNat)
  case atStart => exact .inl ⟨rfl, rfl⟩
  case round =>
    rcases hrel with ⟨rfl, rfl⟩ | ⟨rfl, k0, HF⟩
    · go_wp2_with fail
      go_quiet (fail)
      go_wp2_with fail
      refine gen_world _ (fun w' => NF w w' N O F X Y 0 (t : Int) 0) ((unhide H6).below (bel_drewN (Below.refl _ _) nq)) ?_
      intro w7 h7
      have H7 := hide h7
      have k0 := (h7.bel.cell (p := ⟨B, 0, none⟩) hB).trans (unhide HT).k0
      have k1 := (h7.bel.cell (p := ⟨B, 1, none⟩) hB).trans (unhide HT).k1
      have v0 := (unhide HT).k0
      have v1 := (unhide HT).k1
      clear h7 t0 l0 u0
      go_region_held2 (fun w' => Below w.heap.size w w' ∧ w'.cell? ⟨B, 0, none⟩ = some (.int .u8 1) ∧ w'.cell? ⟨B, 1, none⟩ = some (.int .u8 0)) ((refine held2c hB v0 v1 ?_; first | exact (unhide H7).bel.drew | exact ((unhide H7).bel.drew).alloc (unhide H7).bel.size _ | exact ((unhide H7).bel.alloc (unhide H7).bel.size _).drew)) (fail)
      have h8 : NF w (w7.alloc (Obj.cells #[Value.int IntKind.u8 1, Value.int IntKind.u8 0, Value.slice none 0 0, Value.slice none 0 0] 174)).drew N O F X Y 0 (t : Int) 0 := (unhide H7).below ((Below.refl _ _).alloc (Nat.le_refl _) _).drew
      have n8 := node_made (w7 := w7)
      have l8 : w7.heap.size < (w7.alloc (Obj.cells #[Value.int IntKind.u8 1, Value.int IntKind.u8 0, Value.slice none 0 0, Value.slice none 0 0] 174)).drew.heap.size := by simp
      have hYM : Y < w7.heap.size := (unhide H7).ord.2.2.2.2.2
      clear k0 k1 H7
      generalize w7.heap.size = M at *
      revert h8 n8 l8
      generalize (w7.alloc (Obj.cells #[Value.int IntKind.u8 1, Value.int IntKind.u8 0, Value.slice none 0 0, Value.slice none 0 0] 174)).drew = w8
      intro h8 n8 l8
      have H8 := hide h8
      have N8 := hide n8
      have k0 := (h8.bel.cell (p := ⟨B, 0, none⟩) hB).trans v0
      have v2 := (unhide HT).k2
      have HS8 := hide ((unhide HSZ w8.drew h8.bel.drew).mono (fun e w' h => sized_conv h))
      have hXM : ¬ X = M := by have := h8.ord; omega
      have hBM : ¬ B = M := by have := h8.ord; have := h8.bel.size; omega
      have H8D := (unhide H8).below ((Below.refl _ _).drew)
      clear h8 n8
      go_wp2_with fail
      go_region_held2 (fun w' => Below w.heap.size w w' ∧ w'.cell? ⟨B, 2, none⟩ = some (.slice A d capd) ∧ w'.cell? ⟨X, 0, none⟩ = some (.int .i64 (t : Int))) ((first | exact held_bx hB v2 H8D | exact held_bx hB v2 (unhide H9) | exact held_bx hB v2 ((unhide H9).other _ _ _ hYM))) ((go_at_call 89; with_reducible refine (unhide HS8).mono ?_; rintro e w9 ⟨A', c', rfl, ho9, hb9⟩; have H9 := hide ((unhide H8).below hb9); have N9 := hide ((unhide N8).below hb9); have m2 := (unhide N9).c2; have m2f := (unhide N9).f2; have HO9 := hide ho9; clear ho9 hb9))
      have h10 := (unhide H9).other M 2 (.slice A' t c') hYM
      have n10 := (unhide N9).set (.slice A' t c')
      have o10 := ownsRow_setCell_below (unhide HO9) (a := ⟨M, 2, none⟩) l8 (.slice A' t c')
      clear H9 N9 HO9 m2 m2f H8D HS8
      revert h10 n10 o10
      generalize w9.setCell ⟨M, 2, none⟩ (.slice A' t c') = w10
      intro h10 n10 o10
      have H10 := hide h10
      have N10 := hide n10
      have O10 := hide o10
      have kb := (h10.bel.cell (p := ⟨B, 0, none⟩) hB).trans v0
      have y10 := h10.y0
      have m10 := held_om h10.o0 n10
      have hNM : M ≠ N := by have := h10.ord; omega
      have hON : O ≠ N := by have := h10.ord; omega
      have hN8 : N < w8.heap.size := by have := h10.ord; omega
      have hw8 : w.heap.size ≤ w8.heap.size := by have := h10.ord; omega
      have q0 := h10.n0
      have q1 := h10.n1
      have q2 := h10.n2
      have q3 := h10.n3
      have z0 := h10.zN 0
      have z1 := h10.zN 1
      have z2 := h10.zN 2
      have z3 := h10.zN 3
      clear h10 n10 o10
      have HM10 := hide m10
      clear m10
      go_wp2_with fail
      go_loopw [13] (fun s wx => s = .int .i64 0 ∧ wx = w10) (fun _ _ => 0)
      case atStart => exact ⟨rfl, rfl⟩
      case round =>
        obtain ⟨rfl, rfl⟩ := hrel
        go_wp2_with fail
        go_region_held2 (fun w' => w'.cell? ⟨O, 0, none⟩ = some (.slice (some ⟨N, 0, none⟩) 1 1) ∧ w'.cell? ⟨M, 0, none⟩ = some (.int .u8 1) ∧ w'.cell? ⟨M, 1, none⟩ = some (.int .u8 0) ∧ w'.cell? ⟨M, 2, none⟩ = some (.slice A' t c') ∧ w'.cell? ⟨M, 3, none⟩ = some (.slice none 0 0)) ((first | exact held_drew (unhide HM10) | exact held_set hON hNM (held_set hON hNM (held_set hON hNM (held_set hON hNM (held_drew (unhide HM10))))) | exact held_drew (held_set hON hNM (held_set hON hNM (held_set hON hNM (held_set hON hNM (unhide HM10))))))) (fail)
        have hfin := norm_fin2 (unhide H10) hw8 hN8 (unhide O10)
        clear q0 q1 q2 q3 z0 z1 z2 z3 kb y10 HM10 H10 N10 O10
        revert hfin
        generalize World.drew ((((wr.setCell _ _).setCell _ _).setCell _ _).setCell _ _) = w11
        intro hfin
        go_wp2_with fail
        refine ⟨.inr ⟨rfl, ?_⟩, by decide⟩
        exact hfin
    · go_wp2_with fail
      obtain ⟨A', c', htt, hft, hb⟩ := unhide HF
      exact bodyPost_ret (v := .pointer (some ⟨O, 0, none⟩)) (by simp [results, Fagg.results38, go_sem]) rfl ⟨O, N, A', c', rfl, htt, hft, hb⟩
end Go.Proofs.Ygcfag
