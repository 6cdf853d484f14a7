/-
  WALKS: the builder's slot, room.
-/
import Derived.Test.YgcfagW110
namespace Go.Proofs.Ygcfag
open Go.RowKit
set_option linter.unusedVariables false
set_option linter.unusedSimpArgs false

theorem BdAt.p6 {w0 w : World} {B : Nat} {n : Nat → Nat} {v : Nat → Value} {xs : Nat → List Value} (h : BdAt w0 w B v n xs) {g cap : Nat} (hv : v 1 = .slice (some ⟨g, 0, none⟩) (n 1) cap) (q : Pt) (k : Nat) (hk : k < n 1) (hx : ∀ j, j < 6 → (xs 1)[6 * k + j]? = (ptCs q)[j]?) :
    w.cell? ⟨g, 6 * k + 0, none⟩ = some (.int .u8 q.kind) ∧ w.cell? ⟨g, 6 * k + 1, none⟩ = some (.int .u16 q.at_) ∧ w.cell? ⟨g, 6 * k + 2, none⟩ = some (.int .u8 q.data) ∧ w.cell? ⟨g, 6 * k + 3, none⟩ = some (.int .u8 q.ptrs) ∧ w.cell? ⟨g, 6 * k + 4, none⟩ = some (.int .u8 q.code) ∧ w.cell? ⟨g, 6 * k + 5, none⟩ = some (.int .u16 q.count) := by
  have ho := h.own1
  rw [hv] at ho
  have c : ∀ j, j < 6 → w.cell? ⟨g, 6 * k + j, none⟩ = (ptCs q)[j]? := fun j hj => (ho.cellAt (6 * k + j) (by omega)).trans (hx j hj)
  exact ⟨c 0 (by omega), c 1 (by omega), c 2 (by omega), c 3 (by omega), c 4 (by omega), c 5 (by omega)⟩

set_option maxHeartbeats 1000000 in
set_option maxRecDepth 100000 in
theorem slot_any {w0 w : World} {B : Nat} {a b c d e f : Value} {xa xu xv xp xd : List Value} (h : BdAt w0 w B (st a b c d e f) (st 1 1 1 1 1 1) (st xa (ptCs pt00) xu xv xp xd)) :
    Calls Fagg.prog 201 #[.pointer (some ⟨B, 0, none⟩), .int .u8 0, .int .u8 0] w fun ee w' => ee = .returned (.tuple #[.int .u16 0, .bool true]) ∧ Below w.heap.size w w' := by
  obtain ⟨g0, k0, e0, _, _⟩ := h.own0.form (show 0 < 1 by omega)
  obtain ⟨g1, k1, e1, _, _⟩ := h.own1.form (show 0 < 1 by omega)
  have c0 : w.cell? ⟨B, 0, none⟩ = some (.slice (some ⟨g0, 0, none⟩) 1 k0) := h.c0.trans (congrArg some e0)
  have c1 : w.cell? ⟨B, 5, none⟩ = some (.slice (some ⟨g1, 0, none⟩) 1 k1) := h.c1.trans (congrArg some e1)
  obtain ⟨p0, p1, p2, p3, p4, p5⟩ := h.p6 (g := g1) (cap := k1) e1 pt00 0 (show 0 < 1 by omega) (fun j hj => by simp [st])
  simp only [Nat.mul_zero, Nat.zero_add, pt00] at p0 p1 p2 p3 p4 p5
  have hB := h.bl
  clear h e0 e1
  go_enter Fagg.func201, Fagg.ntmps201
  refine wp_seq_k (fun K0 hK0 => ?_)
  have HC0 := hide hK0
  clear hK0
  go_wp2_with fail
  refine unhide HC0 _ _ ?_
  clear HC0
  refine wp_seq_k (fun K0 hK0 => ?_)
  have HC0 := hide hK0
  clear hK0
  go_wp2_with fail
  refine unhide HC0 _ _ ?_
  clear HC0
  refine gen_world _ (fun w' => Below w.heap.size w w' ∧ P6 w' w.heap.size pt00) ⟨(Below.refl _ _).alloc (Nat.le_refl _) _, ⟨by simp [pt00], by simp [pt00], by simp [pt00], by simp [pt00], by simp [pt00], by simp [pt00]⟩⟩ ?_
  rintro w1 ⟨hb, ⟨r0, r1, r2, r3, r4, r5⟩⟩
  simp only [pt00] at r0 r1 r2 r3 r4 r5
  have d0 := (hb.cell (p := ⟨B, 0, none⟩) hB).trans c0
  have HB := hide hb
  clear hb p0 p1 p2 p3 p4 p5 c0 c1
  refine wp_seq_k (fun K0 hK0 => ?_)
  have HC0 := hide hK0
  clear hK0
  go_wp2_with fail
  refine unhide HC0 _ _ ?_
  clear HC0
  refine wp_seq_k (fun K0 hK0 => ?_)
  have HC0 := hide hK0
  clear hK0
  go_wp2_with fail
  refine unhide HC0 _ _ ?_
  clear HC0
  go_wp2_with fail
  go_region
  go_wp2_with fail
  refine bodyPost_ret (v := .tuple #[.int .u16 0, .bool true]) (by simp [results, Fagg.results201, go_sem]) rfl ⟨rfl, (unhide HB).drew⟩

/-- An operation of a builder. -/
abbrev opCs (k h i x y n v : Int) (s : ByteArray) : Array Value := #[.int .u8 k, .int .u8 h, .int .u8 i, .int .u8 x, .int .u8 y, .int .u16 n, .int .u64 v, .string s]
structure O8 (w : World) (G : Nat) (k h i x y n v : Int) (s : ByteArray) : Prop where
  c0 : w.cell? ⟨G, 0, none⟩ = some (.int .u8 k)
  c1 : w.cell? ⟨G, 1, none⟩ = some (.int .u8 h)
  c2 : w.cell? ⟨G, 2, none⟩ = some (.int .u8 i)
  c3 : w.cell? ⟨G, 3, none⟩ = some (.int .u8 x)
  c4 : w.cell? ⟨G, 4, none⟩ = some (.int .u8 y)
  c5 : w.cell? ⟨G, 5, none⟩ = some (.int .u16 n)
  c6 : w.cell? ⟨G, 6, none⟩ = some (.int .u64 v)
  c7 : w.cell? ⟨G, 7, none⟩ = some (.string s)
theorem o8_new (w : World) (k h i x y n v : Int) (s : ByteArray) : O8 (w.alloc (.cells (opCs k h i x y n v s) 129)) w.heap.size k h i x y n v s :=
  ⟨by simp, by simp, by simp, by simp, by simp, by simp, by simp, by simp⟩
theorem O8.below {w w' : World} {G : Nat} {k h i x y n v : Int} {s : ByteArray} (o : O8 w G k h i x y n v s) (hb : Below w.heap.size w w') : O8 w' G k h i x y n v s := by
  have hG := World.block_lt_of_cell? w _ o.c0
  have c : ∀ p, w'.cell? ⟨G, p, none⟩ = w.cell? ⟨G, p, none⟩ := fun p => hb.cell (p := ⟨G, p, none⟩) hG
  exact ⟨(c _).trans o.c0, (c _).trans o.c1, (c _).trans o.c2, (c _).trans o.c3, (c _).trans o.c4, (c _).trans o.c5, (c _).trans o.c6, (c _).trans o.c7⟩

set_option maxHeartbeats 1000000 in
set_option maxRecDepth 100000 in
theorem room_any {w0 w : World} {B : Nat} {a b c d e f : Value} {xu xv xd : List Value} (h : BdAt w0 w B (st a b c d e f) (st 1 1 1 1 1 1) (st [.int .u64 0] (ptCs pt00) xu xv [.int .u8 0] xd)) (k x y n v : Int) (s : ByteArray) (dn : Nat) (hd : dn ≤ 8) :
    Calls Fagg.prog 194 #[.pointer (some ⟨B, 0, none⟩), .agg (opCs k 0 0 x y n v s), .int .u16 (dn : Int), .int .i64 1] w fun ee w' => ee = .returned (.tuple #[.int .u16 0, .bool true]) ∧ Below w.heap.size w w' := by
  have HB0 := hide (fun (W : World) (hW : Below w.heap.size w W) => (h.below hW))
  have HSL := hide (fun (W : World) (hW : Below w.heap.size w W) => slot_any (h.below hW))
  obtain ⟨g0, k0, e0, _, _⟩ := h.own0.form (show 0 < 1 by omega)
  obtain ⟨g1, k1, e1, _, _⟩ := h.own1.form (show 0 < 1 by omega)
  obtain ⟨g4, k4, e4, _, _⟩ := h.own4.form (show 0 < 1 by omega)
  have e0' : a = .slice (some ⟨g0, 0, none⟩) 1 k0 := e0
  have e1' : b = .slice (some ⟨g1, 0, none⟩) 1 k1 := e1
  have e4' : e = .slice (some ⟨g4, 0, none⟩) 1 k4 := e4
  clear e0 e1 e4 h
  subst e0' e1' e4'
  have d1 : decide ((256 : Int) < 1 + (dn : Int)) = false := decide_eq_false (by omega)
  go_enter Fagg.func194, Fagg.ntmps194
  refine wp_seq_k (fun K0 hK0 => ?_)
  have HC0 := hide hK0
  clear hK0
  go_wp2_with fail
  refine unhide HC0 _ _ ?_
  clear HC0
  refine gen_world _ (fun w' => Below w.heap.size w w' ∧ O8 w' w.heap.size k 0 0 x y n v s) ⟨(Below.refl _ _).alloc (Nat.le_refl _) _, o8_new _ _ _ _ _ _ _ _ _⟩ ?_
  rintro w1 ⟨hb1, ho1⟩
  have HS1 := hide (unhide HSL w1 hb1)
  have o1 := ho1.c1
  have o2 := ho1.c2
  have HO1 := hide ho1
  have HB1 := hide hb1
  clear hb1 ho1 HSL
  refine wp_seq_k (fun K0 hK0 => ?_)
  have HC0 := hide hK0
  clear hK0
  go_wp2_with (go_at_call 201; with_reducible refine (unhide HS1).mono ?_; rintro ee w2 ⟨rfl, hb2⟩; have HO2 := hide ((unhide HO1).below hb2); have HB2 := hide ((unhide HB1).trans (hb2.mono (unhide HB1).size)); clear hb2)
  refine unhide HC0 _ _ ?_
  clear HC0 o1 o2 HO1 HB1 HS1
  have h2 := unhide HB0 w2 (unhide HB2)
  have o1 := (unhide HO2).c1
  have c0 : w2.cell? ⟨B, 0, none⟩ = some (.slice (some ⟨g0, 0, none⟩) 1 k0) := h2.c0
  have c1 : w2.cell? ⟨B, 5, none⟩ = some (.slice (some ⟨g1, 0, none⟩) 1 k1) := h2.c1
  have c4 : w2.cell? ⟨B, 8, none⟩ = some (.slice (some ⟨g4, 0, none⟩) 1 k4) := h2.c4
  have x0 : w2.cell? ⟨g0, 0, none⟩ = some (.int .u64 0) := World.ownsRow.cellAt (show w2.ownsRow w0.heap.size 32 1 (.slice (some ⟨g0, 0, none⟩) 1 k0) 1 [.int .u64 0] from h2.own0) 0 (by omega)
  have x4 : w2.cell? ⟨g4, 0, none⟩ = some (.int .u8 0) := World.ownsRow.cellAt (show w2.ownsRow w0.heap.size 5 1 (.slice (some ⟨g4, 0, none⟩) 1 k4) 1 [.int .u8 0] from h2.own4) 0 (by omega)
  clear h2
  refine wp_seq_k (fun K0 hK0 => ?_)
  have HC0 := hide hK0
  clear hK0
  go_wp2_with fail
  go_quiet (fail)
  go_wp2_with fail
  refine unhide HC0 _ _ ?_
  clear HC0 x0 x4 c4
  have HB3 := hide (bel_drewN (unhide HB2) nq)
  have d0 : (w2.drewN nq).cell? ⟨B, 0, none⟩ = some (.slice (some ⟨g0, 0, none⟩) 1 k0) := c0
  have d5 : (w2.drewN nq).cell? ⟨B, 5, none⟩ = some (.slice (some ⟨g1, 0, none⟩) 1 k1) := c1
  revert HB3 d0 d5
  generalize w2.drewN nq = w3
  intro HB3 d0 d5
  clear c0 c1 o1 HO2 HB2 HB0
  go_wp2_with fail
  refine bodyPost_ret (v := .tuple #[.int .u16 0, .bool true]) (by simp [results, Fagg.results194, go_sem]) rfl ⟨rfl, unhide HB3⟩
end Go.Proofs.Ygcfag
