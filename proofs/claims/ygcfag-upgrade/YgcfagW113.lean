/-
  WALKS: the builder's newStruct.
-/
import Derived.Test.YgcfagW112
namespace Go.Proofs.Ygcfag
open Go.RowKit
set_option linter.unusedVariables false
set_option linter.unusedSimpArgs false

theorem BdAt.store0 {w0 w : World} {B na : Nat} {m : Nat} {g cap : Nat} {b c d e f : Value} {xa xo xu xv xp xd : List Value} (h : BdAt w0 w B (st (.slice (some ⟨g, 0, none⟩) na cap) b c d e f) (st na m m m m m) (st xa xo xu xv xp xd)) (j : Nat) (u : Value) :
    BdAt w0 (w.setCell ⟨g, j, none⟩ u) B (st (.slice (some ⟨g, 0, none⟩) na cap) b c d e f) (st na m m m m m) (st (xa.set j u) xo xu xv xp xd) ∧ FarFrom w (w.setCell ⟨g, j, none⟩ u) B (st (.slice (some ⟨g, 0, none⟩) na cap) b c d e f) (st (.slice (some ⟨g, 0, none⟩) na cap) b c d e f) := by
  have hs := World.ownsRow.stored (show w.ownsRow w0.heap.size 32 1 (.slice (some ⟨g, 0, none⟩) na cap) na xa from h.own0) j u
  have hgB : g ≠ B := fun e => h.nb 0 (by omega) (by simp [st, Value.ownBlock, e])
  have hg0 := (h.own0.lt g rfl)
  have cc : ∀ p, (w.setCell ⟨g, j, none⟩ u).cell? ⟨B, p, none⟩ = w.cell? ⟨B, p, none⟩ := fun p => World.cell?_setCell_other _ _ _ _ (fun e => by simp only [Addr.mk.injEq] at e; exact hgB e.1)
  refine ⟨⟨h.bel.setCell hg0.1 _, h.bb, by have := h.bl; simpa using this, fun k hk => (cc _).trans (h.cell k hk), fun p hp => by rw [World.frozen?_setCell]; exact h.fz p hp, ?_, h.ne, h.nb⟩, ⟨by simp, ?_⟩⟩
  · intro k hk
    rcases k with _ | k
    · exact hs.1
    · have hne := h.ne (k + 1) 0 hk (by omega) (by omega)
      have := (h.own (k + 1) hk).kept hs.2 (hne.imp (fun x => x) (fun x => x))
      match k, hk, this with
      | 0, _, t => exact t
      | 1, _, t => exact t
      | 2, _, t => exact t
      | 3, _, t => exact t
      | 4, _, t => exact t
  · intro k hk hB hv
    exact ⟨Below.heap_setCell _ _ _ _ (fun e => hv 0 (by omega) (by simp [st, Value.ownBlock]; exact e.symm)), hv⟩

def newPt (d : Nat) : Pt := ⟨1, 1, (d : Int), 0, 0, 0⟩
theorem O8.far {w w' : World} {G B : Nat} {k h i x y n v : Int} {s : ByteArray} {u u' : Nat → Value} (o : O8 w G k h i x y n v s) (hf : FarFrom w w' B u u') (hB : G ≠ B) (hv : ∀ i, i < 6 → (u i).ownBlock ≠ some G) : O8 w' G k h i x y n v s := by
  have hG := World.block_lt_of_cell? w _ o.c0
  have c : ∀ p, w'.cell? ⟨G, p, none⟩ = w.cell? ⟨G, p, none⟩ := fun p => hf.cell hG hB hv p
  exact ⟨(c _).trans o.c0, (c _).trans o.c1, (c _).trans o.c2, (c _).trans o.c3, (c _).trans o.c4, (c _).trans o.c5, (c _).trans o.c6, (c _).trans o.c7⟩
theorem P6.far {w w' : World} {G B : Nat} {q : Pt} {u u' : Nat → Value} (o : P6 w G q) (hf : FarFrom w w' B u u') (hB : G ≠ B) (hv : ∀ i, i < 6 → (u i).ownBlock ≠ some G) : P6 w' G q := by
  have hG := World.block_lt_of_cell? w _ o.c0
  have c : ∀ p, w'.cell? ⟨G, p, none⟩ = w.cell? ⟨G, p, none⟩ := fun p => hf.cell hG hB hv p
  exact ⟨(c _).trans o.c0, (c _).trans o.c1, (c _).trans o.c2, (c _).trans o.c3, (c _).trans o.c4, (c _).trans o.c5⟩
theorem P6.below {w w' : World} {G : Nat} {q : Pt} (o : P6 w G q) (hb : Below w.heap.size w w') : P6 w' G q := by
  have hG := World.block_lt_of_cell? w _ o.c0
  have c : ∀ p, w'.cell? ⟨G, p, none⟩ = w.cell? ⟨G, p, none⟩ := fun p => hb.cell (p := ⟨G, p, none⟩) hG
  exact ⟨(c _).trans o.c0, (c _).trans o.c1, (c _).trans o.c2, (c _).trans o.c3, (c _).trans o.c4, (c _).trans o.c5⟩
theorem held_b3 {B O : Nat} {u : World} {x y z : Value} (h1 : u.cell? ⟨B, 0, none⟩ = some x) (h2 : u.cell? ⟨O, 3, none⟩ = some y) (h3 : u.cell? ⟨O, 4, none⟩ = some z) : u.drew.cell? ⟨B, 0, none⟩ = some x ∧ u.drew.cell? ⟨O, 3, none⟩ = some y ∧ u.drew.cell? ⟨O, 4, none⟩ = some z := ⟨h1, h2, h3⟩
theorem held_b3a {B O : Nat} {u : World} {x y z : Value} (o : Obj) (h : u.cell? ⟨B, 0, none⟩ = some x ∧ u.cell? ⟨O, 3, none⟩ = some y ∧ u.cell? ⟨O, 4, none⟩ = some z) : (u.alloc o).cell? ⟨B, 0, none⟩ = some x ∧ (u.alloc o).cell? ⟨O, 3, none⟩ = some y ∧ (u.alloc o).cell? ⟨O, 4, none⟩ = some z := by
  have hB := World.block_lt_of_cell? u _ h.1
  have hO := World.block_lt_of_cell? u _ h.2.1
  exact ⟨(World.cell?_alloc_lt _ _ _ hB).trans h.1, (World.cell?_alloc_lt _ _ ⟨O, 3, none⟩ hO).trans h.2.1, (World.cell?_alloc_lt _ _ ⟨O, 4, none⟩ hO).trans h.2.2⟩

abbrev o113_9 : Oper := { dst := some 68, op := Go.Op.load 33 (Go.Operand.tmp 67), type := 33, pos := "build.go:161", after := #[{ on := 8, ground := Go.Ground.data }], guard := none }
abbrev o113_13 : Oper := { dst := some 72, op := Go.Op.load 5 (Go.Operand.tmp 71), type := 5, pos := "build.go:161", after := #[{ on := 12, ground := Go.Ground.data }], guard := none }
abbrev o113_15 : Oper := { dst := some 74, op := Go.Op.call { callee := Go.Callee.value (Go.Operand.func 127), args := #[Go.Operand.tmp 59, Go.Operand.tmp 60, Go.Operand.tmp 62, Go.Operand.tmp 64, Go.Operand.tmp 73], argTypes := #[125, 58, 5, 5, 5] }, type := 0, pos := "build.go:161", after := #[{ on := 0, ground := Go.Ground.data }, { on := 1, ground := Go.Ground.data }, { on := 3, ground := Go.Ground.data }, { on := 5, ground := Go.Ground.data }, { on := 14, ground := Go.Ground.data }], guard := none }
theorem held_b4 {B O : Nat} {u : World} {x y z v : Value} (h1 : u.cell? ⟨B, 0, none⟩ = some x) (h4 : u.cell? ⟨O + 1, 1, none⟩ = some v) (h2 : u.cell? ⟨O, 3, none⟩ = some y) (h3 : u.cell? ⟨O, 4, none⟩ = some z) : u.drew.cell? ⟨B, 0, none⟩ = some x ∧ u.drew.cell? ⟨O + 1, 1, none⟩ = some v ∧ u.drew.cell? ⟨O, 3, none⟩ = some y ∧ u.drew.cell? ⟨O, 4, none⟩ = some z := ⟨h1, h4, h2, h3⟩
theorem held_b4s {B O g : Nat} {u : World} {x y z v : Value} (r : Value) (hB : g ≠ B) (hO : g ≠ O) (hP : g ≠ O + 1) (h : u.cell? ⟨B, 0, none⟩ = some x ∧ u.cell? ⟨O + 1, 1, none⟩ = some v ∧ u.cell? ⟨O, 3, none⟩ = some y ∧ u.cell? ⟨O, 4, none⟩ = some z) : (u.setCell ⟨g, 0, none⟩ r).cell? ⟨B, 0, none⟩ = some x ∧ (u.setCell ⟨g, 0, none⟩ r).cell? ⟨O + 1, 1, none⟩ = some v ∧ (u.setCell ⟨g, 0, none⟩ r).cell? ⟨O, 3, none⟩ = some y ∧ (u.setCell ⟨g, 0, none⟩ r).cell? ⟨O, 4, none⟩ = some z := by
  have c : ∀ G p, g ≠ G → (u.setCell ⟨g, 0, none⟩ r).cell? ⟨G, p, none⟩ = u.cell? ⟨G, p, none⟩ := fun G p hG => World.cell?_setCell_other _ _ _ _ (fun e => by simp only [Addr.mk.injEq] at e; exact hG e.1)
  exact ⟨(c _ _ hB).trans h.1, (c _ _ hP).trans h.2.1, (c _ _ hO).trans h.2.2.1, (c _ _ hO).trans h.2.2.2⟩

set_option maxHeartbeats 2000000 in
set_option maxRecDepth 100000 in
theorem newStruct_any {w0 w : World} {B : Nat} {a b c d e f : Value} {xu xv xd : List Value} (h : BdAt w0 w B (st a b c d e f) (st 1 1 1 1 1 1) (st [.int .u64 0] (ptCs pt00) xu xv [.int .u8 0] xd)) (n v : Int) (s : ByteArray) (dn : Nat) (hd : dn ≤ 8) :
    Calls Fagg.prog 129 #[.pointer (some ⟨B, 0, none⟩), .agg (opCs 0 0 0 (dn : Int) 0 n v s)] w fun ee w' => ee = .returned (.bool true) ∧ ∃ a' b' c' d' e' f' xu' xv' xp', BdAt w0 w' B (st a' b' c' d' e' f') (st (1 + dn) 2 2 2 2 2) (st (.int .u64 (rootW dn : Int) :: List.replicate dn (.int .u64 0)) (ptCs pt00 ++ ptCs (newPt dn)) xu' xv' xp' (xd ++ [.bool false])) := by
  obtain ⟨g0, k0, e0, _, _⟩ := h.own0.form (show 0 < 1 by omega)
  have e0' : a = .slice (some ⟨g0, 0, none⟩) 1 k0 := e0
  clear e0
  subst e0'
  have hlt : ∀ i, i < 6 → (st (.slice (some ⟨g0, 0, none⟩) 1 k0) b c d e f i).ownBlock ≠ some w.heap.size ∧ (st (.slice (some ⟨g0, 0, none⟩) 1 k0) b c d e f i).ownBlock ≠ some (w.heap.size + 1) := fun i hi => by
    constructor
    · intro e; have := ((h.own i hi).lt _ e).2; omega
    · intro e; have := ((h.own i hi).lt _ e).2; omega
  have hB := h.bl
  have HLT := hide hlt
  clear hlt
  have H := hide h
  clear h
  have HRM := hide (fun (W : World) hW => room_any (w0 := w0) (w := W) (B := B) (a := .slice (some ⟨g0, 0, none⟩) 1 k0) (b := b) (c := c) (d := d) (e := e) (f := f) (xu := xu) (xv := xv) (xd := xd) hW 0 (dn : Int) 0 n v s dn hd)
  have HGP : Hid (GoodPt (newPt dn)) := hide (GoodPt.struct 1 dn 0 (by omega) (by omega) (by omega))
  have HWD := hide (fun (W : World) => (show Calls Fagg.prog 145 #[.agg #[.int .u8 1, .int .u16 1, .int .u8 (dn : Int), .int .u8 0, .int .u8 0, .int .u16 0]] W (fun e w' => e = .returned (.int .u16 (dn : Int)) ∧ Below W.heap.size W w') from (words_good (newPt dn) W (unhide HGP)).mono (fun e w' h => by simpa [wordsOf, newPt] using h)))
  clear HGP
  have w1c : IntKind.u16.wrap 1 = 1 := by decide
  have HD := hide hd
  clear hd
  go_enter Fagg.func129, Fagg.ntmps129
  refine wp_seq_k (fun K0 hK0 => ?_)
  have HC0 := hide hK0
  clear hK0
  go_wp2_with fail
  refine unhide HC0 _ _ ?_
  clear HC0
  refine gen_world _ (fun w' => Below w.heap.size w w' ∧ O8 w' w.heap.size 0 0 0 (dn : Int) 0 n v s ∧ w'.heap.size = w.heap.size + 1) ⟨(Below.refl _ _).alloc (Nat.le_refl _) _, o8_new _ _ _ _ _ _ _ _ _, by simp⟩ ?_
  rintro w1 ⟨hb1, ho1, hs1⟩
  have h1 := (unhide H).below hb1
  have q0 : w1.cell? ⟨B, 0, none⟩ = some (.slice (some ⟨g0, 0, none⟩) 1 k0) := h1.c0
  have o3 := ho1.c3
  have o4 := ho1.c4
  have H1 := hide h1
  have HO1 := hide ho1
  have HHD := hide (held_b3 q0 o3 o4)
  have HNE : Hid (B ≠ w.heap.size ∧ B ≠ w.heap.size + 1) := hide (by omega)
  clear h1 ho1 hb1 H hB
  generalize hO : w.heap.size = O at *
  clear hO
  refine wp_seq_k (fun K0 hK0 => ?_)
  have HC0 := hide hK0
  clear hK0
  go_wp2_with fail
  go_region_held2 (fun w' => w'.cell? ⟨B, 0, none⟩ = some (.slice (some ⟨g0, 0, none⟩) 1 k0) ∧ w'.cell? ⟨O, 3, none⟩ = some (.int .u8 (dn : Int)) ∧ w'.cell? ⟨O, 4, none⟩ = some (.int .u8 0)) ((first | exact unhide HHD | exact held_b3a _ (unhide HHD))) ((fail))
  refine unhide HC0 _ _ ?_
  clear HC0
  refine gen_world _ (fun w' => BdAt w0 w' B (st (.slice (some ⟨g0, 0, none⟩) 1 k0) b c d e f) (st 1 1 1 1 1 1) (st [.int .u64 0] (ptCs pt00) xu xv [.int .u8 0] xd) ∧ O8 w' O 0 0 0 (dn : Int) 0 n v s ∧ P6 w' (O + 1) (newPt dn)) ⟨((unhide H1).alloc _).drew, (unhide HO1).below ((Below.refl _ _).alloc (Nat.le_refl _) _).drew, (by rw [← hs1]; exact ⟨by simp [newPt], by simp [newPt], by simp [newPt], by simp [newPt], by simp [newPt], by simp [newPt]⟩)⟩ ?_
  rintro w2 ⟨h2, o2, p2⟩
  clear H1 HO1 HHD q0 o3 o4 hs1
  have H2 := hide h2
  have HO2 := hide o2
  have HP2 := hide p2
  clear h2 o2
  obtain ⟨p0, p1, p2, p3, p4, p5⟩ := p2
  simp only [newPt] at p0 p1 p2 p3 p4 p5
  refine wp_seq_k (fun K0 hK0 => ?_)
  have HC0 := hide hK0
  clear hK0
  go_wp2_with (go_at_call 145; with_reducible refine (unhide HWD _).mono ?_; rintro ee w3 ⟨rfl, hb3⟩; have H3 := hide ((unhide H2).below hb3); have HO3 := hide ((unhide HO2).below hb3); have HP3 := hide ((unhide HP2).below hb3); clear hb3)
  refine unhide HC0 _ _ ?_
  clear HC0
  clear H2 HO2 HP2 p0 p1 p2 p3 p4 p5 HWD
  have HRM3 := hide (unhide HRM w3 (unhide H3))
  clear HRM
  obtain ⟨o0, o1, o2, o3, o4, o5, o6, o7⟩ := unhide HO3
  refine wp_seq_k (fun K0 hK0 => ?_)
  have HC0 := hide hK0
  clear hK0
  go_wp2_with (go_at_call 194; with_reducible refine (unhide HRM3).mono ?_; rintro ee w4 ⟨rfl, hb4⟩; have H4 := hide ((unhide H3).below hb4); have HO4 := hide ((unhide HO3).below hb4); have HP4 := hide ((unhide HP3).below hb4); clear hb4)
  refine unhide HC0 _ _ ?_
  clear HC0
  clear H3 HO3 HP3 o0 o1 o2 o3 o4 o5 o6 o7 HRM3
  refine wp_seq_k (fun K0 hK0 => ?_)
  have HC0 := hide hK0
  clear hK0
  go_wp2_with fail
  refine unhide HC0 _ _ ?_
  clear HC0
  have q0 : w4.cell? ⟨B, 0, none⟩ = some (.slice (some ⟨g0, 0, none⟩) 1 k0) := (unhide H4).c0
  have p1 := (unhide HP4).c1
  simp only [newPt] at p1
  have o3 := (unhide HO4).c3
  have o4 := (unhide HO4).c4
  have x0 : w4.cell? ⟨g0, 0, none⟩ = some (.int .u64 0) := World.ownsRow.cellAt (show w4.ownsRow w0.heap.size 32 1 (.slice (some ⟨g0, 0, none⟩) 1 k0) 1 [.int .u64 0] from (unhide H4).own0) 0 (by omega)
  have xf : w4.frozen? ⟨g0, 0, none⟩ = false := World.ownsRow.frozenAt (show w4.ownsRow w0.heap.size 32 1 (.slice (some ⟨g0, 0, none⟩) 1 k0) 1 [.int .u64 0] from (unhide H4).own0) 0
  have HMK := hide (fun W => makeRoot_any dn W (unhide HD))
  have hgB : g0 ≠ B := fun e => (unhide H4).nb 0 (by omega) (by simp [st, Value.ownBlock, e])
  have hgO : g0 ≠ O := fun e => (unhide HLT 0 (by omega)).1 (by simp [st, Value.ownBlock, e])
  have hgP : g0 ≠ O + 1 := fun e => (unhide HLT 0 (by omega)).2 (by simp [st, Value.ownBlock, e])
  have HHD := hide (held_b4 q0 p1 o3 o4)
  have HKP := hide (fun (r : Value) => held_b4s r hgB hgO hgP (unhide HHD))
  generalize hrt : (rootW dn : Int) = rt at *
  refine wp_seq_k (fun K0 hK0 => ?_)
  have HC0 := hide hK0
  clear hK0
  go_wp2_with fail
  go_region_held2 (fun w' => w'.cell? ⟨B, 0, none⟩ = some (.slice (some ⟨g0, 0, none⟩) 1 k0) ∧ w'.cell? ⟨O + 1, 1, none⟩ = some (.int .u16 1) ∧ w'.cell? ⟨O, 3, none⟩ = some (.int .u8 (dn : Int)) ∧ w'.cell? ⟨O, 4, none⟩ = some (.int .u8 0)) ((first | exact unhide HHD | exact unhide HKP _)) ((go_at_call 158; with_reducible refine (unhide HMK _).mono ?_; rintro e w3 ⟨rfl, hw3⟩; subst hw3))
  refine unhide HC0 _ _ ?_
  clear HC0
  have hst := (unhide H4).store0 0 (.int .u64 rt)
  refine gen_world _ (fun w' => BdAt w0 w' B (st (.slice (some ⟨g0, 0, none⟩) 1 k0) b c d e f) (st 1 1 1 1 1 1) (st [.int .u64 rt] (ptCs pt00) xu xv [.int .u8 0] xd) ∧ O8 w' O 0 0 0 (dn : Int) 0 n v s ∧ P6 w' (O + 1) (newPt dn)) ⟨hst.1.drew, ((unhide HO4).far hst.2 (unhide HNE).1.symm (fun i hi => (unhide HLT i hi).1)).below (Below.refl _ _).drew, ((unhide HP4).far hst.2 (unhide HNE).2.symm (fun i hi => (unhide HLT i hi).2)).below (Below.refl _ _).drew⟩ ?_
  clear hst
  rintro w5 ⟨h5, o5, p5⟩
  clear H4 HO4 HP4 q0 p1 o3 o4 x0 xf HMK hgB hgO hgP HHD HKP
  have HGR := hide (grow_any h5 dn (unhide HD))
  have HO5 := hide o5
  have HP5 := hide p5
  have HZ5 : Hid (O + 1 < w5.heap.size) := hide (World.block_lt_of_cell? w5 _ p5.c0)
  clear h5 o5 p5
  refine wp_seq_k (fun K0 hK0 => ?_)
  have HC0 := hide hK0
  clear hK0
  go_wp2_with (go_at_call 195; with_reducible refine (unhide HGR).mono ?_; rintro ee w6 ⟨rfl, a6, hf6, h6⟩; have HF6 := hide hf6; have H6 := hide h6; clear hf6 h6)
  refine unhide HC0 _ _ ?_
  clear HC0
  have hz5 := unhide HZ5
  have HO6 := hide ((unhide HO5).far (unhide HF6) (unhide HNE).1.symm (fun i hi => (unhide HLT i hi).1))
  have HP6 := hide ((unhide HP5).far (unhide HF6) (unhide HNE).2.symm (fun i hi => (unhide HLT i hi).2))
  have HLT6 : Hid (∀ i, i < 6 → (st a6 b c d e f i).ownBlock ≠ some O ∧ (st a6 b c d e f i).ownBlock ≠ some (O + 1)) := hide (fun i hi => ⟨((unhide HF6).blk O (by omega) (unhide HNE).1.symm (fun i hi => (unhide HLT i hi).1)).2 i hi, ((unhide HF6).blk (O + 1) (by omega) (unhide HNE).2.symm (fun i hi => (unhide HLT i hi).2)).2 i hi⟩)
  have HZ6 : Hid (O + 1 < w6.heap.size) := hide (Nat.lt_of_lt_of_le hz5 (unhide HF6).size)
  clear HF6 HO5 HP5 HZ5 HLT HGR hz5
  have p1 := (unhide HP6).c1
  simp only [newPt] at p1
  have o3 := (unhide HO6).c3
  have o4 := (unhide HO6).c4
  have wd : IntKind.u16.wrap (dn : Int) = (dn : Int) := by have := unhide HD; rw [IntKind.wrap_u16]; omega
  have wd1 : IntKind.u16.wrap (1 + (dn : Int)) = 1 + (dn : Int) := by have := unhide HD; rw [IntKind.wrap_u16]; omega
  have w0c : IntKind.u16.wrap 0 = 0 := by decide
  have HMA := hide (mark_any w6 B undef (1 + (dn : Int)) (by omega) (by have := unhide HD; omega))
  refine wp_seq_k (fun K0 hK0 => ?_)
  have HC0 := hide hK0
  clear hK0
  go_wp2_with (go_at_call 196; with_reducible refine (unhide HMA).mono ?_; rintro ee w7 ⟨rfl, hw7⟩; subst hw7)
  refine unhide HC0 _ _ ?_
  clear HC0
  clear p1 o3 o4 wd wd1 w0c HMA
  refine wp_seq_k (fun K0 hK0 => ?_)
  have HC0 := hide hK0
  clear hK0
  obtain ⟨g4, k4, e4, _, _⟩ := (unhide H6).own4.form (show 0 < 1 by omega)
  have e4' : e = .slice (some ⟨g4, 0, none⟩) 1 k4 := e4
  clear e4
  subst e4'
  have h8 := (unhide H6).drew
  have o8 := (unhide HO6).below (Below.refl _ _).drew
  have p8 := (unhide HP6).below (Below.refl _ _).drew
  have z8 : O + 1 < w7.drew.heap.size := unhide HZ6
  clear H6 HO6 HP6 HZ6
  obtain ⟨p0, p1, p2, p3, p4, p5⟩ := p8
  simp only [newPt] at p0 p1 p2 p3 p4 p5
  have HSS := hide (And.intro p0 (And.intro p1 (And.intro p2 (And.intro p3 (And.intro p4 (And.intro p5 (And.intro o8.c1 o8.c2)))))))
  clear p0 p1 p2 p3 p4 p5
  have b8 : w7.drew.cell? ⟨B, 8, none⟩ = some (.slice (some ⟨g4, 0, none⟩) 1 k4) := h8.c4
  have x8 : w7.drew.cell? ⟨g4, 0, none⟩ = some (.int .u8 0) := World.ownsRow.cellAt (show w7.drew.ownsRow w0.heap.size 5 1 (.slice (some ⟨g4, 0, none⟩) 1 k4) 1 [.int .u8 0] from h8.own4) 0 (by omega)
  have HHA := hide (show Calls Fagg.prog 127 #[.pointer (some ⟨B, 0, none⟩), .agg #[.int .u8 1, .int .u16 1, .int .u8 (dn : Int), .int .u8 0, .int .u8 0, .int .u16 0], .int .u8 0, .int .u8 0, .int .u8 1] w7.drew _ from hang_any h8 (by omega) (newPt dn) 0 0 1)
  refine wp_region_held_drew (S := fun W => W.cell? ⟨O + 1, 0, none⟩ = some (.int .u8 1) ∧ W.cell? ⟨O + 1, 1, none⟩ = some (.int .u16 1) ∧ W.cell? ⟨O + 1, 2, none⟩ = some (.int .u8 (dn : Int)) ∧ W.cell? ⟨O + 1, 3, none⟩ = some (.int .u8 0) ∧ W.cell? ⟨O + 1, 4, none⟩ = some (.int .u8 0) ∧ W.cell? ⟨O + 1, 5, none⟩ = some (.int .u16 0) ∧ W.cell? ⟨O, 1, none⟩ = some (.int .u8 0) ∧ W.cell? ⟨O, 2, none⟩ = some (.int .u8 0)) (by kernel_rfl) (unhide HSS) (fun _ => ?_)
  have u8c : IntKind.u8.wrap 1 = 1 := by decide
  have HZ8 := hide z8
  clear h8 o8 z8
  generalize w7.drew = w8 at *
  have HKE : Hid (∀ (W : World) (u' : Nat → Value), FarFrom w8 W B (st a6 b c d (.slice (some ⟨g4, 0, none⟩) 1 k4) f) u' → W.cell? ⟨O + 1, 0, none⟩ = some (.int .u8 1) ∧ W.cell? ⟨O + 1, 1, none⟩ = some (.int .u16 1) ∧ W.cell? ⟨O + 1, 2, none⟩ = some (.int .u8 (dn : Int)) ∧ W.cell? ⟨O + 1, 3, none⟩ = some (.int .u8 0) ∧ W.cell? ⟨O + 1, 4, none⟩ = some (.int .u8 0) ∧ W.cell? ⟨O + 1, 5, none⟩ = some (.int .u16 0) ∧ W.cell? ⟨O, 1, none⟩ = some (.int .u8 0) ∧ W.cell? ⟨O, 2, none⟩ = some (.int .u8 0)) := hide (fun W u' hf => by
    have z := unhide HZ8
    have ca : ∀ p, W.cell? ⟨O, p, none⟩ = w8.cell? ⟨O, p, none⟩ := hf.cell (by omega) (unhide HNE).1.symm (fun i hi => (unhide HLT6 i hi).1)
    have cb : ∀ p, W.cell? ⟨O + 1, p, none⟩ = w8.cell? ⟨O + 1, p, none⟩ := hf.cell (by omega) (unhide HNE).2.symm (fun i hi => (unhide HLT6 i hi).2)
    obtain ⟨y0, y1, y2, y3, y4, y5, y6, y7⟩ := unhide HSS
    exact ⟨(cb _).trans y0, (cb _).trans y1, (cb _).trans y2, (cb _).trans y3, (cb _).trans y4, (cb _).trans y5, (ca _).trans y6, (ca _).trans y7⟩)
  refine wpAnyH_take (i := 0) (v := .pointer (some ⟨B, 0, none⟩)) rfl (by kernel_rfl) (by kernel_rfl) (by kernel_rfl) (fun _ _ _ h => h) (Or.inl ⟨by rfl, ?_⟩) (unhide HSS) ?_
  · intro W hW
    obtain ⟨hp0, hp1, hp2, hp3, hp4, hp5, ho1, ho2⟩ := hW
    go_simp
  try simp only [Act.put, List.setIfInBounds_toArray, List.set_cons_zero, List.set_cons_succ]
  refine wpAnyH_take (i := 1) (v := .agg #[.int .u8 1, .int .u16 1, .int .u8 (dn : Int), .int .u8 0, .int .u8 0, .int .u16 0]) rfl (by kernel_rfl) (by kernel_rfl) (by kernel_rfl) (fun _ _ _ h => h) (Or.inl ⟨by rfl, ?_⟩) (unhide HSS) ?_
  · intro W hW
    obtain ⟨hp0, hp1, hp2, hp3, hp4, hp5, ho1, ho2⟩ := hW
    go_simp
  try simp only [Act.put, List.setIfInBounds_toArray, List.set_cons_zero, List.set_cons_succ]
  refine wpAnyH_take (i := 2) (v := .pointer (some ⟨O, 1, none⟩)) rfl (by kernel_rfl) (by kernel_rfl) (by kernel_rfl) (fun _ _ _ h => h) (Or.inl ⟨by rfl, ?_⟩) (unhide HSS) ?_
  · intro W hW
    obtain ⟨hp0, hp1, hp2, hp3, hp4, hp5, ho1, ho2⟩ := hW
    go_simp
  try simp only [Act.put, List.setIfInBounds_toArray, List.set_cons_zero, List.set_cons_succ]
  refine wpAnyH_take (i := 3) (v := .int .u8 0) rfl (by kernel_rfl) (by kernel_rfl) (by kernel_rfl) (fun _ _ _ h => h) (Or.inl ⟨by rfl, ?_⟩) (unhide HSS) ?_
  · intro W hW
    obtain ⟨hp0, hp1, hp2, hp3, hp4, hp5, ho1, ho2⟩ := hW
    go_simp
  try simp only [Act.put, List.setIfInBounds_toArray, List.set_cons_zero, List.set_cons_succ]
  refine wpAnyH_take (i := 4) (v := .pointer (some ⟨O, 2, none⟩)) rfl (by kernel_rfl) (by kernel_rfl) (by kernel_rfl) (fun _ _ _ h => h) (Or.inl ⟨by rfl, ?_⟩) (unhide HSS) ?_
  · intro W hW
    obtain ⟨hp0, hp1, hp2, hp3, hp4, hp5, ho1, ho2⟩ := hW
    go_simp
  try simp only [Act.put, List.setIfInBounds_toArray, List.set_cons_zero, List.set_cons_succ]
  refine wpAnyH_take (i := 5) (v := .int .u8 0) rfl (by kernel_rfl) (by kernel_rfl) (by kernel_rfl) (fun _ _ _ h => h) (Or.inl ⟨by rfl, ?_⟩) (unhide HSS) ?_
  · intro W hW
    obtain ⟨hp0, hp1, hp2, hp3, hp4, hp5, ho1, ho2⟩ := hW
    go_simp
  try simp only [Act.put, List.setIfInBounds_toArray, List.set_cons_zero, List.set_cons_succ]
  refine wpAnyH_take (i := 6) (v := .pointer (some ⟨B, 0, none⟩)) rfl (by kernel_rfl) (by kernel_rfl) (by kernel_rfl) (fun _ _ _ h => h) (Or.inl ⟨by rfl, ?_⟩) (unhide HSS) ?_
  · intro W hW
    obtain ⟨hp0, hp1, hp2, hp3, hp4, hp5, ho1, ho2⟩ := hW
    go_simp
  try simp only [Act.put, List.setIfInBounds_toArray, List.set_cons_zero, List.set_cons_succ]
  refine wpAnyH_take (i := 7) (v := .pointer (some ⟨B, 0, none⟩)) rfl (by kernel_rfl) (by kernel_rfl) (by kernel_rfl) (fun _ _ _ h => h) (Or.inl ⟨by rfl, ?_⟩) (unhide HSS) ?_
  · intro W hW
    obtain ⟨hp0, hp1, hp2, hp3, hp4, hp5, ho1, ho2⟩ := hW
    go_simp
  try simp only [Act.put, List.setIfInBounds_toArray, List.set_cons_zero, List.set_cons_succ]
  refine wpAnyH_take (i := 8) (v := .pointer (some ⟨B, 8, none⟩)) rfl (by kernel_rfl) (by kernel_rfl) (by kernel_rfl) (fun _ _ _ h => h) (Or.inl ⟨by rfl, ?_⟩) (unhide HSS) ?_
  · intro W hW
    obtain ⟨hp0, hp1, hp2, hp3, hp4, hp5, ho1, ho2⟩ := hW
    go_simp
  try simp only [Act.put, List.setIfInBounds_toArray, List.set_cons_zero, List.set_cons_succ]
  refine wpAnyH_take (i := 10) (v := .pointer (some ⟨O, 1, none⟩)) rfl (by kernel_rfl) (by kernel_rfl) (by kernel_rfl) (fun _ _ _ h => h) (Or.inl ⟨by rfl, ?_⟩) (unhide HSS) ?_
  · intro W hW
    obtain ⟨hp0, hp1, hp2, hp3, hp4, hp5, ho1, ho2⟩ := hW
    go_simp
  try simp only [Act.put, List.setIfInBounds_toArray, List.set_cons_zero, List.set_cons_succ]
  refine wpAnyH_take (i := 11) (v := .int .u8 0) rfl (by kernel_rfl) (by kernel_rfl) (by kernel_rfl) (fun _ _ _ h => h) (Or.inl ⟨by rfl, ?_⟩) (unhide HSS) ?_
  · intro W hW
    obtain ⟨hp0, hp1, hp2, hp3, hp4, hp5, ho1, ho2⟩ := hW
    go_simp
  try simp only [Act.put, List.setIfInBounds_toArray, List.set_cons_zero, List.set_cons_succ]
  refine wpAnyH_ready (rs := [9]) (by kernel_rfl) (by simp) ?_
  refine AllReadyH.cons (o := o113_9) rfl (fun K hK => ?_) AllReadyH.nil
  go_simp
  refine hK.out _ _ (unhide HSS) (fun _ => ?_)
  clear hK K
  try simp only [Act.put, List.setIfInBounds_toArray, List.set_cons_zero, List.set_cons_succ]
  refine wpAnyH_take (i := 12) (v := .pointer (some ⟨g4, 0, none⟩)) rfl (by kernel_rfl) (by kernel_rfl) (by kernel_rfl) (fun _ _ _ h => h) (Or.inl ⟨by rfl, ?_⟩) (unhide HSS) ?_
  · intro W hW
    obtain ⟨hp0, hp1, hp2, hp3, hp4, hp5, ho1, ho2⟩ := hW
    go_simp
  try simp only [Act.put, List.setIfInBounds_toArray, List.set_cons_zero, List.set_cons_succ]
  refine wpAnyH_ready (rs := [13]) (by kernel_rfl) (by simp) ?_
  refine AllReadyH.cons (o := o113_13) rfl (fun K hK => ?_) AllReadyH.nil
  go_simp
  refine hK.out _ _ (unhide HSS) (fun _ => ?_)
  clear hK K
  try simp only [Act.put, List.setIfInBounds_toArray, List.set_cons_zero, List.set_cons_succ]
  refine wpAnyH_take (i := 14) (v := .int .u8 1) rfl (by kernel_rfl) (by kernel_rfl) (by kernel_rfl) (fun _ _ _ h => h) (Or.inl ⟨by rfl, ?_⟩) (unhide HSS) ?_
  · intro W hW
    obtain ⟨hp0, hp1, hp2, hp3, hp4, hp5, ho1, ho2⟩ := hW
    go_simp
  try simp only [Act.put, List.setIfInBounds_toArray, List.set_cons_zero, List.set_cons_succ]
  refine wpAnyH_ready (rs := [15]) (by kernel_rfl) (by simp) ?_
  refine AllReadyH.cons (o := o113_15) rfl (fun K hK => ?_) AllReadyH.nil
  go_simp
  go_wp2_with (go_at_call 127; with_reducible refine (unhide HHA).mono ?_; rintro ee w9 ⟨rfl, b9, c9, d9, e9, f9, hf9, h9⟩; have HS9 := hide (unhide HKE w9 _ hf9); have H9 := hide h9; clear hf9 h9)
  refine hK.out _ _ (unhide HS9) (fun _ => ?_)
  clear hK K
  try simp only [Act.put, List.setIfInBounds_toArray, List.set_cons_zero, List.set_cons_succ]
  refine wpAnyH_done (by kernel_rfl) ?_ _
  refine unhide HC0 _ _ ?_
  clear HC0
  go_wp2_with fail
  go_ret
  subst hrt
  exact ⟨rfl, _, _, _, _, _, _, _, _, _, unhide H9⟩
end Go.Proofs.Ygcfag
