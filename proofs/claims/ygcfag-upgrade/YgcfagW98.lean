/-
  WALKS: codec's add: the first node.
-/
import Derived.Test.YgcfagW97
namespace Go.Proofs.Ygcfag
open Go.RowKit
set_option linter.unusedVariables false
set_option linter.unusedSimpArgs false

def zNode : List Value := [.int .u8 0, .int .u8 0, .slice none 0 0, .slice none 0 0]
theorem info174 : (Fagg.prog.info? 174).map (fun i => (i.zero, i.size, i.bytes)) = some (some (.agg #[.int .u8 0, .int .u8 0, .slice none 0 0, .slice none 0 0]), 4, 56) := by kernel_rfl
theorem four_new (w : World) (e : TypeId) : ∀ (j : Nat) (u : Value), zNode[j]? = some u → (w.alloc (.cells #[.int .u8 0, .int .u8 0, .slice none 0 0, .slice none 0 0] e)).cell? ((⟨w.heap.size, 0, none⟩ : Addr).add j) = some u := by
  intro j u hj
  match j, hj with
  | 0, hj => simp [zNode] at hj; subst hj; simp [Addr.add]
  | 1, hj => simp [zNode] at hj; subst hj; simp [Addr.add]
  | 2, hj => simp [zNode] at hj; subst hj; simp [Addr.add]
  | 3, hj => simp [zNode] at hj; subst hj; simp [Addr.add]
  | j + 4, hj => simp [zNode] at hj
theorem zNode_one : ∀ u ∈ zNode, u.oneCell' = true := by
  intro u hu; simp [zNode] at hu; rcases hu with rfl | rfl | rfl | rfl <;> rfl

/-- The cells of a decoder that add turns. -/
structure DecAt (w : World) (D : Nat) (N : Value) (q : Pt) : Prop where
  c0 : w.cell? ⟨D, 0, none⟩ = some N
  c2 : w.cell? ⟨D, 2, none⟩ = some (.int .u8 q.kind)
  c3 : w.cell? ⟨D, 3, none⟩ = some (.int .u16 q.at_)
  c4 : w.cell? ⟨D, 4, none⟩ = some (.int .u8 q.data)
  c5 : w.cell? ⟨D, 5, none⟩ = some (.int .u8 q.ptrs)
  c6 : w.cell? ⟨D, 6, none⟩ = some (.int .u8 q.code)
  c7 : w.cell? ⟨D, 7, none⟩ = some (.int .u16 q.count)

theorem KeptAt.grown {g : Nat} {ok : Nat → Prop} {w u u' : World} (h : KeptAt g ok w u) (hg : u.grownBy u' none) : KeptAt g ok w u' :=
  h.trans (KeptAt.of_below ((Below.refl _ _).grown hg (Nat.le_refl _) (fun k hk => by cases hk)))

theorem add_set (w w1 : World) (D : Nat) (q : Pt) (x2 x3 x4 x5 x6 x7 : Value) (hkp : KeptAt D (fun p => p ≠ 1) w w1) (d0 : w1.cell? ⟨D, 0, none⟩ = some (.slice none 0 0)) (d2 : w1.cell? ⟨D, 2, none⟩ = some x2) (d3 : w1.cell? ⟨D, 3, none⟩ = some x3) (d4 : w1.cell? ⟨D, 4, none⟩ = some x4) (d5 : w1.cell? ⟨D, 5, none⟩ = some x5) (d6 : w1.cell? ⟨D, 6, none⟩ = some x6) (d7 : w1.cell? ⟨D, 7, none⟩ = some x7) (g0 : w1.frozen? ⟨D, 0, none⟩ = false) :
    KeptAt D (fun p => p ≠ 1) w ((((((w1.setCell ⟨D, 2, none⟩ (.int .u8 q.kind)).setCell ⟨D, 3, none⟩ (.int .u16 q.at_)).setCell ⟨D, 4, none⟩ (.int .u8 q.data)).setCell ⟨D, 5, none⟩ (.int .u8 q.ptrs)).setCell ⟨D, 6, none⟩ (.int .u8 q.code)).setCell ⟨D, 7, none⟩ (.int .u16 q.count)).drew ∧ DecAt ((((((w1.setCell ⟨D, 2, none⟩ (.int .u8 q.kind)).setCell ⟨D, 3, none⟩ (.int .u16 q.at_)).setCell ⟨D, 4, none⟩ (.int .u8 q.data)).setCell ⟨D, 5, none⟩ (.int .u8 q.ptrs)).setCell ⟨D, 6, none⟩ (.int .u8 q.code)).setCell ⟨D, 7, none⟩ (.int .u16 q.count)).drew D (.slice none 0 0) q ∧ ((((((w1.setCell ⟨D, 2, none⟩ (.int .u8 q.kind)).setCell ⟨D, 3, none⟩ (.int .u16 q.at_)).setCell ⟨D, 4, none⟩ (.int .u8 q.data)).setCell ⟨D, 5, none⟩ (.int .u8 q.ptrs)).setCell ⟨D, 6, none⟩ (.int .u8 q.code)).setCell ⟨D, 7, none⟩ (.int .u16 q.count)).drew.frozen? ⟨D, 0, none⟩ = false := by
  refine ⟨((((((hkp.set 2 (by decide) _).set 3 (by decide) _).set 4 (by decide) _).set 5 (by decide) _).set 6 (by decide) _).set 7 (by decide) _).drew, ⟨?_, ?_, ?_, ?_, ?_, ?_, ?_⟩, ?_⟩
  · rw [World.cell?_drew, cell_other _ _ _ _ _ (by omega), cell_other _ _ _ _ _ (by omega), cell_other _ _ _ _ _ (by omega), cell_other _ _ _ _ _ (by omega), cell_other _ _ _ _ _ (by omega), cell_other _ _ _ _ _ (by omega)]; exact d0
  · rw [World.cell?_drew, cell_other _ _ _ _ _ (by omega), cell_other _ _ _ _ _ (by omega), cell_other _ _ _ _ _ (by omega), cell_other _ _ _ _ _ (by omega), cell_other _ _ _ _ _ (by omega)]; exact cell_same _ _ _ _ _ (d2)
  · rw [World.cell?_drew, cell_other _ _ _ _ _ (by omega), cell_other _ _ _ _ _ (by omega), cell_other _ _ _ _ _ (by omega), cell_other _ _ _ _ _ (by omega)]; exact cell_same _ _ _ _ _ ((cell_other _ _ _ _ _ (by omega)).trans (d3))
  · rw [World.cell?_drew, cell_other _ _ _ _ _ (by omega), cell_other _ _ _ _ _ (by omega), cell_other _ _ _ _ _ (by omega)]; exact cell_same _ _ _ _ _ ((cell_other _ _ _ _ _ (by omega)).trans ((cell_other _ _ _ _ _ (by omega)).trans (d4)))
  · rw [World.cell?_drew, cell_other _ _ _ _ _ (by omega), cell_other _ _ _ _ _ (by omega)]; exact cell_same _ _ _ _ _ ((cell_other _ _ _ _ _ (by omega)).trans ((cell_other _ _ _ _ _ (by omega)).trans ((cell_other _ _ _ _ _ (by omega)).trans (d5))))
  · rw [World.cell?_drew, cell_other _ _ _ _ _ (by omega)]; exact cell_same _ _ _ _ _ ((cell_other _ _ _ _ _ (by omega)).trans ((cell_other _ _ _ _ _ (by omega)).trans ((cell_other _ _ _ _ _ (by omega)).trans ((cell_other _ _ _ _ _ (by omega)).trans (d6)))))
  · rw [World.cell?_drew]; exact cell_same _ _ _ _ _ ((cell_other _ _ _ _ _ (by omega)).trans ((cell_other _ _ _ _ _ (by omega)).trans ((cell_other _ _ _ _ _ (by omega)).trans ((cell_other _ _ _ _ _ (by omega)).trans ((cell_other _ _ _ _ _ (by omega)).trans (d7))))))
  · rw [World.frozen?_drew, frozen_set, frozen_set, frozen_set, frozen_set, frozen_set, frozen_set]; exact g0

set_option maxHeartbeats 1000000 in
set_option maxRecDepth 100000 in
theorem add1_any (D : Nat) (q : Pt) (w : World) (x2 x3 x4 x5 x6 x7 : Value) (hk : q.kind = 1) (hD : D < w.heap.size) (c0 : w.cell? ⟨D, 0, none⟩ = some (.slice none 0 0)) (c2 : w.cell? ⟨D, 2, none⟩ = some x2) (c3 : w.cell? ⟨D, 3, none⟩ = some x3) (c4 : w.cell? ⟨D, 4, none⟩ = some x4) (c5 : w.cell? ⟨D, 5, none⟩ = some x5) (c6 : w.cell? ⟨D, 6, none⟩ = some x6) (c7 : w.cell? ⟨D, 7, none⟩ = some x7) (f0 : w.frozen? ⟨D, 0, none⟩ = false) (f2 : w.frozen? ⟨D, 2, none⟩ = false) (f3 : w.frozen? ⟨D, 3, none⟩ = false) (f4 : w.frozen? ⟨D, 4, none⟩ = false) (f5 : w.frozen? ⟨D, 5, none⟩ = false) (f6 : w.frozen? ⟨D, 6, none⟩ = false) (f7 : w.frozen? ⟨D, 7, none⟩ = false) :
    Calls Fagg.prog 83 #[.pointer (some ⟨D, 0, none⟩), ptV q] w fun e w' => ∃ b cap, e = .returned (.int .i16 0) ∧ w.heap.size ≤ b ∧ KeptAt D (fun p => p ≠ 1) w w' ∧ w'.ownsRow w.heap.size 174 4 (.slice (some ⟨b, 0, none⟩) 1 cap) 1 zNode ∧ DecAt w' D (.slice (some ⟨b, 0, none⟩) 1 cap) q := by
  have hk0 : (q.kind == 0) = false := by rw [hk]; rfl
  have HK := hide hk
  clear hk
  obtain ⟨i0, hi0, hz0, hz1, hz2⟩ := info_parts info174
  unfold ptV
  go_enter Fagg.func83, Fagg.ntmps83
  refine wp_seq_k (fun K0 hK0 => ?_)
  have HC0 := hide hK0
  clear hK0
  go_wp2_with fail
  refine unhide HC0 _ _ ?_
  clear HC0
  refine gen_world _ (fun w' => Below w.heap.size w w' ∧ P6 w' w.heap.size q ∧ w.heap.size < w'.heap.size) ⟨(Below.refl _ _).alloc (Nat.le_refl _) _, ⟨by simp, by simp, by simp, by simp, by simp, by simp⟩, by simp⟩ ?_
  rintro w1 ⟨hb, ⟨p0, p1, p2, p3, p4, p5⟩, hw1⟩
  have d0 := (hb.cell (p := ⟨D, 0, none⟩) hD).trans c0
  have g0 := (hb.frozen (p := ⟨D, 0, none⟩) hD).trans f0
  have d2 := (hb.cell (p := ⟨D, 2, none⟩) hD).trans c2
  have g2 := (hb.frozen (p := ⟨D, 2, none⟩) hD).trans f2
  have d3 := (hb.cell (p := ⟨D, 3, none⟩) hD).trans c3
  have g3 := (hb.frozen (p := ⟨D, 3, none⟩) hD).trans f3
  have d4 := (hb.cell (p := ⟨D, 4, none⟩) hD).trans c4
  have g4 := (hb.frozen (p := ⟨D, 4, none⟩) hD).trans f4
  have d5 := (hb.cell (p := ⟨D, 5, none⟩) hD).trans c5
  have g5 := (hb.frozen (p := ⟨D, 5, none⟩) hD).trans f5
  have d6 := (hb.cell (p := ⟨D, 6, none⟩) hD).trans c6
  have g6 := (hb.frozen (p := ⟨D, 6, none⟩) hD).trans f6
  have d7 := (hb.cell (p := ⟨D, 7, none⟩) hD).trans c7
  have g7 := (hb.frozen (p := ⟨D, 7, none⟩) hD).trans f7
  clear c0 f0 c2 f2 c3 f3 c4 f4 c5 f5 c6 f6 c7 f7
  have HKP := hide (KeptAt.of_below (g := D) (ok := fun p => p ≠ 1) hb)
  have hDw : D < w1.heap.size := by omega
  clear hb
  have hne : D ≠ w.heap.size := by omega
  refine wp_seq_k (fun K0 hK0 => ?_)
  have HC0 := hide hK0
  clear hK0
  go_wp2_with fail
  refine unhide HC0 _ _ ?_
  clear HC0
  refine wp_seq_k (fun K0 hK0 => ?_)
  have HC0 := hide hK0
  clear hK0
  go_wp2_with fail
  refine unhide HC0 _ _ ?_
  clear HC0
  refine wp_seq_k (fun K0 hK0 => ?_)
  have HC0 := hide hK0
  clear hK0
  go_wp2_with fail
  go_region
  all_goals (refine unhide HC0 _ _ ?_)
  all_goals (clear HC0)
  refine gen_world _ (fun w' => KeptAt D (fun p => p ≠ 1) w w' ∧ DecAt w' D (.slice none 0 0) q ∧ w'.frozen? ⟨D, 0, none⟩ = false) (add_set w w1 D q x2 x3 x4 x5 x6 x7 (unhide HKP) d0 d2 d3 d4 d5 d6 d7 g0) ?_
  rintro w2 ⟨hk2, hdec, hf⟩
  have HK2 := hide hk2
  have HDE := hide hdec
  have e0 := hdec.c0
  have hD2 : D < w2.heap.size := Nat.lt_of_lt_of_le hD hk2.size
  have hs2 := hk2.size
  clear hk2 hdec
  have HOW := hide (World.ownsRow_nil w2 w.heap.size 174 4)
  have hmx : 0 + 1 ≤ maxLen := by unfold maxLen; omega
  have hw0 : IntKind.i16.wrap 0 = 0 := by decide
  go_wp2_with (at_builtin; refine wpList_append_lies _ rfl _ _ 77 rfl w.heap.size 174 i0 (.agg #[.int .u8 0, .int .u8 0, .slice none 0 0, .slice none 0 0]) 4 56 Fagg.underlying77 hi0 hz0 hz1 hz2 rfl (by decide) (.slice none 0 0) 0 [] rfl ((unhide HOW).alloc _) ⟨w2.heap.size, 0, none⟩ 1 1 zNode rfl rfl (four_new _ _) zNode_one (by omega) hmx (by omega) (by simp; omega) (w2.heap.size + 1) (by simp) ?_; intro b3 cap3 w3 hown3 hgrow hat3 hlt3; have y0 : w3.cell? ⟨D, 0, none⟩ = some (.slice none 0 0) := (hgrow.cell_far ⟨D, 0, none⟩ (by simp; omega) (by simp [Value.ownBlock])).trans ((World.cell?_alloc_lt _ _ _ hD2).trans e0); have yf : w3.frozen? ⟨D, 0, none⟩ = false := (hgrow.frozen_far ⟨D, 0, none⟩ (by simp; omega) (by simp [Value.ownBlock])).trans ((frozen?_alloc_cells _ _ _ _).trans hf); have HO3 := hide hown3; have HG3 := hide hgrow; clear hown3 hgrow hat3)
  refine bodyPost_ret (v := .int .i16 0) (by simp [results, Fagg.results83, go_sem]) rfl ?_
  have hkg : KeptAt D (fun p => p ≠ 1) w2 w3 := (KeptAt.of_below ((Below.refl _ _).alloc (Nat.le_refl _) _)).grown (unhide HG3)
  have hbD : w.heap.size ≤ b3 := ((unhide HO3).lt b3 rfl).1
  have hcc : ∀ p, w3.cell? ⟨D, p, none⟩ = w2.cell? ⟨D, p, none⟩ := fun p => ((unhide HG3).cell_far ⟨D, p, none⟩ (by simp; omega) (by simp [Value.ownBlock])).trans (World.cell?_alloc_lt _ _ _ hD2)
  have hde := unhide HDE
  refine ⟨b3, cap3, rfl, hbD, ((unhide HK2).trans hkg).set 0 (by omega) _, ownsRow_setCell_other (unhide HO3) (by simp [Value.ownBlock]; omega) _, ⟨cell_same _ _ _ _ _ y0, ?_, ?_, ?_, ?_, ?_, ?_⟩⟩
  · rw [cell_other _ _ _ _ _ (by omega), hcc]; exact hde.c2
  · rw [cell_other _ _ _ _ _ (by omega), hcc]; exact hde.c3
  · rw [cell_other _ _ _ _ _ (by omega), hcc]; exact hde.c4
  · rw [cell_other _ _ _ _ _ (by omega), hcc]; exact hde.c5
  · rw [cell_other _ _ _ _ _ (by omega), hcc]; exact hde.c6
  · rw [cell_other _ _ _ _ _ (by omega), hcc]; exact hde.c7
end Go.Proofs.Ygcfag
