/-
  WALKS: codec.Decode of the arena of a root struct.
-/
import Derived.Test.YgcfagW98
import Derived.Test.YgcfagW91
namespace Go.Proofs.Ygcfag
open Go.RowKit
set_option linter.unusedVariables false
set_option linter.unusedSimpArgs false

def zDec : List Value := [.slice none 0 0, .int .i16 0] ++ (List.replicate 512 [Value.int .u8 0, Value.int .u16 0, Value.int .u8 0, Value.int .u8 0, Value.int .u8 0, Value.int .u16 0]).flatten
def iDec : List Value := [.slice none 0 0, .int .i16 (-1)] ++ (List.replicate 512 [Value.int .u8 0, Value.int .u16 0, Value.int .u8 0, Value.int .u8 0, Value.int .u8 0, Value.int .u16 0]).flatten
theorem info178 : (Fagg.prog.info? 178).map (fun i => i.zero) = some (some (.agg zDec.toArray)) := by kernel_rfl
theorem size178 : (Fagg.prog.info? 178).map (·.size) = some 3074 := by kernel_rfl
theorem built178 : Fagg.prog.built 178 [(0, .agg #[.slice none 0 0, .int .i16 (-1)])] = some iDec.toArray := by kernel_rfl
theorem zDec_len : zDec.length = 3074 := by
  unfold zDec
  simp only [List.length_append, List.length_replicate, List.length_flatten, List.map_replicate, List.length_cons, List.length_nil, List.sum_replicate_nat]
theorem iDec_len : iDec.length = 3074 := by
  unfold iDec
  simp only [List.length_append, List.length_replicate, List.length_flatten, List.map_replicate, List.length_cons, List.length_nil, List.sum_replicate_nat]
theorem iDec_one : ∀ v ∈ iDec, v.oneCell' = true := by
  intro v hv
  unfold iDec at hv
  simp only [List.mem_append, List.mem_replicate, List.mem_flatten, List.mem_cons, List.not_mem_nil, or_false] at hv
  rcases hv with (rfl | rfl) | ⟨l, ⟨_, rfl⟩, hv⟩
  · rfl
  · rfl
  · simp at hv; rcases hv with rfl | rfl | rfl | rfl <;> rfl
theorem there_dec (w : World) : (w.alloc (.cells zDec.toArray 178)).there w.heap.size 0 iDec.toArray.size := fun j hj => by
  have hj' : j < 3074 := by simpa [iDec_len] using hj
  rw [Nat.zero_add, cell_of_row _ _ j zDec.toArray 178 (0, 0) (heap_alloc_new w _)]
  refine ⟨?_, by simp⟩
  have hz : j < zDec.length := by rw [zDec_len]; exact hj'
  rw [List.getElem?_toArray, List.getElem?_eq_getElem hz]; rfl
theorem size_dec : (Fagg.prog.info? 178).map (·.size) = some iDec.toArray.size := by
  rw [show iDec.toArray.size = 3074 by simpa using iDec_len]; exact size178
theorem wpList_built {t : TypeId} {cells : Array Value} {ops : Array Oper} {rest : List Oper} {o : Oper} {a : Act} {w : World} {Q : Exit → Act → World → Prop} (hg : o.guard = none) (parts : Array (Nat × Operand)) (ho : o.op = .build t parts)
    (hb : Fagg.prog.built t (parts.map fun (i, x) => (i, a.eval x)).toList = some cells)
    (h : wpList Fagg.prog ops Q rest (a.put o.dst (.agg cells)) w) : wpList Fagg.prog ops Q (o :: rest) a w := by
  refine wpList_build hg t parts ho (by rw [hb]; rfl) ?_
  rw [hb]; exact h

/-- The decoder as it begins. -/
structure Dec0 (w : World) (D : Nat) : Prop where
  c0 : w.cell? ⟨D, 0, none⟩ = some (.slice none 0 0)
  c1 : w.cell? ⟨D, 1, none⟩ = some (.int .i16 (-1))
  c2 : w.cell? ⟨D, 2, none⟩ = some (.int .u8 0)
  c3 : w.cell? ⟨D, 3, none⟩ = some (.int .u16 0)
  c4 : w.cell? ⟨D, 4, none⟩ = some (.int .u8 0)
  c5 : w.cell? ⟨D, 5, none⟩ = some (.int .u8 0)
  c6 : w.cell? ⟨D, 6, none⟩ = some (.int .u8 0)
  c7 : w.cell? ⟨D, 7, none⟩ = some (.int .u16 0)
  f : ∀ p, w.frozen? ⟨D, p, none⟩ = false
theorem Dec0.below {w w' : World} {D : Nat} (h : Dec0 w D) (hD : D < w.heap.size) (hb : Below w.heap.size w w') : Dec0 w' D :=
  ⟨(hb.cell (p := ⟨D, 0, none⟩) hD).trans h.c0, (hb.cell (p := ⟨D, 1, none⟩) hD).trans h.c1, (hb.cell (p := ⟨D, 2, none⟩) hD).trans h.c2, (hb.cell (p := ⟨D, 3, none⟩) hD).trans h.c3, (hb.cell (p := ⟨D, 4, none⟩) hD).trans h.c4, (hb.cell (p := ⟨D, 5, none⟩) hD).trans h.c5, (hb.cell (p := ⟨D, 6, none⟩) hD).trans h.c6, (hb.cell (p := ⟨D, 7, none⟩) hD).trans h.c7, fun p => (hb.frozen (p := ⟨D, p, none⟩) hD).trans (h.f p)⟩

theorem dec_world (w : World) : Below w.heap.size w ((w.alloc (.cells zDec.toArray 178)).setCells w.heap.size 0 iDec) ∧ w.heap.size < ((w.alloc (.cells zDec.toArray 178)).setCells w.heap.size 0 iDec).heap.size ∧ Dec0 ((w.alloc (.cells zDec.toArray 178)).setCells w.heap.size 0 iDec) w.heap.size := by
  have ht := there_dec w
  have hr := World.rangeAt_setCells_same (w.alloc (.cells zDec.toArray 178)) w.heap.size 0 iDec (by simpa using ht)
  have hc : ∀ j v, iDec[j]? = some v → ((w.alloc (.cells zDec.toArray 178)).setCells w.heap.size 0 iDec).cell? ⟨w.heap.size, j, none⟩ = some v := fun j v h => by
    have := hr j v h
    rwa [Nat.zero_add] at this
  refine ⟨below_setCells _ _ _ _ ((Below.refl _ _).alloc (Nat.le_refl _) _) (Nat.le_refl _), ?_, hc 0 _ rfl, hc 1 _ rfl, hc 2 _ rfl, hc 3 _ rfl, hc 4 _ rfl, hc 5 _ rfl, hc 6 _ rfl, hc 7 _ rfl, fun p => ?_⟩
  · exact World.block_lt_of_cell? _ _ (hc 0 _ rfl)
  · rw [World.frozen?_setCells]; simp

/-- A tree of one struct node without kids. -/
structure TreeAt (w : World) (T B cap : Nat) (A : Option Addr) (d capd : Nat) (ys : List Int) : Prop where
  n : w.cell? ⟨T, 0, none⟩ = some (.slice (some ⟨B, 0, none⟩) 1 cap)
  r : w.cell? ⟨T, 1, none⟩ = some (.int .i16 0)
  k0 : w.cell? ⟨B, 0, none⟩ = some (.int .u8 1)
  k1 : w.cell? ⟨B, 1, none⟩ = some (.int .u8 0)
  k2 : w.cell? ⟨B, 2, none⟩ = some (.slice A d capd)
  k3 : w.cell? ⟨B, 3, none⟩ = some (.slice none 0 0)
  dat : Sl .u64 w A ys
  len : ys.length = d
theorem TreeAt.below {w w' : World} {T B cap : Nat} {A : Option Addr} {d capd : Nat} {ys : List Int} (h : TreeAt w T B cap A d capd ys) (hb : Below w.heap.size w w') : TreeAt w' T B cap A d capd ys := by
  have hT := World.block_lt_of_cell? w _ h.n
  have hB := World.block_lt_of_cell? w _ h.k0
  exact ⟨(hb.cell (p := ⟨T, 0, none⟩) hT).trans h.n, (hb.cell (p := ⟨T, 1, none⟩) hT).trans h.r, (hb.cell (p := ⟨B, 0, none⟩) hB).trans h.k0, (hb.cell (p := ⟨B, 1, none⟩) hB).trans h.k1, (hb.cell (p := ⟨B, 2, none⟩) hB).trans h.k2, (hb.cell (p := ⟨B, 3, none⟩) hB).trans h.k3, h.dat.below hb, h.len⟩

theorem dec_end {w w4 w5 : World} {D B cap : Nat} {q : Pt} {x : Value} (hwD : w.heap.size ≤ D) (hD4 : D < w4.heap.size) (hwB : w4.heap.size ≤ B) (hb4 : Below w.heap.size w w4) (hk : KeptAt D (fun p => p ≠ 1) w4 w5) (ho : w5.ownsRow w4.heap.size 174 4 (.slice (some ⟨B, 0, none⟩) 1 cap) 1 zNode) (hde : DecAt w5 D (.slice (some ⟨B, 0, none⟩) 1 cap) q) (y1 : w5.cell? ⟨D, 1, none⟩ = some x) :
    Below w.heap.size w (w5.setCell ⟨D, 1, none⟩ (.int .i16 0)) ∧ w4.heap.size ≤ (w5.setCell ⟨D, 1, none⟩ (.int .i16 0)).heap.size ∧ DecAt (w5.setCell ⟨D, 1, none⟩ (.int .i16 0)) D (.slice (some ⟨B, 0, none⟩) 1 cap) q ∧ (w5.setCell ⟨D, 1, none⟩ (.int .i16 0)).cell? ⟨D, 1, none⟩ = some (.int .i16 0) ∧ (w5.setCell ⟨D, 1, none⟩ (.int .i16 0)).ownsRow w4.heap.size 174 4 (.slice (some ⟨B, 0, none⟩) 1 cap) 1 zNode := by
  refine ⟨(hb4.trans (hk.bel _ hwD hb4.size)).setCell hwD _, by simpa using hk.size, ⟨?_, ?_, ?_, ?_, ?_, ?_, ?_⟩, cell_same _ _ _ _ _ y1, ownsRow_setCell_below ho hD4 _⟩
  · rw [cell_other _ _ _ _ _ (by omega)]; exact hde.c0
  · rw [cell_other _ _ _ _ _ (by omega)]; exact hde.c2
  · rw [cell_other _ _ _ _ _ (by omega)]; exact hde.c3
  · rw [cell_other _ _ _ _ _ (by omega)]; exact hde.c4
  · rw [cell_other _ _ _ _ _ (by omega)]; exact hde.c5
  · rw [cell_other _ _ _ _ _ (by omega)]; exact hde.c6
  · rw [cell_other _ _ _ _ _ (by omega)]; exact hde.c7
theorem node_conv {w w' : World} {e : Ending} {d : Nat} {l : List Value} (h : ∃ A cap, e = Ending.returned (Value.agg #[Value.int IntKind.u8 1, Value.int IntKind.u8 0, Value.slice A d cap, Value.slice none 0 0]) ∧ w'.ownsRow w.drew.heap.size 32 1 (Value.slice A d cap) d l ∧ Below w.drew.heap.size w.drew w') : ∃ A cap, e = Ending.returned (Value.agg #[Value.int IntKind.u8 1, Value.int IntKind.u8 0, Value.slice A d cap, Value.slice none 0 0]) ∧ w'.ownsRow w.heap.size 32 1 (Value.slice A d cap) d l ∧ Below w.heap.size w w' := by
  obtain ⟨A, cap, h1, h2, h3⟩ := h
  exact ⟨A, cap, h1, h2, below_of_drew h3⟩
theorem DecAt.all {w : World} {D : Nat} {N : Value} {q : Pt} (h : DecAt w D N q) : w.cell? ⟨D, 0, none⟩ = some N ∧ w.cell? ⟨D, 2, none⟩ = some (.int .u8 q.kind) ∧ w.cell? ⟨D, 3, none⟩ = some (.int .u16 q.at_) ∧ w.cell? ⟨D, 4, none⟩ = some (.int .u8 q.data) ∧ w.cell? ⟨D, 5, none⟩ = some (.int .u8 q.ptrs) ∧ w.cell? ⟨D, 6, none⟩ = some (.int .u8 q.code) ∧ w.cell? ⟨D, 7, none⟩ = some (.int .u16 q.count) := ⟨h.c0, h.c2, h.c3, h.c4, h.c5, h.c6, h.c7⟩
theorem DecAt.drew {w : World} {D : Nat} {N : Value} {q : Pt} (h : DecAt w D N q) : DecAt w.drew D N q := ⟨h.c0, h.c2, h.c3, h.c4, h.c5, h.c6, h.c7⟩
theorem DecAt.below {w w' : World} {D : Nat} {N : Value} {q : Pt} (h : DecAt w D N q) (hD : D < w.heap.size) (hb : Below w.heap.size w w') : DecAt w' D N q :=
  ⟨(hb.cell (p := ⟨D, 0, none⟩) hD).trans h.c0, (hb.cell (p := ⟨D, 2, none⟩) hD).trans h.c2, (hb.cell (p := ⟨D, 3, none⟩) hD).trans h.c3, (hb.cell (p := ⟨D, 4, none⟩) hD).trans h.c4, (hb.cell (p := ⟨D, 5, none⟩) hD).trans h.c5, (hb.cell (p := ⟨D, 6, none⟩) hD).trans h.c6, (hb.cell (p := ⟨D, 7, none⟩) hD).trans h.c7⟩
theorem DecAt.other {w : World} {D B p : Nat} {N x : Value} {q : Pt} (h : DecAt w D N q) (hne : D ≠ B) : DecAt (w.setCell ⟨B, p, none⟩ x) D N q := by
  have hc : ∀ o, (w.setCell ⟨B, p, none⟩ x).cell? ⟨D, o, none⟩ = w.cell? ⟨D, o, none⟩ := fun o => World.cell?_setCell_other _ _ _ _ (fun e => by simp only [Addr.mk.injEq] at e; exact hne e.1.symm)
  exact ⟨(hc 0).trans h.c0, (hc 2).trans h.c2, (hc 3).trans h.c3, (hc 4).trans h.c4, (hc 5).trans h.c5, (hc 6).trans h.c6, (hc 7).trans h.c7⟩

theorem dec_fin {w wr w7 : World} {D B cap d capd : Nat} {A : Option Addr} {q : Pt} {ys : List Int} {z0 z1 z2 z3 : Value} (hwB : w.heap.size ≤ B) (hB6 : B < wr.heap.size) (hDB : D ≠ B) (hb : Below w.heap.size w wr) (hb7 : Below wr.heap.size wr w7) (hde : DecAt w7 D (.slice (some ⟨B, 0, none⟩) 1 cap) q) (r7 : w7.cell? ⟨D, 1, none⟩ = some (.int .i16 0)) (ho : w7.ownsRow wr.heap.size 32 1 (.slice A d capd) d (ys.map (Value.int .u64))) (k0 : w7.cell? ⟨B, 0, none⟩ = some z0) (k1 : w7.cell? ⟨B, 1, none⟩ = some z1) (k2 : w7.cell? ⟨B, 2, none⟩ = some z2) (k3 : w7.cell? ⟨B, 3, none⟩ = some z3) :
    ((((w7.setCell ⟨B, 0, none⟩ (.int .u8 1)).setCell ⟨B, 1, none⟩ (.int .u8 0)).setCell ⟨B, 2, none⟩ (.slice A d capd)).setCell ⟨B, 3, none⟩ (.slice none 0 0)).cell? ⟨D, 0, none⟩ = some (.slice (some ⟨B, 0, none⟩) 1 cap) ∧ Hid (∃ A' capd', TreeAt ((((w7.setCell ⟨B, 0, none⟩ (.int .u8 1)).setCell ⟨B, 1, none⟩ (.int .u8 0)).setCell ⟨B, 2, none⟩ (.slice A d capd)).setCell ⟨B, 3, none⟩ (.slice none 0 0)) D B cap A' d capd' ys ∧ Below w.heap.size w ((((w7.setCell ⟨B, 0, none⟩ (.int .u8 1)).setCell ⟨B, 1, none⟩ (.int .u8 0)).setCell ⟨B, 2, none⟩ (.slice A d capd)).setCell ⟨B, 3, none⟩ (.slice none 0 0))) := by
  have hc : ∀ o, ((((w7.setCell ⟨B, 0, none⟩ (.int .u8 1)).setCell ⟨B, 1, none⟩ (.int .u8 0)).setCell ⟨B, 2, none⟩ (.slice A d capd)).setCell ⟨B, 3, none⟩ (.slice none 0 0)).cell? ⟨D, o, none⟩ = w7.cell? ⟨D, o, none⟩ := fun o => by
    rw [World.cell?_setCell_other _ _ _ _ (fun e => by simp only [Addr.mk.injEq] at e; exact hDB e.1.symm), World.cell?_setCell_other _ _ _ _ (fun e => by simp only [Addr.mk.injEq] at e; exact hDB e.1.symm), World.cell?_setCell_other _ _ _ _ (fun e => by simp only [Addr.mk.injEq] at e; exact hDB e.1.symm), World.cell?_setCell_other _ _ _ _ (fun e => by simp only [Addr.mk.injEq] at e; exact hDB e.1.symm)]
  have ho' := ownsRow_setCell_below (ownsRow_setCell_below (ownsRow_setCell_below (ownsRow_setCell_below ho (a := ⟨B, 0, none⟩) hB6 (.int .u8 1)) (a := ⟨B, 1, none⟩) hB6 (.int .u8 0)) (a := ⟨B, 2, none⟩) hB6 (.slice A d capd)) (a := ⟨B, 3, none⟩) hB6 (.slice none 0 0)
  obtain ⟨hl, _, hsl, _⟩ := Sl.of_own ho'
  have hbb := hb.trans (hb7.mono hb.size)
  refine ⟨(hc 0).trans hde.c0, hide ⟨A, capd, ⟨(hc 0).trans hde.c0, (hc 1).trans r7, ?_, ?_, ?_, ?_, hsl, hl.symm⟩, (((hbb.setCell hwB _).setCell hwB _).setCell hwB _).setCell hwB _⟩⟩
  · rw [cell_other _ _ _ _ _ (by omega), cell_other _ _ _ _ _ (by omega), cell_other _ _ _ _ _ (by omega)]; exact cell_same _ _ _ _ _ k0
  · rw [cell_other _ _ _ _ _ (by omega), cell_other _ _ _ _ _ (by omega)]; exact cell_same _ _ _ _ _ ((cell_other _ _ _ _ _ (by omega)).trans k1)
  · rw [cell_other _ _ _ _ _ (by omega)]; exact cell_same _ _ _ _ _ ((cell_other _ _ _ _ _ (by omega)).trans ((cell_other _ _ _ _ _ (by omega)).trans k2))
  · exact cell_same _ _ _ _ _ ((cell_other _ _ _ _ _ (by omega)).trans ((cell_other _ _ _ _ _ (by omega)).trans ((cell_other _ _ _ _ _ (by omega)).trans k3)))

set_option maxHeartbeats 1000000 in
set_option maxRecDepth 100000 in
theorem decode1_any (a : Option Addr) (n c d : Nat) (xs : List Int) (w : World) (hs : Sl .u64 w a xs) (hn : xs.length = n) (hw : Wds xs) (hd : d ≤ 8) (hl : n = d + 1) (hx : xs.getD 0 0 = (rootW d : Int)) :
    Calls Fagg.prog 35 #[.slice a n c] w fun e w' => ∃ T B cap A capd, e = .returned (.tuple #[.pointer (some ⟨T, 0, none⟩), .bool true]) ∧ TreeAt w' T B cap A d capd (xs.drop 1) ∧ Below w.heap.size w w' := by
  have HV := hide (fun W (hW : Below w.heap.size w W) => valid1_any a n c d xs W (hs.below hW) hn hw hd hl hx)
  have HR := hide (fun W (hW : Below w.heap.size w W) => root_any a n c d xs W (hs.below hW) hn hw hd hl hx)
  have HN := hide (fun g W (hW : Below w.heap.size w W) => node1_any g a n c d xs W (hs.below hW) hn hw hd (by omega))
  have HLE : Hid ((xs.drop 1).length = d) := hide (by simp; omega)
  have HK : Hid ((rootPt d).kind = 1) := hide rfl
  clear hs hn hw hl hx
  simp only [ptRes, ptV] at HR HN
  generalize rootPt d = q at *
  have HADD := hide (fun D W => add1_any D q W (.int .u8 0) (.int .u16 0) (.int .u8 0) (.int .u8 0) (.int .u8 0) (.int .u16 0) (unhide HK))
  unfold ptV at HADD
  go_enter Fagg.func35, Fagg.ntmps35
  refine wp_seq_k (fun K0 hK0 => ?_)
  have HC0 := hide hK0
  clear hK0
  go_wp2_with fail
  refine unhide HC0 _ _ ?_
  clear HC0
  refine wp_seq_k (fun K0 hK0 => ?_)
  have HC0 := hide hK0
  clear hK0
  go_wp2_with (first | (go_at_call 42; with_reducible refine (unhide HV w (Below.refl _ _)).mono ?_; rintro e w1 ⟨rfl, hb1⟩; have HB1 := hide hb1; clear hb1))
  refine unhide HC0 _ _ ?_
  clear HC0
  refine wp_seq_k (fun K0 hK0 => ?_)
  have HC0 := hide hK0
  clear hK0
  go_wp2_with (first | (refine wpList_built rfl #[(0, .tmp 11)] rfl built178 ?_; simp only [Act.put, List.setIfInBounds_toArray, List.set_cons_zero, List.set_cons_succ]) | (refine wpList_alloc_big info178 rfl rfl ?_; simp only [Act.put, List.setIfInBounds_toArray, List.set_cons_zero, List.set_cons_succ]) | (refine wpList_store_mid rfl 178 _ _ rfl w1.heap.size 0 iDec.toArray rfl rfl (there_dec w1) size_dec (all_oneCell_toArray iDec_one) ?_; simp only [Act.put, List.setIfInBounds_toArray, List.set_cons_zero, List.set_cons_succ]))
  refine unhide HC0 _ _ ?_
  clear HC0
  generalize Value.agg ((Fagg.zeroCells178.setIfInBounds 0 (Value.slice none 0 0)).setIfInBounds 1 (Value.int IntKind.i16 (-1))) = v12
  refine gen_world _ (fun w' => Below w.heap.size w w' ∧ w1.heap.size < w'.heap.size ∧ Dec0 w' w1.heap.size) ⟨(unhide HB1).trans ((dec_world w1).1.mono (unhide HB1).size), (dec_world w1).2.1, (dec_world w1).2.2⟩ ?_
  rintro w2 ⟨hb2, hD2, hdec⟩
  have hwD : w.heap.size ≤ w1.heap.size := (unhide HB1).size
  generalize w1.heap.size = D at hwD hD2 hdec ⊢
  have HB2 := hide hb2
  have HDE := hide hdec
  clear hb2 hdec HB1 HV w1
  refine wp_seq_k (fun K0 hK0 => ?_)
  have HC0 := hide hK0
  clear hK0
  go_wp2_with (first | (go_at_call 64; with_reducible refine (unhide HR w2 (unhide HB2)).mono ?_; rintro e w3 ⟨rfl, hb3⟩; have HB3 := hide hb3; clear hb3))
  refine unhide HC0 _ _ ?_
  clear HC0
  refine gen_world _ (fun w' => Below w2.heap.size w2 w' ∧ P6 w' w3.heap.size q ∧ w3.heap.size < w'.heap.size) ⟨(unhide HB3).alloc (unhide HB3).size _, ⟨by simp, by simp, by simp, by simp, by simp, by simp⟩, by simp⟩ ?_
  rintro w4 ⟨hb4, ⟨p0, p1, p2, p3, p4, p5⟩, hR4⟩
  have hR3 : w2.heap.size ≤ w3.heap.size := (unhide HB3).size
  generalize w3.heap.size = R at hR3 hR4 p0 p1 p2 p3 p4 p5 ⊢
  have hD4 : D < w4.heap.size := by omega
  have HB4 := hide ((unhide HB2).trans (hb4.mono (unhide HB2).size))
  have HDE4 := hide ((unhide HDE).below hD2 hb4)
  clear hb4 HB3 HB2 HDE w3
  refine wp_seq_k (fun K0 hK0 => ?_)
  have HC0 := hide hK0
  clear hK0
  have HA : Hid (Calls Fagg.prog 83 _ w4 _) := hide (unhide HADD D w4 hD4 (unhide HDE4).c0 (unhide HDE4).c2 (unhide HDE4).c3 (unhide HDE4).c4 (unhide HDE4).c5 (unhide HDE4).c6 (unhide HDE4).c7 ((unhide HDE4).f _) ((unhide HDE4).f _) ((unhide HDE4).f _) ((unhide HDE4).f _) ((unhide HDE4).f _) ((unhide HDE4).f _) ((unhide HDE4).f _))
  have q1 := (unhide HDE4).c1
  have q1f := (unhide HDE4).f 1
  have hn1 : ¬ ((1 : Nat) ≠ 1) := by omega
  go_wp2_with (first | (go_at_call 83; with_reducible refine (unhide HA).mono ?_; rintro e w5 ⟨B, cap, rfl, hwB, hk5, ho5, hde5⟩; have y1 := (hk5.cell D 1 hD4 (.inr hn1)).trans q1; have y1f := (hk5.frozen D 1 hD4).trans q1f; have HK5 := hide hk5; have HO5 := hide ho5; have HDE5 := hide hde5; clear hk5 ho5 hde5))
  refine unhide HC0 _ _ ?_
  clear HC0
  refine gen_world _ (fun w' => Below w.heap.size w w' ∧ w4.heap.size ≤ w'.heap.size ∧ DecAt w' D (.slice (some ⟨B, 0, none⟩) 1 cap) q ∧ w'.cell? ⟨D, 1, none⟩ = some (.int .i16 0) ∧ w'.ownsRow w4.heap.size 174 4 (.slice (some ⟨B, 0, none⟩) 1 cap) 1 zNode) (dec_end hwD hD4 hwB (unhide HB4) (unhide HK5) (unhide HO5) (unhide HDE5) y1) ?_
  rintro w6 ⟨hb6, hs6, hde6, r6, ho6⟩
  have hD6 : D < w6.heap.size := by omega
  have hB6 : B < w6.heap.size := (ho6.lt B rfl).2
  have hDB : D ≠ B := by omega
  have HB6 := hide hb6
  have HDE6 := hide hde6
  have HO6 := hide ho6
  obtain ⟨c0, c2, c3, c4, c5, c6, c7⟩ := hde6
  have b0 := ho6.cellAt 0 (by omega)
  have b1 := ho6.cellAt 1 (by omega)
  have b2 := ho6.cellAt 2 (by omega)
  have b3 := ho6.cellAt 3 (by omega)
  simp only [zNode, List.getElem?_cons_zero, List.getElem?_cons_succ] at b0 b1 b2 b3
  have hf6 := hide (fun p => ho6.frozenAt p)
  clear hb6 ho6 HO5 HDE5 HK5 HA HADD HDE4 HB4 q1 q1f y1 y1f
  have HNI := hide ((unhide HN (.pointer (some ⟨D, 0, none⟩)) w6.drew (unhide HB6).drew).mono (fun e w' h => node_conv h))
  go_wp2_with fail
  go_loopw [7] (fun s wr => (s = .int .i64 0 ∧ wr = w6) ∨ (s = .int .i64 1 ∧ wr.cell? ⟨D, 0, none⟩ = some (.slice (some ⟨B, 0, none⟩) 1 cap) ∧ Hid (∃ A capd, TreeAt wr D B cap A d capd (xs.drop 1) ∧ Below w.heap.size w wr))) (fun s _ => 1 - (intOf s).toNat)
  case atStart => exact .inl ⟨rfl, rfl⟩
  case round =>
    rcases hrel with ⟨rfl, rfl⟩ | ⟨rfl, k0, HF⟩
    · go_wp2_with fail
      go_region_held2 (fun w' => w'.cell? ⟨D, 0, none⟩ = some (.slice (some ⟨B, 0, none⟩) 1 cap) ∧ w'.cell? ⟨D, 2, none⟩ = some (.int .u8 q.kind) ∧ w'.cell? ⟨D, 3, none⟩ = some (.int .u16 q.at_) ∧ w'.cell? ⟨D, 4, none⟩ = some (.int .u8 q.data) ∧ w'.cell? ⟨D, 5, none⟩ = some (.int .u8 q.ptrs) ∧ w'.cell? ⟨D, 6, none⟩ = some (.int .u8 q.code) ∧ w'.cell? ⟨D, 7, none⟩ = some (.int .u16 q.count)) ((first | exact (unhide HDE6).drew.all | exact (unhide HDE7).all | (exact ((((unhide HDE7).other hDB).other hDB).other hDB |>.other hDB).all))) ((go_at_call 84; with_reducible refine (unhide HNI).mono ?_; rintro e w7 ⟨A, capd, rfl, ho7, hb7⟩; have k0 := (hb7.cell (p := ⟨B, 0, none⟩) hB6).trans b0; have k1 := (hb7.cell (p := ⟨B, 1, none⟩) hB6).trans b1; have k2 := (hb7.cell (p := ⟨B, 2, none⟩) hB6).trans b2; have k3 := (hb7.cell (p := ⟨B, 3, none⟩) hB6).trans b3; have f0 := (hb7.frozen (p := ⟨B, 0, none⟩) hB6).trans (unhide hf6 0); have f1 := (hb7.frozen (p := ⟨B, 1, none⟩) hB6).trans (unhide hf6 1); have f2 := (hb7.frozen (p := ⟨B, 2, none⟩) hB6).trans (unhide hf6 2); have f3 := (hb7.frozen (p := ⟨B, 3, none⟩) hB6).trans (unhide hf6 3); have r7 := (hb7.cell (p := ⟨D, 1, none⟩) hD6).trans r6; have HDE7 := hide ((unhide HDE6).below hD6 hb7); have HO7 := hide ho7; have HB7 := hide hb7; clear ho7 hb7))
      all_goals (have hfin := dec_fin (by omega) hB6 hDB (unhide HB6) (unhide HB7) (unhide HDE7) r7 (unhide HO7) k0 k1 k2 k3)
      all_goals (generalize (((w7.setCell _ _).setCell _ _).setCell _ _).setCell _ _ = w8 at hfin ⊢)
      all_goals (clear k0 k1 k2 k3 f0 f1 f2 f3 r7 HDE7 HO7 HB7)
      all_goals (go_wp2_with fail)
      all_goals (refine ⟨.inr ⟨rfl, ?_⟩, by decide⟩; exact hfin)
    · go_wp2_with fail
      obtain ⟨A, capd, ht, hb⟩ := unhide HF
      exact bodyPost_ret (v := .tuple #[.pointer (some ⟨D, 0, none⟩), .bool true]) (by simp [results, Fagg.results35, go_sem]) rfl ⟨D, B, cap, A, capd, rfl, ht, hb⟩
end Go.Proofs.Ygcfag
