/-
  WALKS: tree's bounded and Check of a tree of one node.
-/
import Derived.Test.YgcfagW100
import Derived.BigQuiet
namespace Go.Proofs.Ygcfag
open Go.RowKit
set_option linter.unusedVariables false
set_option linter.unusedSimpArgs false

theorem info276 : (Fagg.prog.info? 276).map (fun i => i.zero) = some (some (.agg (List.replicate 512 (Value.int .u8 0)).toArray)) := by kernel_rfl
theorem info277 : (Fagg.prog.info? 277).map (fun i => i.zero) = some (some (.agg (List.replicate 512 (Value.bool false)).toArray)) := by kernel_rfl

theorem two_rows (w : World) (X Y : List Value) (x y : Value) (hx : X[0]? = some x) (hy : Y[0]? = some y) (t u : TypeId) : Below w.heap.size w ((w.alloc (.cells X.toArray t)).alloc (.cells Y.toArray u)) ∧ ((w.alloc (.cells X.toArray t)).alloc (.cells Y.toArray u)).heap.size = w.heap.size + 2 ∧ ((w.alloc (.cells X.toArray t)).alloc (.cells Y.toArray u)).cell? ⟨w.heap.size, 0, none⟩ = some x ∧ ((w.alloc (.cells X.toArray t)).alloc (.cells Y.toArray u)).cell? ⟨w.heap.size + 1, 0, none⟩ = some y ∧ (∀ p, ((w.alloc (.cells X.toArray t)).alloc (.cells Y.toArray u)).frozen? ⟨w.heap.size, p, none⟩ = false) := by
  have hs : (w.alloc (.cells X.toArray t)).heap.size = w.heap.size + 1 := by simp
  refine ⟨((Below.refl _ _).alloc (Nat.le_refl _) _).alloc (by simp) _, by simp, ?_, ?_, fun p => by simp⟩
  · rw [World.cell?_alloc_lt _ _ _ (by simp), cell_of_row _ _ 0 X.toArray t (0, 0) (heap_alloc_new w _), List.getElem?_toArray]; exact hx
  · rw [← hs, cell_of_row _ _ 0 Y.toArray u (0, 0) (heap_alloc_new _ _), List.getElem?_toArray]; exact hy

theorem bounded_world (w : World) (T B cap d capd : Nat) (A : Option Addr) (ys : List Int) (ht : TreeAt w T B cap A d capd ys) (w1 : World) (h1 : Below w.heap.size w w1) (h2 : w1.heap.size = w.heap.size + 2) (c0 : w1.cell? ⟨w.heap.size, 0, none⟩ = some (.int .u8 0)) (c1 : w1.cell? ⟨w.heap.size + 1, 0, none⟩ = some (.bool false)) : Below w.heap.size w (w1.setCell ⟨w.heap.size, 0, none⟩ (.int .u8 1)) ∧ TreeAt (w1.setCell ⟨w.heap.size, 0, none⟩ (.int .u8 1)) T B cap A d capd ys ∧ (w1.setCell ⟨w.heap.size, 0, none⟩ (.int .u8 1)).heap.size = w.heap.size + 2 ∧ (w1.setCell ⟨w.heap.size, 0, none⟩ (.int .u8 1)).cell? ⟨w.heap.size, 0, none⟩ = some (.int .u8 1) ∧ (w1.setCell ⟨w.heap.size, 0, none⟩ (.int .u8 1)).cell? ⟨w.heap.size + 1, 0, none⟩ = some (.bool false) := by
  have hb : Below w.heap.size w (w1.setCell ⟨w.heap.size, 0, none⟩ (.int .u8 1)) := h1.setCell (Nat.le_refl _) _
  exact ⟨hb, ht.below hb, by simpa using h2, cell_same _ _ _ _ _ c0, (World.cell?_setCell_other _ _ _ _ (fun e => by simp only [Addr.mk.injEq] at e; omega)).trans c1⟩

set_option maxHeartbeats 1000000 in
set_option maxRecDepth 100000 in
theorem bounded_any (T B cap d capd : Nat) (A : Option Addr) (ys : List Int) (w : World) (ht : TreeAt w T B cap A d capd ys) (hd : d ≤ 8) :
    Calls Fagg.prog 86 #[.pointer (some ⟨T, 0, none⟩)] w fun e w' => e = .returned (.bool true) ∧ Below w.heap.size w w' := by
  have HTW := hide (fun W (hW : Below w.heap.size w W) => twords_any T B cap d capd A ys W (ht.below hW) hd)
  have HT := hide ht
  have hle : trimN ys d ≤ 8 := Nat.le_trans (trimN_le ys d) hd
  generalize trimN ys d = t at *
  have hT : T < w.heap.size := World.block_lt_of_cell? w _ ht.n
  clear ht hd
  have z0 : (List.replicate 512 (Value.int .u8 0))[0]? = some (.int .u8 0) := rfl
  have z1 : (List.replicate 512 (Value.bool false))[0]? = some (.bool false) := rfl
  have i0 := info276
  have i1 := info277
  generalize List.replicate 512 (Value.int .u8 0) = X at *
  generalize List.replicate 512 (Value.bool false) = Y at *
  go_enter Fagg.func86, Fagg.ntmps86
  refine wp_seq_k (fun K0 hK0 => ?_)
  have HC0 := hide hK0
  clear hK0
  go_wp2_with fail
  refine unhide HC0 _ _ ?_
  clear HC0
  refine wp_seq_k (fun K0 hK0 => ?_)
  have HC0 := hide hK0
  clear hK0
  refine wp_region_lit ?_
  refine wpList_alloc_big i0 rfl rfl ?_
  simp only [Act.put, List.setIfInBounds_toArray, List.set_cons_zero, List.set_cons_succ]
  go_wp2_with fail
  refine unhide HC0 _ _ ?_
  clear HC0
  refine wp_seq_k (fun K0 hK0 => ?_)
  have HC0 := hide hK0
  clear hK0
  refine wp_region_lit ?_
  refine wpList_alloc_big i1 rfl rfl ?_
  simp only [Act.put, List.setIfInBounds_toArray, List.set_cons_zero, List.set_cons_succ]
  go_wp2_with fail
  refine unhide HC0 _ _ ?_
  clear HC0
  rw [show (w.alloc (Obj.cells X.toArray 276)).heap.size = w.heap.size + 1 by simp]
  refine gen_world _ (fun w' => Below w.heap.size w w' ∧ w'.heap.size = w.heap.size + 2 ∧ w'.cell? ⟨w.heap.size, 0, none⟩ = some (.int .u8 0) ∧ w'.cell? ⟨w.heap.size + 1, 0, none⟩ = some (.bool false) ∧ (∀ p, w'.frozen? ⟨w.heap.size, p, none⟩ = false)) (two_rows w X Y _ _ z0 z1 276 277) ?_
  clear i0 i1 z0 z1
  rintro w1 ⟨hb1, hs1, c0, c1, f0⟩
  have f00 := f0 0
  have HB1 := hide hb1
  have HT1 := hide ((unhide HT).below hb1)
  clear f0 hb1
  have r1 := (unhide HT1).r
  refine wp_seq_k (fun K0 hK0 => ?_)
  have HC0 := hide hK0
  clear hK0
  go_wp2_with fail
  refine unhide HC0 _ _ ?_
  clear HC0
  refine gen_world _ (fun w' => Below w.heap.size w w' ∧ TreeAt w' T B cap A d capd ys ∧ w'.heap.size = w.heap.size + 2 ∧ w'.cell? ⟨w.heap.size, 0, none⟩ = some (.int .u8 1) ∧ w'.cell? ⟨w.heap.size + 1, 0, none⟩ = some (.bool false)) (bounded_world w T B cap d capd A ys (unhide HT) w1 (unhide HB1) hs1 c0 c1) ?_
  clear c0 c1 f00 r1 HB1 HT1 hs1
  rintro w2 ⟨hb2, ht2, hs2, c0, c1⟩
  obtain ⟨n0, r0, k0, k1, k2, k3, dat, len⟩ := ht2
  have hB2 : B < w2.heap.size := World.block_lt_of_cell? w2 _ k0
  have hT2 : T < w2.heap.size := by omega
  have HB2 := hide hb2
  have HW := hide (unhide HTW w2 hb2)
  have hwt : IntKind.i64.wrap (1 + (t : Int)) = 1 + (t : Int) := by rw [IntKind.wrap_i64]; omega
  have hw256 : 1 + (t : Int) ≤ 256 := by omega
  clear dat len HTW hb2 HT w1
  go_wp2_with fail
  go_loopw [6, 5] (fun s s5 wr => (s = .int .i64 0 ∧ s5 = .int .i64 1 ∧ wr = w2) ∨ (s = .int .i64 1 ∧ s5 = .int .i64 (1 + (t : Int)) ∧ Hid (Below w2.heap.size w2 wr))) (fun s _ _ => 1 - (intOf s).toNat)
  case atStart => exact .inl ⟨rfl, rfl, rfl⟩
  case round =>
    rcases hrel with ⟨rfl, rfl, rfl⟩ | ⟨rfl, rfl, HB⟩
    · go_wp2_with (go_at_call 157; with_reducible refine (unhide HW).mono ?_; rintro e w3 ⟨rfl, hb3⟩; have a0 := (hb3.cell (p := ⟨w.heap.size, 0, none⟩) (by show w.heap.size < _; omega)).trans c0; have b0 := (hb3.cell (p := ⟨B, 0, none⟩) hB2).trans k0; have b1 := (hb3.cell (p := ⟨B, 1, none⟩) hB2).trans k1;  have b3 := (hb3.cell (p := ⟨B, 3, none⟩) hB2).trans k3; have HB3 := hide hb3; clear hb3)
      go_loopw [74] (fun s wx => s = .int .i64 0 ∧ wx = w3) (fun _ _ => 0)
      case atStart => exact ⟨rfl, rfl⟩
      case round =>
        obtain ⟨rfl, rfl⟩ := hrel
        go_wp2_with fail
        refine ⟨.inr ⟨rfl, rfl, HB3⟩, by decide⟩
    · have n3 := ((unhide HB).cell (p := ⟨T, 0, none⟩) hT2).trans n0
      go_wp2_with fail
      exact bodyPost_ret (v := .bool true) (by simp [results, Fagg.results86, go_sem]) rfl ⟨rfl, (unhide HB2).trans ((unhide HB).mono (unhide HB2).size)⟩

set_option maxHeartbeats 1000000 in
set_option maxRecDepth 100000 in
theorem tcheck_any (T B cap d capd : Nat) (A : Option Addr) (ys : List Int) (w : World) (ht : TreeAt w T B cap A d capd ys) (hd : d ≤ 8) :
    Calls Fagg.prog 36 #[.pointer (some ⟨T, 0, none⟩)] w fun e w' => e = .returned (.bool true) ∧ Below w.heap.size w w' := by
  have HSH := hide (fun W (hW : Below w.heap.size w W) => shaped_any T B cap d capd A ys W (ht.below hW) hd)
  have HBO := hide (fun W (hW : Below w.heap.size w W) => bounded_any T B cap d capd A ys W (ht.below hW) hd)
  have HT := hide ht
  obtain ⟨n0, r0, k0, k1, k2, k3, dat, len⟩ := ht
  clear dat len hd
  go_enter Fagg.func36, Fagg.ntmps36
  refine wp_seq_k (fun K0 hK0 => ?_)
  have HC0 := hide hK0
  clear hK0
  go_wp2_with fail
  refine unhide HC0 _ _ ?_
  clear HC0
  refine wp_seq_k (fun K0 hK0 => ?_)
  have HC0 := hide hK0
  clear hK0
  go_wp2_with fail
  go_quiet (fail)
  go_wp2_with fail
  refine unhide HC0 _ _ ?_
  clear HC0
  refine wp_seq_k (fun K0 hK0 => ?_)
  have HC0 := hide hK0
  clear hK0
  go_wp2_with fail
  refine unhide HC0 _ _ ?_
  clear HC0
  refine gen_world _ (fun w' => Below w.heap.size w w') ((bel_drewN (Below.refl w.heap.size w) nq).alloc (by simp) _) ?_
  intro w1 hb1
  have ht1 := (unhide HT).below hb1
  clear n0 r0 k0 k1 k2 k3
  obtain ⟨n0, r0, k0, k1, k2, k3, dat, len⟩ := ht1
  clear dat len
  have hB1 : B < w1.heap.size := World.block_lt_of_cell? w1 _ k0
  have hT1 : T < w1.heap.size := World.block_lt_of_cell? w1 _ n0
  have HB1 := hide hb1
  have HS1 := hide (unhide HSH w1 hb1)
  clear hb1 HSH
  go_wp2_with fail
  go_loopw [43] (fun s wr => (s = .int .i64 0 ∧ wr = w1) ∨ (s = .int .i64 1 ∧ Hid (Below w1.heap.size w1 wr))) (fun s _ => 1 - (intOf s).toNat)
  case atStart => exact .inl ⟨rfl, rfl⟩
  case round =>
    rcases hrel with ⟨rfl, rfl⟩ | ⟨rfl, HB⟩
    · go_wp2_with (go_at_call 85; with_reducible refine (unhide HS1).mono ?_; rintro e w3 ⟨rfl, hb3⟩; have a0 := (hb3.cell (p := ⟨T, 0, none⟩) hT1).trans n0; have b3 := (hb3.cell (p := ⟨B, 3, none⟩) hB1).trans k3; have HB3 := hide hb3; clear hb3)
      go_loopw [59] (fun s wx => s = .int .i64 0 ∧ wx = w3) (fun _ _ => 0)
      case atStart => exact ⟨rfl, rfl⟩
      case round =>
        obtain ⟨rfl, rfl⟩ := hrel
        go_wp2_with fail
        refine ⟨.inr ⟨rfl, HB3⟩, by decide⟩
    · have r3 := ((unhide HB).cell (p := ⟨T, 1, none⟩) hT1).trans r0
      have HBB := hide ((unhide HB1).trans ((unhide HB).mono (unhide HB1).size))
      have HO := hide (unhide HBO wr (unhide HBB))
      go_wp2_with (go_at_call 86; with_reducible refine (unhide HO).mono ?_; rintro e w3 ⟨rfl, hb3⟩; have HB3 := hide hb3; clear hb3)
      exact bodyPost_ret (v := .bool true) (by simp [results, Fagg.results36, go_sem]) rfl ⟨rfl, (unhide HBB).trans ((unhide HB3).mono (unhide HBB).size)⟩
end Go.Proofs.Ygcfag
