/-
  WALKS: codec's node of a root struct: its first region.
-/
import Derived.Test.YgcfagW94
import Derived.Test.YgcfagW60
import Derived.Deep.RegionHeld2
namespace Go.Proofs.Ygcfag
open Go.RowKit
set_option linter.unusedVariables false
set_option linter.unusedSimpArgs false

/-- codec.words. -/
theorem wordsR_any (d : Nat) (w : World) (hd : d ≤ 8) : Calls Fagg.prog 152 #[.int .i64 (d : Int)] w fun e w' => ∃ A c, e = .returned (.slice A 0 c) ∧ w'.ownsRow w.heap.size 32 1 (.slice A 0 c) 0 [] ∧ Below w.heap.size w w' := by
  by_cases h0 : d = 0
  · subst h0
    exact (words0_any w).mono fun e w' ⟨he, hw⟩ => ⟨none, 0, he, by rw [hw]; exact World.ownsRow_nil _ _ _ _, by rw [hw]; exact Below.refl _ _⟩
  · exact (words1_any d w (by omega) hd).mono fun e w' ⟨he, ho, hb⟩ => ⟨_, _, he, ho, hb⟩

/-- A node lies in block B: its kind, code, data, kids. -/
structure NodeAt (w : World) (B : Nat) (v : Value) : Prop where
  c0 : w.cell? ⟨B, 0, none⟩ = some (.int .u8 1)
  c1 : w.cell? ⟨B, 1, none⟩ = some (.int .u8 0)
  c2 : w.cell? ⟨B, 2, none⟩ = some v
  c3 : w.cell? ⟨B, 3, none⟩ = some (.slice none 0 0)
  f2 : w.frozen? ⟨B, 2, none⟩ = false

theorem zcells {w w1 : World} (hb : Below (w.alloc (Obj.cells #[Value.int IntKind.u8 0, Value.int IntKind.u8 0, Value.slice none 0 0, Value.slice none 0 0] 174)).drew.heap.size (w.alloc (Obj.cells #[Value.int IntKind.u8 0, Value.int IntKind.u8 0, Value.slice none 0 0, Value.slice none 0 0] 174)).drew w1) : w1.cell? ⟨w.heap.size, 0, none⟩ = some (.int .u8 0) ∧ w1.cell? ⟨w.heap.size, 1, none⟩ = some (.int .u8 0) ∧ w1.cell? ⟨w.heap.size, 2, none⟩ = some (.slice none 0 0) ∧ w1.cell? ⟨w.heap.size, 3, none⟩ = some (.slice none 0 0) ∧ w1.frozen? ⟨w.heap.size, 0, none⟩ = false ∧ w1.frozen? ⟨w.heap.size, 1, none⟩ = false ∧ w1.frozen? ⟨w.heap.size, 2, none⟩ = false ∧ w1.frozen? ⟨w.heap.size, 3, none⟩ = false := by
  have hs : w.heap.size < (w.alloc (Obj.cells #[Value.int IntKind.u8 0, Value.int IntKind.u8 0, Value.slice none 0 0, Value.slice none 0 0] 174)).drew.heap.size := by simp
  exact ⟨(hb.cell (p := ⟨w.heap.size, 0, none⟩) hs).trans (by simp), (hb.cell (p := ⟨w.heap.size, 1, none⟩) hs).trans (by simp), (hb.cell (p := ⟨w.heap.size, 2, none⟩) hs).trans (by simp), (hb.cell (p := ⟨w.heap.size, 3, none⟩) hs).trans (by simp), (hb.frozen (p := ⟨w.heap.size, 0, none⟩) hs).trans (by simp), (hb.frozen (p := ⟨w.heap.size, 1, none⟩) hs).trans (by simp), (hb.frozen (p := ⟨w.heap.size, 2, none⟩) hs).trans (by simp), (hb.frozen (p := ⟨w.heap.size, 3, none⟩) hs).trans (by simp)⟩

theorem ownBlk {w : World} {base : Nat} {e : TypeId} {size : Nat} {v : Value} {n : Nat} {xs : List Value} (h : w.ownsRow base e size v n xs) : ∀ k, v.ownBlock = some k → base ≤ k ∧ k < w.heap.size := h.lt

theorem node_fin1 {w w1 : World} {A : Option Addr} {c : Nat} (hb : Below w.heap.size w w1) (ho : w1.ownsRow (w.heap.size + 1) 32 1 (.slice A 0 c) 0 []) (z0 : w1.cell? ⟨w.heap.size, 0, none⟩ = some (.int .u8 0)) (z1 : w1.cell? ⟨w.heap.size, 1, none⟩ = some (.int .u8 0)) (z2 : w1.cell? ⟨w.heap.size, 2, none⟩ = some (.slice none 0 0)) (z3 : w1.cell? ⟨w.heap.size, 3, none⟩ = some (.slice none 0 0)) (y2 : w1.frozen? ⟨w.heap.size, 2, none⟩ = false) :
    w.heap.size < ((((w1.setCell ⟨w.heap.size, 0, none⟩ (.int .u8 1)).setCell ⟨w.heap.size, 1, none⟩ (.int .u8 0)).setCell ⟨w.heap.size, 2, none⟩ (.slice A 0 c)).setCell ⟨w.heap.size, 3, none⟩ (.slice none 0 0)).heap.size ∧ Below w.heap.size w ((((w1.setCell ⟨w.heap.size, 0, none⟩ (.int .u8 1)).setCell ⟨w.heap.size, 1, none⟩ (.int .u8 0)).setCell ⟨w.heap.size, 2, none⟩ (.slice A 0 c)).setCell ⟨w.heap.size, 3, none⟩ (.slice none 0 0)) ∧ NodeAt ((((w1.setCell ⟨w.heap.size, 0, none⟩ (.int .u8 1)).setCell ⟨w.heap.size, 1, none⟩ (.int .u8 0)).setCell ⟨w.heap.size, 2, none⟩ (.slice A 0 c)).setCell ⟨w.heap.size, 3, none⟩ (.slice none 0 0)) w.heap.size (.slice A 0 c) ∧ ((((w1.setCell ⟨w.heap.size, 0, none⟩ (.int .u8 1)).setCell ⟨w.heap.size, 1, none⟩ (.int .u8 0)).setCell ⟨w.heap.size, 2, none⟩ (.slice A 0 c)).setCell ⟨w.heap.size, 3, none⟩ (.slice none 0 0)).ownsRow w.heap.size 32 1 (.slice A 0 c) 0 [] ∧ (Value.slice A 0 c).ownBlock ≠ some w.heap.size := by
  have hlt := World.block_lt_of_cell? w1 _ z0
  refine ⟨by simpa using hlt, (((hb.setCell (Nat.le_refl _) _).setCell (Nat.le_refl _) _).setCell (Nat.le_refl _) _).setCell (Nat.le_refl _) _, ⟨?_, ?_, ?_, ?_, ?_⟩, ?_, fun h => ?_⟩
  · rw [cell_other _ _ _ _ _ (by omega), cell_other _ _ _ _ _ (by omega), cell_other _ _ _ _ _ (by omega)]; exact cell_same _ _ _ _ _ z0
  · rw [cell_other _ _ _ _ _ (by omega), cell_other _ _ _ _ _ (by omega)]; exact cell_same _ _ _ _ _ ((cell_other _ _ _ _ _ (by omega)).trans z1)
  · rw [cell_other _ _ _ _ _ (by omega)]; exact cell_same _ _ _ _ _ ((cell_other _ _ _ _ _ (by omega)).trans ((cell_other _ _ _ _ _ (by omega)).trans z2))
  · exact cell_same _ _ _ _ _ ((cell_other _ _ _ _ _ (by omega)).trans ((cell_other _ _ _ _ _ (by omega)).trans ((cell_other _ _ _ _ _ (by omega)).trans z3)))
  · rw [frozen_set, frozen_set, frozen_set, frozen_set]; exact y2
  · exact own_mono (ownsRow_setCell_below (ownsRow_setCell_below (ownsRow_setCell_below (ownsRow_setCell_below ho (by show w.heap.size < _; omega) _) (by show w.heap.size < _; omega) _) (by show w.heap.size < _; omega) _) (by show w.heap.size < _; omega) _) (by omega)
  · have := (ho.lt _ h).1; omega

theorem node_fin2 {w w1 : World} {A : Option Addr} {c : Nat} (hb : Below w.heap.size w w1) (ho : w1.ownsRow w.heap.size 32 1 (.slice A 0 c) 0 []) :
    w.heap.size ≤ w1.heap.size ∧ w1.heap.size < (w1.alloc (Obj.cells #[Value.int IntKind.u8 1, Value.int IntKind.u8 0, Value.slice A 0 c, Value.slice none 0 0] 174)).heap.size ∧ Below w.heap.size w (w1.alloc (Obj.cells #[Value.int IntKind.u8 1, Value.int IntKind.u8 0, Value.slice A 0 c, Value.slice none 0 0] 174)) ∧ NodeAt (w1.alloc (Obj.cells #[Value.int IntKind.u8 1, Value.int IntKind.u8 0, Value.slice A 0 c, Value.slice none 0 0] 174)) w1.heap.size (.slice A 0 c) ∧ (w1.alloc (Obj.cells #[Value.int IntKind.u8 1, Value.int IntKind.u8 0, Value.slice A 0 c, Value.slice none 0 0] 174)).ownsRow w.heap.size 32 1 (.slice A 0 c) 0 [] ∧ (Value.slice A 0 c).ownBlock ≠ some w1.heap.size := by
  refine ⟨hb.size, by simp, hb.alloc hb.size _, ⟨by simp, by simp, by simp, by simp, by simp⟩, ho.alloc _, fun h => ?_⟩
  have := (ho.lt _ h).2; omega

theorem heldP {P : Nat} {w u : World} {x y : Value} (hP : P < w.heap.size) (h2 : w.cell? ⟨P, 2, none⟩ = some x) (h3 : w.cell? ⟨P, 3, none⟩ = some y) (h : Below w.heap.size w u) : Below w.heap.size w u ∧ u.cell? ⟨P, 2, none⟩ = some x ∧ u.cell? ⟨P, 3, none⟩ = some y :=
  ⟨h, (h.cell (p := ⟨P, 2, none⟩) hP).trans h2, (h.cell (p := ⟨P, 3, none⟩) hP).trans h3⟩

set_option maxHeartbeats 1000000 in
set_option maxRecDepth 100000 in
theorem node_r2 {K K1 : Act → World → Prop} {R : Ending → World → Prop} (P d : Nat) (w : World) (hP : P < w.heap.size) (hd : d ≤ 8) (a2 : w.cell? ⟨P, 2, none⟩ = some (.int .u8 (d : Int))) (a3 : w.cell? ⟨P, 3, none⟩ = some (.int .u8 0))
    (u0 u1 u2 u3 u4 u6 u7 u8 u9 u10 u11 u12 u13 u14 u15 u16 u17 u18 u19 u20 u21 u22 u23 u24 u25 u26 u27 u28 u29 u30 u31 u32 u33 u34 u35 u36 u37 u38 u39 u40 u41 u42 u43 u44 u45 u46 u47 u48 u49 u50 u51 u52 u53 u54 u55 u56 u57 u58 u59 u60 u61 u62 u63 u64 u65 u66 u67 u68 u69 u70 u71 u72 u73 u74 u75 u76 u77 u78 u79 u80 u81 u82 u83 u84 u85 u86 u87 u88 u89 u90 u91 u92 u93 u94 u95 u96 u97 u98 u99 u100 u101 u102 : Value)
    (hK : Hid (∀ (v19 v20 v21 v22 v23 v24 v25 v26 v27 : Value) (B : Nat) (A : Option Addr) (c : Nat) (w' : World), w.heap.size ≤ B → B < w'.heap.size → Below w.heap.size w w' → NodeAt w' B (.slice A 0 c) → w'.ownsRow w.heap.size 32 1 (.slice A 0 c) 0 [] → (Value.slice A 0 c).ownBlock ≠ some B → K ⟨List.toArray (u0 :: u1 :: u2 :: u3 :: u4 :: (.pointer (some ⟨P, 0, none⟩)) :: u6 :: (.pointer (some ⟨B, 0, none⟩)) :: u8 :: u9 :: u10 :: u11 :: u12 :: u13 :: u14 :: u15 :: u16 :: u17 :: u18 :: v19 :: v20 :: v21 :: v22 :: v23 :: v24 :: v25 :: v26 :: v27 :: u28 :: u29 :: u30 :: u31 :: u32 :: u33 :: u34 :: u35 :: u36 :: u37 :: u38 :: u39 :: u40 :: u41 :: u42 :: u43 :: u44 :: u45 :: u46 :: u47 :: u48 :: u49 :: u50 :: u51 :: u52 :: u53 :: u54 :: u55 :: u56 :: u57 :: u58 :: u59 :: u60 :: u61 :: u62 :: u63 :: u64 :: u65 :: u66 :: u67 :: u68 :: u69 :: u70 :: u71 :: u72 :: u73 :: u74 :: u75 :: u76 :: u77 :: u78 :: u79 :: u80 :: u81 :: u82 :: u83 :: u84 :: u85 :: u86 :: u87 :: u88 :: u89 :: u90 :: u91 :: u92 :: u93 :: u94 :: u95 :: u96 :: u97 :: u98 :: u99 :: u100 :: u101 :: u102 :: []), []⟩ w')) :
    Code.wp Fagg.prog (bodyAt Fagg.f84 [1, 0, 1, 0, 0]) (Exit.then K (Exit.then K1 (bodyPost Fagg.prog Fagg.f84 R))) ⟨List.toArray (u0 :: u1 :: u2 :: u3 :: u4 :: (.pointer (some ⟨P, 0, none⟩)) :: u6 :: u7 :: u8 :: u9 :: u10 :: u11 :: u12 :: u13 :: u14 :: u15 :: u16 :: u17 :: u18 :: u19 :: u20 :: u21 :: u22 :: u23 :: u24 :: u25 :: u26 :: u27 :: u28 :: u29 :: u30 :: u31 :: u32 :: u33 :: u34 :: u35 :: u36 :: u37 :: u38 :: u39 :: u40 :: u41 :: u42 :: u43 :: u44 :: u45 :: u46 :: u47 :: u48 :: u49 :: u50 :: u51 :: u52 :: u53 :: u54 :: u55 :: u56 :: u57 :: u58 :: u59 :: u60 :: u61 :: u62 :: u63 :: u64 :: u65 :: u66 :: u67 :: u68 :: u69 :: u70 :: u71 :: u72 :: u73 :: u74 :: u75 :: u76 :: u77 :: u78 :: u79 :: u80 :: u81 :: u82 :: u83 :: u84 :: u85 :: u86 :: u87 :: u88 :: u89 :: u90 :: u91 :: u92 :: u93 :: u94 :: u95 :: u96 :: u97 :: u98 :: u99 :: u100 :: u101 :: u102 :: []), []⟩ w := by
  conv => arg 2; whnf
  have HWO1 : Hid (Calls Fagg.prog 152 #[.int .i64 (d : Int)] w.drew fun e w' => ∃ A c, e = .returned (.slice A 0 c) ∧ w'.ownsRow w.heap.size 32 1 (.slice A 0 c) 0 [] ∧ Below w.heap.size w w') := hide ((wordsR_any d w.drew hd).mono fun e w' ⟨A, c, he, ho, hb⟩ => ⟨A, c, he, ho, ((Below.refl w.heap.size w).drew).trans hb⟩)
  have HWO2 : Hid (Calls Fagg.prog 152 #[.int .i64 (d : Int)] (w.alloc (Obj.cells #[Value.int IntKind.u8 0, Value.int IntKind.u8 0, Value.slice none 0 0, Value.slice none 0 0] 174)).drew fun e w1 => ∃ A c, e = .returned (.slice A 0 c) ∧ w1.ownsRow (w.heap.size + 1) 32 1 (.slice A 0 c) 0 [] ∧ Below w.heap.size w w1 ∧ w1.cell? ⟨w.heap.size, 0, none⟩ = some (.int .u8 0) ∧ w1.cell? ⟨w.heap.size, 1, none⟩ = some (.int .u8 0) ∧ w1.cell? ⟨w.heap.size, 2, none⟩ = some (.slice none 0 0) ∧ w1.cell? ⟨w.heap.size, 3, none⟩ = some (.slice none 0 0) ∧ w1.frozen? ⟨w.heap.size, 0, none⟩ = false ∧ w1.frozen? ⟨w.heap.size, 1, none⟩ = false ∧ w1.frozen? ⟨w.heap.size, 2, none⟩ = false ∧ w1.frozen? ⟨w.heap.size, 3, none⟩ = false) := hide ((wordsR_any d (w.alloc (Obj.cells #[Value.int IntKind.u8 0, Value.int IntKind.u8 0, Value.slice none 0 0, Value.slice none 0 0] 174)).drew hd).mono fun e w1 ⟨A, c, he, ho, hb⟩ => ⟨A, c, he, own_mono ho (by simp), (((Below.refl w.heap.size w).alloc (Nat.le_refl _) _).drew).trans (hb.mono (by simp)), zcells hb⟩)
  have HKI := hide (fun W => kids0_any W)
  have wd : IntKind.i64.wrap (d : Int) = (d : Int) := by rw [IntKind.wrap_i64]; omega
  have wz : IntKind.i64.wrap 0 = 0 := by decide
  go_region_held2 (fun w' => Below w.heap.size w w' ∧ w'.cell? ⟨P, 2, none⟩ = some (.int .u8 (d : Int)) ∧ w'.cell? ⟨P, 3, none⟩ = some (.int .u8 0)) ((refine heldP hP a2 a3 ?_; first | exact (Below.refl _ _).drew | exact HB | exact HB.alloc HB.size _ | exact (((HB.setCell (Nat.le_refl _) _).setCell (Nat.le_refl _) _).setCell (Nat.le_refl _) _).setCell (Nat.le_refl _) _ | exact ((Below.refl _ _).alloc (Nat.le_refl _) _).drew)) ((first | (go_at_call 152; (try simp only [wd, wz]); with_reducible refine (unhide HWO1).mono ?_; rintro e w1 ⟨A, c, rfl, ho, HB⟩; have HO := hide ho; clear ho) | (go_at_call 152; (try simp only [wd, wz]); with_reducible refine (unhide HWO2).mono ?_; rintro e w1 ⟨A, c, rfl, ho, HB, z0, z1, z2, z3, y0, y1, y2, y3⟩; have HO := hide ho; clear ho) | (go_at_call 153; (try simp only [wd, wz]); with_reducible refine (unhide HKI _).mono ?_; rintro e w2 ⟨rfl, hw2⟩; subst hw2)))
  all_goals first
    | (obtain ⟨q1, q2, q3, q4, q5⟩ := node_fin1 HB (unhide HO) z0 z1 z2 z3 y2; exact unhide hK _ _ _ _ _ _ _ _ _ _ _ _ _ (Nat.le_refl _) q1 q2 q3 q4 q5)
    | (obtain ⟨q0, q1, q2, q3, q4, q5⟩ := node_fin2 HB (unhide HO); exact unhide hK _ _ _ _ _ _ _ _ _ _ _ _ _ q0 q1 q2 q3 q4 q5)
end Go.Proofs.Ygcfag
