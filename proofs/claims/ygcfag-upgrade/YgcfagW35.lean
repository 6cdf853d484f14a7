/-
  WALKS: seg.Resolve: its regions that call wire.ResolveWord.
-/
import Derived.Test.YgcfagW34
import Derived.Deep.RegionHeld2
namespace Go.Proofs.Ygcfag
open Go.RowKit
set_option linter.unusedVariables false
set_option linter.unusedSimpArgs false

def ptGet (o : Option Pt) : Pt := o.getD Pt.nil
theorem ptRes_eq (o : Option Pt) : ptRes o = .tuple #[ptV (ptGet o), .bool o.isSome] := by cases o <;> rfl

/-- The object at block G is the pointer q. -/
structure PtAt (w : World) (G : Nat) (q : Pt) : Prop where
  c0 : w.cell? ⟨G, 0, none⟩ = some (.int .u8 q.kind)
  c1 : w.cell? ⟨G, 1, none⟩ = some (.int .u16 q.at_)
  c2 : w.cell? ⟨G, 2, none⟩ = some (.int .u8 q.data)
  c3 : w.cell? ⟨G, 3, none⟩ = some (.int .u8 q.ptrs)
  c4 : w.cell? ⟨G, 4, none⟩ = some (.int .u8 q.code)
  c5 : w.cell? ⟨G, 5, none⟩ = some (.int .u16 q.count)

theorem ptAt_new (w : World) (q : Pt) : PtAt (w.alloc (Obj.cells #[Value.int IntKind.u8 q.kind, Value.int IntKind.u16 q.at_, Value.int IntKind.u8 q.data, Value.int IntKind.u8 q.ptrs, Value.int IntKind.u8 q.code, Value.int IntKind.u16 q.count] 58)) w.heap.size q :=
  ⟨by simp, by simp, by simp, by simp, by simp, by simp⟩
theorem ptAt_set {w w1 : World} (q : Pt) (h : ∀ b o, b < ((w.alloc (Obj.cells #[Value.int IntKind.u8 0, Value.int IntKind.u16 0, Value.int IntKind.u8 0, Value.int IntKind.u8 0, Value.int IntKind.u8 0, Value.int IntKind.u16 0] 58)).drew).heap.size → w1.cell? ⟨b, o, none⟩ = ((w.alloc (Obj.cells #[Value.int IntKind.u8 0, Value.int IntKind.u16 0, Value.int IntKind.u8 0, Value.int IntKind.u8 0, Value.int IntKind.u8 0, Value.int IntKind.u16 0] 58)).drew).cell? ⟨b, o, none⟩) :
    PtAt ((((((w1.setCell ⟨w.heap.size, 0, none⟩ (.int .u8 q.kind)).setCell ⟨w.heap.size, 1, none⟩ (.int .u16 q.at_)).setCell ⟨w.heap.size, 2, none⟩ (.int .u8 q.data)).setCell ⟨w.heap.size, 3, none⟩ (.int .u8 q.ptrs)).setCell ⟨w.heap.size, 4, none⟩ (.int .u8 q.code)).setCell ⟨w.heap.size, 5, none⟩ (.int .u16 q.count)) w.heap.size q := by
  have hc := fun o => h w.heap.size o (by simp)
  exact ⟨by simp [go_sem, hc], by simp [go_sem, hc], by simp [go_sem, hc], by simp [go_sem, hc], by simp [go_sem, hc], by simp [go_sem, hc]⟩

theorem held_of {w w' : World} {b o : Nat} {v : Value} (hc : w.cell? ⟨b, o, none⟩ = some v) (hb : b < w.heap.size) (h : Below w.heap.size w w') : Below w.heap.size w w' ∧ w'.cell? ⟨b, o, none⟩ = some v := ⟨h, (h.cell (p := ⟨b, o, none⟩) hb).trans hc⟩

set_option maxHeartbeats 400000 in
set_option maxRecDepth 100000 in
theorem res_r5 {K K1 : Act → World → Prop} {R : Ending → World → Prop} (b off n c s i L ci : Nat) (ai : Option Addr) (x low : Int) (q : Pt) (ok : Bool) (w : World) (hsn : s < n) (hs8 : s < 8) (hi : i < 256) (hcell : w.cell? ⟨b, off + s, none⟩ = some (.slice ai L ci))
    (HRW : Hid (∀ W, Below w.heap.size w W → Calls Fagg.prog 68 #[.slice ai L ci, .int .u64 x, .int .u16 (IntKind.u16.wrap ((i : Int) + 1)), .int .u16 low] W fun e w' => e = .returned (.tuple #[ptV q, .bool ok]) ∧ Below W.heap.size W w'))
    (HLOW : Hid (∀ W, Calls Fagg.prog 69 #[.int .u8 (s : Int)] W fun e w' => e = .returned (.int .u16 low) ∧ w' = W))
    (u3 u4 u5 u6 u7 u8 u10 u11 u12 u13 u14 u15 u16 u17 u18 u19 u20 u21 u22 u23 u24 u25 u26 u27 u28 u29 u30 u31 u32 u33 u34 u35 u36 u37 u38 u39 u40 u41 u42 u43 u44 u45 u46 u47 u48 u49 u50 u51 u52 u53 u54 u55 u56 u57 u58 u59 u60 u61 u62 u63 u64 u65 u66 u67 u68 u69 u70 u71 u72 u73 u74 u75 u76 u77 u78 u79 u80 u81 u82 u83 u84 u85 u86 u87 u88 u89 u90 u91 u92 u93 u94 u95 u96 u97 u98 u99 u100 u101 u102 u103 u104 u105 u106 u107 u108 u109 u110 u111 u112 u113 u114 u115 u116 u117 u118 u119 u120 u121 u122 u123 u124 u125 u126 u127 u128 u129 u130 u131 u132 u133 : Value)
    (hK : Hid (∀ (v49 v50 v51 v52 v53 v54 v55 v56 v57 v58 v48 v59 v60 : Value) (G : Nat) (w' : World), w.heap.size ≤ G → PtAt w' G q → Below w.heap.size w w' → K ⟨List.toArray ((.slice (some ⟨b, off, none⟩) n c) :: (.int .u8 (s : Int)) :: (.int .u16 (i : Int)) :: u3 :: u4 :: u5 :: u6 :: u7 :: u8 :: (.int .u64 x) :: (.pointer (some ⟨G, 0, none⟩)) :: (.bool ok) :: u12 :: u13 :: u14 :: u15 :: u16 :: u17 :: u18 :: u19 :: u20 :: u21 :: u22 :: u23 :: u24 :: u25 :: u26 :: u27 :: u28 :: u29 :: u30 :: u31 :: u32 :: u33 :: u34 :: u35 :: u36 :: u37 :: u38 :: u39 :: u40 :: u41 :: u42 :: u43 :: u44 :: u45 :: u46 :: u47 :: v48 :: v49 :: v50 :: v51 :: v52 :: v53 :: v54 :: v55 :: v56 :: v57 :: v58 :: v59 :: v60 :: u61 :: u62 :: u63 :: u64 :: u65 :: u66 :: u67 :: u68 :: u69 :: u70 :: u71 :: u72 :: u73 :: u74 :: u75 :: u76 :: u77 :: u78 :: u79 :: u80 :: u81 :: u82 :: u83 :: u84 :: u85 :: u86 :: u87 :: u88 :: u89 :: u90 :: u91 :: u92 :: u93 :: u94 :: u95 :: u96 :: u97 :: u98 :: u99 :: u100 :: u101 :: u102 :: u103 :: u104 :: u105 :: u106 :: u107 :: u108 :: u109 :: u110 :: u111 :: u112 :: u113 :: u114 :: u115 :: u116 :: u117 :: u118 :: u119 :: u120 :: u121 :: u122 :: u123 :: u124 :: u125 :: u126 :: u127 :: u128 :: u129 :: u130 :: u131 :: u132 :: u133 :: []), []⟩ w')) :
    Code.wp Fagg.prog (bodyAt Fagg.f27 [1, 1, 1, 0, 1, 0, 0]) (Exit.then K (Exit.then K1 (bodyPost Fagg.prog Fagg.f27 R))) ⟨List.toArray ((.slice (some ⟨b, off, none⟩) n c) :: (.int .u8 (s : Int)) :: (.int .u16 (i : Int)) :: u3 :: u4 :: u5 :: u6 :: u7 :: u8 :: (.int .u64 x) :: u10 :: u11 :: u12 :: u13 :: u14 :: u15 :: u16 :: u17 :: u18 :: u19 :: u20 :: u21 :: u22 :: u23 :: u24 :: u25 :: u26 :: u27 :: u28 :: u29 :: u30 :: u31 :: u32 :: u33 :: u34 :: u35 :: u36 :: u37 :: u38 :: u39 :: u40 :: u41 :: u42 :: u43 :: u44 :: u45 :: u46 :: u47 :: u48 :: u49 :: u50 :: u51 :: u52 :: u53 :: u54 :: u55 :: u56 :: u57 :: u58 :: u59 :: u60 :: u61 :: u62 :: u63 :: u64 :: u65 :: u66 :: u67 :: u68 :: u69 :: u70 :: u71 :: u72 :: u73 :: u74 :: u75 :: u76 :: u77 :: u78 :: u79 :: u80 :: u81 :: u82 :: u83 :: u84 :: u85 :: u86 :: u87 :: u88 :: u89 :: u90 :: u91 :: u92 :: u93 :: u94 :: u95 :: u96 :: u97 :: u98 :: u99 :: u100 :: u101 :: u102 :: u103 :: u104 :: u105 :: u106 :: u107 :: u108 :: u109 :: u110 :: u111 :: u112 :: u113 :: u114 :: u115 :: u116 :: u117 :: u118 :: u119 :: u120 :: u121 :: u122 :: u123 :: u124 :: u125 :: u126 :: u127 :: u128 :: u129 :: u130 :: u131 :: u132 :: u133 :: []), []⟩ w := by
  conv => arg 2; whnf
  have hbw := World.block_lt_of_cell? w _ hcell
  go_region_held2 (fun w' => Below w.heap.size w w' ∧ w'.cell? ⟨b, off + s, none⟩ = some (.slice ai L ci)) ((refine held_of hcell hbw ?_; with_reducible (first | exact (Below.refl _ _).drew | exact ((Below.refl _ _).alloc (Nat.le_refl _) _).drew | exact hL | exact hL.alloc hL.size _ | exact below_set6 hL (Nat.le_refl _) _ _ _ _ _ _ | exact below_set6 hL hL.size _ _ _ _ _ _ | exact (‹Below w.heap.size w _ ∧ _›).1.drew | exact (‹Below w.heap.size w _ ∧ _›).1.alloc (‹Below w.heap.size w _ ∧ _›).1.size _ | exact below_set6 (‹Below w.heap.size w _ ∧ _›).1 (Nat.le_refl _) _ _ _ _ _ _ | exact below_set6 (‹Below w.heap.size w _ ∧ _›).1 (‹Below w.heap.size w _ ∧ _›).1.size _ _ _ _ _ _ | exact (‹Below w.heap.size w _ ∧ _›).1))) (first | (go_at_call 69; with_reducible refine (unhide HLOW _).mono ?_; rintro e w1 ⟨rfl, hw1⟩; subst hw1) | (go_at_call 68; with_reducible refine (unhide HRW _ (‹Below w.heap.size w _ ∧ _›).1).mono ?_; rintro e w1 ⟨rfl, hb1⟩; have hL := (‹Below w.heap.size w _ ∧ _›).1.trans (hb1.mono (‹Below w.heap.size w _ ∧ _›).1.size); obtain ⟨hbc, hbf⟩ := bcell hb1; clear hb1; unfold ptV))
  all_goals (first | exact unhide hK _ _ _ _ _ _ _ _ _ _ _ _ _ w1.heap.size _ hL.size (ptAt_new w1 q) (hL.alloc hL.size _) | exact unhide hK _ _ _ _ _ _ _ _ _ _ _ _ _ w.heap.size _ (Nat.le_refl _) (ptAt_set q hbc) (below_set6 hL (Nat.le_refl _) _ _ _ _ _ _))
end Go.Proofs.Ygcfag
