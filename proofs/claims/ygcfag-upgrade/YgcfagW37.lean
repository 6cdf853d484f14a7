/-
  WALKS: a region that reads a pointer word (dbl_r10).
-/
import Derived.Test.YgcfagW35
namespace Go.Proofs.Ygcfag
open Go.RowKit
set_option linter.unusedVariables false
set_option linter.unusedSimpArgs false

set_option maxHeartbeats 4000000 in
set_option maxRecDepth 100000 in
theorem dbl_r10 {K : Act → World → Prop} {R : Ending → World → Prop} (b off n c s i L ci : Nat) (ai : Option Addr) (x : Int) (low : Int) (q : Pt) (ok : Bool) (w : World) (hsn : s < n) (hs8 : s < 8) (hcell : w.cell? ⟨b, off + s, none⟩ = some (.slice ai L ci))
    (HRW : Hid (∀ W, Below w.heap.size w W → Calls Fagg.prog 68 #[.slice ai L ci, .int .u64 x, .int .u16 (i : Int), .int .u16 low] W fun e w' => e = .returned (.tuple #[ptV q, .bool ok]) ∧ Below W.heap.size W w'))
    (HLOW : Hid (∀ W, Calls Fagg.prog 69 #[.int .u8 (s : Int)] W fun e w' => e = .returned (.int .u16 low) ∧ w' = W))
    (u1 u2 u3 u4 u5 u6 u7 u8 u9 u10 u14 u15 u16 u17 u18 u19 u20 u21 u22 u23 u24 u25 u26 u27 u28 u29 u30 u31 u32 u33 u34 u35 u36 u37 u38 u39 u40 u41 u42 u43 u44 u45 u46 u47 u48 u49 u50 u51 u52 u53 u54 u55 u56 u57 u58 u59 u60 u61 u62 u63 u64 u65 u66 u67 u68 u69 u70 u71 u72 u73 u74 u75 u76 u77 u78 u79 u80 u81 u82 u83 u84 u85 u86 u87 : Value)
    (hK : Hid (∀ (v67 v68 v69 v70 v71 v72 v73 v74 v75 v66 v76 v77 : Value) (G : Nat) (w' : World), w.heap.size ≤ G → PtAt w' G q → Below w.heap.size w w' → K ⟨List.toArray ((.slice (some ⟨b, off, none⟩) n c) :: u1 :: u2 :: u3 :: u4 :: u5 :: u6 :: u7 :: u8 :: (.bool ok) :: u10 :: (.int .u64 x) :: (.int .u8 (s : Int)) :: (.int .u16 (i : Int)) :: (.pointer (some ⟨G, 0, none⟩)) :: u15 :: u16 :: u17 :: u18 :: u19 :: u20 :: u21 :: u22 :: u23 :: u24 :: u25 :: u26 :: u27 :: u28 :: u29 :: u30 :: u31 :: u32 :: u33 :: u34 :: u35 :: u36 :: u37 :: u38 :: u39 :: u40 :: u41 :: u42 :: u43 :: u44 :: u45 :: u46 :: u47 :: u48 :: u49 :: u50 :: u51 :: u52 :: u53 :: u54 :: u55 :: u56 :: u57 :: u58 :: u59 :: u60 :: u61 :: u62 :: u63 :: u64 :: u65 :: v66 :: v67 :: v68 :: v69 :: v70 :: v71 :: v72 :: v73 :: v74 :: v75 :: v76 :: v77 :: u78 :: u79 :: u80 :: u81 :: u82 :: u83 :: u84 :: u85 :: u86 :: u87 :: []), []⟩ w')) :
    Code.wp Fagg.prog (bodyAt Fagg.f70 [1, 1, 1, 1, 1, 1, 1, 0]) (Exit.then K (bodyPost Fagg.prog Fagg.f70 R)) ⟨List.toArray ((.slice (some ⟨b, off, none⟩) n c) :: u1 :: u2 :: u3 :: u4 :: u5 :: u6 :: u7 :: u8 :: u9 :: u10 :: (.int .u64 x) :: (.int .u8 (s : Int)) :: (.int .u16 (i : Int)) :: u14 :: u15 :: u16 :: u17 :: u18 :: u19 :: u20 :: u21 :: u22 :: u23 :: u24 :: u25 :: u26 :: u27 :: u28 :: u29 :: u30 :: u31 :: u32 :: u33 :: u34 :: u35 :: u36 :: u37 :: u38 :: u39 :: u40 :: u41 :: u42 :: u43 :: u44 :: u45 :: u46 :: u47 :: u48 :: u49 :: u50 :: u51 :: u52 :: u53 :: u54 :: u55 :: u56 :: u57 :: u58 :: u59 :: u60 :: u61 :: u62 :: u63 :: u64 :: u65 :: u66 :: u67 :: u68 :: u69 :: u70 :: u71 :: u72 :: u73 :: u74 :: u75 :: u76 :: u77 :: u78 :: u79 :: u80 :: u81 :: u82 :: u83 :: u84 :: u85 :: u86 :: u87 :: []), []⟩ w := by
  conv => arg 2; whnf
  have hbw := World.block_lt_of_cell? w _ hcell
  skip
  go_region_held2 (fun w' => Below w.heap.size w w' ∧ w'.cell? ⟨b, off + s, none⟩ = some (.slice ai L ci)) ((refine held_of hcell hbw ?_; with_reducible (first | exact (Below.refl _ _).drew | exact ((Below.refl _ _).alloc (Nat.le_refl _) _).drew | exact hL | exact hL.alloc hL.size _ | exact below_set6 hL (Nat.le_refl _) _ _ _ _ _ _ | exact below_set6 hL hL.size _ _ _ _ _ _ | exact (‹Below w.heap.size w _ ∧ _›).1.drew | exact (‹Below w.heap.size w _ ∧ _›).1.alloc (‹Below w.heap.size w _ ∧ _›).1.size _ | exact (‹Below w.heap.size w _ ∧ _›).1))) (first | (go_at_call 69; with_reducible refine (unhide HLOW _).mono ?_; rintro e w1 ⟨rfl, hw1⟩; subst hw1) | (go_at_call 68; with_reducible refine (unhide HRW _ (‹Below w.heap.size w _ ∧ _›).1).mono ?_; rintro e w1 ⟨rfl, hb1⟩; have hL := (‹Below w.heap.size w _ ∧ _›).1.trans (hb1.mono (‹Below w.heap.size w _ ∧ _›).1.size); obtain ⟨hbc, hbf⟩ := bcell hb1; clear hb1; unfold ptV))
  all_goals (first | exact unhide hK _ _ _ _ _ _ _ _ _ _ _ _ w1.heap.size _ hL.size (ptAt_new w1 q) (hL.alloc hL.size _) | exact unhide hK _ _ _ _ _ _ _ _ _ _ _ _ w.heap.size _ (Nat.le_refl _) (ptAt_set q hbc) (below_set6 hL (Nat.le_refl _) _ _ _ _ _ _))
end Go.Proofs.Ygcfag
