/-
  WALKS: a region of law.ownResolve that lays its results (own_r21).
-/
import Derived.Test.YgcfagW43
import Derived.Deep.RegionHeld2
namespace Go.Proofs.Ygcfag
open Go.RowKit
set_option linter.unusedVariables false
set_option linter.unusedSimpArgs false

set_option maxHeartbeats 400000 in
set_option maxRecDepth 100000 in
theorem own_r21 {K K1 K2 : Act → World → Prop} {R : Ending → World → Prop} (A : Nat)  (w : World) (h7 : Z7 w A) (h3 : Z3 w (A + 1)) (h9 : Z3 w (A + 1 + 1)) 
    (u0 u1 u2 u3 u4 u5 u8 u10 u11 u12 u13 u14 u15 u16 u17 u18 u19 u20 u21 u22 u23 u24 u25 u26 u27 u28 u29 u30 u31 u32 u33 u34 u35 u36 u37 u38 u39 u40 u41 u42 u43 u44 u45 u46 u47 u48 u49 u50 u51 u52 u53 u54 u55 u56 u57 u58 u59 u60 u61 u62 u63 u64 u65 u66 u67 u68 u69 u70 u71 u72 u73 u74 u75 u76 u77 u78 u79 u80 u81 u82 u83 u84 u85 u86 u87 u88 u89 u90 u91 u92 u93 u94 u95 u96 u97 u98 u99 u100 u101 u102 u103 u104 u105 u106 u107 u108 u109 u110 u111 u112 u113 u114 u115 u116 u117 u118 u119 u120 u121 u122 u123 u124 u125 u126 u127 u128 u129 u130 u131 u132 u133 u134 u135 u136 u137 u138 u139 u140 u141 u142 u143 u144 u145 u146 u147 u148 u149 u150 u151 u152 u153 u154 : Value)
    (hK : Hid (∀ (v142 v143 : Value) (w' : World), R7 w' A 0 Pt.nil → R3 w' (A + 1) 0 0 0 → Below A w w' → K ⟨List.toArray (u0 :: u1 :: u2 :: u3 :: u4 :: u5 :: (.pointer (some ⟨A, 0, none⟩)) :: (.pointer (some ⟨A + 1, 0, none⟩)) :: (.bool false) :: (.pointer (some ⟨A + 1 + 1, 0, none⟩)) :: u10 :: u11 :: u12 :: u13 :: u14 :: u15 :: u16 :: u17 :: u18 :: u19 :: u20 :: u21 :: u22 :: u23 :: u24 :: u25 :: u26 :: u27 :: u28 :: u29 :: u30 :: u31 :: u32 :: u33 :: u34 :: u35 :: u36 :: u37 :: u38 :: u39 :: u40 :: u41 :: u42 :: u43 :: u44 :: u45 :: u46 :: u47 :: u48 :: u49 :: u50 :: u51 :: u52 :: u53 :: u54 :: u55 :: u56 :: u57 :: u58 :: u59 :: u60 :: u61 :: u62 :: u63 :: u64 :: u65 :: u66 :: u67 :: u68 :: u69 :: u70 :: u71 :: u72 :: u73 :: u74 :: u75 :: u76 :: u77 :: u78 :: u79 :: u80 :: u81 :: u82 :: u83 :: u84 :: u85 :: u86 :: u87 :: u88 :: u89 :: u90 :: u91 :: u92 :: u93 :: u94 :: u95 :: u96 :: u97 :: u98 :: u99 :: u100 :: u101 :: u102 :: u103 :: u104 :: u105 :: u106 :: u107 :: u108 :: u109 :: u110 :: u111 :: u112 :: u113 :: u114 :: u115 :: u116 :: u117 :: u118 :: u119 :: u120 :: u121 :: u122 :: u123 :: u124 :: u125 :: u126 :: u127 :: u128 :: u129 :: u130 :: u131 :: u132 :: u133 :: u134 :: u135 :: u136 :: u137 :: u138 :: u139 :: u140 :: u141 :: v142 :: v143 :: u144 :: u145 :: u146 :: u147 :: u148 :: u149 :: u150 :: u151 :: u152 :: u153 :: u154 :: []), []⟩ w')) :
    Code.wp Fagg.prog (bodyAt Fagg.f29 [1, 1, 1, 1, 1, 1, 1, 1, 1, 1, 0, 1, 0, 0]) (Exit.then K (Exit.then K1 (bodyPost Fagg.prog Fagg.f29 R))) ⟨List.toArray (u0 :: u1 :: u2 :: u3 :: u4 :: u5 :: (.pointer (some ⟨A, 0, none⟩)) :: (.pointer (some ⟨A + 1, 0, none⟩)) :: u8 :: (.pointer (some ⟨A + 1 + 1, 0, none⟩)) :: u10 :: u11 :: u12 :: u13 :: u14 :: u15 :: u16 :: u17 :: u18 :: u19 :: u20 :: u21 :: u22 :: u23 :: u24 :: u25 :: u26 :: u27 :: u28 :: u29 :: u30 :: u31 :: u32 :: u33 :: u34 :: u35 :: u36 :: u37 :: u38 :: u39 :: u40 :: u41 :: u42 :: u43 :: u44 :: u45 :: u46 :: u47 :: u48 :: u49 :: u50 :: u51 :: u52 :: u53 :: u54 :: u55 :: u56 :: u57 :: u58 :: u59 :: u60 :: u61 :: u62 :: u63 :: u64 :: u65 :: u66 :: u67 :: u68 :: u69 :: u70 :: u71 :: u72 :: u73 :: u74 :: u75 :: u76 :: u77 :: u78 :: u79 :: u80 :: u81 :: u82 :: u83 :: u84 :: u85 :: u86 :: u87 :: u88 :: u89 :: u90 :: u91 :: u92 :: u93 :: u94 :: u95 :: u96 :: u97 :: u98 :: u99 :: u100 :: u101 :: u102 :: u103 :: u104 :: u105 :: u106 :: u107 :: u108 :: u109 :: u110 :: u111 :: u112 :: u113 :: u114 :: u115 :: u116 :: u117 :: u118 :: u119 :: u120 :: u121 :: u122 :: u123 :: u124 :: u125 :: u126 :: u127 :: u128 :: u129 :: u130 :: u131 :: u132 :: u133 :: u134 :: u135 :: u136 :: u137 :: u138 :: u139 :: u140 :: u141 :: u142 :: u143 :: u144 :: u145 :: u146 :: u147 :: u148 :: u149 :: u150 :: u151 :: u152 :: u153 :: u154 :: []), []⟩ w := by
  conv => arg 2; whnf
  obtain ⟨a0, a1, a2, a3, a4, a5, a6, e0, e1, e2, e3, e4, e5, e6⟩ := id h7
  obtain ⟨z0, z1, z2, y0, y1, y2⟩ := id h3
  skip
  go_region_held2 (fun w' => Else A w w' ∧ w'.cell? ⟨A + 1 + 1, 0, none⟩ = some (.int .u8 0) ∧ w'.cell? ⟨A + 1 + 1, 1, none⟩ = some (.int .u16 0) ∧ w'.cell? ⟨A + 1 + 1, 2, none⟩ = some (.int .u8 0)) ((refine else_9 h9 (else_drew ⟨fun b h1 h2 => ?_⟩); simp [Below.heap_setCell, h1, h2])) (fail)
  skip
  exact unhide hK _ _ _ (laid_73 h7 h3 0 Pt.nil 0 0 0).1.drew (laid_73 h7 h3 0 Pt.nil 0 0 0).2.drew (below_set73 (Below.refl _ _) (Nat.le_refl _) (by omega) _ _ _ _ _ _ _ _ _ _).drew
end Go.Proofs.Ygcfag
