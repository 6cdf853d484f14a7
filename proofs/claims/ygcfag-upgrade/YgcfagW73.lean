/-
  WALKS: smodel.visit behind Resolve.
-/
import Derived.Test.YgcfagW72
namespace Go.Proofs.Ygcfag
open Go.RowKit
set_option linter.unusedVariables false
set_option linter.unusedSimpArgs false

set_option maxHeartbeats 1000000 in
set_option maxRecDepth 100000 in
theorem vis_mid_z {R : Ending → World → Prop} (g b A A2 l sg kd at_ d p cd cnt ps pa pw tg wq : Nat) (vm : Value) (L L1 L2 : List (Nat × Nat × Nat)) (w : World) (hA : A < w.heap.size) (hAg : A ≠ g) (hAb : A ≠ b) (hA2 : A2 < w.heap.size) (hA2g : A2 ≠ g) (hA2b : A2 ≠ b) (a0 : w.cell? ⟨A, 0, none⟩ = some (.int .u8 (sg : Int))) (a1 : w.cell? ⟨A, 1, none⟩ = some (.int .u8 (kd : Int))) (a2 : w.cell? ⟨A, 2, none⟩ = some (.int .u16 (at_ : Int))) (a3 : w.cell? ⟨A, 3, none⟩ = some (.int .u8 (d : Int))) (a4 : w.cell? ⟨A, 4, none⟩ = some (.int .u8 (p : Int))) (a5 : w.cell? ⟨A, 5, none⟩ = some (.int .u8 (cd : Int))) (a6 : w.cell? ⟨A, 6, none⟩ = some (.int .u16 (cnt : Int))) (a7 : w.cell? ⟨A2, 0, none⟩ = some (.int .u8 (ps : Int))) (a8 : w.cell? ⟨A2, 1, none⟩ = some (.int .u16 (pa : Int))) (a9 : w.cell? ⟨A2, 2, none⟩ = some (.int .u8 (pw : Int))) (hseen : SeenAt w g b L) (hat : at_ ≤ 256) (hd : d ≤ 8) (hp : p ≤ 8) (hpa : pa ≤ 65535) (hpw : pw ≤ 255) (hwq : wq ≤ 65535) (htg : (cd = 7 ∧ tg = 1) ∨ (cd ≠ 7 ∧ tg = 0)) 
    (hF : Hid (∀ (w' : World) (b' : Nat), SeenStep g b b' w w' → R (.returned (.bool false)) w'))
    (u1 u2 u5 u6 u7 u8 u9 u10 u13 u14 u15 u16 u17 u18 u19 u20 u21 u22 u23 u24 u25 u26 u27 u28 u29 u30 u31 u32 u33 u34 u35 u36 u37 u38 u39 u40 u41 u42 u43 u44 u45 u46 u47 u48 u49 u50 u51 u52 u53 u54 u55 u56 u57 u58 u59 u60 u61 u62 u63 u64 u65 u66 u67 u68 u69 u70 u71 u72 u73 u74 u75 u76 u77 u78 u79 u80 u81 u82 u83 u84 u85 u86 u87 u88 u89 u90 u91 u92 u93 u94 u95 u96 u97 u98 u99 u100 u101 u102 u103 u104 u105 u106 u107 u108 u109 u110 u111 u112 u113 u114 u115 u116 u117 u118 u119 u120 u121 u122 u123 u124 u125 u126 u127 u128 u129 u130 u131 u132 u133 u134 u135 u136 u137 u138 u139 u140 : Value) :
    Code.wp Fagg.prog (bodyAt Fagg.f80 [1, 1, 1, 1]) (bodyPost Fagg.prog Fagg.f80 R) ⟨List.toArray (vm :: u1 :: u2 :: (.int .i64 0) :: (.pointer (some ⟨g, 0, none⟩)) :: u5 :: u6 :: u7 :: u8 :: u9 :: u10 :: (.pointer (some ⟨A, 0, none⟩)) :: (.pointer (some ⟨A2, 0, none⟩)) :: u13 :: u14 :: u15 :: u16 :: u17 :: u18 :: u19 :: u20 :: u21 :: u22 :: u23 :: u24 :: u25 :: u26 :: u27 :: u28 :: u29 :: u30 :: u31 :: u32 :: u33 :: u34 :: u35 :: u36 :: u37 :: u38 :: u39 :: u40 :: u41 :: u42 :: u43 :: u44 :: u45 :: u46 :: u47 :: u48 :: u49 :: u50 :: u51 :: u52 :: u53 :: u54 :: u55 :: u56 :: u57 :: u58 :: u59 :: u60 :: u61 :: u62 :: u63 :: u64 :: u65 :: u66 :: u67 :: u68 :: u69 :: u70 :: u71 :: u72 :: u73 :: u74 :: u75 :: u76 :: u77 :: u78 :: u79 :: u80 :: u81 :: u82 :: u83 :: u84 :: u85 :: u86 :: u87 :: u88 :: u89 :: u90 :: u91 :: u92 :: u93 :: u94 :: u95 :: u96 :: u97 :: u98 :: u99 :: u100 :: u101 :: u102 :: u103 :: u104 :: u105 :: u106 :: u107 :: u108 :: u109 :: u110 :: u111 :: u112 :: u113 :: u114 :: u115 :: u116 :: u117 :: u118 :: u119 :: u120 :: u121 :: u122 :: u123 :: u124 :: u125 :: u126 :: u127 :: u128 :: u129 :: u130 :: u131 :: u132 :: u133 :: u134 :: u135 :: u136 :: u137 :: u138 :: u139 :: u140 :: []), []⟩ w := by
  conv => arg 2; whnf
  have HSEEN := hide hseen
  clear hseen
  go_wp2_with fail
  go_quiet (fail)
  have hb1 : Below w.heap.size w (w.drewN nq) := bel_drewN (Below.refl _ _) nq
  have c0 := (hb1.cell (p := ⟨A, 0, none⟩) (by show A < _; omega)).trans a0
  have c1 := (hb1.cell (p := ⟨A, 1, none⟩) (by show A < _; omega)).trans a1
  have c2 := (hb1.cell (p := ⟨A, 2, none⟩) (by show A < _; omega)).trans a2
  have c3 := (hb1.cell (p := ⟨A, 3, none⟩) (by show A < _; omega)).trans a3
  have c4 := (hb1.cell (p := ⟨A, 4, none⟩) (by show A < _; omega)).trans a4
  have c5 := (hb1.cell (p := ⟨A, 5, none⟩) (by show A < _; omega)).trans a5
  have c6 := (hb1.cell (p := ⟨A, 6, none⟩) (by show A < _; omega)).trans a6
  have c7 := (hb1.cell (p := ⟨A2, 0, none⟩) (by show A2 < _; omega)).trans a7
  have c8 := (hb1.cell (p := ⟨A2, 1, none⟩) (by show A2 < _; omega)).trans a8
  have c9 := (hb1.cell (p := ⟨A2, 2, none⟩) (by show A2 < _; omega)).trans a9
  have HS1 := hide ((unhide HSEEN).below hb1)
  have hz1 : w.heap.size ≤ (w.drewN nq).heap.size := hb1.size
  have HBL := hide hb1
  clear hb1
  generalize w.drewN nq = w1 at *
  clear a0 a1 a2 a3 a4 a5 a6 a7 a8 a9
  rcases htg with ⟨h7, ht⟩ | ⟨h7, ht⟩
  · have e7 : ((cd : Int) == 7) = true := by simp [h7]
    subst ht
    clear h7
    go_wp2_with fail
    refine vis_r10_z g b A A2 0 (sg : Int) (ps : Int) (pa : Int) (pw : Int) _ (1 : Int) (wq : Int) ⟨(kd : Int), (at_ : Int), (d : Int), (p : Int), (cd : Int), (cnt : Int)⟩ L L1 L2 w1 (by omega) hAg hAb (by omega) hA2g hA2b c0 c1 c2 c3 c4 c5 c6 c7 c8 c9 (unhide HS1) (by omega) (by omega) (by omega) (by omega) (by omega)  _ _ _ _ _ _ _ _ _ _ _ _ _ _ _ _ _ _ _ _ _ _ _ _ _ _ _ _ _ _ _ _ _ _ _ _ _ _ _ _ _ _ _ _ _ _ _ _ _ _ _ _ _ _ _ _ _ _ _ _ _ _ _ _ _ _ _ _ _ _ _ _ _ _ _ _ _ _ _ _ _ _ _ _ _ _ _ _ _ _ _ _ _ _ _ _ _ _ _ _ _ _ _ _ _ _ _ _ _ _ _ _ _ _ _ _ _ _ _ _ _ _ _ _ _ _ _ _ _ _ _ _ _ _ _ (hide ?_)
    intro v54 v55 v56 v57 v58 v59 v60 v61 v62 v63 v64 v65 v66 v67 v68 v69 v70 v71 v72 v73 v74 v75 v76 v77 v78 v79 v80 v81 w2 b2 hst hse
    have HST := hide ((SeenStep.of_below (unhide HBL)).trans hst)
    clear hst hse
    go_wp2_with fail
    exact unhide hF _ _ (unhide HST)
  · have e7 : ((cd : Int) == 7) = false := by simp; omega
    subst ht
    clear h7
    go_wp2_with fail
    refine vis_r10_z g b A A2 0 (sg : Int) (ps : Int) (pa : Int) (pw : Int) _ (0 : Int) (wq : Int) ⟨(kd : Int), (at_ : Int), (d : Int), (p : Int), (cd : Int), (cnt : Int)⟩ L L1 L2 w1 (by omega) hAg hAb (by omega) hA2g hA2b c0 c1 c2 c3 c4 c5 c6 c7 c8 c9 (unhide HS1) (by omega) (by omega) (by omega) (by omega) (by omega)  _ _ _ _ _ _ _ _ _ _ _ _ _ _ _ _ _ _ _ _ _ _ _ _ _ _ _ _ _ _ _ _ _ _ _ _ _ _ _ _ _ _ _ _ _ _ _ _ _ _ _ _ _ _ _ _ _ _ _ _ _ _ _ _ _ _ _ _ _ _ _ _ _ _ _ _ _ _ _ _ _ _ _ _ _ _ _ _ _ _ _ _ _ _ _ _ _ _ _ _ _ _ _ _ _ _ _ _ _ _ _ _ _ _ _ _ _ _ _ _ _ _ _ _ _ _ _ _ _ _ _ _ _ _ _ (hide ?_)
    intro v54 v55 v56 v57 v58 v59 v60 v61 v62 v63 v64 v65 v66 v67 v68 v69 v70 v71 v72 v73 v74 v75 v76 v77 v78 v79 v80 v81 w2 b2 hst hse
    have HST := hide ((SeenStep.of_below (unhide HBL)).trans hst)
    clear hst hse
    go_wp2_with fail
    exact unhide hF _ _ (unhide HST)

set_option maxHeartbeats 1000000 in
set_option maxRecDepth 100000 in
theorem vis_mid_1 {R : Ending → World → Prop} (g b A A2 l sg kd at_ d p cd cnt ps pa pw tg wq : Nat) (vm : Value) (L L1 L2 : List (Nat × Nat × Nat)) (w : World) (hA : A < w.heap.size) (hAg : A ≠ g) (hAb : A ≠ b) (hA2 : A2 < w.heap.size) (hA2g : A2 ≠ g) (hA2b : A2 ≠ b) (a0 : w.cell? ⟨A, 0, none⟩ = some (.int .u8 (sg : Int))) (a1 : w.cell? ⟨A, 1, none⟩ = some (.int .u8 (kd : Int))) (a2 : w.cell? ⟨A, 2, none⟩ = some (.int .u16 (at_ : Int))) (a3 : w.cell? ⟨A, 3, none⟩ = some (.int .u8 (d : Int))) (a4 : w.cell? ⟨A, 4, none⟩ = some (.int .u8 (p : Int))) (a5 : w.cell? ⟨A, 5, none⟩ = some (.int .u8 (cd : Int))) (a6 : w.cell? ⟨A, 6, none⟩ = some (.int .u16 (cnt : Int))) (a7 : w.cell? ⟨A2, 0, none⟩ = some (.int .u8 (ps : Int))) (a8 : w.cell? ⟨A2, 1, none⟩ = some (.int .u16 (pa : Int))) (a9 : w.cell? ⟨A2, 2, none⟩ = some (.int .u8 (pw : Int))) (hseen : SeenAt w g b L) (hat : at_ ≤ 256) (hd : d ≤ 8) (hp : p ≤ 8) (hpa : pa ≤ 65535) (hpw : pw ≤ 255) (hwq : wq ≤ 65535) (htg : (cd = 7 ∧ tg = 1) ∨ (cd ≠ 7 ∧ tg = 0)) (hl : 1 ≤ l) (hl8 : l ≤ 8) (HG1 : Hid (∀ W, Below w.heap.size w W → Calls Fagg.prog 148 #[.int .u8 (ps : Int), .int .i64 (pa : Int), .int .i64 (pw : Int), .pointer (some ⟨g, 0, none⟩)] W fun e w' => e = .returned (.bool false) ∧ Below W.heap.size W w'))
    (hF : Hid (∀ (w' : World) (b' : Nat), SeenStep g b b' w w' → R (.returned (.bool false)) w'))
    (u1 u2 u5 u6 u7 u8 u9 u10 u13 u14 u15 u16 u17 u18 u19 u20 u21 u22 u23 u24 u25 u26 u27 u28 u29 u30 u31 u32 u33 u34 u35 u36 u37 u38 u39 u40 u41 u42 u43 u44 u45 u46 u47 u48 u49 u50 u51 u52 u53 u54 u55 u56 u57 u58 u59 u60 u61 u62 u63 u64 u65 u66 u67 u68 u69 u70 u71 u72 u73 u74 u75 u76 u77 u78 u79 u80 u81 u82 u83 u84 u85 u86 u87 u88 u89 u90 u91 u92 u93 u94 u95 u96 u97 u98 u99 u100 u101 u102 u103 u104 u105 u106 u107 u108 u109 u110 u111 u112 u113 u114 u115 u116 u117 u118 u119 u120 u121 u122 u123 u124 u125 u126 u127 u128 u129 u130 u131 u132 u133 u134 u135 u136 u137 u138 u139 u140 : Value) :
    Code.wp Fagg.prog (bodyAt Fagg.f80 [1, 1, 1, 1]) (bodyPost Fagg.prog Fagg.f80 R) ⟨List.toArray (vm :: u1 :: u2 :: (.int .i64 (l : Int)) :: (.pointer (some ⟨g, 0, none⟩)) :: u5 :: u6 :: u7 :: u8 :: u9 :: u10 :: (.pointer (some ⟨A, 0, none⟩)) :: (.pointer (some ⟨A2, 0, none⟩)) :: u13 :: u14 :: u15 :: u16 :: u17 :: u18 :: u19 :: u20 :: u21 :: u22 :: u23 :: u24 :: u25 :: u26 :: u27 :: u28 :: u29 :: u30 :: u31 :: u32 :: u33 :: u34 :: u35 :: u36 :: u37 :: u38 :: u39 :: u40 :: u41 :: u42 :: u43 :: u44 :: u45 :: u46 :: u47 :: u48 :: u49 :: u50 :: u51 :: u52 :: u53 :: u54 :: u55 :: u56 :: u57 :: u58 :: u59 :: u60 :: u61 :: u62 :: u63 :: u64 :: u65 :: u66 :: u67 :: u68 :: u69 :: u70 :: u71 :: u72 :: u73 :: u74 :: u75 :: u76 :: u77 :: u78 :: u79 :: u80 :: u81 :: u82 :: u83 :: u84 :: u85 :: u86 :: u87 :: u88 :: u89 :: u90 :: u91 :: u92 :: u93 :: u94 :: u95 :: u96 :: u97 :: u98 :: u99 :: u100 :: u101 :: u102 :: u103 :: u104 :: u105 :: u106 :: u107 :: u108 :: u109 :: u110 :: u111 :: u112 :: u113 :: u114 :: u115 :: u116 :: u117 :: u118 :: u119 :: u120 :: u121 :: u122 :: u123 :: u124 :: u125 :: u126 :: u127 :: u128 :: u129 :: u130 :: u131 :: u132 :: u133 :: u134 :: u135 :: u136 :: u137 :: u138 :: u139 :: u140 :: []), []⟩ w := by
  conv => arg 2; whnf
  have HSEEN := hide hseen
  clear hseen
  go_wp2_with fail
  go_quiet (fail)
  have hb1 : Below w.heap.size w (w.drewN nq) := bel_drewN (Below.refl _ _) nq
  have c0 := (hb1.cell (p := ⟨A, 0, none⟩) (by show A < _; omega)).trans a0
  have c1 := (hb1.cell (p := ⟨A, 1, none⟩) (by show A < _; omega)).trans a1
  have c2 := (hb1.cell (p := ⟨A, 2, none⟩) (by show A < _; omega)).trans a2
  have c3 := (hb1.cell (p := ⟨A, 3, none⟩) (by show A < _; omega)).trans a3
  have c4 := (hb1.cell (p := ⟨A, 4, none⟩) (by show A < _; omega)).trans a4
  have c5 := (hb1.cell (p := ⟨A, 5, none⟩) (by show A < _; omega)).trans a5
  have c6 := (hb1.cell (p := ⟨A, 6, none⟩) (by show A < _; omega)).trans a6
  have c7 := (hb1.cell (p := ⟨A2, 0, none⟩) (by show A2 < _; omega)).trans a7
  have c8 := (hb1.cell (p := ⟨A2, 1, none⟩) (by show A2 < _; omega)).trans a8
  have c9 := (hb1.cell (p := ⟨A2, 2, none⟩) (by show A2 < _; omega)).trans a9
  have HS1 := hide ((unhide HSEEN).below hb1)
  have hz1 : w.heap.size ≤ (w.drewN nq).heap.size := hb1.size
  have HBL := hide hb1
  clear hb1
  generalize w.drewN nq = w1 at *
  clear a0 a1 a2 a3 a4 a5 a6 a7 a8 a9
  rcases htg with ⟨h7, ht⟩ | ⟨h7, ht⟩
  · have e7 : ((cd : Int) == 7) = true := by simp [h7]
    subst ht
    clear h7
    go_wp2_with fail
    refine vis_r10_1 g b A A2 l (sg : Int) (ps : Int) (pa : Int) (pw : Int) _ (1 : Int) (wq : Int) ⟨(kd : Int), (at_ : Int), (d : Int), (p : Int), (cd : Int), (cnt : Int)⟩ L L1 L2 w1 (by omega) hAg hAb (by omega) hA2g hA2b c0 c1 c2 c3 c4 c5 c6 c7 c8 c9 (unhide HS1) (by omega) (by omega) (by omega) (by omega) (by omega) hl (hide (fun W hW => unhide HG1 W ((unhide HBL).trans (hW.mono hz1)))) _ _ _ _ _ _ _ _ _ _ _ _ _ _ _ _ _ _ _ _ _ _ _ _ _ _ _ _ _ _ _ _ _ _ _ _ _ _ _ _ _ _ _ _ _ _ _ _ _ _ _ _ _ _ _ _ _ _ _ _ _ _ _ _ _ _ _ _ _ _ _ _ _ _ _ _ _ _ _ _ _ _ _ _ _ _ _ _ _ _ _ _ _ _ _ _ _ _ _ _ _ _ _ _ _ _ _ _ _ _ _ _ _ _ _ _ _ _ _ _ _ _ _ _ _ _ _ _ _ _ _ _ _ _ _ (hide ?_)
    intro v54 v55 v56 v57 v58 v59 v60 v61 v62 v63 v64 v65 v66 v67 v68 v69 v70 v71 v72 v73 v74 v75 v76 v77 v78 v79 v80 v81 w2 b2 hst hse
    have HST := hide ((SeenStep.of_below (unhide HBL)).trans hst)
    clear hst hse
    go_wp2_with fail
    exact unhide hF _ _ (unhide HST)
  · have e7 : ((cd : Int) == 7) = false := by simp; omega
    subst ht
    clear h7
    go_wp2_with fail
    refine vis_r10_1 g b A A2 l (sg : Int) (ps : Int) (pa : Int) (pw : Int) _ (0 : Int) (wq : Int) ⟨(kd : Int), (at_ : Int), (d : Int), (p : Int), (cd : Int), (cnt : Int)⟩ L L1 L2 w1 (by omega) hAg hAb (by omega) hA2g hA2b c0 c1 c2 c3 c4 c5 c6 c7 c8 c9 (unhide HS1) (by omega) (by omega) (by omega) (by omega) (by omega) hl (hide (fun W hW => unhide HG1 W ((unhide HBL).trans (hW.mono hz1)))) _ _ _ _ _ _ _ _ _ _ _ _ _ _ _ _ _ _ _ _ _ _ _ _ _ _ _ _ _ _ _ _ _ _ _ _ _ _ _ _ _ _ _ _ _ _ _ _ _ _ _ _ _ _ _ _ _ _ _ _ _ _ _ _ _ _ _ _ _ _ _ _ _ _ _ _ _ _ _ _ _ _ _ _ _ _ _ _ _ _ _ _ _ _ _ _ _ _ _ _ _ _ _ _ _ _ _ _ _ _ _ _ _ _ _ _ _ _ _ _ _ _ _ _ _ _ _ _ _ _ _ _ _ _ _ (hide ?_)
    intro v54 v55 v56 v57 v58 v59 v60 v61 v62 v63 v64 v65 v66 v67 v68 v69 v70 v71 v72 v73 v74 v75 v76 v77 v78 v79 v80 v81 w2 b2 hst hse
    have HST := hide ((SeenStep.of_below (unhide HBL)).trans hst)
    clear hst hse
    go_wp2_with fail
    exact unhide hF _ _ (unhide HST)

set_option maxHeartbeats 1000000 in
set_option maxRecDepth 100000 in
theorem vis_mid_2 {R : Ending → World → Prop} (g b A A2 l sg kd at_ d p cd cnt ps pa pw tg wq : Nat) (vm : Value) (L L1 L2 : List (Nat × Nat × Nat)) (w : World) (hA : A < w.heap.size) (hAg : A ≠ g) (hAb : A ≠ b) (hA2 : A2 < w.heap.size) (hA2g : A2 ≠ g) (hA2b : A2 ≠ b) (a0 : w.cell? ⟨A, 0, none⟩ = some (.int .u8 (sg : Int))) (a1 : w.cell? ⟨A, 1, none⟩ = some (.int .u8 (kd : Int))) (a2 : w.cell? ⟨A, 2, none⟩ = some (.int .u16 (at_ : Int))) (a3 : w.cell? ⟨A, 3, none⟩ = some (.int .u8 (d : Int))) (a4 : w.cell? ⟨A, 4, none⟩ = some (.int .u8 (p : Int))) (a5 : w.cell? ⟨A, 5, none⟩ = some (.int .u8 (cd : Int))) (a6 : w.cell? ⟨A, 6, none⟩ = some (.int .u16 (cnt : Int))) (a7 : w.cell? ⟨A2, 0, none⟩ = some (.int .u8 (ps : Int))) (a8 : w.cell? ⟨A2, 1, none⟩ = some (.int .u16 (pa : Int))) (a9 : w.cell? ⟨A2, 2, none⟩ = some (.int .u8 (pw : Int))) (hseen : SeenAt w g b L) (hat : at_ ≤ 256) (hd : d ≤ 8) (hp : p ≤ 8) (hpa : pa ≤ 65535) (hpw : pw ≤ 255) (hwq : wq ≤ 65535) (htg : (cd = 7 ∧ tg = 1) ∨ (cd ≠ 7 ∧ tg = 0)) (B2 : Bool) (hl : 1 ≤ l) (hl8 : l ≤ 8) (HG1 : Hid (∀ W, SeenAt W g b L → Calls Fagg.prog 148 #[.int .u8 (ps : Int), .int .i64 (pa : Int), .int .i64 (pw : Int), .pointer (some ⟨g, 0, none⟩)] W fun e w' => e = .returned (.bool true) ∧ ∃ b', SeenStep g b b' W w' ∧ SeenAt w' g b' L1)) (HWD : Hid (∀ W, Calls Fagg.prog 145 #[.agg #[.int .u8 (kd : Int), .int .u16 (at_ : Int), .int .u8 (d : Int), .int .u8 (p : Int), .int .u8 (cd : Int), .int .u16 (cnt : Int)]] W fun e w' => e = .returned (.int .u16 (wq : Int)) ∧ Below W.heap.size W w')) (HG2 : Hid (∀ b1 W, SeenAt W g b1 L1 → Calls Fagg.prog 148 #[.int .u8 (sg : Int), .int .i64 ((at_ : Int) - (tg : Int)), .int .i64 (wq : Int), .pointer (some ⟨g, 0, none⟩)] W fun e w' => e = .returned (.bool B2) ∧ ∃ b', SeenStep g b1 b' W w' ∧ (B2 = true → SeenAt w' g b' L2)))
    (hF : Hid (∀ (w' : World) (b' : Nat), SeenStep g b b' w w' → B2 = false → R (.returned (.bool false)) w'))
    (hK : Hid (∀ (v1 v2 v5 v6 v7 v8 v9 v10 v13 v16 v20 v21 v22 v23 v24 v25 v26 v27 v28 v29 v30 v31 v32 v33 v34 v35 v36 v37 v38 v39 v40 v41 v42 v43 v44 v45 v46 v47 v48 v49 v50 v51 v52 v53 v54 v55 v56 v57 v58 v59 v60 v61 v62 v63 v64 v65 v66 v67 v68 v69 v70 v71 v72 v73 v74 v75 v76 v77 v78 v79 v80 v81 v82 v83 v84 v85 v86 v87 v88 v89 v90 v91 v92 v93 v94 v95 v96 v97 v98 v99 v100 v101 v102 v103 v104 v105 v106 v107 v108 v109 v110 v111 v112 v113 v114 v115 v116 v117 v118 v119 v120 v121 v122 v123 v124 v125 v126 v127 v128 v129 v130 v131 v132 v133 v134 v135 v136 v137 v138 v139 v140 : Value) (w' : World) (b' : Nat), SeenStep g b b' w w' → B2 = true → SeenAt w' g b' L2 → Code.wp Fagg.prog (bodyAt Fagg.f80 [1, 1, 1, 1, 1, 1, 1, 1, 1]) (bodyPost Fagg.prog Fagg.f80 R) ⟨List.toArray (vm :: v1 :: v2 :: (.int .i64 (l : Int)) :: (.pointer (some ⟨g, 0, none⟩)) :: v5 :: v6 :: v7 :: v8 :: v9 :: v10 :: (.pointer (some ⟨A, 0, none⟩)) :: (.pointer (some ⟨A2, 0, none⟩)) :: v13 :: (.int .i64 (at_ : Int)) :: (.int .i64 ((d : Int) + (p : Int))) :: v16 :: (.int .i64 1) :: (.int .i64 (d : Int)) :: (.int .i64 (p : Int)) :: v20 :: v21 :: v22 :: v23 :: v24 :: v25 :: v26 :: v27 :: v28 :: v29 :: v30 :: v31 :: v32 :: v33 :: v34 :: v35 :: v36 :: v37 :: v38 :: v39 :: v40 :: v41 :: v42 :: v43 :: v44 :: v45 :: v46 :: v47 :: v48 :: v49 :: v50 :: v51 :: v52 :: v53 :: v54 :: v55 :: v56 :: v57 :: v58 :: v59 :: v60 :: v61 :: v62 :: v63 :: v64 :: v65 :: v66 :: v67 :: v68 :: v69 :: v70 :: v71 :: v72 :: v73 :: v74 :: v75 :: v76 :: v77 :: v78 :: v79 :: v80 :: v81 :: v82 :: v83 :: v84 :: v85 :: v86 :: v87 :: v88 :: v89 :: v90 :: v91 :: v92 :: v93 :: v94 :: v95 :: v96 :: v97 :: v98 :: v99 :: v100 :: v101 :: v102 :: v103 :: v104 :: v105 :: v106 :: v107 :: v108 :: v109 :: v110 :: v111 :: v112 :: v113 :: v114 :: v115 :: v116 :: v117 :: v118 :: v119 :: v120 :: v121 :: v122 :: v123 :: v124 :: v125 :: v126 :: v127 :: v128 :: v129 :: v130 :: v131 :: v132 :: v133 :: v134 :: v135 :: v136 :: v137 :: v138 :: v139 :: v140 :: []), []⟩ w'))
    (u1 u2 u5 u6 u7 u8 u9 u10 u13 u14 u15 u16 u17 u18 u19 u20 u21 u22 u23 u24 u25 u26 u27 u28 u29 u30 u31 u32 u33 u34 u35 u36 u37 u38 u39 u40 u41 u42 u43 u44 u45 u46 u47 u48 u49 u50 u51 u52 u53 u54 u55 u56 u57 u58 u59 u60 u61 u62 u63 u64 u65 u66 u67 u68 u69 u70 u71 u72 u73 u74 u75 u76 u77 u78 u79 u80 u81 u82 u83 u84 u85 u86 u87 u88 u89 u90 u91 u92 u93 u94 u95 u96 u97 u98 u99 u100 u101 u102 u103 u104 u105 u106 u107 u108 u109 u110 u111 u112 u113 u114 u115 u116 u117 u118 u119 u120 u121 u122 u123 u124 u125 u126 u127 u128 u129 u130 u131 u132 u133 u134 u135 u136 u137 u138 u139 u140 : Value) :
    Code.wp Fagg.prog (bodyAt Fagg.f80 [1, 1, 1, 1]) (bodyPost Fagg.prog Fagg.f80 R) ⟨List.toArray (vm :: u1 :: u2 :: (.int .i64 (l : Int)) :: (.pointer (some ⟨g, 0, none⟩)) :: u5 :: u6 :: u7 :: u8 :: u9 :: u10 :: (.pointer (some ⟨A, 0, none⟩)) :: (.pointer (some ⟨A2, 0, none⟩)) :: u13 :: u14 :: u15 :: u16 :: u17 :: u18 :: u19 :: u20 :: u21 :: u22 :: u23 :: u24 :: u25 :: u26 :: u27 :: u28 :: u29 :: u30 :: u31 :: u32 :: u33 :: u34 :: u35 :: u36 :: u37 :: u38 :: u39 :: u40 :: u41 :: u42 :: u43 :: u44 :: u45 :: u46 :: u47 :: u48 :: u49 :: u50 :: u51 :: u52 :: u53 :: u54 :: u55 :: u56 :: u57 :: u58 :: u59 :: u60 :: u61 :: u62 :: u63 :: u64 :: u65 :: u66 :: u67 :: u68 :: u69 :: u70 :: u71 :: u72 :: u73 :: u74 :: u75 :: u76 :: u77 :: u78 :: u79 :: u80 :: u81 :: u82 :: u83 :: u84 :: u85 :: u86 :: u87 :: u88 :: u89 :: u90 :: u91 :: u92 :: u93 :: u94 :: u95 :: u96 :: u97 :: u98 :: u99 :: u100 :: u101 :: u102 :: u103 :: u104 :: u105 :: u106 :: u107 :: u108 :: u109 :: u110 :: u111 :: u112 :: u113 :: u114 :: u115 :: u116 :: u117 :: u118 :: u119 :: u120 :: u121 :: u122 :: u123 :: u124 :: u125 :: u126 :: u127 :: u128 :: u129 :: u130 :: u131 :: u132 :: u133 :: u134 :: u135 :: u136 :: u137 :: u138 :: u139 :: u140 :: []), []⟩ w := by
  conv => arg 2; whnf
  have HSEEN := hide hseen
  clear hseen
  go_wp2_with fail
  go_quiet (fail)
  have hb1 : Below w.heap.size w (w.drewN nq) := bel_drewN (Below.refl _ _) nq
  have c0 := (hb1.cell (p := ⟨A, 0, none⟩) (by show A < _; omega)).trans a0
  have c1 := (hb1.cell (p := ⟨A, 1, none⟩) (by show A < _; omega)).trans a1
  have c2 := (hb1.cell (p := ⟨A, 2, none⟩) (by show A < _; omega)).trans a2
  have c3 := (hb1.cell (p := ⟨A, 3, none⟩) (by show A < _; omega)).trans a3
  have c4 := (hb1.cell (p := ⟨A, 4, none⟩) (by show A < _; omega)).trans a4
  have c5 := (hb1.cell (p := ⟨A, 5, none⟩) (by show A < _; omega)).trans a5
  have c6 := (hb1.cell (p := ⟨A, 6, none⟩) (by show A < _; omega)).trans a6
  have c7 := (hb1.cell (p := ⟨A2, 0, none⟩) (by show A2 < _; omega)).trans a7
  have c8 := (hb1.cell (p := ⟨A2, 1, none⟩) (by show A2 < _; omega)).trans a8
  have c9 := (hb1.cell (p := ⟨A2, 2, none⟩) (by show A2 < _; omega)).trans a9
  have HS1 := hide ((unhide HSEEN).below hb1)
  have hz1 : w.heap.size ≤ (w.drewN nq).heap.size := hb1.size
  have HBL := hide hb1
  clear hb1
  generalize w.drewN nq = w1 at *
  clear a0 a1 a2 a3 a4 a5 a6 a7 a8 a9
  rcases htg with ⟨h7, ht⟩ | ⟨h7, ht⟩
  · have e7 : ((cd : Int) == 7) = true := by simp [h7]
    subst ht
    clear h7
    go_wp2_with fail
    refine vis_r10_2 g b A A2 l (sg : Int) (ps : Int) (pa : Int) (pw : Int) _ (1 : Int) (wq : Int) ⟨(kd : Int), (at_ : Int), (d : Int), (p : Int), (cd : Int), (cnt : Int)⟩ L L1 L2 w1 (by omega) hAg hAb (by omega) hA2g hA2b c0 c1 c2 c3 c4 c5 c6 c7 c8 c9 (unhide HS1) (by omega) (by omega) (by omega) (by omega) (by omega) B2 hl HG1 HWD HG2 _ _ _ _ _ _ _ _ _ _ _ _ _ _ _ _ _ _ _ _ _ _ _ _ _ _ _ _ _ _ _ _ _ _ _ _ _ _ _ _ _ _ _ _ _ _ _ _ _ _ _ _ _ _ _ _ _ _ _ _ _ _ _ _ _ _ _ _ _ _ _ _ _ _ _ _ _ _ _ _ _ _ _ _ _ _ _ _ _ _ _ _ _ _ _ _ _ _ _ _ _ _ _ _ _ _ _ _ _ _ _ _ _ _ _ _ _ _ _ _ _ _ _ _ _ _ _ _ _ _ _ _ _ _ _ (hide ?_)
    intro v54 v55 v56 v57 v58 v59 v60 v61 v62 v63 v64 v65 v66 v67 v68 v69 v70 v71 v72 v73 v74 v75 v76 v77 v78 v79 v80 v81 w2 b2 hst hse
    have HST := hide ((SeenStep.of_below (unhide HBL)).trans hst)
    cases B2 with
    | false =>
      clear hst hse
      go_wp2_with fail
      exact unhide hF _ _ (unhide HST) (by first | rfl | trivial)
    | true =>
      have HSE := hide (hse rfl)
      have hz2 := hst.size
      have m0 := (hst.cell (p := ⟨A, 0, none⟩) (by show A < _; omega) hAg hAb).trans c0
      have m1 := (hst.cell (p := ⟨A, 1, none⟩) (by show A < _; omega) hAg hAb).trans c1
      have m2 := (hst.cell (p := ⟨A, 2, none⟩) (by show A < _; omega) hAg hAb).trans c2
      have m3 := (hst.cell (p := ⟨A, 3, none⟩) (by show A < _; omega) hAg hAb).trans c3
      have m4 := (hst.cell (p := ⟨A, 4, none⟩) (by show A < _; omega) hAg hAb).trans c4
      have m5 := (hst.cell (p := ⟨A, 5, none⟩) (by show A < _; omega) hAg hAb).trans c5
      have m6 := (hst.cell (p := ⟨A, 6, none⟩) (by show A < _; omega) hAg hAb).trans c6
      have m7 := (hst.cell (p := ⟨A2, 0, none⟩) (by show A2 < _; omega) hA2g hA2b).trans c7
      have m8 := (hst.cell (p := ⟨A2, 1, none⟩) (by show A2 < _; omega) hA2g hA2b).trans c8
      have m9 := (hst.cell (p := ⟨A2, 2, none⟩) (by show A2 < _; omega) hA2g hA2b).trans c9
      clear hst hse c0 c1 c2 c3 c4 c5 c6 c7 c8 c9
      go_wp2_with fail
      go_quiet (fail)
      refine (‹∀ (a : Act) (w : World), Code.wp Fagg.prog _ _ a w → _› _ _ ?_)
      exact unhide hK _ _ _ _ _ _ _ _ _ _ _ _ _ _ _ _ _ _ _ _ _ _ _ _ _ _ _ _ _ _ _ _ _ _ _ _ _ _ _ _ _ _ _ _ _ _ _ _ _ _ _ _ _ _ _ _ _ _ _ _ _ _ _ _ _ _ _ _ _ _ _ _ _ _ _ _ _ _ _ _ _ _ _ _ _ _ _ _ _ _ _ _ _ _ _ _ _ _ _ _ _ _ _ _ _ _ _ _ _ _ _ _ _ _ _ _ _ _ _ _ _ _ _ _ _ _ _ _ _ _ _ _ b2 ((unhide HST).trans (SeenStep.of_below (bel_drewN (Below.refl _ _) _))) (by first | rfl | trivial) ((unhide HSE).below (bel_drewN (Below.refl _ _) _))
  · have e7 : ((cd : Int) == 7) = false := by simp; omega
    subst ht
    clear h7
    go_wp2_with fail
    refine vis_r10_2 g b A A2 l (sg : Int) (ps : Int) (pa : Int) (pw : Int) _ (0 : Int) (wq : Int) ⟨(kd : Int), (at_ : Int), (d : Int), (p : Int), (cd : Int), (cnt : Int)⟩ L L1 L2 w1 (by omega) hAg hAb (by omega) hA2g hA2b c0 c1 c2 c3 c4 c5 c6 c7 c8 c9 (unhide HS1) (by omega) (by omega) (by omega) (by omega) (by omega) B2 hl HG1 HWD HG2 _ _ _ _ _ _ _ _ _ _ _ _ _ _ _ _ _ _ _ _ _ _ _ _ _ _ _ _ _ _ _ _ _ _ _ _ _ _ _ _ _ _ _ _ _ _ _ _ _ _ _ _ _ _ _ _ _ _ _ _ _ _ _ _ _ _ _ _ _ _ _ _ _ _ _ _ _ _ _ _ _ _ _ _ _ _ _ _ _ _ _ _ _ _ _ _ _ _ _ _ _ _ _ _ _ _ _ _ _ _ _ _ _ _ _ _ _ _ _ _ _ _ _ _ _ _ _ _ _ _ _ _ _ _ _ (hide ?_)
    intro v54 v55 v56 v57 v58 v59 v60 v61 v62 v63 v64 v65 v66 v67 v68 v69 v70 v71 v72 v73 v74 v75 v76 v77 v78 v79 v80 v81 w2 b2 hst hse
    have HST := hide ((SeenStep.of_below (unhide HBL)).trans hst)
    cases B2 with
    | false =>
      clear hst hse
      go_wp2_with fail
      exact unhide hF _ _ (unhide HST) (by first | rfl | trivial)
    | true =>
      have HSE := hide (hse rfl)
      have hz2 := hst.size
      have m0 := (hst.cell (p := ⟨A, 0, none⟩) (by show A < _; omega) hAg hAb).trans c0
      have m1 := (hst.cell (p := ⟨A, 1, none⟩) (by show A < _; omega) hAg hAb).trans c1
      have m2 := (hst.cell (p := ⟨A, 2, none⟩) (by show A < _; omega) hAg hAb).trans c2
      have m3 := (hst.cell (p := ⟨A, 3, none⟩) (by show A < _; omega) hAg hAb).trans c3
      have m4 := (hst.cell (p := ⟨A, 4, none⟩) (by show A < _; omega) hAg hAb).trans c4
      have m5 := (hst.cell (p := ⟨A, 5, none⟩) (by show A < _; omega) hAg hAb).trans c5
      have m6 := (hst.cell (p := ⟨A, 6, none⟩) (by show A < _; omega) hAg hAb).trans c6
      have m7 := (hst.cell (p := ⟨A2, 0, none⟩) (by show A2 < _; omega) hA2g hA2b).trans c7
      have m8 := (hst.cell (p := ⟨A2, 1, none⟩) (by show A2 < _; omega) hA2g hA2b).trans c8
      have m9 := (hst.cell (p := ⟨A2, 2, none⟩) (by show A2 < _; omega) hA2g hA2b).trans c9
      clear hst hse c0 c1 c2 c3 c4 c5 c6 c7 c8 c9
      go_wp2_with fail
      go_quiet (fail)
      refine (‹∀ (a : Act) (w : World), Code.wp Fagg.prog _ _ a w → _› _ _ ?_)
      exact unhide hK _ _ _ _ _ _ _ _ _ _ _ _ _ _ _ _ _ _ _ _ _ _ _ _ _ _ _ _ _ _ _ _ _ _ _ _ _ _ _ _ _ _ _ _ _ _ _ _ _ _ _ _ _ _ _ _ _ _ _ _ _ _ _ _ _ _ _ _ _ _ _ _ _ _ _ _ _ _ _ _ _ _ _ _ _ _ _ _ _ _ _ _ _ _ _ _ _ _ _ _ _ _ _ _ _ _ _ _ _ _ _ _ _ _ _ _ _ _ _ _ _ _ _ _ _ _ _ _ _ _ _ _ b2 ((unhide HST).trans (SeenStep.of_below (bel_drewN (Below.refl _ _) _))) (by first | rfl | trivial) ((unhide HSE).below (bel_drewN (Below.refl _ _) _))

end Go.Proofs.Ygcfag
