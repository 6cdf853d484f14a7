/-
  WALKS: seg.walk's push.
-/
import Derived.Test.YgcfagW58
import Derived.Deep.RegionHeld2
namespace Go.Proofs.Ygcfag
open Go.RowKit
set_option linter.unusedVariables false
set_option linter.unusedSimpArgs false

set_option maxHeartbeats 400000 in
set_option maxRecDepth 100000 in
theorem push_store {K K1 K2 : Act → World → Prop} {R : Ending → World → Prop} (g s at_ dep i cnt : Nat) (x0 x1 x2 : Value) (w : World) (hat : at_ + i < 65536) (hcnt : cnt < 256) (hc : w.cell? ⟨g, 800, none⟩ = some (.int .u16 (cnt : Int))) (h0 : w.cell? ⟨g, 32 + cnt * 3, none⟩ = some x0) (h1 : w.cell? ⟨g, 32 + cnt * 3 + 1, none⟩ = some x1) (h2 : w.cell? ⟨g, 32 + cnt * 3 + 2, none⟩ = some x2) (f0 : w.frozen? ⟨g, 32 + cnt * 3, none⟩ = false) (f1 : w.frozen? ⟨g, 32 + cnt * 3 + 1, none⟩ = false) (f2 : w.frozen? ⟨g, 32 + cnt * 3 + 2, none⟩ = false)
    (u3 u5 u6 u7 u8 u9 u11 u12 u13 u14 u15 u16 u17 u18 u19 u20 u21 u22 u23 u24 u25 u26 u27 u28 u29 u30 u31 u32 u33 u34 u35 u36 : Value)
    (hK : Hid (∀ (v16 v17 v18 v19 v20 v21 v22 v23 v24 v25 v26 v27 v28 v29 : Value), K ⟨List.toArray ((.pointer (some ⟨g, 0, none⟩)) :: (.int .u8 (s : Int)) :: (.int .u16 (at_ : Int)) :: u3 :: (.int .u8 (dep : Int)) :: u5 :: u6 :: u7 :: u8 :: u9 :: (.int .u16 (i : Int)) :: u11 :: u12 :: u13 :: u14 :: u15 :: v16 :: v17 :: v18 :: v19 :: v20 :: v21 :: v22 :: v23 :: v24 :: v25 :: v26 :: v27 :: v28 :: v29 :: u30 :: u31 :: u32 :: u33 :: u34 :: u35 :: u36 :: []), []⟩ (((w.setCell ⟨g, 32 + cnt * 3, none⟩ (.int .u16 (IntKind.u16.wrap ((at_ : Int) + (i : Int))))).setCell ⟨g, 32 + cnt * 3 + 1, none⟩ (.int .u8 (s : Int))).setCell ⟨g, 32 + cnt * 3 + 2, none⟩ (.int .u8 (dep : Int))).drew)) :
    Code.wp Fagg.prog (bodyAt Fagg.f75 [1, 0, 0, 1, 0, 0, 0]) (Exit.then K (Exit.inBlock 1 (Exit.then K1 (Exit.then K2 (Exit.inBlock 0 (bodyPost Fagg.prog Fagg.f75 R)))))) ⟨List.toArray ((.pointer (some ⟨g, 0, none⟩)) :: (.int .u8 (s : Int)) :: (.int .u16 (at_ : Int)) :: u3 :: (.int .u8 (dep : Int)) :: u5 :: u6 :: u7 :: u8 :: u9 :: (.int .u16 (i : Int)) :: u11 :: u12 :: u13 :: u14 :: u15 :: u16 :: u17 :: u18 :: u19 :: u20 :: u21 :: u22 :: u23 :: u24 :: u25 :: u26 :: u27 :: u28 :: u29 :: u30 :: u31 :: u32 :: u33 :: u34 :: u35 :: u36 :: []), []⟩ w := by
  conv => arg 2; whnf
  have hci : (cnt : Int) < 256 := by omega
  have hci2 : ¬ 256 ≤ cnt := by omega
  have n0 : ¬ 800 = 32 + cnt * 3 := by omega
  have n1 : ¬ 800 = 32 + cnt * 3 + 1 := by omega
  have n2 : ¬ 800 = 32 + cnt * 3 + 2 := by omega
  go_region_held2 (fun w' => w'.cell? ⟨g, 800, none⟩ = some (.int .u16 (cnt : Int))) ((first | exact hc | simp [go_sem, hc, n0, n1, n2])) (fail)
  all_goals (first | exact unhide hK _ _ _ _ _ _ _ _ _ _ _ _ _ _ | go_show)
end Go.Proofs.Ygcfag
