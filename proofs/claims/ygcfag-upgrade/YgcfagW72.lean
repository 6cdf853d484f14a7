/-
  WALKS: smodel.visit: an object's pointers, by its kind.
-/
import Derived.Test.YgcfagW71
namespace Go.Proofs.Ygcfag
open Go.RowKit
set_option linter.unusedVariables false
set_option linter.unusedSimpArgs false

set_option maxHeartbeats 1000000 in
set_option maxRecDepth 100000 in
theorem vis_struct {R : Ending → World → Prop} (ms : List (List Int)) (a : Option Addr) (n c sg l g b A at_ each d p cnt : Nat) (L : List (Nat × Nat × Nat)) (w : World) (hl1 : 1 ≤ l ∧ l ≤ 8) (hA : A < w.heap.size) (hAg : A ≠ g) (hAb : A ≠ b) (a0 : w.cell? ⟨A, 0, none⟩ = some (.int .u8 (sg : Int))) (a1 : w.cell? ⟨A, 1, none⟩ = some (.int .u8 1)) (a2 : w.cell? ⟨A, 2, none⟩ = some (.int .u16 (at_ : Int))) (a3 : w.cell? ⟨A, 3, none⟩ = some (.int .u8 (d : Int))) (a4 : w.cell? ⟨A, 4, none⟩ = some (.int .u8 (p : Int))) (a5 : w.cell? ⟨A, 5, none⟩ = some (.int .u8 0)) (a6 : w.cell? ⟨A, 6, none⟩ = some (.int .u16 0)) (hsg : sg < 256) (hea : each ≤ 256) (hd : d ≤ 8) (hp : p ≤ 8) (hcnt : cnt ≤ 128) (hat : at_ ≤ 256) (hkin : ∀ k ∈ kidsE at_ each d p 1, k < 65536) (hseen : SeenAt w g b L) (hfr : L.length + freeN ms L ≤ 300) (hw : ∀ i, Wds (ms.getD i []))
    (HIH : Hid (∀ (k bk : Nat) (Lk : List (Nat × Nat × Nat)) (W : World), k < 65536 → SeenStep g b bk w W → SeenAt W g bk Lk → Lk.length + freeN ms Lk ≤ 300 → Calls Fagg.prog 80 #[.slice a n c, .int .u8 (sg : Int), .int .i64 (k : Int), .int .i64 ((l : Int) - 1), .pointer (some ⟨g, 0, none⟩)] W fun e w' => e = .returned (.bool (FB ms Lk [(l - 1, sg, k)])) ∧ ∃ b', SeenStep g bk b' W w' ∧ (FB ms Lk [(l - 1, sg, k)] = true → SeenAt w' g b' (Lk ++ itemsL ms [(l - 1, sg, k)]))))
    (hR : Hid (∀ (B : Bool) (w' : World) (b' : Nat), B = FB ms L (kn (l - 1) sg (kidsE at_ each d p 1)) → SeenStep g b b' w w' → (B = true → SeenAt w' g b' (L ++ itemsL ms (kn (l - 1) sg (kidsE at_ each d p 1)))) → R (.returned (.bool B)) w'))
    (u1 u2 u5 u6 u7 u8 u9 u10 u12 u13 u16 u20 u21 u22 u23 u24 u25 u26 u27 u28 u29 u30 u31 u32 u33 u34 u35 u36 u37 u38 u39 u40 u41 u42 u43 u44 u45 u46 u47 u48 u49 u50 u51 u52 u53 u54 u55 u56 u57 u58 u59 u60 u61 u62 u63 u64 u65 u66 u67 u68 u69 u70 u71 u72 u73 u74 u75 u76 u77 u78 u79 u80 u81 u82 u83 u84 u85 u86 u87 u88 u89 u90 u91 u92 u93 u94 u95 u96 u97 u98 u99 u100 u101 u102 u103 u104 u105 u106 u107 u108 u109 u110 u111 u112 u113 u114 u115 u116 u117 u118 u119 u120 u121 u122 u123 u124 u125 u126 u127 u128 u129 u130 u131 u132 u133 u134 u135 u136 u137 u138 u139 u140 : Value) :
    Code.wp Fagg.prog (bodyAt Fagg.f80 [1, 1, 1, 1, 1, 1, 1, 1, 1]) (bodyPost Fagg.prog Fagg.f80 R) ⟨List.toArray ((.slice a n c) :: u1 :: u2 :: (.int .i64 (l : Int)) :: (.pointer (some ⟨g, 0, none⟩)) :: u5 :: u6 :: u7 :: u8 :: u9 :: u10 :: (.pointer (some ⟨A, 0, none⟩)) :: u12 :: u13 :: (.int .i64 (at_ : Int)) :: (.int .i64 (each : Int)) :: u16 :: (.int .i64 1) :: (.int .i64 (d : Int)) :: (.int .i64 (p : Int)) :: u20 :: u21 :: u22 :: u23 :: u24 :: u25 :: u26 :: u27 :: u28 :: u29 :: u30 :: u31 :: u32 :: u33 :: u34 :: u35 :: u36 :: u37 :: u38 :: u39 :: u40 :: u41 :: u42 :: u43 :: u44 :: u45 :: u46 :: u47 :: u48 :: u49 :: u50 :: u51 :: u52 :: u53 :: u54 :: u55 :: u56 :: u57 :: u58 :: u59 :: u60 :: u61 :: u62 :: u63 :: u64 :: u65 :: u66 :: u67 :: u68 :: u69 :: u70 :: u71 :: u72 :: u73 :: u74 :: u75 :: u76 :: u77 :: u78 :: u79 :: u80 :: u81 :: u82 :: u83 :: u84 :: u85 :: u86 :: u87 :: u88 :: u89 :: u90 :: u91 :: u92 :: u93 :: u94 :: u95 :: u96 :: u97 :: u98 :: u99 :: u100 :: u101 :: u102 :: u103 :: u104 :: u105 :: u106 :: u107 :: u108 :: u109 :: u110 :: u111 :: u112 :: u113 :: u114 :: u115 :: u116 :: u117 :: u118 :: u119 :: u120 :: u121 :: u122 :: u123 :: u124 :: u125 :: u126 :: u127 :: u128 :: u129 :: u130 :: u131 :: u132 :: u133 :: u134 :: u135 :: u136 :: u137 :: u138 :: u139 :: u140 :: []), []⟩ w := by
  conv => arg 2; whnf
  have HSEEN := hide hseen
  have HKIN := hide hkin
  have HWDS := hide hw
  have HFR := hide hfr
  clear hseen hkin hw hfr
  refine wp_seq_k (fun K0 hK0 => ?_)
  have HK0 := hide hK0
  clear hK0
  go_wp2_with fail
  refine unhide HK0 _ _ ?_
  exact vis_loops ms a n c sg l g b A at_ each d p 1 L w hl1 hA hAg hAb a0 hsg (by omega) (by omega) (by omega) (by omega) hat (unhide HKIN) (unhide HSEEN) (unhide HFR) (unhide HWDS) HIH hR _ _ _ _ _ _ _ _ _ _ _ _ _ _ _ _ _ _ _ _ _ _ _ _ _ _ _ _ _ _ _ _ _ _ _ _ _ _ _ _ _ _ _ _ _ _ _ _ _ _ _ _ _ _ _ _ _ _ _ _ _ _ _ _ _ _ _ _ _ _ _ _ _ _ _ _ _ _ _ _ _ _ _ _ _ _ _ _ _ _ _ _ _ _ _ _ _ _ _ _ _ _ _ _ _ _ _ _ _ _ _ _ _ _ _ _ _ _ _ _ _ _ _ _ _ _ _ _ _ _ _ _

set_option maxHeartbeats 1000000 in
set_option maxRecDepth 100000 in
theorem vis_ptrs {R : Ending → World → Prop} (ms : List (List Int)) (a : Option Addr) (n c sg l g b A at_ each d p cnt : Nat) (L : List (Nat × Nat × Nat)) (w : World) (hl1 : 1 ≤ l ∧ l ≤ 8) (hA : A < w.heap.size) (hAg : A ≠ g) (hAb : A ≠ b) (a0 : w.cell? ⟨A, 0, none⟩ = some (.int .u8 (sg : Int))) (a1 : w.cell? ⟨A, 1, none⟩ = some (.int .u8 2)) (a2 : w.cell? ⟨A, 2, none⟩ = some (.int .u16 (at_ : Int))) (a3 : w.cell? ⟨A, 3, none⟩ = some (.int .u8 0)) (a4 : w.cell? ⟨A, 4, none⟩ = some (.int .u8 0)) (a5 : w.cell? ⟨A, 5, none⟩ = some (.int .u8 6)) (a6 : w.cell? ⟨A, 6, none⟩ = some (.int .u16 (cnt : Int))) (hsg : sg < 256) (hea : each ≤ 256) (hd : d ≤ 8) (hp : p ≤ 8) (hcnt : cnt ≤ 128) (hat : at_ ≤ 256) (hkin : ∀ k ∈ kidsE at_ 1 0 1 cnt, k < 65536) (hseen : SeenAt w g b L) (hfr : L.length + freeN ms L ≤ 300) (hw : ∀ i, Wds (ms.getD i []))
    (HIH : Hid (∀ (k bk : Nat) (Lk : List (Nat × Nat × Nat)) (W : World), k < 65536 → SeenStep g b bk w W → SeenAt W g bk Lk → Lk.length + freeN ms Lk ≤ 300 → Calls Fagg.prog 80 #[.slice a n c, .int .u8 (sg : Int), .int .i64 (k : Int), .int .i64 ((l : Int) - 1), .pointer (some ⟨g, 0, none⟩)] W fun e w' => e = .returned (.bool (FB ms Lk [(l - 1, sg, k)])) ∧ ∃ b', SeenStep g bk b' W w' ∧ (FB ms Lk [(l - 1, sg, k)] = true → SeenAt w' g b' (Lk ++ itemsL ms [(l - 1, sg, k)]))))
    (hR : Hid (∀ (B : Bool) (w' : World) (b' : Nat), B = FB ms L (kn (l - 1) sg (kidsE at_ 1 0 1 cnt)) → SeenStep g b b' w w' → (B = true → SeenAt w' g b' (L ++ itemsL ms (kn (l - 1) sg (kidsE at_ 1 0 1 cnt)))) → R (.returned (.bool B)) w'))
    (u1 u2 u5 u6 u7 u8 u9 u10 u12 u13 u16 u20 u21 u22 u23 u24 u25 u26 u27 u28 u29 u30 u31 u32 u33 u34 u35 u36 u37 u38 u39 u40 u41 u42 u43 u44 u45 u46 u47 u48 u49 u50 u51 u52 u53 u54 u55 u56 u57 u58 u59 u60 u61 u62 u63 u64 u65 u66 u67 u68 u69 u70 u71 u72 u73 u74 u75 u76 u77 u78 u79 u80 u81 u82 u83 u84 u85 u86 u87 u88 u89 u90 u91 u92 u93 u94 u95 u96 u97 u98 u99 u100 u101 u102 u103 u104 u105 u106 u107 u108 u109 u110 u111 u112 u113 u114 u115 u116 u117 u118 u119 u120 u121 u122 u123 u124 u125 u126 u127 u128 u129 u130 u131 u132 u133 u134 u135 u136 u137 u138 u139 u140 : Value) :
    Code.wp Fagg.prog (bodyAt Fagg.f80 [1, 1, 1, 1, 1, 1, 1, 1, 1]) (bodyPost Fagg.prog Fagg.f80 R) ⟨List.toArray ((.slice a n c) :: u1 :: u2 :: (.int .i64 (l : Int)) :: (.pointer (some ⟨g, 0, none⟩)) :: u5 :: u6 :: u7 :: u8 :: u9 :: u10 :: (.pointer (some ⟨A, 0, none⟩)) :: u12 :: u13 :: (.int .i64 (at_ : Int)) :: (.int .i64 (each : Int)) :: u16 :: (.int .i64 1) :: (.int .i64 (d : Int)) :: (.int .i64 (p : Int)) :: u20 :: u21 :: u22 :: u23 :: u24 :: u25 :: u26 :: u27 :: u28 :: u29 :: u30 :: u31 :: u32 :: u33 :: u34 :: u35 :: u36 :: u37 :: u38 :: u39 :: u40 :: u41 :: u42 :: u43 :: u44 :: u45 :: u46 :: u47 :: u48 :: u49 :: u50 :: u51 :: u52 :: u53 :: u54 :: u55 :: u56 :: u57 :: u58 :: u59 :: u60 :: u61 :: u62 :: u63 :: u64 :: u65 :: u66 :: u67 :: u68 :: u69 :: u70 :: u71 :: u72 :: u73 :: u74 :: u75 :: u76 :: u77 :: u78 :: u79 :: u80 :: u81 :: u82 :: u83 :: u84 :: u85 :: u86 :: u87 :: u88 :: u89 :: u90 :: u91 :: u92 :: u93 :: u94 :: u95 :: u96 :: u97 :: u98 :: u99 :: u100 :: u101 :: u102 :: u103 :: u104 :: u105 :: u106 :: u107 :: u108 :: u109 :: u110 :: u111 :: u112 :: u113 :: u114 :: u115 :: u116 :: u117 :: u118 :: u119 :: u120 :: u121 :: u122 :: u123 :: u124 :: u125 :: u126 :: u127 :: u128 :: u129 :: u130 :: u131 :: u132 :: u133 :: u134 :: u135 :: u136 :: u137 :: u138 :: u139 :: u140 :: []), []⟩ w := by
  conv => arg 2; whnf
  have HSEEN := hide hseen
  have HKIN := hide hkin
  have HWDS := hide hw
  have HFR := hide hfr
  clear hseen hkin hw hfr
  refine wp_seq_k (fun K0 hK0 => ?_)
  have HK0 := hide hK0
  clear hK0
  go_wp2_with fail
  refine unhide HK0 _ _ ?_
  exact vis_loops ms a n c sg l g b A at_ 1 0 1 cnt L w hl1 hA hAg hAb a0 hsg (by omega) (by omega) (by omega) (by omega) hat (unhide HKIN) (unhide HSEEN) (unhide HFR) (unhide HWDS) HIH hR _ _ _ _ _ _ _ _ _ _ _ _ _ _ _ _ _ _ _ _ _ _ _ _ _ _ _ _ _ _ _ _ _ _ _ _ _ _ _ _ _ _ _ _ _ _ _ _ _ _ _ _ _ _ _ _ _ _ _ _ _ _ _ _ _ _ _ _ _ _ _ _ _ _ _ _ _ _ _ _ _ _ _ _ _ _ _ _ _ _ _ _ _ _ _ _ _ _ _ _ _ _ _ _ _ _ _ _ _ _ _ _ _ _ _ _ _ _ _ _ _ _ _ _ _ _ _ _ _ _ _ _

set_option maxHeartbeats 1000000 in
set_option maxRecDepth 100000 in
theorem vis_structs {R : Ending → World → Prop} (ms : List (List Int)) (a : Option Addr) (n c sg l g b A at_ each d p cnt : Nat) (L : List (Nat × Nat × Nat)) (w : World) (hl1 : 1 ≤ l ∧ l ≤ 8) (hA : A < w.heap.size) (hAg : A ≠ g) (hAb : A ≠ b) (a0 : w.cell? ⟨A, 0, none⟩ = some (.int .u8 (sg : Int))) (a1 : w.cell? ⟨A, 1, none⟩ = some (.int .u8 2)) (a2 : w.cell? ⟨A, 2, none⟩ = some (.int .u16 (at_ : Int))) (a3 : w.cell? ⟨A, 3, none⟩ = some (.int .u8 (d : Int))) (a4 : w.cell? ⟨A, 4, none⟩ = some (.int .u8 (p : Int))) (a5 : w.cell? ⟨A, 5, none⟩ = some (.int .u8 7)) (a6 : w.cell? ⟨A, 6, none⟩ = some (.int .u16 (cnt : Int))) (hsg : sg < 256) (hea : each ≤ 256) (hd : d ≤ 8) (hp : p ≤ 8) (hcnt : cnt ≤ 128) (hat : at_ ≤ 256) (hkin : ∀ k ∈ kidsE at_ each d p cnt, k < 65536) (hseen : SeenAt w g b L) (hfr : L.length + freeN ms L ≤ 300) (hw : ∀ i, Wds (ms.getD i []))
    (HIH : Hid (∀ (k bk : Nat) (Lk : List (Nat × Nat × Nat)) (W : World), k < 65536 → SeenStep g b bk w W → SeenAt W g bk Lk → Lk.length + freeN ms Lk ≤ 300 → Calls Fagg.prog 80 #[.slice a n c, .int .u8 (sg : Int), .int .i64 (k : Int), .int .i64 ((l : Int) - 1), .pointer (some ⟨g, 0, none⟩)] W fun e w' => e = .returned (.bool (FB ms Lk [(l - 1, sg, k)])) ∧ ∃ b', SeenStep g bk b' W w' ∧ (FB ms Lk [(l - 1, sg, k)] = true → SeenAt w' g b' (Lk ++ itemsL ms [(l - 1, sg, k)]))))
    (hR : Hid (∀ (B : Bool) (w' : World) (b' : Nat), B = FB ms L (kn (l - 1) sg (kidsE at_ each d p cnt)) → SeenStep g b b' w w' → (B = true → SeenAt w' g b' (L ++ itemsL ms (kn (l - 1) sg (kidsE at_ each d p cnt)))) → R (.returned (.bool B)) w'))
    (u1 u2 u5 u6 u7 u8 u9 u10 u12 u13 u16 u20 u21 u22 u23 u24 u25 u26 u27 u28 u29 u30 u31 u32 u33 u34 u35 u36 u37 u38 u39 u40 u41 u42 u43 u44 u45 u46 u47 u48 u49 u50 u51 u52 u53 u54 u55 u56 u57 u58 u59 u60 u61 u62 u63 u64 u65 u66 u67 u68 u69 u70 u71 u72 u73 u74 u75 u76 u77 u78 u79 u80 u81 u82 u83 u84 u85 u86 u87 u88 u89 u90 u91 u92 u93 u94 u95 u96 u97 u98 u99 u100 u101 u102 u103 u104 u105 u106 u107 u108 u109 u110 u111 u112 u113 u114 u115 u116 u117 u118 u119 u120 u121 u122 u123 u124 u125 u126 u127 u128 u129 u130 u131 u132 u133 u134 u135 u136 u137 u138 u139 u140 : Value) :
    Code.wp Fagg.prog (bodyAt Fagg.f80 [1, 1, 1, 1, 1, 1, 1, 1, 1]) (bodyPost Fagg.prog Fagg.f80 R) ⟨List.toArray ((.slice a n c) :: u1 :: u2 :: (.int .i64 (l : Int)) :: (.pointer (some ⟨g, 0, none⟩)) :: u5 :: u6 :: u7 :: u8 :: u9 :: u10 :: (.pointer (some ⟨A, 0, none⟩)) :: u12 :: u13 :: (.int .i64 (at_ : Int)) :: (.int .i64 (each : Int)) :: u16 :: (.int .i64 1) :: (.int .i64 (d : Int)) :: (.int .i64 (p : Int)) :: u20 :: u21 :: u22 :: u23 :: u24 :: u25 :: u26 :: u27 :: u28 :: u29 :: u30 :: u31 :: u32 :: u33 :: u34 :: u35 :: u36 :: u37 :: u38 :: u39 :: u40 :: u41 :: u42 :: u43 :: u44 :: u45 :: u46 :: u47 :: u48 :: u49 :: u50 :: u51 :: u52 :: u53 :: u54 :: u55 :: u56 :: u57 :: u58 :: u59 :: u60 :: u61 :: u62 :: u63 :: u64 :: u65 :: u66 :: u67 :: u68 :: u69 :: u70 :: u71 :: u72 :: u73 :: u74 :: u75 :: u76 :: u77 :: u78 :: u79 :: u80 :: u81 :: u82 :: u83 :: u84 :: u85 :: u86 :: u87 :: u88 :: u89 :: u90 :: u91 :: u92 :: u93 :: u94 :: u95 :: u96 :: u97 :: u98 :: u99 :: u100 :: u101 :: u102 :: u103 :: u104 :: u105 :: u106 :: u107 :: u108 :: u109 :: u110 :: u111 :: u112 :: u113 :: u114 :: u115 :: u116 :: u117 :: u118 :: u119 :: u120 :: u121 :: u122 :: u123 :: u124 :: u125 :: u126 :: u127 :: u128 :: u129 :: u130 :: u131 :: u132 :: u133 :: u134 :: u135 :: u136 :: u137 :: u138 :: u139 :: u140 :: []), []⟩ w := by
  conv => arg 2; whnf
  have HSEEN := hide hseen
  have HKIN := hide hkin
  have HWDS := hide hw
  have HFR := hide hfr
  clear hseen hkin hw hfr
  refine wp_seq_k (fun K0 hK0 => ?_)
  have HK0 := hide hK0
  clear hK0
  go_wp2_with fail
  refine unhide HK0 _ _ ?_
  exact vis_loops ms a n c sg l g b A at_ each d p cnt L w hl1 hA hAg hAb a0 hsg (by omega) (by omega) (by omega) (by omega) hat (unhide HKIN) (unhide HSEEN) (unhide HFR) (unhide HWDS) HIH hR _ _ _ _ _ _ _ _ _ _ _ _ _ _ _ _ _ _ _ _ _ _ _ _ _ _ _ _ _ _ _ _ _ _ _ _ _ _ _ _ _ _ _ _ _ _ _ _ _ _ _ _ _ _ _ _ _ _ _ _ _ _ _ _ _ _ _ _ _ _ _ _ _ _ _ _ _ _ _ _ _ _ _ _ _ _ _ _ _ _ _ _ _ _ _ _ _ _ _ _ _ _ _ _ _ _ _ _ _ _ _ _ _ _ _ _ _ _ _ _ _ _ _ _ _ _ _ _ _ _ _ _

set_option maxHeartbeats 1000000 in
set_option maxRecDepth 100000 in
theorem vis_plain {R : Ending → World → Prop} (ai : Option Addr) (B0 off n c n2 c2 sg A at_ cd cnt : Nat) (pd : Bool) (w : World) (hA : A < w.heap.size) (a0 : w.cell? ⟨A, 0, none⟩ = some (.int .u8 (sg : Int))) (a1 : w.cell? ⟨A, 1, none⟩ = some (.int .u8 2)) (a2 : w.cell? ⟨A, 2, none⟩ = some (.int .u16 (at_ : Int))) (a3 : w.cell? ⟨A, 3, none⟩ = some (.int .u8 0)) (a4 : w.cell? ⟨A, 4, none⟩ = some (.int .u8 0)) (a5 : w.cell? ⟨A, 5, none⟩ = some (.int .u8 (cd : Int))) (a6 : w.cell? ⟨A, 6, none⟩ = some (.int .u16 (cnt : Int))) (hsg : sg < n) (hn : n ≤ 8) (hcnt : cnt ≤ 128) (hat : at_ ≤ 256) (hcd : 2 ≤ cd ∧ cd ≤ 5) (hB0 : B0 < w.heap.size) (hc0 : w.cell? ⟨B0, off + sg, none⟩ = some (.slice ai n2 c2))
    (HZT : Hid (∀ W, Below w.heap.size w W → Calls Fagg.prog 149 #[.slice ai n2 c2, .agg #[.int .u8 2, .int .u16 (at_ : Int), .int .u8 0, .int .u8 0, .int .u8 (cd : Int), .int .u16 (cnt : Int)]] W fun e w' => e = .returned (.bool pd) ∧ Below W.heap.size W w'))
    (hR : Hid (∀ (w' : World), Below w.heap.size w w' → R (.returned (.bool pd)) w'))
    (u1 u2 u3 u4 u5 u6 u7 u8 u9 u10 u12 u13 u14 u15 u16 u18 u19 u20 u21 u22 u23 u24 u25 u26 u27 u28 u29 u30 u31 u32 u33 u34 u35 u36 u37 u38 u39 u40 u41 u42 u43 u44 u45 u46 u47 u48 u49 u50 u51 u52 u53 u54 u55 u56 u57 u58 u59 u60 u61 u62 u63 u64 u65 u66 u67 u68 u69 u70 u71 u72 u73 u74 u75 u76 u77 u78 u79 u80 u81 u82 u83 u84 u85 u86 u87 u88 u89 u90 u91 u92 u93 u94 u95 u96 u97 u98 u99 u100 u101 u102 u103 u104 u105 u106 u107 u108 u109 u110 u111 u112 u113 u114 u115 u116 u117 u118 u119 u120 u121 u122 u123 u124 u125 u126 u127 u128 u129 u130 u131 u132 u133 u134 u135 u136 u137 u138 u139 u140 : Value) :
    Code.wp Fagg.prog (bodyAt Fagg.f80 [1, 1, 1, 1, 1, 1, 1, 1, 1]) (bodyPost Fagg.prog Fagg.f80 R) ⟨List.toArray ((.slice (some ⟨B0, off, none⟩) n c) :: u1 :: u2 :: u3 :: u4 :: u5 :: u6 :: u7 :: u8 :: u9 :: u10 :: (.pointer (some ⟨A, 0, none⟩)) :: u12 :: u13 :: u14 :: u15 :: u16 :: (.int .i64 1) :: u18 :: u19 :: u20 :: u21 :: u22 :: u23 :: u24 :: u25 :: u26 :: u27 :: u28 :: u29 :: u30 :: u31 :: u32 :: u33 :: u34 :: u35 :: u36 :: u37 :: u38 :: u39 :: u40 :: u41 :: u42 :: u43 :: u44 :: u45 :: u46 :: u47 :: u48 :: u49 :: u50 :: u51 :: u52 :: u53 :: u54 :: u55 :: u56 :: u57 :: u58 :: u59 :: u60 :: u61 :: u62 :: u63 :: u64 :: u65 :: u66 :: u67 :: u68 :: u69 :: u70 :: u71 :: u72 :: u73 :: u74 :: u75 :: u76 :: u77 :: u78 :: u79 :: u80 :: u81 :: u82 :: u83 :: u84 :: u85 :: u86 :: u87 :: u88 :: u89 :: u90 :: u91 :: u92 :: u93 :: u94 :: u95 :: u96 :: u97 :: u98 :: u99 :: u100 :: u101 :: u102 :: u103 :: u104 :: u105 :: u106 :: u107 :: u108 :: u109 :: u110 :: u111 :: u112 :: u113 :: u114 :: u115 :: u116 :: u117 :: u118 :: u119 :: u120 :: u121 :: u122 :: u123 :: u124 :: u125 :: u126 :: u127 :: u128 :: u129 :: u130 :: u131 :: u132 :: u133 :: u134 :: u135 :: u136 :: u137 :: u138 :: u139 :: u140 :: []), []⟩ w := by
  conv => arg 2; whnf
  have e6 : ((cd : Int) == 6) = false := by simp; omega
  have e7 : ((cd : Int) == 7) = false := by simp; omega
  have hs0 : (0 : Int) ≤ (sg : Int) := by omega
  have hs1 : (sg : Int) < (n : Int) := by omega
  have hl0 : ∀ l : Later w, l.u.cell? ⟨A, 0, none⟩ = some (.int .u8 (sg : Int)) := fun l => (l.cell (p := ⟨A, 0, none⟩) hA).trans a0
  have hl1 : ∀ l : Later w, l.u.cell? ⟨A, 1, none⟩ = some (.int .u8 2) := fun l => (l.cell (p := ⟨A, 1, none⟩) hA).trans a1
  have hl2 : ∀ l : Later w, l.u.cell? ⟨A, 2, none⟩ = some (.int .u16 (at_ : Int)) := fun l => (l.cell (p := ⟨A, 2, none⟩) hA).trans a2
  have hl3 : ∀ l : Later w, l.u.cell? ⟨A, 3, none⟩ = some (.int .u8 0) := fun l => (l.cell (p := ⟨A, 3, none⟩) hA).trans a3
  have hl4 : ∀ l : Later w, l.u.cell? ⟨A, 4, none⟩ = some (.int .u8 0) := fun l => (l.cell (p := ⟨A, 4, none⟩) hA).trans a4
  have hl5 : ∀ l : Later w, l.u.cell? ⟨A, 5, none⟩ = some (.int .u8 (cd : Int)) := fun l => (l.cell (p := ⟨A, 5, none⟩) hA).trans a5
  have hl6 : ∀ l : Later w, l.u.cell? ⟨A, 6, none⟩ = some (.int .u16 (cnt : Int)) := fun l => (l.cell (p := ⟨A, 6, none⟩) hA).trans a6
  have hl7 : ∀ l : Later w, l.u.cell? ⟨B0, off + sg, none⟩ = some (.slice ai n2 c2) := fun l => (l.cell (p := ⟨B0, off + sg, none⟩) hB0).trans hc0
  go_wp2_with fail
  refine wp_region_later (by kernel_rfl) (by kernel_rfl) ?_
  intro hne
  repeat (go_big_quiet_step ((go_at_call 149; exact Calls.later (unhide HZT _ (Later.h _)))))
  refine wpQuiet_nil ?_
  rintro _ ⟨lw, rfl⟩
  go_wp2_with fail
  exact unhide hR _ lw.h
end Go.Proofs.Ygcfag
