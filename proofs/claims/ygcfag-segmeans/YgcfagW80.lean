/-
  WALKS: seg.Validate: an object's padding, and its pointers.
-/
import Derived.Test.YgcfagW79
import Derived.Test.YgcfagW55
namespace Go.Proofs.Ygcfag
open Go.RowKit
set_option linter.unusedVariables false
set_option linter.unusedSimpArgs false

set_option maxHeartbeats 1000000 in
set_option maxRecDepth 100000 in
theorem val_tail {Q : Exit → Act → World → Prop} (ai : Option Addr) (B0 off n c n2 c2 sg dep g S P : Nat) (q : Pt) (pd : Bool) (Φ : World → Prop) (w : World) (hS : S < w.heap.size) (hP : P < w.heap.size) (a0 : w.cell? ⟨P, 0, none⟩ = some (.int .u8 (sg : Int))) (a1 : w.cell? ⟨P, 1, none⟩ = some (.int .u8 q.kind)) (a2 : w.cell? ⟨P, 2, none⟩ = some (.int .u16 q.at_)) (a3 : w.cell? ⟨P, 3, none⟩ = some (.int .u8 q.data)) (a4 : w.cell? ⟨P, 4, none⟩ = some (.int .u8 q.ptrs)) (a5 : w.cell? ⟨P, 5, none⟩ = some (.int .u8 q.code)) (a6 : w.cell? ⟨P, 6, none⟩ = some (.int .u16 q.count)) (a7 : w.cell? ⟨S, 2, none⟩ = some (.int .u8 (dep : Int))) (hsg : sg < n) (hn : n ≤ 8) (hdep : dep ≤ 8) (hB0 : B0 < w.heap.size) (hc0 : w.cell? ⟨B0, off + sg, none⟩ = some (.slice ai n2 c2))
    (HPD : Hid (∀ W, Below w.heap.size w W → Calls Fagg.prog 78 #[.slice ai n2 c2, .agg #[.int .u8 q.kind, .int .u16 q.at_, .int .u8 q.data, .int .u8 q.ptrs, .int .u8 q.code, .int .u16 q.count]] W fun e w' => e = .returned (.bool pd) ∧ Below W.heap.size W w'))
    (HFO : Hid (∀ W, Below w.heap.size w W → Calls Fagg.prog 79 #[.pointer (some ⟨g, 0, none⟩), .agg #[.int .u8 (sg : Int), .int .u8 q.kind, .int .u16 q.at_, .int .u8 q.data, .int .u8 q.ptrs, .int .u8 q.code, .int .u16 q.count], .int .u8 ((dep : Int) + 1)] W fun e w' => e = .returned (.tuple #[]) ∧ Φ w'))
    (u1 u2 u6 u7 u8 u9 u10 u11 u12 u13 u14 u15 u16 u17 u18 u19 u20 u21 u22 u23 u24 u25 u26 u27 u28 u29 u30 u31 u32 u33 u34 u35 u36 u37 u38 u39 u40 u41 u42 u43 u44 u45 u46 u47 u48 u49 u50 u51 u52 u53 u54 u55 u56 u57 u58 u59 u60 u61 u62 u63 u64 u65 u66 u67 u68 u69 u70 u71 u72 u73 u74 u75 u76 u77 u78 u79 u80 u81 u82 u83 u84 u85 u86 : Value)
    (hret : Hid (∀ (v73 v74 v75 v76 v77 v78 v79 v80 v81 : Value) (w' : World), pd = false → Below w.heap.size w w' → Q .ret ⟨List.toArray ((.slice (some ⟨B0, off, none⟩) n c) :: u1 :: (.bool false) :: (.pointer (some ⟨g, 0, none⟩)) :: (.pointer (some ⟨S, 0, none⟩)) :: (.pointer (some ⟨P, 0, none⟩)) :: u6 :: u7 :: u8 :: u9 :: u10 :: u11 :: u12 :: u13 :: u14 :: u15 :: u16 :: u17 :: u18 :: u19 :: u20 :: u21 :: u22 :: u23 :: u24 :: u25 :: u26 :: u27 :: u28 :: u29 :: u30 :: u31 :: u32 :: u33 :: u34 :: u35 :: u36 :: u37 :: u38 :: u39 :: u40 :: u41 :: u42 :: u43 :: u44 :: u45 :: u46 :: u47 :: u48 :: u49 :: u50 :: u51 :: u52 :: u53 :: u54 :: u55 :: u56 :: u57 :: u58 :: u59 :: u60 :: u61 :: u62 :: u63 :: u64 :: u65 :: u66 :: u67 :: u68 :: u69 :: u70 :: u71 :: u72 :: v73 :: v74 :: v75 :: v76 :: v77 :: v78 :: v79 :: v80 :: v81 :: u82 :: u83 :: u84 :: u85 :: u86 :: []), []⟩ w'))
    (hend : Hid (∀ (v73 v74 v75 v76 v77 v78 v79 v80 v81 v82 v83 v84 v85 v86 : Value) (w' : World), pd = true → Φ w' → Q .normal ⟨List.toArray ((.slice (some ⟨B0, off, none⟩) n c) :: u1 :: u2 :: (.pointer (some ⟨g, 0, none⟩)) :: (.pointer (some ⟨S, 0, none⟩)) :: (.pointer (some ⟨P, 0, none⟩)) :: u6 :: u7 :: u8 :: u9 :: u10 :: u11 :: u12 :: u13 :: u14 :: u15 :: u16 :: u17 :: u18 :: u19 :: u20 :: u21 :: u22 :: u23 :: u24 :: u25 :: u26 :: u27 :: u28 :: u29 :: u30 :: u31 :: u32 :: u33 :: u34 :: u35 :: u36 :: u37 :: u38 :: u39 :: u40 :: u41 :: u42 :: u43 :: u44 :: u45 :: u46 :: u47 :: u48 :: u49 :: u50 :: u51 :: u52 :: u53 :: u54 :: u55 :: u56 :: u57 :: u58 :: u59 :: u60 :: u61 :: u62 :: u63 :: u64 :: u65 :: u66 :: u67 :: u68 :: u69 :: u70 :: u71 :: u72 :: v73 :: v74 :: v75 :: v76 :: v77 :: v78 :: v79 :: v80 :: v81 :: v82 :: v83 :: v84 :: v85 :: v86 :: []), []⟩ w')) :
    Code.wp Fagg.prog (bodyAt Fagg.f31 [1, 1, 1, 1, 1, 0, 0, 0, 1, 0, 1, 1, 1, 1, 1, 1, 1]) Q ⟨List.toArray ((.slice (some ⟨B0, off, none⟩) n c) :: u1 :: u2 :: (.pointer (some ⟨g, 0, none⟩)) :: (.pointer (some ⟨S, 0, none⟩)) :: (.pointer (some ⟨P, 0, none⟩)) :: u6 :: u7 :: u8 :: u9 :: u10 :: u11 :: u12 :: u13 :: u14 :: u15 :: u16 :: u17 :: u18 :: u19 :: u20 :: u21 :: u22 :: u23 :: u24 :: u25 :: u26 :: u27 :: u28 :: u29 :: u30 :: u31 :: u32 :: u33 :: u34 :: u35 :: u36 :: u37 :: u38 :: u39 :: u40 :: u41 :: u42 :: u43 :: u44 :: u45 :: u46 :: u47 :: u48 :: u49 :: u50 :: u51 :: u52 :: u53 :: u54 :: u55 :: u56 :: u57 :: u58 :: u59 :: u60 :: u61 :: u62 :: u63 :: u64 :: u65 :: u66 :: u67 :: u68 :: u69 :: u70 :: u71 :: u72 :: u73 :: u74 :: u75 :: u76 :: u77 :: u78 :: u79 :: u80 :: u81 :: u82 :: u83 :: u84 :: u85 :: u86 :: []), []⟩ w := by
  conv => arg 2; whnf
  have hs0 : (0 : Int) ≤ (sg : Int) := by omega
  have hs1 : (sg : Int) < (n : Int) := by omega
  have hl0 : ∀ l : Later w, l.u.cell? ⟨P, 0, none⟩ = some (.int .u8 (sg : Int)) := fun l => (l.cell (p := ⟨P, 0, none⟩) hP).trans a0
  have hl1 : ∀ l : Later w, l.u.cell? ⟨P, 1, none⟩ = some (.int .u8 q.kind) := fun l => (l.cell (p := ⟨P, 1, none⟩) hP).trans a1
  have hl2 : ∀ l : Later w, l.u.cell? ⟨P, 2, none⟩ = some (.int .u16 q.at_) := fun l => (l.cell (p := ⟨P, 2, none⟩) hP).trans a2
  have hl3 : ∀ l : Later w, l.u.cell? ⟨P, 3, none⟩ = some (.int .u8 q.data) := fun l => (l.cell (p := ⟨P, 3, none⟩) hP).trans a3
  have hl4 : ∀ l : Later w, l.u.cell? ⟨P, 4, none⟩ = some (.int .u8 q.ptrs) := fun l => (l.cell (p := ⟨P, 4, none⟩) hP).trans a4
  have hl5 : ∀ l : Later w, l.u.cell? ⟨P, 5, none⟩ = some (.int .u8 q.code) := fun l => (l.cell (p := ⟨P, 5, none⟩) hP).trans a5
  have hl6 : ∀ l : Later w, l.u.cell? ⟨P, 6, none⟩ = some (.int .u16 q.count) := fun l => (l.cell (p := ⟨P, 6, none⟩) hP).trans a6
  have hl7 : ∀ l : Later w, l.u.cell? ⟨S, 2, none⟩ = some (.int .u8 (dep : Int)) := fun l => (l.cell (p := ⟨S, 2, none⟩) hS).trans a7
  have hl9 : ∀ l : Later w, l.u.cell? ⟨B0, off + sg, none⟩ = some (.slice ai n2 c2) := fun l => (l.cell (p := ⟨B0, off + sg, none⟩) hB0).trans hc0
  cases hpd : pd with
  | false =>
    rw [hpd] at HPD
    go_wp2_with fail
    refine wp_region_later (by kernel_rfl) (by kernel_rfl) ?_
    intro hne
    repeat (go_big_quiet_step ((go_at_call 78; exact Calls.later (unhide HPD _ (Later.h _)))))
    refine wpQuiet_nil ?_
    rintro _ ⟨lw, rfl⟩
    go_wp2_with fail
    exact unhide hret _ _ _ _ _ _ _ _ _ _ hpd lw.h
  | true =>
    rw [hpd] at HPD
    go_wp2_with fail
    refine wp_region_later (by kernel_rfl) (by kernel_rfl) ?_
    intro hne
    repeat (go_big_quiet_step ((go_at_call 78; exact Calls.later (unhide HPD _ (Later.h _)))))
    refine wpQuiet_nil ?_
    rintro _ ⟨lw, rfl⟩
    have HF2 := hide (unhide HFO lw.u lw.h)
    go_wp2_with (go_at_call 79; with_reducible refine (unhide HF2).mono ?_; rintro e w2 ⟨rfl, hphi⟩; have HPHI := hide hphi; clear hphi)
    exact unhide hend _ _ _ _ _ _ _ _ _ _ _ _ _ _ _ hpd (unhide HPHI)
end Go.Proofs.Ygcfag
