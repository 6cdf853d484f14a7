/-
  WALKS: seg.Validate: an object and its pad are claimed.
-/
import Derived.Test.YgcfagW80
import Derived.Test.YgcfagW54
namespace Go.Proofs.Ygcfag
open Go.RowKit
set_option linter.unusedVariables false
set_option linter.unusedSimpArgs false

/-- Of what was there nothing but block g has turned. -/
structure Kept (g : Nat) (w w' : World) : Prop where
  size : w.heap.size ≤ w'.heap.size
  cell : ∀ b p, b < w.heap.size → b ≠ g → w'.cell? ⟨b, p, none⟩ = w.cell? ⟨b, p, none⟩
  bel : ∀ B, B ≤ g → B ≤ w.heap.size → Below B w w'

theorem Kept.trans {g : Nat} {a b c : World} (h : Kept g a b) (k : Kept g b c) : Kept g a c :=
  ⟨Nat.le_trans h.size k.size, fun x p hx hg => (k.cell x p (Nat.lt_of_lt_of_le hx h.size) hg).trans (h.cell x p hx hg), fun B h1 h2 => (h.bel B h1 h2).trans (k.bel B h1 (Nat.le_trans h2 h.size))⟩
theorem Kept.of_below {g : Nat} {w w' : World} (h : Below w.heap.size w w') : Kept g w w' := ⟨h.size, fun b p hb _ => h.cell (p := ⟨b, p, none⟩) hb, fun B _ h2 => h.mono h2⟩
theorem Kept.of_wrote4 {g o : Nat} {w w' : World} (h : Wrote4 g o w w') : Kept g w w' := ⟨Nat.le_of_eq h.size.symm, fun b p _ hg => h.cell b p (.inl hg), fun B h1 _ => h.bel B h1⟩
theorem Kept.of_wroteG {g : Nat} {w w' : World} (h : WroteG g w w') : Kept g w w' := ⟨h.size, fun b p hb hg => h.cell b p hb (.inl hg), h.bel⟩
theorem Kept.of_wroteS {g : Nat} {w w' : World} (h : WroteS g w w') : Kept g w w' := ⟨Nat.le_of_eq h.size.symm, fun b p _ hg => h.cell b p (.inl hg), fun B h1 _ => h.bel B h1⟩

set_option maxHeartbeats 1000000 in
set_option maxRecDepth 100000 in
theorem val_claim {Q : Exit → Act → World → Prop} (sg dep g S P P2 ps pa pw fq wq : Nat) (q : Pt) (L st : List (Nat × Nat × Nat)) (w : World) (hS : S < w.heap.size) (hP : P < w.heap.size) (hP2 : P2 < w.heap.size) (hSg : S ≠ g) (hPg : P ≠ g) (hP2g : P2 ≠ g) (a0 : w.cell? ⟨P, 0, none⟩ = some (.int .u8 (sg : Int))) (a1 : w.cell? ⟨P, 1, none⟩ = some (.int .u8 q.kind)) (a2 : w.cell? ⟨P, 2, none⟩ = some (.int .u16 q.at_)) (a3 : w.cell? ⟨P, 3, none⟩ = some (.int .u8 q.data)) (a4 : w.cell? ⟨P, 4, none⟩ = some (.int .u8 q.ptrs)) (a5 : w.cell? ⟨P, 5, none⟩ = some (.int .u8 q.code)) (a6 : w.cell? ⟨P, 6, none⟩ = some (.int .u16 q.count)) (a7 : w.cell? ⟨S, 2, none⟩ = some (.int .u8 (dep : Int))) (a8 : w.cell? ⟨P2, 0, none⟩ = some (.int .u8 (ps : Int))) (a9 : w.cell? ⟨P2, 1, none⟩ = some (.int .u16 (pa : Int))) (a10 : w.cell? ⟨P2, 2, none⟩ = some (.int .u8 (pw : Int))) (hsg : sg < 8) (hps : ps < 8) (hpf : pa + pw ≤ 256) (hpw : pw ≤ 2) (hqf : fq + wq ≤ 256) (hsets : SetsAt w g L) (hstk : StackAt w g st) (hL : ∀ o ∈ L, o.2.1 < o.2.2)
    (HEX : Hid (∀ W, Calls Fagg.prog 76 #[.agg #[.int .u8 q.kind, .int .u16 q.at_, .int .u8 q.data, .int .u8 q.ptrs, .int .u8 q.code, .int .u16 q.count]] W fun e w' => e = .returned (.tuple #[.int .u16 (fq : Int), .int .u16 (wq : Int)]) ∧ Below W.heap.size W w'))
    (u0 u1 u2 u7 u8 u9 u10 u11 u12 u13 u14 u15 u16 u17 u18 u19 u20 u21 u22 u23 u24 u25 u26 u27 u28 u29 u30 u31 u32 u33 u34 u35 u36 u37 u38 u39 u40 u41 u42 u43 u44 u45 u46 u47 u48 u49 u50 u51 u52 u53 u54 u55 u56 u57 u58 u59 u60 u61 u62 u63 u64 u65 u66 u67 u68 u69 u70 u71 u72 u73 u74 u75 u76 u77 u78 u79 u80 u81 u82 u83 u84 u85 u86 : Value)
    (hret : Hid (∀ (v8 v9 v45 v46 v47 v48 v49 v50 v51 v52 v53 v54 v55 v56 v57 v58 v59 v60 v61 v62 v63 v64 v65 v66 v67 v68 v69 v70 v71 v72 : Value) (w' : World), (8 < dep ∨ gatherB L ps pa pw = false ∨ gatherB (L ++ ivs ps pa pw) sg fq wq = false) → Kept g w w' → Q .ret ⟨List.toArray (u0 :: u1 :: (.bool false) :: (.pointer (some ⟨g, 0, none⟩)) :: (.pointer (some ⟨S, 0, none⟩)) :: (.pointer (some ⟨P, 0, none⟩)) :: (.pointer (some ⟨P2, 0, none⟩)) :: u7 :: v8 :: v9 :: u10 :: u11 :: u12 :: u13 :: u14 :: u15 :: u16 :: u17 :: u18 :: u19 :: u20 :: u21 :: u22 :: u23 :: u24 :: u25 :: u26 :: u27 :: u28 :: u29 :: u30 :: u31 :: u32 :: u33 :: u34 :: u35 :: u36 :: u37 :: u38 :: u39 :: u40 :: u41 :: u42 :: u43 :: u44 :: v45 :: v46 :: v47 :: v48 :: v49 :: v50 :: v51 :: v52 :: v53 :: v54 :: v55 :: v56 :: v57 :: v58 :: v59 :: v60 :: v61 :: v62 :: v63 :: v64 :: v65 :: v66 :: v67 :: v68 :: v69 :: v70 :: v71 :: v72 :: u73 :: u74 :: u75 :: u76 :: u77 :: u78 :: u79 :: u80 :: u81 :: u82 :: u83 :: u84 :: u85 :: u86 :: []), []⟩ w'))
    (hend : Hid (∀ (v8 v9 v45 v46 v47 v48 v49 v50 v51 v52 v53 v54 v55 v56 v57 v58 v59 v60 v61 v62 v63 v64 v65 v66 v67 v68 v69 v70 v71 v72 : Value) (w' : World), dep ≤ 8 → gatherB L ps pa pw = true → gatherB (L ++ ivs ps pa pw) sg fq wq = true → Kept g w w' → SetsAt w' g (L ++ ivs ps pa pw ++ ivs sg fq wq) → StackAt w' g st → Code.wp Fagg.prog (bodyAt Fagg.f31 [1, 1, 1, 1, 1, 0, 0, 0, 1, 0, 1, 1, 1, 1, 1, 1, 1]) Q ⟨List.toArray (u0 :: u1 :: u2 :: (.pointer (some ⟨g, 0, none⟩)) :: (.pointer (some ⟨S, 0, none⟩)) :: (.pointer (some ⟨P, 0, none⟩)) :: (.pointer (some ⟨P2, 0, none⟩)) :: u7 :: v8 :: v9 :: u10 :: u11 :: u12 :: u13 :: u14 :: u15 :: u16 :: u17 :: u18 :: u19 :: u20 :: u21 :: u22 :: u23 :: u24 :: u25 :: u26 :: u27 :: u28 :: u29 :: u30 :: u31 :: u32 :: u33 :: u34 :: u35 :: u36 :: u37 :: u38 :: u39 :: u40 :: u41 :: u42 :: u43 :: u44 :: v45 :: v46 :: v47 :: v48 :: v49 :: v50 :: v51 :: v52 :: v53 :: v54 :: v55 :: v56 :: v57 :: v58 :: v59 :: v60 :: v61 :: v62 :: v63 :: v64 :: v65 :: v66 :: v67 :: v68 :: v69 :: v70 :: v71 :: v72 :: u73 :: u74 :: u75 :: u76 :: u77 :: u78 :: u79 :: u80 :: u81 :: u82 :: u83 :: u84 :: u85 :: u86 :: []), []⟩ w')) :
    Code.wp Fagg.prog (bodyAt Fagg.f31 [1, 1, 1, 1, 1, 0, 0, 0, 1, 0, 1, 1, 1, 1, 1]) Q ⟨List.toArray (u0 :: u1 :: u2 :: (.pointer (some ⟨g, 0, none⟩)) :: (.pointer (some ⟨S, 0, none⟩)) :: (.pointer (some ⟨P, 0, none⟩)) :: (.pointer (some ⟨P2, 0, none⟩)) :: u7 :: u8 :: u9 :: u10 :: u11 :: u12 :: u13 :: u14 :: u15 :: u16 :: u17 :: u18 :: u19 :: u20 :: u21 :: u22 :: u23 :: u24 :: u25 :: u26 :: u27 :: u28 :: u29 :: u30 :: u31 :: u32 :: u33 :: u34 :: u35 :: u36 :: u37 :: u38 :: u39 :: u40 :: u41 :: u42 :: u43 :: u44 :: u45 :: u46 :: u47 :: u48 :: u49 :: u50 :: u51 :: u52 :: u53 :: u54 :: u55 :: u56 :: u57 :: u58 :: u59 :: u60 :: u61 :: u62 :: u63 :: u64 :: u65 :: u66 :: u67 :: u68 :: u69 :: u70 :: u71 :: u72 :: u73 :: u74 :: u75 :: u76 :: u77 :: u78 :: u79 :: u80 :: u81 :: u82 :: u83 :: u84 :: u85 :: u86 :: []), []⟩ w := by
  conv => arg 2; whnf
  have HSETS := hide hsets
  have HSTK := hide hstk
  have HC1 := hide (fun W (h : SetsAt W g L) => vclaim_any g ps pa pw L W hps h hL hpf)
  have hL1 : ∀ o ∈ L ++ ivs ps pa pw, o.2.1 < o.2.2 := fun o ho => by
    rw [List.mem_append] at ho
    rcases ho with ho | ho
    · exact hL o ho
    · exact ivs_wf _ _ _ o ho
  have HC2 := hide (fun W (h : SetsAt W g (L ++ ivs ps pa pw)) => vclaim_any g sg fq wq (L ++ ivs ps pa pw) W hsg h hL1 hqf)
  clear hsets hstk hL hL1
  refine wp_seq_k (fun K0 hK0 => ?_)
  have HK0 := hide hK0
  clear hK0
  go_wp2_with (go_at_call 76; with_reducible refine (unhide HEX _).mono ?_; rintro e w1 ⟨rfl, hb1⟩; have c0 := (hb1.cell (p := ⟨P, 0, none⟩) hP).trans a0; have c1 := (hb1.cell (p := ⟨P, 1, none⟩) hP).trans a1; have c2 := (hb1.cell (p := ⟨P, 2, none⟩) hP).trans a2; have c3 := (hb1.cell (p := ⟨P, 3, none⟩) hP).trans a3; have c4 := (hb1.cell (p := ⟨P, 4, none⟩) hP).trans a4; have c5 := (hb1.cell (p := ⟨P, 5, none⟩) hP).trans a5; have c6 := (hb1.cell (p := ⟨P, 6, none⟩) hP).trans a6; have c7 := (hb1.cell (p := ⟨S, 2, none⟩) hS).trans a7; have c8 := (hb1.cell (p := ⟨P2, 0, none⟩) hP2).trans a8; have c9 := (hb1.cell (p := ⟨P2, 1, none⟩) hP2).trans a9; have c10 := (hb1.cell (p := ⟨P2, 2, none⟩) hP2).trans a10; have hsz1 := hb1.size; have HK1 := hide (Kept.of_below (g := g) hb1); have HS1 := hide ((unhide HSETS).below hb1); have HT1 := hide ((unhide HSTK).below hb1); clear hb1)
  refine unhide HK0 _ _ ?_
  clear HK0 a0 a1 a2 a3 a4 a5 a6 a7 a8 a9 a10
  refine wp_seq_k (fun K0 hK0 => ?_)
  have HK0 := hide hK0
  clear hK0
  by_cases hdep : 8 < dep
  · have hd' : (dep : Int) > 8 := by omega
    go_wp2_with fail
    exact unhide hret _ _ _ _ _ _ _ _ _ _ _ _ _ _ _ _ _ _ _ _ _ _ _ _ _ _ _ _ _ _ _ (.inl hdep) (unhide HK1)
  have hd' : ¬ (dep : Int) > 8 := by omega
  cases h1 : gatherB L ps pa pw with
  | false =>
    rw [h1] at HC1
    have H1 := hide h1
    clear h1
    go_wp2_with (go_at_call 77; with_reducible refine (unhide HC1 _ (unhide HS1)).mono ?_; rintro e w2 ⟨rfl, hs2, hwr2⟩; have d0 := (hwr2.cell P 0 (.inl hPg)).trans c0; have d1 := (hwr2.cell P 1 (.inl hPg)).trans c1; have d2 := (hwr2.cell P 2 (.inl hPg)).trans c2; have d3 := (hwr2.cell P 3 (.inl hPg)).trans c3; have d4 := (hwr2.cell P 4 (.inl hPg)).trans c4; have d5 := (hwr2.cell P 5 (.inl hPg)).trans c5; have d6 := (hwr2.cell P 6 (.inl hPg)).trans c6; have d7 := (hwr2.cell S 2 (.inl hSg)).trans c7; have d8 := (hwr2.cell P2 0 (.inl hP2g)).trans c8; have d9 := (hwr2.cell P2 1 (.inl hP2g)).trans c9; have d10 := (hwr2.cell P2 2 (.inl hP2g)).trans c10; have hsz2 := hwr2.size; have HK2 := hide (Kept.of_wrote4 (hwr2)); have HS2 := hide hs2; have HT2 := hide ((unhide HT1).wrote4 hwr2 (by omega)); clear hs2 hwr2)
    exact unhide hret _ _ _ _ _ _ _ _ _ _ _ _ _ _ _ _ _ _ _ _ _ _ _ _ _ _ _ _ _ _ _ (.inr (.inl (unhide H1))) ((unhide HK1).trans (unhide HK2))
  | true =>
    rw [h1] at HC1
    have H1 := hide h1
    clear h1
    cases h2 : gatherB (L ++ ivs ps pa pw) sg fq wq with
    | false =>
      rw [h2] at HC2
      have H2 := hide h2
      clear h2
      go_wp2_with (first | (go_at_call 77; with_reducible refine (unhide HC1 _ (unhide HS1)).mono ?_; rintro e w2 ⟨rfl, hs2, hwr2⟩; have d0 := (hwr2.cell P 0 (.inl hPg)).trans c0; have d1 := (hwr2.cell P 1 (.inl hPg)).trans c1; have d2 := (hwr2.cell P 2 (.inl hPg)).trans c2; have d3 := (hwr2.cell P 3 (.inl hPg)).trans c3; have d4 := (hwr2.cell P 4 (.inl hPg)).trans c4; have d5 := (hwr2.cell P 5 (.inl hPg)).trans c5; have d6 := (hwr2.cell P 6 (.inl hPg)).trans c6; have d7 := (hwr2.cell S 2 (.inl hSg)).trans c7; have d8 := (hwr2.cell P2 0 (.inl hP2g)).trans c8; have d9 := (hwr2.cell P2 1 (.inl hP2g)).trans c9; have d10 := (hwr2.cell P2 2 (.inl hP2g)).trans c10; have hsz2 := hwr2.size; have HK2 := hide (Kept.of_wrote4 (hwr2)); have HS2 := hide hs2; have HT2 := hide ((unhide HT1).wrote4 hwr2 (by omega)); clear hs2 hwr2) | (go_at_call 77; with_reducible refine (unhide HC2 _ (unhide HS2)).mono ?_; rintro e w3 ⟨rfl, hs3, hwr3⟩; have HK3 := hide (Kept.of_wrote4 (hwr3)); have HS3 := hide hs3; have HT3 := hide ((unhide HT2).wrote4 hwr3 (by omega)); clear hs3 hwr3))
      exact unhide hret _ _ _ _ _ _ _ _ _ _ _ _ _ _ _ _ _ _ _ _ _ _ _ _ _ _ _ _ _ _ _ (.inr (.inr (unhide H2))) (((unhide HK1).trans (unhide HK2)).trans (unhide HK3))
    | true =>
      rw [h2] at HC2
      have H2 := hide h2
      clear h2
      go_wp2_with (first | (go_at_call 77; with_reducible refine (unhide HC1 _ (unhide HS1)).mono ?_; rintro e w2 ⟨rfl, hs2, hwr2⟩; have d0 := (hwr2.cell P 0 (.inl hPg)).trans c0; have d1 := (hwr2.cell P 1 (.inl hPg)).trans c1; have d2 := (hwr2.cell P 2 (.inl hPg)).trans c2; have d3 := (hwr2.cell P 3 (.inl hPg)).trans c3; have d4 := (hwr2.cell P 4 (.inl hPg)).trans c4; have d5 := (hwr2.cell P 5 (.inl hPg)).trans c5; have d6 := (hwr2.cell P 6 (.inl hPg)).trans c6; have d7 := (hwr2.cell S 2 (.inl hSg)).trans c7; have d8 := (hwr2.cell P2 0 (.inl hP2g)).trans c8; have d9 := (hwr2.cell P2 1 (.inl hP2g)).trans c9; have d10 := (hwr2.cell P2 2 (.inl hP2g)).trans c10; have hsz2 := hwr2.size; have HK2 := hide (Kept.of_wrote4 (hwr2)); have HS2 := hide hs2; have HT2 := hide ((unhide HT1).wrote4 hwr2 (by omega)); clear hs2 hwr2) | (go_at_call 77; with_reducible refine (unhide HC2 _ (unhide HS2)).mono ?_; rintro e w3 ⟨rfl, hs3, hwr3⟩; have HK3 := hide (Kept.of_wrote4 (hwr3)); have HS3 := hide hs3; have HT3 := hide ((unhide HT2).wrote4 hwr3 (by omega)); clear hs3 hwr3))
      refine unhide HK0 _ _ ?_
      exact unhide hend _ _ _ _ _ _ _ _ _ _ _ _ _ _ _ _ _ _ _ _ _ _ _ _ _ _ _ _ _ _ _ (by omega) (unhide H1) (unhide H2) (((unhide HK1).trans (unhide HK2)).trans (unhide HK3)) (unhide HS3) (unhide HT3)
end Go.Proofs.Ygcfag
