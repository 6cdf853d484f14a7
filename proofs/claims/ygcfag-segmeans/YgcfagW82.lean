/-
  WALKS: seg.Validate: one round.
-/
import Derived.Test.YgcfagW81
import Derived.Test.YgcfagW74
namespace Go.Proofs.Ygcfag
open Go.RowKit
set_option linter.unusedVariables false
set_option linter.unusedSimpArgs false

/-- The pending pointer of a slot (word, segment, depth). -/
def nodeOf (x : Nat × Nat × Nat) : Nat × Nat × Nat := (9 - x.2.2, x.2.1, x.1)

/-- What holds ahead of each round. -/
structure VInv (ms : List (List Int)) (w wr : World) (g : Nat) (L stk : List (Nat × Nat × Nat)) (k : Nat) : Prop where
  sets : SetsAt wr g L
  stack : StackAt wr g stk
  wf : ∀ o ∈ L, o.2.1 < o.2.2
  nodes : ∀ x ∈ stk, x.1 < 256 ∧ x.2.1 < 8 ∧ 1 ≤ x.2.2 ∧ x.2.2 ≤ 9
  val : FB ms L (stk.map nodeOf) = FB ms [(0, 0, 1)] [(8, 0, 0)]
  free : stk.length + freeN ms L ≤ k
  k256 : k ≤ 256
  bel : Below w.heap.size w wr

set_option maxHeartbeats 1000000 in
set_option maxRecDepth 100000 in
theorem val_pop {Q : Exit → Act → World → Prop} (B0 off n c g at_ sg dep : Nat) (L st : List (Nat × Nat × Nat)) (r : Option Sp) (w : World) (hsets : SetsAt w g L) (hstk : StackAt w g (st ++ [(at_, sg, dep)])) (hat : at_ < 256) (hsg : sg < 8) (hdep : dep ≤ 9)
    (HRS0 : Hid (∀ W, Kept g w W → Calls Fagg.prog 27 #[.slice (some ⟨B0, off, none⟩) n c, .int .u8 (sg : Int), .int .u16 (at_ : Int)] W fun e w' => e = .returned (spRes r) ∧ Below W.heap.size W w'))
    (u1 u2 u1 u2 u4 u5 u6 u7 u8 u9 u10 u11 u12 u13 u14 u15 u16 u17 u18 u19 u20 u21 u22 u23 u24 u25 u26 u27 u28 u29 u30 u31 u32 u33 u34 u35 u36 u37 u38 u39 u40 u41 u42 u43 u44 u45 u46 u47 u48 u49 u50 u51 u52 u53 u54 u55 u56 u57 u58 u59 u60 u61 u62 u63 u64 u65 u66 u67 u68 u69 u70 u71 u72 u73 u74 u75 u76 u77 u78 u79 u80 u81 u82 u83 u84 u85 u86 : Value)
    (hret : Hid (∀ (v4 v5 v6 v7 v8 v9 v20 v21 v22 v23 v24 v25 v26 v27 v28 v29 v30 v31 v32 v33 v34 v35 v36 v37 v38 v39 v40 v41 v42 v43 v44 v45 v46 v47 v48 v49 v50 v51 v52 v53 v54 v55 v56 v57 v58 v59 v60 v61 v62 v63 v64 v65 v66 v67 v68 v69 v70 v71 v72 v73 v74 v75 v76 v77 v78 v79 v80 v81 v82 v83 v84 v85 v86 : Value) (w' : World), r = none → Kept g w w' → Q .ret ⟨List.toArray ((.slice (some ⟨B0, off, none⟩) n c) :: u1 :: (.bool false) :: (.pointer (some ⟨g, 0, none⟩)) :: v4 :: v5 :: v6 :: v7 :: v8 :: v9 :: u10 :: u11 :: u12 :: u13 :: u14 :: u15 :: u16 :: u17 :: u18 :: u19 :: v20 :: v21 :: v22 :: v23 :: v24 :: v25 :: v26 :: v27 :: v28 :: v29 :: v30 :: v31 :: v32 :: v33 :: v34 :: v35 :: v36 :: v37 :: v38 :: v39 :: v40 :: v41 :: v42 :: v43 :: v44 :: v45 :: v46 :: v47 :: v48 :: v49 :: v50 :: v51 :: v52 :: v53 :: v54 :: v55 :: v56 :: v57 :: v58 :: v59 :: v60 :: v61 :: v62 :: v63 :: v64 :: v65 :: v66 :: v67 :: v68 :: v69 :: v70 :: v71 :: v72 :: v73 :: v74 :: v75 :: v76 :: v77 :: v78 :: v79 :: v80 :: v81 :: v82 :: v83 :: v84 :: v85 :: v86 :: []), []⟩ w'))
    (hcont : Hid (∀ (v4 v5 v6 v7 v8 v9 v20 v21 v22 v23 v24 v25 v26 v27 v28 v29 v30 v31 v32 v33 v34 v35 v36 v37 v38 v39 v40 v41 v42 v43 v44 v45 v46 v47 v48 v49 v50 v51 v52 v53 v54 v55 v56 v57 v58 v59 v60 v61 v62 v63 v64 v65 v66 v67 v68 v69 v70 v71 v72 v73 v74 v75 v76 v77 v78 v79 v80 v81 v82 v83 v84 v85 v86 : Value) (w' : World) (p : Sp), r = some p → p.pt.kind = 0 → Kept g w w' → SetsAt w' g L → StackAt w' g st → Q (.exit 1) ⟨List.toArray ((.slice (some ⟨B0, off, none⟩) n c) :: u1 :: u2 :: (.pointer (some ⟨g, 0, none⟩)) :: v4 :: v5 :: v6 :: v7 :: v8 :: v9 :: u10 :: u11 :: u12 :: u13 :: u14 :: u15 :: u16 :: u17 :: u18 :: u19 :: v20 :: v21 :: v22 :: v23 :: v24 :: v25 :: v26 :: v27 :: v28 :: v29 :: v30 :: v31 :: v32 :: v33 :: v34 :: v35 :: v36 :: v37 :: v38 :: v39 :: v40 :: v41 :: v42 :: v43 :: v44 :: v45 :: v46 :: v47 :: v48 :: v49 :: v50 :: v51 :: v52 :: v53 :: v54 :: v55 :: v56 :: v57 :: v58 :: v59 :: v60 :: v61 :: v62 :: v63 :: v64 :: v65 :: v66 :: v67 :: v68 :: v69 :: v70 :: v71 :: v72 :: v73 :: v74 :: v75 :: v76 :: v77 :: v78 :: v79 :: v80 :: v81 :: v82 :: v83 :: v84 :: v85 :: v86 :: []), []⟩ w'))
    (hgo : Hid (∀ (v7 v8 v9 v20 v21 v22 v23 v24 v25 v26 v27 v28 v29 v30 v31 v32 v33 v34 v35 v36 v37 v38 v39 v40 v41 v42 v43 v44 v45 v46 v47 v48 v49 v50 v51 v52 v53 v54 v55 v56 v57 v58 v59 v60 v61 v62 v63 v64 v65 v66 v67 v68 v69 v70 v71 v72 v73 v74 v75 v76 v77 v78 v79 v80 v81 v82 v83 v84 v85 v86 : Value) (w' : World) (p : Sp) (S P : Nat), r = some p → p.pt.kind ≠ 0 → Kept g w w' → SetsAt w' g L → StackAt w' g st → w.heap.size ≤ S → S < P → P + 1 < w'.heap.size → w'.cell? ⟨S, 2, none⟩ = some (.int .u8 (dep : Int)) → R7 w' P p.seg p.pt → R3 w' (P + 1) p.pseg p.pat p.pwords →
      Code.wp Fagg.prog (bodyAt Fagg.f31 [1, 1, 1, 1, 1, 0, 0, 0, 1, 0, 1, 1, 1, 1, 1]) Q ⟨List.toArray ((.slice (some ⟨B0, off, none⟩) n c) :: u1 :: u2 :: (.pointer (some ⟨g, 0, none⟩)) :: (.pointer (some ⟨S, 0, none⟩)) :: (.pointer (some ⟨P, 0, none⟩)) :: (.pointer (some ⟨P + 1, 0, none⟩)) :: v7 :: v8 :: v9 :: u10 :: u11 :: u12 :: u13 :: u14 :: u15 :: u16 :: u17 :: u18 :: u19 :: v20 :: v21 :: v22 :: v23 :: v24 :: v25 :: v26 :: v27 :: v28 :: v29 :: v30 :: v31 :: v32 :: v33 :: v34 :: v35 :: v36 :: v37 :: v38 :: v39 :: v40 :: v41 :: v42 :: v43 :: v44 :: v45 :: v46 :: v47 :: v48 :: v49 :: v50 :: v51 :: v52 :: v53 :: v54 :: v55 :: v56 :: v57 :: v58 :: v59 :: v60 :: v61 :: v62 :: v63 :: v64 :: v65 :: v66 :: v67 :: v68 :: v69 :: v70 :: v71 :: v72 :: v73 :: v74 :: v75 :: v76 :: v77 :: v78 :: v79 :: v80 :: v81 :: v82 :: v83 :: v84 :: v85 :: v86 :: []), []⟩ w')) :
    Code.wp Fagg.prog (bodyAt Fagg.f31 [1, 1, 1, 1, 1, 0, 0, 0, 1, 0]) Q ⟨List.toArray ((.slice (some ⟨B0, off, none⟩) n c) :: u1 :: u2 :: (.pointer (some ⟨g, 0, none⟩)) :: u4 :: u5 :: u6 :: u7 :: u8 :: u9 :: u10 :: u11 :: u12 :: u13 :: u14 :: u15 :: u16 :: u17 :: u18 :: u19 :: u20 :: u21 :: u22 :: u23 :: u24 :: u25 :: u26 :: u27 :: u28 :: u29 :: u30 :: u31 :: u32 :: u33 :: u34 :: u35 :: u36 :: u37 :: u38 :: u39 :: u40 :: u41 :: u42 :: u43 :: u44 :: u45 :: u46 :: u47 :: u48 :: u49 :: u50 :: u51 :: u52 :: u53 :: u54 :: u55 :: u56 :: u57 :: u58 :: u59 :: u60 :: u61 :: u62 :: u63 :: u64 :: u65 :: u66 :: u67 :: u68 :: u69 :: u70 :: u71 :: u72 :: u73 :: u74 :: u75 :: u76 :: u77 :: u78 :: u79 :: u80 :: u81 :: u82 :: u83 :: u84 :: u85 :: u86 :: []), []⟩ w := by
  conv => arg 2; whnf
  have hle := hstk.le
  have hlen : (st ++ [(at_, sg, dep)]).length = st.length + 1 := by simp
  have hgl : (st ++ [(at_, sg, dep)]).getD st.length (0, 0, 0) = (at_, sg, dep) := by
    rw [List.getD_eq_getElem?_getD, List.getElem?_append_right (Nat.le_refl _)]; simp
  have c8 := hstk.cnt
  have f8 := hstk.cntf
  have d0 := hstk.c0 st.length (by omega)
  have d1 := hstk.c1 st.length (by omega)
  have d2 := hstk.c2 st.length (by omega)
  rw [hgl] at d0 d1 d2
  simp only at d0 d1 d2
  rw [hlen] at c8 hle
  have c8' : w.cell? ⟨g, 800, none⟩ = some (.int .u16 ((st.length : Int) + 1)) := by rw [c8]; simp
  have hgw := World.block_lt_of_cell? w _ c8
  have HSETS := hide hsets
  have HSTK := hide hstk
  have hl256 : st.length < 256 := by omega
  clear hsets hstk hlen hgl c8
  have hli : (st.length : Int) < 256 := by omega
  refine wp_seq_k (fun K0 hK0 => ?_)
  have HC0 := hide hK0
  clear hK0
  go_wp2_with fail
  refine unhide HC0 _ _ ?_
  clear HC0
  refine gen_world _ (fun w' => Kept g w w' ∧ w.heap.size ≤ w'.heap.size ∧ SetsAt w' g L ∧ StackAt w' g st ∧ w'.cell? ⟨g, 800, none⟩ = some (.int .u16 (st.length : Int)) ∧ w'.cell? ⟨g, 32 + st.length * 3, none⟩ = some (.int .u16 (at_ : Int)) ∧ w'.cell? ⟨g, 32 + st.length * 3 + 1, none⟩ = some (.int .u8 (sg : Int)) ∧ w'.cell? ⟨g, 32 + st.length * 3 + 2, none⟩ = some (.int .u8 (dep : Int)))
    ⟨Kept.of_wroteS ((WroteS.refl g w).set 800 (by omega) (by omega) _), Nat.le_of_eq (by simp), (unhide HSETS).set800 _, stack_pop (unhide HSTK), cell_same _ _ _ _ _ c8', (cell_other _ _ _ _ _ (by omega)).trans d0, (cell_other _ _ _ _ _ (by omega)).trans d1, (cell_other _ _ _ _ _ (by omega)).trans d2⟩ ?_
  rintro w2 ⟨hk2, hsz2, hse2, hst2, e8, e0, e1, e2⟩
  have HK2 := hide hk2
  have HSE2 := hide hse2
  have HST2 := hide hst2
  have hge2 : g < w2.heap.size := by omega
  clear hk2 hse2 hst2 c8' f8 d0 d1 d2
  refine wp_seq_k (fun K1 hK1 => ?_)
  have HC1 := hide hK1
  clear hK1
  go_wp2_with fail
  refine unhide HC1 _ _ ?_
  clear HC1
  refine gen_world _ (fun w' => Below w2.heap.size w2 w' ∧ w2.heap.size < w'.heap.size ∧ w'.cell? ⟨w2.heap.size, 0, none⟩ = some (.int .u16 (at_ : Int)) ∧ w'.cell? ⟨w2.heap.size, 1, none⟩ = some (.int .u8 (sg : Int)) ∧ w'.cell? ⟨w2.heap.size, 2, none⟩ = some (.int .u8 (dep : Int)))
    ⟨(Below.refl _ _).alloc (Nat.le_refl _) _, by simp, by simp, by simp, by simp⟩ ?_
  rintro w3 ⟨hb3, hsz3, g0, g1, g2⟩
  have HK3 := hide ((unhide HK2).trans (Kept.of_below hb3))
  have HSE3 := hide ((unhide HSE2).below hb3)
  have HST3 := hide ((unhide HST2).below hb3)
  have hS1 : w.heap.size ≤ w2.heap.size := by omega
  clear hb3 e8 e0 e1 e2 HK2 HSE2 HST2
  generalize w2.heap.size = S at *
  have HRS := hide (unhide HRS0 w3 (unhide HK3))
  cases hr : r with
  | none =>
    rw [hr] at HRS
    simp only [spRes, spP, padV, Pt.nil] at HRS
    refine wp_seq_k (fun K2 hK2 => ?_)
    have HC2 := hide hK2
    clear hK2
    go_wp2_with (go_at_call 27; with_reducible refine (unhide HRS).mono ?_; rintro e w4 ⟨rfl, hb4⟩; have HB4 := hide hb4; clear hb4)
    refine unhide HC2 _ _ ?_
    clear HC2
    have HB5 := hide (world10 (unhide HB4) 0 Pt.nil 0 0 0 _ rfl).1
    refine wp_seq_k (fun K3 hK3 => ?_)
    have HC3 := hide hK3
    clear hK3
    go_wp2_with fail
    exact unhide hret _ _ _ _ _ _ _ _ _ _ _ _ _ _ _ _ _ _ _ _ _ _ _ _ _ _ _ _ _ _ _ _ _ _ _ _ _ _ _ _ _ _ _ _ _ _ _ _ _ _ _ _ _ _ _ _ _ _ _ _ _ _ _ _ _ _ _ _ _ _ _ _ _ _ hr ((unhide HK3).trans (Kept.of_below (unhide HB5)))
  | some p =>
    rw [hr] at HRS
    simp only [spRes, spP, padV] at HRS
    refine wp_seq_k (fun K2 hK2 => ?_)
    have HC2 := hide hK2
    clear hK2
    go_wp2_with (go_at_call 27; with_reducible refine (unhide HRS).mono ?_; rintro e w4 ⟨rfl, hb4⟩; have HB4 := hide hb4; clear hb4)
    refine unhide HC2 _ _ ?_
    clear HC2
    refine gen_world _ (fun w' => Below w3.heap.size w3 w' ∧ w3.heap.size ≤ w4.heap.size ∧ w4.heap.size + 1 < w'.heap.size ∧ R7 w' w4.heap.size p.seg p.pt ∧ R3 w' (w4.heap.size + 1) p.pseg p.pat p.pwords) (world10 (unhide HB4) p.seg p.pt p.pseg p.pat p.pwords _ rfl) ?_
    rintro w5 ⟨hb5, hA1, hA2, h7, h3⟩
    obtain ⟨m0, m1, m2, m3, m4, m5, m6⟩ := id h7
    have H7 := hide h7
    have H3 := hide h3
    have HK5 := hide ((unhide HK3).trans (Kept.of_below hb5))
    have HSE5 := hide ((unhide HSE3).below hb5)
    have HST5 := hide ((unhide HST3).below hb5)
    have k2 := (hb5.cell (p := ⟨S, 2, none⟩) hsz3).trans g2
    clear h7 h3 HB4 hb5 g0 g1 g2 HRS
    generalize w4.heap.size = P at *
    by_cases hk : p.pt.kind = 0
    · have hk' : (p.pt.kind == 0) = true := by simp [hk]
      have HKK := hide hk
      clear hk
      refine wp_seq_k (fun K3 hK3 => ?_)
      have HC3 := hide hK3
      clear hK3
      go_wp2_with fail
      refine unhide HC3 _ _ ?_
      clear HC3
      refine wp_seq_k (fun K4 hK4 => ?_)
      have HC4 := hide hK4
      clear hK4
      go_wp2_with fail
      exact unhide hcont _ _ _ _ _ _ _ _ _ _ _ _ _ _ _ _ _ _ _ _ _ _ _ _ _ _ _ _ _ _ _ _ _ _ _ _ _ _ _ _ _ _ _ _ _ _ _ _ _ _ _ _ _ _ _ _ _ _ _ _ _ _ _ _ _ _ _ _ _ _ _ _ _ _ p hr (unhide HKK) (unhide HK5) (unhide HSE5) (unhide HST5)
    · have hk' : (p.pt.kind == 0) = false := by simp [hk]
      refine wp_seq_k (fun K3 hK3 => ?_)
      have HC3 := hide hK3
      clear hK3
      go_wp2_with fail
      refine unhide HC3 _ _ ?_
      clear HC3
      refine wp_seq_k (fun K4 hK4 => ?_)
      have HC4 := hide hK4
      clear hK4
      go_wp2_with fail
      refine unhide HC4 _ _ ?_
      clear HC4
      exact unhide hgo _ _ _ _ _ _ _ _ _ _ _ _ _ _ _ _ _ _ _ _ _ _ _ _ _ _ _ _ _ _ _ _ _ _ _ _ _ _ _ _ _ _ _ _ _ _ _ _ _ _ _ _ _ _ _ _ _ _ _ _ _ _ _ _ _ _ _ _ _ _ _ p S P hr hk (unhide HK5) (unhide HSE5) (unhide HST5) hS1 (by omega) hA2 k2 (unhide H7) (unhide H3)
end Go.Proofs.Ygcfag
