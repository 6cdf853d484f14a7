/-
  WALKS: seg.Validate: one round, whole.
-/
import Derived.Test.YgcfagW83
namespace Go.Proofs.Ygcfag
open Go.RowKit
set_option linter.unusedVariables false
set_option linter.unusedSimpArgs false

set_option maxHeartbeats 1000000 in
set_option maxRecDepth 100000 in
theorem val_round {Q : Exit → Act → World → Prop} (ms : List (List Int)) (B0 off n c g k at_ sg dep : Nat) (L st : List (Nat × Nat × Nat)) (w wr : World) (hs : SegsAt w (some ⟨B0, off, none⟩) ms) (hn : ms.length = n) (hf : fitsOf ms = true) (hw : ∀ i, Wds (ms.getD i [])) (hg : w.heap.size ≤ g) (hv : VInv ms w wr g L (st ++ [(at_, sg, dep)]) k)
    (u1 u2 u1 u2 u4 u5 u6 u7 u8 u9 u10 u11 u12 u13 u14 u15 u16 u17 u18 u19 u20 u21 u22 u23 u24 u25 u26 u27 u28 u29 u30 u31 u32 u33 u34 u35 u36 u37 u38 u39 u40 u41 u42 u43 u44 u45 u46 u47 u48 u49 u50 u51 u52 u53 u54 u55 u56 u57 u58 u59 u60 u61 u62 u63 u64 u65 u66 u67 u68 u69 u70 u71 u72 u73 u74 u75 u76 u77 u78 u79 u80 u81 u82 u83 u84 u85 u86 : Value)
    (hret : Hid (∀ (v4 v5 v6 v7 v8 v9 v20 v21 v22 v23 v24 v25 v26 v27 v28 v29 v30 v31 v32 v33 v34 v35 v36 v37 v38 v39 v40 v41 v42 v43 v44 v45 v46 v47 v48 v49 v50 v51 v52 v53 v54 v55 v56 v57 v58 v59 v60 v61 v62 v63 v64 v65 v66 v67 v68 v69 v70 v71 v72 v73 v74 v75 v76 v77 v78 v79 v80 v81 v82 v83 v84 v85 v86 : Value) (w' : World), FB ms [(0, 0, 1)] [(8, 0, 0)] = false → Below w.heap.size w w' → Q .ret ⟨List.toArray ((.slice (some ⟨B0, off, none⟩) n c) :: u1 :: (.bool false) :: (.pointer (some ⟨g, 0, none⟩)) :: v4 :: v5 :: v6 :: v7 :: v8 :: v9 :: u10 :: u11 :: u12 :: u13 :: u14 :: u15 :: u16 :: u17 :: u18 :: u19 :: v20 :: v21 :: v22 :: v23 :: v24 :: v25 :: v26 :: v27 :: v28 :: v29 :: v30 :: v31 :: v32 :: v33 :: v34 :: v35 :: v36 :: v37 :: v38 :: v39 :: v40 :: v41 :: v42 :: v43 :: v44 :: v45 :: v46 :: v47 :: v48 :: v49 :: v50 :: v51 :: v52 :: v53 :: v54 :: v55 :: v56 :: v57 :: v58 :: v59 :: v60 :: v61 :: v62 :: v63 :: v64 :: v65 :: v66 :: v67 :: v68 :: v69 :: v70 :: v71 :: v72 :: v73 :: v74 :: v75 :: v76 :: v77 :: v78 :: v79 :: v80 :: v81 :: v82 :: v83 :: v84 :: v85 :: v86 :: []), []⟩ w'))
    (hcont : Hid (∀ (v4 v5 v6 v7 v8 v9 v20 v21 v22 v23 v24 v25 v26 v27 v28 v29 v30 v31 v32 v33 v34 v35 v36 v37 v38 v39 v40 v41 v42 v43 v44 v45 v46 v47 v48 v49 v50 v51 v52 v53 v54 v55 v56 v57 v58 v59 v60 v61 v62 v63 v64 v65 v66 v67 v68 v69 v70 v71 v72 v73 v74 v75 v76 v77 v78 v79 v80 v81 v82 v83 v84 v85 v86 : Value) (w' : World) (L' stk' : List (Nat × Nat × Nat)), VInv ms w w' g L' stk' (k - 1) → Q (.exit 1) ⟨List.toArray ((.slice (some ⟨B0, off, none⟩) n c) :: u1 :: u2 :: (.pointer (some ⟨g, 0, none⟩)) :: v4 :: v5 :: v6 :: v7 :: v8 :: v9 :: u10 :: u11 :: u12 :: u13 :: u14 :: u15 :: u16 :: u17 :: u18 :: u19 :: v20 :: v21 :: v22 :: v23 :: v24 :: v25 :: v26 :: v27 :: v28 :: v29 :: v30 :: v31 :: v32 :: v33 :: v34 :: v35 :: v36 :: v37 :: v38 :: v39 :: v40 :: v41 :: v42 :: v43 :: v44 :: v45 :: v46 :: v47 :: v48 :: v49 :: v50 :: v51 :: v52 :: v53 :: v54 :: v55 :: v56 :: v57 :: v58 :: v59 :: v60 :: v61 :: v62 :: v63 :: v64 :: v65 :: v66 :: v67 :: v68 :: v69 :: v70 :: v71 :: v72 :: v73 :: v74 :: v75 :: v76 :: v77 :: v78 :: v79 :: v80 :: v81 :: v82 :: v83 :: v84 :: v85 :: v86 :: []), []⟩ w'))
    (hend : Hid (∀ (v4 v5 v6 v7 v8 v9 v20 v21 v22 v23 v24 v25 v26 v27 v28 v29 v30 v31 v32 v33 v34 v35 v36 v37 v38 v39 v40 v41 v42 v43 v44 v45 v46 v47 v48 v49 v50 v51 v52 v53 v54 v55 v56 v57 v58 v59 v60 v61 v62 v63 v64 v65 v66 v67 v68 v69 v70 v71 v72 v73 v74 v75 v76 v77 v78 v79 v80 v81 v82 v83 v84 v85 v86 : Value) (w' : World) (L' stk' : List (Nat × Nat × Nat)), VInv ms w w' g L' stk' (k - 1) → Q .normal ⟨List.toArray ((.slice (some ⟨B0, off, none⟩) n c) :: u1 :: u2 :: (.pointer (some ⟨g, 0, none⟩)) :: v4 :: v5 :: v6 :: v7 :: v8 :: v9 :: u10 :: u11 :: u12 :: u13 :: u14 :: u15 :: u16 :: u17 :: u18 :: u19 :: v20 :: v21 :: v22 :: v23 :: v24 :: v25 :: v26 :: v27 :: v28 :: v29 :: v30 :: v31 :: v32 :: v33 :: v34 :: v35 :: v36 :: v37 :: v38 :: v39 :: v40 :: v41 :: v42 :: v43 :: v44 :: v45 :: v46 :: v47 :: v48 :: v49 :: v50 :: v51 :: v52 :: v53 :: v54 :: v55 :: v56 :: v57 :: v58 :: v59 :: v60 :: v61 :: v62 :: v63 :: v64 :: v65 :: v66 :: v67 :: v68 :: v69 :: v70 :: v71 :: v72 :: v73 :: v74 :: v75 :: v76 :: v77 :: v78 :: v79 :: v80 :: v81 :: v82 :: v83 :: v84 :: v85 :: v86 :: []), []⟩ w')) :
    Code.wp Fagg.prog (bodyAt Fagg.f31 [1, 1, 1, 1, 1, 0, 0, 0, 1, 0]) Q ⟨List.toArray ((.slice (some ⟨B0, off, none⟩) n c) :: u1 :: u2 :: (.pointer (some ⟨g, 0, none⟩)) :: u4 :: u5 :: u6 :: u7 :: u8 :: u9 :: u10 :: u11 :: u12 :: u13 :: u14 :: u15 :: u16 :: u17 :: u18 :: u19 :: u20 :: u21 :: u22 :: u23 :: u24 :: u25 :: u26 :: u27 :: u28 :: u29 :: u30 :: u31 :: u32 :: u33 :: u34 :: u35 :: u36 :: u37 :: u38 :: u39 :: u40 :: u41 :: u42 :: u43 :: u44 :: u45 :: u46 :: u47 :: u48 :: u49 :: u50 :: u51 :: u52 :: u53 :: u54 :: u55 :: u56 :: u57 :: u58 :: u59 :: u60 :: u61 :: u62 :: u63 :: u64 :: u65 :: u66 :: u67 :: u68 :: u69 :: u70 :: u71 :: u72 :: u73 :: u74 :: u75 :: u76 :: u77 :: u78 :: u79 :: u80 :: u81 :: u82 :: u83 :: u84 :: u85 :: u86 :: []), []⟩ wr := by
  obtain ⟨hn1, hn8, hlen⟩ := fits_facts hf
  obtain ⟨k1, k2, k3, k4⟩ := hv.nodes (at_, sg, dep) (by simp)
  simp only at k1 k2 k3 k4
  have hfree := hv.free
  rw [List.length_append] at hfree
  simp only [List.length_cons, List.length_nil] at hfree
  have hk256 := hv.k256
  have hval := hv.val
  rw [List.map_append, List.map_cons, List.map_nil] at hval
  have hnode : nodeOf (at_, sg, dep) = (9 - dep, sg, at_) := rfl
  rw [hnode] at hval
  have hnodes : ∀ x ∈ st, x.1 < 256 ∧ x.2.1 < 8 ∧ 1 ≤ x.2.2 ∧ x.2.2 ≤ 9 := fun x hx => hv.nodes x (by simp [hx])
  have hsz := hv.bel.size
  have hbelow : ∀ w', Kept g wr w' → Below w.heap.size w w' := fun w' hk => hv.bel.trans (hk.bel _ hg hsz)
  refine val_pop B0 off n c g at_ sg dep L st (resolveB ms sg at_) wr hv.sets hv.stack k1 k2 k4 (hide fun W hW => resolve_any _ n c sg at_ ms W (hs.below (hbelow W hW)) hn (by omega) hw (by omega) (by omega) (fun j => by have := hlen j; omega)) u1 u2 _ _ _ _ _ _ _ _ _ _ _ _ _ _ _ _ _ _ _ _ _ _ _ _ _ _ _ _ _ _ _ _ _ _ _ _ _ _ _ _ _ _ _ _ _ _ _ _ _ _ _ _ _ _ _ _ _ _ _ _ _ _ _ _ _ _ _ _ _ _ _ _ _ _ _ _ _ _ _ _ _ _ _ _ _ (hide ?_) (hide ?_) (hide ?_)
  · intro v4 v5 v6 v7 v8 v9 v20 v21 v22 v23 v24 v25 v26 v27 v28 v29 v30 v31 v32 v33 v34 v35 v36 v37 v38 v39 v40 v41 v42 v43 v44 v45 v46 v47 v48 v49 v50 v51 v52 v53 v54 v55 v56 v57 v58 v59 v60 v61 v62 v63 v64 v65 v66 v67 v68 v69 v70 v71 v72 v73 v74 v75 v76 v77 v78 v79 v80 v81 v82 v83 v84 v85 v86 w' hr hk
    exact unhide hret v4 v5 v6 v7 v8 v9 v20 v21 v22 v23 v24 v25 v26 v27 v28 v29 v30 v31 v32 v33 v34 v35 v36 v37 v38 v39 v40 v41 v42 v43 v44 v45 v46 v47 v48 v49 v50 v51 v52 v53 v54 v55 v56 v57 v58 v59 v60 v61 v62 v63 v64 v65 v66 v67 v68 v69 v70 v71 v72 v73 v74 v75 v76 v77 v78 v79 v80 v81 v82 v83 v84 v85 v86 w' (by rw [← hval]; exact val_none hr _ _) (hbelow w' hk)
  · intro v4 v5 v6 v7 v8 v9 v20 v21 v22 v23 v24 v25 v26 v27 v28 v29 v30 v31 v32 v33 v34 v35 v36 v37 v38 v39 v40 v41 v42 v43 v44 v45 v46 v47 v48 v49 v50 v51 v52 v53 v54 v55 v56 v57 v58 v59 v60 v61 v62 v63 v64 v65 v66 v67 v68 v69 v70 v71 v72 v73 v74 v75 v76 v77 v78 v79 v80 v81 v82 v83 v84 v85 v86 w' p hr hk0 hk hse hst
    exact unhide hcont v4 v5 v6 v7 v8 v9 v20 v21 v22 v23 v24 v25 v26 v27 v28 v29 v30 v31 v32 v33 v34 v35 v36 v37 v38 v39 v40 v41 v42 v43 v44 v45 v46 v47 v48 v49 v50 v51 v52 v53 v54 v55 v56 v57 v58 v59 v60 v61 v62 v63 v64 v65 v66 v67 v68 v69 v70 v71 v72 v73 v74 v75 v76 v77 v78 v79 v80 v81 v82 v83 v84 v85 v86 w' L st ⟨hse, hst, hv.wf, hnodes, by rw [← hval, val_null hr hk0], by omega, by omega, hbelow w' hk⟩
  · intro v7 v8 v9 v20 v21 v22 v23 v24 v25 v26 v27 v28 v29 v30 v31 v32 v33 v34 v35 v36 v37 v38 v39 v40 v41 v42 v43 v44 v45 v46 v47 v48 v49 v50 v51 v52 v53 v54 v55 v56 v57 v58 v59 v60 v61 v62 v63 v64 v65 v66 v67 v68 v69 v70 v71 v72 v73 v74 v75 v76 v77 v78 v79 v80 v81 v82 v83 v84 v85 v86 w1 p S P hr hk0 hkept hse hst hS hSP hP2 hdc h7 h3
    have hM := resolve_inM hr hk0 hw
    have hwb := wordsOf_bd hM.good
    have m1 := hM.seg0; have m2 := hM.seg; have m3 := hM.first; have m4 := hM.fit; have m5 := hM.pseg0; have m6 := hM.pseg; have m7 := hM.pat0; have m8 := hM.pw0; have m9 := hM.pw2; have m10 := hM.pfit
    have l1 := hlen p.seg.toNat
    have l2 := hlen p.pseg.toNat
    have e1 : ((p.seg.toNat : Nat) : Int) = p.seg := by omega
    have e2 : ((p.pseg.toNat : Nat) : Int) = p.pseg := by omega
    have e3 : ((p.pat.toNat : Nat) : Int) = p.pat := by omega
    have e4 : ((p.pwords.toNat : Nat) : Int) = p.pwords := by omega
    have f7 : ((((wordsOf p.pt).toNat : Nat)) : Int) = wordsOf p.pt := by omega
    have f8 : ((((firstOf p.pt).toNat : Nat)) : Int) = firstOf p.pt := by omega
    have hgl := hv.sets.lt
    refine val_claim p.seg.toNat dep g S P (P + 1) p.pseg.toNat p.pat.toNat p.pwords.toNat (firstOf p.pt).toNat (wordsOf p.pt).toNat p.pt L st w1 (by omega) (by omega) (by omega) (by omega) (by omega) (by omega) (by rw [e1]; exact h7.c0) h7.c1 h7.c2 h7.c3 h7.c4 h7.c5 h7.c6 hdc (by rw [e2]; exact h3.c0) (by rw [e3]; exact h3.c1) (by rw [e4]; exact h3.c2) (by omega) (by omega) (by omega) (by omega) (by omega) hse hst hv.wf (hide fun W => by have := extent_any p.pt W hM.good; unfold ptV at this; rw [f7, f8]; exact this) _ _ _ _ _ _ _ _ _ _ _ _ _ _ _ _ _ _ _ _ _ _ _ _ _ _ _ _ _ _ _ _ _ _ _ _ _ _ _ _ _ _ _ _ _ _ _ _ _ _ _ _ _ _ _ _ _ _ _ _ _ _ _ _ _ _ _ _ _ _ _ _ _ _ _ _ _ _ _ _ _ _ _ (hide ?_) (hide ?_)
    · intro x8 x9 x45 x46 x47 x48 x49 x50 x51 x52 x53 x54 x55 x56 x57 x58 x59 x60 x61 x62 x63 x64 x65 x66 x67 x68 x69 x70 x71 x72 w' hor hk2
      refine unhide hret _ _ _ _ _ _ _ _ _ _ _ _ _ _ _ _ _ _ _ _ _ _ _ _ _ _ _ _ _ _ _ _ _ _ _ _ _ _ _ _ _ _ _ _ _ _ _ _ _ _ _ _ _ _ _ _ _ _ _ _ _ _ _ _ _ _ _ _ _ _ _ _ _ w' ?_ (hbelow w' (hkept.trans hk2))
      rw [← hval]
      by_cases hd : 8 < dep
      · rw [show 9 - dep = 0 by omega]; exact val_deep hr hk0 _ _
      · rw [val_step hr hk0 (by omega), own_add]
        rcases hor with h | h | h
        · exact absurd h hd
        · rw [h]; simp
        · rw [h]; simp
    · intro x8 x9 x45 x46 x47 x48 x49 x50 x51 x52 x53 x54 x55 x56 x57 x58 x59 x60 x61 x62 x63 x64 x65 x66 x67 x68 x69 x70 x71 x72 w2 hd8 hg1 hg2 hk2 hse2 hst2
      have hst8 := val_step hr hk0 (show 1 ≤ 9 - dep by omega) L (st.map nodeOf)
      rw [own_add, hg1, hg2, Bool.true_and, Bool.true_and, hval] at hst8
      have hsz2 := hk2.size
      have hown : L ++ ivs p.pseg.toNat p.pat.toNat p.pwords.toNat ++ ivs p.seg.toNat (firstOf p.pt).toNat (wordsOf p.pt).toNat = L ++ ownIvs p := by unfold ownIvs; rw [List.append_assoc]
      have fr1 := freeN_gather (ms := ms) hg1 m6 (by omega)
      have fr2 := freeN_gather (ms := ms) hg2 m2 (by omega)
      rw [hown] at fr2 hse2
      have hkl := (kids_in hM.good).1
      have hkm := (kids_in hM.good).2
      have hb2 : Below w.heap.size w w2 := hbelow w2 (hkept.trans hk2)
      obtain ⟨B0', off', he, hB0, hcell⟩ := hs.get (by omega)
      obtain ⟨rfl, rfl⟩ : B0 = B0' ∧ off = off' := by simpa using he
      obtain ⟨ai, ci, hc0, hci, hsl⟩ := hcell p.seg.toNat (by omega)
      have c0 := (hk2.cell P 0 (by omega) (by omega)).trans h7.c0
      have c1 := (hk2.cell P 1 (by omega) (by omega)).trans h7.c1
      have c2 := (hk2.cell P 2 (by omega) (by omega)).trans h7.c2
      have c3 := (hk2.cell P 3 (by omega) (by omega)).trans h7.c3
      have c4 := (hk2.cell P 4 (by omega) (by omega)).trans h7.c4
      have c5 := (hk2.cell P 5 (by omega) (by omega)).trans h7.c5
      have c6 := (hk2.cell P 6 (by omega) (by omega)).trans h7.c6
      have c7 := (hk2.cell S 2 (by omega) (by omega)).trans hdc
      refine val_tail ai B0 off n c (ms.getD p.seg.toNat []).length ci p.seg.toNat dep g S P p.pt (paddedOf (ms.getD p.seg.toNat []) p.pt) (fun w' => ∃ L' stk', paddedOf (ms.getD p.seg.toNat []) p.pt = true → VInv ms w w' g L' stk' (k - 1)) w2 (by omega) (by omega) (by rw [e1]; exact c0) c1 c2 c3 c4 c5 c6 c7 (by omega) (by omega) (by omega) (by omega) ((hb2.cell (p := ⟨B0, off + p.seg.toNat, none⟩) hB0).trans hc0) (hide fun W hW => ?_) (hide fun W hW => ?_) _ _ _ _ _ _ _ _ _ _ _ _ _ _ _ _ _ _ _ _ _ _ _ _ _ _ _ _ _ _ _ _ _ _ _ _ _ _ _ _ _ _ _ _ _ _ _ _ _ _ _ _ _ _ _ _ _ _ _ _ _ _ _ _ _ _ _ _ _ _ _ _ _ _ _ _ _ _ _ _ _ _ _ (hide ?_) (hide ?_)
      · have := padded_any ai (ms.getD p.seg.toNat []).length ci (ms.getD p.seg.toNat []) p.pt W (hsl.below (hb2.trans (hW.mono hb2.size))) rfl (hw _) (hlen _) hM.good hM.fit
        unfold ptV at this
        exact this
      · have hfo := follow_good g p.seg.toNat (dep + 1) p.pt st W hM.good (hst2.below hW) (by omega) (by omega) (by omega)
        unfold spP at hfo
        rw [show ((dep + 1 : Nat) : Int) = (dep : Int) + 1 by omega] at hfo
        refine hfo.mono fun e w' ⟨he, h4, h5⟩ => ⟨he, L ++ ownIvs p, st ++ slots p.seg.toNat (dep + 1) (kidsP p.pt), fun hpd => ?_⟩
        rw [hpd, Bool.true_and] at hst8
        refine ⟨(hse2.below hW).wroteG h5, h4, fun o ho => ?_, fun x hx => ?_, ?_, ?_, by omega, hbelow w' (((hkept.trans hk2).trans (Kept.of_below hW)).trans (Kept.of_wroteG h5))⟩
        · rw [List.mem_append] at ho
          rcases ho with ho | ho
          · exact hv.wf o ho
          · exact (own_in hM o ho).2.1
        · rw [List.mem_append] at hx
          rcases hx with hx | hx
          · exact hnodes x hx
          · unfold slots at hx
            rw [List.mem_map] at hx
            obtain ⟨kk, hkk, rfl⟩ := hx
            have := hkm kk hkk
            exact ⟨by simp only; omega, by simp only; omega, by simp only; omega, by simp only; omega⟩
        · rw [List.map_append]
          have e9 : (slots p.seg.toNat (dep + 1) (kidsP p.pt)).map nodeOf = kn (9 - dep - 1) p.seg.toNat (kidsP p.pt) := by
            simp [slots, kn, nodeOf, Function.comp_def]; omega
          rw [e9]; exact hst8.symm
        · rw [List.length_append]
          have : (slots p.seg.toNat (dep + 1) (kidsP p.pt)).length = (kidsP p.pt).length := by simp [slots]
          omega
      · intro y73 y74 y75 y76 y77 y78 y79 y80 y81 w' hpd hbb
        refine unhide hret _ _ _ _ _ _ _ _ _ _ _ _ _ _ _ _ _ _ _ _ _ _ _ _ _ _ _ _ _ _ _ _ _ _ _ _ _ _ _ _ _ _ _ _ _ _ _ _ _ _ _ _ _ _ _ _ _ _ _ _ _ _ _ _ _ _ _ _ _ _ _ _ _ w' ?_ (hbelow w' ((hkept.trans hk2).trans (Kept.of_below hbb)))
        rw [hst8, hpd]; simp
      · intro y73 y74 y75 y76 y77 y78 y79 y80 y81 y82 y83 y84 y85 y86 w' hpd ⟨L', stk', hvv⟩
        exact unhide hend _ _ _ _ _ _ _ _ _ _ _ _ _ _ _ _ _ _ _ _ _ _ _ _ _ _ _ _ _ _ _ _ _ _ _ _ _ _ _ _ _ _ _ _ _ _ _ _ _ _ _ _ _ _ _ _ _ _ _ _ _ _ _ _ _ _ _ _ _ _ _ _ _ w' L' stk' (hvv hpd)
end Go.Proofs.Ygcfag
