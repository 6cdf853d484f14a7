/-
  WALKS: smodel.visit: an object and what hangs on it.
-/
import Derived.Test.YgcfagW74
namespace Go.Proofs.Ygcfag
open Go.RowKit
set_option linter.unusedVariables false
set_option linter.unusedSimpArgs false

/-- What visit leaves. -/
def VisPost (ms : List (List Int)) (L : List (Nat × Nat × Nat)) (l s i g b : Nat) (W : World) : Ending → World → Prop :=
  fun e w' => e = .returned (.bool (FB ms L [(l, s, i)])) ∧ ∃ b', SeenStep g b b' W w' ∧ (FB ms L [(l, s, i)] = true → SeenAt w' g b' (L ++ itemsL ms [(l, s, i)]))

theorem FB_node1 {ms : List (List Int)} {s i l : Nat} {p : Sp} (h : resolveB ms s i = some p) (hk : p.pt.kind ≠ 0) (hl : 1 ≤ l) (L : List (Nat × Nat × Nat)) :
    FB ms L [(l, s, i)] = (addB L (ownIvs p) && (paddedOf (ms.getD p.seg.toNat []) p.pt && FB ms (L ++ ownIvs p) (kn (l - 1) p.seg.toNat (kidsP p.pt)))) ∧ itemsL ms [(l, s, i)] = ownIvs p ++ itemsL ms (kn (l - 1) p.seg.toNat (kidsP p.pt)) := by
  obtain ⟨k, rfl⟩ : ∃ k, l = k + 1 := ⟨l - 1, by omega⟩
  exact ⟨FB_node h hk L k, items_node h hk k⟩

theorem vis_false {ms : List (List Int)} {s i l g b b' : Nat} {p : Sp} {L : List (Nat × Nat × Nat)} {W w' : World} (h : resolveB ms s i = some p) (hk : p.pt.kind ≠ 0) (hst : SeenStep g b b' W w')
    (hor : l = 0 ∨ gatherB L p.pseg.toNat p.pat.toNat p.pwords.toNat = false ∨ gatherB (L ++ ivs p.pseg.toNat p.pat.toNat p.pwords.toNat) p.seg.toNat (firstOf p.pt).toNat (wordsOf p.pt).toNat = false) : VisPost ms L l s i g b W (.returned (.bool false)) w' := by
  have hfb : FB ms L [(l, s, i)] = false := by
    by_cases h0 : l = 0
    · subst h0; exact FB_deep h hk L
    · rw [(FB_node1 h hk (by omega) L).1, own_add]
      rcases hor with h1 | h1 | h1
      · exact absurd h1 h0
      · rw [h1]; simp
      · rw [h1]; simp
  exact ⟨by rw [hfb], b', hst, fun ht => by rw [hfb] at ht; cases ht⟩

theorem vis_true {ms : List (List Int)} {s i l g b b1 b' : Nat} {p : Sp} {L : List (Nat × Nat × Nat)} {W w1 w' : World} {B : Bool} (h : resolveB ms s i = some p) (hk : p.pt.kind ≠ 0) (hl : 1 ≤ l) (hst : SeenStep g b b1 W w1) (hst2 : SeenStep g b1 b' w1 w')
    (hg1 : gatherB L p.pseg.toNat p.pat.toNat p.pwords.toNat = true) (hg2 : gatherB (L ++ ivs p.pseg.toNat p.pat.toNat p.pwords.toNat) p.seg.toNat (firstOf p.pt).toNat (wordsOf p.pt).toNat = true)
    (hB : B = (paddedOf (ms.getD p.seg.toNat []) p.pt && FB ms (L ++ ownIvs p) (kn (l - 1) p.seg.toNat (kidsP p.pt)))) (hse : B = true → SeenAt w' g b' (L ++ ownIvs p ++ itemsL ms (kn (l - 1) p.seg.toNat (kidsP p.pt)))) : VisPost ms L l s i g b W (.returned (.bool B)) w' := by
  obtain ⟨h1, h2⟩ := FB_node1 h hk hl L
  have hfb : FB ms L [(l, s, i)] = B := by rw [h1, own_add, hg1, hg2, hB]; simp
  unfold VisPost
  rw [hfb, h2]
  exact ⟨rfl, b', hst.trans hst2, fun ht => by rw [← List.append_assoc]; exact hse ht⟩

theorem kids_bd {ms : List (List Int)} {p : Sp} (hM : InM ms p) (hl : ∀ i, (ms.getD i []).length ≤ 256) : ∀ k ∈ kidsP p.pt, k < 65536 := fun k hk => by
  have h1 := (kids_in hM.good).2 k hk
  have h2 := hM.fit
  have h3 := hl p.seg.toNat
  omega

set_option maxHeartbeats 1000000 in
set_option maxRecDepth 100000 in
theorem vis_obj (ms : List (List Int)) (a : Option Addr) (n c : Nat) (w0 : World) (hs : SegsAt w0 a ms) (hn : ms.length = n) (hf : fitsOf ms = true) (hw : ∀ i, Wds (ms.getD i []))
    (l s i g b A : Nat) (L : List (Nat × Nat × Nat)) (W w : World) (p : Sp) (hr : resolveB ms s i = some p) (hk : p.pt.kind ≠ 0) (hl8 : l ≤ 8) (hBW : Below w0.heap.size w0 W) (hg0 : w0.heap.size ≤ g) (hb0 : w0.heap.size ≤ b) (hWw : Below W.heap.size W w) (hA1 : W.heap.size ≤ A) (hA2 : A + 1 < w.heap.size) (h7 : R7 w A p.seg p.pt) (h3 : R3 w (A + 1) p.pseg p.pat p.pwords) (hseen : SeenAt W g b L) (hfr : L.length + freeN ms L ≤ 300)
    (HIH : Hid (1 ≤ l → ∀ (sg k bk : Nat) (Lk : List (Nat × Nat × Nat)) (W' : World), sg < 256 → k < 65536 → Below w0.heap.size w0 W' → w0.heap.size ≤ bk → SeenAt W' g bk Lk → Lk.length + freeN ms Lk ≤ 300 → Calls Fagg.prog 80 #[.slice a n c, .int .u8 (sg : Int), .int .i64 (k : Int), .int .i64 ((l : Int) - 1), .pointer (some ⟨g, 0, none⟩)] W' (VisPost ms Lk (l - 1) sg k g bk W')))
    (u1 u2 u5 u6 u7 u8 u9 u10 u13 u14 u15 u16 u17 u18 u19 u20 u21 u22 u23 u24 u25 u26 u27 u28 u29 u30 u31 u32 u33 u34 u35 u36 u37 u38 u39 u40 u41 u42 u43 u44 u45 u46 u47 u48 u49 u50 u51 u52 u53 u54 u55 u56 u57 u58 u59 u60 u61 u62 u63 u64 u65 u66 u67 u68 u69 u70 u71 u72 u73 u74 u75 u76 u77 u78 u79 u80 u81 u82 u83 u84 u85 u86 u87 u88 u89 u90 u91 u92 u93 u94 u95 u96 u97 u98 u99 u100 u101 u102 u103 u104 u105 u106 u107 u108 u109 u110 u111 u112 u113 u114 u115 u116 u117 u118 u119 u120 u121 u122 u123 u124 u125 u126 u127 u128 u129 u130 u131 u132 u133 u134 u135 u136 u137 u138 u139 u140 : Value) :
    Code.wp Fagg.prog (bodyAt Fagg.f80 [1, 1, 1, 1]) (bodyPost Fagg.prog Fagg.f80 (VisPost ms L l s i g b W)) ⟨List.toArray ((.slice a n c) :: u1 :: u2 :: (.int .i64 (l : Int)) :: (.pointer (some ⟨g, 0, none⟩)) :: u5 :: u6 :: u7 :: u8 :: u9 :: u10 :: (.pointer (some ⟨A, 0, none⟩)) :: (.pointer (some ⟨A + 1, 0, none⟩)) :: u13 :: u14 :: u15 :: u16 :: u17 :: u18 :: u19 :: u20 :: u21 :: u22 :: u23 :: u24 :: u25 :: u26 :: u27 :: u28 :: u29 :: u30 :: u31 :: u32 :: u33 :: u34 :: u35 :: u36 :: u37 :: u38 :: u39 :: u40 :: u41 :: u42 :: u43 :: u44 :: u45 :: u46 :: u47 :: u48 :: u49 :: u50 :: u51 :: u52 :: u53 :: u54 :: u55 :: u56 :: u57 :: u58 :: u59 :: u60 :: u61 :: u62 :: u63 :: u64 :: u65 :: u66 :: u67 :: u68 :: u69 :: u70 :: u71 :: u72 :: u73 :: u74 :: u75 :: u76 :: u77 :: u78 :: u79 :: u80 :: u81 :: u82 :: u83 :: u84 :: u85 :: u86 :: u87 :: u88 :: u89 :: u90 :: u91 :: u92 :: u93 :: u94 :: u95 :: u96 :: u97 :: u98 :: u99 :: u100 :: u101 :: u102 :: u103 :: u104 :: u105 :: u106 :: u107 :: u108 :: u109 :: u110 :: u111 :: u112 :: u113 :: u114 :: u115 :: u116 :: u117 :: u118 :: u119 :: u120 :: u121 :: u122 :: u123 :: u124 :: u125 :: u126 :: u127 :: u128 :: u129 :: u130 :: u131 :: u132 :: u133 :: u134 :: u135 :: u136 :: u137 :: u138 :: u139 :: u140 :: []), []⟩ w := by
  have hM := resolve_inM hr hk hw
  obtain ⟨hn1, hn8, hlen⟩ := fits_facts hf
  have hlt := hseen.lt
  have hwb := wordsOf_bd hM.good
  have hsW := hWw.size
  have hs0 := hBW.size
  have hkb := kids_bd hM hlen
  have m1 := hM.seg0; have m2 := hM.seg; have m3 := hM.first; have m4 := hM.fit; have m5 := hM.pseg0; have m6 := hM.pseg; have m7 := hM.pat0; have m8 := hM.pw0; have m9 := hM.pw2; have m10 := hM.pfit
  have l1 := hlen p.seg.toNat
  have l2 := hlen p.pseg.toNat
  have hst0 : SeenStep g b b W w := SeenStep.of_below hWw
  have e1 : ((p.seg.toNat : Nat) : Int) = p.seg := by omega
  have e2 : ((p.pseg.toNat : Nat) : Int) = p.pseg := by omega
  have e3 : ((p.pat.toNat : Nat) : Int) = p.pat := by omega
  have e4 : ((p.pwords.toNat : Nat) : Int) = p.pwords := by omega
  have hq : 0 ≤ p.pt.kind ∧ 0 ≤ p.pt.at_ ∧ p.pt.at_ ≤ 256 ∧ 0 ≤ p.pt.data ∧ p.pt.data ≤ 8 ∧ 0 ≤ p.pt.ptrs ∧ p.pt.ptrs ≤ 8 ∧ 0 ≤ p.pt.code ∧ 0 ≤ p.pt.count ∧ p.pt.count ≤ 128 ∧ (p.pt.code = 7 → 1 ≤ p.pt.at_) := by
    have := hM.good
    generalize p.pt = q at this
    cases this <;> simp <;> omega
  obtain ⟨q1, q2, q3, q4, q5, q6, q7, q8, q9, q10, q11⟩ := hq
  have f1 : ((p.pt.kind.toNat : Nat) : Int) = p.pt.kind := by omega
  have f2 : ((p.pt.at_.toNat : Nat) : Int) = p.pt.at_ := by omega
  have f3 : ((p.pt.data.toNat : Nat) : Int) = p.pt.data := by omega
  have f4 : ((p.pt.ptrs.toNat : Nat) : Int) = p.pt.ptrs := by omega
  have f5 : ((p.pt.code.toNat : Nat) : Int) = p.pt.code := by omega
  have f6 : ((p.pt.count.toNat : Nat) : Int) = p.pt.count := by omega
  have f7 : ((((wordsOf p.pt).toNat : Nat)) : Int) = wordsOf p.pt := by omega
  have f8 : ((((firstOf p.pt).toNat : Nat)) : Int) = firstOf p.pt := by omega
  refine vis_node g b A (A + 1) l p.seg.toNat p.pt.kind.toNat p.pt.at_.toNat p.pt.data.toNat p.pt.ptrs.toNat p.pt.code.toNat p.pt.count.toNat p.pseg.toNat p.pat.toNat p.pwords.toNat (if p.pt.code = 7 then 1 else 0) (wordsOf p.pt).toNat (firstOf p.pt).toNat (.slice a n c) L w (by omega) (by omega) (by omega) (by omega) (by omega) (by omega) (by rw [e1]; exact h7.c0) (by rw [f1]; exact h7.c1) (by rw [f2]; exact h7.c2) (by rw [f3]; exact h7.c3) (by rw [f4]; exact h7.c4) (by rw [f5]; exact h7.c5) (by rw [f6]; exact h7.c6) (by rw [e2]; exact h3.c0) (by rw [e3]; exact h3.c1) (by rw [e4]; exact h3.c2) (hseen.below hWw) (by omega) (by omega) (by omega) (by omega) (by omega) (by omega) ?_ ?_ (by omega) hl8 (by omega) (by omega) (hide ?_) (hide ?_) (hide ?_) _ _ _ _ _ _ _ _ _ _ _ _ _ _ _ _ _ _ _ _ _ _ _ _ _ _ _ _ _ _ _ _ _ _ _ _ _ _ _ _ _ _ _ _ _ _ _ _ _ _ _ _ _ _ _ _ _ _ _ _ _ _ _ _ _ _ _ _ _ _ _ _ _ _ _ _ _ _ _ _ _ _ _ _ _ _ _ _ _ _ _ _ _ _ _ _ _ _ _ _ _ _ _ _ _ _ _ _ _ _ _ _ _ _ _ _ _ _ _ _ _ _ _ _ _ _ _ _ _ _ _ _ _ _ _ _
  · by_cases h7c : p.pt.code = 7
    · left; rw [if_pos h7c]; omega
    · right; rw [if_neg h7c]; omega
  · rw [f8, f2]; unfold firstOf
    by_cases h7c : p.pt.code = 7
    · rw [if_pos h7c, if_pos h7c]; simp
    · rw [if_neg h7c, if_neg h7c]; simp
  · intro W'
    have := words_good p.pt W' hM.good
    unfold ptV at this
    rw [f1, f2, f3, f4, f5, f6, f7]; exact this
  · intro w' b' hst hor
    exact vis_false hr hk (hst0.trans hst) hor
  · intro hl1 hg1 hg2 v1 v2 v5 v6 v7 v8 v9 v10 v13 v16 v20 v21 v22 v23 v24 v25 v26 v27 v28 v29 v30 v31 v32 v33 v34 v35 v36 v37 v38 v39 v40 v41 v42 v43 v44 v45 v46 v47 v48 v49 v50 v51 v52 v53 v54 v55 v56 v57 v58 v59 v60 v61 v62 v63 v64 v65 v66 v67 v68 v69 v70 v71 v72 v73 v74 v75 v76 v77 v78 v79 v80 v81 v82 v83 v84 v85 v86 v87 v88 v89 v90 v91 v92 v93 v94 v95 v96 v97 v98 v99 v100 v101 v102 v103 v104 v105 v106 v107 v108 v109 v110 v111 v112 v113 v114 v115 v116 v117 v118 v119 v120 v121 v122 v123 v124 v125 v126 v127 v128 v129 v130 v131 v132 v133 v134 v135 v136 v137 v138 v139 v140 w' b' hst hse
    have hst2 := hst0.trans hst
    have hsz' := hst.size
    have hat' := hst.at_
    have c0 := (hst.cell (p := ⟨A, 0, none⟩) (by show A < _; omega) (by show A ≠ _; omega) (by show A ≠ _; omega)).trans h7.c0
    have c1 := (hst.cell (p := ⟨A, 1, none⟩) (by show A < _; omega) (by show A ≠ _; omega) (by show A ≠ _; omega)).trans h7.c1
    have c2 := (hst.cell (p := ⟨A, 2, none⟩) (by show A < _; omega) (by show A ≠ _; omega) (by show A ≠ _; omega)).trans h7.c2
    have c3 := (hst.cell (p := ⟨A, 3, none⟩) (by show A < _; omega) (by show A ≠ _; omega) (by show A ≠ _; omega)).trans h7.c3
    have c4 := (hst.cell (p := ⟨A, 4, none⟩) (by show A < _; omega) (by show A ≠ _; omega) (by show A ≠ _; omega)).trans h7.c4
    have c5 := (hst.cell (p := ⟨A, 5, none⟩) (by show A < _; omega) (by show A ≠ _; omega) (by show A ≠ _; omega)).trans h7.c5
    have c6 := (hst.cell (p := ⟨A, 6, none⟩) (by show A < _; omega) (by show A ≠ _; omega) (by show A ≠ _; omega)).trans h7.c6
    have hse' : SeenAt w' g b' (L ++ ownIvs p) := by unfold ownIvs; rw [← List.append_assoc]; exact hse
    have hfr' : (L ++ ownIvs p).length + freeN ms (L ++ ownIvs p) ≤ 300 := by
      have := addB_free (ms := ms) (ownIvs p) L (by rw [own_add, hg1, hg2]; rfl) (own_in hM)
      omega
    have hIH : ∀ (k bk : Nat) (Lk : List (Nat × Nat × Nat)) (W' : World), k < 65536 → SeenStep g b' bk w' W' → SeenAt W' g bk Lk → Lk.length + freeN ms Lk ≤ 300 → Calls Fagg.prog 80 #[.slice a n c, .int .u8 ((p.seg.toNat : Nat) : Int), .int .i64 (k : Int), .int .i64 ((l : Int) - 1), .pointer (some ⟨g, 0, none⟩)] W' (VisPost ms Lk (l - 1) p.seg.toNat k g bk W') := fun k bk Lk W' hk1 h4 h5 h6 => by
      have h7 := hst2.trans h4
      exact unhide HIH hl1 p.seg.toNat k bk Lk W' (by omega) hk1 (hBW.trans (h7.below hg0 hb0 hs0)) (by have := h7.at_; omega) h5 h6
    have HIH2 := hide hIH
    have hgood := hM.good
    have hfit := hM.fit
    generalize hq : p.pt = q at *
    cases hgood with
    | struct at_ d pp k1 k2 k3 =>
      dsimp only at *
      have hkp : kidsP p.pt = kidsE at_.toNat (d + pp).toNat d.toNat pp.toNat 1 := by rw [hq]; simp [kidsP]
      have hpd : paddedOf (ms.getD p.seg.toNat []) p.pt = true := by rw [hq]; simp [paddedOf, bytesOf]
      have hkk : ∀ k ∈ kidsE at_.toNat (d + pp).toNat d.toNat pp.toNat 1, k < 65536 := by rw [← hkp, hq]; exact hkb
      rw [show ((d.toNat : Nat) : Int) + ((pp.toNat : Nat) : Int) = (((d + pp).toNat : Nat) : Int) from by omega]
      exact vis_struct ms a n c p.seg.toNat l g b' A at_.toNat (d + pp).toNat d.toNat pp.toNat 0 (L ++ ownIvs p) w' ⟨hl1, hl8⟩ (by omega) (by omega) (by omega) (by rw [e1]; exact c0) c1 (by rw [f2]; exact c2) (by rw [f3]; exact c3) (by rw [f4]; exact c4) c5 c6 (by omega) (by omega) (by omega) (by omega) (by omega) (by omega) hkk hse' hfr' hw (hide fun k bk Lk W' h1 h2 h3 h4 => unhide HIH2 k bk Lk W' h1 h2 h3 h4) (hide fun B w'' b'' hB h4 h5 => vis_true hr (by rw [hq]; simp) hl1 hst2 h4 hg1 (by rw [hq]; exact hg2) (by rw [hpd, hkp, Bool.true_and]; exact hB) (by rw [hkp]; exact h5)) _ _ _ _ _ _ _ _ _ _ _ _ _ _ _ _ _ _ _ _ _ _ _ _ _ _ _ _ _ _ _ _ _ _ _ _ _ _ _ _ _ _ _ _ _ _ _ _ _ _ _ _ _ _ _ _ _ _ _ _ _ _ _ _ _ _ _ _ _ _ _ _ _ _ _ _ _ _ _ _ _ _ _ _ _ _ _ _ _ _ _ _ _ _ _ _ _ _ _ _ _ _ _ _ _ _ _ _ _ _ _ _ _ _ _ _ _ _ _ _ _ _ _ _ _ _ _ _ _ _ _ _
    | structs at_ d pp cnt k1 k2 k3 k4 k5 =>
      dsimp only at *
      have hkp : kidsP p.pt = kidsE at_.toNat (d + pp).toNat d.toNat pp.toNat cnt.toNat := by rw [hq]; simp [kidsP]
      have hpd : paddedOf (ms.getD p.seg.toNat []) p.pt = true := by rw [hq]; simp [paddedOf, bytesOf]
      have hkk : ∀ k ∈ kidsE at_.toNat (d + pp).toNat d.toNat pp.toNat cnt.toNat, k < 65536 := by rw [← hkp, hq]; exact hkb
      rw [show ((d.toNat : Nat) : Int) + ((pp.toNat : Nat) : Int) = (((d + pp).toNat : Nat) : Int) from by omega]
      exact vis_structs ms a n c p.seg.toNat l g b' A at_.toNat (d + pp).toNat d.toNat pp.toNat cnt.toNat (L ++ ownIvs p) w' ⟨hl1, hl8⟩ (by omega) (by omega) (by omega) (by rw [e1]; exact c0) c1 (by rw [f2]; exact c2) (by rw [f3]; exact c3) (by rw [f4]; exact c4) c5 (by rw [f6]; exact c6) (by omega) (by omega) (by omega) (by omega) (by omega) (by omega) hkk hse' hfr' hw (hide fun k bk Lk W' h1 h2 h3 h4 => unhide HIH2 k bk Lk W' h1 h2 h3 h4) (hide fun B w'' b'' hB h4 h5 => vis_true hr (by rw [hq]; simp) hl1 hst2 h4 hg1 (by rw [hq]; exact hg2) (by rw [hpd, hkp, Bool.true_and]; exact hB) (by rw [hkp]; exact h5)) _ _ _ _ _ _ _ _ _ _ _ _ _ _ _ _ _ _ _ _ _ _ _ _ _ _ _ _ _ _ _ _ _ _ _ _ _ _ _ _ _ _ _ _ _ _ _ _ _ _ _ _ _ _ _ _ _ _ _ _ _ _ _ _ _ _ _ _ _ _ _ _ _ _ _ _ _ _ _ _ _ _ _ _ _ _ _ _ _ _ _ _ _ _ _ _ _ _ _ _ _ _ _ _ _ _ _ _ _ _ _ _ _ _ _ _ _ _ _ _ _ _ _ _ _ _ _ _ _ _ _ _
    | list at_ cd cnt k1 k2 k3 =>
      dsimp only at *
      by_cases h6 : cd = 6
      · subst h6
        have hkp : kidsP p.pt = kidsE at_.toNat 1 0 1 cnt.toNat := by rw [hq]; simp [kidsP]
        have hpd : paddedOf (ms.getD p.seg.toNat []) p.pt = true := by rw [hq]; simp [paddedOf, bytesOf]
        have hkk : ∀ k ∈ kidsE at_.toNat 1 0 1 cnt.toNat, k < 65536 := by rw [← hkp, hq]; exact hkb
        exact vis_ptrs ms a n c p.seg.toNat l g b' A at_.toNat 0 0 0 cnt.toNat (L ++ ownIvs p) w' ⟨hl1, hl8⟩ (by omega) (by omega) (by omega) (by rw [e1]; exact c0) c1 (by rw [f2]; exact c2) c3 c4 c5 (by rw [f6]; exact c6) (by omega) (by omega) (by omega) (by omega) (by omega) (by omega) hkk hse' hfr' hw (hide fun k bk Lk W' h1 h2 h3 h4 => unhide HIH2 k bk Lk W' h1 h2 h3 h4) (hide fun B w'' b'' hB h4 h5 => vis_true hr (by rw [hq]; simp) hl1 hst2 h4 hg1 (by rw [hq]; exact hg2) (by rw [hpd, hkp, Bool.true_and]; exact hB) (by rw [hkp]; exact h5)) _ _ _ _ _ _ _ _ _ _ _ _ _ _ _ _ _ _ _ _ _ _ _ _ _ _ _ _ _ _ _ _ _ _ _ _ _ _ _ _ _ _ _ _ _ _ _ _ _ _ _ _ _ _ _ _ _ _ _ _ _ _ _ _ _ _ _ _ _ _ _ _ _ _ _ _ _ _ _ _ _ _ _ _ _ _ _ _ _ _ _ _ _ _ _ _ _ _ _ _ _ _ _ _ _ _ _ _ _ _ _ _ _ _ _ _ _ _ _ _ _ _ _ _ _ _ _ _ _ _ _ _
      · have hbw' : Below w0.heap.size w0 w' := hBW.trans (hst2.below hg0 hb0 hs0)
        obtain ⟨B0, off, rfl, hB0, hcell⟩ := hs.get (by omega)
        obtain ⟨ai, ci, hc0, hci, hsl⟩ := hcell p.seg.toNat (by omega)
        have hkp : kidsP p.pt = [] := by
          have h7 : cd ≠ 7 := by omega
          rw [hq]; simp [kidsP, h6, h7]
        refine vis_plain ai B0 off n c (ms.getD p.seg.toNat []).length ci p.seg.toNat A at_.toNat cd.toNat cnt.toNat (paddedOf (ms.getD p.seg.toNat []) p.pt) w' (by omega) (by rw [e1]; exact c0) c1 (by rw [f2]; exact c2) c3 c4 (by rw [f5]; exact c5) (by rw [f6]; exact c6) (by omega) (by omega) (by omega) (by omega) (by omega) (by omega) ((hbw'.cell (p := ⟨B0, off + p.seg.toNat, none⟩) hB0).trans hc0) (hide fun W' hW' => ?_) (hide fun w'' hb'' => ?_) _ _ _ _ _ _ _ _ _ _ _ _ _ _ _ _ _ _ _ _ _ _ _ _ _ _ _ _ _ _ _ _ _ _ _ _ _ _ _ _ _ _ _ _ _ _ _ _ _ _ _ _ _ _ _ _ _ _ _ _ _ _ _ _ _ _ _ _ _ _ _ _ _ _ _ _ _ _ _ _ _ _ _ _ _ _ _ _ _ _ _ _ _ _ _ _ _ _ _ _ _ _ _ _ _ _ _ _ _ _ _ _ _ _ _ _ _ _ _ _ _ _ _ _ _ _ _ _ _ _ _ _ _ _ _ _ _ _
        · have hz := zeroTail_any ai (ms.getD p.seg.toNat []).length ci (ms.getD p.seg.toNat []) at_ cd cnt W' (hsl.below (hbw'.trans (hW'.mono hbw'.size))) rfl (hw _) (hlen _) (by omega) (by omega) (by omega) hfit
          rw [← hq] at hz
          unfold ptV at hz
          rw [f2, f5, f6]
          simpa [hq] using hz
        · exact vis_true hr (by rw [hq]; simp) hl1 hst2 (SeenStep.of_below hb'') hg1 (by rw [hq]; exact hg2) (by rw [hkp]; simp [kn, FB_nil]) (fun _ => by rw [hkp]; simpa [kn, itemsL] using hse'.below hb'')
end Go.Proofs.Ygcfag
