/-
  WALKS: pack.Pack.
-/
import Derived.Test.YgcfagW12
import Derived.Test.YgcfagW10g
namespace Go.Proofs.Ygcfag
open Go.RowKit
set_option linter.unusedVariables false
set_option linter.unusedSimpArgs false

theorem Wds.drop {xs : List Int} (h : Wds xs) (n : Nat) : Wds (xs.drop n) := fun i => by have := h (n + i); simpa [List.getD] using this
theorem Wds.take {xs : List Int} (h : Wds xs) (n : Nat) : Wds (xs.take n) := fun i => by
  have := h i
  simp only [List.getD, List.getElem?_take] at *
  split <;> simp_all

theorem drop_cons (xs : List Int) (k : Nat) (h : k < xs.length) : xs.drop k = xs.getD k 0 :: xs.drop (k + 1) := by
  rw [List.drop_eq_getElem_cons h]; simp [List.getD, h]

theorem nonzero_len (x : Int) : (nonzero x).length ≤ 8 := by
  unfold nonzero
  exact Nat.le_trans (List.length_filter_le _ _) (by simp [bytes8])

theorem flat_len : ∀ (xs : List Int), (xs.flatMap bytes8).length = 8 * xs.length
  | [] => rfl
  | x :: xs => by
    have := flat_len xs
    simp only [List.flatMap_cons, List.length_append, List.length_cons, this]
    simp [bytes8]; omega

theorem nz_zero {x : Int} (h : nz x = 0) : x = 0 := by
  unfold nz at h; split at h <;> omega
theorem nonzero_nil {x : Int} (h : tagN x = 0) : nonzero x = [] := by
  unfold tagN at h
  have h0 := nz_zero (x := x % 256) (by omega)
  have h1 := nz_zero (x := x / 256 % 256) (by omega)
  have h2 := nz_zero (x := x / 65536 % 256) (by omega)
  have h3 := nz_zero (x := x / 16777216 % 256) (by omega)
  have h4 := nz_zero (x := x / 4294967296 % 256) (by omega)
  have h5 := nz_zero (x := x / 1099511627776 % 256) (by omega)
  have h6 := nz_zero (x := x / 281474976710656 % 256) (by omega)
  have h7 := nz_zero (x := x / 72057594037927936 % 256) (by omega)
  unfold nonzero bytes8
  rw [h0, h1, h2, h3, h4, h5, h6, h7]
  rfl

set_option maxHeartbeats 2000000 in
set_option maxRecDepth 100000 in
theorem pack_loop {Q0 : Exit → Act → World → Prop} (B b off n c : Nat) (xs : List Int) (v : Value) (w : World) (hn : xs.length = n) (hn2 : n ≤ 256) (hnc : n ≤ c) (hcell : ∀ j, j < n → w.cell? ⟨b, off + j, none⟩ = some (.int .u64 (xs.getD j 0))) (hbB : b < B) (hw : Wds xs) (hown : w.ownsRow B 5 1 v 0 []) (hB : B ≤ w.heap.size)
    (u1 u2 u5 u6 u7 u8 u9 u10 u11 u12 u13 u14 u15 u16 u17 u18 u19 u20 u21 u22 u23 u24 u25 u26 u27 u28 u29 u30 u31 u32 u33 u34 u35 u36 u37 u38 u39 u40 u41 u42 u43 u44 u45 u46 u47 u48 u49 u50 u51 u52 u53 u54 u55 u56 u57 u58 u59 u60 u61 u62 u63 u64 u65 u66 u67 u68 u69 u70 u71 u72 u73 u74 u75 u76 u77 u78 u79 u80 u81 u82 u83 u84 u85 u86 u87 u88 u89 u90 u91 u92 u93 u94 u95 u96 u97 u98 u99 u100 u101 : Value)
    (hexit : ∀ (v4 v5 v6 v7 v8 v9 v10 v11 v12 v26 v27 v28 v29 v30 v31 v32 v33 v34 v35 v36 v37 v38 v39 v40 v41 v42 v43 v44 v45 v46 v47 v48 v49 v50 v51 v52 v53 v54 v55 v56 v57 v58 v59 v60 v61 v62 v63 v64 v65 v66 v67 v68 v69 v70 v71 v72 v73 v74 v75 v76 v77 v78 v79 v80 v81 v82 v83 v84 v85 v86 v87 v88 v89 v90 v91 v92 v93 v94 v95 v96 v97 v98 v99 v100 : Value) (vv : Value) (wr : World), Below B w wr → wr.ownsRow B 5 1 vv (packOf xs).length ((packOf xs).map (Value.int .u8)) → (packOf xs).length ≤ 2560 → Q0 (.exit 0) ⟨List.toArray (.slice (some ⟨b, off, none⟩) n c :: u1 :: u2 :: vv :: v4 :: v5 :: v6 :: v7 :: v8 :: v9 :: v10 :: v11 :: v12 :: u13 :: u14 :: u15 :: u16 :: u17 :: u18 :: u19 :: u20 :: u21 :: u22 :: u23 :: u24 :: u25 :: v26 :: v27 :: v28 :: v29 :: v30 :: v31 :: v32 :: v33 :: v34 :: v35 :: v36 :: v37 :: v38 :: v39 :: v40 :: v41 :: v42 :: v43 :: v44 :: v45 :: v46 :: v47 :: v48 :: v49 :: v50 :: v51 :: v52 :: v53 :: v54 :: v55 :: v56 :: v57 :: v58 :: v59 :: v60 :: v61 :: v62 :: v63 :: v64 :: v65 :: v66 :: v67 :: v68 :: v69 :: v70 :: v71 :: v72 :: v73 :: v74 :: v75 :: v76 :: v77 :: v78 :: v79 :: v80 :: v81 :: v82 :: v83 :: v84 :: v85 :: v86 :: v87 :: v88 :: v89 :: v90 :: v91 :: v92 :: v93 :: v94 :: v95 :: v96 :: v97 :: v98 :: v99 :: v100 :: u101 :: []), []⟩ wr) :
    Code.wp Fagg.prog (bodyAt Fagg.f113 [1, 1, 1, 0, 1, 0]) Q0 ⟨List.toArray (.slice (some ⟨b, off, none⟩) n c :: u1 :: u2 :: v :: .int .i64 0 :: u5 :: u6 :: u7 :: u8 :: u9 :: u10 :: u11 :: u12 :: u13 :: u14 :: u15 :: u16 :: u17 :: u18 :: u19 :: u20 :: u21 :: u22 :: u23 :: u24 :: u25 :: u26 :: u27 :: u28 :: u29 :: u30 :: u31 :: u32 :: u33 :: u34 :: u35 :: u36 :: u37 :: u38 :: u39 :: u40 :: u41 :: u42 :: u43 :: u44 :: u45 :: u46 :: u47 :: u48 :: u49 :: u50 :: u51 :: u52 :: u53 :: u54 :: u55 :: u56 :: u57 :: u58 :: u59 :: u60 :: u61 :: u62 :: u63 :: u64 :: u65 :: u66 :: u67 :: u68 :: u69 :: u70 :: u71 :: u72 :: u73 :: u74 :: u75 :: u76 :: u77 :: u78 :: u79 :: u80 :: u81 :: u82 :: u83 :: u84 :: u85 :: u86 :: u87 :: u88 :: u89 :: u90 :: u91 :: u92 :: u93 :: u94 :: u95 :: u96 :: u97 :: u98 :: u99 :: u100 :: u101 :: []), []⟩ w := by
  conv => arg 2; whnf
  have HE := hide hexit
  have HO := hide hown
  have HC := hide hcell
  have HW := hide hw
  clear hexit hown hcell hw
  obtain ⟨i0, hi0, hz0, hz1, hz2⟩ := info_parts info5
  go_loopw [3, 4] (fun s y wr => ∃ (k : Nat) (pre : List Int), k ≤ n ∧ y = .int .i64 (k : Int) ∧ Hid (pre ++ packOf (xs.drop k) = packOf xs) ∧ pre.length ≤ 10 * k ∧ wr.ownsRow B 5 1 s pre.length (pre.map (Value.int .u8)) ∧ Below B w wr ∧ B ≤ wr.heap.size) (fun _ y _ => n - (intOf y).toNat)
  case atStart => exact ⟨0, [], by omega, rfl, by simp [Hid], by simp, unhide HO, Below.refl _ _, hB⟩
  case round =>
    obtain ⟨k, pre, hk, rfl, HP, hpl, hown, hbr, hBr⟩ := hrel
    by_cases hlt : k < n
    · have e1 : (k : Int) < (n : Int) := by omega
      have hck := (hbr.cell (p := ⟨b, off + k, none⟩) hbB).trans (unhide HC k hlt)
      have hxx := unhide HW k
      have HDC := hide (drop_cons xs k (by omega))
      have HTG := hide (tagOf_any (xs.getD k 0) wr hxx.1 hxx.2)
      have htl := tagN_lt (xs.getD k 0)
      have hnz := nonzero_len (xs.getD k 0)
      generalize hx : xs.getD k 0 = x at *
      generalize ht : tagN x = t at *
      have HX := hide hx
      have HT := hide ht
      clear hx ht
      have HSL : Hid (∀ W, Below B w W → Sl .u64 W (if n = k + 1 then some ⟨b, off, none⟩ else some ⟨b, off + (k + 1), none⟩) (xs.drop (k + 1))) := fun W hW => by
        by_cases hk1 : n = k + 1
        · exact .inl (by simp; omega)
        · rw [if_neg hk1]
          refine .inr ⟨b, off + (k + 1), rfl, fun j hj => ?_⟩
          simp at hj
          rw [hW.cell (p := ⟨b, off + (k + 1) + j, none⟩) hbB, Nat.add_assoc, unhide HC (k + 1 + j) (by omega)]
          simp [List.getD]
      have hrl : (xs.drop (k + 1)).length = n - (k + 1) := by simp; omega
      have hk1' : (k : Int) + 1 ≤ (n : Int) := by omega
      by_cases ht0 : t = 0
      · have f1 : ((t : Int) == 0) = true := by simp; omega
        have HTZ := hide ht0
        have HNZ := hide (nonzero_nil (x := x) (by rw [unhide HT]; exact ht0))
        have HPK := hide (packOf_zero (x := x) (xs := xs.drop (k + 1)) (by rw [unhide HT]; exact ht0))
        clear ht0
        go_wp2_with (first | (go_at_call 176; refine (unhide HTG).mono ?_; rintro e w' ⟨rfl, hw⟩; rw [hw]; clear hw) | (at_builtin; refine wpList_append_own _ rfl _ _ 33 rfl B 5 i0 (.int .u8 0) 1 1 Fagg.underlying33 hi0 hz0 hz1 hz2 rfl (by decide) _ _ _ rfl (hown.alloc _) ⟨wr.heap.size, 0, none⟩ 1 1 [.int .u8 (t : Int)] rfl rfl ?_ ?_ ?_ ?_ ?_ ?_))
        · exact one_new _ _ _
        · exact one_cell rfl
        · unfold maxLen; omega
        · omega
        · simp; omega
        intro v1 w1 hown1 hg1 _
        have hs1 := hg1.size
        simp at hs1
        have hbr1 := ((hbr.alloc hBr (Obj.cells #[Value.int IntKind.u8 (t : Int)] 5)).grown hg1 (by simp; omega) (fun q hq => (hown.lt q hq).1))
        have HO1 := hide (show w1.ownsRow B 5 1 v1 (pre ++ [(t : Int)]).length ((pre ++ [(t : Int)]).map (Value.int .u8)) by simpa using hown1)
        clear hown1 hg1 hown
        go_wp2_with fail
        refine pack_loopA B x (pre ++ [(t : Int)]) v1 w1 hxx.1 hxx.2 (by simp; omega) (unhide HO1) (by omega) _ _ _ _ _ _ _ _ _ _ _ _ _ _ _ _ _ _ _ _ _ _ _ _ _ _ _ _ _ _ _ _ _ _ _ _ _ _ _ _ _ _ _ _ _ _ _ _ _ _ _ _ _ _ _ _ _ _ _ _ _ _ _ _ _ _ _ _ _ _ _ _ _ _ _ _ _ _ _ _ _ _ _ _ _ _ _ _ _ _ _ _ _ _ _ _ _ _ _ _ ?_
        intro v5 v42 v43 v44 v45 v46 v47 v48 v49 v50 v51 v52 v53 v2 w2 hb2 hown2
        have hbr2 := hbr1.trans hb2
        have hB2 : B ≤ w2.heap.size := by have := hb2.size; omega
        clear hb2 HO1
        have hl2 : (pre ++ [(t : Int)] ++ nonzero x).length ≤ 10 * k + 9 := by simp; omega
        generalize hp2 : pre ++ [(t : Int)] ++ nonzero x = p2 at *
        have HP2 := hide hp2
        clear hp2
        have HO2 := hide hown2
        clear hown2
        have hzl := zerosOf_le (xs.drop (k + 1)) 255
        rw [hrl] at hzl
        have HZ := hide (fun c' => zeros_any (if n = k + 1 then some ⟨b, off, none⟩ else some ⟨b, off + (k + 1), none⟩) (n - (k + 1)) c' 255 (xs.drop (k + 1)) w2 (unhide HSL w2 hbr2) hrl (by omega) (by omega))
        generalize zerosOf (xs.drop (k + 1)) 255 = z at *
        have hown2 := unhide HO2
        have h256 : (z : Int) % 256 = z := by omega
        by_cases hke : n = k + 1
        · first | (subst hke; rw [if_pos rfl, show k + 1 - (k + 1) = 0 by omega] at HZ) | rw [if_neg hke] at HZ
          go_wp2_with (first | (go_at_call 177; refine (unhide HZ _).mono ?_; rintro e w' ⟨rfl, hw⟩; rw [hw]; clear hw) | (at_builtin; refine wpList_append_own _ rfl _ _ 33 rfl B 5 i0 (.int .u8 0) 1 1 Fagg.underlying33 hi0 hz0 hz1 hz2 rfl (by decide) _ _ _ rfl (hown2.alloc _) ⟨w2.heap.size, 0, none⟩ 1 1 [.int .u8 (z : Int)] rfl rfl ?_ ?_ ?_ ?_ ?_ ?_))
          · exact one_new _ _ _
          · exact one_cell rfl
          · unfold maxLen; omega
          · omega
          · simp; omega
          intro v3 w3 hown3 hg3 _
          have hs3 := hg3.size
          simp at hs3
          have hbr3 := ((hbr2.alloc hB2 (Obj.cells #[Value.int IntKind.u8 (z : Int)] 5)).grown hg3 (by simp; omega) (fun q hq => (hown2.lt q hq).1))
          have HO3 := hide (show w3.ownsRow B 5 1 v3 (p2 ++ [(z : Int)]).length ((p2 ++ [(z : Int)]).map (Value.int .u8)) by simpa using hown3)
          clear hown3 hg3 hown2
          go_wp2_with fail
          refine ⟨⟨k + 1 + z, p2 ++ [(z : Int)], by omega, by go_num, ?_, by simp; omega, unhide HO3, hbr3, by omega⟩, by simp [intOf]; omega⟩
          show _ = _
          rw [← unhide HP, unhide HDC, unhide HPK, ← unhide HP2]
          simp [unhide HTZ, unhide HNZ]
        · first | (subst hke; rw [if_pos rfl, show k + 1 - (k + 1) = 0 by omega] at HZ) | rw [if_neg hke] at HZ
          go_wp2_with (first | (go_at_call 177; refine (unhide HZ _).mono ?_; rintro e w' ⟨rfl, hw⟩; rw [hw]; clear hw) | (at_builtin; refine wpList_append_own _ rfl _ _ 33 rfl B 5 i0 (.int .u8 0) 1 1 Fagg.underlying33 hi0 hz0 hz1 hz2 rfl (by decide) _ _ _ rfl (hown2.alloc _) ⟨w2.heap.size, 0, none⟩ 1 1 [.int .u8 (z : Int)] rfl rfl ?_ ?_ ?_ ?_ ?_ ?_))
          · exact one_new _ _ _
          · exact one_cell rfl
          · unfold maxLen; omega
          · omega
          · simp; omega
          intro v3 w3 hown3 hg3 _
          have hs3 := hg3.size
          simp at hs3
          have hbr3 := ((hbr2.alloc hB2 (Obj.cells #[Value.int IntKind.u8 (z : Int)] 5)).grown hg3 (by simp; omega) (fun q hq => (hown2.lt q hq).1))
          have HO3 := hide (show w3.ownsRow B 5 1 v3 (p2 ++ [(z : Int)]).length ((p2 ++ [(z : Int)]).map (Value.int .u8)) by simpa using hown3)
          clear hown3 hg3 hown2
          go_wp2_with fail
          refine ⟨⟨k + 1 + z, p2 ++ [(z : Int)], by omega, by go_num, ?_, by simp; omega, unhide HO3, hbr3, by omega⟩, by simp [intOf]; omega⟩
          show _ = _
          rw [← unhide HP, unhide HDC, unhide HPK, ← unhide HP2]
          simp [unhide HTZ, unhide HNZ]
      · have f1 : ((t : Int) == 0) = false := by simp; omega
        by_cases ht1 : t = 255
        · have f2 : ((t : Int) == 255) = true := by simp; omega
          have HTZ := hide ht1
          have HPK := hide (packOf_full (x := x) (xs := xs.drop (k + 1)) (by rw [unhide HT]; exact ht1))
          clear ht0 ht1
          go_wp2_with (first | (go_at_call 176; refine (unhide HTG).mono ?_; rintro e w' ⟨rfl, hw⟩; rw [hw]; clear hw) | (at_builtin; refine wpList_append_own _ rfl _ _ 33 rfl B 5 i0 (.int .u8 0) 1 1 Fagg.underlying33 hi0 hz0 hz1 hz2 rfl (by decide) _ _ _ rfl (hown.alloc _) ⟨wr.heap.size, 0, none⟩ 1 1 [.int .u8 (t : Int)] rfl rfl ?_ ?_ ?_ ?_ ?_ ?_))
          · exact one_new _ _ _
          · exact one_cell rfl
          · unfold maxLen; omega
          · omega
          · simp; omega
          intro v1 w1 hown1 hg1 _
          have hs1 := hg1.size
          simp at hs1
          have hbr1 := ((hbr.alloc hBr (Obj.cells #[Value.int IntKind.u8 (t : Int)] 5)).grown hg1 (by simp; omega) (fun q hq => (hown.lt q hq).1))
          have HO1 := hide (show w1.ownsRow B 5 1 v1 (pre ++ [(t : Int)]).length ((pre ++ [(t : Int)]).map (Value.int .u8)) by simpa using hown1)
          clear hown1 hg1 hown
          go_wp2_with fail
          refine pack_loopA B x (pre ++ [(t : Int)]) v1 w1 hxx.1 hxx.2 (by simp; omega) (unhide HO1) (by omega) _ _ _ _ _ _ _ _ _ _ _ _ _ _ _ _ _ _ _ _ _ _ _ _ _ _ _ _ _ _ _ _ _ _ _ _ _ _ _ _ _ _ _ _ _ _ _ _ _ _ _ _ _ _ _ _ _ _ _ _ _ _ _ _ _ _ _ _ _ _ _ _ _ _ _ _ _ _ _ _ _ _ _ _ _ _ _ _ _ _ _ _ _ _ _ _ _ _ _ _ ?_
          intro v5 v42 v43 v44 v45 v46 v47 v48 v49 v50 v51 v52 v53 v2 w2 hb2 hown2
          have hbr2 := hbr1.trans hb2
          have hB2 : B ≤ w2.heap.size := by have := hb2.size; omega
          clear hb2 HO1
          have hl2 : (pre ++ [(t : Int)] ++ nonzero x).length ≤ 10 * k + 9 := by simp; omega
          generalize hp2 : pre ++ [(t : Int)] ++ nonzero x = p2 at *
          have HP2 := hide hp2
          clear hp2
          have HO2 := hide hown2
          clear hown2
          have hzl := denseOf_le (xs.drop (k + 1)) 255
          rw [hrl] at hzl
          have HZ := hide (fun c' => dense_any (if n = k + 1 then some ⟨b, off, none⟩ else some ⟨b, off + (k + 1), none⟩) (n - (k + 1)) c' 255 (xs.drop (k + 1)) w2 (unhide HSL w2 hbr2) ((unhide HW).drop _) hrl (by omega) (by omega))
          generalize denseOf (xs.drop (k + 1)) 255 = z at *
          have hown2 := unhide HO2
          have h256 : (z : Int) % 256 = z := by omega
          have hfl := flat_len ((xs.drop (k + 1)).take z)
          have htl2 : ((xs.drop (k + 1)).take z).length = z := by simp; omega
          have hwt := hide (((unhide HW).drop (k + 1)).take z)
          have HCC : Hid (∀ W, Below B w W → ∀ j, j < z → W.cell? ⟨b, off + (k + 1) + j, none⟩ = some (.int .u64 (((xs.drop (k + 1)).take z).getD j 0))) := fun W hW j hj => by
            rw [hW.cell (p := ⟨b, off + (k + 1) + j, none⟩) hbB, Nat.add_assoc, unhide HC (k + 1 + j) (by omega)]
            simp [List.getD, List.getElem?_take, hj]
          by_cases hke : n = k + 1
          · first | (subst hke; rw [if_pos rfl, show k + 1 - (k + 1) = 0 by omega] at HZ) | rw [if_neg hke] at HZ
            go_wp2_with (first | (go_at_call 178; refine (unhide HZ _).mono ?_; rintro e w' ⟨rfl, hw⟩; rw [hw]; clear hw) | (at_builtin; refine wpList_append_own _ rfl _ _ 33 rfl B 5 i0 (.int .u8 0) 1 1 Fagg.underlying33 hi0 hz0 hz1 hz2 rfl (by decide) _ _ _ rfl (hown2.alloc _) ⟨w2.heap.size, 0, none⟩ 1 1 [.int .u8 (z : Int)] rfl rfl ?_ ?_ ?_ ?_ ?_ ?_))
            · exact one_new _ _ _
            · exact one_cell rfl
            · unfold maxLen; omega
            · omega
            · simp; omega
            intro v3 w3 hown3 hg3 _
            have hs3 := hg3.size
            simp at hs3
            have hbr3 := ((hbr2.alloc hB2 (Obj.cells #[Value.int IntKind.u8 (z : Int)] 5)).grown hg3 (by simp; omega) (fun q hq => (hown2.lt q hq).1))
            have HO3 := hide (show w3.ownsRow B 5 1 v3 (p2 ++ [(z : Int)]).length ((p2 ++ [(z : Int)]).map (Value.int .u8)) by simpa using hown3)
            clear hown3 hg3 hown2
            go_wp2_with fail
            refine pack_loopB B b _ z _ ((xs.drop (k + 1)).take z) (p2 ++ [(z : Int)]) v3 w3 htl2 (by omega) (by first | exact unhide HCC w3 hbr3 | (intro j hj; omega)) hbB (unhide hwt) (by simp; omega) (unhide HO3) (by omega) _ _ _ _ _ _ _ _ _ _ _ _ _ _ _ _ _ _ _ _ _ _ _ _ _ _ _ _ _ _ _ _ _ _ _ _ _ _ _ _ _ _ _ _ _ _ _ _ _ _ _ _ _ _ _ _ _ _ _ _ _ _ _ _ _ _ _ _ _ _ _ _ _ _ _ _ _ _ _ _ _ _ _ _ _ _ _ _ _ _ _ _ _ _ _ _ _ _ ?_
            intro v11 v12 v88 v89 v90 v91 v92 v93 v94 v95 v96 v97 v4 w4 hb4 hown4
            have hbr4 := hbr3.trans hb4
            have hB4 : B ≤ w4.heap.size := by have := hb4.size; omega
            have HO4 := hide hown4
            clear hb4 HO3 hown4
            go_wp2_with fail
            refine ⟨⟨k + 1 + z, p2 ++ [(z : Int)] ++ ((xs.drop (k + 1)).take z).flatMap bytes8, by omega, by go_num, ?_, by simp only [List.length_append, List.length_singleton]; omega, unhide HO4, hbr4, hB4⟩, by simp [intOf]; omega⟩
            show _ = _
            rw [← unhide HP, unhide HDC, unhide HPK, ← unhide HP2]
            simp [unhide HTZ]
          · first | (subst hke; rw [if_pos rfl, show k + 1 - (k + 1) = 0 by omega] at HZ) | rw [if_neg hke] at HZ
            go_wp2_with (first | (go_at_call 178; refine (unhide HZ _).mono ?_; rintro e w' ⟨rfl, hw⟩; rw [hw]; clear hw) | (at_builtin; refine wpList_append_own _ rfl _ _ 33 rfl B 5 i0 (.int .u8 0) 1 1 Fagg.underlying33 hi0 hz0 hz1 hz2 rfl (by decide) _ _ _ rfl (hown2.alloc _) ⟨w2.heap.size, 0, none⟩ 1 1 [.int .u8 (z : Int)] rfl rfl ?_ ?_ ?_ ?_ ?_ ?_))
            · exact one_new _ _ _
            · exact one_cell rfl
            · unfold maxLen; omega
            · omega
            · simp; omega
            intro v3 w3 hown3 hg3 _
            have hs3 := hg3.size
            simp at hs3
            have hbr3 := ((hbr2.alloc hB2 (Obj.cells #[Value.int IntKind.u8 (z : Int)] 5)).grown hg3 (by simp; omega) (fun q hq => (hown2.lt q hq).1))
            have HO3 := hide (show w3.ownsRow B 5 1 v3 (p2 ++ [(z : Int)]).length ((p2 ++ [(z : Int)]).map (Value.int .u8)) by simpa using hown3)
            clear hown3 hg3 hown2
            go_wp2_with fail
            refine pack_loopB B b _ z _ ((xs.drop (k + 1)).take z) (p2 ++ [(z : Int)]) v3 w3 htl2 (by omega) (by first | exact unhide HCC w3 hbr3 | (intro j hj; omega)) hbB (unhide hwt) (by simp; omega) (unhide HO3) (by omega) _ _ _ _ _ _ _ _ _ _ _ _ _ _ _ _ _ _ _ _ _ _ _ _ _ _ _ _ _ _ _ _ _ _ _ _ _ _ _ _ _ _ _ _ _ _ _ _ _ _ _ _ _ _ _ _ _ _ _ _ _ _ _ _ _ _ _ _ _ _ _ _ _ _ _ _ _ _ _ _ _ _ _ _ _ _ _ _ _ _ _ _ _ _ _ _ _ _ ?_
            intro v11 v12 v88 v89 v90 v91 v92 v93 v94 v95 v96 v97 v4 w4 hb4 hown4
            have hbr4 := hbr3.trans hb4
            have hB4 : B ≤ w4.heap.size := by have := hb4.size; omega
            have HO4 := hide hown4
            clear hb4 HO3 hown4
            go_wp2_with fail
            refine ⟨⟨k + 1 + z, p2 ++ [(z : Int)] ++ ((xs.drop (k + 1)).take z).flatMap bytes8, by omega, by go_num, ?_, by simp only [List.length_append, List.length_singleton]; omega, unhide HO4, hbr4, hB4⟩, by simp [intOf]; omega⟩
            show _ = _
            rw [← unhide HP, unhide HDC, unhide HPK, ← unhide HP2]
            simp [unhide HTZ]
        · have f2 : ((t : Int) == 255) = false := by simp; omega
          have HPK := hide (packOf_some (x := x) (xs := xs.drop (k + 1)) (by rw [unhide HT]; exact ht0) (by rw [unhide HT]; exact ht1))
          clear ht0 ht1
          go_wp2_with (first | (go_at_call 176; refine (unhide HTG).mono ?_; rintro e w' ⟨rfl, hw⟩; rw [hw]; clear hw) | (at_builtin; refine wpList_append_own _ rfl _ _ 33 rfl B 5 i0 (.int .u8 0) 1 1 Fagg.underlying33 hi0 hz0 hz1 hz2 rfl (by decide) _ _ _ rfl (hown.alloc _) ⟨wr.heap.size, 0, none⟩ 1 1 [.int .u8 (t : Int)] rfl rfl ?_ ?_ ?_ ?_ ?_ ?_))
          · exact one_new _ _ _
          · exact one_cell rfl
          · unfold maxLen; omega
          · omega
          · simp; omega
          intro v1 w1 hown1 hg1 _
          have hs1 := hg1.size
          simp at hs1
          have hbr1 := ((hbr.alloc hBr (Obj.cells #[Value.int IntKind.u8 (t : Int)] 5)).grown hg1 (by simp; omega) (fun q hq => (hown.lt q hq).1))
          have HO1 := hide (show w1.ownsRow B 5 1 v1 (pre ++ [(t : Int)]).length ((pre ++ [(t : Int)]).map (Value.int .u8)) by simpa using hown1)
          clear hown1 hg1 hown
          go_wp2_with fail
          refine pack_loopA B x (pre ++ [(t : Int)]) v1 w1 hxx.1 hxx.2 (by simp; omega) (unhide HO1) (by omega) _ _ _ _ _ _ _ _ _ _ _ _ _ _ _ _ _ _ _ _ _ _ _ _ _ _ _ _ _ _ _ _ _ _ _ _ _ _ _ _ _ _ _ _ _ _ _ _ _ _ _ _ _ _ _ _ _ _ _ _ _ _ _ _ _ _ _ _ _ _ _ _ _ _ _ _ _ _ _ _ _ _ _ _ _ _ _ _ _ _ _ _ _ _ _ _ _ _ _ _ ?_
          intro v5 v42 v43 v44 v45 v46 v47 v48 v49 v50 v51 v52 v53 v2 w2 hb2 hown2
          have hbr2 := hbr1.trans hb2
          have hB2 : B ≤ w2.heap.size := by have := hb2.size; omega
          clear hb2 HO1
          have HO2 := hide hown2
          clear hown2
          go_wp2_with fail
          refine ⟨⟨k + 1, pre ++ [(t : Int)] ++ nonzero x, by omega, by go_num, ?_, by simp; omega, unhide HO2, hbr2, hB2⟩, by simp [intOf]; omega⟩
          show _ = _
          rw [← unhide HP, unhide HDC, unhide HPK, unhide HT]
          simp
    · have e1 : ¬ (k : Int) < (n : Int) := by omega
      obtain rfl : k = n := by omega
      have HF : Hid (pre = packOf xs) := by
        have := unhide HP
        rw [List.drop_of_length_le (by omega)] at this
        simpa [packOf, packAt, Hid] using this
      have HOW := hide hown
      clear hown
      go_wp2_with fail
      rw [unhide HF] at HOW
      exact unhide HE _ _ _ _ _ _ _ _ _ _ _ _ _ _ _ _ _ _ _ _ _ _ _ _ _ _ _ _ _ _ _ _ _ _ _ _ _ _ _ _ _ _ _ _ _ _ _ _ _ _ _ _ _ _ _ _ _ _ _ _ _ _ _ _ _ _ _ _ _ _ _ _ _ _ _ _ _ _ _ _ _ _ _ _ _ wr hbr (unhide HOW) (by rw [← unhide HF]; omega)
end Go.Proofs.Ygcfag
