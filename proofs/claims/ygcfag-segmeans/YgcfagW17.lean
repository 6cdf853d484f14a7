/-
  WALKS: the second loop of segwire.Seal.
-/
import Derived.Test.YgcfagW17c
import Derived.Test.YgcfagW17d
import Derived.RegionTactic
import Derived.OneCell
import Derived.BigRegion
import Derived.Lib.OwnKind
namespace Go.Proofs.Ygcfag
open Go.RowKit
set_option linter.unusedVariables false
set_option linter.unusedSimpArgs false

set_option maxHeartbeats 2000000 in
set_option maxRecDepth 100000 in
theorem seal_loop2 {Q0 : Exit → Act → World → Prop} (B T b off n c : Nat) (ms : List (List Int)) (v : Value) (w : World) (hn : ms.length = n) (hn8 : n ≤ 8) (htot : total ms ≤ 256) (hbB : b < B) (hseg : ∀ W, Below B w W → SegsAt W (some ⟨b, off, none⟩) ms)
    (hown : w.ownsRow B 32 1 v 0 []) (hB : B ≤ w.heap.size) (hBT : B ≤ T) (hT : w.heap[T]? = some (.cells #[.int .u64 0, .int .u64 0] 224 (0, 0)))
    (u0 u1 u2 u3 u4 u5 u6 u7 u10 u11 u12 u13 u14 u15 u16 u17 u18 u19 u20 u21 u22 u23 u24 u25 u26 u27 u28 u29 u30 u31 u32 u33 u34 u35 u36 u40 u41 u42 u43 u44 u45 u46 u47 u48 u49 u50 u51 u52 u53 u54 u55 u56 u57 u58 u59 u60 u61 u62 u63 u64 u65 u66 u67 u68 u69 u70 u71 u72 u73 u74 u75 u76 u77 u78 u79 u80 u81 u82 u83 u84 u85 u86 u87 u88 u89 u90 u91 u92 u93 u94 u95 u96 u97 u98 u99 u100 u101 u102 u103 u104 u105 u106 u107 u108 u109 u110 u111 u112 u113 u114 : Value)
    (hexit : ∀ (v10 v11 v39 v40 v41 v42 v43 v44 v45 v46 v47 v48 v49 v50 v51 v52 v53 v54 v55 v56 v57 v58 v59 v60 v61 : Value) (vv : Value) (wr : World), Below B w wr → B ≤ wr.heap.size → wr.ownsRow B 32 1 vv ms.flatten.length (ms.flatten.map (Value.int .u64)) → wr.heap[T]? = some (.cells #[.int .u64 (tabOf ms 0), .int .u64 (tabOf ms 1)] 224 (0, 0)) → Q0 (.exit 2) ⟨List.toArray (u0 :: u1 :: u2 :: u3 :: u4 :: u5 :: u6 :: u7 :: vv :: .pointer (some ⟨T, 0, none⟩) :: v10 :: v11 :: u12 :: u13 :: u14 :: u15 :: u16 :: u17 :: u18 :: u19 :: u20 :: u21 :: u22 :: u23 :: u24 :: u25 :: u26 :: u27 :: u28 :: u29 :: u30 :: u31 :: u32 :: u33 :: u34 :: u35 :: u36 :: .slice (some ⟨b, off, none⟩) n c :: .int .i64 (n : Int) :: v39 :: v40 :: v41 :: v42 :: v43 :: v44 :: v45 :: v46 :: v47 :: v48 :: v49 :: v50 :: v51 :: v52 :: v53 :: v54 :: v55 :: v56 :: v57 :: v58 :: v59 :: v60 :: v61 :: u62 :: u63 :: u64 :: u65 :: u66 :: u67 :: u68 :: u69 :: u70 :: u71 :: u72 :: u73 :: u74 :: u75 :: u76 :: u77 :: u78 :: u79 :: u80 :: u81 :: u82 :: u83 :: u84 :: u85 :: u86 :: u87 :: u88 :: u89 :: u90 :: u91 :: u92 :: u93 :: u94 :: u95 :: u96 :: u97 :: u98 :: u99 :: u100 :: u101 :: u102 :: u103 :: u104 :: u105 :: u106 :: u107 :: u108 :: u109 :: u110 :: u111 :: u112 :: u113 :: u114 :: []), []⟩ wr) :
    Code.wp Fagg.prog (bodyAt Fagg.f51 [1, 1, 1, 1, 1, 1, 0, 1, 0]) Q0 ⟨List.toArray (u0 :: u1 :: u2 :: u3 :: u4 :: u5 :: u6 :: u7 :: v :: .pointer (some ⟨T, 0, none⟩) :: u10 :: u11 :: u12 :: u13 :: u14 :: u15 :: u16 :: u17 :: u18 :: u19 :: u20 :: u21 :: u22 :: u23 :: u24 :: u25 :: u26 :: u27 :: u28 :: u29 :: u30 :: u31 :: u32 :: u33 :: u34 :: u35 :: u36 :: .slice (some ⟨b, off, none⟩) n c :: .int .i64 (n : Int) :: .int .i64 0 :: u40 :: u41 :: u42 :: u43 :: u44 :: u45 :: u46 :: u47 :: u48 :: u49 :: u50 :: u51 :: u52 :: u53 :: u54 :: u55 :: u56 :: u57 :: u58 :: u59 :: u60 :: u61 :: u62 :: u63 :: u64 :: u65 :: u66 :: u67 :: u68 :: u69 :: u70 :: u71 :: u72 :: u73 :: u74 :: u75 :: u76 :: u77 :: u78 :: u79 :: u80 :: u81 :: u82 :: u83 :: u84 :: u85 :: u86 :: u87 :: u88 :: u89 :: u90 :: u91 :: u92 :: u93 :: u94 :: u95 :: u96 :: u97 :: u98 :: u99 :: u100 :: u101 :: u102 :: u103 :: u104 :: u105 :: u106 :: u107 :: u108 :: u109 :: u110 :: u111 :: u112 :: u113 :: u114 :: []), []⟩ w := by
  conv => arg 2; whnf
  have HE := hide hexit
  have HO := hide hown
  have HC := hide hseg
  clear hexit hown hseg
  obtain ⟨i0, hi0, hz0, hz1, hz2⟩ := info_parts info32
  go_loopw [8, 39] (fun s y wr => ∃ (k : Nat), k ≤ n ∧ y = .int .i64 (k : Int) ∧ wr.ownsRow B 32 1 s (ms.take k).flatten.length ((ms.take k).flatten.map (Value.int .u64)) ∧ Hid (wr.heap[T]? = some (.cells #[.int .u64 (tabOf (ms.take k) 0), .int .u64 (tabOf (ms.take k) 1)] 224 (0, 0))) ∧ Below B w wr ∧ B ≤ wr.heap.size) (fun _ y _ => n - (intOf y).toNat)
  case atStart => exact ⟨0, by omega, rfl, by simpa using unhide HO, by show _ = _; simpa [tabOf, entN] using hT, Below.refl _ _, hB⟩
  case round =>
    obtain ⟨k, hk, rfl, hown, HT, hbr, hBr⟩ := hrel
    by_cases hlt : k < n
    · have e1 : (k : Int) < (n : Int) := by omega
      obtain ⟨ak, ck, hA⟩ := SegsAt.seg2 (unhide HC) hbB k (by omega)
      have hck := (hA wr hbr).1
      have HA := hide hA
      clear hA
      have hTc := tab_at wr T _ _ (unhide HT)
      have hTf := tab_free wr T _ _ (unhide HT)
      have hfl : (ms.take k).flatten.length ≤ 256 := by rw [flat_total]; have := total_le ms k; omega
      have hge := total_ge ms k (by omega)
      have HTN := hide (take_snocL [] ms k (by omega))
      clear e1
      obtain rfl | rfl | rfl | rfl | rfl | rfl | rfl | rfl : k = 0 ∨ k = 1 ∨ k = 2 ∨ k = 3 ∨ k = 4 ∨ k = 5 ∨ k = 6 ∨ k = 7 := by omega
      · have e1 : (0 : Int) < (n : Int) := by omega
        replace hck : wr.cell? ⟨b, off, none⟩ = some (.slice ak (ms.getD 0 []).length ck) := hck
        obtain ⟨hT0, hT1⟩ := hTc
        obtain ⟨hF0, hF1⟩ := hTf
        obtain ⟨hor, hoth⟩ := tab_k0 ms (by omega) htot
        have HOR := hide hor
        have HOTH := hide hoth
        clear hor hoth
        have HFN : Hid ((ms.take (0 + 1)).flatten = (ms.take 0).flatten ++ ms.getD 0 []) := by
          show _ = _
          rw [unhide HTN, List.flatten_append]; simp
        clear HTN
        generalize (ms.take 0).flatten = fl at *
        generalize ms.getD 0 [] = mk at *
        generalize hlk : mk.length = lk at *
        have HLK := hide hlk
        clear hlk
        generalize tabOf (ms.take 0) 0 = t0 at *
        generalize tabOf (ms.take 0) 1 = t1 at *
        have hne := own_not hown (unhide HT) (by decide)
        have HOW := hide hown
        clear hown
        go_wp2_with fail
        refine seal_store0 T lk ck ak t0 t1 _ wr (by omega) hT0 hT1 hF0 hF1 HOR _ _ _ _ _ _ _ _ _ _ _ _ _ _ _ _ _ _ _ _ _ _ _ _ _ _ _ _ _ _ _ _ _ _ _ _ _ _ _ _ _ _ _ _ _ _ _ _ _ _ _ _ _ _ _ _ _ _ _ _ _ _ _ _ _ _ _ _ _ _ _ _ _ _ _ _ _ _ _ _ _ _ _ _ _ _ _ _ _ _ _ _ _ _ _ _ _ _ _ _ _ _ _ _ _ _ _ _ _ _ _ _ ?_
        intro v44 v45 v46 v47 v48 v49 v50 v51 v52 v53 v54 v55 v56 v57
        have hb1 : Below B w ((wr.setCell ⟨T, 0, none⟩ (.int .u64 (tabOf (ms.take (0 + 1)) 0))).drew) := (hbr.setCell hBT _).drew
        have ho1 := (ownsRow_setCell_other (unhide HOW) (a := ⟨T, 0, none⟩) hne (.int .u64 (tabOf (ms.take (0 + 1)) 0))).drew
        have hT1' : ((wr.setCell ⟨T, 0, none⟩ (.int .u64 (tabOf (ms.take (0 + 1)) 0))).drew).heap[T]? = some (.cells #[.int .u64 (tabOf (ms.take (0 + 1)) 0), .int .u64 (tabOf (ms.take (0 + 1)) 1)] 224 (0, 0)) := by
          have := tab_set0 (u := .int .u64 (tabOf (ms.take (0 + 1)) 0)) (unhide HT)
          rw [← unhide HOTH] at this
          exact this
        have hsz1 : B ≤ ((wr.setCell ⟨T, 0, none⟩ (.int .u64 (tabOf (ms.take (0 + 1)) 0))).drew).heap.size := by simpa using hBr
        have hs1 := (unhide HA _ hb1).2.2
        generalize (wr.setCell ⟨T, 0, none⟩ (.int .u64 (tabOf (ms.take (0 + 1)) 0))).drew = W1 at *
        go_wp2_with (at_builtin; refine wpList_append_ints .u64 rfl _ _ 44 rfl B 32 i0 (.int .u64 0) 8 Fagg.underlying44 hi0 hz0 hz1 hz2 rfl _ _ _ rfl ho1 ak lk ck mk rfl (unhide HLK) hs1 ?_ ?_ ?_ ?_)
        · unfold maxLen; omega
        · omega
        · exact hsz1
        intro v2 w2 ho2 hg2
        have hne1 := own_not ho1 hT1' (by decide)
        have hT2 : w2.heap[T]? = some (.cells #[.int .u64 (tabOf (ms.take (0 + 1)) 0), .int .u64 (tabOf (ms.take (0 + 1)) 1)] 224 (0, 0)) := (hg2.block T (lt_of_block hT1') hne1.symm).trans hT1'
        have hb2 := hb1.grown hg2 hsz1 (fun q hq => (ho1.lt q hq).1)
        have hsz2 : B ≤ w2.heap.size := by have := hg2.size; omega
        have HO2 := hide ho2
        have HT2 := hide hT2
        clear ho2 hg2 ho1 hT1' hT2 hs1
        go_wp2_with fail
        refine ⟨⟨0 + 1, by omega, by go_num, ?_, HT2, hb2, hsz2⟩, by simp [intOf]; omega⟩
        rw [unhide HFN, List.length_append, unhide HLK]
        first | exact unhide HO2 | (rw [List.map_append]; exact unhide HO2)
      · have e1 : (1 : Int) < (n : Int) := by omega
        replace hck : wr.cell? ⟨b, off + 1, none⟩ = some (.slice ak (ms.getD 1 []).length ck) := hck
        obtain ⟨hT0, hT1⟩ := hTc
        obtain ⟨hF0, hF1⟩ := hTf
        obtain ⟨hor, hoth⟩ := tab_k1 ms (by omega) htot
        have HOR := hide hor
        have HOTH := hide hoth
        clear hor hoth
        have HFN : Hid ((ms.take (1 + 1)).flatten = (ms.take 1).flatten ++ ms.getD 1 []) := by
          show _ = _
          rw [unhide HTN, List.flatten_append]; simp
        clear HTN
        generalize (ms.take 1).flatten = fl at *
        generalize ms.getD 1 [] = mk at *
        generalize hlk : mk.length = lk at *
        have HLK := hide hlk
        clear hlk
        generalize tabOf (ms.take 1) 0 = t0 at *
        generalize tabOf (ms.take 1) 1 = t1 at *
        have hne := own_not hown (unhide HT) (by decide)
        have HOW := hide hown
        clear hown
        go_wp2_with fail
        refine seal_store1 T lk ck ak t0 t1 _ wr (by omega) hT0 hT1 hF0 hF1 HOR _ _ _ _ _ _ _ _ _ _ _ _ _ _ _ _ _ _ _ _ _ _ _ _ _ _ _ _ _ _ _ _ _ _ _ _ _ _ _ _ _ _ _ _ _ _ _ _ _ _ _ _ _ _ _ _ _ _ _ _ _ _ _ _ _ _ _ _ _ _ _ _ _ _ _ _ _ _ _ _ _ _ _ _ _ _ _ _ _ _ _ _ _ _ _ _ _ _ _ _ _ _ _ _ _ _ _ _ _ _ _ _ ?_
        intro v44 v45 v46 v47 v48 v49 v50 v51 v52 v53 v54 v55 v56 v57
        have hb1 : Below B w ((wr.setCell ⟨T, 0, none⟩ (.int .u64 (tabOf (ms.take (1 + 1)) 0))).drew) := (hbr.setCell hBT _).drew
        have ho1 := (ownsRow_setCell_other (unhide HOW) (a := ⟨T, 0, none⟩) hne (.int .u64 (tabOf (ms.take (1 + 1)) 0))).drew
        have hT1' : ((wr.setCell ⟨T, 0, none⟩ (.int .u64 (tabOf (ms.take (1 + 1)) 0))).drew).heap[T]? = some (.cells #[.int .u64 (tabOf (ms.take (1 + 1)) 0), .int .u64 (tabOf (ms.take (1 + 1)) 1)] 224 (0, 0)) := by
          have := tab_set0 (u := .int .u64 (tabOf (ms.take (1 + 1)) 0)) (unhide HT)
          rw [← unhide HOTH] at this
          exact this
        have hsz1 : B ≤ ((wr.setCell ⟨T, 0, none⟩ (.int .u64 (tabOf (ms.take (1 + 1)) 0))).drew).heap.size := by simpa using hBr
        have hs1 := (unhide HA _ hb1).2.2
        generalize (wr.setCell ⟨T, 0, none⟩ (.int .u64 (tabOf (ms.take (1 + 1)) 0))).drew = W1 at *
        go_wp2_with (at_builtin; refine wpList_append_ints .u64 rfl _ _ 44 rfl B 32 i0 (.int .u64 0) 8 Fagg.underlying44 hi0 hz0 hz1 hz2 rfl _ _ _ rfl ho1 ak lk ck mk rfl (unhide HLK) hs1 ?_ ?_ ?_ ?_)
        · unfold maxLen; omega
        · omega
        · exact hsz1
        intro v2 w2 ho2 hg2
        have hne1 := own_not ho1 hT1' (by decide)
        have hT2 : w2.heap[T]? = some (.cells #[.int .u64 (tabOf (ms.take (1 + 1)) 0), .int .u64 (tabOf (ms.take (1 + 1)) 1)] 224 (0, 0)) := (hg2.block T (lt_of_block hT1') hne1.symm).trans hT1'
        have hb2 := hb1.grown hg2 hsz1 (fun q hq => (ho1.lt q hq).1)
        have hsz2 : B ≤ w2.heap.size := by have := hg2.size; omega
        have HO2 := hide ho2
        have HT2 := hide hT2
        clear ho2 hg2 ho1 hT1' hT2 hs1
        go_wp2_with fail
        refine ⟨⟨1 + 1, by omega, by go_num, ?_, HT2, hb2, hsz2⟩, by simp [intOf]; omega⟩
        rw [unhide HFN, List.length_append, unhide HLK]
        first | exact unhide HO2 | (rw [List.map_append]; exact unhide HO2)
      · have e1 : (2 : Int) < (n : Int) := by omega
        replace hck : wr.cell? ⟨b, off + 2, none⟩ = some (.slice ak (ms.getD 2 []).length ck) := hck
        obtain ⟨hT0, hT1⟩ := hTc
        obtain ⟨hF0, hF1⟩ := hTf
        obtain ⟨hor, hoth⟩ := tab_k2 ms (by omega) htot
        have HOR := hide hor
        have HOTH := hide hoth
        clear hor hoth
        have HFN : Hid ((ms.take (2 + 1)).flatten = (ms.take 2).flatten ++ ms.getD 2 []) := by
          show _ = _
          rw [unhide HTN, List.flatten_append]; simp
        clear HTN
        generalize (ms.take 2).flatten = fl at *
        generalize ms.getD 2 [] = mk at *
        generalize hlk : mk.length = lk at *
        have HLK := hide hlk
        clear hlk
        generalize tabOf (ms.take 2) 0 = t0 at *
        generalize tabOf (ms.take 2) 1 = t1 at *
        have hne := own_not hown (unhide HT) (by decide)
        have HOW := hide hown
        clear hown
        go_wp2_with fail
        refine seal_store2 T lk ck ak t0 t1 _ wr (by omega) hT0 hT1 hF0 hF1 HOR _ _ _ _ _ _ _ _ _ _ _ _ _ _ _ _ _ _ _ _ _ _ _ _ _ _ _ _ _ _ _ _ _ _ _ _ _ _ _ _ _ _ _ _ _ _ _ _ _ _ _ _ _ _ _ _ _ _ _ _ _ _ _ _ _ _ _ _ _ _ _ _ _ _ _ _ _ _ _ _ _ _ _ _ _ _ _ _ _ _ _ _ _ _ _ _ _ _ _ _ _ _ _ _ _ _ _ _ _ _ _ _ ?_
        intro v44 v45 v46 v47 v48 v49 v50 v51 v52 v53 v54 v55 v56 v57
        have hb1 : Below B w ((wr.setCell ⟨T, 0, none⟩ (.int .u64 (tabOf (ms.take (2 + 1)) 0))).drew) := (hbr.setCell hBT _).drew
        have ho1 := (ownsRow_setCell_other (unhide HOW) (a := ⟨T, 0, none⟩) hne (.int .u64 (tabOf (ms.take (2 + 1)) 0))).drew
        have hT1' : ((wr.setCell ⟨T, 0, none⟩ (.int .u64 (tabOf (ms.take (2 + 1)) 0))).drew).heap[T]? = some (.cells #[.int .u64 (tabOf (ms.take (2 + 1)) 0), .int .u64 (tabOf (ms.take (2 + 1)) 1)] 224 (0, 0)) := by
          have := tab_set0 (u := .int .u64 (tabOf (ms.take (2 + 1)) 0)) (unhide HT)
          rw [← unhide HOTH] at this
          exact this
        have hsz1 : B ≤ ((wr.setCell ⟨T, 0, none⟩ (.int .u64 (tabOf (ms.take (2 + 1)) 0))).drew).heap.size := by simpa using hBr
        have hs1 := (unhide HA _ hb1).2.2
        generalize (wr.setCell ⟨T, 0, none⟩ (.int .u64 (tabOf (ms.take (2 + 1)) 0))).drew = W1 at *
        go_wp2_with (at_builtin; refine wpList_append_ints .u64 rfl _ _ 44 rfl B 32 i0 (.int .u64 0) 8 Fagg.underlying44 hi0 hz0 hz1 hz2 rfl _ _ _ rfl ho1 ak lk ck mk rfl (unhide HLK) hs1 ?_ ?_ ?_ ?_)
        · unfold maxLen; omega
        · omega
        · exact hsz1
        intro v2 w2 ho2 hg2
        have hne1 := own_not ho1 hT1' (by decide)
        have hT2 : w2.heap[T]? = some (.cells #[.int .u64 (tabOf (ms.take (2 + 1)) 0), .int .u64 (tabOf (ms.take (2 + 1)) 1)] 224 (0, 0)) := (hg2.block T (lt_of_block hT1') hne1.symm).trans hT1'
        have hb2 := hb1.grown hg2 hsz1 (fun q hq => (ho1.lt q hq).1)
        have hsz2 : B ≤ w2.heap.size := by have := hg2.size; omega
        have HO2 := hide ho2
        have HT2 := hide hT2
        clear ho2 hg2 ho1 hT1' hT2 hs1
        go_wp2_with fail
        refine ⟨⟨2 + 1, by omega, by go_num, ?_, HT2, hb2, hsz2⟩, by simp [intOf]; omega⟩
        rw [unhide HFN, List.length_append, unhide HLK]
        first | exact unhide HO2 | (rw [List.map_append]; exact unhide HO2)
      · have e1 : (3 : Int) < (n : Int) := by omega
        replace hck : wr.cell? ⟨b, off + 3, none⟩ = some (.slice ak (ms.getD 3 []).length ck) := hck
        obtain ⟨hT0, hT1⟩ := hTc
        obtain ⟨hF0, hF1⟩ := hTf
        obtain ⟨hor, hoth⟩ := tab_k3 ms (by omega) htot
        have HOR := hide hor
        have HOTH := hide hoth
        clear hor hoth
        have HFN : Hid ((ms.take (3 + 1)).flatten = (ms.take 3).flatten ++ ms.getD 3 []) := by
          show _ = _
          rw [unhide HTN, List.flatten_append]; simp
        clear HTN
        generalize (ms.take 3).flatten = fl at *
        generalize ms.getD 3 [] = mk at *
        generalize hlk : mk.length = lk at *
        have HLK := hide hlk
        clear hlk
        generalize tabOf (ms.take 3) 0 = t0 at *
        generalize tabOf (ms.take 3) 1 = t1 at *
        have hne := own_not hown (unhide HT) (by decide)
        have HOW := hide hown
        clear hown
        go_wp2_with fail
        refine seal_store3 T lk ck ak t0 t1 _ wr (by omega) hT0 hT1 hF0 hF1 HOR _ _ _ _ _ _ _ _ _ _ _ _ _ _ _ _ _ _ _ _ _ _ _ _ _ _ _ _ _ _ _ _ _ _ _ _ _ _ _ _ _ _ _ _ _ _ _ _ _ _ _ _ _ _ _ _ _ _ _ _ _ _ _ _ _ _ _ _ _ _ _ _ _ _ _ _ _ _ _ _ _ _ _ _ _ _ _ _ _ _ _ _ _ _ _ _ _ _ _ _ _ _ _ _ _ _ _ _ _ _ _ _ ?_
        intro v44 v45 v46 v47 v48 v49 v50 v51 v52 v53 v54 v55 v56 v57
        have hb1 : Below B w ((wr.setCell ⟨T, 0, none⟩ (.int .u64 (tabOf (ms.take (3 + 1)) 0))).drew) := (hbr.setCell hBT _).drew
        have ho1 := (ownsRow_setCell_other (unhide HOW) (a := ⟨T, 0, none⟩) hne (.int .u64 (tabOf (ms.take (3 + 1)) 0))).drew
        have hT1' : ((wr.setCell ⟨T, 0, none⟩ (.int .u64 (tabOf (ms.take (3 + 1)) 0))).drew).heap[T]? = some (.cells #[.int .u64 (tabOf (ms.take (3 + 1)) 0), .int .u64 (tabOf (ms.take (3 + 1)) 1)] 224 (0, 0)) := by
          have := tab_set0 (u := .int .u64 (tabOf (ms.take (3 + 1)) 0)) (unhide HT)
          rw [← unhide HOTH] at this
          exact this
        have hsz1 : B ≤ ((wr.setCell ⟨T, 0, none⟩ (.int .u64 (tabOf (ms.take (3 + 1)) 0))).drew).heap.size := by simpa using hBr
        have hs1 := (unhide HA _ hb1).2.2
        generalize (wr.setCell ⟨T, 0, none⟩ (.int .u64 (tabOf (ms.take (3 + 1)) 0))).drew = W1 at *
        go_wp2_with (at_builtin; refine wpList_append_ints .u64 rfl _ _ 44 rfl B 32 i0 (.int .u64 0) 8 Fagg.underlying44 hi0 hz0 hz1 hz2 rfl _ _ _ rfl ho1 ak lk ck mk rfl (unhide HLK) hs1 ?_ ?_ ?_ ?_)
        · unfold maxLen; omega
        · omega
        · exact hsz1
        intro v2 w2 ho2 hg2
        have hne1 := own_not ho1 hT1' (by decide)
        have hT2 : w2.heap[T]? = some (.cells #[.int .u64 (tabOf (ms.take (3 + 1)) 0), .int .u64 (tabOf (ms.take (3 + 1)) 1)] 224 (0, 0)) := (hg2.block T (lt_of_block hT1') hne1.symm).trans hT1'
        have hb2 := hb1.grown hg2 hsz1 (fun q hq => (ho1.lt q hq).1)
        have hsz2 : B ≤ w2.heap.size := by have := hg2.size; omega
        have HO2 := hide ho2
        have HT2 := hide hT2
        clear ho2 hg2 ho1 hT1' hT2 hs1
        go_wp2_with fail
        refine ⟨⟨3 + 1, by omega, by go_num, ?_, HT2, hb2, hsz2⟩, by simp [intOf]; omega⟩
        rw [unhide HFN, List.length_append, unhide HLK]
        first | exact unhide HO2 | (rw [List.map_append]; exact unhide HO2)
      · have e1 : (4 : Int) < (n : Int) := by omega
        replace hck : wr.cell? ⟨b, off + 4, none⟩ = some (.slice ak (ms.getD 4 []).length ck) := hck
        obtain ⟨hT0, hT1⟩ := hTc
        obtain ⟨hF0, hF1⟩ := hTf
        obtain ⟨hor, hoth⟩ := tab_k4 ms (by omega) htot
        have HOR := hide hor
        have HOTH := hide hoth
        clear hor hoth
        have HFN : Hid ((ms.take (4 + 1)).flatten = (ms.take 4).flatten ++ ms.getD 4 []) := by
          show _ = _
          rw [unhide HTN, List.flatten_append]; simp
        clear HTN
        generalize (ms.take 4).flatten = fl at *
        generalize ms.getD 4 [] = mk at *
        generalize hlk : mk.length = lk at *
        have HLK := hide hlk
        clear hlk
        generalize tabOf (ms.take 4) 0 = t0 at *
        generalize tabOf (ms.take 4) 1 = t1 at *
        have hne := own_not hown (unhide HT) (by decide)
        have HOW := hide hown
        clear hown
        go_wp2_with fail
        refine seal_store4 T lk ck ak t0 t1 _ wr (by omega) hT0 hT1 hF0 hF1 HOR _ _ _ _ _ _ _ _ _ _ _ _ _ _ _ _ _ _ _ _ _ _ _ _ _ _ _ _ _ _ _ _ _ _ _ _ _ _ _ _ _ _ _ _ _ _ _ _ _ _ _ _ _ _ _ _ _ _ _ _ _ _ _ _ _ _ _ _ _ _ _ _ _ _ _ _ _ _ _ _ _ _ _ _ _ _ _ _ _ _ _ _ _ _ _ _ _ _ _ _ _ _ _ _ _ _ _ _ _ _ _ _ ?_
        intro v44 v45 v46 v47 v48 v49 v50 v51 v52 v53 v54 v55 v56 v57
        have hb1 : Below B w ((wr.setCell ⟨T, 1, none⟩ (.int .u64 (tabOf (ms.take (4 + 1)) 1))).drew) := (hbr.setCell hBT _).drew
        have ho1 := (ownsRow_setCell_other (unhide HOW) (a := ⟨T, 1, none⟩) hne (.int .u64 (tabOf (ms.take (4 + 1)) 1))).drew
        have hT1' : ((wr.setCell ⟨T, 1, none⟩ (.int .u64 (tabOf (ms.take (4 + 1)) 1))).drew).heap[T]? = some (.cells #[.int .u64 (tabOf (ms.take (4 + 1)) 0), .int .u64 (tabOf (ms.take (4 + 1)) 1)] 224 (0, 0)) := by
          have := tab_set1 (u := .int .u64 (tabOf (ms.take (4 + 1)) 1)) (unhide HT)
          rw [← unhide HOTH] at this
          exact this
        have hsz1 : B ≤ ((wr.setCell ⟨T, 1, none⟩ (.int .u64 (tabOf (ms.take (4 + 1)) 1))).drew).heap.size := by simpa using hBr
        have hs1 := (unhide HA _ hb1).2.2
        generalize (wr.setCell ⟨T, 1, none⟩ (.int .u64 (tabOf (ms.take (4 + 1)) 1))).drew = W1 at *
        go_wp2_with (at_builtin; refine wpList_append_ints .u64 rfl _ _ 44 rfl B 32 i0 (.int .u64 0) 8 Fagg.underlying44 hi0 hz0 hz1 hz2 rfl _ _ _ rfl ho1 ak lk ck mk rfl (unhide HLK) hs1 ?_ ?_ ?_ ?_)
        · unfold maxLen; omega
        · omega
        · exact hsz1
        intro v2 w2 ho2 hg2
        have hne1 := own_not ho1 hT1' (by decide)
        have hT2 : w2.heap[T]? = some (.cells #[.int .u64 (tabOf (ms.take (4 + 1)) 0), .int .u64 (tabOf (ms.take (4 + 1)) 1)] 224 (0, 0)) := (hg2.block T (lt_of_block hT1') hne1.symm).trans hT1'
        have hb2 := hb1.grown hg2 hsz1 (fun q hq => (ho1.lt q hq).1)
        have hsz2 : B ≤ w2.heap.size := by have := hg2.size; omega
        have HO2 := hide ho2
        have HT2 := hide hT2
        clear ho2 hg2 ho1 hT1' hT2 hs1
        go_wp2_with fail
        refine ⟨⟨4 + 1, by omega, by go_num, ?_, HT2, hb2, hsz2⟩, by simp [intOf]; omega⟩
        rw [unhide HFN, List.length_append, unhide HLK]
        first | exact unhide HO2 | (rw [List.map_append]; exact unhide HO2)
      · have e1 : (5 : Int) < (n : Int) := by omega
        replace hck : wr.cell? ⟨b, off + 5, none⟩ = some (.slice ak (ms.getD 5 []).length ck) := hck
        obtain ⟨hT0, hT1⟩ := hTc
        obtain ⟨hF0, hF1⟩ := hTf
        obtain ⟨hor, hoth⟩ := tab_k5 ms (by omega) htot
        have HOR := hide hor
        have HOTH := hide hoth
        clear hor hoth
        have HFN : Hid ((ms.take (5 + 1)).flatten = (ms.take 5).flatten ++ ms.getD 5 []) := by
          show _ = _
          rw [unhide HTN, List.flatten_append]; simp
        clear HTN
        generalize (ms.take 5).flatten = fl at *
        generalize ms.getD 5 [] = mk at *
        generalize hlk : mk.length = lk at *
        have HLK := hide hlk
        clear hlk
        generalize tabOf (ms.take 5) 0 = t0 at *
        generalize tabOf (ms.take 5) 1 = t1 at *
        have hne := own_not hown (unhide HT) (by decide)
        have HOW := hide hown
        clear hown
        go_wp2_with fail
        refine seal_store5 T lk ck ak t0 t1 _ wr (by omega) hT0 hT1 hF0 hF1 HOR _ _ _ _ _ _ _ _ _ _ _ _ _ _ _ _ _ _ _ _ _ _ _ _ _ _ _ _ _ _ _ _ _ _ _ _ _ _ _ _ _ _ _ _ _ _ _ _ _ _ _ _ _ _ _ _ _ _ _ _ _ _ _ _ _ _ _ _ _ _ _ _ _ _ _ _ _ _ _ _ _ _ _ _ _ _ _ _ _ _ _ _ _ _ _ _ _ _ _ _ _ _ _ _ _ _ _ _ _ _ _ _ ?_
        intro v44 v45 v46 v47 v48 v49 v50 v51 v52 v53 v54 v55 v56 v57
        have hb1 : Below B w ((wr.setCell ⟨T, 1, none⟩ (.int .u64 (tabOf (ms.take (5 + 1)) 1))).drew) := (hbr.setCell hBT _).drew
        have ho1 := (ownsRow_setCell_other (unhide HOW) (a := ⟨T, 1, none⟩) hne (.int .u64 (tabOf (ms.take (5 + 1)) 1))).drew
        have hT1' : ((wr.setCell ⟨T, 1, none⟩ (.int .u64 (tabOf (ms.take (5 + 1)) 1))).drew).heap[T]? = some (.cells #[.int .u64 (tabOf (ms.take (5 + 1)) 0), .int .u64 (tabOf (ms.take (5 + 1)) 1)] 224 (0, 0)) := by
          have := tab_set1 (u := .int .u64 (tabOf (ms.take (5 + 1)) 1)) (unhide HT)
          rw [← unhide HOTH] at this
          exact this
        have hsz1 : B ≤ ((wr.setCell ⟨T, 1, none⟩ (.int .u64 (tabOf (ms.take (5 + 1)) 1))).drew).heap.size := by simpa using hBr
        have hs1 := (unhide HA _ hb1).2.2
        generalize (wr.setCell ⟨T, 1, none⟩ (.int .u64 (tabOf (ms.take (5 + 1)) 1))).drew = W1 at *
        go_wp2_with (at_builtin; refine wpList_append_ints .u64 rfl _ _ 44 rfl B 32 i0 (.int .u64 0) 8 Fagg.underlying44 hi0 hz0 hz1 hz2 rfl _ _ _ rfl ho1 ak lk ck mk rfl (unhide HLK) hs1 ?_ ?_ ?_ ?_)
        · unfold maxLen; omega
        · omega
        · exact hsz1
        intro v2 w2 ho2 hg2
        have hne1 := own_not ho1 hT1' (by decide)
        have hT2 : w2.heap[T]? = some (.cells #[.int .u64 (tabOf (ms.take (5 + 1)) 0), .int .u64 (tabOf (ms.take (5 + 1)) 1)] 224 (0, 0)) := (hg2.block T (lt_of_block hT1') hne1.symm).trans hT1'
        have hb2 := hb1.grown hg2 hsz1 (fun q hq => (ho1.lt q hq).1)
        have hsz2 : B ≤ w2.heap.size := by have := hg2.size; omega
        have HO2 := hide ho2
        have HT2 := hide hT2
        clear ho2 hg2 ho1 hT1' hT2 hs1
        go_wp2_with fail
        refine ⟨⟨5 + 1, by omega, by go_num, ?_, HT2, hb2, hsz2⟩, by simp [intOf]; omega⟩
        rw [unhide HFN, List.length_append, unhide HLK]
        first | exact unhide HO2 | (rw [List.map_append]; exact unhide HO2)
      · have e1 : (6 : Int) < (n : Int) := by omega
        replace hck : wr.cell? ⟨b, off + 6, none⟩ = some (.slice ak (ms.getD 6 []).length ck) := hck
        obtain ⟨hT0, hT1⟩ := hTc
        obtain ⟨hF0, hF1⟩ := hTf
        obtain ⟨hor, hoth⟩ := tab_k6 ms (by omega) htot
        have HOR := hide hor
        have HOTH := hide hoth
        clear hor hoth
        have HFN : Hid ((ms.take (6 + 1)).flatten = (ms.take 6).flatten ++ ms.getD 6 []) := by
          show _ = _
          rw [unhide HTN, List.flatten_append]; simp
        clear HTN
        generalize (ms.take 6).flatten = fl at *
        generalize ms.getD 6 [] = mk at *
        generalize hlk : mk.length = lk at *
        have HLK := hide hlk
        clear hlk
        generalize tabOf (ms.take 6) 0 = t0 at *
        generalize tabOf (ms.take 6) 1 = t1 at *
        have hne := own_not hown (unhide HT) (by decide)
        have HOW := hide hown
        clear hown
        go_wp2_with fail
        refine seal_store6 T lk ck ak t0 t1 _ wr (by omega) hT0 hT1 hF0 hF1 HOR _ _ _ _ _ _ _ _ _ _ _ _ _ _ _ _ _ _ _ _ _ _ _ _ _ _ _ _ _ _ _ _ _ _ _ _ _ _ _ _ _ _ _ _ _ _ _ _ _ _ _ _ _ _ _ _ _ _ _ _ _ _ _ _ _ _ _ _ _ _ _ _ _ _ _ _ _ _ _ _ _ _ _ _ _ _ _ _ _ _ _ _ _ _ _ _ _ _ _ _ _ _ _ _ _ _ _ _ _ _ _ _ ?_
        intro v44 v45 v46 v47 v48 v49 v50 v51 v52 v53 v54 v55 v56 v57
        have hb1 : Below B w ((wr.setCell ⟨T, 1, none⟩ (.int .u64 (tabOf (ms.take (6 + 1)) 1))).drew) := (hbr.setCell hBT _).drew
        have ho1 := (ownsRow_setCell_other (unhide HOW) (a := ⟨T, 1, none⟩) hne (.int .u64 (tabOf (ms.take (6 + 1)) 1))).drew
        have hT1' : ((wr.setCell ⟨T, 1, none⟩ (.int .u64 (tabOf (ms.take (6 + 1)) 1))).drew).heap[T]? = some (.cells #[.int .u64 (tabOf (ms.take (6 + 1)) 0), .int .u64 (tabOf (ms.take (6 + 1)) 1)] 224 (0, 0)) := by
          have := tab_set1 (u := .int .u64 (tabOf (ms.take (6 + 1)) 1)) (unhide HT)
          rw [← unhide HOTH] at this
          exact this
        have hsz1 : B ≤ ((wr.setCell ⟨T, 1, none⟩ (.int .u64 (tabOf (ms.take (6 + 1)) 1))).drew).heap.size := by simpa using hBr
        have hs1 := (unhide HA _ hb1).2.2
        generalize (wr.setCell ⟨T, 1, none⟩ (.int .u64 (tabOf (ms.take (6 + 1)) 1))).drew = W1 at *
        go_wp2_with (at_builtin; refine wpList_append_ints .u64 rfl _ _ 44 rfl B 32 i0 (.int .u64 0) 8 Fagg.underlying44 hi0 hz0 hz1 hz2 rfl _ _ _ rfl ho1 ak lk ck mk rfl (unhide HLK) hs1 ?_ ?_ ?_ ?_)
        · unfold maxLen; omega
        · omega
        · exact hsz1
        intro v2 w2 ho2 hg2
        have hne1 := own_not ho1 hT1' (by decide)
        have hT2 : w2.heap[T]? = some (.cells #[.int .u64 (tabOf (ms.take (6 + 1)) 0), .int .u64 (tabOf (ms.take (6 + 1)) 1)] 224 (0, 0)) := (hg2.block T (lt_of_block hT1') hne1.symm).trans hT1'
        have hb2 := hb1.grown hg2 hsz1 (fun q hq => (ho1.lt q hq).1)
        have hsz2 : B ≤ w2.heap.size := by have := hg2.size; omega
        have HO2 := hide ho2
        have HT2 := hide hT2
        clear ho2 hg2 ho1 hT1' hT2 hs1
        go_wp2_with fail
        refine ⟨⟨6 + 1, by omega, by go_num, ?_, HT2, hb2, hsz2⟩, by simp [intOf]; omega⟩
        rw [unhide HFN, List.length_append, unhide HLK]
        first | exact unhide HO2 | (rw [List.map_append]; exact unhide HO2)
      · have e1 : (7 : Int) < (n : Int) := by omega
        replace hck : wr.cell? ⟨b, off + 7, none⟩ = some (.slice ak (ms.getD 7 []).length ck) := hck
        obtain ⟨hT0, hT1⟩ := hTc
        obtain ⟨hF0, hF1⟩ := hTf
        obtain ⟨hor, hoth⟩ := tab_k7 ms (by omega) htot
        have HOR := hide hor
        have HOTH := hide hoth
        clear hor hoth
        have HFN : Hid ((ms.take (7 + 1)).flatten = (ms.take 7).flatten ++ ms.getD 7 []) := by
          show _ = _
          rw [unhide HTN, List.flatten_append]; simp
        clear HTN
        generalize (ms.take 7).flatten = fl at *
        generalize ms.getD 7 [] = mk at *
        generalize hlk : mk.length = lk at *
        have HLK := hide hlk
        clear hlk
        generalize tabOf (ms.take 7) 0 = t0 at *
        generalize tabOf (ms.take 7) 1 = t1 at *
        have hne := own_not hown (unhide HT) (by decide)
        have HOW := hide hown
        clear hown
        go_wp2_with fail
        refine seal_store7 T lk ck ak t0 t1 _ wr (by omega) hT0 hT1 hF0 hF1 HOR _ _ _ _ _ _ _ _ _ _ _ _ _ _ _ _ _ _ _ _ _ _ _ _ _ _ _ _ _ _ _ _ _ _ _ _ _ _ _ _ _ _ _ _ _ _ _ _ _ _ _ _ _ _ _ _ _ _ _ _ _ _ _ _ _ _ _ _ _ _ _ _ _ _ _ _ _ _ _ _ _ _ _ _ _ _ _ _ _ _ _ _ _ _ _ _ _ _ _ _ _ _ _ _ _ _ _ _ _ _ _ _ ?_
        intro v44 v45 v46 v47 v48 v49 v50 v51 v52 v53 v54 v55 v56 v57
        have hb1 : Below B w ((wr.setCell ⟨T, 1, none⟩ (.int .u64 (tabOf (ms.take (7 + 1)) 1))).drew) := (hbr.setCell hBT _).drew
        have ho1 := (ownsRow_setCell_other (unhide HOW) (a := ⟨T, 1, none⟩) hne (.int .u64 (tabOf (ms.take (7 + 1)) 1))).drew
        have hT1' : ((wr.setCell ⟨T, 1, none⟩ (.int .u64 (tabOf (ms.take (7 + 1)) 1))).drew).heap[T]? = some (.cells #[.int .u64 (tabOf (ms.take (7 + 1)) 0), .int .u64 (tabOf (ms.take (7 + 1)) 1)] 224 (0, 0)) := by
          have := tab_set1 (u := .int .u64 (tabOf (ms.take (7 + 1)) 1)) (unhide HT)
          rw [← unhide HOTH] at this
          exact this
        have hsz1 : B ≤ ((wr.setCell ⟨T, 1, none⟩ (.int .u64 (tabOf (ms.take (7 + 1)) 1))).drew).heap.size := by simpa using hBr
        have hs1 := (unhide HA _ hb1).2.2
        generalize (wr.setCell ⟨T, 1, none⟩ (.int .u64 (tabOf (ms.take (7 + 1)) 1))).drew = W1 at *
        go_wp2_with (at_builtin; refine wpList_append_ints .u64 rfl _ _ 44 rfl B 32 i0 (.int .u64 0) 8 Fagg.underlying44 hi0 hz0 hz1 hz2 rfl _ _ _ rfl ho1 ak lk ck mk rfl (unhide HLK) hs1 ?_ ?_ ?_ ?_)
        · unfold maxLen; omega
        · omega
        · exact hsz1
        intro v2 w2 ho2 hg2
        have hne1 := own_not ho1 hT1' (by decide)
        have hT2 : w2.heap[T]? = some (.cells #[.int .u64 (tabOf (ms.take (7 + 1)) 0), .int .u64 (tabOf (ms.take (7 + 1)) 1)] 224 (0, 0)) := (hg2.block T (lt_of_block hT1') hne1.symm).trans hT1'
        have hb2 := hb1.grown hg2 hsz1 (fun q hq => (ho1.lt q hq).1)
        have hsz2 : B ≤ w2.heap.size := by have := hg2.size; omega
        have HO2 := hide ho2
        have HT2 := hide hT2
        clear ho2 hg2 ho1 hT1' hT2 hs1
        go_wp2_with fail
        refine ⟨⟨7 + 1, by omega, by go_num, ?_, HT2, hb2, hsz2⟩, by simp [intOf]; omega⟩
        rw [unhide HFN, List.length_append, unhide HLK]
        first | exact unhide HO2 | (rw [List.map_append]; exact unhide HO2)
    · have e1 : ¬ (k : Int) < (n : Int) := by omega
      obtain rfl : k = n := by omega
      have HTK := hide (show ms.take k = ms by rw [List.take_of_length_le (by omega)])
      rw [unhide HTK] at hown HT
      have HOW := hide hown
      clear hown
      go_wp2_with fail
      exact unhide HE _ _ _ _ _ _ _ _ _ _ _ _ _ _ _ _ _ _ _ _ _ _ _ _ _ _ wr hbr hBr (unhide HOW) (unhide HT)
end Go.Proofs.Ygcfag
