/-
  WALKS: segwire.Seal whole.
-/
import Derived.Test.YgcfagW20
namespace Go.Proofs.Ygcfag
open Go.RowKit
set_option linter.unusedVariables false
set_option linter.unusedSimpArgs false

theorem rawOf_len (ms : List (List Int)) (packed : Bool) : 32 ≤ (rawOf ms packed).length := by
  unfold rawOf; rw [List.length_append, flat8_len]; simp

set_option maxHeartbeats 1000000 in
set_option maxRecDepth 100000 in
theorem seal_s1 (R : Ending → World → Prop) (ga t cA T : Nat) (packed : Bool) (ws : List Int) (t0 t1 : Int) (w : World) (ht : ws.length = t) (ht1 : 1 ≤ t) (ht2 : t ≤ 256) (htA : t ≤ cA) (hcell : ∀ j, j < t → w.cell? ⟨ga, 0 + j, none⟩ = some (.int .u64 (ws.getD j 0))) (hw : Wds ws)
    (hT0 : w.cell? ⟨T, 0, none⟩ = some (.int .u64 t0)) (hT1 : w.cell? ⟨T, 1, none⟩ = some (.int .u64 t1)) (h0 : 0 ≤ t0 ∧ t0 ≤ 18446744073709551615) (h1 : 0 ≤ t1 ∧ t1 ≤ 18446744073709551615)
    (hR : ∀ vv wr, Below w.heap.size w wr → wr.ownsRow w.heap.size 5 1 vv ([h0Of packed, (t : Int), t0, t1].flatMap bytes8 ++ loadOf ws packed).length ((laid4 ([h0Of packed, (t : Int), t0, t1].flatMap bytes8 ++ loadOf ws packed) (sumF ([h0Of packed, (t : Int), t0, t1].flatMap bytes8 ++ loadOf ws packed))).map (Value.int .u8)) → R (.returned vv) wr)
    (u0 u2 u3 u4 u5 u6 u7 u10 u11 u12 u13 u14 u15 u16 u17 u18 u19 u20 u21 u22 u23 u24 u25 u26 u27 u28 u29 u30 u31 u32 u33 u34 u35 u36 u37 u38 u39 u40 u41 u42 u43 u44 u45 u46 u47 u48 u49 u50 u51 u52 u53 u54 u55 u56 u57 u58 u59 u60 u61 u62 u63 u64 u65 u66 u67 u68 u69 u70 u71 u72 u73 u74 u75 u76 u77 u78 u79 u80 u81 u82 u83 u84 u85 u86 u87 u88 u89 u90 u91 u92 u93 u94 u95 u96 u97 u98 u99 u100 u101 u102 u103 u104 u105 u106 u107 u108 u109 u110 u111 u112 u113 u114 : Value) :
    Code.wp Fagg.prog (bodyAt Fagg.f51 [1, 1, 1, 1, 1, 1, 1]) (bodyPost Fagg.prog Fagg.f51 R) ⟨List.toArray (u0 :: (.bool packed) :: u2 :: u3 :: u4 :: u5 :: u6 :: u7 :: (.slice (some ⟨ga, 0, none⟩) t cA) :: (.pointer (some ⟨T, 0, none⟩)) :: u10 :: u11 :: u12 :: u13 :: u14 :: u15 :: u16 :: u17 :: u18 :: u19 :: u20 :: u21 :: u22 :: u23 :: u24 :: u25 :: u26 :: u27 :: u28 :: u29 :: u30 :: u31 :: u32 :: u33 :: u34 :: u35 :: u36 :: u37 :: u38 :: u39 :: u40 :: u41 :: u42 :: u43 :: u44 :: u45 :: u46 :: u47 :: u48 :: u49 :: u50 :: u51 :: u52 :: u53 :: u54 :: u55 :: u56 :: u57 :: u58 :: u59 :: u60 :: u61 :: u62 :: u63 :: u64 :: u65 :: u66 :: u67 :: u68 :: u69 :: u70 :: u71 :: u72 :: u73 :: u74 :: u75 :: u76 :: u77 :: u78 :: u79 :: u80 :: u81 :: u82 :: u83 :: u84 :: u85 :: u86 :: u87 :: u88 :: u89 :: u90 :: u91 :: u92 :: u93 :: u94 :: u95 :: u96 :: u97 :: u98 :: u99 :: u100 :: u101 :: u102 :: u103 :: u104 :: u105 :: u106 :: u107 :: u108 :: u109 :: u110 :: u111 :: u112 :: u113 :: u114 :: []), []⟩ w := by
  conv => arg 2; whnf
  have HR := hide hR
  have HC := hide hcell
  have HW := hide hw
  have HT := hide ht
  have hgaB : ga < w.heap.size := World.block_lt_of_cell? w _ (hcell 0 (by omega))
  have hTB : T < w.heap.size := World.block_lt_of_cell? w _ hT0
  clear hR hcell hw ht
  obtain ⟨i0, hi0, hz0, hz1, hz2⟩ := info_parts info5
  refine wp_seq_k (fun K0 hK0 => ?_)
  have HK0 := hide hK0
  clear hK0
  go_wp2
  refine unhide HK0 _ _ ?_
  clear HK0
  refine wp_seq_k (fun K0 hK0 => ?_)
  have HK0 := hide hK0
  clear hK0
  cases packed with
  | true =>
    go_wp2
    refine unhide HK0 _ _ ?_
    clear HK0
    refine wp_seq_k (fun K0 hK0 => ?_)
    have HK0 := hide hK0
    clear hK0
    go_wp2_with (at_make; refine wpList_make_own _ rfl _ _ 33 rfl w.heap.size 5 i0 (.int .u8 0) 1 Fagg.underlying33 hi0 hz0 hz1 _ _ _ (32 + 8 * t) rfl rfl ?_ ?_ ?_ ?_ ?_)
    all_goals first | omega | (unfold maxLen; omega) | (rw [hz2]; omega) | go_num | skip
    intro w1 ho hg
    have hb1 := (Below.refl w.heap.size w).grown hg (Nat.le_refl _) (by simp)
    have HO := hide ho
    clear ho hg
    go_wp2
    refine unhide HK0 _ _ ?_
    exact seal_s2 R w.heap.size ga t cA T true ws t0 t1 _ w1 hgaB hb1.size (unhide HT) ht1 ht2 htA (fun j hj => (hb1.cell (p := ⟨ga, 0 + j, none⟩) hgaB).trans (unhide HC j hj)) (unhide HW) ((hb1.cell (p := ⟨T, 0, none⟩) hTB).trans hT0) ((hb1.cell (p := ⟨T, 1, none⟩) hTB).trans hT1) h0 h1 (unhide HO) (fun vv wr hb ho => unhide HR vv wr (hb1.trans hb) ho) _ _ _ _ _ _ _ _ _ _ _ _ _ _ _ _ _ _ _ _ _ _ _ _ _ _ _ _ _ _ _ _ _ _ _ _ _ _ _ _ _ _ _ _ _ _ _ _ _ _ _ _ _ _ _ _ _ _ _ _ _ _ _ _ _ _ _ _ _ _ _ _ _ _ _ _ _ _ _ _ _ _ _ _ _ _ _ _ _ _ _ _ _ _ _ _ _ _ _ _ _ _ _ _ _ _ _ _ _ _
  | false =>
    go_wp2
    refine unhide HK0 _ _ ?_
    clear HK0
    refine wp_seq_k (fun K0 hK0 => ?_)
    have HK0 := hide hK0
    clear hK0
    go_wp2_with (at_make; refine wpList_make_own _ rfl _ _ 33 rfl w.heap.size 5 i0 (.int .u8 0) 1 Fagg.underlying33 hi0 hz0 hz1 _ _ _ (32 + 8 * t) rfl rfl ?_ ?_ ?_ ?_ ?_)
    all_goals first | omega | (unfold maxLen; omega) | (rw [hz2]; omega) | go_num | skip
    intro w1 ho hg
    have hb1 := (Below.refl w.heap.size w).grown hg (Nat.le_refl _) (by simp)
    have HO := hide ho
    clear ho hg
    go_wp2
    refine unhide HK0 _ _ ?_
    exact seal_s2 R w.heap.size ga t cA T false ws t0 t1 _ w1 hgaB hb1.size (unhide HT) ht1 ht2 htA (fun j hj => (hb1.cell (p := ⟨ga, 0 + j, none⟩) hgaB).trans (unhide HC j hj)) (unhide HW) ((hb1.cell (p := ⟨T, 0, none⟩) hTB).trans hT0) ((hb1.cell (p := ⟨T, 1, none⟩) hTB).trans hT1) h0 h1 (unhide HO) (fun vv wr hb ho => unhide HR vv wr (hb1.trans hb) ho) _ _ _ _ _ _ _ _ _ _ _ _ _ _ _ _ _ _ _ _ _ _ _ _ _ _ _ _ _ _ _ _ _ _ _ _ _ _ _ _ _ _ _ _ _ _ _ _ _ _ _ _ _ _ _ _ _ _ _ _ _ _ _ _ _ _ _ _ _ _ _ _ _ _ _ _ _ _ _ _ _ _ _ _ _ _ _ _ _ _ _ _ _ _ _ _ _ _ _ _ _ _ _ _ _ _ _ _ _ _

set_option maxHeartbeats 1000000 in
set_option maxRecDepth 100000 in
theorem seal_s0 (R : Ending → World → Prop) (B b off n c T : Nat) (packed : Bool) (ms : List (List Int)) (v : Value) (w : World) (hn : ms.length = n) (hf : fitsOf ms = true) (hbB : b < B) (hseg : ∀ W, Below B w W → SegsAt W (some ⟨b, off, none⟩) ms) (hw : Wds ms.flatten)
    (hown : w.ownsRow B 32 1 v 0 []) (hB : B ≤ w.heap.size) (hBT : B ≤ T) (hT : w.heap[T]? = some (.cells #[.int .u64 0, .int .u64 0] 224 (0, 0)))
    (hR : ∀ vv wr, Below B w wr → wr.ownsRow B 5 1 vv (sealOf ms packed).length ((sealOf ms packed).map (Value.int .u8)) → R (.returned vv) wr)
    (u2 u3 u4 u5 u6 u7 u10 u11 u12 u13 u14 u15 u16 u17 u18 u19 u20 u21 u22 u23 u24 u25 u26 u27 u28 u29 u30 u31 u32 u33 u34 u35 u36 u37 u38 u39 u40 u41 u42 u43 u44 u45 u46 u47 u48 u49 u50 u51 u52 u53 u54 u55 u56 u57 u58 u59 u60 u61 u62 u63 u64 u65 u66 u67 u68 u69 u70 u71 u72 u73 u74 u75 u76 u77 u78 u79 u80 u81 u82 u83 u84 u85 u86 u87 u88 u89 u90 u91 u92 u93 u94 u95 u96 u97 u98 u99 u100 u101 u102 u103 u104 u105 u106 u107 u108 u109 u110 u111 u112 u113 u114 : Value) :
    Code.wp Fagg.prog (bodyAt Fagg.f51 [1, 1, 1, 1, 1, 1]) (bodyPost Fagg.prog Fagg.f51 R) ⟨List.toArray ((.slice (some ⟨b, off, none⟩) n c) :: (.bool packed) :: u2 :: u3 :: u4 :: u5 :: u6 :: u7 :: v :: (.pointer (some ⟨T, 0, none⟩)) :: u10 :: u11 :: u12 :: u13 :: u14 :: u15 :: u16 :: u17 :: u18 :: u19 :: u20 :: u21 :: u22 :: u23 :: u24 :: u25 :: u26 :: u27 :: u28 :: u29 :: u30 :: u31 :: u32 :: u33 :: u34 :: u35 :: u36 :: u37 :: u38 :: u39 :: u40 :: u41 :: u42 :: u43 :: u44 :: u45 :: u46 :: u47 :: u48 :: u49 :: u50 :: u51 :: u52 :: u53 :: u54 :: u55 :: u56 :: u57 :: u58 :: u59 :: u60 :: u61 :: u62 :: u63 :: u64 :: u65 :: u66 :: u67 :: u68 :: u69 :: u70 :: u71 :: u72 :: u73 :: u74 :: u75 :: u76 :: u77 :: u78 :: u79 :: u80 :: u81 :: u82 :: u83 :: u84 :: u85 :: u86 :: u87 :: u88 :: u89 :: u90 :: u91 :: u92 :: u93 :: u94 :: u95 :: u96 :: u97 :: u98 :: u99 :: u100 :: u101 :: u102 :: u103 :: u104 :: u105 :: u106 :: u107 :: u108 :: u109 :: u110 :: u111 :: u112 :: u113 :: u114 :: []), []⟩ w := by
  conv => arg 2; whnf
  have hf' : 1 ≤ ms.length ∧ ms.length ≤ 8 ∧ 1 ≤ (ms.getD 0 []).length ∧ total ms ≤ 256 := by simpa [fitsOf] using hf
  have HR := hide hR
  have HSEG := hide hseg
  have HW := hide hw
  have HO := hide hown
  have HTT := hide hT
  have HN := hide hn
  clear hR hseg hw hown hT hn hf
  refine wp_seq_k (fun K0 hK0 => ?_)
  have HK0 := hide hK0
  clear hK0
  go_wp2_with fail
  refine seal_loop2 B T b off n c ms v w (unhide HN) (by have := unhide HN; omega) hf'.2.2.2 hbB (unhide HSEG) (unhide HO) hB hBT (unhide HTT) _ _ _ _ _ _ _ _ _ _ _ _ _ _ _ _ _ _ _ _ _ _ _ _ _ _ _ _ _ _ _ _ _ _ _ _ _ _ _ _ _ _ _ _ _ _ _ _ _ _ _ _ _ _ _ _ _ _ _ _ _ _ _ _ _ _ _ _ _ _ _ _ _ _ _ _ _ _ _ _ _ _ _ _ _ _ _ _ _ _ _ _ _ _ _ _ _ _ _ _ _ _ _ _ _ _ _ _ _ _ ?_
  intro v10 v11 v39 v40 v41 v42 v43 v44 v45 v46 v47 v48 v49 v50 v51 v52 v53 v54 v55 v56 v57 v58 v59 v60 v61 vv wr hbr hBr hor hTr
  have hfl := flat_total ms
  have hge := total_ge ms 0 (by omega)
  obtain ⟨ga, cA, cur, rfl, hBg, hgs, hg, hnc, hcm, hcl, hct⟩ := own_row hor (by omega)
  have hsl := (Sl.of_own hor).2.2.1
  have hst : ∀ j, j < ms.flatten.length → wr.cell? ⟨ga, 0 + j, none⟩ = some (.int .u64 (ms.flatten.getD j 0)) := by
    obtain ⟨b1, o1, e1, h1⟩ := hsl.at (i := 0) (by omega)
    simp at e1
    obtain ⟨rfl, rfl⟩ := e1
    exact h1
  have HC := hide hst
  have hT0 : wr.cell? ⟨T, 0, none⟩ = some (.int .u64 (tabOf ms 0)) := by rw [World.cell?, hTr]; rfl
  have hT1 : wr.cell? ⟨T, 1, none⟩ = some (.int .u64 (tabOf ms 1)) := by rw [World.cell?, hTr]; rfl
  have r0 := tabOf_range ms hf'.2.2.2 0
  have r1 := tabOf_range ms hf'.2.2.2 1
  clear hst hsl hor hTr hg hct
  generalize hflat : ms.flatten.length = t at *
  have HFL := hide hflat
  clear hflat
  go_wp2
  refine unhide HK0 _ _ ?_
  have hraw : [h0Of packed, (t : Int), tabOf ms 0, tabOf ms 1].flatMap bytes8 ++ loadOf ms.flatten packed = rawOf ms packed := by
    unfold rawOf loadOf h0Of; rw [hfl]
  refine seal_s1 R ga t cA T packed ms.flatten (tabOf ms 0) (tabOf ms 1) wr (unhide HFL) (by omega) (by omega) hnc (unhide HC) (unhide HW) hT0 hT1 (by omega) (by omega) (fun vv wr2 hb ho => ?_) _ _ _ _ _ _ _ _ _ _ _ _ _ _ _ _ _ _ _ _ _ _ _ _ _ _ _ _ _ _ _ _ _ _ _ _ _ _ _ _ _ _ _ _ _ _ _ _ _ _ _ _ _ _ _ _ _ _ _ _ _ _ _ _ _ _ _ _ _ _ _ _ _ _ _ _ _ _ _ _ _ _ _ _ _ _ _ _ _ _ _ _ _ _ _ _ _ _ _ _ _ _ _ _ _ _ _ _ _ _ _ _
  rw [hraw] at ho
  have hrl := rawOf_len ms packed
  refine unhide HR vv wr2 (hbr.trans (hb.mono hBr)) ?_
  have e : (sealOf ms packed).length = (rawOf ms packed).length := laid4_len _ _ (by omega)
  rw [e]
  exact own_mono ho hBr
end Go.Proofs.Ygcfag
