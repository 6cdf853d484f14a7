/-
  WALKS: segwire.Seal whole.
-/
import Derived.Test.YgcfagW19
namespace Go.Proofs.Ygcfag
open Go.RowKit
set_option linter.unusedVariables false
set_option linter.unusedSimpArgs false

def h0Of (packed : Bool) : Int := 9417676631 + (if packed then 281474976710656 else 0)

theorem or_one : bits .or .u64 9417676631 281474976710656 = 281484394387287 := by kernel_rfl
theorem or_nil : bits .or .u64 9417676631 0 = 9417676631 := by kernel_rfl

set_option maxHeartbeats 1000000 in
set_option maxRecDepth 100000 in
theorem seal_s2 (R : Ending → World → Prop) (B ga t cA T : Nat) (packed : Bool) (ws : List Int) (t0 t1 : Int) (v : Value) (w : World) (hgaB : ga < B) (hB : B ≤ w.heap.size) (ht : ws.length = t) (ht1 : 1 ≤ t) (ht2 : t ≤ 256) (htA : t ≤ cA) (hcell : ∀ j, j < t → w.cell? ⟨ga, 0 + j, none⟩ = some (.int .u64 (ws.getD j 0))) (hw : Wds ws)
    (hT0 : w.cell? ⟨T, 0, none⟩ = some (.int .u64 t0)) (hT1 : w.cell? ⟨T, 1, none⟩ = some (.int .u64 t1)) (h0 : 0 ≤ t0 ∧ t0 ≤ 18446744073709551615) (h1 : 0 ≤ t1 ∧ t1 ≤ 18446744073709551615)
    (hown : w.ownsRow B 5 1 v 0 [])
    (hR : ∀ vv wr, Below B w wr → wr.ownsRow B 5 1 vv ([h0Of packed, (t : Int), t0, t1].flatMap bytes8 ++ loadOf ws packed).length ((laid4 ([h0Of packed, (t : Int), t0, t1].flatMap bytes8 ++ loadOf ws packed) (sumF ([h0Of packed, (t : Int), t0, t1].flatMap bytes8 ++ loadOf ws packed))).map (Value.int .u8)) → R (.returned vv) wr)
    (u0 u2 u3 u4 u5 u6 u7 u10 u11 u14 u15 u16 u17 u18 u19 u20 u21 u22 u23 u24 u25 u26 u27 u28 u29 u30 u31 u32 u33 u34 u35 u36 u37 u38 u39 u40 u41 u42 u43 u44 u45 u46 u47 u48 u49 u50 u51 u52 u53 u54 u55 u56 u57 u58 u59 u60 u61 u62 u63 u64 u65 u66 u67 u68 u69 u70 u71 u72 u73 u74 u75 u76 u77 u78 u79 u80 u81 u82 u83 u84 u85 u86 u87 u88 u89 u90 u91 u92 u93 u94 u95 u96 u97 u98 u99 u100 u101 u102 u103 u104 u105 u106 u107 u108 u109 u110 u111 u112 u113 u114 : Value) :
    Code.wp Fagg.prog (bodyAt Fagg.f51 [1, 1, 1, 1, 1, 1, 1, 1, 1, 1]) (bodyPost Fagg.prog Fagg.f51 R) ⟨List.toArray (u0 :: (.bool packed) :: u2 :: u3 :: u4 :: u5 :: u6 :: u7 :: (.slice (some ⟨ga, 0, none⟩) t cA) :: (.pointer (some ⟨T, 0, none⟩)) :: u10 :: u11 :: (.int .u16 (if packed then 1 else 0)) :: v :: u14 :: u15 :: u16 :: u17 :: u18 :: u19 :: u20 :: u21 :: u22 :: u23 :: u24 :: u25 :: u26 :: u27 :: u28 :: u29 :: u30 :: u31 :: u32 :: u33 :: u34 :: u35 :: u36 :: u37 :: u38 :: u39 :: u40 :: u41 :: u42 :: u43 :: u44 :: u45 :: u46 :: u47 :: u48 :: u49 :: u50 :: u51 :: u52 :: u53 :: u54 :: u55 :: u56 :: u57 :: u58 :: u59 :: u60 :: u61 :: u62 :: u63 :: u64 :: u65 :: u66 :: u67 :: u68 :: u69 :: u70 :: u71 :: u72 :: u73 :: u74 :: u75 :: u76 :: u77 :: u78 :: u79 :: u80 :: u81 :: u82 :: u83 :: u84 :: u85 :: u86 :: u87 :: u88 :: u89 :: u90 :: u91 :: u92 :: u93 :: u94 :: u95 :: u96 :: u97 :: u98 :: u99 :: u100 :: u101 :: u102 :: u103 :: u104 :: u105 :: u106 :: u107 :: u108 :: u109 :: u110 :: u111 :: u112 :: u113 :: u114 :: []), []⟩ w := by
  conv => arg 2; whnf
  refine wp_seq_k (fun K0 hK0 => ?_)
  have HK0 := hide hK0
  clear hK0
  have HR := hide hR
  have HC := hide hcell
  have HW := hide hw
  have HT := hide ht
  have HO := hide hown
  clear hR hcell hw ht hown
  cases packed with
  | true =>
    simp only [if_true]
    go_wp2_with fail
    rw [or_one]
    refine seal_loop3 B 281484394387287 (t : Int) t0 t1 [] v w (by omega) (by omega) h0 h1 (by simp) (unhide HO) hB _ _ _ _ _ _ _ _ _ _ _ _ _ _ _ _ _ _ _ _ _ _ _ _ _ _ _ _ _ _ _ _ _ _ _ _ _ _ _ _ _ _ _ _ _ _ _ _ _ _ _ _ _ _ _ _ _ _ _ _ _ _ _ _ _ _ _ _ _ _ _ _ _ _ _ _ _ _ _ _ _ _ _ _ _ _ _ _ _ _ _ _ _ _ _ _ _ _ _ _ _ _ _ _ _ _ _ _ _ _ _ _ ?_
    intro v15 v16 v80 v81 v82 v83 v84 v85 v86 v87 v88 vv wr hbr hBr hor
    have HO4 := hide hor
    clear hor
    go_wp2
    refine unhide HK0 _ _ ?_
    have e0 : h0Of true = 281484394387287 := by unfold h0Of; simp
    have HR' := unhide HR
    rw [e0] at HR'
    have ho4 := unhide HO4
    rw [List.nil_append] at ho4
    have hbb : Bys ([(281484394387287 : Int), (t : Int), t0, t1].flatMap bytes8) := flat8_bys _
    refine seal_s3 R B ga t cA true ws ([(281484394387287 : Int), (t : Int), t0, t1].flatMap bytes8) vv wr hgaB hBr (unhide HT) ht1 ht2 htA (fun j hj => (hbr.cell (p := ⟨ga, 0 + j, none⟩) hgaB).trans (unhide HC j hj)) (unhide HW) (flat8_len _) hbb ho4 (fun vv2 wr2 hb ho => HR' vv2 wr2 (hbr.trans hb) ho) _ _ _ _ _ _ _ _ _ _ _ _ _ _ _ _ _ _ _ _ _ _ _ _ _ _ _ _ _ _ _ _ _ _ _ _ _ _ _ _ _ _ _ _ _ _ _ _ _ _ _ _ _ _ _ _ _ _ _ _ _ _ _ _ _ _ _ _ _ _ _ _ _ _ _ _ _ _ _ _ _ _ _ _ _ _ _ _ _ _ _ _ _ _ _ _ _ _ _ _ _ _ _ _ _ _ _ _ _ _ _ _
  | false =>
    simp only [Bool.false_eq_true, if_false]
    go_wp2_with fail
    rw [or_nil]
    refine seal_loop3 B 9417676631 (t : Int) t0 t1 [] v w (by omega) (by omega) h0 h1 (by simp) (unhide HO) hB _ _ _ _ _ _ _ _ _ _ _ _ _ _ _ _ _ _ _ _ _ _ _ _ _ _ _ _ _ _ _ _ _ _ _ _ _ _ _ _ _ _ _ _ _ _ _ _ _ _ _ _ _ _ _ _ _ _ _ _ _ _ _ _ _ _ _ _ _ _ _ _ _ _ _ _ _ _ _ _ _ _ _ _ _ _ _ _ _ _ _ _ _ _ _ _ _ _ _ _ _ _ _ _ _ _ _ _ _ _ _ _ ?_
    intro v15 v16 v80 v81 v82 v83 v84 v85 v86 v87 v88 vv wr hbr hBr hor
    have HO4 := hide hor
    clear hor
    go_wp2
    refine unhide HK0 _ _ ?_
    have e0 : h0Of false = 9417676631 := by unfold h0Of; simp
    have HR' := unhide HR
    rw [e0] at HR'
    have ho4 := unhide HO4
    rw [List.nil_append] at ho4
    have hbb : Bys ([(9417676631 : Int), (t : Int), t0, t1].flatMap bytes8) := flat8_bys _
    refine seal_s3 R B ga t cA false ws ([(9417676631 : Int), (t : Int), t0, t1].flatMap bytes8) vv wr hgaB hBr (unhide HT) ht1 ht2 htA (fun j hj => (hbr.cell (p := ⟨ga, 0 + j, none⟩) hgaB).trans (unhide HC j hj)) (unhide HW) (flat8_len _) hbb ho4 (fun vv2 wr2 hb ho => HR' vv2 wr2 (hbr.trans hb) ho) _ _ _ _ _ _ _ _ _ _ _ _ _ _ _ _ _ _ _ _ _ _ _ _ _ _ _ _ _ _ _ _ _ _ _ _ _ _ _ _ _ _ _ _ _ _ _ _ _ _ _ _ _ _ _ _ _ _ _ _ _ _ _ _ _ _ _ _ _ _ _ _ _ _ _ _ _ _ _ _ _ _ _ _ _ _ _ _ _ _ _ _ _ _ _ _ _ _ _ _ _ _ _ _ _ _ _ _ _ _ _ _
end Go.Proofs.Ygcfag
