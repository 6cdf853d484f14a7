/-
  WALKS: (*pack.Cur).Step behind its tests.
-/
import Derived.Test.YgcfagW4a
import Derived.Test.YgcfagW4b
namespace Go.Proofs.Ygcfag
open Go.RowKit
set_option linter.unusedVariables false
set_option linter.unusedSimpArgs false

set_option maxHeartbeats 1000000 in
set_option maxRecDepth 100000 in
theorem step_tail (R : Ending → World → Prop) (B b off L K M V i t pk : Nat) (s out : List Int) (v : Value) (S : Value) (w : World) (hL4 : (L : Int) ≤ 4096) (hK : K ≤ 10) (hM : M ≤ 255) (hV2 : V ≤ 2040) (hKV : K + V ≤ L) (hV : V = 0 ∨ V = 8 * M)
    (hbB : b < B) (HS : Hid (∀ j, j < s.length → w.cell? ⟨b, off + j, none⟩ = some (.int .u8 (s.getD j 0)))) (hsl : s.length = L) (HX : Hid (Bys s)) (hcur : CurAt B w S i v out) (ho : out.length + 1 + M ≤ 256)
    (ht' : t < 256) (HPK : Hid (popc t = pk)) (hpk : pk ≤ 8) (hKp : 1 + pk ≤ K) (hi : (i : Int) + (L : Int) ≤ 4096)
    (hret : ∀ w' v', CurAt B w' S (i + (K + V)) v' (out ++ part t s.tail 8 :: (List.range M).map (moreWord s K V)) → Below B w w' → R (.returned (.bool true)) w')
    (u1 u2 u8 u9 u10 u11 u12 u13 u14 u15 u16 u17 u18 u19 u20 u21 u22 u23 u24 u25 u26 u27 u28 u29 u30 u31 u32 u33 u34 u35 u36 u37 u38 u39 u40 u41 u42 u43 u44 u45 u46 u47 u48 u49 u50 u51 u52 u53 u54 u55 u56 u57 u58 u59 u60 u61 u62 u63 u64 u65 u66 u67 u68 u69 u70 u71 u72 u73 u74 u75 u76 u77 u78 u79 u80 u81 u82 u83 u84 u85 u86 u87 u88 u89 u90 u91 u92 u93 u94 u95 u96 u97 u98 u99 u100 u101 u102 u103 u104 u105 u106 u107 u108 u109 u110 u111 u112 u113 u114 u115 u116 u117 u118 u119 u120 u121 u122 u123 u124 u125 u126 u127 u128 u129 u130 u131 u132 u133 u134 u135 u136 u137 u138 u139 u140 u141 u142 u143 u144 u145 u146 u147 u148 u149 u150 u151 u152 u153 u154 u155 u156 u157 u158 u159 u160 u161 u162 u163 u164 u165 : Value) :
    Code.wp Fagg.prog (bodyAt Fagg.f182 [1, 1, 1, 1, 1, 1, 1, 1]) (bodyPost Fagg.prog Fagg.f182 R) ⟨List.toArray (.pointer (some ⟨B, 0, none⟩) :: u1 :: u2 :: .slice (some ⟨b, off, none⟩) L L :: .int .u8 (t : Int) :: .int .i64 (K : Int) :: .int .i64 (M : Int) :: .int .i64 (V : Int) :: u8 :: u9 :: u10 :: u11 :: u12 :: u13 :: u14 :: u15 :: u16 :: u17 :: u18 :: u19 :: u20 :: u21 :: u22 :: u23 :: u24 :: u25 :: u26 :: u27 :: u28 :: u29 :: u30 :: u31 :: u32 :: u33 :: u34 :: u35 :: u36 :: u37 :: u38 :: u39 :: u40 :: u41 :: u42 :: u43 :: u44 :: u45 :: u46 :: u47 :: u48 :: u49 :: u50 :: u51 :: u52 :: u53 :: u54 :: u55 :: u56 :: u57 :: u58 :: u59 :: u60 :: u61 :: u62 :: u63 :: u64 :: u65 :: u66 :: u67 :: u68 :: u69 :: u70 :: u71 :: u72 :: u73 :: u74 :: u75 :: u76 :: u77 :: u78 :: u79 :: u80 :: u81 :: u82 :: u83 :: u84 :: u85 :: u86 :: u87 :: u88 :: u89 :: u90 :: u91 :: u92 :: u93 :: u94 :: u95 :: u96 :: u97 :: u98 :: u99 :: u100 :: u101 :: u102 :: u103 :: u104 :: u105 :: u106 :: u107 :: u108 :: u109 :: u110 :: u111 :: u112 :: u113 :: u114 :: u115 :: u116 :: u117 :: u118 :: u119 :: u120 :: u121 :: u122 :: u123 :: u124 :: u125 :: u126 :: u127 :: u128 :: u129 :: u130 :: u131 :: u132 :: u133 :: u134 :: u135 :: u136 :: u137 :: u138 :: u139 :: u140 :: u141 :: u142 :: u143 :: u144 :: u145 :: u146 :: u147 :: u148 :: u149 :: u150 :: u151 :: u152 :: u153 :: u154 :: u155 :: u156 :: u157 :: u158 :: u159 :: u160 :: u161 :: u162 :: u163 :: u164 :: u165 :: []), []⟩ w := by
  conv => arg 2; whnf
  have HRET := hide hret
  clear hret
  obtain ⟨i0, hi0, hz0, hz1, hz2⟩ := info_parts info32
  go_wp2_with fail
  refine step_loop1 B b off L t pk s w hL4 hpk (by omega) HS hsl HX ht' HPK _ _ _ _ _ _ _ _ _ _ _ _ _ _ _ _ _ _ _ _ _ _ _ _ _ _ _ _ _ _ _ _ _ _ _ _ _ _ _ _ _ _ _ _ _ _ _ _ _ _ _ _ _ _ _ _ _ _ _ _ _ _ _ _ _ _ _ _ _ _ _ _ _ _ _ _ _ _ _ _ _ _ _ _ _ _ _ _ _ _ _ _ _ _ _ _ _ _ _ _ _ _ _ _ _ _ _ _ _ _ _ _ _ _ _ _ _ _ _ _ _ _ _ _ _ _ _ _ _ _ _ _ _ _ _ _ _ _ _ _ _ _ _ _ _ _ _ _ _ _ _ _ _ _ _ _ _ _ _ _ _ ?_
  intro v9 v10 v94 v95 v96 v97 v98 v99 v100 v101 v102 v103 v104 v105 v106 v107 v108 v109 v110 v111 v112 v113 wr hbr
  have hB0 := hcur.lt
  replace hcur := hcur.same hbr
  have hcv := hcur.cv
  have hown := hcur.own
  generalize hX8 : part t s.tail 8 = y at *
  go_wp2_with (at_builtin; refine wpList_append_own _ rfl _ _ 44 rfl (B + 1) 32 i0 (.int .u64 0) 1 8 Fagg.underlying44 hi0 hz0 hz1 hz2 rfl (by decide) _ _ _ rfl (hown.alloc _) ⟨wr.heap.size, 0, none⟩ 1 1 [.int .u64 y] rfl rfl ?_ ?_ ?_ ?_ ?_ ?_)
  · exact one_new _ _ _
  · exact one_cell rfl
  · unfold maxLen; omega
  · omega
  · have := hcur.lt; simp; omega
  intro v1 w1 hown1 hg1 _
  obtain ⟨d0, d1, d2, df, db⟩ := (hcur.same ((Below.refl _ _).alloc (Nat.le_refl _) (Obj.cells #[Value.int IntKind.u64 y] 32))).grown hg1
  have hB1 := hcur.lt
  obtain ⟨ao1, cp1, rfl⟩ := own_form hown1
  have HC1 := hide (CurAt.stored (out := out ++ [y]) d0 d1 d2 df (by have := hown1; simpa using this))
  have q1 : Below B w wr := hbr.mono (by omega)
  have q2 : Below B w w1 := (q1.alloc (by omega) (Obj.cells #[Value.int IntKind.u64 y] 32)).trans (db.mono (by omega))
  have hbB2 : Below B w (w1.setCell ⟨B, 2, none⟩ (.slice ao1 (out.length + 1) cp1)) := q2.setCell (Nat.le_refl _) _
  clear q1 q2
  clear hown1 hg1 hown hcv hcur
  go_wp2_with fail
  refine step_loop2 B b off L K M V i s (out ++ [y]) _ S _ hL4 hK hM hKV hV hbB ?_ hsl HX (unhide HC1) (by simp; omega) _ _ _ _ _ _ _ _ _ _ _ _ _ _ _ _ _ _ _ _ _ _ _ _ _ _ _ _ _ _ _ _ _ _ _ _ _ _ _ _ _ _ _ _ _ _ _ _ _ _ _ _ _ _ _ _ _ _ _ _ _ _ _ _ _ _ _ _ _ _ _ _ _ _ _ _ _ _ _ _ _ _ _ _ _ _ _ _ _ _ _ _ _ _ _ _ _ _ _ _ _ _ _ _ _ _ _ _ _ _ _ _ _ _ _ _ _ _ _ _ _ _ _ _ _ _ _ _ _ _ _ _ _ _ _ _ _ _ _ _ _ _ _ _ _ _ _ _ _ _ _ _ _ _ _ _ _ _ _ _ ?_
  · intro j hj
    exact (hbB2.cell (p := ⟨b, off + j, none⟩) hbB).trans (unhide HS j hj)
  intro v8 v11 v124 v125 v126 v127 v128 v129 v130 v131 v132 v133 v134 v135 v136 v137 v138 v139 v140 v141 v142 v143 v144 v145 v146 v147 v148 v149 v150 v151 v152 v153 v154 w2 hw2
  obtain ⟨v2, hcur2, hb2⟩ := hw2
  have hci := hcur2.ci
  have hfr := hcur2.fr
  have hb3 := hbB2.trans hb2
  have HC2 := hide hcur2
  clear hcur2 d0 d1 d2 df db hb2 hbB2
  go_wp2
  refine unhide HRET _ v2 ?_ (hb3.setCell (Nat.le_refl _) _)
  have h2 := unhide HC2
  refine ⟨?_, ?_, ?_, fun o => ?_, ?_⟩
  · rw [World.cell?_setCell_other _ _ _ _ (by simp)]; exact h2.cs
  · rw [World.cell?_setCell_same _ _ _ hci]
    exact congrArg (fun x : Int => some (Value.int IntKind.u16 x)) (by omega)
  · rw [World.cell?_setCell_other _ _ _ _ (by simp)]; exact h2.cv
  · rw [World.frozen?_setCell]; exact hfr o
  · have := ownsRow_setCell_below h2.own (a := ⟨B, 1, none⟩) (by simp)
    have h3 := this (Value.int IntKind.u16 (↑i + (↑K + ↑V)))
    simpa using h3

set_option maxHeartbeats 1000000 in
set_option maxRecDepth 100000 in
theorem step_mid (R : Ending → World → Prop) (B b off L K M V i t pk : Nat) (s out : List Int) (v : Value) (S : Value) (w : World) (hL4 : (L : Int) ≤ 4096) (hK : K ≤ 10) (hM : M ≤ 255) (hV2 : V ≤ 2040) (hV : V = 0 ∨ V = 8 * M)
    (hbB : b < B) (HS : Hid (∀ j, j < s.length → w.cell? ⟨b, off + j, none⟩ = some (.int .u8 (s.getD j 0)))) (hsl : s.length = L) (HX : Hid (Bys s)) (hcur : CurAt B w S i v out) (ho : (out.length : Int) ≤ 256)
    (ht' : t < 256) (HPK : Hid (popc t = pk)) (hpk : pk ≤ 8) (hKp : 1 + pk ≤ K) (hi : (i : Int) + (L : Int) ≤ 4096) (HT : Hid (s.getD 0 0 = (t : Int))) (HF : Hid (headOf s = some (K, M, V)))
    (hno : stepOf s out = none → ∀ w', Below w.heap.size w w' → R (.returned (.bool false)) w')
    (hyes : ∀ k out' w' v', stepOf s out = some (k, out') → CurAt B w' S (i + k) v' out' → Below B w w' → R (.returned (.bool true)) w')
    (u1 u2 u8 u9 u10 u11 u12 u13 u14 u15 u16 u17 u18 u19 u20 u21 u22 u23 u24 u25 u26 u27 u28 u29 u30 u31 u32 u33 u34 u35 u36 u37 u38 u39 u40 u41 u42 u43 u44 u45 u46 u47 u48 u49 u50 u51 u52 u53 u54 u55 u56 u57 u58 u59 u60 u61 u62 u63 u64 u65 u66 u67 u68 u69 u70 u71 u72 u73 u74 u75 u76 u77 u78 u79 u80 u81 u82 u83 u84 u85 u86 u87 u88 u89 u90 u91 u92 u93 u94 u95 u96 u97 u98 u99 u100 u101 u102 u103 u104 u105 u106 u107 u108 u109 u110 u111 u112 u113 u114 u115 u116 u117 u118 u119 u120 u121 u122 u123 u124 u125 u126 u127 u128 u129 u130 u131 u132 u133 u134 u135 u136 u137 u138 u139 u140 u141 u142 u143 u144 u145 u146 u147 u148 u149 u150 u151 u152 u153 u154 u155 u156 u157 u158 u159 u160 u161 u162 u163 u164 u165 : Value) :
    Code.wp Fagg.prog (bodyAt Fagg.f182 [1, 1, 1, 1, 1, 1, 1]) (bodyPost Fagg.prog Fagg.f182 R) ⟨List.toArray (.pointer (some ⟨B, 0, none⟩) :: u1 :: u2 :: .slice (some ⟨b, off, none⟩) L L :: .int .u8 (t : Int) :: .int .i64 (K : Int) :: .int .i64 (M : Int) :: .int .i64 (V : Int) :: u8 :: u9 :: u10 :: u11 :: u12 :: u13 :: u14 :: u15 :: u16 :: u17 :: u18 :: u19 :: u20 :: u21 :: u22 :: u23 :: u24 :: u25 :: u26 :: u27 :: u28 :: u29 :: u30 :: u31 :: u32 :: u33 :: u34 :: u35 :: u36 :: u37 :: u38 :: u39 :: u40 :: u41 :: u42 :: u43 :: u44 :: u45 :: u46 :: u47 :: u48 :: u49 :: u50 :: u51 :: u52 :: u53 :: u54 :: u55 :: u56 :: u57 :: u58 :: u59 :: u60 :: u61 :: u62 :: u63 :: u64 :: u65 :: u66 :: u67 :: u68 :: u69 :: u70 :: u71 :: u72 :: u73 :: u74 :: u75 :: u76 :: u77 :: u78 :: u79 :: u80 :: u81 :: u82 :: u83 :: u84 :: u85 :: u86 :: u87 :: u88 :: u89 :: u90 :: u91 :: u92 :: u93 :: u94 :: u95 :: u96 :: u97 :: u98 :: u99 :: u100 :: u101 :: u102 :: u103 :: u104 :: u105 :: u106 :: u107 :: u108 :: u109 :: u110 :: u111 :: u112 :: u113 :: u114 :: u115 :: u116 :: u117 :: u118 :: u119 :: u120 :: u121 :: u122 :: u123 :: u124 :: u125 :: u126 :: u127 :: u128 :: u129 :: u130 :: u131 :: u132 :: u133 :: u134 :: u135 :: u136 :: u137 :: u138 :: u139 :: u140 :: u141 :: u142 :: u143 :: u144 :: u145 :: u146 :: u147 :: u148 :: u149 :: u150 :: u151 :: u152 :: u153 :: u154 :: u155 :: u156 :: u157 :: u158 :: u159 :: u160 :: u161 :: u162 :: u163 :: u164 :: u165 :: []), []⟩ w := by
  conv => arg 2; whnf
  refine wp_seq_k (fun K0 hK0 => ?_)
  have HK0 := hide hK0
  have HNO := hide hno
  have HYES := hide hyes
  clear hK0 hno hyes
  have h2 := hcur.cv
  have hown := hcur.own
  obtain ⟨ao, co, rfl⟩ := own_form hown
  clear hown
  by_cases hbad1 : L < K + V
  · have hb' : (L : Int) < (K : Int) + (V : Int) := by omega
    have HB := hide (stepOf_out (out := out) (unhide HF) (.inl (by omega)))
    go_wp2
    exact unhide HNO (unhide HB) _ (Below.refl _ _)
  · have hb' : (K : Int) + (V : Int) ≤ (L : Int) := by omega
    by_cases hbad2 : 256 < out.length + 1 + M
    · have hb'' : 256 < (out.length : Int) + 1 + (M : Int) := by omega
      have HB := hide (stepOf_out (out := out) (unhide HF) (.inr (by omega)))
      go_wp2
      exact unhide HNO (unhide HB) _ (Below.refl _ _)
    · have hb'' : (out.length : Int) + 1 + (M : Int) ≤ 256 := by omega
      have HB := hide (stepOf_some (out := out) (unhide HF) (by omega) (unhide HT))
      go_wp2
      refine unhide HK0 _ _ ?_
      exact step_tail R B b off L K M V i t pk s out _ S w hL4 hK hM hV2 (by omega) hV hbB HS hsl HX hcur (by omega) ht' HPK hpk hKp hi (fun w' v' h1 h2 => unhide HYES _ _ w' v' (unhide HB) h1 h2) _ _ _ _ _ _ _ _ _ _ _ _ _ _ _ _ _ _ _ _ _ _ _ _ _ _ _ _ _ _ _ _ _ _ _ _ _ _ _ _ _ _ _ _ _ _ _ _ _ _ _ _ _ _ _ _ _ _ _ _ _ _ _ _ _ _ _ _ _ _ _ _ _ _ _ _ _ _ _ _ _ _ _ _ _ _ _ _ _ _ _ _ _ _ _ _ _ _ _ _ _ _ _ _ _ _ _ _ _ _ _ _ _ _ _ _ _ _ _ _ _ _ _ _ _ _ _ _ _ _ _ _ _ _ _ _ _ _ _ _ _ _ _ _ _ _ _ _ _ _ _ _ _ _ _ _ _ _ _ _
end Go.Proofs.Ygcfag
