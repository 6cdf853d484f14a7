/-
  WALKS: law.readWord.
-/
import Derived.Test.YgcfagW30
namespace Go.Proofs.Ygcfag
open Go.RowKit
set_option linter.unusedVariables false
set_option linter.unusedSimpArgs false

set_option maxHeartbeats 4000000 in
set_option maxRecDepth 100000 in
theorem rw_struct (R : Ending → World → Prop) (B G n c : Nat) (a : Option Addr) (xs : List Int) (x base low tt d p y cd k : Int) (w : World) (hn : n ≤ 256) (hlow : 0 ≤ low ∧ low ≤ 1) (hto : -1073741824 ≤ tt ∧ tt ≤ 1073741824) (hx0 : 0 ≤ x) (hx1 : x < 18446744073709551616) (hBG : B ≤ G) (g0 : w.cell? ⟨G, 0, none⟩ = some (.int .u8 0)) (f0 : w.frozen? ⟨G, 0, none⟩ = false) (g1 : w.cell? ⟨G, 1, none⟩ = some (.int .u16 0)) (f1 : w.frozen? ⟨G, 1, none⟩ = false) (g2 : w.cell? ⟨G, 2, none⟩ = some (.int .u8 0)) (f2 : w.frozen? ⟨G, 2, none⟩ = false) (g3 : w.cell? ⟨G, 3, none⟩ = some (.int .u8 0)) (f3 : w.frozen? ⟨G, 3, none⟩ = false) (g4 : w.cell? ⟨G, 4, none⟩ = some (.int .u8 0)) (f4 : w.frozen? ⟨G, 4, none⟩ = false) (g5 : w.cell? ⟨G, 5, none⟩ = some (.int .u16 0)) (f5 : w.frozen? ⟨G, 5, none⟩ = false)
    (hy : x / 4294967296 = y) (hyb : 0 ≤ y ∧ y < 4294967296) (hd : bits .and .u64 y 65535 = d) (hp : x / 281474976710656 = p) (hcd : bits .and .u64 y 7 = cd) (hkk : x / 34359738368 = k) (hdb : 0 ≤ d ∧ d < 65536) (hpb : 0 ≤ p ∧ p < 65536) (hcb : 0 ≤ cd ∧ cd ≤ 7) (hkb : 0 ≤ k ∧ k < 536870912)
    (hr : bits .and .u64 x 3 = 0) (hszd : sizedB x = decide (d ≤ 8 ∧ p ≤ 8))
    (HRD : Hid (readNZ xs x base low = if sizedB x = false ∨ spansB n low tt (d + p) = false then none else some ⟨1, tt, d, p, 0, 0⟩))
    (HR : Hid (∀ w', Below B w w' → R (.returned (ptRes (readNZ xs x base low))) w'))
    (u2 u4 u5 u6 u7 u11 u13 u14 u15 u16 u17 u18 u19 u20 u21 u22 u23 u24 u25 u26 u27 u28 u29 u30 u31 u32 u33 u34 u35 u36 u37 u38 u39 u40 u41 u42 u43 u44 u45 u46 u47 u48 u49 u50 u51 u52 u53 u54 u55 u56 u57 u58 u59 u60 u61 u62 u63 u64 u65 u66 u67 u68 u69 u70 u71 u72 u73 u74 u75 u76 u77 u78 u79 u80 u81 u82 u83 u84 u85 u86 u87 u88 u89 u90 u91 u92 u93 u94 u95 u96 u97 u98 u99 u100 u101 u102 u103 u104 u105 u106 u107 u108 u109 u110 u111 u112 u113 u114 u115 u116 u117 u118 u119 u120 u121 u122 u123 u124 u125 u126 u127 u128 u129 u130 u131 u132 u133 u134 u135 u136 u137 u138 u139 u140 u141 u142 u143 u144 u145 u146 u147 u148 u149 u150 u151 u152 u153 u154 u155 u156 u157 u158 u159 u160 u161 u162 u163 u164 u165 u166 u167 u168 u169 u170 u171 u172 u173 : Value) :
    Code.wp Fagg.prog (bodyAt Fagg.f72 [1, 1, 1, 1, 1, 1]) (bodyPost Fagg.prog Fagg.f72 R) ⟨List.toArray ((.slice a n c) :: (.int .u64 x) :: u2 :: (.int .i64 low) :: u4 :: u5 :: u6 :: u7 :: (.pointer (some ⟨G, 0, none⟩)) :: (.bool false) :: (.int .i64 (n : Int)) :: u11 :: (.int .i64 tt) :: u13 :: u14 :: u15 :: u16 :: u17 :: u18 :: u19 :: u20 :: u21 :: u22 :: u23 :: u24 :: u25 :: u26 :: u27 :: u28 :: u29 :: u30 :: u31 :: u32 :: u33 :: u34 :: u35 :: u36 :: u37 :: u38 :: u39 :: u40 :: u41 :: u42 :: u43 :: u44 :: u45 :: u46 :: u47 :: u48 :: u49 :: u50 :: u51 :: u52 :: u53 :: u54 :: u55 :: u56 :: u57 :: u58 :: u59 :: u60 :: u61 :: u62 :: u63 :: u64 :: u65 :: u66 :: u67 :: u68 :: u69 :: u70 :: u71 :: u72 :: u73 :: u74 :: u75 :: u76 :: u77 :: u78 :: u79 :: u80 :: u81 :: u82 :: u83 :: u84 :: u85 :: u86 :: u87 :: u88 :: u89 :: u90 :: u91 :: u92 :: u93 :: u94 :: u95 :: u96 :: u97 :: u98 :: u99 :: u100 :: u101 :: u102 :: u103 :: u104 :: u105 :: u106 :: u107 :: u108 :: u109 :: u110 :: u111 :: u112 :: u113 :: u114 :: u115 :: u116 :: u117 :: u118 :: u119 :: u120 :: u121 :: u122 :: u123 :: u124 :: u125 :: u126 :: u127 :: u128 :: u129 :: u130 :: u131 :: u132 :: u133 :: u134 :: u135 :: u136 :: u137 :: u138 :: u139 :: u140 :: u141 :: u142 :: u143 :: u144 :: u145 :: u146 :: u147 :: u148 :: u149 :: u150 :: u151 :: u152 :: u153 :: u154 :: u155 :: u156 :: u157 :: u158 :: u159 :: u160 :: u161 :: u162 :: u163 :: u164 :: u165 :: u166 :: u167 :: u168 :: u169 :: u170 :: u171 :: u172 :: u173 :: []), []⟩ w := by
    conv => arg 2; whnf
    have hbl := Below.refl B w
    clear hcd hkk hcb hkb
    by_cases he : d + p = 0
    · have he1 : (d + p == 0) = true := by simp [he]
      have he2 : ¬ d + p > 0 := by omega
      have hd8 : ¬ d > 8 := by omega
      have hp8 : ¬ p > 8 := by omega
      by_cases ht : tt ≥ 0
      · by_cases ht2 : tt ≤ (n : Int)
        · have hsp : spansB n low tt (d + p) = true := by unfold spansB; rw [if_pos he]; simp; omega
          have HF := hide (show readNZ xs x base low = some ⟨1, tt, d, p, 0, 0⟩ by rw [unhide HRD, if_neg (by rw [hszd, hsp]; simp; omega)])
          have HR2 : Hid (∀ w', Below B w w' → R (.returned (ptRes (some ⟨1, tt, d, p, 0, 0⟩))) w') := by have h := unhide HR; rw [unhide HF] at h; exact h
          clear HRD HR HF
          go_wp2_with fail
          exact bodyPost_ret (v := ptRes (some ⟨1, tt, d, p, 0, 0⟩)) (by simp [results, Fagg.results72, go_sem, ptRes, ptV, Pt.nil, g0, g1, g2, g3, g4, g5, f0, f1, f2, f3, f4, f5]) rfl (unhide HR2 _ (below_set6 hbl hBG _ _ _ _ _ _))
        · have hsp : spansB n low tt (d + p) = false := by unfold spansB; rw [if_pos he]; simp; omega
          have HF := hide (show readNZ xs x base low = none by rw [unhide HRD, if_pos (.inr hsp)])
          have HR2 : Hid (∀ w', Below B w w' → R (.returned (ptRes none)) w') := by have h := unhide HR; rw [unhide HF] at h; exact h
          clear HRD HR HF
          go_wp2_with fail
          exact bodyPost_ret (v := ptRes none) (by simp [results, Fagg.results72, go_sem, ptRes, ptV, Pt.nil, g0, g1, g2, g3, g4, g5, f0, f1, f2, f3, f4, f5]) rfl (unhide HR2 _ (below_set6 hbl hBG _ _ _ _ _ _))
      · have hsp : spansB n low tt (d + p) = false := by unfold spansB; rw [if_pos he]; simp; omega
        have HF := hide (show readNZ xs x base low = none by rw [unhide HRD, if_pos (.inr hsp)])
        have HR2 : Hid (∀ w', Below B w w' → R (.returned (ptRes none)) w') := by have h := unhide HR; rw [unhide HF] at h; exact h
        clear HRD HR HF
        go_wp2_with fail
        exact bodyPost_ret (v := ptRes none) (by simp [results, Fagg.results72, go_sem, ptRes, ptV, Pt.nil, g0, g1, g2, g3, g4, g5, f0, f1, f2, f3, f4, f5]) rfl (unhide HR2 _ (below_set6 hbl hBG _ _ _ _ _ _))
    · have he1 : (d + p == 0) = false := by simp [he]
      have he2 : d + p > 0 := by omega
      by_cases ht : tt ≥ low
      · by_cases ht2 : tt + d + p ≤ (n : Int)
        · have hsp : spansB n low tt (d + p) = true := by unfold spansB; rw [if_neg he]; simp; omega
          by_cases hd8 : d > 8
          · have hsz : sizedB x = false := by rw [hszd]; simp; omega
            have HF := hide (show readNZ xs x base low = none by rw [unhide HRD, if_pos (.inl hsz)])
            have HR2 : Hid (∀ w', Below B w w' → R (.returned (ptRes none)) w') := by have h := unhide HR; rw [unhide HF] at h; exact h
            clear HRD HR HF
            go_wp2_with fail
            exact bodyPost_ret (v := ptRes none) (by simp [results, Fagg.results72, go_sem, ptRes, ptV, Pt.nil, g0, g1, g2, g3, g4, g5, f0, f1, f2, f3, f4, f5]) rfl (unhide HR2 _ (below_set6 hbl hBG _ _ _ _ _ _))
          · by_cases hp8 : p > 8
            · have hsz : sizedB x = false := by rw [hszd]; simp; omega
              have HF := hide (show readNZ xs x base low = none by rw [unhide HRD, if_pos (.inl hsz)])
              have HR2 : Hid (∀ w', Below B w w' → R (.returned (ptRes none)) w') := by have h := unhide HR; rw [unhide HF] at h; exact h
              clear HRD HR HF
              go_wp2_with fail
              exact bodyPost_ret (v := ptRes none) (by simp [results, Fagg.results72, go_sem, ptRes, ptV, Pt.nil, g0, g1, g2, g3, g4, g5, f0, f1, f2, f3, f4, f5]) rfl (unhide HR2 _ (below_set6 hbl hBG _ _ _ _ _ _))
            · have hsz : sizedB x = true := by rw [hszd]; simp; omega
              have HF := hide (show readNZ xs x base low = some ⟨1, tt, d, p, 0, 0⟩ by rw [unhide HRD, if_neg (by rw [hsz, hsp]; simp)])
              have HR2 : Hid (∀ w', Below B w w' → R (.returned (ptRes (some ⟨1, tt, d, p, 0, 0⟩))) w') := by have h := unhide HR; rw [unhide HF] at h; exact h
              clear HRD HR HF
              go_wp2_with fail
              exact bodyPost_ret (v := ptRes (some ⟨1, tt, d, p, 0, 0⟩)) (by simp [results, Fagg.results72, go_sem, ptRes, ptV, Pt.nil, g0, g1, g2, g3, g4, g5, f0, f1, f2, f3, f4, f5]) rfl (unhide HR2 _ (below_set6 hbl hBG _ _ _ _ _ _))
        · have hsp : spansB n low tt (d + p) = false := by unfold spansB; rw [if_neg he]; simp; omega
          by_cases hd8 : d > 8
          · have hsz : sizedB x = false := by rw [hszd]; simp; omega
            have HF := hide (show readNZ xs x base low = none by rw [unhide HRD, if_pos (.inl hsz)])
            have HR2 : Hid (∀ w', Below B w w' → R (.returned (ptRes none)) w') := by have h := unhide HR; rw [unhide HF] at h; exact h
            clear HRD HR HF
            go_wp2_with fail
            exact bodyPost_ret (v := ptRes none) (by simp [results, Fagg.results72, go_sem, ptRes, ptV, Pt.nil, g0, g1, g2, g3, g4, g5, f0, f1, f2, f3, f4, f5]) rfl (unhide HR2 _ (below_set6 hbl hBG _ _ _ _ _ _))
          · by_cases hp8 : p > 8
            · have hsz : sizedB x = false := by rw [hszd]; simp; omega
              have HF := hide (show readNZ xs x base low = none by rw [unhide HRD, if_pos (.inl hsz)])
              have HR2 : Hid (∀ w', Below B w w' → R (.returned (ptRes none)) w') := by have h := unhide HR; rw [unhide HF] at h; exact h
              clear HRD HR HF
              go_wp2_with fail
              exact bodyPost_ret (v := ptRes none) (by simp [results, Fagg.results72, go_sem, ptRes, ptV, Pt.nil, g0, g1, g2, g3, g4, g5, f0, f1, f2, f3, f4, f5]) rfl (unhide HR2 _ (below_set6 hbl hBG _ _ _ _ _ _))
            · have hsz : sizedB x = true := by rw [hszd]; simp; omega
              have HF := hide (show readNZ xs x base low = none by rw [unhide HRD, if_pos (.inr hsp)])
              have HR2 : Hid (∀ w', Below B w w' → R (.returned (ptRes none)) w') := by have h := unhide HR; rw [unhide HF] at h; exact h
              clear HRD HR HF
              go_wp2_with fail
              exact bodyPost_ret (v := ptRes none) (by simp [results, Fagg.results72, go_sem, ptRes, ptV, Pt.nil, g0, g1, g2, g3, g4, g5, f0, f1, f2, f3, f4, f5]) rfl (unhide HR2 _ (below_set6 hbl hBG _ _ _ _ _ _))
      · have hsp : spansB n low tt (d + p) = false := by unfold spansB; rw [if_neg he]; simp; omega
        by_cases hd8 : d > 8
        · have hsz : sizedB x = false := by rw [hszd]; simp; omega
          have HF := hide (show readNZ xs x base low = none by rw [unhide HRD, if_pos (.inl hsz)])
          have HR2 : Hid (∀ w', Below B w w' → R (.returned (ptRes none)) w') := by have h := unhide HR; rw [unhide HF] at h; exact h
          clear HRD HR HF
          go_wp2_with fail
          exact bodyPost_ret (v := ptRes none) (by simp [results, Fagg.results72, go_sem, ptRes, ptV, Pt.nil, g0, g1, g2, g3, g4, g5, f0, f1, f2, f3, f4, f5]) rfl (unhide HR2 _ (below_set6 hbl hBG _ _ _ _ _ _))
        · by_cases hp8 : p > 8
          · have hsz : sizedB x = false := by rw [hszd]; simp; omega
            have HF := hide (show readNZ xs x base low = none by rw [unhide HRD, if_pos (.inl hsz)])
            have HR2 : Hid (∀ w', Below B w w' → R (.returned (ptRes none)) w') := by have h := unhide HR; rw [unhide HF] at h; exact h
            clear HRD HR HF
            go_wp2_with fail
            exact bodyPost_ret (v := ptRes none) (by simp [results, Fagg.results72, go_sem, ptRes, ptV, Pt.nil, g0, g1, g2, g3, g4, g5, f0, f1, f2, f3, f4, f5]) rfl (unhide HR2 _ (below_set6 hbl hBG _ _ _ _ _ _))
          · have hsz : sizedB x = true := by rw [hszd]; simp; omega
            have HF := hide (show readNZ xs x base low = none by rw [unhide HRD, if_pos (.inr hsp)])
            have HR2 : Hid (∀ w', Below B w w' → R (.returned (ptRes none)) w') := by have h := unhide HR; rw [unhide HF] at h; exact h
            clear HRD HR HF
            go_wp2_with fail
            exact bodyPost_ret (v := ptRes none) (by simp [results, Fagg.results72, go_sem, ptRes, ptV, Pt.nil, g0, g1, g2, g3, g4, g5, f0, f1, f2, f3, f4, f5]) rfl (unhide HR2 _ (below_set6 hbl hBG _ _ _ _ _ _))

end Go.Proofs.Ygcfag
