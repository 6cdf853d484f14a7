/-
  WALKS: law.ownSegCode, from its payload on.
-/
import Derived.Test.YgcfagW10a
import Derived.Test.YgcfagW10b
import Derived.Test.YgcfagW10c
import Derived.Test.YgcfagW8b
namespace Go.Proofs.Ygcfag
open Go.RowKit
set_option linter.unusedVariables false
set_option linter.unusedSimpArgs false

theorem le_sum (l : List Nat) (i : Nat) : l.getD i 0 ≤ l.sum := by
  by_cases h : i < l.length
  · have h1 := sum_take_succ l i h
    have h2 := sum_take_le l (i + 1)
    omega
  · rw [List.getD_eq_getElem?_getD, List.getElem?_eq_none (by omega)]; simp

set_option maxHeartbeats 1000000 in
set_option maxRecDepth 100000 in
theorem own_t1 (R : Ending → World → Prop) (B0 g ga n cm cc : Nat) (cs : List Value) (lens : List Nat) (all : List Int) (w0 w : World) (hn : lens.length = n) (hn8 : n ≤ 8) (hsum : lens.sum ≤ all.length) (hal : all.length ≤ 256) (hcc : all.length ≤ cc)
    (HOWN : Hid (w0.ownsRow B0 44 1 (.slice (some ⟨g, 0, none⟩) n cm) n cs)) (HROW : Hid (Rows3 w0 B0 cs lens)) (hb : Below w0.heap.size w0 w) (hga : w0.heap.size ≤ ga) (HALL : Hid (∀ j, j < all.length → w.cell? ⟨ga, j, none⟩ = some (.int .u64 (all.getD j 0))))
    (hyes : ∀ x k cc w', n = k → SegsAt w' (some x) (cuts lens all) → Below B0 w w' → R (.returned (.tuple #[.slice (some x) k cc, .int .u8 0])) w')
    (u0 u1 u2 u3 u4 u5 u6 u8 u9 u10 u11 u13 u14 u15 u16 u17 u18 u19 u20 u21 u22 u23 u24 u25 u26 u27 u28 u29 u30 u31 u32 u33 u34 u35 u36 u37 u38 u39 u40 u41 u42 u43 u44 u45 u46 u47 u48 u49 u50 u51 u52 u53 u54 u55 u56 u57 u58 u59 u60 u61 u62 u63 u64 u65 u66 u67 u68 u69 u70 u71 u72 u73 u74 u75 u76 u77 u78 u79 u80 u81 u82 u83 u84 u85 u86 u87 u88 u89 u90 u91 u92 u93 u94 u95 u96 u97 u98 u99 u100 u101 u102 u103 u104 u105 u106 u107 u108 u109 u110 u111 u112 u113 u114 u115 u116 u117 u118 u119 u120 u121 u122 u123 u124 u125 u126 u127 u128 u129 u130 u131 u132 u133 u134 u135 u136 u137 u138 u139 u140 u141 u142 u143 : Value) :
    Code.wp Fagg.prog (bodyAt Fagg.f54 [1, 1, 1, 1, 1, 1, 1, 1, 1, 1, 1, 1, 1]) (bodyPost Fagg.prog Fagg.f54 R) ⟨List.toArray (u0 :: u1 :: u2 :: u3 :: u4 :: u5 :: u6 :: .slice (some ⟨g, 0, none⟩) n cm :: u8 :: u9 :: u10 :: u11 :: .slice (some ⟨ga, 0, none⟩) all.length cc :: u13 :: u14 :: u15 :: u16 :: u17 :: u18 :: u19 :: u20 :: u21 :: u22 :: u23 :: u24 :: u25 :: u26 :: u27 :: u28 :: u29 :: u30 :: u31 :: u32 :: u33 :: u34 :: u35 :: u36 :: u37 :: u38 :: u39 :: u40 :: u41 :: u42 :: u43 :: u44 :: u45 :: u46 :: u47 :: u48 :: u49 :: u50 :: u51 :: u52 :: u53 :: u54 :: u55 :: u56 :: u57 :: u58 :: u59 :: u60 :: u61 :: u62 :: u63 :: u64 :: u65 :: u66 :: u67 :: u68 :: u69 :: u70 :: u71 :: u72 :: u73 :: u74 :: u75 :: u76 :: u77 :: u78 :: u79 :: u80 :: u81 :: u82 :: u83 :: u84 :: u85 :: u86 :: u87 :: u88 :: u89 :: u90 :: u91 :: u92 :: u93 :: u94 :: u95 :: u96 :: u97 :: u98 :: u99 :: u100 :: u101 :: u102 :: u103 :: u104 :: u105 :: u106 :: u107 :: u108 :: u109 :: u110 :: u111 :: u112 :: u113 :: u114 :: u115 :: u116 :: u117 :: u118 :: u119 :: u120 :: u121 :: u122 :: u123 :: u124 :: u125 :: u126 :: u127 :: u128 :: u129 :: u130 :: u131 :: u132 :: u133 :: u134 :: u135 :: u136 :: u137 :: u138 :: u139 :: u140 :: u141 :: u142 :: u143 :: []), []⟩ w := by
  conv => arg 2; whnf
  have HYES := hide hyes
  clear hyes
  obtain ⟨gf, h1, h2⟩ := unhide HROW
  have hid : ∀ i, min (lens.getD i 0) 300 = lens.getD i 0 := fun i => by have := le_sum lens i; omega
  have hbl := hb.block
  have hcl : cs.length = n := by have := (unhide HOWN).1; simpa using this
  have hgb := ((unhide HOWN).lt g rfl)
  have H1 : Hid (∀ i, i < n → w.cell? ⟨g, i, none⟩ = some (.slice (some ⟨gf i, 0, none⟩) (lens.getD i 0) (lens.getD i 0))) := fun i hi => by
    have hc := (unhide HOWN).cellAt i (by omega)
    have he := (h1 i (by omega)).1
    rw [hid] at he
    rw [hb.cell (p := ⟨g, i, none⟩) hgb.2, hc, ← he]
    simp [List.getD, show i < cs.length by omega]
  have H2 : Hid (∀ i, i < n → Fresh w (gf i) (lens.getD i 0)) := fun i hi => by
    have hf := (h1 i (by omega)).2.1
    rw [hid] at hf
    exact hf.block (hbl _ hf.lt)
  have H3 : Hid (∀ i, i < n → B0 ≤ gf i ∧ gf i ≠ g ∧ gf i ≠ ga) := fun i hi => by
    obtain ⟨_, hf, hB⟩ := h1 i (by omega)
    refine ⟨hB, fun e => ?_, fun e => ?_⟩
    · exact hf.ne (unhide HOWN) (by rw [e]; rfl)
    · have := hf.lt; omega
  have H4 : Hid (∀ i j, i < j → j < n → gf i < gf j) := fun i j h3 h4 => h2 i j h3 (by omega)
  clear h1 h2 hid hbl hgb
  go_wp2_with fail
  refine own_loop3 B0 g ga n cm cc (fun i => if i < n then gf i else B0 + g + ga + 1) lens all w hn hn8 hsum hal hcc ?_ ?_ ?_ ?_ ?_ ?_ (unhide HALL) _ _ _ _ _ _ _ _ _ _ _ _ _ _ _ _ _ _ _ _ _ _ _ _ _ _ _ _ _ _ _ _ _ _ _ _ _ _ _ _ _ _ _ _ _ _ _ _ _ _ _ _ _ _ _ _ _ _ _ _ _ _ _ _ _ _ _ _ _ _ _ _ _ _ _ _ _ _ _ _ _ _ _ _ _ _ _ _ _ _ _ _ _ _ _ _ _ _ _ _ _ _ _ _ _ _ _ _ _ _ _ _ _ _ _ _ _ _ _ _ _ _ _ _ _ _ _ _ _ _ _ _ _ _ _ _ _ _ _ _ ?_
  · intro i
    by_cases hi : i < n
    · simp only [if_pos hi]; exact (unhide H3 i hi).1
    · simp only [if_neg hi]; omega
  · intro i
    by_cases hi : i < n
    · simp only [if_pos hi]; exact (unhide H3 i hi).2.1
    · simp only [if_neg hi]; omega
  · intro i hi
    simp only [if_pos hi]; exact (unhide H3 i hi).2.2
  · intro i j hij hj
    simp only [if_pos hj, if_pos (show i < n by omega)]
    have := unhide H4 i j hij hj
    omega
  · intro i hi
    simp only [if_pos hi]; exact unhide H1 i hi
  · intro i hi
    simp only [if_pos hi]; exact unhide H2 i hi
  intro v12 v16 v126 v127 v128 v129 v130 v131 v132 v133 v134 v135 v136 v137 v138 v139 v140 v141 v142 wr hbr hc hs
  have HF := hide (show SegsAt wr (some ⟨g, 0, none⟩) (cuts lens all) from .inr ⟨g, 0, rfl, fun i hi => by
    rw [cuts_length] at hi
    have hp := cuts_piece lens all i hi hsum
    have hi' : i < n := by omega
    have hc1 := hc i hi'
    have hs1 := hs i hi'
    simp only [if_pos hi'] at hc1 hs1
    exact ⟨_, _, by rw [Nat.zero_add, hp]; exact hc1, by omega, hs1⟩⟩)
  clear hc hs
  go_wp2
  exact unhide HYES _ _ _ _ rfl (unhide HF) hbr

set_option maxHeartbeats 1000000 in
set_option maxRecDepth 100000 in
theorem own_t2 (R : Ending → World → Prop) (B0 T n : Nat) (va vm : Value) (cs : List Value) (lens : List Nat) (all : List Int) (w0 w : World) (hn : lens.length = n) (hn8 : n ≤ 8) (hn1 : 1 ≤ n) (hsum : lens.sum = T) (hT1 : 1 ≤ T) (hT : T ≤ 256) (hal : all.length ≤ 256)
    (HOWN : Hid (w0.ownsRow B0 44 1 vm n cs)) (HROW : Hid (Rows3 w0 B0 cs lens)) (hb : Below w0.heap.size w0 w) (HALL : Hid (w.ownsRow w0.heap.size 32 1 va all.length (all.map (Value.int .u64))))
    (hno : all.length ≠ T → R (.returned (.tuple #[.slice none 0 0, .int .u8 8])) w)
    (hyes : all.length = T → ∀ x k cc w', n = k → SegsAt w' (some x) (cuts lens all) → Below B0 w w' → R (.returned (.tuple #[.slice (some x) k cc, .int .u8 0])) w')
    (u0 u1 u2 u3 u4 u6 u8 u9 u10 u11 u13 u14 u15 u16 u17 u18 u19 u20 u21 u22 u23 u24 u25 u26 u27 u28 u29 u30 u31 u32 u33 u34 u35 u36 u37 u38 u39 u40 u41 u42 u43 u44 u45 u46 u47 u48 u49 u50 u51 u52 u53 u54 u55 u56 u57 u58 u59 u60 u61 u62 u63 u64 u65 u66 u67 u68 u69 u70 u71 u72 u73 u74 u75 u76 u77 u78 u79 u80 u81 u82 u83 u84 u85 u86 u87 u88 u89 u90 u91 u92 u93 u94 u95 u96 u97 u98 u99 u100 u101 u102 u103 u104 u105 u106 u107 u108 u109 u110 u111 u112 u113 u114 u115 u116 u117 u118 u119 u120 u121 u122 u123 u124 u125 u126 u127 u128 u129 u130 u131 u132 u133 u134 u135 u136 u137 u138 u139 u140 u141 u142 u143 : Value) :
    Code.wp Fagg.prog (bodyAt Fagg.f54 [1, 1, 1, 1, 1, 1, 1, 1, 1, 1, 1, 1]) (bodyPost Fagg.prog Fagg.f54 R) ⟨List.toArray (u0 :: u1 :: u2 :: u3 :: u4 :: .int .i64 (T : Int) :: u6 :: vm :: u8 :: u9 :: u10 :: u11 :: va :: u13 :: u14 :: u15 :: u16 :: u17 :: u18 :: u19 :: u20 :: u21 :: u22 :: u23 :: u24 :: u25 :: u26 :: u27 :: u28 :: u29 :: u30 :: u31 :: u32 :: u33 :: u34 :: u35 :: u36 :: u37 :: u38 :: u39 :: u40 :: u41 :: u42 :: u43 :: u44 :: u45 :: u46 :: u47 :: u48 :: u49 :: u50 :: u51 :: u52 :: u53 :: u54 :: u55 :: u56 :: u57 :: u58 :: u59 :: u60 :: u61 :: u62 :: u63 :: u64 :: u65 :: u66 :: u67 :: u68 :: u69 :: u70 :: u71 :: u72 :: u73 :: u74 :: u75 :: u76 :: u77 :: u78 :: u79 :: u80 :: u81 :: u82 :: u83 :: u84 :: u85 :: u86 :: u87 :: u88 :: u89 :: u90 :: u91 :: u92 :: u93 :: u94 :: u95 :: u96 :: u97 :: u98 :: u99 :: u100 :: u101 :: u102 :: u103 :: u104 :: u105 :: u106 :: u107 :: u108 :: u109 :: u110 :: u111 :: u112 :: u113 :: u114 :: u115 :: u116 :: u117 :: u118 :: u119 :: u120 :: u121 :: u122 :: u123 :: u124 :: u125 :: u126 :: u127 :: u128 :: u129 :: u130 :: u131 :: u132 :: u133 :: u134 :: u135 :: u136 :: u137 :: u138 :: u139 :: u140 :: u141 :: u142 :: u143 :: []), []⟩ w := by
  conv => arg 2; whnf
  have HNO := hide hno
  have HYES := hide hyes
  clear hno hyes
  obtain ⟨aa, cc, rfl⟩ := own_form (unhide HALL)
  obtain ⟨am, cm, rfl⟩ := own_form (unhide HOWN)
  by_cases hl : all.length = T
  · have e1 : ((all.length : Int) != (T : Int)) = false := by simp [hl]
    obtain ⟨ga, rfl⟩ : ∃ ga, aa = some ⟨ga, 0, none⟩ := by
      rcases (unhide HALL).2 with ⟨h, h'⟩ | ⟨gg, cap, cur, h, _⟩
      · omega
      · simp at h; exact ⟨gg, h.1⟩
    obtain ⟨g, rfl⟩ : ∃ g, am = some ⟨g, 0, none⟩ := by
      rcases (unhide HOWN).2 with ⟨h, h'⟩ | ⟨gg, cap, cur, h, _⟩
      · omega
      · simp at h; exact ⟨gg, h.1⟩
    have HCE := hide (fun (j : Nat) (hj : j < all.length) => show w.cell? ⟨ga, j, none⟩ = some (.int .u64 (all.getD j 0)) by
      have := (unhide HALL).cellAt j (by omega)
      rw [this]
      simp [List.getD, hj])
    have hcc := (Sl.of_own (unhide HALL)).2.1
    have hga := ((unhide HALL).lt ga rfl).1
    have HL := hide hl
    clear hl
    refine wp_seq_k (fun K0 hK0 => ?_)
    have HK0 := hide hK0
    clear hK0
    go_wp2
    refine unhide HK0 _ _ ?_
    exact own_t1 R B0 g ga n cm cc cs lens all w0 w hn hn8 (by rw [unhide HL]; omega) hal hcc HOWN HROW hb hga HCE (unhide HYES (unhide HL)) _ _ _ _ _ _ _ _ _ _ _ _ _ _ _ _ _ _ _ _ _ _ _ _ _ _ _ _ _ _ _ _ _ _ _ _ _ _ _ _ _ _ _ _ _ _ _ _ _ _ _ _ _ _ _ _ _ _ _ _ _ _ _ _ _ _ _ _ _ _ _ _ _ _ _ _ _ _ _ _ _ _ _ _ _ _ _ _ _ _ _ _ _ _ _ _ _ _ _ _ _ _ _ _ _ _ _ _ _ _ _ _ _ _ _ _ _ _ _ _ _ _ _ _ _ _ _ _ _ _ _ _ _ _ _ _ _ _ _ _ _ _
  · have e1 : ((all.length : Int) != (T : Int)) = true := by simp [hl]; omega
    have HN := hide (unhide HNO hl)
    clear hl
    go_wp2
    exact unhide HN
end Go.Proofs.Ygcfag
