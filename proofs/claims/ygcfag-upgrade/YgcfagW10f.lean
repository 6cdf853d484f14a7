/-
  WALKS: law.ownSegCode: the table.
-/
import Derived.Test.YgcfagW10e
namespace Go.Proofs.Ygcfag
open Go.RowKit
set_option linter.unusedVariables false
set_option linter.unusedSimpArgs false

theorem entry_of (xs : List Int) (k : Nat) (hk : k < 8) (hx : Bys xs) : (entry ((xs.drop 16).take 16) k : Int) = le ((xs.drop (16 + 2 * k)).take 2) ∧ entry ((xs.drop 16).take 16) k ≤ 65535 := by
  have e : (((xs.drop 16).take 16).drop (2 * k)).take 2 = (xs.drop (16 + 2 * k)).take 2 := by
    rw [List.drop_take, List.take_take, List.drop_drop]
    congr 1
    omega
  have hb := num_bd xs (16 + 2 * k) 2 hx
  unfold num at hb
  unfold entry
  rw [e]
  have : (256 : Int) ^ 2 = 65536 := by decide
  omega

set_option maxHeartbeats 1000000 in
set_option maxRecDepth 100000 in
theorem own_t4 (R : Ending → World → Prop) (b off n c T : Nat) (fl : Int) (xs : List Int) (w : World) (hT2 : T ≤ 256)
    (hfl : 0 ≤ fl) (hfl2 : fl ≤ 1) (hn : xs.length = n) (hn32 : 32 ≤ n) (hn4 : n ≤ 5000) (hnc : n ≤ c) (hc : c ≤ 9223372036854775807) (HS : Hid (Sl .u8 w (some ⟨b, off, none⟩) xs)) (HX : Hid (Bys xs))
    (hno : ∀ code : Nat, openRest xs fl (T : Int) = (code, []) → ∀ w', Below w.heap.size w w' → R (.returned (.tuple #[.slice none 0 0, .int .u8 (code : Int)])) w')
    (hyes : ∀ ms x k cc w', openRest xs fl (T : Int) = (0, ms) → ms.length = k → SegsAt w' (some x) ms → Below w.heap.size w w' → R (.returned (.tuple #[.slice (some x) k cc, .int .u8 0])) w')
    (u1 u6 u7 u8 u9 u10 u11 u12 u13 u14 u15 u16 u17 u18 u19 u20 u21 u22 u23 u24 u25 u26 u27 u28 u29 u30 u31 u32 u33 u34 u35 u36 u37 u38 u39 u40 u41 u42 u43 u44 u45 u46 u47 u48 u49 u50 u51 u52 u53 u54 u55 u56 u57 u58 u59 u60 u61 u62 u63 u64 u65 u66 u67 u68 u69 u70 u71 u72 u73 u74 u75 u76 u77 u78 u79 u80 u81 u82 u83 u84 u85 u86 u87 u88 u89 u90 u91 u92 u93 u94 u95 u96 u97 u98 u99 u100 u101 u102 u103 u104 u105 u106 u107 u108 u109 u110 u111 u112 u113 u114 u115 u116 u117 u118 u119 u120 u121 u122 u123 u124 u125 u126 u127 u128 u129 u130 u131 u132 u133 u134 u135 u136 u137 u138 u139 u140 u141 u142 u143 : Value) :
    Code.wp Fagg.prog (bodyAt Fagg.f54 [1, 1, 1, 1, 1, 1]) (bodyPost Fagg.prog Fagg.f54 R) ⟨List.toArray (.slice (some ⟨b, off, none⟩) n c :: u1 :: .slice none 0 0 :: .int .u8 0 :: .int .u64 fl :: .int .i64 (T : Int) :: u6 :: u7 :: u8 :: u9 :: u10 :: u11 :: u12 :: u13 :: u14 :: u15 :: u16 :: u17 :: u18 :: u19 :: u20 :: u21 :: u22 :: u23 :: u24 :: u25 :: u26 :: u27 :: u28 :: u29 :: u30 :: u31 :: u32 :: u33 :: u34 :: u35 :: u36 :: u37 :: u38 :: u39 :: u40 :: u41 :: u42 :: u43 :: u44 :: u45 :: u46 :: u47 :: u48 :: u49 :: u50 :: u51 :: u52 :: u53 :: u54 :: u55 :: u56 :: u57 :: u58 :: u59 :: u60 :: u61 :: u62 :: u63 :: u64 :: u65 :: u66 :: u67 :: u68 :: u69 :: u70 :: u71 :: u72 :: u73 :: u74 :: u75 :: u76 :: u77 :: u78 :: u79 :: u80 :: u81 :: u82 :: u83 :: u84 :: u85 :: u86 :: u87 :: u88 :: u89 :: u90 :: u91 :: u92 :: u93 :: u94 :: u95 :: u96 :: u97 :: u98 :: u99 :: u100 :: u101 :: u102 :: u103 :: u104 :: u105 :: u106 :: u107 :: u108 :: u109 :: u110 :: u111 :: u112 :: u113 :: u114 :: u115 :: u116 :: u117 :: u118 :: u119 :: u120 :: u121 :: u122 :: u123 :: u124 :: u125 :: u126 :: u127 :: u128 :: u129 :: u130 :: u131 :: u132 :: u133 :: u134 :: u135 :: u136 :: u137 :: u138 :: u139 :: u140 :: u141 :: u142 :: u143 :: []), []⟩ w := by
  conv => arg 2; whnf
  have HNO := hide hno
  have HYES := hide hyes
  have HOT := hide (own_table (entry ((xs.drop 16).take 16)) T)
  clear hno hyes
  go_wp2_with fail
  refine own_loop1 (some ⟨b, off, none⟩) n c xs (entry ((xs.drop 16).take 16)) w (unhide HS) hn hn32 hn4 (unhide HX) (fun k hk => (entry_of xs k hk (unhide HX)).1) (fun k hk => (entry_of xs k hk (unhide HX)).2) _ _ _ _ _ _ _ _ _ _ _ _ _ _ _ _ _ _ _ _ _ _ _ _ _ _ _ _ _ _ _ _ _ _ _ _ _ _ _ _ _ _ _ _ _ _ _ _ _ _ _ _ _ _ _ _ _ _ _ _ _ _ _ _ _ _ _ _ _ _ _ _ _ _ _ _ _ _ _ _ _ _ _ _ _ _ _ _ _ _ _ _ _ _ _ _ _ _ _ _ _ _ _ _ _ _ _ _ _ _ _ _ _ _ _ _ _ _ _ _ _ _ _ _ _ _ _ _ _ _ _ _ _ _ _ _ _ ?_ ?_
  · intro v7 v8 v9 v10 v11 v50 v51 v52 v53 v54 v55 v56 v57 v58 v59 v60 v61 v62 v63 v64 v65 v66 v67 v68 v69 v70 v71 v72 v73 v74 v75 v76 v77 v78 v79 v80 v81 v82 v83 v84 v85 v86 v87 wr hot hbr
    have HN := hide (unhide HNO 7 (openRest_none (by
      rcases unhide HOT with ⟨_, h⟩ | ⟨lens, s, e, h, _⟩
      · exact h
      · rw [hot] at h; cases h)) wr hbr)
    clear hot
    go_wp2
    exact unhide HN
  · intro v2 v3 v9 v10 v11 v50 v51 v52 v53 v54 v55 v56 v57 v58 v59 v60 v61 v62 v63 v64 v65 v66 v67 v68 v69 v70 v71 v72 v73 v74 v75 v76 v77 v78 v79 v80 v81 v82 v83 v84 v85 v86 v87 vm s lens e cs wr hot hbr hown hrow
    obtain ⟨hls, htab⟩ : lens.sum = s ∧ ((s ≠ T ∧ tableOf (entry ((xs.drop 16).take 16)) T = none) ∨ (s = T ∧ ∃ l n, tableOf (entry ((xs.drop 16).take 16)) T = some (l, n) ∧ lens = l.take n)) := by
      rcases unhide HOT with ⟨h, _⟩ | ⟨lens', s', e', h, h1, h2⟩
      · rw [hot] at h; cases h
      · rw [hot] at h
        simp at h
        obtain ⟨rfl, rfl, rfl⟩ := h
        exact ⟨h1, h2⟩
    have HOWN := hide hown
    have HROW := hide hrow
    simp only [Exit.inBlock, Exit.then, if_true]
    refine (‹∀ (a : Act) (w : World), Code.wp Fagg.prog _ _ a w → _› _ _ ?_)
    refine wp_seq_k (fun K1 hK1 => ?_)
    have HK1 := hide hK1
    clear hK1 hot hown hrow HOT
    by_cases hsT : s = T
    · obtain ⟨l, nl, htb, hlen⟩ : ∃ l n, tableOf (entry ((xs.drop 16).take 16)) T = some (l, n) ∧ lens = l.take n := by
        rcases htab with ⟨h, _⟩ | ⟨_, h⟩
        · exact absurd hsT h
        · exact h
      have hfa := tableOf_facts htb
      have hl1 : lens.length = nl := by rw [hlen]; simp; omega
      have hpos : 1 ≤ T := by have := le_sum l 0; omega
      have HTB := hide htb
      have HLEN := hide hlen
      subst hsT
      have e1 : ((s : Int) != (s : Int)) = false := by simp
      have hnl := hfa.2.1
      have hnl1 := hfa.2.2.2.2.1
      clear htab htb hlen hfa
      go_wp2
      refine unhide HK1 _ _ ?_
      refine wp_seq_k (fun K2 hK2 => ?_)
      have HK2 := hide hK2
      clear hK2
      go_wp2
      refine unhide HK2 _ _ ?_
      exact own_t3 R w.heap.size b off n c s lens.length nl fl vm cs lens l xs _ wr hbr.size rfl (by omega) (by omega) hls hpos hT2 hfl hfl2 hn hn32 hn4 hnc hc ((unhide HS).below hbr) HX HOWN HROW rfl HTB HLEN
        (fun h w' hb => unhide HNO 8 h w' (hbr.trans (hb.mono hbr.size))) (fun ms x k cc w' h1 h2 h3 hb => unhide HYES ms x k cc w' h1 h2 h3 (hbr.trans hb)) _ _ _ _ _ _ _ _ _ _ _ _ _ _ _ _ _ _ _ _ _ _ _ _ _ _ _ _ _ _ _ _ _ _ _ _ _ _ _ _ _ _ _ _ _ _ _ _ _ _ _ _ _ _ _ _ _ _ _ _ _ _ _ _ _ _ _ _ _ _ _ _ _ _ _ _ _ _ _ _ _ _ _ _ _ _ _ _ _ _ _ _ _ _ _ _ _ _ _ _ _ _ _ _ _ _ _ _ _ _ _ _ _ _ _ _ _ _ _ _ _ _ _ _ _ _ _ _ _ _ _ _ _ _ _ _ _ _ _
    · have e1 : ((s : Int) != (T : Int)) = true := by simp; omega
      have HN := hide (unhide HNO 7 (openRest_none (by
        rcases htab with ⟨_, h⟩ | ⟨h, _⟩
        · exact h
        · exact absurd h hsT)) wr hbr)
      clear htab hsT
      go_wp2
      exact unhide HN
end Go.Proofs.Ygcfag
