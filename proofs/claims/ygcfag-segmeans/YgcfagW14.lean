/-
  WALKS: pack.Pack, whole.
-/
import Derived.Test.YgcfagW13
namespace Go.Proofs.Ygcfag
open Go.RowKit
set_option linter.unusedVariables false
set_option linter.unusedSimpArgs false

theorem pack_no (a : Option Addr) (n c : Nat) (w : World) (hn : n = 0 ∨ 256 < n) :
    Calls Fagg.prog 113 #[.slice a n c] w fun e w' => e = .returned (.slice none 0 0) ∧ w' = w := by
  rcases hn with rfl | hn
  · go_enter Fagg.func113, Fagg.ntmps113
    go_wp2
    go_ret
    exact ⟨rfl, rfl⟩
  · have e1 : (n : Int) > 256 := by omega
    have e2 : ((n : Int) == 0) = false := by simp; omega
    go_enter Fagg.func113, Fagg.ntmps113
    go_wp2
    go_ret
    exact ⟨rfl, rfl⟩

set_option maxHeartbeats 1000000 in
set_option maxRecDepth 100000 in
theorem pack_any (a : Option Addr) (n c : Nat) (xs : List Int) (w : World) (hs : Sl .u64 w a xs) (hn : xs.length = n) (hn1 : 1 ≤ n) (hn2 : n ≤ 256) (hnc : n ≤ c) (hw : Wds xs) :
    Calls Fagg.prog 113 #[.slice a n c] w fun e w' => ∃ v, e = .returned v ∧ w'.ownsRow w.heap.size 5 1 v (packOf xs).length ((packOf xs).map (Value.int .u8)) ∧ (packOf xs).length ≤ 2560 ∧ Below w.heap.size w w' := by
  obtain ⟨b, off, rfl, hc⟩ := hs.at (i := 0) (by omega)
  have hb : b < w.heap.size := World.block_lt_of_cell? w ⟨b, off + 0, none⟩ (hc 0 (by omega))
  have HC := hide hc
  have HW := hide hw
  clear hc hw hs
  have e1 : ¬ (n : Int) > 256 := by omega
  have e2 : ((n : Int) == 0) = false := by simp; omega
  obtain ⟨i0, hi0, hz0, hz1, hz2⟩ := info_parts info5
  go_enter Fagg.func113, Fagg.ntmps113
  go_wp2_with (at_make; refine wpList_make_own _ rfl _ _ 33 rfl w.heap.size 5 i0 (.int .u8 0) 1 Fagg.underlying33 hi0 hz0 hz1 _ _ _ (2 + 9 * n) rfl rfl ?_ ?_ ?_ ?_ ?_)
  all_goals first | omega | (unfold maxLen; omega) | (rw [hz2]; omega) | go_num | skip
  intro w1 ho hg
  have hb1 := (Below.refl w.heap.size w).grown hg (Nat.le_refl _) (by simp)
  have HO := hide ho
  clear ho hg
  go_wp2_with fail
  refine pack_loop w.heap.size b off n c xs _ w1 hn hn2 hnc (fun j hj => (hb1.cell (p := ⟨b, off + j, none⟩) hb).trans (unhide HC j (by omega))) hb (unhide HW) (unhide HO) hb1.size _ _ _ _ _ _ _ _ _ _ _ _ _ _ _ _ _ _ _ _ _ _ _ _ _ _ _ _ _ _ _ _ _ _ _ _ _ _ _ _ _ _ _ _ _ _ _ _ _ _ _ _ _ _ _ _ _ _ _ _ _ _ _ _ _ _ _ _ _ _ _ _ _ _ _ _ _ _ _ _ _ _ _ _ _ _ _ _ _ _ _ _ _ _ _ _ _ _ _ ?_
  intro v4 v5 v6 v7 v8 v9 v10 v11 v12 v26 v27 v28 v29 v30 v31 v32 v33 v34 v35 v36 v37 v38 v39 v40 v41 v42 v43 v44 v45 v46 v47 v48 v49 v50 v51 v52 v53 v54 v55 v56 v57 v58 v59 v60 v61 v62 v63 v64 v65 v66 v67 v68 v69 v70 v71 v72 v73 v74 v75 v76 v77 v78 v79 v80 v81 v82 v83 v84 v85 v86 v87 v88 v89 v90 v91 v92 v93 v94 v95 v96 v97 v98 v99 v100 vv wr hbr hown hlen
  have hbt := hb1.trans hbr
  have HO2 := hide hown
  clear hown
  go_wp2_with fail
  go_ret
  exact ⟨_, rfl, unhide HO2, hlen, hbt⟩
end Go.Proofs.Ygcfag
