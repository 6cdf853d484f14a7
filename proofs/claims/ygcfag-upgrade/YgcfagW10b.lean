/-
  WALKS: the loop in which law.ownSegCode reads plain words.
-/
import Derived.Test.YgcfagPlain5
import Derived.Test.YgcfagW1
import Derived.Test.YgcfagSub
import Derived.Deep.DeepCutAuto
namespace Go.Proofs.Ygcfag
open Go.RowKit
set_option linter.unusedVariables false
set_option linter.unusedSimpArgs false

theorem plainWords_snoc (zs : List Int) (k : Nat) : plainWords zs (k + 1) = plainWords zs k ++ [wordAt zs k] := by simp [plainWords, List.range_succ]

set_option maxHeartbeats 1000000 in
set_option maxRecDepth 100000 in
theorem own_loop2 {Q0 : Exit → Act → World → Prop} (a : Option Addr) (n c T : Nat) (xs : List Int) (w : World) (hs : Sl .u8 w a xs) (hn : xs.length = n) (hnc : n ≤ c) (hx : Bys xs) (hT : n = 32 + 8 * T) (hT2 : T ≤ 256)
    (u1 u2 u3 u4 u5 u6 u7 u8 u9 u10 u11 u13 u14 u16 u17 u18 u19 u20 u21 u22 u23 u24 u25 u26 u27 u28 u29 u30 u31 u32 u33 u34 u35 u36 u37 u38 u39 u40 u41 u42 u43 u44 u45 u46 u47 u48 u49 u50 u51 u52 u53 u54 u55 u56 u57 u58 u59 u60 u61 u62 u63 u64 u65 u66 u67 u68 u69 u70 u71 u72 u73 u74 u75 u76 u77 u78 u79 u80 u81 u82 u83 u84 u85 u86 u87 u88 u89 u90 u91 u92 u93 u94 u95 u96 u97 u98 u99 u100 u101 u102 u103 u104 u105 u106 u107 u108 u109 u110 u111 u112 u113 u114 u115 u116 u117 u118 u119 u120 u121 u122 u123 u124 u125 u126 u127 u128 u129 u130 u131 u132 u133 u134 u135 u136 u137 u138 u139 u140 u141 u142 u143 : Value)
    (hexit : ∀ (v15 v108 v109 v110 v111 v112 v113 v114 v115 v116 v117 v118 v119 : Value) (vv : Value) (wr : World), Below w.heap.size w wr → wr.ownsRow w.heap.size 32 1 vv T ((plainWords (xs.drop 32) T).map (Value.int .u64)) → Q0 (.exit 3) ⟨List.toArray (.slice a n c :: u1 :: u2 :: u3 :: u4 :: u5 :: u6 :: u7 :: u8 :: u9 :: u10 :: u11 :: vv :: u13 :: u14 :: v15 :: u16 :: u17 :: u18 :: u19 :: u20 :: u21 :: u22 :: u23 :: u24 :: u25 :: u26 :: u27 :: u28 :: u29 :: u30 :: u31 :: u32 :: u33 :: u34 :: u35 :: u36 :: u37 :: u38 :: u39 :: u40 :: u41 :: u42 :: u43 :: u44 :: u45 :: u46 :: u47 :: u48 :: u49 :: u50 :: u51 :: u52 :: u53 :: u54 :: u55 :: u56 :: u57 :: u58 :: u59 :: u60 :: u61 :: u62 :: u63 :: u64 :: u65 :: u66 :: u67 :: u68 :: u69 :: u70 :: u71 :: u72 :: u73 :: u74 :: u75 :: u76 :: u77 :: u78 :: u79 :: u80 :: u81 :: u82 :: u83 :: u84 :: u85 :: u86 :: u87 :: u88 :: u89 :: u90 :: u91 :: u92 :: u93 :: u94 :: u95 :: u96 :: u97 :: u98 :: u99 :: u100 :: u101 :: u102 :: u103 :: u104 :: u105 :: u106 :: u107 :: v108 :: v109 :: v110 :: v111 :: v112 :: v113 :: v114 :: v115 :: v116 :: v117 :: v118 :: v119 :: u120 :: u121 :: u122 :: u123 :: u124 :: u125 :: u126 :: u127 :: u128 :: u129 :: u130 :: u131 :: u132 :: u133 :: u134 :: u135 :: u136 :: u137 :: u138 :: u139 :: u140 :: u141 :: u142 :: u143 :: []), []⟩ wr) :
    Code.wp Fagg.prog (bodyAt Fagg.f54 [1, 1, 1, 1, 1, 1, 1, 1, 1, 1, 1, 0, 1, 1, 1, 1, 0]) Q0 ⟨List.toArray (.slice a n c :: u1 :: u2 :: u3 :: u4 :: u5 :: u6 :: u7 :: u8 :: u9 :: u10 :: u11 :: .slice none 0 0 :: u13 :: u14 :: .int .i64 32 :: u16 :: u17 :: u18 :: u19 :: u20 :: u21 :: u22 :: u23 :: u24 :: u25 :: u26 :: u27 :: u28 :: u29 :: u30 :: u31 :: u32 :: u33 :: u34 :: u35 :: u36 :: u37 :: u38 :: u39 :: u40 :: u41 :: u42 :: u43 :: u44 :: u45 :: u46 :: u47 :: u48 :: u49 :: u50 :: u51 :: u52 :: u53 :: u54 :: u55 :: u56 :: u57 :: u58 :: u59 :: u60 :: u61 :: u62 :: u63 :: u64 :: u65 :: u66 :: u67 :: u68 :: u69 :: u70 :: u71 :: u72 :: u73 :: u74 :: u75 :: u76 :: u77 :: u78 :: u79 :: u80 :: u81 :: u82 :: u83 :: u84 :: u85 :: u86 :: u87 :: u88 :: u89 :: u90 :: u91 :: u92 :: u93 :: u94 :: u95 :: u96 :: u97 :: u98 :: u99 :: u100 :: u101 :: u102 :: u103 :: u104 :: u105 :: u106 :: u107 :: u108 :: u109 :: u110 :: u111 :: u112 :: u113 :: u114 :: u115 :: u116 :: u117 :: u118 :: u119 :: u120 :: u121 :: u122 :: u123 :: u124 :: u125 :: u126 :: u127 :: u128 :: u129 :: u130 :: u131 :: u132 :: u133 :: u134 :: u135 :: u136 :: u137 :: u138 :: u139 :: u140 :: u141 :: u142 :: u143 :: []), []⟩ w := by
  conv => arg 2; whnf
  have HE := hide hexit
  have HS := hide hs
  have HX := hide hx
  have HT := hide hT
  clear hexit hs hx
  obtain ⟨i0, hi0, hz0, hz1, hz2⟩ := info_parts info32
  have hn4 : n ≤ 4096 := by omega
  clear hT
  go_loopw [12, 15] (fun x y wr => ∃ k : Nat, k ≤ T ∧ y = .int .i64 (32 + 8 * (k : Int)) ∧ wr.ownsRow w.heap.size 32 1 x k ((plainWords (xs.drop 32) k).map (Value.int .u64)) ∧ Below w.heap.size w wr) (fun _ y _ => n - (intOf y).toNat)
  case atStart => exact ⟨0, by omega, rfl, World.ownsRow_nil _ _ _ _, Below.refl _ _⟩
  case round =>
    obtain ⟨k, hk, rfl, hown, hbr2⟩ := hrel
    have hbr := hbr2
    have hTe := unhide HT
    by_cases hlt : k < T
    · have hlt' : 32 + 8 * (k : Int) < (n : Int) := by omega
      have HNUM := hide (fun W (hW : Below w.heap.size w W) => number_any a n c (32 + 8 * k) 8 xs W ((unhide HS).below hW) hn (by omega) (unhide HX) (by omega) (by omega))
      have hwd : le ((xs.drop (32 + 8 * k)).take 8) = wordAt (xs.drop 32) k := by unfold wordAt; rw [List.drop_drop]
      rw [hwd] at HNUM
      generalize hy : wordAt (xs.drop 32) k = y at *
      have HY := hide hy
      clear hwd hy hTe
      go_wp2_with (first | (go_at_call 118; have h := unhide HNUM wr hbr2; rw [show ((32 + 8 * k : Nat) : Int) = 32 + 8 * (k : Int) by omega] at h; refine h.mono ?_; clear h; rintro e w' ⟨rfl, hw⟩; rw [hw]; clear hw) | (at_builtin; refine wpList_append_own _ rfl _ _ 44 rfl w.heap.size 32 i0 (.int .u64 0) 1 8 Fagg.underlying44 hi0 hz0 hz1 hz2 rfl (by decide) _ _ _ rfl (hown.alloc _) ⟨wr.heap.size, 0, none⟩ 1 1 [.int .u64 y] rfl rfl ?_ ?_ ?_ ?_ ?_ ?_))
      · exact one_new _ _ _
      · exact one_cell rfl
      · unfold maxLen; omega
      · omega
      · have := hbr2.size; simp; omega
      intro v1 w1 hown1 hg1 _
      have HO := hide hown1
      have hb1 : Below w.heap.size w w1 := (hbr.alloc (by have := hbr2.size; omega) (Obj.cells #[Value.int IntKind.u64 y] 32)).grown hg1 (by have := hbr2.size; simp; omega) (fun q hq => (hown.lt q hq).1)
      have HB1 := hide hb1
      clear hb1 hown1 hg1 hown hbr hbr2
      go_wp2
      go_roundw
      case rel => exact ⟨k + 1, by omega, by go_num, by rw [plainWords_snoc, unhide HY, List.map_append]; exact unhide HO, unhide HB1⟩
      case measure => simp [intOf]; omega
    · have hlt' : ¬ 32 + 8 * (k : Int) < (n : Int) := by omega
      obtain rfl : k = T := by omega
      clear hTe
      have HO := hide hown
      clear hown
      go_wp2_with fail
      exact unhide HE _ _ _ _ _ _ _ _ _ _ _ _ _ _ wr hbr (unhide HO)
end Go.Proofs.Ygcfag
