/-
  WALKS: the tail of segwire.Seal: the sum is laid.
-/
import Derived.Test.YgcfagW16
import Derived.Laws.CopyOwn
import Derived.Deep.RegionLaw
namespace Go.Proofs.Ygcfag
open Go.RowKit
set_option linter.unusedVariables false
set_option linter.unusedSimpArgs false

/-- The sum is laid into bytes 12 .. 15. -/
def lay4 (xs : List Int) (s : Int) : List Int := splice xs 12 ((bytes8 s).take 4)

theorem own_row {w : World} {B : Nat} {e : TypeId} {v : Value} {n : Nat} {xs : List Value} (h : w.ownsRow B e 1 v n xs) (hn : 0 < n) : ∃ g cap cur, v = .slice (some ⟨g, 0, none⟩) n cap ∧ B ≤ g ∧ g < w.heap.size ∧ w.heap[g]? = some (.cells (List.toArray cur) e (0, 0)) ∧ n ≤ cap ∧ cap ≤ maxLen ∧ cur.length = cap ∧ cur.take n = xs := by
  rcases h.2 with ⟨_, h0⟩ | ⟨g, cap, cur, h1, h2, h3, h4, h5, h6, h7⟩
  · omega
  · exact ⟨g, cap, cur.toList, h1, h2, lt_of_block h3, by simpa using h3, h4, h5, by simpa using h6, by simpa using h7⟩

theorem own_splice {w : World} {B g n cap off : Nat} {e : TypeId} {cur cs : List Value} (hB : B ≤ g) (hnc : n ≤ cap) (hm : cap ≤ maxLen) (hl : cur.length = cap) (ho : off + cs.length ≤ n) (h : w.heap[g]? = some (.cells (splice cur off cs).toArray e (0, 0))) :
    w.ownsRow B e 1 (.slice (some ⟨g, 0, none⟩) n cap) n (splice (cur.take n) off cs) := by
  refine ⟨?_, .inr ⟨g, cap, (splice cur off cs).toArray, rfl, hB, h, hnc, hm, ?_, ?_⟩⟩
  · rw [length_splice _ _ _ (by simp; omega)]; simp; omega
  · simp only [List.size_toArray]; rw [length_splice _ _ _ (by omega)]; omega
  · simp only [Nat.mul_one, splice]
    rw [List.take_append, List.take_append]
    simp only [List.take_take, List.length_take, List.drop_take]
    rw [show min n off = off by omega, show min off cur.length = off by omega, show min off n = off by omega, List.take_of_length_le (l := cs) (by omega), Nat.sub_sub]

theorem splice_map (xs cs : List Int) (off : Nat) : (splice xs off cs).map (Value.int .u8) = splice (xs.map (Value.int .u8)) off (cs.map (Value.int .u8)) := by
  simp [splice, List.map_take, List.map_drop]

theorem four_new (w : World) (b0 b1 b2 b3 b4 b5 b6 b7 : Value) (e : TypeId) : ∀ (j : Nat) (u : Value), [b0, b1, b2, b3][j]? = some u → (w.alloc (.cells #[b0, b1, b2, b3, b4, b5, b6, b7] e)).cell? ((⟨w.heap.size, 0, none⟩ : Addr).add j) = some u := by
  intro j u hj
  match j, hj with
  | 0, hj => simp at hj; subst hj; simp [Addr.add]
  | 1, hj => simp at hj; subst hj; simp [Addr.add]
  | 2, hj => simp at hj; subst hj; simp [Addr.add]
  | 3, hj => simp at hj; subst hj; simp [Addr.add]

theorem info5s : (Fagg.prog.info? 5).map (·.size) = some 1 := by kernel_rfl

set_option maxHeartbeats 1000000 in
set_option maxRecDepth 100000 in
theorem seal_copy {K : Act → World → Prop} {R : Ending → World → Prop} (B g G n cap : Nat) (cur cs : List Value) (w0 w : World) (hn16 : (16 : Int) ≤ (n : Int)) (hc16 : (16 : Int) ≤ (cap : Int)) (hnc : n ≤ cap) (hc12 : ¬ cap = 12) (hcl : Hid (cur.length = cap)) (hg : Hid (w.heap[g]? = some (.cells cur.toArray 5 (0, 0)))) (hcs : Hid (cs.length = 4)) (hG : Hid (∀ j v, cs[j]? = some v → w.cell? ((⟨G, 0, none⟩ : Addr).add j) = some v)) (hone : Hid (∀ v ∈ cs, v.oneCell' = true)) (hb : Hid (Below B w0 w)) (hBg : Hid (B ≤ g))
    (u0 u1 u2 u3 u4 u5 u6 u7 u8 u9 u10 u11 u12 u14 u15 u16 u17 u18 u19 u21 u22 u23 u24 u25 u26 u27 u28 u29 u30 u31 u32 u33 u34 u35 u36 u37 u38 u39 u40 u41 u42 u43 u44 u45 u46 u47 u48 u49 u50 u51 u52 u53 u54 u55 u56 u57 u58 u59 u60 u61 u62 u63 u64 u65 u66 u67 u68 u69 u70 u71 u72 u73 u74 u75 u76 u77 u78 u79 u80 u81 u82 u83 u84 u85 u86 u87 u88 u89 u90 u91 u92 u93 u94 u95 u96 u97 u98 u99 u100 u101 u102 u103 u104 u105 u106 u107 u108 u109 u110 u111 u112 u113 u114 : Value)
    (hR : Hid (∀ (v110 v111 v112 v113 : Value) w', Hid (w'.heap[g]? = some (.cells (splice cur 12 cs).toArray 5 (0, 0))) → Below B w0 w' → K ⟨List.toArray (u0 :: u1 :: u2 :: u3 :: u4 :: u5 :: u6 :: u7 :: u8 :: u9 :: u10 :: u11 :: u12 :: (.slice (some ⟨g, 0, none⟩) n cap) :: u14 :: u15 :: u16 :: u17 :: u18 :: u19 :: (.pointer (some ⟨G, 0, none⟩)) :: u21 :: u22 :: u23 :: u24 :: u25 :: u26 :: u27 :: u28 :: u29 :: u30 :: u31 :: u32 :: u33 :: u34 :: u35 :: u36 :: u37 :: u38 :: u39 :: u40 :: u41 :: u42 :: u43 :: u44 :: u45 :: u46 :: u47 :: u48 :: u49 :: u50 :: u51 :: u52 :: u53 :: u54 :: u55 :: u56 :: u57 :: u58 :: u59 :: u60 :: u61 :: u62 :: u63 :: u64 :: u65 :: u66 :: u67 :: u68 :: u69 :: u70 :: u71 :: u72 :: u73 :: u74 :: u75 :: u76 :: u77 :: u78 :: u79 :: u80 :: u81 :: u82 :: u83 :: u84 :: u85 :: u86 :: u87 :: u88 :: u89 :: u90 :: u91 :: u92 :: u93 :: u94 :: u95 :: u96 :: u97 :: u98 :: u99 :: u100 :: u101 :: u102 :: u103 :: u104 :: u105 :: u106 :: u107 :: u108 :: u109 :: v110 :: v111 :: v112 :: v113 :: u114 :: []), []⟩ w')) :
    Code.wp Fagg.prog (bodyAt Fagg.f51 [1, 1, 1, 1, 1, 1, 1, 1, 1, 1, 1, 1, 1, 0]) (Exit.then K (bodyPost Fagg.prog Fagg.f51 R)) ⟨List.toArray (u0 :: u1 :: u2 :: u3 :: u4 :: u5 :: u6 :: u7 :: u8 :: u9 :: u10 :: u11 :: u12 :: (.slice (some ⟨g, 0, none⟩) n cap) :: u14 :: u15 :: u16 :: u17 :: u18 :: u19 :: (.pointer (some ⟨G, 0, none⟩)) :: u21 :: u22 :: u23 :: u24 :: u25 :: u26 :: u27 :: u28 :: u29 :: u30 :: u31 :: u32 :: u33 :: u34 :: u35 :: u36 :: u37 :: u38 :: u39 :: u40 :: u41 :: u42 :: u43 :: u44 :: u45 :: u46 :: u47 :: u48 :: u49 :: u50 :: u51 :: u52 :: u53 :: u54 :: u55 :: u56 :: u57 :: u58 :: u59 :: u60 :: u61 :: u62 :: u63 :: u64 :: u65 :: u66 :: u67 :: u68 :: u69 :: u70 :: u71 :: u72 :: u73 :: u74 :: u75 :: u76 :: u77 :: u78 :: u79 :: u80 :: u81 :: u82 :: u83 :: u84 :: u85 :: u86 :: u87 :: u88 :: u89 :: u90 :: u91 :: u92 :: u93 :: u94 :: u95 :: u96 :: u97 :: u98 :: u99 :: u100 :: u101 :: u102 :: u103 :: u104 :: u105 :: u106 :: u107 :: u108 :: u109 :: u110 :: u111 :: u112 :: u113 :: u114 :: []), []⟩ w := by
  conv => arg 2; whnf
  go_region_law (refine step_copy_splice rfl (.tmp 111) (.tmp 112) 33 33 rfl 5 Fagg.underlying33 info5s (some ⟨g, 12, none⟩) (some ⟨G, 0, none⟩) 4 (cap - 12) 4 8 rfl rfl g 12 cur 5 (unhide hg) cs (unhide hcs) (fun _ => ⟨rfl, _, rfl, unhide hG⟩) (by have := unhide hcl; have := unhide hcs; omega) (unhide hone) B w0 (unhide hb).drew (unhide hBg) ?_; intro w4 hg4 hb4)
  exact unhide hR _ _ _ _ w4 hg4 hb4

set_option maxHeartbeats 1000000 in
set_option maxRecDepth 100000 in
theorem seal_tail (R : Ending → World → Prop) (B : Nat) (raw : List Int) (v : Value) (w : World) (h32 : 32 ≤ raw.length) (hm : raw.length ≤ 3000) (hx : Bys raw) (hown : w.ownsRow B 5 1 v raw.length (raw.map (Value.int .u8))) (hB : B ≤ w.heap.size)
    (hR : ∀ vv wr, Below B w wr → wr.ownsRow B 5 1 vv raw.length ((lay4 raw (sumOn (sumOn 2166136261 (raw.take 12)) (raw.drop 16))).map (Value.int .u8)) → R (.returned vv) wr)
    (u0 u1 u2 u3 u4 u5 u6 u7 u8 u9 u10 u11 u12 u14 u15 u16 u17 u18 u19 u20 u21 u22 u23 u24 u25 u26 u27 u28 u29 u30 u31 u32 u33 u34 u35 u36 u37 u38 u39 u40 u41 u42 u43 u44 u45 u46 u47 u48 u49 u50 u51 u52 u53 u54 u55 u56 u57 u58 u59 u60 u61 u62 u63 u64 u65 u66 u67 u68 u69 u70 u71 u72 u73 u74 u75 u76 u77 u78 u79 u80 u81 u82 u83 u84 u85 u86 u87 u88 u89 u90 u91 u92 u93 u94 u95 u96 u97 u98 u99 u100 u101 u102 u103 u104 u105 u106 u107 u108 u109 u110 u111 u112 u113 u114 : Value) :
    Code.wp Fagg.prog (bodyAt Fagg.f51 [1, 1, 1, 1, 1, 1, 1, 1, 1, 1, 1, 1]) (bodyPost Fagg.prog Fagg.f51 R) ⟨List.toArray (u0 :: u1 :: u2 :: u3 :: u4 :: u5 :: u6 :: u7 :: u8 :: u9 :: u10 :: u11 :: u12 :: v :: u14 :: u15 :: u16 :: u17 :: u18 :: u19 :: u20 :: u21 :: u22 :: u23 :: u24 :: u25 :: u26 :: u27 :: u28 :: u29 :: u30 :: u31 :: u32 :: u33 :: u34 :: u35 :: u36 :: u37 :: u38 :: u39 :: u40 :: u41 :: u42 :: u43 :: u44 :: u45 :: u46 :: u47 :: u48 :: u49 :: u50 :: u51 :: u52 :: u53 :: u54 :: u55 :: u56 :: u57 :: u58 :: u59 :: u60 :: u61 :: u62 :: u63 :: u64 :: u65 :: u66 :: u67 :: u68 :: u69 :: u70 :: u71 :: u72 :: u73 :: u74 :: u75 :: u76 :: u77 :: u78 :: u79 :: u80 :: u81 :: u82 :: u83 :: u84 :: u85 :: u86 :: u87 :: u88 :: u89 :: u90 :: u91 :: u92 :: u93 :: u94 :: u95 :: u96 :: u97 :: u98 :: u99 :: u100 :: u101 :: u102 :: u103 :: u104 :: u105 :: u106 :: u107 :: u108 :: u109 :: u110 :: u111 :: u112 :: u113 :: u114 :: []), []⟩ w := by
  obtain ⟨g, cap, cur, rfl, hBg, hgs, hg, hnc, hcm, hcl, hct⟩ := own_row hown (by omega)
  obtain ⟨_, _, _, hsl⟩ := Sl.of_own8 hown
  have hcm' : cap ≤ 9223372036854775807 := by unfold maxLen at hcm; omega
  have HSUM := hide (segsum_any (some ⟨g, 0, none⟩) raw.length cap raw w hsl rfl hnc hcm' hx h32)
  have hsb0 := sumOn_bd 2166136261 (raw.take 12) (by omega) (by omega)
  have hsb := sumOn_bd (sumOn 2166136261 (raw.take 12)) (raw.drop 16) hsb0.1 hsb0.2
  generalize hs : sumOn (sumOn 2166136261 (raw.take 12)) (raw.drop 16) = s at *
  have HR := hide hR
  have HCT := hide hct
  have HX := hide hx
  have HG := hide hg
  have HCL := hide hcl
  have HCM := hide hcm
  generalize hn : raw.length = n at *
  have hc16 : (16 : Int) ≤ (cap : Int) := by omega
  have hn16 : (16 : Int) ≤ (n : Int) := by omega
  have hc12 : ¬ cap = 12 := by omega
  have HLE := hide h32
  clear h32 hm hx hown hR hg hcl hct hsl hs hsb0 hcm hcm'
  have HNN := hide hn
  clear hn
  conv => arg 2; whnf
  go_wp2_with (first | (go_at_call 114; refine (unhide HSUM).mono ?_; rintro e w1 ⟨rfl, m, hm1⟩; have HM := hide hm1; clear hm1) | (go_at_call 112; refine (bytes_any s w1 (by omega) (by omega)).mono ?_; rintro e w2 ⟨rfl, hb2⟩; unfold aggB))
  have hwb : Below w.heap.size w w2 := by
    rw [unhide HM] at hb2
    exact (drewN_below w m).trans hb2
  have hw2 : w.heap.size ≤ w2.heap.size := hwb.size
  have hg2 : w2.heap[g]? = some (.cells cur.toArray 5 (0, 0)) := (hwb.block g hgs).trans (unhide HG)
  refine seal_copy B g w2.heap.size n cap cur (((bytes8 s).take 4).map (Value.int .u8)) w _ hn16 hc16 hnc hc12 HCL ?_ rfl ?_ ?_ ?_ hBg _ _ _ _ _ _ _ _ _ _ _ _ _ _ _ _ _ _ _ _ _ _ _ _ _ _ _ _ _ _ _ _ _ _ _ _ _ _ _ _ _ _ _ _ _ _ _ _ _ _ _ _ _ _ _ _ _ _ _ _ _ _ _ _ _ _ _ _ _ _ _ _ _ _ _ _ _ _ _ _ _ _ _ _ _ _ _ _ _ _ _ _ _ _ _ _ _ _ _ _ _ _ _ _ _ _ _ _ _ _ _ _ _ ?_
  · exact hide ((Below.heap_alloc w2 _ g (by omega)).trans hg2)
  · exact hide (four_new w2 _ _ _ _ _ _ _ _ 225)
  · refine hide fun v hv => ?_
    simp [bytes8] at hv
    rcases hv with rfl | rfl | rfl | rfl <;> rfl
  · exact hide ((hwb.mono hB).alloc (by omega) _)
  · refine hide ?_
    intro v110 v111 v112 v113 w4 hg4 hb4
    go_wp2_with fail
    refine unhide HR _ w4 hb4 ?_
    have ho := own_splice hBg hnc (unhide HCM) (unhide HCL) (by have := unhide HLE; simp [bytes8]; omega) (unhide hg4)
    rw [unhide HCT, ← splice_map] at ho
    exact ho
end Go.Proofs.Ygcfag
