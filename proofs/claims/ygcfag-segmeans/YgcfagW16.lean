/-
  WALKS: three loops of segwire.Seal.
-/
import Derived.Test.YgcfagW15
import Derived.Test.YgcfagW14
namespace Go.Proofs.Ygcfag
open Go.RowKit
set_option linter.unusedVariables false
set_option linter.unusedSimpArgs false

set_option maxHeartbeats 1000000 in
set_option maxRecDepth 100000 in
theorem seal_loop1 {Q0 : Exit → Act → World → Prop} (b off n c : Nat) (ms : List (List Int)) (w : World) (hn : ms.length = n) (hn8 : n ≤ 8) (htot : total ms ≤ 256) (hcell : ∀ i, i < ms.length → ∃ ai ci, w.cell? ⟨b, off + i, none⟩ = some (.slice ai (ms.getD i []).length ci) ∧ (ms.getD i []).length ≤ ci ∧ Sl .u64 w ai (ms.getD i []))
    (u0 u1 u2 u3 u4 u6 u7 u8 u9 u10 u11 u12 u13 u14 u15 u16 u17 u18 u19 u20 u21 u22 u23 u27 u28 u29 u30 u31 u32 u33 u34 u35 u36 u37 u38 u39 u40 u41 u42 u43 u44 u45 u46 u47 u48 u49 u50 u51 u52 u53 u54 u55 u56 u57 u58 u59 u60 u61 u62 u63 u64 u65 u66 u67 u68 u69 u70 u71 u72 u73 u74 u75 u76 u77 u78 u79 u80 u81 u82 u83 u84 u85 u86 u87 u88 u89 u90 u91 u92 u93 u94 u95 u96 u97 u98 u99 u100 u101 u102 u103 u104 u105 u106 u107 u108 u109 u110 u111 u112 u113 u114 : Value)
    (hexit : ∀ (v7 v26 v27 v28 v29 v30 v31 v32 v33 v34 : Value), Q0 (.exit 0) ⟨List.toArray (u0 :: u1 :: u2 :: u3 :: u4 :: .int .i64 (total ms : Int) :: u6 :: v7 :: u8 :: u9 :: u10 :: u11 :: u12 :: u13 :: u14 :: u15 :: u16 :: u17 :: u18 :: u19 :: u20 :: u21 :: u22 :: u23 :: .slice (some ⟨b, off, none⟩) n c :: .int .i64 (n : Int) :: v26 :: v27 :: v28 :: v29 :: v30 :: v31 :: v32 :: v33 :: v34 :: u35 :: u36 :: u37 :: u38 :: u39 :: u40 :: u41 :: u42 :: u43 :: u44 :: u45 :: u46 :: u47 :: u48 :: u49 :: u50 :: u51 :: u52 :: u53 :: u54 :: u55 :: u56 :: u57 :: u58 :: u59 :: u60 :: u61 :: u62 :: u63 :: u64 :: u65 :: u66 :: u67 :: u68 :: u69 :: u70 :: u71 :: u72 :: u73 :: u74 :: u75 :: u76 :: u77 :: u78 :: u79 :: u80 :: u81 :: u82 :: u83 :: u84 :: u85 :: u86 :: u87 :: u88 :: u89 :: u90 :: u91 :: u92 :: u93 :: u94 :: u95 :: u96 :: u97 :: u98 :: u99 :: u100 :: u101 :: u102 :: u103 :: u104 :: u105 :: u106 :: u107 :: u108 :: u109 :: u110 :: u111 :: u112 :: u113 :: u114 :: []), []⟩ w) :
    Code.wp Fagg.prog (bodyAt Fagg.f51 [1, 1, 1, 0, 1, 0]) Q0 ⟨List.toArray (u0 :: u1 :: u2 :: u3 :: u4 :: .int .i64 0 :: u6 :: u7 :: u8 :: u9 :: u10 :: u11 :: u12 :: u13 :: u14 :: u15 :: u16 :: u17 :: u18 :: u19 :: u20 :: u21 :: u22 :: u23 :: .slice (some ⟨b, off, none⟩) n c :: .int .i64 (n : Int) :: .int .i64 0 :: u27 :: u28 :: u29 :: u30 :: u31 :: u32 :: u33 :: u34 :: u35 :: u36 :: u37 :: u38 :: u39 :: u40 :: u41 :: u42 :: u43 :: u44 :: u45 :: u46 :: u47 :: u48 :: u49 :: u50 :: u51 :: u52 :: u53 :: u54 :: u55 :: u56 :: u57 :: u58 :: u59 :: u60 :: u61 :: u62 :: u63 :: u64 :: u65 :: u66 :: u67 :: u68 :: u69 :: u70 :: u71 :: u72 :: u73 :: u74 :: u75 :: u76 :: u77 :: u78 :: u79 :: u80 :: u81 :: u82 :: u83 :: u84 :: u85 :: u86 :: u87 :: u88 :: u89 :: u90 :: u91 :: u92 :: u93 :: u94 :: u95 :: u96 :: u97 :: u98 :: u99 :: u100 :: u101 :: u102 :: u103 :: u104 :: u105 :: u106 :: u107 :: u108 :: u109 :: u110 :: u111 :: u112 :: u113 :: u114 :: []), []⟩ w := by
  conv => arg 2; whnf
  have HE := hide hexit
  have HC := hide hcell
  clear hexit hcell
  go_loopw [5, 26] (fun s y wr => ∃ k : Nat, k ≤ n ∧ y = .int .i64 (k : Int) ∧ s = .int .i64 (total (ms.take k) : Int) ∧ wr = w) (fun _ y _ => n - (intOf y).toNat)
  case atStart => exact ⟨0, by omega, rfl, rfl, rfl⟩
  case round =>
    obtain ⟨k, hk, rfl, rfl, rfl⟩ := hrel
    have hle := total_le ms k
    by_cases hlt : k < n
    · have e1 : (k : Int) < (n : Int) := by omega
      obtain ⟨ak, ck, hck, _, _⟩ := unhide HC k (by omega)
      have HST := hide (total_step ms k (by omega))
      have hge := total_ge ms k (by omega)
      generalize (ms.getD k []).length = lk at *
      generalize total (ms.take k) = t at *
      go_wp2_with fail
      refine ⟨⟨k + 1, by omega, by go_num, ?_, trivial⟩, by simp [intOf]; omega⟩
      rw [unhide HST]; go_num
    · have e1 : ¬ (k : Int) < (n : Int) := by omega
      obtain rfl : k = n := by omega
      have HT := hide (show total (ms.take k) = total ms by rw [List.take_of_length_le (by omega)])
      rw [unhide HT]
      go_wp2_with fail
      exact unhide HE _ _ _ _ _ _ _ _ _ _

set_option maxHeartbeats 1000000 in
set_option maxRecDepth 100000 in
theorem seal_loop3 {Q0 : Exit → Act → World → Prop} (B : Nat) (h0 h1 h2 h3 : Int) (pre : List Int) (v : Value) (w : World) (hh0 : 0 ≤ h0 ∧ h0 ≤ 18446744073709551615) (hh1 : 0 ≤ h1 ∧ h1 ≤ 18446744073709551615) (hh2 : 0 ≤ h2 ∧ h2 ≤ 18446744073709551615) (hh3 : 0 ≤ h3 ∧ h3 ≤ 18446744073709551615) (hpre : pre.length ≤ 10000) (hown : w.ownsRow B 5 1 v pre.length (pre.map (Value.int .u8))) (hB : B ≤ w.heap.size)
    (u0 u1 u2 u3 u4 u5 u6 u7 u8 u9 u10 u11 u12 u14 u15 u16 u17 u18 u19 u20 u21 u22 u23 u24 u25 u26 u27 u28 u29 u30 u31 u32 u33 u34 u35 u36 u37 u38 u39 u40 u41 u42 u43 u44 u45 u46 u47 u48 u49 u50 u51 u52 u53 u54 u55 u56 u57 u58 u59 u60 u61 u62 u63 u64 u65 u66 u67 u68 u69 u70 u71 u72 u73 u74 u75 u76 u77 u78 u81 u82 u83 u84 u85 u86 u87 u88 u89 u90 u91 u92 u93 u94 u95 u96 u97 u98 u99 u100 u101 u102 u103 u104 u105 u106 u107 u108 u109 u110 u111 u112 u113 u114 : Value)
    (hexit : ∀ (v15 v16 v80 v81 v82 v83 v84 v85 v86 v87 v88 : Value) (vv : Value) (wr : World), Below B w wr → B ≤ wr.heap.size → wr.ownsRow B 5 1 vv (pre ++ [h0, h1, h2, h3].flatMap bytes8).length ((pre ++ [h0, h1, h2, h3].flatMap bytes8).map (Value.int .u8)) → Q0 (.exit 4) ⟨List.toArray (u0 :: u1 :: u2 :: u3 :: u4 :: u5 :: u6 :: u7 :: u8 :: u9 :: u10 :: u11 :: u12 :: vv :: u14 :: v15 :: v16 :: u17 :: u18 :: u19 :: u20 :: u21 :: u22 :: u23 :: u24 :: u25 :: u26 :: u27 :: u28 :: u29 :: u30 :: u31 :: u32 :: u33 :: u34 :: u35 :: u36 :: u37 :: u38 :: u39 :: u40 :: u41 :: u42 :: u43 :: u44 :: u45 :: u46 :: u47 :: u48 :: u49 :: u50 :: u51 :: u52 :: u53 :: u54 :: u55 :: u56 :: u57 :: u58 :: u59 :: u60 :: u61 :: u62 :: u63 :: u64 :: u65 :: u66 :: u67 :: u68 :: u69 :: u70 :: u71 :: u72 :: u73 :: u74 :: u75 :: u76 :: u77 :: u78 :: .agg #[.int .u64 h0, .int .u64 h1, .int .u64 h2, .int .u64 h3] :: v80 :: v81 :: v82 :: v83 :: v84 :: v85 :: v86 :: v87 :: v88 :: u89 :: u90 :: u91 :: u92 :: u93 :: u94 :: u95 :: u96 :: u97 :: u98 :: u99 :: u100 :: u101 :: u102 :: u103 :: u104 :: u105 :: u106 :: u107 :: u108 :: u109 :: u110 :: u111 :: u112 :: u113 :: u114 :: []), []⟩ wr) :
    Code.wp Fagg.prog (bodyAt Fagg.f51 [1, 1, 1, 1, 1, 1, 1, 1, 1, 1, 0, 1, 0]) Q0 ⟨List.toArray (u0 :: u1 :: u2 :: u3 :: u4 :: u5 :: u6 :: u7 :: u8 :: u9 :: u10 :: u11 :: u12 :: v :: u14 :: u15 :: u16 :: u17 :: u18 :: u19 :: u20 :: u21 :: u22 :: u23 :: u24 :: u25 :: u26 :: u27 :: u28 :: u29 :: u30 :: u31 :: u32 :: u33 :: u34 :: u35 :: u36 :: u37 :: u38 :: u39 :: u40 :: u41 :: u42 :: u43 :: u44 :: u45 :: u46 :: u47 :: u48 :: u49 :: u50 :: u51 :: u52 :: u53 :: u54 :: u55 :: u56 :: u57 :: u58 :: u59 :: u60 :: u61 :: u62 :: u63 :: u64 :: u65 :: u66 :: u67 :: u68 :: u69 :: u70 :: u71 :: u72 :: u73 :: u74 :: u75 :: u76 :: u77 :: u78 :: .agg #[.int .u64 h0, .int .u64 h1, .int .u64 h2, .int .u64 h3] :: .int .i64 0 :: u81 :: u82 :: u83 :: u84 :: u85 :: u86 :: u87 :: u88 :: u89 :: u90 :: u91 :: u92 :: u93 :: u94 :: u95 :: u96 :: u97 :: u98 :: u99 :: u100 :: u101 :: u102 :: u103 :: u104 :: u105 :: u106 :: u107 :: u108 :: u109 :: u110 :: u111 :: u112 :: u113 :: u114 :: []), []⟩ w := by
  conv => arg 2; whnf
  have HE := hide hexit
  have HO := hide hown
  clear hexit hown
  obtain ⟨i0, hi0, hz0, hz1, hz2⟩ := info_parts info5
  go_loopw [13, 80] (fun s y wr => ∃ (k : Nat), k ≤ 4 ∧ y = .int .i64 (k : Int) ∧ wr.ownsRow B 5 1 s (pre ++ ([h0, h1, h2, h3].take k).flatMap bytes8).length ((pre ++ ([h0, h1, h2, h3].take k).flatMap bytes8).map (Value.int .u8)) ∧ Below B w wr ∧ B ≤ wr.heap.size) (fun _ y _ => 4 - (intOf y).toNat)
  case atStart => exact ⟨0, by omega, rfl, by simpa using unhide HO, Below.refl _ _, hB⟩
  case round =>
    obtain ⟨k, hk, rfl, hown, hbr, hBr⟩ := hrel
    obtain rfl | rfl | rfl | rfl | rfl : k = 0 ∨ k = 1 ∨ k = 2 ∨ k = 3 ∨ k = 4 := by omega
    · have hwk : 0 ≤ h0 ∧ h0 ≤ 18446744073709551615 := hh0
      have HTK : Hid ([h0, h1, h2, h3].take 1 = [h0, h1, h2, h3].take 0 ++ [h0]) := rfl
      have hlen : ((pre ++ ([h0, h1, h2, h3].take 0).flatMap bytes8)).length ≤ 10000 + 32 := by
        rw [List.length_append, flat_len]; simp; omega
      generalize hpn : pre ++ ([h0, h1, h2, h3].take 0).flatMap bytes8 = pn at *
      have HPN := hide hpn
      clear hpn
      have HBY := hide (fun W => bytes_any h0 W hwk.1 hwk.2)
      have i0x : ∀ W, (Instr.index 132 (.agg #[.int .u64 h0, .int .u64 h1, .int .u64 h2, .int .u64 h3]) (.int .i64 0)).run Fagg.prog W = .ok (.int .u64 h0) W := fun _ => by kernel_rfl
      go_wp2_with (first | (go_at_call 112; refine (unhide HBY wr).mono ?_; rintro e w1 ⟨rfl, hb1⟩; have hown1 := hown.kept (w' := w1) (row := none) ⟨hb1.os, hb1.tape, hb1.output, hb1.size, fun k hk _ => hb1.block k hk⟩ (by cases hv : u13.ownBlock <;> simp); unfold aggB) | (at_builtin; refine wpList_append_own _ rfl _ _ 33 rfl B 5 i0 (.int .u8 0) 1 1 Fagg.underlying33 hi0 hz0 hz1 hz2 rfl (by decide) _ _ _ rfl (hown1.alloc _) ⟨w1.heap.size, 0, none⟩ 8 8 ((bytes8 h0).map (Value.int .u8)) rfl rfl ?_ ?_ ?_ ?_ ?_ ?_))
      · exact bytes_new _ _
      · exact ints_oneCell _ _
      · unfold maxLen; omega
      · omega
      · have := hb1.size; simp; omega
      intro v1 w2 hown2 hg2 _
      have HO2 := hide hown2
      have HB2 := hide (((hbr.trans (hb1.mono hBr)).alloc (by have := hb1.size; omega) _).grown hg2 (by have := hb1.size; simp; omega) (fun q hq => (hown1.lt q hq).1))
      have hs2 := hg2.size
      have hs1 := hb1.size
      simp at hs2
      clear hown2 hg2 hown hown1 hb1
      go_wp2_with fail
      refine ⟨⟨1, by omega, rfl, ?_, unhide HB2, by omega⟩, by simp [intOf]⟩
      rw [unhide HTK, List.flatMap_append, ← List.append_assoc, unhide HPN]
      have e : [h0].flatMap bytes8 = bytes8 h0 := by simp
      rw [e, List.map_append, List.length_append]
      exact unhide HO2
    · have hwk : 0 ≤ h1 ∧ h1 ≤ 18446744073709551615 := hh1
      have HTK : Hid ([h0, h1, h2, h3].take 2 = [h0, h1, h2, h3].take 1 ++ [h1]) := rfl
      have hlen : ((pre ++ ([h0, h1, h2, h3].take 1).flatMap bytes8)).length ≤ 10000 + 32 := by
        rw [List.length_append, flat_len]; simp; omega
      generalize hpn : pre ++ ([h0, h1, h2, h3].take 1).flatMap bytes8 = pn at *
      have HPN := hide hpn
      clear hpn
      have HBY := hide (fun W => bytes_any h1 W hwk.1 hwk.2)
      have i1x : ∀ W, (Instr.index 132 (.agg #[.int .u64 h0, .int .u64 h1, .int .u64 h2, .int .u64 h3]) (.int .i64 1)).run Fagg.prog W = .ok (.int .u64 h1) W := fun _ => by kernel_rfl
      go_wp2_with (first | (go_at_call 112; refine (unhide HBY wr).mono ?_; rintro e w1 ⟨rfl, hb1⟩; have hown1 := hown.kept (w' := w1) (row := none) ⟨hb1.os, hb1.tape, hb1.output, hb1.size, fun k hk _ => hb1.block k hk⟩ (by cases hv : u13.ownBlock <;> simp); unfold aggB) | (at_builtin; refine wpList_append_own _ rfl _ _ 33 rfl B 5 i0 (.int .u8 0) 1 1 Fagg.underlying33 hi0 hz0 hz1 hz2 rfl (by decide) _ _ _ rfl (hown1.alloc _) ⟨w1.heap.size, 0, none⟩ 8 8 ((bytes8 h1).map (Value.int .u8)) rfl rfl ?_ ?_ ?_ ?_ ?_ ?_))
      · exact bytes_new _ _
      · exact ints_oneCell _ _
      · unfold maxLen; omega
      · omega
      · have := hb1.size; simp; omega
      intro v1 w2 hown2 hg2 _
      have HO2 := hide hown2
      have HB2 := hide (((hbr.trans (hb1.mono hBr)).alloc (by have := hb1.size; omega) _).grown hg2 (by have := hb1.size; simp; omega) (fun q hq => (hown1.lt q hq).1))
      have hs2 := hg2.size
      have hs1 := hb1.size
      simp at hs2
      clear hown2 hg2 hown hown1 hb1
      go_wp2_with fail
      refine ⟨⟨2, by omega, rfl, ?_, unhide HB2, by omega⟩, by simp [intOf]⟩
      rw [unhide HTK, List.flatMap_append, ← List.append_assoc, unhide HPN]
      have e : [h1].flatMap bytes8 = bytes8 h1 := by simp
      rw [e, List.map_append, List.length_append]
      exact unhide HO2
    · have hwk : 0 ≤ h2 ∧ h2 ≤ 18446744073709551615 := hh2
      have HTK : Hid ([h0, h1, h2, h3].take 3 = [h0, h1, h2, h3].take 2 ++ [h2]) := rfl
      have hlen : ((pre ++ ([h0, h1, h2, h3].take 2).flatMap bytes8)).length ≤ 10000 + 32 := by
        rw [List.length_append, flat_len]; simp; omega
      generalize hpn : pre ++ ([h0, h1, h2, h3].take 2).flatMap bytes8 = pn at *
      have HPN := hide hpn
      clear hpn
      have HBY := hide (fun W => bytes_any h2 W hwk.1 hwk.2)
      have i2x : ∀ W, (Instr.index 132 (.agg #[.int .u64 h0, .int .u64 h1, .int .u64 h2, .int .u64 h3]) (.int .i64 2)).run Fagg.prog W = .ok (.int .u64 h2) W := fun _ => by kernel_rfl
      go_wp2_with (first | (go_at_call 112; refine (unhide HBY wr).mono ?_; rintro e w1 ⟨rfl, hb1⟩; have hown1 := hown.kept (w' := w1) (row := none) ⟨hb1.os, hb1.tape, hb1.output, hb1.size, fun k hk _ => hb1.block k hk⟩ (by cases hv : u13.ownBlock <;> simp); unfold aggB) | (at_builtin; refine wpList_append_own _ rfl _ _ 33 rfl B 5 i0 (.int .u8 0) 1 1 Fagg.underlying33 hi0 hz0 hz1 hz2 rfl (by decide) _ _ _ rfl (hown1.alloc _) ⟨w1.heap.size, 0, none⟩ 8 8 ((bytes8 h2).map (Value.int .u8)) rfl rfl ?_ ?_ ?_ ?_ ?_ ?_))
      · exact bytes_new _ _
      · exact ints_oneCell _ _
      · unfold maxLen; omega
      · omega
      · have := hb1.size; simp; omega
      intro v1 w2 hown2 hg2 _
      have HO2 := hide hown2
      have HB2 := hide (((hbr.trans (hb1.mono hBr)).alloc (by have := hb1.size; omega) _).grown hg2 (by have := hb1.size; simp; omega) (fun q hq => (hown1.lt q hq).1))
      have hs2 := hg2.size
      have hs1 := hb1.size
      simp at hs2
      clear hown2 hg2 hown hown1 hb1
      go_wp2_with fail
      refine ⟨⟨3, by omega, rfl, ?_, unhide HB2, by omega⟩, by simp [intOf]⟩
      rw [unhide HTK, List.flatMap_append, ← List.append_assoc, unhide HPN]
      have e : [h2].flatMap bytes8 = bytes8 h2 := by simp
      rw [e, List.map_append, List.length_append]
      exact unhide HO2
    · have hwk : 0 ≤ h3 ∧ h3 ≤ 18446744073709551615 := hh3
      have HTK : Hid ([h0, h1, h2, h3].take 4 = [h0, h1, h2, h3].take 3 ++ [h3]) := rfl
      have hlen : ((pre ++ ([h0, h1, h2, h3].take 3).flatMap bytes8)).length ≤ 10000 + 32 := by
        rw [List.length_append, flat_len]; simp; omega
      generalize hpn : pre ++ ([h0, h1, h2, h3].take 3).flatMap bytes8 = pn at *
      have HPN := hide hpn
      clear hpn
      have HBY := hide (fun W => bytes_any h3 W hwk.1 hwk.2)
      have i3x : ∀ W, (Instr.index 132 (.agg #[.int .u64 h0, .int .u64 h1, .int .u64 h2, .int .u64 h3]) (.int .i64 3)).run Fagg.prog W = .ok (.int .u64 h3) W := fun _ => by kernel_rfl
      go_wp2_with (first | (go_at_call 112; refine (unhide HBY wr).mono ?_; rintro e w1 ⟨rfl, hb1⟩; have hown1 := hown.kept (w' := w1) (row := none) ⟨hb1.os, hb1.tape, hb1.output, hb1.size, fun k hk _ => hb1.block k hk⟩ (by cases hv : u13.ownBlock <;> simp); unfold aggB) | (at_builtin; refine wpList_append_own _ rfl _ _ 33 rfl B 5 i0 (.int .u8 0) 1 1 Fagg.underlying33 hi0 hz0 hz1 hz2 rfl (by decide) _ _ _ rfl (hown1.alloc _) ⟨w1.heap.size, 0, none⟩ 8 8 ((bytes8 h3).map (Value.int .u8)) rfl rfl ?_ ?_ ?_ ?_ ?_ ?_))
      · exact bytes_new _ _
      · exact ints_oneCell _ _
      · unfold maxLen; omega
      · omega
      · have := hb1.size; simp; omega
      intro v1 w2 hown2 hg2 _
      have HO2 := hide hown2
      have HB2 := hide (((hbr.trans (hb1.mono hBr)).alloc (by have := hb1.size; omega) _).grown hg2 (by have := hb1.size; simp; omega) (fun q hq => (hown1.lt q hq).1))
      have hs2 := hg2.size
      have hs1 := hb1.size
      simp at hs2
      clear hown2 hg2 hown hown1 hb1
      go_wp2_with fail
      refine ⟨⟨4, by omega, rfl, ?_, unhide HB2, by omega⟩, by simp [intOf]⟩
      rw [unhide HTK, List.flatMap_append, ← List.append_assoc, unhide HPN]
      have e : [h3].flatMap bytes8 = bytes8 h3 := by simp
      rw [e, List.map_append, List.length_append]
      exact unhide HO2
    · have HOW := hide hown
      clear hown
      go_wp2_with fail
      exact unhide HE _ _ _ _ _ _ _ _ _ _ _ _ wr hbr hBr (unhide HOW)

set_option maxHeartbeats 1000000 in
set_option maxRecDepth 100000 in
theorem seal_loop4 {Q0 : Exit → Act → World → Prop} (B b off n c : Nat) (ws pre : List Int) (v : Value) (w : World) (hn : ws.length = n) (hn2 : n ≤ 256) (hcell : ∀ j, j < n → w.cell? ⟨b, off + j, none⟩ = some (.int .u64 (ws.getD j 0))) (hbB : b < B) (hw : Wds ws) (hpre : pre.length ≤ 10000) (hown : w.ownsRow B 5 1 v pre.length (pre.map (Value.int .u8))) (hB : B ≤ w.heap.size)
    (u0 u1 u2 u3 u4 u5 u6 u7 u8 u9 u10 u11 u12 u14 u15 u16 u17 u18 u19 u20 u21 u22 u23 u24 u25 u26 u27 u28 u29 u30 u31 u32 u33 u34 u35 u36 u37 u38 u39 u40 u41 u42 u43 u44 u45 u46 u47 u48 u49 u50 u51 u52 u53 u54 u55 u56 u57 u58 u59 u60 u61 u62 u63 u64 u65 u66 u67 u68 u69 u70 u71 u72 u73 u74 u75 u76 u77 u78 u79 u80 u81 u82 u83 u84 u85 u86 u87 u88 u89 u90 u91 u92 u93 u97 u98 u99 u100 u101 u102 u103 u104 u105 u106 u107 u108 u109 u110 u111 u112 u113 u114 : Value)
    (hexit : ∀ (v18 v19 v96 v97 v98 v99 v100 v101 v102 v103 v104 v105 : Value) (vv : Value) (wr : World), Below B w wr → B ≤ wr.heap.size → wr.ownsRow B 5 1 vv (pre ++ ws.flatMap bytes8).length ((pre ++ ws.flatMap bytes8).map (Value.int .u8)) → Q0 (.exit 6) ⟨List.toArray (u0 :: u1 :: u2 :: u3 :: u4 :: u5 :: u6 :: u7 :: u8 :: u9 :: u10 :: u11 :: u12 :: vv :: u14 :: u15 :: u16 :: u17 :: v18 :: v19 :: u20 :: u21 :: u22 :: u23 :: u24 :: u25 :: u26 :: u27 :: u28 :: u29 :: u30 :: u31 :: u32 :: u33 :: u34 :: u35 :: u36 :: u37 :: u38 :: u39 :: u40 :: u41 :: u42 :: u43 :: u44 :: u45 :: u46 :: u47 :: u48 :: u49 :: u50 :: u51 :: u52 :: u53 :: u54 :: u55 :: u56 :: u57 :: u58 :: u59 :: u60 :: u61 :: u62 :: u63 :: u64 :: u65 :: u66 :: u67 :: u68 :: u69 :: u70 :: u71 :: u72 :: u73 :: u74 :: u75 :: u76 :: u77 :: u78 :: u79 :: u80 :: u81 :: u82 :: u83 :: u84 :: u85 :: u86 :: u87 :: u88 :: u89 :: u90 :: u91 :: u92 :: u93 :: .slice (some ⟨b, off, none⟩) n c :: .int .i64 (n : Int) :: v96 :: v97 :: v98 :: v99 :: v100 :: v101 :: v102 :: v103 :: v104 :: v105 :: u106 :: u107 :: u108 :: u109 :: u110 :: u111 :: u112 :: u113 :: u114 :: []), []⟩ wr) :
    Code.wp Fagg.prog (bodyAt Fagg.f51 [1, 1, 1, 1, 1, 1, 1, 1, 1, 1, 1, 0, 1, 1, 1, 0]) Q0 ⟨List.toArray (u0 :: u1 :: u2 :: u3 :: u4 :: u5 :: u6 :: u7 :: u8 :: u9 :: u10 :: u11 :: u12 :: v :: u14 :: u15 :: u16 :: u17 :: u18 :: u19 :: u20 :: u21 :: u22 :: u23 :: u24 :: u25 :: u26 :: u27 :: u28 :: u29 :: u30 :: u31 :: u32 :: u33 :: u34 :: u35 :: u36 :: u37 :: u38 :: u39 :: u40 :: u41 :: u42 :: u43 :: u44 :: u45 :: u46 :: u47 :: u48 :: u49 :: u50 :: u51 :: u52 :: u53 :: u54 :: u55 :: u56 :: u57 :: u58 :: u59 :: u60 :: u61 :: u62 :: u63 :: u64 :: u65 :: u66 :: u67 :: u68 :: u69 :: u70 :: u71 :: u72 :: u73 :: u74 :: u75 :: u76 :: u77 :: u78 :: u79 :: u80 :: u81 :: u82 :: u83 :: u84 :: u85 :: u86 :: u87 :: u88 :: u89 :: u90 :: u91 :: u92 :: u93 :: .slice (some ⟨b, off, none⟩) n c :: .int .i64 (n : Int) :: .int .i64 0 :: u97 :: u98 :: u99 :: u100 :: u101 :: u102 :: u103 :: u104 :: u105 :: u106 :: u107 :: u108 :: u109 :: u110 :: u111 :: u112 :: u113 :: u114 :: []), []⟩ w := by
  conv => arg 2; whnf
  have HE := hide hexit
  have HO := hide hown
  have HC := hide hcell
  have HW := hide hw
  clear hexit hown hcell hw
  obtain ⟨i0, hi0, hz0, hz1, hz2⟩ := info_parts info5
  go_loopw [13, 96] (fun s y wr => ∃ (k : Nat), k ≤ n ∧ y = .int .i64 (k : Int) ∧ wr.ownsRow B 5 1 s (pre ++ (ws.take k).flatMap bytes8).length ((pre ++ (ws.take k).flatMap bytes8).map (Value.int .u8)) ∧ Below B w wr ∧ B ≤ wr.heap.size) (fun _ y _ => n - (intOf y).toNat)
  case atStart => exact ⟨0, by omega, rfl, by simpa using unhide HO, Below.refl _ _, hB⟩
  case round =>
    obtain ⟨k, hk, rfl, hown, hbr, hBr⟩ := hrel
    by_cases hlt : k < n
    · have e1 : (k : Int) < (n : Int) := by omega
      have hck := (hbr.cell (p := ⟨b, off + k, none⟩) hbB).trans (unhide HC k hlt)
      have hwk := unhide HW k
      have HTK := hide (take_snoc ws k (by omega))
      have hlen : (pre ++ (ws.take k).flatMap bytes8).length ≤ 10000 + 8 * k := by
        rw [List.length_append, flat_len, List.length_take]
        omega
      generalize hpn : pre ++ (ws.take k).flatMap bytes8 = pn at *
      have HPN := hide hpn
      clear hpn
      generalize ws.getD k 0 = x at *
      have HBY := hide (fun W => bytes_any x W hwk.1 hwk.2)
      go_wp2_with (first | (go_at_call 112; refine (unhide HBY wr).mono ?_; rintro e w1 ⟨rfl, hb1⟩; have hown1 := hown.kept (w' := w1) (row := none) ⟨hb1.os, hb1.tape, hb1.output, hb1.size, fun k hk _ => hb1.block k hk⟩ (by cases hv : u13.ownBlock <;> simp); unfold aggB) | (at_builtin; refine wpList_append_own _ rfl _ _ 33 rfl B 5 i0 (.int .u8 0) 1 1 Fagg.underlying33 hi0 hz0 hz1 hz2 rfl (by decide) _ _ _ rfl (hown1.alloc _) ⟨w1.heap.size, 0, none⟩ 8 8 ((bytes8 x).map (Value.int .u8)) rfl rfl ?_ ?_ ?_ ?_ ?_ ?_))
      · exact bytes_new _ _
      · exact ints_oneCell _ _
      · unfold maxLen; omega
      · omega
      · have := hb1.size; simp; omega
      intro v1 w2 hown2 hg2 _
      have HO2 := hide hown2
      have HB2 := hide (((hbr.trans (hb1.mono hBr)).alloc (by have := hb1.size; omega) _).grown hg2 (by have := hb1.size; simp; omega) (fun q hq => (hown1.lt q hq).1))
      have hs2 := hg2.size
      have hs1 := hb1.size
      simp at hs2
      clear hown2 hg2 hown hown1 hb1
      go_wp2_with fail
      refine ⟨⟨k + 1, by omega, by go_num, ?_, unhide HB2, by omega⟩, by simp [intOf]; omega⟩
      rw [unhide HTK, List.flatMap_append, ← List.append_assoc, unhide HPN]
      have e : [x].flatMap bytes8 = bytes8 x := by simp
      rw [e, List.map_append, List.length_append]
      exact unhide HO2
    · have e1 : ¬ (k : Int) < (n : Int) := by omega
      obtain rfl : k = n := by omega
      have HOW := hide hown
      clear hown
      go_wp2_with fail
      refine unhide HE _ _ _ _ _ _ _ _ _ _ _ _ _ wr hbr hBr ?_
      have := unhide HOW
      rw [List.take_of_length_le (by omega)] at this
      exact this
end Go.Proofs.Ygcfag
