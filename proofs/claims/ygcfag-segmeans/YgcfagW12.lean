/-
  WALKS: the two inner loops of pack.Pack.
-/
import Derived.Test.YgcfagW11
import Derived.Test.YgcfagSub
import Derived.Deep.DeepCutAuto
namespace Go.Proofs.Ygcfag
open Go.RowKit
set_option linter.unusedVariables false
set_option linter.unusedSimpArgs false

set_option maxHeartbeats 1000000 in
set_option maxRecDepth 100000 in
theorem pack_loopA {Q0 : Exit → Act → World → Prop} (B : Nat) (x : Int) (pre : List Int) (v : Value) (w : World) (hx : 0 ≤ x) (hx2 : x ≤ 18446744073709551615) (hpre : pre.length ≤ 10000) (hown : w.ownsRow B 5 1 v pre.length (pre.map (Value.int .u8))) (hB : B ≤ w.heap.size)
    (u0 u1 u2 u4 u6 u7 u8 u9 u10 u11 u12 u13 u14 u15 u16 u17 u18 u19 u20 u21 u22 u23 u24 u25 u26 u27 u28 u29 u30 u31 u32 u33 u34 u35 u36 u37 u38 u39 u40 u41 u42 u43 u44 u45 u46 u47 u48 u49 u50 u51 u52 u53 u54 u55 u56 u57 u58 u59 u60 u61 u62 u63 u64 u65 u66 u67 u68 u69 u70 u71 u72 u73 u74 u75 u76 u77 u78 u79 u80 u81 u82 u83 u84 u85 u86 u87 u88 u89 u90 u91 u92 u93 u94 u95 u96 u97 u98 u99 u100 u101 : Value)
    (hexit : ∀ (v5 v42 v43 v44 v45 v46 v47 v48 v49 v50 v51 v52 v53 : Value) (vv : Value) (wr : World), Below B w wr → wr.ownsRow B 5 1 vv (pre ++ nonzero x).length ((pre ++ nonzero x).map (Value.int .u8)) → Q0 (.exit 2) ⟨List.toArray (u0 :: u1 :: u2 :: vv :: u4 :: v5 :: u6 :: u7 :: u8 :: u9 :: u10 :: u11 :: u12 :: u13 :: u14 :: u15 :: u16 :: u17 :: u18 :: u19 :: u20 :: u21 :: u22 :: u23 :: u24 :: u25 :: u26 :: u27 :: u28 :: u29 :: u30 :: u31 :: u32 :: u33 :: u34 :: u35 :: u36 :: u37 :: u38 :: u39 :: u40 :: u41 :: v42 :: v43 :: v44 :: v45 :: v46 :: v47 :: v48 :: v49 :: v50 :: v51 :: v52 :: v53 :: u54 :: u55 :: u56 :: u57 :: u58 :: u59 :: u60 :: u61 :: u62 :: u63 :: u64 :: u65 :: u66 :: u67 :: u68 :: u69 :: u70 :: u71 :: u72 :: u73 :: u74 :: u75 :: u76 :: u77 :: u78 :: u79 :: u80 :: u81 :: u82 :: u83 :: u84 :: u85 :: u86 :: u87 :: u88 :: u89 :: u90 :: u91 :: u92 :: u93 :: u94 :: u95 :: u96 :: u97 :: u98 :: u99 :: u100 :: u101 :: []), []⟩ wr) :
    Code.wp Fagg.prog (bodyAt Fagg.f113 [1, 1, 1, 0, 1, 0, 0, 1, 0, 0, 1, 1, 1, 0, 0]) Q0 ⟨List.toArray (u0 :: u1 :: u2 :: v :: u4 :: .int .u64 x :: u6 :: u7 :: u8 :: u9 :: u10 :: u11 :: u12 :: u13 :: u14 :: u15 :: u16 :: u17 :: u18 :: u19 :: u20 :: u21 :: u22 :: u23 :: u24 :: u25 :: u26 :: u27 :: u28 :: u29 :: u30 :: u31 :: u32 :: u33 :: u34 :: u35 :: u36 :: u37 :: u38 :: u39 :: u40 :: u41 :: u42 :: u43 :: u44 :: u45 :: u46 :: u47 :: u48 :: u49 :: u50 :: u51 :: u52 :: u53 :: u54 :: u55 :: u56 :: u57 :: u58 :: u59 :: u60 :: u61 :: u62 :: u63 :: u64 :: u65 :: u66 :: u67 :: u68 :: u69 :: u70 :: u71 :: u72 :: u73 :: u74 :: u75 :: u76 :: u77 :: u78 :: u79 :: u80 :: u81 :: u82 :: u83 :: u84 :: u85 :: u86 :: u87 :: u88 :: u89 :: u90 :: u91 :: u92 :: u93 :: u94 :: u95 :: u96 :: u97 :: u98 :: u99 :: u100 :: u101 :: []), []⟩ w := by
  conv => arg 2; whnf
  have HE := hide hexit
  have HO := hide hown
  clear hexit hown
  obtain ⟨i0, hi0, hz0, hz1, hz2⟩ := info_parts info5
  go_loopw [3, 5] (fun s y wr => ∃ (k : Nat) (z : Int), k ≤ 8 ∧ Hid (z = x / 256 ^ k) ∧ 0 ≤ z ∧ z ≤ 18446744073709551615 ∧ y = .int .u64 z ∧ wr.ownsRow B 5 1 s (pre ++ nzk x k).length ((pre ++ nzk x k).map (Value.int .u8)) ∧ Below B w wr ∧ B ≤ wr.heap.size) (fun _ y _ => (intOf y).toNat)
  case atStart => exact ⟨0, x, by omega, by simp [Hid], hx, hx2, rfl, by simpa [nzk] using unhide HO, Below.refl _ _, hB⟩
  case round =>
    obtain ⟨k, z, hk, HZ, hz, hzz, rfl, hown, hbr, hBr⟩ := hrel
    by_cases hz0' : z = 0
    · have e1 : (z != 0) = false := by simp [hz0']
      have HN := hide (nzk_end x k hk (by rw [← unhide HZ]; exact hz0'))
      have HOW := hide hown
      clear hown hz0'
      go_wp2_with fail
      rw [unhide HN] at HOW
      exact unhide HE _ _ _ _ _ _ _ _ _ _ _ _ _ _ wr hbr (unhide HOW)
    · have e1 : (z != 0) = true := by simp [hz0']
      have hk8 : k < 8 := by
        rcases Nat.lt_or_ge k 8 with h | h
        · exact h
        · obtain rfl : k = 8 := by omega
          have h1 := unhide HZ
          have h2 : (256 : Int) ^ 8 = 18446744073709551616 := by decide
          rw [h2] at h1
          omega
      have HSP := hide (nzk_step x k hk8)
      rw [← unhide HZ] at HSP
      have HDV : Hid (z / 256 = x / 256 ^ (k + 1)) := by show _ = _; rw [unhide HZ]; exact div_step x k
      have hnl := nzk_len x k
      by_cases hb : z % 256 = 0
      · have e2 : (z % 256 != 0) = false := by simp [hb]
        have HN : Hid (nzk x (k + 1) = nzk x k) := by have := unhide HSP; rw [if_pos hb, List.append_nil] at this; exact this
        have HOW := hide hown
        clear hown hb
        go_wp2_with fail
        exact ⟨⟨k + 1, z / 256, by omega, HDV, by omega, by omega, rfl, by rw [unhide HN]; exact unhide HOW, hbr, hBr⟩, by simp [intOf]; omega⟩
      · have e2 : (z % 256 != 0) = true := by simp [hb]
        have HN : Hid (nzk x (k + 1) = nzk x k ++ [z % 256]) := by have := unhide HSP; rw [if_neg hb] at this; exact this
        have hlen : (pre ++ nzk x k).length ≤ 10008 := by simp; omega
        generalize hpn : pre ++ nzk x k = pn at *
        clear hb
        go_wp2_with (at_builtin; refine wpList_append_own _ rfl _ _ 33 rfl B 5 i0 (.int .u8 0) 1 1 Fagg.underlying33 hi0 hz0 hz1 hz2 rfl (by decide) _ _ _ rfl (hown.alloc _) ⟨wr.heap.size, 0, none⟩ 1 1 [.int .u8 (z % 256)] rfl rfl ?_ ?_ ?_ ?_ ?_ ?_)
        · exact one_new _ _ _
        · exact one_cell rfl
        · unfold maxLen; omega
        · omega
        · simp; omega
        intro v1 w1 hown1 hg1 _
        have HO1 := hide hown1
        have HB1 := hide ((hbr.alloc hBr (Obj.cells #[Value.int IntKind.u8 (z % 256)] 5)).grown hg1 (by simp; omega) (fun q hq => (hown.lt q hq).1))
        have hs1 := hg1.size
        simp at hs1
        clear hown1 hg1 hown
        go_wp2_with fail
        refine ⟨⟨k + 1, z / 256, by omega, HDV, by omega, by omega, rfl, ?_, unhide HB1, by omega⟩, by simp [intOf]; omega⟩
        rw [unhide HN, ← List.append_assoc, hpn]
        simpa using unhide HO1

theorem bytes_new (w : World) (x : Int) : ∀ (j : Nat) (u : Value), ((bytes8 x).map (Value.int .u8))[j]? = some u → (w.alloc (.cells #[.int .u8 (x % 256), .int .u8 (x / 256 % 256), .int .u8 (x / 65536 % 256), .int .u8 (x / 16777216 % 256), .int .u8 (x / 4294967296 % 256), .int .u8 (x / 1099511627776 % 256), .int .u8 (x / 281474976710656 % 256), .int .u8 (x / 72057594037927936 % 256)] 225)).cell? ((⟨w.heap.size, 0, none⟩ : Addr).add j) = some u := by
  intro j u hj
  have hl : j < 8 := by have := (List.getElem?_eq_some_iff.1 hj).1; simpa [bytes8] using this
  rw [Addr.add_lit, Nat.zero_add]
  match j, hl with
  | 0, _ => simp [bytes8] at hj; subst hj; simp
  | 1, _ => simp [bytes8] at hj; subst hj; simp
  | 2, _ => simp [bytes8] at hj; subst hj; simp
  | 3, _ => simp [bytes8] at hj; subst hj; simp
  | 4, _ => simp [bytes8] at hj; subst hj; simp
  | 5, _ => simp [bytes8] at hj; subst hj; simp
  | 6, _ => simp [bytes8] at hj; subst hj; simp
  | 7, _ => simp [bytes8] at hj; subst hj; simp

set_option maxHeartbeats 1000000 in
set_option maxRecDepth 100000 in
theorem pack_loopB {Q0 : Exit → Act → World → Prop} (B b off n c : Nat) (ws pre : List Int) (v : Value) (w : World) (hn : ws.length = n) (hn2 : n ≤ 256) (hcell : ∀ j, j < n → w.cell? ⟨b, off + j, none⟩ = some (.int .u64 (ws.getD j 0))) (hbB : b < B) (hw : Wds ws) (hpre : pre.length ≤ 10000) (hown : w.ownsRow B 5 1 v pre.length (pre.map (Value.int .u8))) (hB : B ≤ w.heap.size)
    (u0 u1 u2 u4 u5 u6 u7 u8 u9 u10 u11 u12 u13 u14 u15 u16 u17 u18 u19 u20 u21 u22 u23 u24 u25 u26 u27 u28 u29 u30 u31 u32 u33 u34 u35 u36 u37 u38 u39 u40 u41 u42 u43 u44 u45 u46 u47 u48 u49 u50 u51 u52 u53 u54 u55 u56 u57 u58 u59 u60 u61 u62 u63 u64 u65 u66 u67 u68 u69 u70 u71 u72 u73 u74 u75 u76 u77 u78 u79 u80 u81 u82 u83 u84 u85 u89 u90 u91 u92 u93 u94 u95 u96 u97 u98 u99 u100 u101 : Value)
    (hexit : ∀ (v11 v12 v88 v89 v90 v91 v92 v93 v94 v95 v96 v97 : Value) (vv : Value) (wr : World), Below B w wr → wr.ownsRow B 5 1 vv (pre ++ ws.flatMap bytes8).length ((pre ++ ws.flatMap bytes8).map (Value.int .u8)) → Q0 (.exit 5) ⟨List.toArray (u0 :: u1 :: u2 :: vv :: u4 :: u5 :: u6 :: u7 :: u8 :: u9 :: u10 :: v11 :: v12 :: u13 :: u14 :: u15 :: u16 :: u17 :: u18 :: u19 :: u20 :: u21 :: u22 :: u23 :: u24 :: u25 :: u26 :: u27 :: u28 :: u29 :: u30 :: u31 :: u32 :: u33 :: u34 :: u35 :: u36 :: u37 :: u38 :: u39 :: u40 :: u41 :: u42 :: u43 :: u44 :: u45 :: u46 :: u47 :: u48 :: u49 :: u50 :: u51 :: u52 :: u53 :: u54 :: u55 :: u56 :: u57 :: u58 :: u59 :: u60 :: u61 :: u62 :: u63 :: u64 :: u65 :: u66 :: u67 :: u68 :: u69 :: u70 :: u71 :: u72 :: u73 :: u74 :: u75 :: u76 :: u77 :: u78 :: u79 :: u80 :: u81 :: u82 :: u83 :: u84 :: u85 :: .slice (some ⟨b, off, none⟩) n c :: .int .i64 (n : Int) :: v88 :: v89 :: v90 :: v91 :: v92 :: v93 :: v94 :: v95 :: v96 :: v97 :: u98 :: u99 :: u100 :: u101 :: []), []⟩ wr) :
    Code.wp Fagg.prog (bodyAt Fagg.f113 [1, 1, 1, 0, 1, 0, 0, 1, 0, 0, 1, 1, 1, 1, 1, 1, 0, 1, 1, 1, 0, 1, 1, 0, 1, 0]) Q0 ⟨List.toArray (u0 :: u1 :: u2 :: v :: u4 :: u5 :: u6 :: u7 :: u8 :: u9 :: u10 :: u11 :: u12 :: u13 :: u14 :: u15 :: u16 :: u17 :: u18 :: u19 :: u20 :: u21 :: u22 :: u23 :: u24 :: u25 :: u26 :: u27 :: u28 :: u29 :: u30 :: u31 :: u32 :: u33 :: u34 :: u35 :: u36 :: u37 :: u38 :: u39 :: u40 :: u41 :: u42 :: u43 :: u44 :: u45 :: u46 :: u47 :: u48 :: u49 :: u50 :: u51 :: u52 :: u53 :: u54 :: u55 :: u56 :: u57 :: u58 :: u59 :: u60 :: u61 :: u62 :: u63 :: u64 :: u65 :: u66 :: u67 :: u68 :: u69 :: u70 :: u71 :: u72 :: u73 :: u74 :: u75 :: u76 :: u77 :: u78 :: u79 :: u80 :: u81 :: u82 :: u83 :: u84 :: u85 :: .slice (some ⟨b, off, none⟩) n c :: .int .i64 (n : Int) :: .int .i64 0 :: u89 :: u90 :: u91 :: u92 :: u93 :: u94 :: u95 :: u96 :: u97 :: u98 :: u99 :: u100 :: u101 :: []), []⟩ w := by
  conv => arg 2; whnf
  have HE := hide hexit
  have HO := hide hown
  have HC := hide hcell
  have HW := hide hw
  clear hexit hown hcell hw
  obtain ⟨i0, hi0, hz0, hz1, hz2⟩ := info_parts info5
  go_loopw [3, 88] (fun s y wr => ∃ (k : Nat), k ≤ n ∧ y = .int .i64 (k : Int) ∧ wr.ownsRow B 5 1 s (pre ++ (ws.take k).flatMap bytes8).length ((pre ++ (ws.take k).flatMap bytes8).map (Value.int .u8)) ∧ Below B w wr ∧ B ≤ wr.heap.size) (fun _ y _ => n - (intOf y).toNat)
  case atStart => exact ⟨0, by omega, rfl, by simpa using unhide HO, Below.refl _ _, hB⟩
  case round =>
    obtain ⟨k, hk, rfl, hown, hbr, hBr⟩ := hrel
    by_cases hlt : k < n
    · have e1 : (k : Int) < (n : Int) := by omega
      have hck := (hbr.cell (p := ⟨b, off + k, none⟩) hbB).trans (unhide HC k hlt)
      have hwk := unhide HW k
      have HTK := hide (take_snoc ws k (by omega))
      have hlen : (pre ++ (ws.take k).flatMap bytes8).length ≤ 10000 + 8 * k := by
        have : ((ws.take k).flatMap bytes8).length = 8 * (ws.take k).length := by
          generalize ws.take k = t
          induction t with
          | nil => rfl
          | cons a t ih => simp [List.flatMap_cons, ih, bytes8]; omega
        rw [List.length_append, this, List.length_take]
        omega
      generalize hpn : pre ++ (ws.take k).flatMap bytes8 = pn at *
      generalize ws.getD k 0 = x at *
      have HBY := hide (fun W => bytes_any x W hwk.1 hwk.2)
      go_wp2_with (first | (go_at_call 112; refine (unhide HBY wr).mono ?_; rintro e w1 ⟨rfl, hb1⟩; have hown1 := hown.kept (w' := w1) (row := none) ⟨hb1.os, hb1.tape, hb1.output, hb1.size, fun k hk _ => hb1.block k hk⟩ (by cases hv : u3.ownBlock <;> simp); unfold aggB) | (at_builtin; refine wpList_append_own _ rfl _ _ 33 rfl B 5 i0 (.int .u8 0) 1 1 Fagg.underlying33 hi0 hz0 hz1 hz2 rfl (by decide) _ _ _ rfl (hown1.alloc _) ⟨w1.heap.size, 0, none⟩ 8 8 ((bytes8 x).map (Value.int .u8)) rfl rfl ?_ ?_ ?_ ?_ ?_ ?_))
      · exact bytes_new _ _
      · exact ints_oneCell _ _
      · unfold maxLen; omega
      · omega
      · have := hb1.size; simp; omega
      intro v1 w2 hown2 hg2 _
      have HO2 := hide hown2
      have HB2 := hide (((hbr.trans (hb1.mono hBr)).alloc (by have := hb1.size; omega) _).grown hg2 (by have := hb1.size; simp; omega) (fun q hq => (hown1.lt q hq).1))
      have hs2 := hg2.size
      have hs1 := hb1.size
      simp at hs2
      clear hown2 hg2 hown hown1 hb1
      go_wp2_with fail
      refine ⟨⟨k + 1, by omega, by go_num, ?_, unhide HB2, by omega⟩, by simp [intOf]; omega⟩
      rw [unhide HTK, List.flatMap_append, ← List.append_assoc, hpn]
      have e : [x].flatMap bytes8 = bytes8 x := by simp
      rw [e, List.map_append, List.length_append]
      exact unhide HO2
    · have e1 : ¬ (k : Int) < (n : Int) := by omega
      obtain rfl : k = n := by omega
      have HOW := hide hown
      clear hown
      go_wp2_with fail
      refine unhide HE _ _ _ _ _ _ _ _ _ _ _ _ _ wr hbr ?_
      have := unhide HOW
      rw [List.take_of_length_le (by omega)] at this
      exact this
end Go.Proofs.Ygcfag
