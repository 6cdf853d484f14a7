/-
  WALKS: the loop in which law.ownSegCode copies the words into the segments.
-/
import Derived.Test.YgcfagPlain5
import Derived.Test.YgcfagSub
import Derived.Deep.DeepCutAuto
import Derived.Laws.CopyOwn

namespace Go.Proofs.Ygcfag
open Go.RowKit
set_option linter.unusedVariables false
set_option linter.unusedSimpArgs false

/-- A row of len words of the call's own, whatever it holds. -/
def Fresh (w : World) (g len : Nat) : Prop := ∃ cur : Array Value, w.heap[g]? = some (.cells cur 32 (0, 0)) ∧ cur.size = len

theorem sz32 : (Fagg.prog.info? 32).map (·.size) = some 1 := by kernel_rfl

/-- A block that is another one reads on. -/
theorem cell_setRow_other (w : World) (g b o : Nat) (cs : Array Value) (h : b ≠ g) : (w.setRow g cs).cell? ⟨b, o, none⟩ = w.cell? ⟨b, o, none⟩ :=
  World.cell?_of_block (w := w) (a := ⟨b, o, none⟩) (setRow_other w g b cs h)

theorem cell_setRow_same (w : World) (g o : Nat) (old cs : Array Value) (hg : w.heap[g]? = some (.cells old 32 (0, 0))) : (w.setRow g cs).cell? ⟨g, o, none⟩ = cs[o]? := by
  simp [World.cell?, setRow_heap w g old cs 32 (0, 0) hg]

/-- A whole row of the call's own is copied over. -/
theorem wpList_copy_all {P : Program} {w : World} {ops : Array Oper} {rest : List Oper} {o : Oper} {a : Act} {Q : Exit → Act → World → Prop} (hgd : o.guard = none) (d s : Operand) (dT sT : TypeId)
    (ho : o.op = .call { callee := .builtin .copy, args := #[d, s], argTypes := #[dT, sT] }) (elem : TypeId) (hu : P.underlying dT = some (.slice elem)) (hsz : (P.info? elem).map (·.size) = some 1)
    (g z dCap : Nat) (ad : Addr) (sLen sCap : Nat) (hd : a.eval d = .slice (some ⟨g, 0, none⟩) z dCap) (hs : a.eval s = .slice (some ad) sLen sCap)
    (cur : Array Value) (t : TypeId) (hg : w.heap[g]? = some (.cells cur t (0, 0))) (hcz : cur.size = z) (cs : List Value) (hn : cs.length = z) (hle : z ≤ sLen)
    (hsrc : ∀ j v, cs[j]? = some v → w.cell? (ad.add j) = some v) (h1 : ∀ v ∈ cs, v.oneCell' = true)
    (h : ∀ w', Hid (w' = w.setRow g cs.toArray) → wpList P ops Q rest (a.put o.dst (goInt z)) w') : wpList P ops Q (o :: rest) a w := by
  refine wpList_copy_own hgd d s dT sT ho elem hu hsz g 0 z dCap ad sLen sCap hd hs cur t hg cs (by rw [hn]; exact (Nat.min_eq_right hle).symm) hsrc (by omega) h1 ?_
  have e : (cur.toList.take 0 ++ (cs ++ cur.toList.drop (0 + cs.length))).toArray = cs.toArray := by
    rw [List.take_zero, List.nil_append, List.drop_of_length_le (by simp; omega), List.append_nil]
  rw [e, hn]
  exact h _ rfl

set_option maxHeartbeats 1000000 in
set_option maxRecDepth 100000 in
theorem own_loop3 {Q0 : Exit → Act → World → Prop} (B0 g ga n cm cc : Nat) (gf : Nat → Nat) (lens : List Nat) (all : List Int) (w : World) (hn : lens.length = n) (hn8 : n ≤ 8) (hsum : lens.sum ≤ all.length) (hal : all.length ≤ 256) (hcc : all.length ≤ cc)
    (hB : ∀ i, B0 ≤ gf i) (hgg : ∀ i, gf i ≠ g) (hga : ∀ i, i < n → gf i ≠ ga) (hinc : ∀ i j, i < j → j < n → gf i ≠ gf j)
    (hcell : ∀ i, i < n → w.cell? ⟨g, i, none⟩ = some (.slice (some ⟨gf i, 0, none⟩) (lens.getD i 0) (lens.getD i 0))) (hfresh : ∀ i, i < n → Fresh w (gf i) (lens.getD i 0))
    (hcells : ∀ j, j < all.length → w.cell? ⟨ga, j, none⟩ = some (.int .u64 (all.getD j 0)))
    (u0 u1 u2 u3 u4 u5 u6 u8 u9 u10 u11 u13 u14 u15 u16 u17 u18 u19 u20 u21 u22 u23 u24 u25 u26 u27 u28 u29 u30 u31 u32 u33 u34 u35 u36 u37 u38 u39 u40 u41 u42 u43 u44 u45 u46 u47 u48 u49 u50 u51 u52 u53 u54 u55 u56 u57 u58 u59 u60 u61 u62 u63 u64 u65 u66 u67 u68 u69 u70 u71 u72 u73 u74 u75 u76 u77 u78 u79 u80 u81 u82 u83 u84 u85 u86 u87 u88 u89 u90 u91 u92 u93 u94 u95 u96 u97 u98 u99 u100 u101 u102 u103 u104 u105 u106 u107 u108 u109 u110 u111 u112 u113 u114 u115 u116 u117 u118 u119 u120 u121 u122 u123 u124 u127 u128 u129 u130 u131 u132 u133 u134 u135 u136 u137 u138 u139 u140 u141 u142 u143 : Value)
    (hexit : ∀ (v12 v16 v126 v127 v128 v129 v130 v131 v132 v133 v134 v135 v136 v137 v138 v139 v140 v141 v142 : Value) (wr : World), Below B0 w wr → (∀ i, i < n → wr.cell? ⟨g, i, none⟩ = some (.slice (some ⟨gf i, 0, none⟩) (lens.getD i 0) (lens.getD i 0))) → (∀ i, i < n → Sl .u64 wr (some ⟨gf i, 0, none⟩) ((cuts lens all).getD i [])) → Q0 (.exit 5) ⟨List.toArray (u0 :: u1 :: u2 :: u3 :: u4 :: u5 :: u6 :: .slice (some ⟨g, 0, none⟩) n cm :: u8 :: u9 :: u10 :: u11 :: v12 :: u13 :: u14 :: u15 :: v16 :: u17 :: u18 :: u19 :: u20 :: u21 :: u22 :: u23 :: u24 :: u25 :: u26 :: u27 :: u28 :: u29 :: u30 :: u31 :: u32 :: u33 :: u34 :: u35 :: u36 :: u37 :: u38 :: u39 :: u40 :: u41 :: u42 :: u43 :: u44 :: u45 :: u46 :: u47 :: u48 :: u49 :: u50 :: u51 :: u52 :: u53 :: u54 :: u55 :: u56 :: u57 :: u58 :: u59 :: u60 :: u61 :: u62 :: u63 :: u64 :: u65 :: u66 :: u67 :: u68 :: u69 :: u70 :: u71 :: u72 :: u73 :: u74 :: u75 :: u76 :: u77 :: u78 :: u79 :: u80 :: u81 :: u82 :: u83 :: u84 :: u85 :: u86 :: u87 :: u88 :: u89 :: u90 :: u91 :: u92 :: u93 :: u94 :: u95 :: u96 :: u97 :: u98 :: u99 :: u100 :: u101 :: u102 :: u103 :: u104 :: u105 :: u106 :: u107 :: u108 :: u109 :: u110 :: u111 :: u112 :: u113 :: u114 :: u115 :: u116 :: u117 :: u118 :: u119 :: u120 :: u121 :: u122 :: u123 :: u124 :: .int .i64 (n : Int) :: v126 :: v127 :: v128 :: v129 :: v130 :: v131 :: v132 :: v133 :: v134 :: v135 :: v136 :: v137 :: v138 :: v139 :: v140 :: v141 :: v142 :: u143 :: []), []⟩ wr) :
    Code.wp Fagg.prog (bodyAt Fagg.f54 [1, 1, 1, 1, 1, 1, 1, 1, 1, 1, 1, 1, 1, 0, 1, 0]) Q0 ⟨List.toArray (u0 :: u1 :: u2 :: u3 :: u4 :: u5 :: u6 :: .slice (some ⟨g, 0, none⟩) n cm :: u8 :: u9 :: u10 :: u11 :: .slice (some ⟨ga, 0, none⟩) all.length cc :: u13 :: u14 :: u15 :: u16 :: u17 :: u18 :: u19 :: u20 :: u21 :: u22 :: u23 :: u24 :: u25 :: u26 :: u27 :: u28 :: u29 :: u30 :: u31 :: u32 :: u33 :: u34 :: u35 :: u36 :: u37 :: u38 :: u39 :: u40 :: u41 :: u42 :: u43 :: u44 :: u45 :: u46 :: u47 :: u48 :: u49 :: u50 :: u51 :: u52 :: u53 :: u54 :: u55 :: u56 :: u57 :: u58 :: u59 :: u60 :: u61 :: u62 :: u63 :: u64 :: u65 :: u66 :: u67 :: u68 :: u69 :: u70 :: u71 :: u72 :: u73 :: u74 :: u75 :: u76 :: u77 :: u78 :: u79 :: u80 :: u81 :: u82 :: u83 :: u84 :: u85 :: u86 :: u87 :: u88 :: u89 :: u90 :: u91 :: u92 :: u93 :: u94 :: u95 :: u96 :: u97 :: u98 :: u99 :: u100 :: u101 :: u102 :: u103 :: u104 :: u105 :: u106 :: u107 :: u108 :: u109 :: u110 :: u111 :: u112 :: u113 :: u114 :: u115 :: u116 :: u117 :: u118 :: u119 :: u120 :: u121 :: u122 :: u123 :: u124 :: .int .i64 (n : Int) :: .int .i64 0 :: u127 :: u128 :: u129 :: u130 :: u131 :: u132 :: u133 :: u134 :: u135 :: u136 :: u137 :: u138 :: u139 :: u140 :: u141 :: u142 :: u143 :: []), []⟩ w := by
  conv => arg 2; whnf
  have HE := hide hexit
  have HC := hide hcell
  have HF := hide hfresh
  have HW := hide hcells
  have HB := hide hB
  have HGG := hide hgg
  have HGA := hide hga
  have HINC := hide hinc
  clear hexit hcell hfresh hcells hB hgg hga hinc
  go_loopw [12, 126] (fun x y wr => ∃ (k o c : Nat) (rem : List Int), k ≤ n ∧ rem.length ≤ c ∧ rem.length ≤ 256 ∧ Hid (rem = all.drop (lens.take k).sum) ∧ x = .slice (some ⟨ga, o, none⟩) rem.length c ∧ y = .int .i64 (k : Int) ∧
      Hid (∀ j, j < rem.length → wr.cell? ⟨ga, o + j, none⟩ = some (.int .u64 (rem.getD j 0))) ∧ Hid (∀ i, i < n → wr.cell? ⟨g, i, none⟩ = some (.slice (some ⟨gf i, 0, none⟩) (lens.getD i 0) (lens.getD i 0))) ∧
      Hid (∀ i, i < k → Sl .u64 wr (some ⟨gf i, 0, none⟩) ((cuts lens all).getD i [])) ∧ Hid (∀ i, k ≤ i → i < n → Fresh wr (gf i) (lens.getD i 0)) ∧ Below B0 w wr) (fun _ y _ => n - (intOf y).toNat)
  case atStart => exact ⟨0, 0, cc, all, by omega, hcc, hal, by simp [Hid], rfl, rfl, (fun j hj => by rw [Nat.zero_add]; exact unhide HW j hj), HC, (fun i hi => by omega), (fun i _ hi => unhide HF i hi), Below.refl _ _⟩
  case round =>
    obtain ⟨k, o, c, rem, hk, hrc, hr256, HR, rfl, rfl, HRC, HCC, HSG, HFR, hbr⟩ := hrel
    by_cases hlt : k < n
    · have hlt' : (k : Int) < (n : Int) := by omega
      have hck := unhide HCC k hlt
      have hsz : lens.getD k 0 ≤ rem.length := by
        have h1 := sum_take_succ lens k (by omega)
        have h2 := sum_take_le lens (k + 1)
        rw [unhide HR, List.length_drop]
        omega
      obtain ⟨cur, hcur, hcsz⟩ := unhide HFR k (Nat.le_refl _) hlt
      have hgkg := unhide HGG k
      have hgka := unhide HGA k hlt
      generalize hz : lens.getD k 0 = z at *
      have HZ := hide hz
      generalize hgk : gf k = gk at *
      have HGK := hide hgk
      have hmin : min rem.length z = z := by omega
      clear hz hgk
      go_wp2_with (refine wpList_copy_all rfl _ _ 44 44 rfl 32 Fagg.underlying44 sz32 gk z z ⟨ga, o, none⟩ rem.length c rfl rfl cur 32 hcur hcsz ((rem.take z).map (Value.int .u64)) ?_ ?_ ?_ ?_ ?_)
      · simp; omega
      · exact hsz
      · intro j u hu
        have hj : j < z := by have := (List.getElem?_eq_some_iff.1 hu).1; simp at this; omega
        rw [Addr.add_lit, unhide HRC j (by omega)]
        rw [← hu]
        simp [List.getD, hj, show j < rem.length by omega]
      · exact ints_oneCell _ _
      · intro w2 HW2
        have hw2 := unhide HW2
        have hck2 : w2.cell? ⟨g, k, none⟩ = some (.slice (some ⟨gk, 0, none⟩) z z) := by
          rw [hw2, cell_setRow_other _ _ _ _ _ (by omega)]; exact hck
        have HC2 : Hid (∀ i, i < n → w2.cell? ⟨g, i, none⟩ = some (.slice (some ⟨gf i, 0, none⟩) (lens.getD i 0) (lens.getD i 0))) := fun i hi => by
          rw [hw2, cell_setRow_other _ _ _ _ _ (by omega)]; exact unhide HCC i hi
        have HRC2 : Hid (∀ j, j < rem.length → w2.cell? ⟨ga, o + j, none⟩ = some (.int .u64 (rem.getD j 0))) := fun j hj => by
          rw [hw2, cell_setRow_other _ _ _ _ _ (by omega)]; exact unhide HRC j hj
        have HB2 : Below B0 w w2 := by rw [hw2]; exact below_setRow hbr (by have := unhide HB k; rw [unhide HGK] at this; exact this) _
        have HS2 : Hid (∀ i, i < k + 1 → Sl .u64 w2 (some ⟨gf i, 0, none⟩) ((cuts lens all).getD i [])) := fun i hi => by
          by_cases hik : i = k
          · subst hik
            rw [cuts_getD lens all i (by omega), ← unhide HR, unhide HZ, unhide HGK]
            refine .inr ⟨gk, 0, rfl, fun j hj => ?_⟩
            rw [hw2, Nat.zero_add, cell_setRow_same _ _ _ cur _ hcur]
            simp only [List.length_take] at hj
            simp [List.getD, show j < z by omega, show j < rem.length by omega]
          · rcases unhide HSG i (by omega) with h | ⟨b', o', hb', hc'⟩
            · exact .inl h
            · refine .inr ⟨b', o', hb', fun j hj => ?_⟩
              simp at hb'
              have hne := unhide HINC i k (by omega) hlt
              rw [unhide HGK] at hne
              rw [hw2, cell_setRow_other _ _ _ _ _ (by omega)]; exact hc' j hj
        have HF2 : Hid (∀ i, k + 1 ≤ i → i < n → Fresh w2 (gf i) (lens.getD i 0)) := fun i h1 h2 => by
          obtain ⟨cur', hc1, hc2⟩ := unhide HFR i (by omega) h2
          have hne := unhide HINC k i (by omega) h2
          rw [unhide HGK] at hne
          exact ⟨cur', by rw [hw2, setRow_other _ _ _ _ (by omega)]; exact hc1, hc2⟩
        clear hw2 HW2 hcur hck hgkg hgka
        by_cases hcz : c = z
        · have HCZ := hide hcz
          have hcz2 : (c = z) = True := by simp [hcz]
          clear hcz
          go_wp2_with fail
          refine ⟨⟨k + 1, o, c - z, rem.drop z, by omega, by simp; omega, by simp; omega, ?_, by simp, by go_num, ?_, HC2, HS2, HF2, HB2⟩, by simp [intOf]; omega⟩
          · show _ = _
            rw [unhide HR, List.drop_drop, ← sum_take_succ lens k (by omega), unhide HZ]
          · intro j hj
            simp only [List.length_drop] at hj
            have := unhide HCZ; omega
        · have hcz2 : (c = z) = False := by simp [hcz]
          go_wp2_with fail
          refine ⟨⟨k + 1, o + z, c - z, rem.drop z, by omega, by simp; omega, by simp; omega, ?_, by simp, by go_num, ?_, HC2, HS2, HF2, HB2⟩, by simp [intOf]; omega⟩
          · show _ = _
            rw [unhide HR, List.drop_drop, ← sum_take_succ lens k (by omega), unhide HZ]
          · intro j hj
            simp only [List.length_drop] at hj
            have := unhide HRC2 (z + j) (by omega)
            rw [Nat.add_assoc, this]
            simp [List.getD]
    · have hlt' : ¬ (k : Int) < (n : Int) := by omega
      obtain rfl : k = n := by omega
      go_wp2_with fail
      exact unhide HE _ _ _ _ _ _ _ _ _ _ _ _ _ _ _ _ _ _ _ wr hbr (unhide HCC) (unhide HSG)
end Go.Proofs.Ygcfag
