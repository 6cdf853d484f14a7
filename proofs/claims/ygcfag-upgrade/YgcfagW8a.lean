/-
  WALKS: the loop in which segwire.Open cuts the words into segments.
-/
import Derived.Test.YgcfagPlain4
import Derived.Test.YgcfagSub
import Derived.Deep.DeepCutAuto
namespace Go.Proofs.Ygcfag
open Go.RowKit
set_option linter.unusedVariables false
set_option linter.unusedSimpArgs false

/-- 'v' is a segment that reads 'xs', in a block behind g. -/
def Seg (w : World) (g : Nat) (v : Value) (xs : List Int) : Prop := ∃ ai ci, v = .slice ai xs.length ci ∧ xs.length ≤ ci ∧ Sl .u64 w ai xs ∧ ∀ x, ai = some x → g < x.block

/-- What is not in block g reads on while block g is written. -/
theorem Sl.grown {k : IntKind} {w w' : World} {a : Option Addr} {xs : List Int} {g : Nat} (h : Sl k w a xs) (hg : w.grownBy w' (some g)) (hne : ∀ x, a = some x → x.block ≠ g) : Sl k w' a xs := by
  rcases h with rfl | ⟨b, off, rfl, hc⟩
  · exact .inl rfl
  · refine .inr ⟨b, off, rfl, fun i hi => ?_⟩
    have hb := World.block_lt_of_cell? w _ (hc i hi)
    rw [World.cell?_of_block (a := ⟨b, off + i, none⟩) (hg.block b hb (by have := hne _ rfl; simpa using this))]
    exact hc i hi

theorem Sl.of_own {w : World} {base : Nat} {a : Option Addr} {n c : Nat} {xs : List Int} (h : w.ownsRow base 32 1 (.slice a n c) n (xs.map (Value.int .u64))) : n = xs.length ∧ n ≤ c ∧ Sl .u64 w a xs ∧ ∀ x, a = some x → base ≤ x.block := by
  have hl : xs.length = n := by have := h.1; simpa using this
  refine ⟨hl.symm, ?_, ?_, ?_⟩
  · rcases h.2 with ⟨h2, h3⟩ | ⟨g, cap, cur, h2, _, _, h3, _⟩
    · omega
    · simp at h2; omega
  · rcases h.2 with ⟨h2, h3⟩ | ⟨g, cap, cur, h2, hb, hh, h3, h4, h5, h6⟩
    · exact .inl (List.eq_nil_of_length_eq_zero (by omega))
    · simp at h2
      obtain ⟨rfl, rfl⟩ := h2
      refine .inr ⟨g, 0, rfl, fun i hi => ?_⟩
      have := h.cellAt i (by omega)
      rw [Nat.zero_add, this]
      simp [List.getD, hi]
  · intro x hx
    subst hx
    exact (h.lt x.block rfl).1

theorem Seg.grown {w w' : World} {g : Nat} {v : Value} {xs : List Int} (h : Seg w g v xs) (hg : w.grownBy w' (some g)) : Seg w' g v xs := by
  obtain ⟨ai, ci, rfl, hl, hs, hb⟩ := h
  exact ⟨ai, ci, rfl, hl, hs.grown hg (fun x hx => by have := hb x hx; omega), hb⟩
theorem Seg.below {w w' : World} {g : Nat} {v : Value} {xs : List Int} (h : Seg w g v xs) (hb : Below w.heap.size w w') : Seg w' g v xs := by
  obtain ⟨ai, ci, rfl, hl, hs, hx⟩ := h
  exact ⟨ai, ci, rfl, hl, hs.below hb, hx⟩

set_option maxHeartbeats 1000000 in
set_option maxRecDepth 100000 in
theorem open_loop {Q0 : Exit → Act → World → Prop} (gs ga g n cc : Nat) (l : List Nat) (all : List Int) (w : World) (hn : n ≤ 8) (hll : l.length = 8) (hsum : (l.take n).sum ≤ all.length) (hal : all.length ≤ 256) (hcc : all.length ≤ cc)
    (hgs : gs < g) (hga : ga < g) (HS : Hid (∀ j, j < 8 → w.cell? ⟨gs, j, none⟩ = some (.int .i64 (l.getD j 0 : Nat)))) (HA : Hid (∀ j, j < all.length → w.cell? ⟨ga, j, none⟩ = some (.int .u64 (all.getD j 0))))
    (hown : w.ownsRow g 44 1 (.slice (some ⟨g, 0, none⟩) n n) n (List.replicate n (.slice none 0 0)))
    (u0 u1 u2 u3 u4 u5 u7 u8 u11 u12 u13 u14 u15 u16 u17 u18 u19 u20 u21 u22 u23 u24 u25 u26 u27 u28 u29 u30 u31 u32 u33 u34 u35 u36 u37 u38 u39 u40 u41 u42 u43 u44 u45 u46 u47 u48 u49 u50 u51 u52 u53 u54 u55 u56 u57 u58 u59 u60 u61 u62 u63 u64 u65 u66 u67 u68 u69 u70 u71 u72 u73 u74 u75 u76 u77 u78 u79 u80 u83 u84 u85 u86 u87 u88 u89 u90 u91 u92 u93 u94 u95 u96 u97 u98 u99 u100 : Value)
    (hexit : ∀ (v9 v11 v82 v83 v84 v85 v86 v87 v88 v89 v90 v91 v92 v93 v94 v95 v96 v97 v98 v99 : Value) (wr : World) (cs : List Value), Below g w wr → wr.ownsRow g 44 1 (.slice (some ⟨g, 0, none⟩) n n) n cs → cs.length = n → (∀ i, i < n → Seg wr g (cs.getD i undef) ((cuts (l.take n) all).getD i [])) → Q0 (.exit 1) ⟨List.toArray (u0 :: u1 :: u2 :: u3 :: u4 :: u5 :: .pointer (some ⟨gs, 0, none⟩) :: u7 :: u8 :: v9 :: .slice (some ⟨g, 0, none⟩) n n :: v11 :: u12 :: u13 :: u14 :: u15 :: u16 :: u17 :: u18 :: u19 :: u20 :: u21 :: u22 :: u23 :: u24 :: u25 :: u26 :: u27 :: u28 :: u29 :: u30 :: u31 :: u32 :: u33 :: u34 :: u35 :: u36 :: u37 :: u38 :: u39 :: u40 :: u41 :: u42 :: u43 :: u44 :: u45 :: u46 :: u47 :: u48 :: u49 :: u50 :: u51 :: u52 :: u53 :: u54 :: u55 :: u56 :: u57 :: u58 :: u59 :: u60 :: u61 :: u62 :: u63 :: u64 :: u65 :: u66 :: u67 :: u68 :: u69 :: u70 :: u71 :: u72 :: u73 :: u74 :: u75 :: u76 :: u77 :: u78 :: u79 :: u80 :: .int .i64 (n : Int) :: v82 :: v83 :: v84 :: v85 :: v86 :: v87 :: v88 :: v89 :: v90 :: v91 :: v92 :: v93 :: v94 :: v95 :: v96 :: v97 :: v98 :: v99 :: u100 :: []), []⟩ wr) :
    Code.wp Fagg.prog (bodyAt Fagg.f52 [1, 1, 1, 1, 1, 1, 1, 1, 0, 1, 0]) Q0 ⟨List.toArray (u0 :: u1 :: u2 :: u3 :: u4 :: u5 :: .pointer (some ⟨gs, 0, none⟩) :: u7 :: u8 :: .slice (some ⟨ga, 0, none⟩) all.length cc :: .slice (some ⟨g, 0, none⟩) n n :: u11 :: u12 :: u13 :: u14 :: u15 :: u16 :: u17 :: u18 :: u19 :: u20 :: u21 :: u22 :: u23 :: u24 :: u25 :: u26 :: u27 :: u28 :: u29 :: u30 :: u31 :: u32 :: u33 :: u34 :: u35 :: u36 :: u37 :: u38 :: u39 :: u40 :: u41 :: u42 :: u43 :: u44 :: u45 :: u46 :: u47 :: u48 :: u49 :: u50 :: u51 :: u52 :: u53 :: u54 :: u55 :: u56 :: u57 :: u58 :: u59 :: u60 :: u61 :: u62 :: u63 :: u64 :: u65 :: u66 :: u67 :: u68 :: u69 :: u70 :: u71 :: u72 :: u73 :: u74 :: u75 :: u76 :: u77 :: u78 :: u79 :: u80 :: .int .i64 (n : Int) :: .int .i64 0 :: u83 :: u84 :: u85 :: u86 :: u87 :: u88 :: u89 :: u90 :: u91 :: u92 :: u93 :: u94 :: u95 :: u96 :: u97 :: u98 :: u99 :: u100 :: []), []⟩ w := by
  conv => arg 2; whnf
  have HE := hide hexit
  have HO := hide hown
  clear hexit hown
  obtain ⟨i0, hi0, hz0, hz1, hz2⟩ := info_parts info32
  go_loopw [9, 82] (fun x y wr => ∃ (k o c : Nat) (rem : List Int) (cs : List Value), k ≤ n ∧ rem.length ≤ c ∧ rem.length ≤ 256 ∧ Hid (rem = all.drop (l.take k).sum) ∧ x = .slice (some ⟨ga, o, none⟩) rem.length c ∧ y = .int .i64 (k : Int) ∧
      Hid (∀ j, j < rem.length → wr.cell? ⟨ga, o + j, none⟩ = some (.int .u64 (rem.getD j 0))) ∧ Hid (wr.ownsRow g 44 1 (.slice (some ⟨g, 0, none⟩) n n) n cs) ∧ cs.length = n ∧ Hid (∀ i, i < k → Seg wr g (cs.getD i undef) ((cuts (l.take k) all).getD i [])) ∧ Below g w wr) (fun _ y _ => n - (intOf y).toNat)
  case atStart => exact ⟨0, 0, cc, all, List.replicate n (.slice none 0 0), by omega, hcc, hal, by simp [Hid], rfl, rfl, (fun j hj => by rw [Nat.zero_add]; exact unhide HA j hj), HO, by simp, (fun i hi => by omega), Below.refl _ _⟩
  case round =>
    obtain ⟨k, o, c, rem, cs, hk, hrc, hr256, HR, rfl, rfl, HRC, HOW, hcl, HSG, hbr⟩ := hrel
    by_cases hlt : k < n
    · have hlt' : (k : Int) < (n : Int) := by omega
      have hck := (hbr.cell (p := ⟨gs, k, none⟩) hgs).trans (unhide HS k (by omega))
      have hsz : l.getD k 0 ≤ rem.length := by
        have h1 := sum_take_succ l k (by omega)
        have h2 := sum_take_le (l.take n) (k + 1)
        rw [List.take_take, show min (k + 1) n = k + 1 by omega] at h2
        rw [unhide HR, List.length_drop]
        omega
      generalize hz : l.getD k 0 = z at *
      have HZ := hide hz
      have hgk := (unhide HOW).cellAt k (by omega)
      obtain ⟨x0, hx0⟩ : ∃ x, cs[k]? = some x := ⟨cs[k], by simp [hcl, hlt]⟩
      rw [hx0] at hgk
      have hgf := (unhide HOW).frozenAt k
      have hgw := World.block_lt_of_cell? wr _ hgk
      simp only at hgw
      clear hz
      go_wp2_with (at_builtin; refine wpList_append_own _ rfl _ _ 44 rfl (g + 1) 32 i0 (.int .u64 0) 1 8 Fagg.underlying44 hi0 hz0 hz1 hz2 rfl (by decide) _ _ _ rfl (World.ownsRow_nil _ _ _ _) ⟨ga, o, none⟩ z c ((rem.take z).map (Value.int .u64)) ?_ ?_ ?_ ?_ ?_ ?_ ?_ ?_)
      · first | rfl | simp
      · simp; omega
      · intro j u hu
        have hj : j < z := by have := (List.getElem?_eq_some_iff.1 hu).1; simp at this; omega
        rw [Addr.add_lit, unhide HRC j (by omega)]
        rw [← hu]
        simp [List.getD, hj, show j < rem.length by omega]
      · exact ints_oneCell _ _
      · unfold maxLen; omega
      · omega
      · omega
      · intro v1 w1 ho1 hg1 _
        obtain ⟨a1, c1, rfl⟩ := own_form ho1
        have hb1 : Below wr.heap.size wr w1 := (Below.refl _ _).grown hg1 (Nat.le_refl _) (by simp [Value.ownBlock])
        have hgk1 := (hb1.cell (p := ⟨g, k, none⟩) hgw).trans hgk
        have hgf1 := (hb1.frozen (p := ⟨g, k, none⟩) hgw).trans hgf
        have how1 : w1.ownsRow g 44 1 (.slice (some ⟨g, 0, none⟩) n n) n cs := (unhide HOW).kept hg1 (.inr (by simp [Value.ownBlock]))
        have hst := how1.stored k (.slice a1 z c1)
        have hck2 : (w1.setCell ⟨g, k, none⟩ (.slice a1 z c1)).cell? ⟨gs, k, none⟩ = some (.int .i64 (z : Int)) := by
          rw [World.cell?_setCell_other _ _ _ _ (by simp <;> omega)]
          exact (hb1.cell (p := ⟨gs, k, none⟩) (by simp; omega)).trans hck
        have hcr2 : ∀ j, j < rem.length → (w1.setCell ⟨g, k, none⟩ (.slice a1 z c1)).cell? ⟨ga, o + j, none⟩ = some (.int .u64 (rem.getD j 0)) := fun j hj => by
          rw [World.cell?_setCell_other _ _ _ _ (by simp <;> omega)]
          exact (hb1.cell (p := ⟨ga, o + j, none⟩) (by simp; omega)).trans (unhide HRC j hj)
        have hown2 : w1.ownsRow (g + 1) 32 1 (.slice a1 z c1) z ((rem.take z).map (Value.int .u64)) := by rw [List.map_take]; exact ho1
        obtain ⟨hsl1, hsl2, hsl3, hsl4⟩ := Sl.of_own hown2
        have hseg1 : Seg w1 g (.slice a1 z c1) (rem.take z) := ⟨a1, c1, by rw [← hsl1], by omega, hsl3, fun x hx => by have := hsl4 x hx; omega⟩
        have hseg : ∀ i, i < k + 1 → Seg (w1.setCell ⟨g, k, none⟩ (.slice a1 z c1)) g ((cs.set k (.slice a1 z c1)).getD i undef) ((cuts (l.take (k + 1)) all).getD i []) := by
          intro i hi
          rw [take_snocN l k (by omega), cuts_snoc, ← unhide HR, unhide HZ]
          have hcl2 : (cuts (l.take k) all).length = k := by rw [cuts_length]; simp; omega
          by_cases hik : i = k
          · subst hik
            have e1 : (cs.set i (.slice a1 z c1)).getD i undef = .slice a1 z c1 := by simp [List.getD, hcl, hlt]
            have e2 : (cuts (l.take i) all ++ [rem.take z]).getD i [] = rem.take z := by
              rw [List.getD_eq_getElem?_getD, List.getElem?_append_right (by omega), hcl2]; simp
            rw [e1, e2]
            exact hseg1.grown hst.2
          · have e1 : (cs.set k (.slice a1 z c1)).getD i undef = cs.getD i undef := by simp [List.getD, List.getElem?_set_ne (Ne.symm hik)]
            have e2 : (cuts (l.take k) all ++ [rem.take z]).getD i [] = (cuts (l.take k) all).getD i [] := by
              rw [List.getD_eq_getElem?_getD, List.getElem?_append_left (by omega), List.getD_eq_getElem?_getD]
            rw [e1, e2]
            exact ((unhide HSG i (by omega)).below hb1).grown hst.2
        have HSEG := hide hseg
        have HCR2 := hide hcr2
        have HST := hide hst
        have HBEL := hide ((hbr.trans (hb1.mono (by omega))).setCell (p := ⟨g, k, none⟩) (Nat.le_refl _) (.slice a1 z c1))
        clear hseg hseg1 hsl1 hsl2 hsl3 hsl4 hown2 hcr2 hst how1 hb1 ho1 hg1 hgk hgf hck
        have hzc : (z : Int) ≤ (rem.length : Int) := by omega
        by_cases hcz : c = z
        · have HCZ := hide hcz
          have hcz2 : (c = z) = True := by simp [hcz]
          clear hcz
          go_wp2_with fail
          refine ⟨⟨k + 1, o, c - z, rem.drop z, cs.set k (.slice a1 z c1), by omega, by simp; omega, by simp; omega, ?_, by simp, by go_num, ?_, ?_, by simp [hcl], ?_, ?_⟩, by simp [intOf]; omega⟩
          · show _ = _
            rw [unhide HR, List.drop_drop, ← sum_take_succ l k (by omega), unhide HZ]
          · intro j hj
            simp only [List.length_drop] at hj
            have := unhide HCZ; omega
          · exact (unhide HST).1
          · exact unhide HSEG
          · exact unhide HBEL
        · have hcz2 : (c = z) = False := by simp [hcz]
          go_wp2_with fail
          refine ⟨⟨k + 1, o + z, c - z, rem.drop z, cs.set k (.slice a1 z c1), by omega, by simp; omega, by simp; omega, ?_, by simp, by go_num, ?_, ?_, by simp [hcl], ?_, ?_⟩, by simp [intOf]; omega⟩
          · show _ = _
            rw [unhide HR, List.drop_drop, ← sum_take_succ l k (by omega), unhide HZ]
          · intro j hj
            simp only [List.length_drop] at hj
            have := unhide HCR2 (z + j) (by omega)
            rw [Nat.add_assoc, this]
            simp [List.getD]
          · exact (unhide HST).1
          · exact unhide HSEG
          · exact unhide HBEL
    · have hlt' : ¬ (k : Int) < (n : Int) := by omega
      obtain rfl : k = n := by omega
      go_wp2_with fail
      exact unhide HE _ _ _ _ _ _ _ _ _ _ _ _ _ _ _ _ _ _ _ _ wr cs hbr (unhide HOW) hcl (unhide HSG)
end Go.Proofs.Ygcfag
