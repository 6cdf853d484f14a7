/-
  WALKS: the loop in which law.ownSegCode reads the table.
-/
import Derived.Test.YgcfagW10a
import Derived.Test.YgcfagW1
import Derived.Test.YgcfagW7
namespace Go.Proofs.Ygcfag
open Go.RowKit
set_option linter.unusedVariables false
set_option linter.unusedSimpArgs false

/-- The rows that the segments lead to: each its own block, one behind the other. -/
def Rows3 (w : World) (B0 : Nat) (cs : List Value) (lens : List Nat) : Prop :=
  ∃ gf : Nat → Nat, (∀ i, i < lens.length → cs.getD i undef = .slice (some ⟨gf i, 0, none⟩) (min (lens.getD i 0) 300) (min (lens.getD i 0) 300) ∧ Fresh w (gf i) (min (lens.getD i 0) 300) ∧ B0 ≤ gf i) ∧ (∀ i j, i < j → j < lens.length → gf i < gf j)

theorem fresh_of {w : World} {base g n : Nat} {xs : List Value} (h : w.ownsRow base 32 1 (.slice (some ⟨g, 0, none⟩) n n) n xs) : Fresh w g n := by
  rcases h.2 with ⟨h', _⟩ | ⟨g', cap, cur, h', _, hg, _, _, hs, _⟩
  · simp at h'
  · simp at h'
    obtain ⟨rfl, rfl⟩ := h'
    exact ⟨cur, hg, by omega⟩

theorem Fresh.lt {w : World} {g n : Nat} (h : Fresh w g n) : g < w.heap.size := by obtain ⟨cur, h1, _⟩ := h; exact (Array.getElem?_eq_some_iff.1 h1).1
theorem Fresh.block {w w' : World} {g n : Nat} (h : Fresh w g n) (hb : w'.heap[g]? = w.heap[g]?) : Fresh w' g n := by obtain ⟨cur, h1, h2⟩ := h; exact ⟨cur, hb.trans h1, h2⟩

/-- A row of words is no row of slices. -/
theorem Fresh.ne {w : World} {base g len n : Nat} {v : Value} {cs : List Value} (h : Fresh w g len) (ho : w.ownsRow base 44 1 v n cs) : some g ≠ v.ownBlock := by
  obtain ⟨cur, h1, _⟩ := h
  rcases ho.2 with ⟨rfl, _⟩ | ⟨g', cap, cur', rfl, _, hg, _⟩
  · simp [Value.ownBlock]
  · intro e
    simp [Value.ownBlock] at e
    subst e
    rw [h1] at hg
    simp at hg

/-- A new row, appended. -/
theorem rows_push {wr w1 w2 : World} {B0 q : Nat} {x : Value} {cs : List Value} {lens : List Nat} {E : Nat} {o : Obj} (hrows : Rows3 wr B0 cs lens) (hB : B0 ≤ wr.heap.size) (hq : q = min E 300)
    (hb1 : Below wr.heap.size wr w1) (hfr1 : Fresh w1 wr.heap.size q) (hown1 : w1.ownsRow B0 44 1 x lens.length cs)
    (hg2 : (w1.alloc o).grownBy w2 x.ownBlock) : Rows3 w2 B0 (cs ++ [.slice (some ⟨wr.heap.size, 0, none⟩) q q]) (lens ++ [E]) := by
  obtain ⟨gf, h1, h2⟩ := hrows
  have hlt1 := hfr1.lt
  have hcl : cs.length = lens.length := by have := hown1.1; simpa using this
  have keep : ∀ g len, Fresh w1 g len → Fresh w2 g len := fun g len h => h.block (by
    rw [hg2.block _ (by have := h.lt; simp; omega) (h.ne hown1)]
    exact Below.heap_alloc _ _ _ h.lt)
  refine ⟨fun i => if i = lens.length then wr.heap.size else gf i, fun i hi => ?_, fun i j hij hj => ?_⟩
  · simp only [List.length_append, List.length_cons, List.length_nil] at hi
    by_cases hil : i = lens.length
    · subst hil
      simp only [if_true]
      have e1 : (cs ++ [Value.slice (some ⟨wr.heap.size, 0, none⟩) q q]).getD lens.length undef = .slice (some ⟨wr.heap.size, 0, none⟩) q q := by
        rw [List.getD_eq_getElem?_getD, List.getElem?_append_right (by omega)]; simp [hcl]
      have e2 : (lens ++ [E]).getD lens.length 0 = E := by rw [List.getD_eq_getElem?_getD, List.getElem?_append_right (by omega)]; simp
      rw [e1, e2, ← hq]
      exact ⟨rfl, keep _ _ hfr1, hB⟩
    · obtain ⟨g1, g2, g3⟩ := h1 i (by omega)
      have hlt := g2.lt
      simp only [if_neg hil]
      have e1 : (cs ++ [Value.slice (some ⟨wr.heap.size, 0, none⟩) q q]).getD i undef = cs.getD i undef := by
        rw [List.getD_eq_getElem?_getD, List.getElem?_append_left (by omega), List.getD_eq_getElem?_getD]
      have e2 : (lens ++ [E]).getD i 0 = lens.getD i 0 := by rw [List.getD_eq_getElem?_getD, List.getElem?_append_left (by omega), List.getD_eq_getElem?_getD]
      rw [e1, e2]
      exact ⟨g1, keep _ _ (g2.block (hb1.block _ hlt)), g3⟩
  · simp only [List.length_append, List.length_cons, List.length_nil] at hj
    show (if i = lens.length then wr.heap.size else gf i) < (if j = lens.length then wr.heap.size else gf j)
    by_cases hjl : j = lens.length
    · rw [if_pos hjl, if_neg (by omega)]
      exact (h1 i (by omega)).2.1.lt
    · rw [if_neg hjl, if_neg (by omega)]
      exact h2 i j hij (by omega)

set_option maxHeartbeats 1000000 in
set_option maxRecDepth 100000 in
theorem own_loop1 {Q0 : Exit → Act → World → Prop} (a : Option Addr) (n c : Nat) (xs : List Int) (f : Nat → Nat) (w : World) (hs : Sl .u8 w a xs) (hn : xs.length = n) (hn32 : 32 ≤ n) (hn4 : n ≤ 5000) (hx : Bys xs) (hf : ∀ k, k < 8 → (f k : Int) = le ((xs.drop (16 + 2 * k)).take 2)) (hf2 : ∀ k, k < 8 → f k ≤ 65535)
    (u1 u4 u5 u6 u11 u12 u13 u14 u15 u16 u17 u18 u19 u20 u21 u22 u23 u24 u25 u26 u27 u28 u29 u30 u31 u32 u33 u34 u35 u36 u37 u38 u39 u40 u41 u42 u43 u44 u45 u46 u47 u48 u49 u50 u51 u52 u53 u54 u55 u56 u57 u58 u59 u60 u61 u62 u63 u64 u65 u66 u67 u68 u69 u70 u71 u72 u73 u74 u75 u76 u77 u78 u79 u80 u81 u82 u83 u84 u85 u86 u87 u88 u89 u90 u91 u92 u93 u94 u95 u96 u97 u98 u99 u100 u101 u102 u103 u104 u105 u106 u107 u108 u109 u110 u111 u112 u113 u114 u115 u116 u117 u118 u119 u120 u121 u122 u123 u124 u125 u126 u127 u128 u129 u130 u131 u132 u133 u134 u135 u136 u137 u138 u139 u140 u141 u142 u143 : Value)
    (hret : ∀ (v7 v8 v9 v10 v11 v50 v51 v52 v53 v54 v55 v56 v57 v58 v59 v60 v61 v62 v63 v64 v65 v66 v67 v68 v69 v70 v71 v72 v73 v74 v75 v76 v77 v78 v79 v80 v81 v82 v83 v84 v85 v86 v87 : Value) (wr : World), ownTab f 8 = none → Below w.heap.size w wr → Q0 .ret ⟨List.toArray (.slice a n c :: u1 :: .slice none 0 0 :: .int .u8 7 :: u4 :: u5 :: u6 :: v7 :: v8 :: v9 :: v10 :: v11 :: u12 :: u13 :: u14 :: u15 :: u16 :: u17 :: u18 :: u19 :: u20 :: u21 :: u22 :: u23 :: u24 :: u25 :: u26 :: u27 :: u28 :: u29 :: u30 :: u31 :: u32 :: u33 :: u34 :: u35 :: u36 :: u37 :: u38 :: u39 :: u40 :: u41 :: u42 :: u43 :: u44 :: u45 :: u46 :: u47 :: u48 :: u49 :: v50 :: v51 :: v52 :: v53 :: v54 :: v55 :: v56 :: v57 :: v58 :: v59 :: v60 :: v61 :: v62 :: v63 :: v64 :: v65 :: v66 :: v67 :: v68 :: v69 :: v70 :: v71 :: v72 :: v73 :: v74 :: v75 :: v76 :: v77 :: v78 :: v79 :: v80 :: v81 :: v82 :: v83 :: v84 :: v85 :: v86 :: v87 :: u88 :: u89 :: u90 :: u91 :: u92 :: u93 :: u94 :: u95 :: u96 :: u97 :: u98 :: u99 :: u100 :: u101 :: u102 :: u103 :: u104 :: u105 :: u106 :: u107 :: u108 :: u109 :: u110 :: u111 :: u112 :: u113 :: u114 :: u115 :: u116 :: u117 :: u118 :: u119 :: u120 :: u121 :: u122 :: u123 :: u124 :: u125 :: u126 :: u127 :: u128 :: u129 :: u130 :: u131 :: u132 :: u133 :: u134 :: u135 :: u136 :: u137 :: u138 :: u139 :: u140 :: u141 :: u142 :: u143 :: []), []⟩ wr)
    (hexit : ∀ (v2 v3 v9 v10 v11 v50 v51 v52 v53 v54 v55 v56 v57 v58 v59 v60 v61 v62 v63 v64 v65 v66 v67 v68 v69 v70 v71 v72 v73 v74 v75 v76 v77 v78 v79 v80 v81 v82 v83 v84 v85 v86 v87 : Value) (vm : Value) (s : Nat) (lens : List Nat) (e : Bool) (cs : List Value) (wr : World), ownTab f 8 = some (lens, s, e) → Below w.heap.size w wr → wr.ownsRow w.heap.size 44 1 vm lens.length cs → Rows3 wr w.heap.size cs lens → Q0 (.exit 1) ⟨List.toArray (.slice a n c :: u1 :: v2 :: v3 :: u4 :: u5 :: u6 :: vm :: .int .i64 (s : Int) :: v9 :: v10 :: v11 :: u12 :: u13 :: u14 :: u15 :: u16 :: u17 :: u18 :: u19 :: u20 :: u21 :: u22 :: u23 :: u24 :: u25 :: u26 :: u27 :: u28 :: u29 :: u30 :: u31 :: u32 :: u33 :: u34 :: u35 :: u36 :: u37 :: u38 :: u39 :: u40 :: u41 :: u42 :: u43 :: u44 :: u45 :: u46 :: u47 :: u48 :: u49 :: v50 :: v51 :: v52 :: v53 :: v54 :: v55 :: v56 :: v57 :: v58 :: v59 :: v60 :: v61 :: v62 :: v63 :: v64 :: v65 :: v66 :: v67 :: v68 :: v69 :: v70 :: v71 :: v72 :: v73 :: v74 :: v75 :: v76 :: v77 :: v78 :: v79 :: v80 :: v81 :: v82 :: v83 :: v84 :: v85 :: v86 :: v87 :: u88 :: u89 :: u90 :: u91 :: u92 :: u93 :: u94 :: u95 :: u96 :: u97 :: u98 :: u99 :: u100 :: u101 :: u102 :: u103 :: u104 :: u105 :: u106 :: u107 :: u108 :: u109 :: u110 :: u111 :: u112 :: u113 :: u114 :: u115 :: u116 :: u117 :: u118 :: u119 :: u120 :: u121 :: u122 :: u123 :: u124 :: u125 :: u126 :: u127 :: u128 :: u129 :: u130 :: u131 :: u132 :: u133 :: u134 :: u135 :: u136 :: u137 :: u138 :: u139 :: u140 :: u141 :: u142 :: u143 :: []), []⟩ wr) :
    Code.wp Fagg.prog (bodyAt Fagg.f54 [1, 1, 1, 1, 1, 1, 1, 1, 0, 1, 0]) Q0 ⟨List.toArray (.slice a n c :: u1 :: .slice none 0 0 :: .int .u8 0 :: u4 :: u5 :: u6 :: .slice none 0 0 :: .int .i64 0 :: .bool false :: .int .i64 0 :: u11 :: u12 :: u13 :: u14 :: u15 :: u16 :: u17 :: u18 :: u19 :: u20 :: u21 :: u22 :: u23 :: u24 :: u25 :: u26 :: u27 :: u28 :: u29 :: u30 :: u31 :: u32 :: u33 :: u34 :: u35 :: u36 :: u37 :: u38 :: u39 :: u40 :: u41 :: u42 :: u43 :: u44 :: u45 :: u46 :: u47 :: u48 :: u49 :: u50 :: u51 :: u52 :: u53 :: u54 :: u55 :: u56 :: u57 :: u58 :: u59 :: u60 :: u61 :: u62 :: u63 :: u64 :: u65 :: u66 :: u67 :: u68 :: u69 :: u70 :: u71 :: u72 :: u73 :: u74 :: u75 :: u76 :: u77 :: u78 :: u79 :: u80 :: u81 :: u82 :: u83 :: u84 :: u85 :: u86 :: u87 :: u88 :: u89 :: u90 :: u91 :: u92 :: u93 :: u94 :: u95 :: u96 :: u97 :: u98 :: u99 :: u100 :: u101 :: u102 :: u103 :: u104 :: u105 :: u106 :: u107 :: u108 :: u109 :: u110 :: u111 :: u112 :: u113 :: u114 :: u115 :: u116 :: u117 :: u118 :: u119 :: u120 :: u121 :: u122 :: u123 :: u124 :: u125 :: u126 :: u127 :: u128 :: u129 :: u130 :: u131 :: u132 :: u133 :: u134 :: u135 :: u136 :: u137 :: u138 :: u139 :: u140 :: u141 :: u142 :: u143 :: []), []⟩ w := by
  conv => arg 2; whnf
  have HE := hide hexit
  have HRT := hide hret
  have HS := hide hs
  have HX := hide hx
  have HF := hide hf
  have HF2 := hide hf2
  clear hexit hret hs hx hf hf2
  obtain ⟨i0, hi0, hz0, hz1, hz2⟩ := info_parts info32
  obtain ⟨j0, hj0, hy0, hy1, hy2⟩ := info_parts info44
  go_loopw [7, 8, 9, 10] (fun x y z t wr => ∃ (k : Nat) (lens : List Nat) (s : Nat) (e : Bool) (cs : List Value), k ≤ 8 ∧ Hid (ownTab f k = some (lens, s, e)) ∧ s ≤ 65535 * k ∧ lens.length ≤ k ∧ y = .int .i64 (s : Int) ∧ z = .bool e ∧ t = .int .i64 (k : Int) ∧
      wr.ownsRow w.heap.size 44 1 x lens.length cs ∧ Hid (Rows3 wr w.heap.size cs lens) ∧ Below w.heap.size w wr) (fun _ _ _ t _ => 8 - (intOf t).toNat)
  case atStart => exact ⟨0, [], 0, false, [], by omega, rfl, by omega, by simp, rfl, rfl, rfl, World.ownsRow_nil _ _ _ _, ⟨fun _ => 0, fun i hi => by simp at hi, fun i j _ hj => by simp at hj⟩, Below.refl _ _⟩
  case round =>
    obtain ⟨k, lens, s, e, cs, hk, HT, hsb, hlk, rfl, rfl, rfl, hown, HROW, hbr⟩ := hrel
    by_cases hlt : k < 8
    · have hlt' : (k : Int) < 8 := by omega
      have HNUM := hide (number_any a n c (16 + 2 * k) 2 xs wr ((unhide HS).below hbr) hn (by omega) (unhide HX) (by omega) (by omega))
      rw [← unhide HF k hlt] at HNUM
      have hE := unhide HF2 k hlt
      generalize hEk : f k = E at *
      have HEK := hide hEk
      have hwE : IntKind.i64.wrap (E : Int) = (E : Int) := i64_wrap _ (by omega) (by omega)
      clear hEk
      have fail7 : Hid (((0 < E ∧ e = true) ∨ (k = 0 ∧ E < 2)) → ownTab f 8 = none) := fun h => ownTab_none f (k + 1) (ownTab_bad (unhide HT) (by rw [unhide HEK]; exact h)) 8 (by omega)
      by_cases hE0 : 0 < E
      · have e1 : (0 : Int) < (E : Int) := by omega
        cases e
        · by_cases hk0 : k = 0 ∧ E < 2
          · have e2 : ((k : Int) == 0) = true := by simp; omega
            have e3 : (E : Int) < 2 := by omega
            have HN := hide (unhide fail7 (.inr hk0))
            clear hk0
            go_wp2_with (go_at_call 118; have h := unhide HNUM; rw [show ((16 + 2 * k : Nat) : Int) = 16 + 2 * (k : Int) by omega] at h; refine h.mono ?_; clear h; rintro e w' ⟨rfl, hw⟩; rw [hw]; clear hw)
            exact unhide HRT _ _ _ _ _ _ _ _ _ _ _ _ _ _ _ _ _ _ _ _ _ _ _ _ _ _ _ _ _ _ _ _ _ _ _ _ _ _ _ _ _ _ _ wr (unhide HN) hbr
          · have HN := hide (ownTab_next (unhide HT) (by rw [unhide HEK]; simp; omega) (by rw [unhide HEK]; omega))
            rw [unhide HEK] at HN
            have e4 : ((E : Int) == 0) = false := by simp; omega
            by_cases hkz : k = 0
            · have e2 : ((k : Int) == 0) = true := by simp; omega
              have e3 : ¬ (E : Int) < 2 := by omega
              clear hkz hk0
              by_cases hq : 300 < E - 1
              · have hq' : (300 : Int) < (E : Int) - 1 := by omega
                go_wp2_with (first | (go_at_call 118; have h := unhide HNUM; rw [show ((16 + 2 * k : Nat) : Int) = 16 + 2 * (k : Int) by omega] at h; refine h.mono ?_; clear h; rintro e w' ⟨rfl, hw⟩; rw [hw]; clear hw) | (at_make; refine wpList_make_full _ rfl _ _ 44 rfl wr.heap.size 32 i0 (.int .u64 0) 1 Fagg.underlying44 hi0 hz0 hz1 _ _ _ _ 300 rfl rfl ?_ ?_ ?_ ?_ ?_ ?_))
                all_goals first | omega | (unfold maxLen; omega) | (rw [hz2]; omega) | skip
                intro w1 ho1 hg1
                have hb1 : Below wr.heap.size wr w1 := (Below.refl _ _).grown hg1 (Nat.le_refl _) (by simp)
                have hfr1 : Fresh w1 wr.heap.size 300 := fresh_of ho1
                have hown1 : w1.ownsRow w.heap.size 44 1 u7 lens.length cs := hown.kept hg1 (by cases hv : u7.ownBlock <;> simp)
                have hsz1 : wr.heap.size < w1.heap.size := by obtain ⟨cur, h1, _⟩ := hfr1; exact (Array.getElem?_eq_some_iff.1 h1).1
                clear ho1 hg1
                go_wp2_with (at_builtin; refine wpList_append_own _ rfl _ _ 54 rfl w.heap.size 44 j0 (.slice none 0 0) 1 24 Fagg.underlying54 hj0 hy0 hy1 hy2 rfl (by decide) _ _ _ rfl (hown1.alloc _) ⟨w1.heap.size, 0, none⟩ 1 1 [.slice (some ⟨wr.heap.size, 0, none⟩) 300 300] rfl rfl ?_ ?_ ?_ ?_ ?_ ?_)
                · exact one_new _ _ _
                · exact one_cell rfl
                · unfold maxLen; omega
                · omega
                · have := hbr.size; simp; omega
                intro v2 w2 hown2 hg2 _
                have HR2 := hide (rows_push (E := E - 1) (unhide HROW) hbr.size (by omega) hb1 hfr1 hown1 hg2)
                have HO2 := hide hown2
                have HB2 := hide ((hbr.trans (hb1.mono hbr.size)).trans (((Below.refl _ _).alloc (by have := hbr.size; omega) (Obj.cells #[Value.slice (some ⟨wr.heap.size, 0, none⟩) 300 300] 44)).grown hg2 (by have := hbr.size; simp; omega) (fun q hq => (hown1.lt q hq).1)))
                clear hown2 hg2 hown1 hfr1 hb1 hown hbr
                go_wp2
                go_roundw
                case rel => exact ⟨k + 1, lens ++ [E - 1], s + (E - 1), false, cs ++ [.slice (some ⟨wr.heap.size, 0, none⟩) 300 300], by omega, HN, by omega, by simp; omega, congrArg (Value.int IntKind.i64) (by omega), rfl, by go_num, by rw [List.length_append]; exact unhide HO2, HR2, unhide HB2⟩
                case measure => simp [intOf]; omega

              · have hq' : ¬ (300 : Int) < (E : Int) - 1 := by omega
                go_wp2_with (first | (go_at_call 118; have h := unhide HNUM; rw [show ((16 + 2 * k : Nat) : Int) = 16 + 2 * (k : Int) by omega] at h; refine h.mono ?_; clear h; rintro e w' ⟨rfl, hw⟩; rw [hw]; clear hw) | (at_make; refine wpList_make_full _ rfl _ _ 44 rfl wr.heap.size 32 i0 (.int .u64 0) 1 Fagg.underlying44 hi0 hz0 hz1 _ _ _ _ (E - 1) rfl rfl ?_ ?_ ?_ ?_ ?_ ?_))
                all_goals first | omega | (unfold maxLen; omega) | (rw [hz2]; omega) | skip
                intro w1 ho1 hg1
                have hb1 : Below wr.heap.size wr w1 := (Below.refl _ _).grown hg1 (Nat.le_refl _) (by simp)
                have hfr1 : Fresh w1 wr.heap.size (E - 1) := fresh_of ho1
                have hown1 : w1.ownsRow w.heap.size 44 1 u7 lens.length cs := hown.kept hg1 (by cases hv : u7.ownBlock <;> simp)
                have hsz1 : wr.heap.size < w1.heap.size := by obtain ⟨cur, h1, _⟩ := hfr1; exact (Array.getElem?_eq_some_iff.1 h1).1
                clear ho1 hg1
                go_wp2_with (at_builtin; refine wpList_append_own _ rfl _ _ 54 rfl w.heap.size 44 j0 (.slice none 0 0) 1 24 Fagg.underlying54 hj0 hy0 hy1 hy2 rfl (by decide) _ _ _ rfl (hown1.alloc _) ⟨w1.heap.size, 0, none⟩ 1 1 [.slice (some ⟨wr.heap.size, 0, none⟩) (E - 1) (E - 1)] rfl rfl ?_ ?_ ?_ ?_ ?_ ?_)
                · exact one_new _ _ _
                · exact one_cell rfl
                · unfold maxLen; omega
                · omega
                · have := hbr.size; simp; omega
                intro v2 w2 hown2 hg2 _
                have HR2 := hide (rows_push (E := E - 1) (unhide HROW) hbr.size (by omega) hb1 hfr1 hown1 hg2)
                have HO2 := hide hown2
                have HB2 := hide ((hbr.trans (hb1.mono hbr.size)).trans (((Below.refl _ _).alloc (by have := hbr.size; omega) (Obj.cells #[Value.slice (some ⟨wr.heap.size, 0, none⟩) (E - 1) (E - 1)] 44)).grown hg2 (by have := hbr.size; simp; omega) (fun q hq => (hown1.lt q hq).1)))
                clear hown2 hg2 hown1 hfr1 hb1 hown hbr
                go_wp2
                go_roundw
                case rel => exact ⟨k + 1, lens ++ [E - 1], s + (E - 1), false, cs ++ [.slice (some ⟨wr.heap.size, 0, none⟩) (E - 1) (E - 1)], by omega, HN, by omega, by simp; omega, congrArg (Value.int IntKind.i64) (by omega), rfl, by go_num, by rw [List.length_append]; exact unhide HO2, HR2, unhide HB2⟩
                case measure => simp [intOf]; omega

            · have e2 : ((k : Int) == 0) = false := by simp; omega
              clear hkz hk0
              by_cases hq : 300 < E - 1
              · have hq' : (300 : Int) < (E : Int) - 1 := by omega
                go_wp2_with (first | (go_at_call 118; have h := unhide HNUM; rw [show ((16 + 2 * k : Nat) : Int) = 16 + 2 * (k : Int) by omega] at h; refine h.mono ?_; clear h; rintro e w' ⟨rfl, hw⟩; rw [hw]; clear hw) | (at_make; refine wpList_make_full _ rfl _ _ 44 rfl wr.heap.size 32 i0 (.int .u64 0) 1 Fagg.underlying44 hi0 hz0 hz1 _ _ _ _ 300 rfl rfl ?_ ?_ ?_ ?_ ?_ ?_))
                all_goals first | omega | (unfold maxLen; omega) | (rw [hz2]; omega) | skip
                intro w1 ho1 hg1
                have hb1 : Below wr.heap.size wr w1 := (Below.refl _ _).grown hg1 (Nat.le_refl _) (by simp)
                have hfr1 : Fresh w1 wr.heap.size 300 := fresh_of ho1
                have hown1 : w1.ownsRow w.heap.size 44 1 u7 lens.length cs := hown.kept hg1 (by cases hv : u7.ownBlock <;> simp)
                have hsz1 : wr.heap.size < w1.heap.size := by obtain ⟨cur, h1, _⟩ := hfr1; exact (Array.getElem?_eq_some_iff.1 h1).1
                clear ho1 hg1
                go_wp2_with (at_builtin; refine wpList_append_own _ rfl _ _ 54 rfl w.heap.size 44 j0 (.slice none 0 0) 1 24 Fagg.underlying54 hj0 hy0 hy1 hy2 rfl (by decide) _ _ _ rfl (hown1.alloc _) ⟨w1.heap.size, 0, none⟩ 1 1 [.slice (some ⟨wr.heap.size, 0, none⟩) 300 300] rfl rfl ?_ ?_ ?_ ?_ ?_ ?_)
                · exact one_new _ _ _
                · exact one_cell rfl
                · unfold maxLen; omega
                · omega
                · have := hbr.size; simp; omega
                intro v2 w2 hown2 hg2 _
                have HR2 := hide (rows_push (E := E - 1) (unhide HROW) hbr.size (by omega) hb1 hfr1 hown1 hg2)
                have HO2 := hide hown2
                have HB2 := hide ((hbr.trans (hb1.mono hbr.size)).trans (((Below.refl _ _).alloc (by have := hbr.size; omega) (Obj.cells #[Value.slice (some ⟨wr.heap.size, 0, none⟩) 300 300] 44)).grown hg2 (by have := hbr.size; simp; omega) (fun q hq => (hown1.lt q hq).1)))
                clear hown2 hg2 hown1 hfr1 hb1 hown hbr
                go_wp2
                go_roundw
                case rel => exact ⟨k + 1, lens ++ [E - 1], s + (E - 1), false, cs ++ [.slice (some ⟨wr.heap.size, 0, none⟩) 300 300], by omega, HN, by omega, by simp; omega, congrArg (Value.int IntKind.i64) (by omega), rfl, by go_num, by rw [List.length_append]; exact unhide HO2, HR2, unhide HB2⟩
                case measure => simp [intOf]; omega

              · have hq' : ¬ (300 : Int) < (E : Int) - 1 := by omega
                go_wp2_with (first | (go_at_call 118; have h := unhide HNUM; rw [show ((16 + 2 * k : Nat) : Int) = 16 + 2 * (k : Int) by omega] at h; refine h.mono ?_; clear h; rintro e w' ⟨rfl, hw⟩; rw [hw]; clear hw) | (at_make; refine wpList_make_full _ rfl _ _ 44 rfl wr.heap.size 32 i0 (.int .u64 0) 1 Fagg.underlying44 hi0 hz0 hz1 _ _ _ _ (E - 1) rfl rfl ?_ ?_ ?_ ?_ ?_ ?_))
                all_goals first | omega | (unfold maxLen; omega) | (rw [hz2]; omega) | skip
                intro w1 ho1 hg1
                have hb1 : Below wr.heap.size wr w1 := (Below.refl _ _).grown hg1 (Nat.le_refl _) (by simp)
                have hfr1 : Fresh w1 wr.heap.size (E - 1) := fresh_of ho1
                have hown1 : w1.ownsRow w.heap.size 44 1 u7 lens.length cs := hown.kept hg1 (by cases hv : u7.ownBlock <;> simp)
                have hsz1 : wr.heap.size < w1.heap.size := by obtain ⟨cur, h1, _⟩ := hfr1; exact (Array.getElem?_eq_some_iff.1 h1).1
                clear ho1 hg1
                go_wp2_with (at_builtin; refine wpList_append_own _ rfl _ _ 54 rfl w.heap.size 44 j0 (.slice none 0 0) 1 24 Fagg.underlying54 hj0 hy0 hy1 hy2 rfl (by decide) _ _ _ rfl (hown1.alloc _) ⟨w1.heap.size, 0, none⟩ 1 1 [.slice (some ⟨wr.heap.size, 0, none⟩) (E - 1) (E - 1)] rfl rfl ?_ ?_ ?_ ?_ ?_ ?_)
                · exact one_new _ _ _
                · exact one_cell rfl
                · unfold maxLen; omega
                · omega
                · have := hbr.size; simp; omega
                intro v2 w2 hown2 hg2 _
                have HR2 := hide (rows_push (E := E - 1) (unhide HROW) hbr.size (by omega) hb1 hfr1 hown1 hg2)
                have HO2 := hide hown2
                have HB2 := hide ((hbr.trans (hb1.mono hbr.size)).trans (((Below.refl _ _).alloc (by have := hbr.size; omega) (Obj.cells #[Value.slice (some ⟨wr.heap.size, 0, none⟩) (E - 1) (E - 1)] 44)).grown hg2 (by have := hbr.size; simp; omega) (fun q hq => (hown1.lt q hq).1)))
                clear hown2 hg2 hown1 hfr1 hb1 hown hbr
                go_wp2
                go_roundw
                case rel => exact ⟨k + 1, lens ++ [E - 1], s + (E - 1), false, cs ++ [.slice (some ⟨wr.heap.size, 0, none⟩) (E - 1) (E - 1)], by omega, HN, by omega, by simp; omega, congrArg (Value.int IntKind.i64) (by omega), rfl, by go_num, by rw [List.length_append]; exact unhide HO2, HR2, unhide HB2⟩
                case measure => simp [intOf]; omega

        · have HN := hide (unhide fail7 (.inl ⟨hE0, rfl⟩))
          go_wp2_with (go_at_call 118; have h := unhide HNUM; rw [show ((16 + 2 * k : Nat) : Int) = 16 + 2 * (k : Int) by omega] at h; refine h.mono ?_; clear h; rintro e w' ⟨rfl, hw⟩; rw [hw]; clear hw)
          exact unhide HRT _ _ _ _ _ _ _ _ _ _ _ _ _ _ _ _ _ _ _ _ _ _ _ _ _ _ _ _ _ _ _ _ _ _ _ _ _ _ _ _ _ _ _ wr (unhide HN) hbr
      · have e1 : ¬ (0 : Int) < (E : Int) := by omega
        by_cases hk0 : k = 0
        · have e2 : ((k : Int) == 0) = true := by simp; omega
          have e3 : (E : Int) < 2 := by omega
          have HN := hide (unhide fail7 (.inr ⟨hk0, by omega⟩))
          clear hk0
          go_wp2_with (go_at_call 118; have h := unhide HNUM; rw [show ((16 + 2 * k : Nat) : Int) = 16 + 2 * (k : Int) by omega] at h; refine h.mono ?_; clear h; rintro e w' ⟨rfl, hw⟩; rw [hw]; clear hw)
          exact unhide HRT _ _ _ _ _ _ _ _ _ _ _ _ _ _ _ _ _ _ _ _ _ _ _ _ _ _ _ _ _ _ _ _ _ _ _ _ _ _ _ _ _ _ _ wr (unhide HN) hbr
        · have e2 : ((k : Int) == 0) = false := by simp; omega
          have e4 : ((E : Int) == 0) = true := by simp; omega
          have HN := hide (ownTab_end (unhide HT) (by rw [unhide HEK]; omega) (by rw [unhide HEK]; omega))
          have HO := hide hown
          clear hk0 hown
          go_wp2_with (go_at_call 118; have h := unhide HNUM; rw [show ((16 + 2 * k : Nat) : Int) = 16 + 2 * (k : Int) by omega] at h; refine h.mono ?_; clear h; rintro e w' ⟨rfl, hw⟩; rw [hw]; clear hw)
          exact ⟨⟨k + 1, lens, s, true, cs, by omega, HN, by omega, by omega, rfl, rfl, by go_num, unhide HO, HROW, hbr⟩, by simp [intOf]; omega⟩
    · have hlt' : ¬ (k : Int) < 8 := by omega
      obtain rfl : k = 8 := by omega
      have HO := hide hown
      clear hown
      go_wp2_with fail
      exact unhide HE _ _ _ _ _ _ _ _ _ _ _ _ _ _ _ _ _ _ _ _ _ _ _ _ _ _ _ _ _ _ _ _ _ _ _ _ _ _ _ _ _ _ _ u7 s lens e cs wr (unhide HT) hbr (unhide HO) (unhide HROW)
end Go.Proofs.Ygcfag
