/-
  WALKS: the loop in which (*pack.Cur).Step appends the words of a run.
-/
import Derived.Test.YgcfagPlain2
import Derived.Test.YgcfagW1
import Derived.Test.YgcfagSub
import Derived.Deep.DeepCutAuto
namespace Go.Proofs.Ygcfag
open Go.RowKit
set_option linter.unusedVariables false
set_option linter.unusedSimpArgs false

/-- A cursor in block B: its stream, where it stands, its words so far. -/
structure CurAt (B : Nat) (w : World) (S : Value) (i : Nat) (v : Value) (out : List Int) : Prop where
  cs : w.cell? ⟨B, 0, none⟩ = some S
  ci : w.cell? ⟨B, 1, none⟩ = some (.int .u16 (i : Int))
  cv : w.cell? ⟨B, 2, none⟩ = some v
  fr : ∀ o, w.frozen? ⟨B, o, none⟩ = false
  own : w.ownsRow (B + 1) 32 1 v out.length (out.map (Value.int .u64))

theorem CurAt.lt {B : Nat} {w : World} {S : Value} {i : Nat} {v : Value} {out : List Int} (h : CurAt B w S i v out) : B < w.heap.size := World.block_lt_of_cell? w ⟨B, 0, none⟩ h.cs

theorem CurAt.same {B : Nat} {w w' : World} {S : Value} {i : Nat} {v : Value} {out : List Int} (h : CurAt B w S i v out) (hb : Below w.heap.size w w') : CurAt B w' S i v out := by
  have hB := h.lt
  refine ⟨(hb.cell (p := ⟨B, 0, none⟩) hB).trans h.cs, (hb.cell (p := ⟨B, 1, none⟩) hB).trans h.ci, (hb.cell (p := ⟨B, 2, none⟩) hB).trans h.cv, fun o => (hb.frozen (p := ⟨B, o, none⟩) hB).trans (h.fr o), ?_⟩
  exact h.own.kept (w' := w') (row := none) ⟨hb.os, hb.tape, hb.output, hb.size, fun k hk _ => hb.block k hk⟩ (by cases hv : v.ownBlock <;> simp)

/-- What an append behind a new block leaves of the cursor's own cells. -/
theorem CurAt.grown {B : Nat} {w w1 : World} {S : Value} {i : Nat} {v : Value} {out : List Int} (h : CurAt B w S i v out) (hg : w.grownBy w1 v.ownBlock) :
    w1.cell? ⟨B, 0, none⟩ = some S ∧ w1.cell? ⟨B, 1, none⟩ = some (.int .u16 (i : Int)) ∧ w1.cell? ⟨B, 2, none⟩ = some v ∧ (∀ o, w1.frozen? ⟨B, o, none⟩ = false) ∧ Below (B + 1) w w1 := by
  have hB := h.lt
  have hne : some B ≠ v.ownBlock := fun e => by have := (h.own.lt B e.symm).1; omega
  have hblk := hg.block B hB hne
  refine ⟨(World.cell?_of_block (a := ⟨B, 0, none⟩) hblk).trans h.cs, (World.cell?_of_block (a := ⟨B, 1, none⟩) hblk).trans h.ci, (World.cell?_of_block (a := ⟨B, 2, none⟩) hblk).trans h.cv,
    fun o => (World.frozen?_of_block (a := ⟨B, o, none⟩) hblk).trans (h.fr o), ⟨hg.os, hg.tape, hg.output, hg.size, fun k hk => hg.block k (by omega) (fun e => by have := (h.own.lt k e.symm).1; omega)⟩⟩

/-- .. and behind the store of the field. -/
theorem CurAt.stored {B : Nat} {w1 : World} {S : Value} {i : Nat} {v v' : Value} {out : List Int} (c0 : w1.cell? ⟨B, 0, none⟩ = some S) (c1 : w1.cell? ⟨B, 1, none⟩ = some (.int .u16 (i : Int)))
    (c2 : w1.cell? ⟨B, 2, none⟩ = some v) (hf : ∀ o, w1.frozen? ⟨B, o, none⟩ = false) (hown : w1.ownsRow (B + 1) 32 1 v' out.length (out.map (Value.int .u64))) : CurAt B (w1.setCell ⟨B, 2, none⟩ v') S i v' out := by
  refine ⟨?_, ?_, ?_, fun o => ?_, ownsRow_setCell_below hown (by simp) _⟩
  · rw [World.cell?_setCell_other _ _ _ _ (by simp)]; exact c0
  · rw [World.cell?_setCell_other _ _ _ _ (by simp)]; exact c1
  · exact World.cell?_setCell_same _ _ _ c2
  · rw [World.frozen?_setCell]; exact hf o

theorem take8 (s : List Int) (k : Nat) (h : k + 8 ≤ s.length) : (s.drop k).take 8 = [s.getD k 0, s.getD (k + 1) 0, s.getD (k + 2) 0, s.getD (k + 3) 0, s.getD (k + 4) 0, s.getD (k + 5) 0, s.getD (k + 6) 0, s.getD (k + 7) 0] := by
  apply List.ext_getElem
  · simp; omega
  · intro n h1 h2
    simp only [List.length_cons, List.length_nil] at h2
    rw [List.getElem_take, List.getElem_drop]
    have hk : k + n < s.length := by omega
    have e : s[k + n] = s.getD (k + n) 0 := by simp [List.getD, hk]
    rw [e]
    match n, h2 with
    | 0, _ => rfl
    | 1, _ => rfl
    | 2, _ => rfl
    | 3, _ => rfl
    | 4, _ => rfl
    | 5, _ => rfl
    | 6, _ => rfl
    | 7, _ => rfl

theorem eight (K L V M j : Nat) (h : 8 * M = V) (hj : j < M) (hb : K + V ≤ L) : K + 8 * j + 8 ≤ L := by omega

set_option maxHeartbeats 1000000 in
set_option maxRecDepth 100000 in
theorem step_loop2 {Q0 : Exit → Act → World → Prop} (B b off L K M V i : Nat) (s out : List Int) (v : Value) (S : Value) (w : World) (hL4 : (L : Int) ≤ 4096) (hK : K ≤ 10) (hM : M ≤ 255) (hKV : K + V ≤ L) (hV : V = 0 ∨ V = 8 * M)
    (hbB : b < B) (HS : Hid (∀ j, j < s.length → w.cell? ⟨b, off + j, none⟩ = some (.int .u8 (s.getD j 0)))) (hsl : s.length = L) (HX : Hid (Bys s)) (hcur : CurAt B w S i v out) (ho : out.length + M ≤ 256)
    (u1 u2 u4 u8 u9 u10 u12 u13 u14 u15 u16 u17 u18 u19 u20 u21 u22 u23 u24 u25 u26 u27 u28 u29 u30 u31 u32 u33 u34 u35 u36 u37 u38 u39 u40 u41 u42 u43 u44 u45 u46 u47 u48 u49 u50 u51 u52 u53 u54 u55 u56 u57 u58 u59 u60 u61 u62 u63 u64 u65 u66 u67 u68 u69 u70 u71 u72 u73 u74 u75 u76 u77 u78 u79 u80 u81 u82 u83 u84 u85 u86 u87 u88 u89 u90 u91 u92 u93 u94 u95 u96 u97 u98 u99 u100 u101 u102 u103 u104 u105 u106 u107 u108 u109 u110 u111 u112 u113 u114 u115 u116 u117 u118 u119 u120 u121 u122 u123 u124 u125 u126 u127 u128 u129 u130 u131 u132 u133 u134 u135 u136 u137 u138 u139 u140 u141 u142 u143 u144 u145 u146 u147 u148 u149 u150 u151 u152 u153 u154 u155 u156 u157 u158 u159 u160 u161 u162 u163 u164 u165 : Value)
    (hexit : ∀ (v8 v11 v124 v125 v126 v127 v128 v129 v130 v131 v132 v133 v134 v135 v136 v137 v138 v139 v140 v141 v142 v143 v144 v145 v146 v147 v148 v149 v150 v151 v152 v153 v154 : Value) (wr : World), (∃ v', CurAt B wr S i v' (out ++ (List.range M).map (moreWord s K V)) ∧ Below B w wr) → Q0 (.exit 2) ⟨List.toArray (.pointer (some ⟨B, 0, none⟩) :: u1 :: u2 :: .slice (some ⟨b, off, none⟩) L L :: u4 :: .int .i64 (K : Int) :: .int .i64 (M : Int) :: .int .i64 (V : Int) :: v8 :: u9 :: u10 :: v11 :: u12 :: u13 :: u14 :: u15 :: u16 :: u17 :: u18 :: u19 :: u20 :: u21 :: u22 :: u23 :: u24 :: u25 :: u26 :: u27 :: u28 :: u29 :: u30 :: u31 :: u32 :: u33 :: u34 :: u35 :: u36 :: u37 :: u38 :: u39 :: u40 :: u41 :: u42 :: u43 :: u44 :: u45 :: u46 :: u47 :: u48 :: u49 :: u50 :: u51 :: u52 :: u53 :: u54 :: u55 :: u56 :: u57 :: u58 :: u59 :: u60 :: u61 :: u62 :: u63 :: u64 :: u65 :: u66 :: u67 :: u68 :: u69 :: u70 :: u71 :: u72 :: u73 :: u74 :: u75 :: u76 :: u77 :: u78 :: u79 :: u80 :: u81 :: u82 :: u83 :: u84 :: u85 :: u86 :: u87 :: u88 :: u89 :: u90 :: u91 :: u92 :: u93 :: u94 :: u95 :: u96 :: u97 :: u98 :: u99 :: u100 :: u101 :: u102 :: u103 :: u104 :: u105 :: u106 :: u107 :: u108 :: u109 :: u110 :: u111 :: u112 :: u113 :: u114 :: u115 :: u116 :: u117 :: u118 :: u119 :: u120 :: u121 :: u122 :: u123 :: v124 :: v125 :: v126 :: v127 :: v128 :: v129 :: v130 :: v131 :: v132 :: v133 :: v134 :: v135 :: v136 :: v137 :: v138 :: v139 :: v140 :: v141 :: v142 :: v143 :: v144 :: v145 :: v146 :: v147 :: v148 :: v149 :: v150 :: v151 :: v152 :: v153 :: v154 :: u155 :: u156 :: u157 :: u158 :: u159 :: u160 :: u161 :: u162 :: u163 :: u164 :: u165 :: []), []⟩ wr) :
    Code.wp Fagg.prog (bodyAt Fagg.f182 [1, 1, 1, 1, 1, 1, 1, 1, 1, 1, 1, 0, 1, 0]) Q0 ⟨List.toArray (.pointer (some ⟨B, 0, none⟩) :: u1 :: u2 :: .slice (some ⟨b, off, none⟩) L L :: u4 :: .int .i64 (K : Int) :: .int .i64 (M : Int) :: .int .i64 (V : Int) :: u8 :: u9 :: u10 :: .int .i64 0 :: u12 :: u13 :: u14 :: u15 :: u16 :: u17 :: u18 :: u19 :: u20 :: u21 :: u22 :: u23 :: u24 :: u25 :: u26 :: u27 :: u28 :: u29 :: u30 :: u31 :: u32 :: u33 :: u34 :: u35 :: u36 :: u37 :: u38 :: u39 :: u40 :: u41 :: u42 :: u43 :: u44 :: u45 :: u46 :: u47 :: u48 :: u49 :: u50 :: u51 :: u52 :: u53 :: u54 :: u55 :: u56 :: u57 :: u58 :: u59 :: u60 :: u61 :: u62 :: u63 :: u64 :: u65 :: u66 :: u67 :: u68 :: u69 :: u70 :: u71 :: u72 :: u73 :: u74 :: u75 :: u76 :: u77 :: u78 :: u79 :: u80 :: u81 :: u82 :: u83 :: u84 :: u85 :: u86 :: u87 :: u88 :: u89 :: u90 :: u91 :: u92 :: u93 :: u94 :: u95 :: u96 :: u97 :: u98 :: u99 :: u100 :: u101 :: u102 :: u103 :: u104 :: u105 :: u106 :: u107 :: u108 :: u109 :: u110 :: u111 :: u112 :: u113 :: u114 :: u115 :: u116 :: u117 :: u118 :: u119 :: u120 :: u121 :: u122 :: u123 :: u124 :: u125 :: u126 :: u127 :: u128 :: u129 :: u130 :: u131 :: u132 :: u133 :: u134 :: u135 :: u136 :: u137 :: u138 :: u139 :: u140 :: u141 :: u142 :: u143 :: u144 :: u145 :: u146 :: u147 :: u148 :: u149 :: u150 :: u151 :: u152 :: u153 :: u154 :: u155 :: u156 :: u157 :: u158 :: u159 :: u160 :: u161 :: u162 :: u163 :: u164 :: u165 :: []), []⟩ w := by
  conv => arg 2; whnf
  have HE := hide hexit
  clear hexit
  obtain ⟨i0, hi0, hz0, hz1, hz2⟩ := info_parts info32
  have HC := hide hcur
  clear hcur
  go_loopw [11] (fun y wr => ∃ j : Nat, ∃ v' : Value, j ≤ M ∧ y = .int .i64 (j : Int) ∧ CurAt B wr S i v' (out ++ (List.range j).map (moreWord s K V)) ∧ Below B w wr) (fun y _ => M - (intOf y).toNat)
  case atStart => exact ⟨0, v, by omega, rfl, by simpa using unhide HC, Below.refl _ _⟩
  case round =>
    obtain ⟨j, v', hj, rfl, hcr, hbr⟩ := hrel
    by_cases hjM : j < M
    · go_upto_if 130 with fail
      go_cut [8] from 124 to 154 (fun x wx => x = .int .u64 (moreWord s K V j) ∧ Below wr.heap.size wr wx)
      case first =>
        rcases hV with hV0 | hV8
        · have hV1 : ¬ (0 : Int) < (V : Int) := by omega
          have HM := hide (show moreWord s K V j = 0 by unfold moreWord; rw [if_neg (by omega)])
          clear hV0
          go_wp2
          go_meet
          case rel => exact ⟨by rw [unhide HM], Below.refl _ _⟩
        · have hV1 : (0 : Int) < (V : Int) := by omega
          have h8 := eight K L V M j hV8.symm hjM hKV
          have HM := hide (show moreWord s K V j = _ by unfold moreWord; rw [if_pos (by omega), take8 s (K + 8 * j) (by omega)])
          have hcell : ∀ r, r < 8 → wr.cell? ⟨b, off + (K + 8 * j) + r, none⟩ = some (.int .u8 (s.getD (K + 8 * j + r) 0)) := fun r hr => by
            have := unhide HS (K + 8 * j + r) (by omega)
            rw [Nat.add_assoc]
            exact (hbr.cell (p := ⟨b, off + (K + 8 * j + r), none⟩) hbB).trans this
          have c0 := hcell 0 (by omega)
          have c1 := hcell 1 (by omega)
          have c2 := hcell 2 (by omega)
          have c3 := hcell 3 (by omega)
          have c4 := hcell 4 (by omega)
          have c5 := hcell 5 (by omega)
          have c6 := hcell 6 (by omega)
          have c7 := hcell 7 (by omega)
          have b0 := unhide HX (K + 8 * j)
          have b1 := unhide HX (K + 8 * j + 1)
          have b2 := unhide HX (K + 8 * j + 2)
          have b3 := unhide HX (K + 8 * j + 3)
          have b4 := unhide HX (K + 8 * j + 4)
          have b5 := unhide HX (K + 8 * j + 5)
          have b6 := unhide HX (K + 8 * j + 6)
          have b7 := unhide HX (K + 8 * j + 7)
          simp only [Nat.add_zero] at c0
          generalize s.getD (K + 8 * j) 0 = x0 at *
          generalize s.getD (K + 8 * j + 1) 0 = x1 at *
          generalize s.getD (K + 8 * j + 2) 0 = x2 at *
          generalize s.getD (K + 8 * j + 3) 0 = x3 at *
          generalize s.getD (K + 8 * j + 4) 0 = x4 at *
          generalize s.getD (K + 8 * j + 5) 0 = x5 at *
          generalize s.getD (K + 8 * j + 6) 0 = x6 at *
          generalize s.getD (K + 8 * j + 7) 0 = x7 at *
          clear hcell hV8
          have hsub : K + 8 * j + 8 - (K + 8 * j) = 8 := by omega
          have hne : ¬ L = K + 8 * j := by omega
          have h8' : (K : Int) + 8 * (j : Int) + 8 ≤ (L : Int) := by omega
          have har := run_arrayAt8
          go_wp2_with (go_at_call 181; refine (word_any x0 x1 x2 x3 x4 x5 x6 x7 b0 b1 b2 b3 b4 b5 b6 b7 _).mono ?_; rintro e w' ⟨rfl, rfl⟩)
          go_meet
          case rel => exact ⟨by rw [unhide HM], (Below.refl _ _).alloc (Nat.le_refl _) _⟩
      case rest =>
        obtain ⟨rfl, hbw⟩ := hcut
        have hbr2 := hbr.trans (hbw.mono (by have := hcr.lt; omega))
        replace hcr := hcr.same hbw
        generalize hy : moreWord s K V j = y
        have HY := hide hy
        clear hy
        have hcv := hcr.cv
        have hown := hcr.own
        have hlen : (out ++ List.map (moreWord s K V) (List.range j)).length ≤ 256 := by simp; omega
        generalize hou : out ++ List.map (moreWord s K V) (List.range j) = ou at *
        go_wp2_with (at_builtin; refine wpList_append_own _ rfl _ _ 44 rfl (B + 1) 32 i0 (.int .u64 0) 1 8 Fagg.underlying44 hi0 hz0 hz1 hz2 rfl (by decide) _ _ _ rfl (hown.alloc _) ⟨wc.heap.size, 0, none⟩ 1 1 [.int .u64 y] rfl rfl ?_ ?_ ?_ ?_ ?_ ?_)
        · exact one_new _ _ _
        · exact one_cell rfl
        · unfold maxLen; omega
        · omega
        · have := hcr.lt; simp; omega
        · intro v1 w1 hown1 hg1 _
          obtain ⟨d0, d1, d2, df, db⟩ := (hcr.same ((Below.refl _ _).alloc (Nat.le_refl _) (Obj.cells #[Value.int IntKind.u64 y] 32))).grown hg1
          have hB1 := hcr.lt
          obtain ⟨ao1, cp1, rfl⟩ := own_form hown1
          have HO := hide hown1
          have HCR := hide hcr
          clear hown1 hg1 hown hcv hcr hbr hbw
          go_wp2
          go_roundw
          case rel =>
            have he : out ++ (List.range (j + 1)).map (moreWord s K V) = ou ++ [y] := by rw [List.range_succ, List.map_append, ← List.append_assoc, hou]; simp [unhide HY]
            refine ⟨j + 1, .slice ao1 (ou.length + 1) cp1, by omega, by go_num, ?_, ?_⟩
            · rw [he]
              exact CurAt.stored d0 d1 d2 df (by have := unhide HO; simpa using this)
            · exact ((hbr2.trans ((Below.refl _ _).alloc (by omega) _)).trans (db.mono (by omega))).setCell (Nat.le_refl _) _
          case measure => simp [intOf]; omega
    · have hjm : ¬ (j : Int) < (M : Int) := by omega
      go_wp2_with fail
      obtain rfl : j = M := by omega
      exact unhide HE _ _ _ _ _ _ _ _ _ _ _ _ _ _ _ _ _ _ _ _ _ _ _ _ _ _ _ _ _ _ _ _ _ wr ⟨v', hcr, hbr⟩
end Go.Proofs.Ygcfag
