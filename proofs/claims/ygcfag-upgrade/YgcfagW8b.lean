/-
  WALKS: segwire.Open behind its header.
-/
import Derived.Test.YgcfagW2
import Derived.Test.YgcfagW6
import Derived.Test.YgcfagW7
import Derived.Test.YgcfagW8a
import Derived.Deep.CutBlock
namespace Go.Proofs.Ygcfag
open Go.RowKit
set_option linter.unusedVariables false
set_option linter.unusedSimpArgs false

/-- The five numbers of a header, in block g. -/
structure HeadAt (g : Nat) (w : World) (mg vr fl wd sm : Int) : Prop where
  c0 : w.cell? ⟨g, 0, none⟩ = some (.int .u32 mg)
  c1 : w.cell? ⟨g, 1, none⟩ = some (.int .u16 vr)
  c2 : w.cell? ⟨g, 2, none⟩ = some (.int .u16 fl)
  c3 : w.cell? ⟨g, 3, none⟩ = some (.int .u32 wd)
  c4 : w.cell? ⟨g, 4, none⟩ = some (.int .u32 sm)

theorem HeadAt.same {g : Nat} {w w' : World} {mg vr fl wd sm : Int} (h : HeadAt g w mg vr fl wd sm) (hb : Below w.heap.size w w') : HeadAt g w' mg vr fl wd sm := by
  have hg := World.block_lt_of_cell? w _ h.c0
  exact ⟨(hb.cell (p := ⟨g, 0, none⟩) hg).trans h.c0, (hb.cell (p := ⟨g, 1, none⟩) hg).trans h.c1, (hb.cell (p := ⟨g, 2, none⟩) hg).trans h.c2, (hb.cell (p := ⟨g, 3, none⟩) hg).trans h.c3, (hb.cell (p := ⟨g, 4, none⟩) hg).trans h.c4⟩

/-- A message: each of its segments reads as it says. -/
def SegsAt (w : World) (a : Option Addr) (ms : List (List Int)) : Prop :=
  ms = [] ∨ ∃ b off, a = some ⟨b, off, none⟩ ∧ ∀ i, i < ms.length → ∃ ai ci, w.cell? ⟨b, off + i, none⟩ = some (.slice ai (ms.getD i []).length ci) ∧ (ms.getD i []).length ≤ ci ∧ Sl .u64 w ai (ms.getD i [])


/-- What the table says, in one form. -/
def TabRel (xs : List Int) (total : Nat) (s0 s1 s2 s3 s4 s5 s6 s7 : Int) (N : Int) (ok : Bool) : Prop :=
  (tableOf (entry xs) total = none ∧ ok = false) ∨ ∃ l n, tableOf (entry xs) total = some (l, n) ∧ ok = true ∧ N = (n : Int) ∧ s0 = (l.getD 0 0 : Nat) ∧ s1 = (l.getD 1 0 : Nat) ∧ s2 = (l.getD 2 0 : Nat) ∧ s3 = (l.getD 3 0 : Nat) ∧ s4 = (l.getD 4 0 : Nat) ∧ s5 = (l.getD 5 0 : Nat) ∧ s6 = (l.getD 6 0 : Nat) ∧ s7 = (l.getD 7 0 : Nat)

theorem table_one (a : Option Addr) (c total : Nat) (xs : List Int) (w : World) (hs : Sl .u8 w a xs) (hn : xs.length = 16) (hx : Bys xs) (ht : total ≤ 256) :
    Calls Fagg.prog 116 #[.slice a 16 c, .int .i64 (total : Int)] w fun e w' => ∃ (s0 s1 s2 s3 s4 s5 s6 s7 N : Int) (ok : Bool), e = .returned (.tuple #[.agg #[.int .i64 s0, .int .i64 s1, .int .i64 s2, .int .i64 s3, .int .i64 s4, .int .i64 s5, .int .i64 s6, .int .i64 s7], .int .i64 N, .bool ok]) ∧ TabRel xs total s0 s1 s2 s3 s4 s5 s6 s7 N ok ∧ Below w.heap.size w w' := by
  refine (table_any a c total xs w hs hn hx ht).mono ?_
  rintro e w' ⟨hb, h⟩
  rcases h with ⟨h1, s0, s1, s2, s3, s4, s5, s6, s7, n, rfl⟩ | ⟨l, n, h1, rfl⟩
  · exact ⟨_, _, _, _, _, _, _, _, _, _, rfl, .inl ⟨h1, rfl⟩, hb⟩
  · exact ⟨_, _, _, _, _, _, _, _, _, _, rfl, .inr ⟨l, n, h1, rfl, rfl, rfl, rfl, rfl, rfl, rfl, rfl, rfl, rfl⟩, hb⟩

set_option maxHeartbeats 1000000 in
set_option maxRecDepth 100000 in
theorem open_tail3 (R : Ending → World → Prop) (gs ga nn cc : Nat) (l : List Nat) (all : List Int) (w : World) (hn : nn ≤ 8) (hll : l.length = 8) (hsum : (l.take nn).sum ≤ all.length) (hal : all.length ≤ 256) (hcc : all.length ≤ cc)
    (hgs : gs < w.heap.size) (hga : ga < w.heap.size) (HS : Hid (∀ j, j < 8 → w.cell? ⟨gs, j, none⟩ = some (.int .i64 (l.getD j 0 : Nat)))) (HA : Hid (∀ j, j < all.length → w.cell? ⟨ga, j, none⟩ = some (.int .u64 (all.getD j 0))))
    (hyes : ∀ x w', SegsAt w' (some x) (cuts (l.take nn) all) → Below w.heap.size w w' → R (.returned (.tuple #[.slice (some x) nn nn, .int .u8 0])) w')
    (u0 u1 u2 u3 u4 u5 u8 u10 u11 u12 u13 u14 u15 u16 u17 u18 u19 u20 u21 u22 u23 u24 u25 u26 u27 u28 u29 u30 u31 u32 u33 u34 u35 u36 u37 u38 u39 u40 u41 u42 u43 u44 u45 u46 u47 u48 u49 u50 u51 u52 u53 u54 u55 u56 u57 u58 u59 u60 u61 u62 u63 u64 u65 u66 u67 u68 u69 u70 u71 u72 u73 u74 u75 u76 u77 u78 u79 u80 u81 u82 u83 u84 u85 u86 u87 u88 u89 u90 u91 u92 u93 u94 u95 u96 u97 u98 u99 u100 : Value) :
    Code.wp Fagg.prog (bodyAt Fagg.f52 [1, 1, 1, 1, 1, 1, 1]) (bodyPost Fagg.prog Fagg.f52 R) ⟨List.toArray (u0 :: u1 :: u2 :: u3 :: u4 :: u5 :: .pointer (some ⟨gs, 0, none⟩) :: .int .i64 (nn : Int) :: u8 :: .slice (some ⟨ga, 0, none⟩) all.length cc :: u10 :: u11 :: u12 :: u13 :: u14 :: u15 :: u16 :: u17 :: u18 :: u19 :: u20 :: u21 :: u22 :: u23 :: u24 :: u25 :: u26 :: u27 :: u28 :: u29 :: u30 :: u31 :: u32 :: u33 :: u34 :: u35 :: u36 :: u37 :: u38 :: u39 :: u40 :: u41 :: u42 :: u43 :: u44 :: u45 :: u46 :: u47 :: u48 :: u49 :: u50 :: u51 :: u52 :: u53 :: u54 :: u55 :: u56 :: u57 :: u58 :: u59 :: u60 :: u61 :: u62 :: u63 :: u64 :: u65 :: u66 :: u67 :: u68 :: u69 :: u70 :: u71 :: u72 :: u73 :: u74 :: u75 :: u76 :: u77 :: u78 :: u79 :: u80 :: u81 :: u82 :: u83 :: u84 :: u85 :: u86 :: u87 :: u88 :: u89 :: u90 :: u91 :: u92 :: u93 :: u94 :: u95 :: u96 :: u97 :: u98 :: u99 :: u100 :: []), []⟩ w := by
  conv => arg 2; whnf
  have HYES := hide hyes
  clear hyes
  obtain ⟨i0, hi0, hz0, hz1, hz2⟩ := info_parts info44
  go_wp2_with (at_make; refine wpList_make_full _ rfl _ _ 54 rfl w.heap.size 44 i0 (.slice none 0 0) 1 Fagg.underlying54 hi0 hz0 hz1 _ _ _ _ nn rfl rfl rfl rfl ?_ ?_ ?_ ?_)
  all_goals first | omega | (unfold maxLen; omega) | (rw [hz2]; omega) | skip
  intro w1 ho hg
  have hb1 := (Below.refl w.heap.size w).grown hg (Nat.le_refl _) (by simp)
  have e : (madeCells #[Value.slice none 0 0] nn).toList = List.replicate nn (Value.slice none 0 0) := toList_madeCells_one _ _
  have HO := hide (show w1.ownsRow w.heap.size 44 1 (.slice (some ⟨w.heap.size, 0, none⟩) nn nn) nn (List.replicate nn (.slice none 0 0)) by rw [← e]; exact ho)
  clear ho hg e
  go_wp2_with fail
  refine open_loop gs ga w.heap.size nn cc l all w1 hn hll hsum hal hcc hgs hga ?_ ?_ (unhide HO) _ _ _ _ _ _ _ _ _ _ _ _ _ _ _ _ _ _ _ _ _ _ _ _ _ _ _ _ _ _ _ _ _ _ _ _ _ _ _ _ _ _ _ _ _ _ _ _ _ _ _ _ _ _ _ _ _ _ _ _ _ _ _ _ _ _ _ _ _ _ _ _ _ _ _ _ _ _ _ _ _ _ _ _ _ _ _ _ _ _ _ _ _ _ _ _ ?_
  · intro j hj
    exact (hb1.cell (p := ⟨gs, j, none⟩) hgs).trans (unhide HS j hj)
  · intro j hj
    exact (hb1.cell (p := ⟨ga, j, none⟩) hga).trans (unhide HA j hj)
  intro v9 v11 v82 v83 v84 v85 v86 v87 v88 v89 v90 v91 v92 v93 v94 v95 v96 v97 v98 v99 wr cs hbr hown hcl hseg
  have HF := hide (show SegsAt wr (some ⟨w.heap.size, 0, none⟩) (cuts (l.take nn) all) from .inr ⟨w.heap.size, 0, rfl, fun i hi => by
    have hln : (cuts (l.take nn) all).length = nn := by rw [cuts_length]; simp; omega
    rw [hln] at hi
    obtain ⟨ai, ci, h1, h2, h3, _⟩ := hseg i hi
    have hc := hown.cellAt i (by omega)
    refine ⟨ai, ci, ?_, h2, h3⟩
    rw [Nat.zero_add, hc, ← h1]
    simp [List.getD, show i < cs.length by omega]⟩)
  clear hown hseg
  go_wp2
  exact unhide HYES _ _ (unhide HF) (hb1.trans hbr)

theorem words_one (a : Option Addr) (m c n : Nat) (packed : Bool) (xs : List Int) (w : World) (hs : Sl .u8 w a xs) (hn : xs.length = m) (hnc : m ≤ c) (hm : c ≤ 9223372036854775807) (hx : Bys xs) (hn256 : n ≤ 256) :
    Calls Fagg.prog 117 #[.slice a m c, .bool packed, .int .i64 (n : Int)] w fun e w' => ∃ (aa : Option Addr) (k cc : Nat) (ok : Bool), e = .returned (.tuple #[.slice aa k cc, .bool ok]) ∧
      ((payload xs packed n = none ∧ ok = false) ∨ ∃ out, payload xs packed n = some out ∧ ok = true ∧ w'.ownsRow w.heap.size 32 1 (.slice aa k cc) k (out.map (Value.int .u64)) ∧ out.length ≤ 256) ∧ Below w.heap.size w w' := by
  refine (words_any a m c n packed xs w hs hn hnc hm hx hn256).mono ?_
  rintro e w' ⟨hb, h⟩
  rcases h with ⟨h1, rfl⟩ | ⟨v, out, h1, rfl, ho, hl⟩
  · exact ⟨_, _, _, _, rfl, .inl ⟨h1, rfl⟩, hb⟩
  · obtain ⟨aa, cc, rfl⟩ := own_form ho
    exact ⟨aa, out.length, cc, true, rfl, .inr ⟨out, h1, rfl, ho, hl⟩, hb⟩

theorem openRest_none {xs : List Int} {fl : Int} {wn : Nat} (h : tableOf (entry ((xs.drop 16).take 16)) wn = none) : openRest xs fl (wn : Int) = (7, []) := by
  unfold openRest; rw [Int.toNat_natCast, h]
theorem openRest_load {xs : List Int} {fl : Int} {wn n : Nat} {l : List Nat} (h : tableOf (entry ((xs.drop 16).take 16)) wn = some (l, n)) (h2 : payload (xs.drop 32) (fl == 1) wn = none) : openRest xs fl (wn : Int) = (8, []) := by
  unfold openRest; rw [Int.toNat_natCast, h]; simp only; rw [h2]
theorem openRest_len {xs : List Int} {fl : Int} {wn n : Nat} {l : List Nat} {all : List Int} (h : tableOf (entry ((xs.drop 16).take 16)) wn = some (l, n)) (h2 : payload (xs.drop 32) (fl == 1) wn = some all) (h3 : all.length ≠ wn) : openRest xs fl (wn : Int) = (8, []) := by
  unfold openRest; rw [Int.toNat_natCast, h]; simp only; rw [h2]; simp only; rw [if_neg h3]
theorem openRest_ok {xs : List Int} {fl : Int} {wn n : Nat} {l : List Nat} {all : List Int} (h : tableOf (entry ((xs.drop 16).take 16)) wn = some (l, n)) (h2 : payload (xs.drop 32) (fl == 1) wn = some all) (h3 : all.length = wn) : openRest xs fl (wn : Int) = (0, cuts (l.take n) all) := by
  unfold openRest; rw [Int.toNat_natCast, h]; simp only; rw [h2]; simp only; rw [if_pos h3]

set_option maxHeartbeats 1000000 in
set_option maxRecDepth 100000 in
theorem open_tail2 (R : Ending → World → Prop) (b off n c g gs : Nat) (mg vr fl sm : Int) (wn : Nat) (s0 s1 s2 s3 s4 s5 s6 s7 N : Int) (ok : Bool) (xs ys : List Int) (w : World) (hh : HeadAt g w mg vr fl (wn : Int) sm) (hfl : 0 ≤ fl) (hfl2 : fl ≤ 1) (hwd2 : wn ≤ 256) (hn : xs.length = n) (hn32 : 32 ≤ n) (hnc : n ≤ c) (hc : c ≤ 9223372036854775807)
    (HS : Hid (Sl .u8 w (some ⟨b, off, none⟩) xs)) (HX : Hid (Bys xs)) (HYS : Hid ((xs.drop 16).take 16 = ys)) (HREL : Hid (TabRel ys wn s0 s1 s2 s3 s4 s5 s6 s7 N ok)) (HO : Hid (openOf xs = openRest xs fl (wn : Int)))
    (e0 : w.cell? ⟨gs, 0, none⟩ = some (.int .i64 s0)) (e1 : w.cell? ⟨gs, 1, none⟩ = some (.int .i64 s1)) (e2 : w.cell? ⟨gs, 2, none⟩ = some (.int .i64 s2)) (e3 : w.cell? ⟨gs, 3, none⟩ = some (.int .i64 s3)) (e4 : w.cell? ⟨gs, 4, none⟩ = some (.int .i64 s4)) (e5 : w.cell? ⟨gs, 5, none⟩ = some (.int .i64 s5)) (e6 : w.cell? ⟨gs, 6, none⟩ = some (.int .i64 s6)) (e7 : w.cell? ⟨gs, 7, none⟩ = some (.int .i64 s7))
    (hno : ∀ code : Nat, openOf xs = (code, []) → ∀ w', Below w.heap.size w w' → R (.returned (.tuple #[.slice none 0 0, .int .u8 (code : Int)])) w')
    (hyes : ∀ ms x k cc w', openOf xs = (0, ms) → ms.length = k → SegsAt w' (some x) ms → Below w.heap.size w w' → R (.returned (.tuple #[.slice (some x) k cc, .int .u8 0])) w')
    (u1 u2 u3 u5 u9 u10 u11 u12 u13 u14 u15 u16 u17 u18 u19 u20 u21 u22 u23 u24 u25 u26 u27 u28 u29 u30 u31 u32 u33 u34 u35 u36 u37 u38 u39 u40 u41 u42 u43 u44 u45 u46 u47 u48 u49 u50 u51 u52 u53 u54 u55 u56 u57 u58 u59 u60 u61 u62 u63 u64 u65 u66 u67 u68 u69 u70 u71 u72 u73 u74 u75 u76 u77 u78 u79 u80 u81 u82 u83 u84 u85 u86 u87 u88 u89 u90 u91 u92 u93 u94 u95 u96 u97 u98 u99 u100 : Value) :
    Code.wp Fagg.prog (bodyAt Fagg.f52 [1, 1, 1, 1]) (bodyPost Fagg.prog Fagg.f52 R) ⟨List.toArray (.slice (some ⟨b, off, none⟩) n c :: u1 :: u2 :: u3 :: .pointer (some ⟨g, 0, none⟩) :: u5 :: .pointer (some ⟨gs, 0, none⟩) :: .int .i64 N :: .bool ok :: u9 :: u10 :: u11 :: u12 :: u13 :: u14 :: u15 :: u16 :: u17 :: u18 :: u19 :: u20 :: u21 :: u22 :: u23 :: u24 :: u25 :: u26 :: u27 :: u28 :: u29 :: u30 :: u31 :: u32 :: u33 :: u34 :: u35 :: u36 :: u37 :: u38 :: u39 :: u40 :: u41 :: u42 :: u43 :: u44 :: u45 :: u46 :: u47 :: u48 :: u49 :: u50 :: u51 :: u52 :: u53 :: u54 :: u55 :: u56 :: u57 :: u58 :: u59 :: u60 :: u61 :: u62 :: u63 :: u64 :: u65 :: u66 :: u67 :: u68 :: u69 :: u70 :: u71 :: u72 :: u73 :: u74 :: u75 :: u76 :: u77 :: u78 :: u79 :: u80 :: u81 :: u82 :: u83 :: u84 :: u85 :: u86 :: u87 :: u88 :: u89 :: u90 :: u91 :: u92 :: u93 :: u94 :: u95 :: u96 :: u97 :: u98 :: u99 :: u100 :: []), []⟩ w := by
  conv => arg 2; whnf
  have HNO := hide hno
  have HYES := hide hyes
  clear hno hyes
  cases ok
  · have HT := hide (show openOf xs = (7, []) by
      rw [unhide HO]
      rcases unhide HREL with ⟨h, _⟩ | ⟨l, nn, h, h', _⟩
      · exact openRest_none (by rw [unhide HYS]; exact h)
      · cases h')
    go_wp2
    exact unhide HNO 7 (unhide HT) _ (Below.refl _ _)
  · obtain ⟨l, nn, hT, rfl, rfl, rfl, rfl, rfl, rfl, rfl, rfl, rfl⟩ : ∃ l nn, tableOf (entry ys) wn = some (l, nn) ∧ N = (nn : Int) ∧ s0 = (l.getD 0 0 : Nat) ∧ s1 = (l.getD 1 0 : Nat) ∧ s2 = (l.getD 2 0 : Nat) ∧ s3 = (l.getD 3 0 : Nat) ∧ s4 = (l.getD 4 0 : Nat) ∧ s5 = (l.getD 5 0 : Nat) ∧ s6 = (l.getD 6 0 : Nat) ∧ s7 = (l.getD 7 0 : Nat) := by
      rcases unhide HREL with ⟨h, h'⟩ | ⟨l, nn, h, _, h'⟩
      · cases h'
      · exact ⟨l, nn, h, h'⟩
    have hcs : ∀ j, j < 8 → w.cell? ⟨gs, j, none⟩ = some (.int .i64 (l.getD j 0 : Nat)) := fun j hj => by
      match j, hj with
      | 0, _ => exact e0
      | 1, _ => exact e1
      | 2, _ => exact e2
      | 3, _ => exact e3
      | 4, _ => exact e4
      | 5, _ => exact e5
      | 6, _ => exact e6
      | 7, _ => exact e7
    have HCS := hide hcs
    have HT := hide hT
    clear hT hcs e0 e1 e2 e3 e4 e5 e6 e7 HREL
    have hd2 := hh.c2
    have hd3 := hh.c3
    have h32 : (32 : Int) ≤ (n : Int) := by omega
    have hwr : IntKind.i64.wrap (wn : Int) = (wn : Int) := i64_wrap _ (by omega) (by omega)
    have HSL : Hid (∀ W, Below w.heap.size w W → Sl .u8 W (if c = 32 then some ⟨b, off, none⟩ else some ⟨b, off + 32, none⟩) (xs.drop 32)) := fun W hW => by
      have := ((unhide HS).drop 32 c (by omega)).below hW
      simpa [Addr.add_lit] using this
    have HX32 := hide ((unhide HX).drop 32)
    have HL32 := hide (show (xs.drop 32).length = n - 32 by simp; omega)
    generalize hzs : xs.drop 32 = zs at *
    have HZS := hide hzs
    clear hzs
    go_upto_region 17 with fail
    go_cut [8, 9] (fun okk al wx => ∃ (aa : Option Addr) (k cc : Nat) (ok : Bool), okk = .bool ok ∧ al = .slice aa k cc ∧ Below w.heap.size w wx ∧
       Hid ((payload zs (fl == 1) wn = none ∧ ok = false) ∨ ∃ out, payload zs (fl == 1) wn = some out ∧ ok = true ∧ wx.ownsRow w.heap.size 32 1 (.slice aa k cc) k (out.map (Value.int .u64)) ∧ out.length ≤ 256))
    case first =>
      by_cases hc32 : c = 32
      · have HS1 : Hid (∀ W, Below w.heap.size w W → Sl .u8 W (some ⟨b, off, none⟩) zs) := fun W hW => by have := unhide HSL W hW; rw [if_pos hc32] at this; exact this
        have hc3 : (c = 32) = True := by simp [hc32]
        clear hc32
        go_region_with (go_at_call 117; refine (words_one _ _ _ wn (fl == 1) zs _ ?_ (unhide HL32) ?_ ?_ (unhide HX32) hwd2).mono ?_; exact unhide HS1 _ (Below.refl _ _).drew; omega; omega; rintro e w' ⟨aa, k, cc, ok, rfl, hrel, hb⟩; have HREL := hide hrel; obtain ⟨hbc, hbf⟩ := bcell hb; have HB := hide hb; clear hrel hb)
        all_goals (go_wp2_with fail; go_meet)
        all_goals exact ⟨aa, k, cc, ok, rfl, rfl, (Below.refl _ _).drew.trans (unhide HB), HREL⟩
      · have HS1 : Hid (∀ W, Below w.heap.size w W → Sl .u8 W (some ⟨b, off + 32, none⟩) zs) := fun W hW => by have := unhide HSL W hW; rw [if_neg hc32] at this; exact this
        go_region_with (go_at_call 117; refine (words_one _ _ _ wn (fl == 1) zs _ ?_ (unhide HL32) ?_ ?_ (unhide HX32) hwd2).mono ?_; exact unhide HS1 _ (Below.refl _ _).drew; omega; omega; rintro e w' ⟨aa, k, cc, ok, rfl, hrel, hb⟩; have HREL := hide hrel; obtain ⟨hbc, hbf⟩ := bcell hb; have HB := hide hb; clear hrel hb)
        all_goals (go_wp2_with fail; go_meet)
        all_goals exact ⟨aa, k, cc, ok, rfl, rfl, (Below.refl _ _).drew.trans (unhide HB), HREL⟩
    case rest =>
      obtain ⟨aa, k, cc, ok, rfl, rfl, hbx, HREL⟩ := hcut
      have hd3' := (hh.same hbx).c3
      cases ok
      · have HE := hide (show openOf xs = (8, []) by
          rw [unhide HO]
          rcases unhide HREL with ⟨h, _⟩ | ⟨out, h, h', _⟩
          · exact openRest_load (l := l) (n := nn) (by rw [unhide HYS]; exact unhide HT) (by rw [unhide HZS]; exact h)
          · cases h')
        go_wp2
        exact unhide HNO 8 (unhide HE) _ hbx
      · obtain ⟨all, hpay, hown, hal⟩ : ∃ out, payload zs (fl == 1) wn = some out ∧ wc.ownsRow w.heap.size 32 1 (.slice aa k cc) k (out.map (Value.int .u64)) ∧ out.length ≤ 256 := by
          rcases unhide HREL with ⟨h, h'⟩ | ⟨out, h, _, h'⟩
          · cases h'
          · exact ⟨out, h, h'⟩
        obtain ⟨hk, hkc, hsl, hblk⟩ := Sl.of_own hown
        by_cases hkw : k = wn
        · have ekw : ((k : Int) != (wn : Int)) = false := by simp [hkw]
          have HE := hide (show openOf xs = (0, cuts (l.take nn) all) by
            rw [unhide HO]
            exact openRest_ok (by rw [unhide HYS]; exact unhide HT) (by rw [unhide HZS]; exact hpay) (by omega))
          have HTF := hide (tableOf_facts (unhide HT))
          have hsum := (unhide HTF).2.2.1
          have hpos := (unhide HTF).2.2.2.1
          have hst := sum_take_le l 1
          have hs0 : (l.take 1).sum = l.getD 0 0 := by have := sum_take_succ l 0 (by have := (unhide HTF).1; omega); simpa using this.symm
          obtain ⟨ga, rfl⟩ : ∃ ga, aa = some ⟨ga, 0, none⟩ := by
            rcases hown.2 with ⟨h, h'⟩ | ⟨gg, cap, cur, h, _⟩
            · omega
            · simp at h; exact ⟨gg, h.1⟩
          subst hk
          have HAC := hide (fun (j : Nat) (hj : j < all.length) => show wc.cell? ⟨ga, j, none⟩ = some (.int .u64 (all.getD j 0)) by
            have := hown.cellAt j (by omega)
            rw [this]
            simp [List.getD, hj])
          have hgaw : ga < wc.heap.size := World.block_lt_of_cell? wc _ (unhide HAC 0 (by omega))
          have hgsw : gs < w.heap.size := World.block_lt_of_cell? w _ (unhide HCS 0 (by omega))
          have hsz := hbx.size
          clear hkw hown hpay hsl hst hs0 hpos hblk
          refine (‹∀ (a : Act) (w : World), Code.wp Fagg.prog _ _ a w → _› _ _ ?_)
          refine wp_seq_k (fun K0 hK0 => ?_)
          have HK0 := hide hK0
          clear hK0
          go_wp2
          refine unhide HK0 _ _ ?_
          refine open_tail3 R gs ga nn cc l all wc (unhide HTF).2.1 (unhide HTF).1 ?_ hal hkc (by omega) hgaw ?_ HAC ?_ _ _ _ _ _ _ _ _ _ _ _ _ _ _ _ _ _ _ _ _ _ _ _ _ _ _ _ _ _ _ _ _ _ _ _ _ _ _ _ _ _ _ _ _ _ _ _ _ _ _ _ _ _ _ _ _ _ _ _ _ _ _ _ _ _ _ _ _ _ _ _ _ _ _ _ _ _ _ _ _ _ _ _ _ _ _ _ _ _ _ _ _ _ _ _ _ _ _
          · have h1 := sum_take_le l nn
            have h2 : (all.length : Int) = (wn : Int) := by simpa using ekw
            omega
          · intro j hj
            exact (hbx.cell (p := ⟨gs, j, none⟩) hgsw).trans (unhide HCS j hj)
          · intro x w' h1 h2
            exact unhide HYES _ x nn nn w' (unhide HE) (by rw [cuts_length]; have := (unhide HTF).1; have := (unhide HTF).2.1; simp; omega) h1 (hbx.trans (h2.mono hbx.size))
        · have ekw : ((k : Int) != (wn : Int)) = true := by simp; omega
          have HE := hide (show openOf xs = (8, []) by
            rw [unhide HO]
            exact openRest_len (l := l) (n := nn) (all := all) (by rw [unhide HYS]; exact unhide HT) (by rw [unhide HZS]; exact hpay) (by omega))
          clear hk hpay hkw hown hsl hblk
          go_wp2
          exact unhide HNO 8 (unhide HE) _ hbx
end Go.Proofs.Ygcfag
