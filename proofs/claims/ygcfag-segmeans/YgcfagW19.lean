/-
  WALKS: segwire.Seal's parts behind its second loop.
-/
import Derived.Test.YgcfagW18
import Derived.Test.YgcfagW17
import Derived.Test.YgcfagPlain11
namespace Go.Proofs.Ygcfag
open Go.RowKit
set_option linter.unusedVariables false
set_option linter.unusedSimpArgs false

theorem lay4_eq (xs : List Int) (s : Int) : lay4 xs s = laid4 xs s := rfl

/-- The payload. -/
def loadOf (ws : List Int) (packed : Bool) : List Int := if packed then packOf ws else ws.flatMap bytes8

theorem loadOf_bd (ws : List Int) (packed : Bool) (h : ws.length ≤ 256) : (loadOf ws packed).length ≤ 2560 ∧ Bys (loadOf ws packed) := by
  unfold loadOf
  cases packed with
  | true => have := packOf_bd _ ws (Nat.le_refl _); exact ⟨by simp only [if_true]; omega, by simpa using this.2⟩
  | false => have := flat8_len ws; exact ⟨by simp only [Bool.false_eq_true, if_false]; omega, by simpa using flat8_bys ws⟩

set_option maxHeartbeats 1000000 in
set_option maxRecDepth 100000 in
theorem seal_s3 (R : Ending → World → Prop) (B ga t cA : Nat) (packed : Bool) (ws pre : List Int) (v : Value) (w : World) (hgaB : ga < B) (hB : B ≤ w.heap.size) (ht : ws.length = t) (ht1 : 1 ≤ t) (ht2 : t ≤ 256) (htA : t ≤ cA) (hcell : ∀ j, j < t → w.cell? ⟨ga, 0 + j, none⟩ = some (.int .u64 (ws.getD j 0))) (hw : Wds ws) (hpre : pre.length = 32) (hpb : Bys pre)
    (hown : w.ownsRow B 5 1 v pre.length (pre.map (Value.int .u8)))
    (hR : ∀ vv wr, Below B w wr → wr.ownsRow B 5 1 vv (pre ++ loadOf ws packed).length ((laid4 (pre ++ loadOf ws packed) (sumF (pre ++ loadOf ws packed))).map (Value.int .u8)) → R (.returned vv) wr)
    (u0 u2 u3 u4 u5 u6 u7 u9 u10 u11 u12 u14 u15 u16 u17 u18 u19 u20 u21 u22 u23 u24 u25 u26 u27 u28 u29 u30 u31 u32 u33 u34 u35 u36 u37 u38 u39 u40 u41 u42 u43 u44 u45 u46 u47 u48 u49 u50 u51 u52 u53 u54 u55 u56 u57 u58 u59 u60 u61 u62 u63 u64 u65 u66 u67 u68 u69 u70 u71 u72 u73 u74 u75 u76 u77 u78 u79 u80 u81 u82 u83 u84 u85 u86 u87 u88 u89 u90 u91 u92 u93 u94 u95 u96 u97 u98 u99 u100 u101 u102 u103 u104 u105 u106 u107 u108 u109 u110 u111 u112 u113 u114 : Value) :
    Code.wp Fagg.prog (bodyAt Fagg.f51 [1, 1, 1, 1, 1, 1, 1, 1, 1, 1, 1]) (bodyPost Fagg.prog Fagg.f51 R) ⟨List.toArray (u0 :: (.bool packed) :: u2 :: u3 :: u4 :: u5 :: u6 :: u7 :: (.slice (some ⟨ga, 0, none⟩) t cA) :: u9 :: u10 :: u11 :: u12 :: v :: u14 :: u15 :: u16 :: u17 :: u18 :: u19 :: u20 :: u21 :: u22 :: u23 :: u24 :: u25 :: u26 :: u27 :: u28 :: u29 :: u30 :: u31 :: u32 :: u33 :: u34 :: u35 :: u36 :: u37 :: u38 :: u39 :: u40 :: u41 :: u42 :: u43 :: u44 :: u45 :: u46 :: u47 :: u48 :: u49 :: u50 :: u51 :: u52 :: u53 :: u54 :: u55 :: u56 :: u57 :: u58 :: u59 :: u60 :: u61 :: u62 :: u63 :: u64 :: u65 :: u66 :: u67 :: u68 :: u69 :: u70 :: u71 :: u72 :: u73 :: u74 :: u75 :: u76 :: u77 :: u78 :: u79 :: u80 :: u81 :: u82 :: u83 :: u84 :: u85 :: u86 :: u87 :: u88 :: u89 :: u90 :: u91 :: u92 :: u93 :: u94 :: u95 :: u96 :: u97 :: u98 :: u99 :: u100 :: u101 :: u102 :: u103 :: u104 :: u105 :: u106 :: u107 :: u108 :: u109 :: u110 :: u111 :: u112 :: u113 :: u114 :: []), []⟩ w := by
  conv => arg 2; whnf
  refine wp_seq_k (fun K0 hK0 => ?_)
  have HK0 := hide hK0
  clear hK0
  have hld := loadOf_bd ws packed (by omega)
  have HR := hide hR
  have HC := hide hcell
  have HW := hide hw
  have HT := hide ht
  have HPB := hide hpb
  have HP := hide hpre
  have HLD := hide hld
  have hpl : pre.length ≤ 10000 := by omega
  clear hR hcell hw hpb hld ht hpre
  obtain ⟨i0, hi0, hz0, hz1, hz2⟩ := info_parts info5
  cases packed with
  | true =>
    have hsl : Sl .u64 w (some ⟨ga, 0, none⟩) ws := .inr ⟨ga, 0, rfl, fun j hj => unhide HC j (by have := unhide HT; omega)⟩
    have HPK := hide (pack_any (some ⟨ga, 0, none⟩) t cA ws w hsl (unhide HT) ht1 ht2 htA (unhide HW))
    clear hsl
    generalize hp32 : pre.length = p at *
    have HP32 := hide hp32
    clear hp32
    go_wp2_with (first | (go_at_call 113; refine (unhide HPK).mono ?_; rintro e w1 ⟨v2, rfl, ho2, hl2, hb1⟩; obtain ⟨a2, c2, rfl⟩ := own_form ho2; have hown1 := hown.kept (w' := w1) (row := none) ⟨hb1.os, hb1.tape, hb1.output, hb1.size, fun k hk _ => hb1.block k hk⟩ (by cases hv : v.ownBlock <;> simp); obtain ⟨_, _, _, hs2⟩ := Sl.of_own8 ho2; have HS2 := hide hs2; have HOW1 := hide hown1; clear hs2 hown1; generalize hpk : packOf ws = pk at *; have HPKE := hide hpk; clear hpk ho2 hown; generalize hm : pk.length = m at *; have HM := hide hm; clear hm) | (at_builtin; refine wpList_append_ints .u8 rfl _ _ 33 rfl B 5 i0 (.int .u8 0) 1 Fagg.underlying33 hi0 hz0 hz1 hz2 rfl _ _ _ rfl (unhide HOW1) a2 m c2 pk rfl (unhide HM) (unhide HS2) ?_ ?_ ?_ ?_))
    · unfold maxLen; omega
    · omega
    · have := hb1.size; omega
    intro v4 w4 ho4 hg4
    have hb4 := (hb1.mono hB).grown hg4 (by have := hb1.size; omega) (fun q hq => ((unhide HOW1).lt q hq).1)
    have HO4 := hide ho4
    have hB4 : B ≤ w4.heap.size := by have := hb4.size; omega
    clear ho4 hg4
    go_wp2
    refine unhide HK0 _ _ ?_
    have e : pre ++ loadOf ws true = pre ++ pk := by unfold loadOf; rw [if_pos rfl, unhide HPKE]
    have el : (pre ++ pk).length = p + m := by rw [List.length_append, unhide HP32, unhide HM]
    have hbb : Bys (pre ++ pk) := (unhide HPB).append (by have := (unhide HLD).2; unfold loadOf at this; rw [if_pos rfl, unhide HPKE] at this; exact this)
    have HR' := unhide HR
    rw [e] at HR'
    have HP' := unhide HP
    have ho := unhide HO4
    refine seal_tail R B (pre ++ pk) v4 w4 (by omega) (by omega) hbb (by rw [el]; first | exact ho | (rw [List.map_append]; exact ho)) hB4 (fun vv wr hb ho => HR' vv wr (hb4.trans hb) ho) _ _ _ _ _ _ _ _ _ _ _ _ _ _ _ _ _ _ _ _ _ _ _ _ _ _ _ _ _ _ _ _ _ _ _ _ _ _ _ _ _ _ _ _ _ _ _ _ _ _ _ _ _ _ _ _ _ _ _ _ _ _ _ _ _ _ _ _ _ _ _ _ _ _ _ _ _ _ _ _ _ _ _ _ _ _ _ _ _ _ _ _ _ _ _ _ _ _ _ _ _ _ _ _ _ _ _ _ _ _ _ _ _ _
  | false =>
    go_wp2_with fail
    refine seal_loop4 B ga 0 t cA ws pre v w (unhide HT) ht2 (unhide HC) hgaB (unhide HW) hpl hown hB _ _ _ _ _ _ _ _ _ _ _ _ _ _ _ _ _ _ _ _ _ _ _ _ _ _ _ _ _ _ _ _ _ _ _ _ _ _ _ _ _ _ _ _ _ _ _ _ _ _ _ _ _ _ _ _ _ _ _ _ _ _ _ _ _ _ _ _ _ _ _ _ _ _ _ _ _ _ _ _ _ _ _ _ _ _ _ _ _ _ _ _ _ _ _ _ _ _ _ _ _ _ _ _ _ _ _ _ _ _ _ ?_
    intro v18 v19 v96 v97 v98 v99 v100 v101 v102 v103 v104 v105 vv wr hbr hBr hor
    have HO4 := hide hor
    clear hor
    go_wp2
    refine unhide HK0 _ _ ?_
    have e : pre ++ loadOf ws false = pre ++ ws.flatMap bytes8 := by unfold loadOf; rfl
    have hbb : Bys (pre ++ ws.flatMap bytes8) := (unhide HPB).append (by have := (unhide HLD).2; unfold loadOf at this; exact this)
    have HR' := unhide HR
    rw [e] at HR'
    have hl := (unhide HLD).1
    have hpre := unhide HP
    have hl' : (ws.flatMap bytes8).length ≤ 2560 := hl
    refine seal_tail R B (pre ++ ws.flatMap bytes8) vv wr (by simp only [List.length_append]; omega) (by simp only [List.length_append]; omega) hbb (unhide HO4) hBr (fun vv2 wr2 hb ho => HR' vv2 wr2 (hbr.trans hb) ho) _ _ _ _ _ _ _ _ _ _ _ _ _ _ _ _ _ _ _ _ _ _ _ _ _ _ _ _ _ _ _ _ _ _ _ _ _ _ _ _ _ _ _ _ _ _ _ _ _ _ _ _ _ _ _ _ _ _ _ _ _ _ _ _ _ _ _ _ _ _ _ _ _ _ _ _ _ _ _ _ _ _ _ _ _ _ _ _ _ _ _ _ _ _ _ _ _ _ _ _ _ _ _ _ _ _ _ _ _ _ _ _ _ _
end Go.Proofs.Ygcfag
