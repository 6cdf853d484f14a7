/-
  WALKS: segwire.Open behind its header: the table.
-/
import Derived.Test.YgcfagW8b
namespace Go.Proofs.Ygcfag
open Go.RowKit
set_option linter.unusedVariables false
set_option linter.unusedSimpArgs false

set_option maxHeartbeats 1000000 in
set_option maxRecDepth 100000 in
theorem open_tail (R : Ending → World → Prop) (b off n c g : Nat) (mg vr fl wd sm : Int) (xs : List Int) (w : World) (hh : HeadAt g w mg vr fl wd sm) (hfl : 0 ≤ fl) (hfl2 : fl ≤ 1) (hwd : 0 ≤ wd) (hwd2 : wd ≤ 256) (hn : xs.length = n) (hn32 : 32 ≤ n) (hnc : n ≤ c) (hc : c ≤ 9223372036854775807)
    (HS : Hid (Sl .u8 w (some ⟨b, off, none⟩) xs)) (HX : Hid (Bys xs)) (HO : Hid (openOf xs = openRest xs fl wd))
    (hno : ∀ code : Nat, openOf xs = (code, []) → ∀ w', Below w.heap.size w w' → R (.returned (.tuple #[.slice none 0 0, .int .u8 (code : Int)])) w')
    (hyes : ∀ ms x k cc w', openOf xs = (0, ms) → ms.length = k → SegsAt w' (some x) ms → Below w.heap.size w w' → R (.returned (.tuple #[.slice (some x) k cc, .int .u8 0])) w')
    (u1 u2 u3 u5 u6 u7 u8 u9 u10 u11 u12 u13 u14 u15 u16 u17 u18 u19 u20 u21 u22 u23 u24 u25 u26 u27 u28 u29 u30 u31 u32 u33 u34 u35 u36 u37 u38 u39 u40 u41 u42 u43 u44 u45 u46 u47 u48 u49 u50 u51 u52 u53 u54 u55 u56 u57 u58 u59 u60 u61 u62 u63 u64 u65 u66 u67 u68 u69 u70 u71 u72 u73 u74 u75 u76 u77 u78 u79 u80 u81 u82 u83 u84 u85 u86 u87 u88 u89 u90 u91 u92 u93 u94 u95 u96 u97 u98 u99 u100 : Value) :
    Code.wp Fagg.prog (bodyAt Fagg.f52 [1, 1, 1]) (bodyPost Fagg.prog Fagg.f52 R) ⟨List.toArray (.slice (some ⟨b, off, none⟩) n c :: u1 :: u2 :: u3 :: .pointer (some ⟨g, 0, none⟩) :: u5 :: u6 :: u7 :: u8 :: u9 :: u10 :: u11 :: u12 :: u13 :: u14 :: u15 :: u16 :: u17 :: u18 :: u19 :: u20 :: u21 :: u22 :: u23 :: u24 :: u25 :: u26 :: u27 :: u28 :: u29 :: u30 :: u31 :: u32 :: u33 :: u34 :: u35 :: u36 :: u37 :: u38 :: u39 :: u40 :: u41 :: u42 :: u43 :: u44 :: u45 :: u46 :: u47 :: u48 :: u49 :: u50 :: u51 :: u52 :: u53 :: u54 :: u55 :: u56 :: u57 :: u58 :: u59 :: u60 :: u61 :: u62 :: u63 :: u64 :: u65 :: u66 :: u67 :: u68 :: u69 :: u70 :: u71 :: u72 :: u73 :: u74 :: u75 :: u76 :: u77 :: u78 :: u79 :: u80 :: u81 :: u82 :: u83 :: u84 :: u85 :: u86 :: u87 :: u88 :: u89 :: u90 :: u91 :: u92 :: u93 :: u94 :: u95 :: u96 :: u97 :: u98 :: u99 :: u100 :: []), []⟩ w := by
  conv => arg 2; whnf
  have HNO := hide hno
  have HYES := hide hyes
  clear hno hyes
  obtain ⟨wn, rfl⟩ := Int.eq_ofNat_of_zero_le hwd
  have hd3 := hh.c3
  have hgw := World.block_lt_of_cell? w _ hd3
  simp only at hgw
  have h1 : (32 : Int) ≤ (c : Int) := by omega
  have HST : Hid (∀ W, Below w.heap.size w W → Sl .u8 W (some ⟨b, off + 16, none⟩) ((xs.drop 16).take 16)) := fun W hW => by
    have := (((unhide HS).drop 16 c (by omega)).take 16).below hW
    rw [if_neg (by omega)] at this
    exact this
  have HL16 := hide (show ((xs.drop 16).take 16).length = 16 by simp; omega)
  have HX16 := hide (((unhide HX).drop 16).take 16)
  generalize hys : (xs.drop 16).take 16 = ys at *
  have HYS := hide hys
  clear hys
  have hwr : IntKind.i64.wrap (wn : Int) = (wn : Int) := i64_wrap _ (by omega) (by omega)
  go_upto_region 14 with fail
  go_cut [6, 7, 8] (fun p nn okk wx => ∃ (gs : Nat) (s0 s1 s2 s3 s4 s5 s6 s7 N : Int) (ok : Bool), p = .pointer (some ⟨gs, 0, none⟩) ∧ nn = .int .i64 N ∧ okk = .bool ok ∧ Hid (TabRel ys wn s0 s1 s2 s3 s4 s5 s6 s7 N ok) ∧ w.heap.size ≤ gs ∧ Below w.heap.size w wx ∧
    wx.cell? ⟨gs, 0, none⟩ = some (.int .i64 s0) ∧ wx.cell? ⟨gs, 1, none⟩ = some (.int .i64 s1) ∧ wx.cell? ⟨gs, 2, none⟩ = some (.int .i64 s2) ∧ wx.cell? ⟨gs, 3, none⟩ = some (.int .i64 s3) ∧ wx.cell? ⟨gs, 4, none⟩ = some (.int .i64 s4) ∧ wx.cell? ⟨gs, 5, none⟩ = some (.int .i64 s5) ∧ wx.cell? ⟨gs, 6, none⟩ = some (.int .i64 s6) ∧ wx.cell? ⟨gs, 7, none⟩ = some (.int .i64 s7))
  case first =>
    go_region_with (go_at_call 116; refine (table_one _ _ wn ys _ ?_ (unhide HL16) (unhide HX16) (by omega)).mono ?_; (first | exact unhide HST _ (Below.refl _ _).drew | exact unhide HST _ ((Below.refl _ _).alloc (Nat.le_refl _) _).drew); rintro e w' ⟨s0, s1, s2, s3, s4, s5, s6, s7, N, ok, rfl, hrel, hb⟩; have HREL := hide hrel; obtain ⟨hbc, hbf⟩ := bcell hb; have hbs := hb.size; have HB := hide hb; clear hrel hb)
    all_goals (go_wp2_with fail; go_meet)
    · refine ⟨_, s0, s1, s2, s3, s4, s5, s6, s7, N, ok, rfl, rfl, rfl, HREL, ?_, ?_, ?_, ?_, ?_, ?_, ?_, ?_, ?_, ?_⟩
      · simpa using hbs
      · exact ((Below.refl _ _).drew.trans (unhide HB)).alloc (by simpa using hbs) _
      all_goals simp
    · refine ⟨_, s0, s1, s2, s3, s4, s5, s6, s7, N, ok, rfl, rfl, rfl, HREL, Nat.le_refl _, ?_, ?_, ?_, ?_, ?_, ?_, ?_, ?_, ?_⟩
      · exact ((((((((((Below.refl _ _).alloc (Nat.le_refl _) _).drew.trans ((unhide HB).mono (by simp))).setCell (Nat.le_refl _) _).setCell (Nat.le_refl _) _).setCell (Nat.le_refl _) _).setCell (Nat.le_refl _) _).setCell (Nat.le_refl _) _).setCell (Nat.le_refl _) _).setCell (Nat.le_refl _) _).setCell (Nat.le_refl _) _
      all_goals go_simp
    · refine ⟨_, s0, s1, s2, s3, s4, s5, s6, s7, N, ok, rfl, rfl, rfl, HREL, Nat.le_refl _, ?_, ?_, ?_, ?_, ?_, ?_, ?_, ?_, ?_⟩
      · exact ((((((((((Below.refl _ _).alloc (Nat.le_refl _) _).drew.trans ((unhide HB).mono (by simp))).setCell (Nat.le_refl _) _).setCell (Nat.le_refl _) _).setCell (Nat.le_refl _) _).setCell (Nat.le_refl _) _).setCell (Nat.le_refl _) _).setCell (Nat.le_refl _) _).setCell (Nat.le_refl _) _).setCell (Nat.le_refl _) _
      all_goals go_simp
  case rest =>
    obtain ⟨gs, s0, s1, s2, s3, s4, s5, s6, s7, N, ok, rfl, rfl, rfl, HREL, hgs, hbx, e0, e1, e2, e3, e4, e5, e6, e7⟩ := hcut
    refine (‹∀ (a : Act) (w : World), Code.wp Fagg.prog _ _ a w → _› _ _ ?_)
    exact open_tail2 R b off n c g gs mg vr fl sm wn s0 s1 s2 s3 s4 s5 s6 s7 N ok xs ys wc (hh.same hbx) hfl hfl2 (by omega) hn hn32 hnc hc ((unhide HS).below hbx) HX HYS HREL HO e0 e1 e2 e3 e4 e5 e6 e7
      (fun code h w' hb => unhide HNO code h w' (hbx.trans (hb.mono hbx.size))) (fun ms x k cc w' h1 h2 h3 hb => unhide HYES ms x k cc w' h1 h2 h3 (hbx.trans (hb.mono hbx.size))) _ _ _ _ _ _ _ _ _ _ _ _ _ _ _ _ _ _ _ _ _ _ _ _ _ _ _ _ _ _ _ _ _ _ _ _ _ _ _ _ _ _ _ _ _ _ _ _ _ _ _ _ _ _ _ _ _ _ _ _ _ _ _ _ _ _ _ _ _ _ _ _ _ _ _ _ _ _ _ _ _ _ _ _ _ _ _ _ _ _ _ _ _ _ _ _
end Go.Proofs.Ygcfag
