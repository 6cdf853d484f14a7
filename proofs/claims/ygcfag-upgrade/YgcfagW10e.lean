/-
  WALKS: law.ownSegCode: the payload.
-/
import Derived.Test.YgcfagW10d
namespace Go.Proofs.Ygcfag
open Go.RowKit
set_option linter.unusedVariables false
set_option linter.unusedSimpArgs false

set_option maxHeartbeats 1000000 in
set_option maxRecDepth 100000 in
theorem own_t3 (R : Ending → World → Prop) (B0 b off n c T nn nl : Nat) (fl : Int) (vm : Value) (cs : List Value) (lens l : List Nat) (xs ys : List Int) (w : World) (hB0 : B0 ≤ w.heap.size) (hnn : lens.length = nn) (hn8 : nn ≤ 8) (hn1 : 1 ≤ nn) (hsum : lens.sum = T) (hT1 : 1 ≤ T) (hT2 : T ≤ 256)
    (hfl : 0 ≤ fl) (hfl2 : fl ≤ 1) (hn : xs.length = n) (hn32 : 32 ≤ n) (hn4 : n ≤ 5000) (hnc : n ≤ c) (hc : c ≤ 9223372036854775807) (HS : Hid (Sl .u8 w (some ⟨b, off, none⟩) xs)) (HX : Hid (Bys xs))
    (HOWN : Hid (w.ownsRow B0 44 1 vm nn cs)) (HROW : Hid (Rows3 w B0 cs lens)) (HYS : Hid ((xs.drop 16).take 16 = ys)) (HT : Hid (tableOf (entry ys) T = some (l, nl))) (HLENS : Hid (lens = l.take nl))
    (hno : openRest xs fl (T : Int) = (8, []) → ∀ w', Below w.heap.size w w' → R (.returned (.tuple #[.slice none 0 0, .int .u8 8])) w')
    (hyes : ∀ ms x k cc w', openRest xs fl (T : Int) = (0, ms) → ms.length = k → SegsAt w' (some x) ms → Below B0 w w' → R (.returned (.tuple #[.slice (some x) k cc, .int .u8 0])) w')
    (u1 u2 u3 u6 u8 u9 u10 u11 u13 u14 u15 u16 u17 u18 u19 u20 u21 u22 u23 u24 u25 u26 u27 u28 u29 u30 u31 u32 u33 u34 u35 u36 u37 u38 u39 u40 u41 u42 u43 u44 u45 u46 u47 u48 u49 u50 u51 u52 u53 u54 u55 u56 u57 u58 u59 u60 u61 u62 u63 u64 u65 u66 u67 u68 u69 u70 u71 u72 u73 u74 u75 u76 u77 u78 u79 u80 u81 u82 u83 u84 u85 u86 u87 u88 u89 u90 u91 u92 u93 u94 u95 u96 u97 u98 u99 u100 u101 u102 u103 u104 u105 u106 u107 u108 u109 u110 u111 u112 u113 u114 u115 u116 u117 u118 u119 u120 u121 u122 u123 u124 u125 u126 u127 u128 u129 u130 u131 u132 u133 u134 u135 u136 u137 u138 u139 u140 u141 u142 u143 : Value) :
    Code.wp Fagg.prog (bodyAt Fagg.f54 [1, 1, 1, 1, 1, 1, 1, 1, 1, 1, 1]) (bodyPost Fagg.prog Fagg.f54 R) ⟨List.toArray (.slice (some ⟨b, off, none⟩) n c :: u1 :: u2 :: u3 :: .int .u64 fl :: .int .i64 (T : Int) :: u6 :: vm :: u8 :: u9 :: u10 :: u11 :: .slice none 0 0 :: u13 :: u14 :: u15 :: u16 :: u17 :: u18 :: u19 :: u20 :: u21 :: u22 :: u23 :: u24 :: u25 :: u26 :: u27 :: u28 :: u29 :: u30 :: u31 :: u32 :: u33 :: u34 :: u35 :: u36 :: u37 :: u38 :: u39 :: u40 :: u41 :: u42 :: u43 :: u44 :: u45 :: u46 :: u47 :: u48 :: u49 :: u50 :: u51 :: u52 :: u53 :: u54 :: u55 :: u56 :: u57 :: u58 :: u59 :: u60 :: u61 :: u62 :: u63 :: u64 :: u65 :: u66 :: u67 :: u68 :: u69 :: u70 :: u71 :: u72 :: u73 :: u74 :: u75 :: u76 :: u77 :: u78 :: u79 :: u80 :: u81 :: u82 :: u83 :: u84 :: u85 :: u86 :: u87 :: u88 :: u89 :: u90 :: u91 :: u92 :: u93 :: u94 :: u95 :: u96 :: u97 :: u98 :: u99 :: u100 :: u101 :: u102 :: u103 :: u104 :: u105 :: u106 :: u107 :: u108 :: u109 :: u110 :: u111 :: u112 :: u113 :: u114 :: u115 :: u116 :: u117 :: u118 :: u119 :: u120 :: u121 :: u122 :: u123 :: u124 :: u125 :: u126 :: u127 :: u128 :: u129 :: u130 :: u131 :: u132 :: u133 :: u134 :: u135 :: u136 :: u137 :: u138 :: u139 :: u140 :: u141 :: u142 :: u143 :: []), []⟩ w := by
  conv => arg 2; whnf
  have HNO := hide hno
  have HYES := hide hyes
  clear hno hyes
  refine wp_seq_k (fun K0 hK0 => ?_)
  have HK0 := hide hK0
  clear hK0
  have hsl := (unhide HS).drop 32 c (by omega)
  have hxz := (unhide HX).drop 32
  have hlz : (xs.drop 32).length = n - 32 := by simp; omega
  by_cases hf : fl = 1
  · have e1 : (fl == 1) = true := by simp [hf]
    have HP := hide (show payload (xs.drop 32) (fl == 1) T = unpack (xs.drop 32) by rw [e1]; rfl)
    clear hf
    have h32 : (32 : Int) ≤ (n : Int) := by omega
    by_cases hc32 : c = 32
    · rw [if_pos hc32] at hsl
      have hc3 : (c = 32) = True := by simp [hc32]
      have HUN := hide (unpack_any (some ⟨b, off, none⟩) (n - 32) (c - 32) (xs.drop 32) w hsl hlz (by omega) (by omega) hxz)
      clear hc32 hsl hxz hlz
      go_wp2_with fail
      refine (unhide HUN).mono ?_
      rintro e w1 ⟨hb1, h⟩
      rcases h with ⟨h1, rfl⟩ | ⟨v, all, h1, rfl, ho, hl⟩
      · have HN := hide (unhide HNO (openRest_load (by rw [unhide HYS]; exact unhide HT) (by rw [unhide HP]; exact h1)) w1 hb1)
        clear h1
        go_wp2
        exact unhide HN
      · have H1 := hide h1
        have HAL := hide ho
        clear h1 ho
        go_wp2
        refine unhide HK0 _ _ ?_
        exact own_t2 R B0 T nn v vm cs lens all w w1 hnn hn8 hn1 hsum hT1 hT2 hl HOWN HROW hb1 HAL
          (fun hne => unhide HNO (openRest_len (by rw [unhide HYS]; exact unhide HT) (by rw [unhide HP]; exact unhide H1) hne) w1 hb1)
          (fun heq x k cc w' hk hs hb2 => unhide HYES _ x k cc w' (by rw [openRest_ok (by rw [unhide HYS]; exact unhide HT) (by rw [unhide HP]; exact unhide H1) heq, unhide HLENS]) (by rw [cuts_length]; omega) hs ((hb1.mono hB0).trans hb2)) _ _ _ _ _ _ _ _ _ _ _ _ _ _ _ _ _ _ _ _ _ _ _ _ _ _ _ _ _ _ _ _ _ _ _ _ _ _ _ _ _ _ _ _ _ _ _ _ _ _ _ _ _ _ _ _ _ _ _ _ _ _ _ _ _ _ _ _ _ _ _ _ _ _ _ _ _ _ _ _ _ _ _ _ _ _ _ _ _ _ _ _ _ _ _ _ _ _ _ _ _ _ _ _ _ _ _ _ _ _ _ _ _ _ _ _ _ _ _ _ _ _ _ _ _ _ _ _ _ _ _ _ _ _ _ _ _ _ _ _ _

    · rw [if_neg hc32] at hsl
      have HUN := hide (unpack_any (some ⟨b, off + 32, none⟩) (n - 32) (c - 32) (xs.drop 32) w hsl hlz (by omega) (by omega) hxz)
      clear hsl hxz hlz
      go_wp2_with fail
      refine (unhide HUN).mono ?_
      rintro e w1 ⟨hb1, h⟩
      rcases h with ⟨h1, rfl⟩ | ⟨v, all, h1, rfl, ho, hl⟩
      · have HN := hide (unhide HNO (openRest_load (by rw [unhide HYS]; exact unhide HT) (by rw [unhide HP]; exact h1)) w1 hb1)
        clear h1
        go_wp2
        exact unhide HN
      · have H1 := hide h1
        have HAL := hide ho
        clear h1 ho
        go_wp2
        refine unhide HK0 _ _ ?_
        exact own_t2 R B0 T nn v vm cs lens all w w1 hnn hn8 hn1 hsum hT1 hT2 hl HOWN HROW hb1 HAL
          (fun hne => unhide HNO (openRest_len (by rw [unhide HYS]; exact unhide HT) (by rw [unhide HP]; exact unhide H1) hne) w1 hb1)
          (fun heq x k cc w' hk hs hb2 => unhide HYES _ x k cc w' (by rw [openRest_ok (by rw [unhide HYS]; exact unhide HT) (by rw [unhide HP]; exact unhide H1) heq, unhide HLENS]) (by rw [cuts_length]; omega) hs ((hb1.mono hB0).trans hb2)) _ _ _ _ _ _ _ _ _ _ _ _ _ _ _ _ _ _ _ _ _ _ _ _ _ _ _ _ _ _ _ _ _ _ _ _ _ _ _ _ _ _ _ _ _ _ _ _ _ _ _ _ _ _ _ _ _ _ _ _ _ _ _ _ _ _ _ _ _ _ _ _ _ _ _ _ _ _ _ _ _ _ _ _ _ _ _ _ _ _ _ _ _ _ _ _ _ _ _ _ _ _ _ _ _ _ _ _ _ _ _ _ _ _ _ _ _ _ _ _ _ _ _ _ _ _ _ _ _ _ _ _ _ _ _ _ _ _ _ _ _

  · have e1 : (fl == 1) = false := by simp [hf]
    clear hf
    by_cases hl8 : n = 32 + 8 * T
    · have e2 : ((n : Int) != 32 + 8 * (T : Int)) = false := by simp; omega
      have HP := hide (show payload (xs.drop 32) (fl == 1) T = some (plainWords (xs.drop 32) T) by rw [e1]; simp [payload]; omega)
      have HL8 := hide hl8
      clear hl8 hsl hxz hlz
      go_wp2_with fail
      refine own_loop2 _ n c T xs w (unhide HS) hn hnc (unhide HX) (unhide HL8) hT2 _ _ _ _ _ _ _ _ _ _ _ _ _ _ _ _ _ _ _ _ _ _ _ _ _ _ _ _ _ _ _ _ _ _ _ _ _ _ _ _ _ _ _ _ _ _ _ _ _ _ _ _ _ _ _ _ _ _ _ _ _ _ _ _ _ _ _ _ _ _ _ _ _ _ _ _ _ _ _ _ _ _ _ _ _ _ _ _ _ _ _ _ _ _ _ _ _ _ _ _ _ _ _ _ _ _ _ _ _ _ _ _ _ _ _ _ _ _ _ _ _ _ _ _ _ _ _ _ _ _ _ _ _ _ _ _ _ _ _ _ _ ?_
      intro v15 v108 v109 v110 v111 v112 v113 v114 v115 v116 v117 v118 v119 vv wr hbr ho
      have HAL := hide (show wr.ownsRow w.heap.size 32 1 vv (plainWords (xs.drop 32) T).length ((plainWords (xs.drop 32) T).map (Value.int .u64)) by simpa [plainWords] using ho)
      clear ho
      go_wp2
      refine unhide HK0 _ _ ?_
      exact own_t2 R B0 T nn vv vm cs lens (plainWords (xs.drop 32) T) w wr hnn hn8 hn1 hsum hT1 hT2 (by simp [plainWords]; omega) HOWN HROW hbr HAL
        (fun hne => absurd (by simp [plainWords]) hne)
        (fun heq x k cc w' hk hs hb2 => unhide HYES _ x k cc w' (by rw [openRest_ok (by rw [unhide HYS]; exact unhide HT) (unhide HP) heq, unhide HLENS]) (by rw [cuts_length]; omega) hs ((hbr.mono hB0).trans hb2)) _ _ _ _ _ _ _ _ _ _ _ _ _ _ _ _ _ _ _ _ _ _ _ _ _ _ _ _ _ _ _ _ _ _ _ _ _ _ _ _ _ _ _ _ _ _ _ _ _ _ _ _ _ _ _ _ _ _ _ _ _ _ _ _ _ _ _ _ _ _ _ _ _ _ _ _ _ _ _ _ _ _ _ _ _ _ _ _ _ _ _ _ _ _ _ _ _ _ _ _ _ _ _ _ _ _ _ _ _ _ _ _ _ _ _ _ _ _ _ _ _ _ _ _ _ _ _ _ _ _ _ _ _ _ _ _ _ _ _ _ _
    · have e2 : ((n : Int) != 32 + 8 * (T : Int)) = true := by simp; omega
      have HN := hide (unhide HNO (openRest_load (by rw [unhide HYS]; exact unhide HT) (by rw [e1]; simp [payload]; omega)) w (Below.refl _ _))
      clear hl8 hsl hxz hlz
      go_wp2
      exact unhide HN
end Go.Proofs.Ygcfag
