/-
  WALKS: law.ownResolve: far pointers.
-/
import Derived.Test.YgcfagW49
namespace Go.Proofs.Ygcfag
open Go.RowKit
set_option linter.unusedVariables false
set_option linter.unusedSimpArgs false

set_option maxHeartbeats 2000000 in
set_option maxRecDepth 100000 in
theorem own_far0 (R : Ending → World → Prop) (A b off n c s i L c2 b2 o2 : Nat) (ms : List (List Int)) (x : Int) (w : World) (hs : SegsAt w (some ⟨b, off, none⟩) ms) (hn : ms.length = n) (hf : fitsOf ms = true) (hw : ∀ i, Wds (ms.getD i [])) (hsn : s < n) (hil : i < L) (hLL : (ms.getD s []).length = L) (hbw : b < w.heap.size) (hbw2 : b2 < w.heap.size) (hc1 : w.cell? ⟨b, off + s, none⟩ = some (.slice (some ⟨b2, o2, none⟩) L c2)) (hc2 : w.cell? ⟨b2, o2 + i, none⟩ = some (.int .u64 x)) (hx : 0 ≤ x ∧ x < 18446744073709551616)
    (h7 : Z7 w A) (h3 : Z3 w (A + 1)) (h9 : Z3 w (A + 1 + 1)) (hAw : w.heap.size = A + 1 + 1 + 1) (hr : x % 4 = 2) (k : Int) (hk : x / 4 % 2 + 1 = k) (hkb : 0 ≤ k ∧ k ≤ 2) (hfo : farOf ms x k = none)
    (HR : Hid (∀ w', Below A w w' → R (.returned (spRes (none))) w'))
    (u3 u4 u5 u10 u11 u12 u13 u14 u15 u16 u17 u18 u19 u20 u21 u22 u23 u24 u25 u26 u27 u28 u29 u30 u31 u32 u33 u34 u35 u36 u37 u38 u39 u40 u41 u42 u43 u44 u45 u46 u47 u48 u49 u50 u51 u52 u53 u54 u55 u56 u57 u58 u59 u60 u61 u62 u63 u64 u65 u66 u67 u68 u69 u70 u71 u72 u73 u74 u75 u76 u77 u78 u79 u80 u81 u82 u83 u84 u85 u86 u87 u88 u89 u90 u91 u92 u93 u94 u95 u96 u97 u98 u99 u100 u101 u102 u103 u104 u105 u106 u107 u108 u109 u110 u111 u112 u113 u114 u115 u116 u117 u118 u119 u120 u121 u122 u123 u124 u125 u126 u127 u128 u129 u130 u131 u132 u133 u134 u135 u136 u137 u138 u139 u140 u141 u142 u143 u144 u145 u146 u147 u148 u149 u150 u151 u152 u153 u154 : Value) :
    Code.wp Fagg.prog (bodyAt Fagg.f29 [1, 1]) (bodyPost Fagg.prog Fagg.f29 R) ⟨List.toArray ((.slice (some ⟨b, off, none⟩) n c) :: (.int .i64 (s : Int)) :: (.int .i64 (i : Int)) :: u3 :: u4 :: u5 :: (.pointer (some ⟨A, 0, none⟩)) :: (.pointer (some ⟨A + 1, 0, none⟩)) :: (.bool false) :: (.pointer (some ⟨A + 1 + 1, 0, none⟩)) :: u10 :: u11 :: u12 :: u13 :: u14 :: u15 :: u16 :: u17 :: u18 :: u19 :: u20 :: u21 :: u22 :: u23 :: u24 :: u25 :: u26 :: u27 :: u28 :: u29 :: u30 :: u31 :: u32 :: u33 :: u34 :: u35 :: u36 :: u37 :: u38 :: u39 :: u40 :: u41 :: u42 :: u43 :: u44 :: u45 :: u46 :: u47 :: u48 :: u49 :: u50 :: u51 :: u52 :: u53 :: u54 :: u55 :: u56 :: u57 :: u58 :: u59 :: u60 :: u61 :: u62 :: u63 :: u64 :: u65 :: u66 :: u67 :: u68 :: u69 :: u70 :: u71 :: u72 :: u73 :: u74 :: u75 :: u76 :: u77 :: u78 :: u79 :: u80 :: u81 :: u82 :: u83 :: u84 :: u85 :: u86 :: u87 :: u88 :: u89 :: u90 :: u91 :: u92 :: u93 :: u94 :: u95 :: u96 :: u97 :: u98 :: u99 :: u100 :: u101 :: u102 :: u103 :: u104 :: u105 :: u106 :: u107 :: u108 :: u109 :: u110 :: u111 :: u112 :: u113 :: u114 :: u115 :: u116 :: u117 :: u118 :: u119 :: u120 :: u121 :: u122 :: u123 :: u124 :: u125 :: u126 :: u127 :: u128 :: u129 :: u130 :: u131 :: u132 :: u133 :: u134 :: u135 :: u136 :: u137 :: u138 :: u139 :: u140 :: u141 :: u142 :: u143 :: u144 :: u145 :: u146 :: u147 :: u148 :: u149 :: u150 :: u151 :: u152 :: u153 :: u154 :: []), []⟩ w := by
  conv => arg 2; whnf
  obtain ⟨hn1, hn8, hl⟩ := fits_facts hf
  have hL256 := hl s
  have hi256 : i < 256 := by omega
  have hs8 : s < 8 := by omega
  have H7 := hide h7
  have H3 := hide h3
  have H9 := hide h9
  clear h7 h3 h9
  have h3a := and_3 x hx.1 hx.2
  rw [hr] at h3a
  have h1a := and_1 (x / 4) (by omega) (by omega)
  have HF1 := hide (fun W (hW : Below w.heap.size w W) => ownFar_any (some ⟨b, off, none⟩) n c ms x k W (hs.below hW) hn (by omega) (by omega) hl hx.1 hx.2 hkb)
  rw [hfo] at HF1
  simp only [farW] at HF1
  have HR2 := HR
  clear hs hf hw hn hl hr hLL hfo
  generalize x / 4 % 2 = v at *
  go_wp2_with (go_at_call 74; with_reducible refine (unhide HF1 _ (Below.refl _ _)).mono ?_; rintro e w1 ⟨rfl, hw1⟩; subst hw1)
  refine own_r11 (K2 := fun _ _ => True) A _ (unhide H7) (unhide H3) (unhide H9) _ _ _ _ _ _ _ _ _ _ _ _ _ _ _ _ _ _ _ _ _ _ _ _ _ _ _ _ _ _ _ _ _ _ _ _ _ _ _ _ _ _ _ _ _ _ _ _ _ _ _ _ _ _ _ _ _ _ _ _ _ _ _ _ _ _ _ _ _ _ _ _ _ _ _ _ _ _ _ _ _ _ _ _ _ _ _ _ _ _ _ _ _ _ _ _ _ _ _ _ _ _ _ _ _ _ _ _ _ _ _ _ _ _ _ _ _ _ _ _ _ _ _ _ _ _ _ _ _ _ _ _ _ _ _ _ _ _ _ _ _ _ _ _ _ _ _ _ _ _ _ _ (hide ?_)
  intro v74 v75 w4 hr7 hr3 hb3
  have hb2 := Below.refl A w1
  obtain ⟨r0, r1, r2, r3, r4, r5, r6⟩ := hr7
  obtain ⟨t0, t1, t2⟩ := hr3
  have hbb := hb2.trans hb3
  go_wp2_with fail
  exact bodyPost_ret (v := spRes none) (by simp [results, Fagg.results29, go_sem, spRes, spP, padV, Sp.nil, Pt.nil, r0, r1, r2, r3, r4, r5, r6, t0, t1, t2]) rfl (unhide HR2 _ hbb)


set_option maxHeartbeats 4000000 in
set_option maxRecDepth 100000 in
theorem own_far1 (R : Ending → World → Prop) (A b off n c s i L c2 b2 o2 : Nat) (ms : List (List Int)) (x : Int) (w : World) (hs : SegsAt w (some ⟨b, off, none⟩) ms) (hn : ms.length = n) (hf : fitsOf ms = true) (hw : ∀ i, Wds (ms.getD i [])) (hsn : s < n) (hil : i < L) (hLL : (ms.getD s []).length = L) (hbw : b < w.heap.size) (hbw2 : b2 < w.heap.size) (hc1 : w.cell? ⟨b, off + s, none⟩ = some (.slice (some ⟨b2, o2, none⟩) L c2)) (hc2 : w.cell? ⟨b2, o2 + i, none⟩ = some (.int .u64 x)) (hx : 0 ≤ x ∧ x < 18446744073709551616)
    (h7 : Z7 w A) (h3 : Z3 w (A + 1)) (h9 : Z3 w (A + 1 + 1)) (hAw : w.heap.size = A + 1 + 1 + 1) (hr : x % 4 = 2) (t pad L3 c3 b3 o3 : Nat) (y : Int) (htn : t < n) (hL3 : (ms.getD t []).length = L3) (hbw3 : b3 < w.heap.size) (ht1 : w.cell? ⟨b, off + t, none⟩ = some (.slice (some ⟨b3, o3, none⟩) L3 c3)) (ht2 : w.cell? ⟨b3, o3 + pad, none⟩ = some (.int .u64 y)) (hy : 0 ≤ y ∧ y < 18446744073709551616) (hd : x / 4 % 2 = 0) (hfo : farOf ms x 1 = some (t, pad)) (hpl : pad < L3) (hyw : wordOf ms t pad = y) (hsl : Sl .u64 w (some ⟨b3, o3, none⟩) (ms.getD t []))
    (HR : Hid (∀ w', Below A w w' → R (.returned (spRes (singleOf ms x))) w'))
    (u3 u4 u5 u10 u11 u12 u13 u14 u15 u16 u17 u18 u19 u20 u21 u22 u23 u24 u25 u26 u27 u28 u29 u30 u31 u32 u33 u34 u35 u36 u37 u38 u39 u40 u41 u42 u43 u44 u45 u46 u47 u48 u49 u50 u51 u52 u53 u54 u55 u56 u57 u58 u59 u60 u61 u62 u63 u64 u65 u66 u67 u68 u69 u70 u71 u72 u73 u74 u75 u76 u77 u78 u79 u80 u81 u82 u83 u84 u85 u86 u87 u88 u89 u90 u91 u92 u93 u94 u95 u96 u97 u98 u99 u100 u101 u102 u103 u104 u105 u106 u107 u108 u109 u110 u111 u112 u113 u114 u115 u116 u117 u118 u119 u120 u121 u122 u123 u124 u125 u126 u127 u128 u129 u130 u131 u132 u133 u134 u135 u136 u137 u138 u139 u140 u141 u142 u143 u144 u145 u146 u147 u148 u149 u150 u151 u152 u153 u154 : Value) :
    Code.wp Fagg.prog (bodyAt Fagg.f29 [1, 1]) (bodyPost Fagg.prog Fagg.f29 R) ⟨List.toArray ((.slice (some ⟨b, off, none⟩) n c) :: (.int .i64 (s : Int)) :: (.int .i64 (i : Int)) :: u3 :: u4 :: u5 :: (.pointer (some ⟨A, 0, none⟩)) :: (.pointer (some ⟨A + 1, 0, none⟩)) :: (.bool false) :: (.pointer (some ⟨A + 1 + 1, 0, none⟩)) :: u10 :: u11 :: u12 :: u13 :: u14 :: u15 :: u16 :: u17 :: u18 :: u19 :: u20 :: u21 :: u22 :: u23 :: u24 :: u25 :: u26 :: u27 :: u28 :: u29 :: u30 :: u31 :: u32 :: u33 :: u34 :: u35 :: u36 :: u37 :: u38 :: u39 :: u40 :: u41 :: u42 :: u43 :: u44 :: u45 :: u46 :: u47 :: u48 :: u49 :: u50 :: u51 :: u52 :: u53 :: u54 :: u55 :: u56 :: u57 :: u58 :: u59 :: u60 :: u61 :: u62 :: u63 :: u64 :: u65 :: u66 :: u67 :: u68 :: u69 :: u70 :: u71 :: u72 :: u73 :: u74 :: u75 :: u76 :: u77 :: u78 :: u79 :: u80 :: u81 :: u82 :: u83 :: u84 :: u85 :: u86 :: u87 :: u88 :: u89 :: u90 :: u91 :: u92 :: u93 :: u94 :: u95 :: u96 :: u97 :: u98 :: u99 :: u100 :: u101 :: u102 :: u103 :: u104 :: u105 :: u106 :: u107 :: u108 :: u109 :: u110 :: u111 :: u112 :: u113 :: u114 :: u115 :: u116 :: u117 :: u118 :: u119 :: u120 :: u121 :: u122 :: u123 :: u124 :: u125 :: u126 :: u127 :: u128 :: u129 :: u130 :: u131 :: u132 :: u133 :: u134 :: u135 :: u136 :: u137 :: u138 :: u139 :: u140 :: u141 :: u142 :: u143 :: u144 :: u145 :: u146 :: u147 :: u148 :: u149 :: u150 :: u151 :: u152 :: u153 :: u154 :: []), []⟩ w := by
  conv => arg 2; whnf
  obtain ⟨hn1, hn8, hl⟩ := fits_facts hf
  have hL256 := hl s
  have hi256 : i < 256 := by omega
  have hs8 : s < 8 := by omega
  have H7 := hide h7
  have H3 := hide h3
  have H9 := hide h9
  clear h7 h3 h9
  have h3a := and_3 x hx.1 hx.2
  rw [hr] at h3a
  have h1a := and_1 (x / 4) (by omega) (by omega)
  rw [hd] at h1a
  have hl3 := hl t
  have HF1 := hide (fun W (hW : Below w.heap.size w W) => ownFar_any (some ⟨b, off, none⟩) n c ms x 1 W (hs.below hW) hn (by omega) (by omega) hl hx.1 hx.2 (by omega))
  rw [hfo] at HF1
  simp only [farW] at HF1
  have HSG := hide (show singleOf ms x = if y = 0 then none else match readOf (ms.getD t []) y ((pad : Int) + 1) (lowI t) with
      | none => none
      | some p => some ⟨(t : Int), p, (t : Int), (pad : Int), 1⟩ by unfold singleOf; rw [hfo]; simp only [hyw]; rfl)
  have HRW := hide (fun W (hW : Below w.heap.size w W) => readWord_any (some ⟨b3, o3, none⟩) L3 c3 (ms.getD t []) y ((pad : Int) + 1) (lowI t) W (hsl.below hW) hL3 (hw t) (by omega) hy.1 hy.2 (by omega) (by unfold lowI; split <;> omega))
  have HLOW := hide (fun W => lowOf_s (t : Int) W (by omega) (by omega))
  have hlo : (if (t : Int) = 0 then (1 : Int) else 0) = lowI t := by unfold lowI; split <;> split <;> omega
  rw [hlo] at HLOW
  have hcs := ht1
  have hp256 : pad < 256 := by omega
  have ht8 : t < 8 := by omega
  have wt : IntKind.u8.wrap (t : Int) = (t : Int) := by rw [IntKind.wrap_u8]; omega
  have wp : IntKind.u16.wrap (pad : Int) = (pad : Int) := by rw [IntKind.wrap_u16]; omega
  clear hs hf hw hn hl hr hLL hfo hsl hlo hyw hL3 hd
  cases hrd : readOf (ms.getD t []) y ((pad : Int) + 1) (lowI t) with
  | none =>
    have HR2 : Hid (∀ w', Below A w w' → R (.returned (spRes none)) w') := by
      have h := unhide HR
      rw [unhide HSG, hrd] at h
      simp only [ite_self] at h
      exact h
    rw [hrd] at HRW
    clear HSG hrd HR
    go_wp2_with (first | (go_at_call 74; first | (with_reducible refine (unhide HF1 _ (Below.refl _ _)).mono ?_; rintro e w1 ⟨rfl, hw1⟩; subst hw1)))
    go_quiet (fail)
    go_wp2_with (first | (go_at_call 74; first | (with_reducible refine (unhide HF1 _ (Below.refl _ _)).mono ?_; rintro e w1 ⟨rfl, hw1⟩; subst hw1)))
    refine own_r19 b off n c t L3 c3 (some ⟨b3, o3, none⟩) y ((pad : Int) + 1) (lowI t) Pt.nil false _ (by omega) (by omega) ((((drewN_below _ _).cell (p := ⟨b, off + t, none⟩) hbw)).trans hcs) (hide fun W hW => unhide HRW W ((drewN_below _ _).trans (hW.mono (drewN_below _ _).size))) HLOW _ _ _ _ _ _ _ _ _ _ _ _ _ _ _ _ _ _ _ _ _ _ _ _ _ _ _ _ _ _ _ _ _ _ _ _ _ _ _ _ _ _ _ _ _ _ _ _ _ _ _ _ _ _ _ _ _ _ _ _ _ _ _ _ _ _ _ _ _ _ _ _ _ _ _ _ _ _ _ _ _ _ _ _ _ _ _ _ _ _ _ _ _ _ _ _ _ _ _ _ _ _ _ _ _ _ _ _ _ _ _ _ _ _ _ _ _ _ _ _ _ _ _ _ _ _ _ _ _ _ _ _ _ _ _ _ _ _ _ _ _ _ _ _ _ _ _ _ _ _ _ (hide ?_)
    intro v125 v126 v127 v128 v129 v130 v131 v132 v133 v124 v134 v135 G w' hG hpt hb'
    have hbx : Below A _ w' := ((drewN_below _ _).trans (hb'.mono (drewN_below _ _).size)).mono (by omega)
    have h7' := ((unhide H7).below (drewN_below _ _)).below hb'
    have h3' := ((unhide H3).below (drewN_below _ _)).below hb'
    have h9' := ((unhide H9).below (drewN_below _ _)).below hb'
    clear hb'
    go_wp2_with fail
    refine own_r21 (K2 := fun _ _ => True) A w' h7' h3' h9' _ _ _ _ _ _ _ _ _ _ _ _ _ _ _ _ _ _ _ _ _ _ _ _ _ _ _ _ _ _ _ _ _ _ _ _ _ _ _ _ _ _ _ _ _ _ _ _ _ _ _ _ _ _ _ _ _ _ _ _ _ _ _ _ _ _ _ _ _ _ _ _ _ _ _ _ _ _ _ _ _ _ _ _ _ _ _ _ _ _ _ _ _ _ _ _ _ _ _ _ _ _ _ _ _ _ _ _ _ _ _ _ _ _ _ _ _ _ _ _ _ _ _ _ _ _ _ _ _ _ _ _ _ _ _ _ _ _ _ _ _ _ _ _ _ _ _ _ _ _ _ _ (hide ?_)
    intro v142 v143 w4 hr7 hr3 hb3
    have hb2 := hbx
    obtain ⟨r0, r1, r2, r3, r4, r5, r6⟩ := hr7
    obtain ⟨t0, t1, t2⟩ := hr3
    have hbb := hb2.trans hb3
    go_wp2_with fail
    exact bodyPost_ret (v := spRes none) (by simp [results, Fagg.results29, go_sem, spRes, spP, padV, Sp.nil, Pt.nil, r0, r1, r2, r3, r4, r5, r6, t0, t1, t2]) rfl (unhide HR2 _ hbb)
  | some q =>
    by_cases hy0 : y = 0
    · have hy0' : (y == 0) = true := by simp [hy0]
      have HR2 : Hid (∀ w', Below A w w' → R (.returned (spRes none)) w') := by
        have h := unhide HR
        rw [unhide HSG, if_pos hy0] at h
        exact h
      rw [hrd] at HRW
      clear HSG hrd HR hy0
      go_wp2_with (first | (go_at_call 74; first | (with_reducible refine (unhide HF1 _ (Below.refl _ _)).mono ?_; rintro e w1 ⟨rfl, hw1⟩; subst hw1)))
      go_quiet (fail)
      go_wp2_with (first | (go_at_call 74; first | (with_reducible refine (unhide HF1 _ (Below.refl _ _)).mono ?_; rintro e w1 ⟨rfl, hw1⟩; subst hw1)))
      refine own_r19 b off n c t L3 c3 (some ⟨b3, o3, none⟩) y ((pad : Int) + 1) (lowI t) q true _ (by omega) (by omega) ((((drewN_below _ _).cell (p := ⟨b, off + t, none⟩) hbw)).trans hcs) (hide fun W hW => unhide HRW W ((drewN_below _ _).trans (hW.mono (drewN_below _ _).size))) HLOW _ _ _ _ _ _ _ _ _ _ _ _ _ _ _ _ _ _ _ _ _ _ _ _ _ _ _ _ _ _ _ _ _ _ _ _ _ _ _ _ _ _ _ _ _ _ _ _ _ _ _ _ _ _ _ _ _ _ _ _ _ _ _ _ _ _ _ _ _ _ _ _ _ _ _ _ _ _ _ _ _ _ _ _ _ _ _ _ _ _ _ _ _ _ _ _ _ _ _ _ _ _ _ _ _ _ _ _ _ _ _ _ _ _ _ _ _ _ _ _ _ _ _ _ _ _ _ _ _ _ _ _ _ _ _ _ _ _ _ _ _ _ _ _ _ _ _ _ _ _ _ (hide ?_)
      intro v125 v126 v127 v128 v129 v130 v131 v132 v133 v124 v134 v135 G w' hG hpt hb'
      have hbx : Below A _ w' := ((drewN_below _ _).trans (hb'.mono (drewN_below _ _).size)).mono (by omega)
      have h7' := ((unhide H7).below (drewN_below _ _)).below hb'
      have h3' := ((unhide H3).below (drewN_below _ _)).below hb'
      have h9' := ((unhide H9).below (drewN_below _ _)).below hb'
      clear hb'
      go_wp2_with fail
      refine own_r21 (K2 := fun _ _ => True) A w' h7' h3' h9' _ _ _ _ _ _ _ _ _ _ _ _ _ _ _ _ _ _ _ _ _ _ _ _ _ _ _ _ _ _ _ _ _ _ _ _ _ _ _ _ _ _ _ _ _ _ _ _ _ _ _ _ _ _ _ _ _ _ _ _ _ _ _ _ _ _ _ _ _ _ _ _ _ _ _ _ _ _ _ _ _ _ _ _ _ _ _ _ _ _ _ _ _ _ _ _ _ _ _ _ _ _ _ _ _ _ _ _ _ _ _ _ _ _ _ _ _ _ _ _ _ _ _ _ _ _ _ _ _ _ _ _ _ _ _ _ _ _ _ _ _ _ _ _ _ _ _ _ _ _ _ _ (hide ?_)
      intro v142 v143 w4 hr7 hr3 hb3
      have hb2 := hbx
      obtain ⟨r0, r1, r2, r3, r4, r5, r6⟩ := hr7
      obtain ⟨t0, t1, t2⟩ := hr3
      have hbb := hb2.trans hb3
      go_wp2_with fail
      exact bodyPost_ret (v := spRes none) (by simp [results, Fagg.results29, go_sem, spRes, spP, padV, Sp.nil, Pt.nil, r0, r1, r2, r3, r4, r5, r6, t0, t1, t2]) rfl (unhide HR2 _ hbb)
    · have hy0' : (y == 0) = false := by simp [hy0]
      have HR2 : Hid (∀ w', Below A w w' → R (.returned (spRes (some ⟨(t : Int), q, (t : Int), (pad : Int), 1⟩))) w') := by
        have h := unhide HR
        rw [unhide HSG, if_neg hy0, hrd] at h
        exact h
      rw [hrd] at HRW
      clear HSG hrd HR hy0
      go_wp2_with (first | (go_at_call 74; first | (with_reducible refine (unhide HF1 _ (Below.refl _ _)).mono ?_; rintro e w1 ⟨rfl, hw1⟩; subst hw1)))
      go_quiet (fail)
      go_wp2_with (first | (go_at_call 74; first | (with_reducible refine (unhide HF1 _ (Below.refl _ _)).mono ?_; rintro e w1 ⟨rfl, hw1⟩; subst hw1)))
      refine own_r19 b off n c t L3 c3 (some ⟨b3, o3, none⟩) y ((pad : Int) + 1) (lowI t) q true _ (by omega) (by omega) ((((drewN_below _ _).cell (p := ⟨b, off + t, none⟩) hbw)).trans hcs) (hide fun W hW => unhide HRW W ((drewN_below _ _).trans (hW.mono (drewN_below _ _).size))) HLOW _ _ _ _ _ _ _ _ _ _ _ _ _ _ _ _ _ _ _ _ _ _ _ _ _ _ _ _ _ _ _ _ _ _ _ _ _ _ _ _ _ _ _ _ _ _ _ _ _ _ _ _ _ _ _ _ _ _ _ _ _ _ _ _ _ _ _ _ _ _ _ _ _ _ _ _ _ _ _ _ _ _ _ _ _ _ _ _ _ _ _ _ _ _ _ _ _ _ _ _ _ _ _ _ _ _ _ _ _ _ _ _ _ _ _ _ _ _ _ _ _ _ _ _ _ _ _ _ _ _ _ _ _ _ _ _ _ _ _ _ _ _ _ _ _ _ _ _ _ _ _ (hide ?_)
      intro v125 v126 v127 v128 v129 v130 v131 v132 v133 v124 v134 v135 G w' hG hpt hb'
      have hbx : Below A _ w' := ((drewN_below _ _).trans (hb'.mono (drewN_below _ _).size)).mono (by omega)
      have h7' := ((unhide H7).below (drewN_below _ _)).below hb'
      have h3' := ((unhide H3).below (drewN_below _ _)).below hb'
      have h9' := ((unhide H9).below (drewN_below _ _)).below hb'
      clear hb'
      obtain ⟨p0, p1, p2, p3, p4, p5⟩ := hpt
      obtain ⟨a0, a1, a2, a3, a4, a5, a6, e0, e1, e2, e3, e4, e5, e6⟩ := h7'
      obtain ⟨z0, z1, z2, y0, y1, y2⟩ := h3'
      clear h9'
      go_wp2_with fail
      exact bodyPost_ret (v := spRes (some ⟨(t : Int), q, (t : Int), (pad : Int), 1⟩)) (by simp [results, Fagg.results29, go_sem, spRes, spP, padV, Sp.nil, Pt.nil, a0, a1, a2, a3, a4, a5, a6, e0, e1, e2, e3, e4, e5, e6, z0, z1, z2, y0, y1, y2, wt, wp]) rfl (unhide HR2 _ (below_set73 hbx (Nat.le_refl _) (by omega) _ _ _ _ _ _ _ _ _ _))

end Go.Proofs.Ygcfag
