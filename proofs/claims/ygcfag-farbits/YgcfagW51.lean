/-
  WALKS: law.ownResolve: double far pointers.
-/
import Derived.Test.YgcfagW50
namespace Go.Proofs.Ygcfag
open Go.RowKit
set_option linter.unusedVariables false
set_option linter.unusedSimpArgs false

theorem nat_fffc4 (a : Nat) : (a &&& 4294967292) % 4 = 0 := by
  have hm : (a &&& 4294967292) % 2 ^ 2 = a % 2 ^ 2 &&& 4294967292 % 2 ^ 2 := Nat.and_mod_two_pow
  simpa using hm

theorem and_fffc0 (x : Int) (h0 : 0 ≤ x) (h1 : x < 18446744073709551616) : (bits .and .u64 x 4294967292 != 0) = decide (x / 4 % 1073741824 ≠ 0) := by
  obtain ⟨a, rfl⟩ := Int.eq_ofNat_of_zero_le h0
  have h := nat_fffc a
  have h4 := nat_fffc4 a
  have e : bits .and .u64 (a : Int) 4294967292 = ((a &&& 4294967292 : Nat) : Int) := u64_and_nat a 4294967292 (by omega) (by omega)
  rw [e]
  generalize a &&& 4294967292 = z at *
  by_cases hz : (a : Int) / 4 % 1073741824 = 0
  · have : (z : Int) = 0 := by omega
    simp [hz, this]
  · have : (z : Int) ≠ 0 := by omega
    simp [hz]; omega

set_option maxHeartbeats 4000000 in
set_option maxRecDepth 100000 in
theorem own_far2 (R : Ending → World → Prop) (A b off n c s i L c2 b2 o2 : Nat) (ms : List (List Int)) (x : Int) (w : World) (hs : SegsAt w (some ⟨b, off, none⟩) ms) (hn : ms.length = n) (hf : fitsOf ms = true) (hw : ∀ i, Wds (ms.getD i [])) (hsn : s < n) (hil : i < L) (hLL : (ms.getD s []).length = L) (hbw : b < w.heap.size) (hbw2 : b2 < w.heap.size) (hc1 : w.cell? ⟨b, off + s, none⟩ = some (.slice (some ⟨b2, o2, none⟩) L c2)) (hc2 : w.cell? ⟨b2, o2 + i, none⟩ = some (.int .u64 x)) (hx : 0 ≤ x ∧ x < 18446744073709551616)
    (h7 : Z7 w A) (h3 : Z3 w (A + 1)) (h9 : Z3 w (A + 1 + 1)) (hAw : w.heap.size = A + 1 + 1 + 1) (hr : x % 4 = 2) (t pad L3 c3 b3 o3 : Nat) (y : Int) (htn : t < n) (hL3 : (ms.getD t []).length = L3) (hbw3 : b3 < w.heap.size) (ht1 : w.cell? ⟨b, off + t, none⟩ = some (.slice (some ⟨b3, o3, none⟩) L3 c3)) (ht2 : w.cell? ⟨b3, o3 + pad, none⟩ = some (.int .u64 y)) (hy : 0 ≤ y ∧ y < 18446744073709551616) (T : Int) (hd : x / 4 % 2 = 1) (hfo : farOf ms x 2 = some (t, pad)) (hpl : pad + 2 ≤ L3) (ht3 : w.cell? ⟨b3, o3 + (pad + 1), none⟩ = some (.int .u64 T)) (hT : 0 ≤ T ∧ T < 18446744073709551616) (hyw : wordOf ms t pad = y) (hTw : wordOf ms t (pad + 1) = T)
    (HR : Hid (∀ w', Below A w w' → R (.returned (spRes (doubleOf ms x))) w'))
    (u3 u4 u5 u10 u11 u12 u13 u14 u15 u16 u17 u18 u19 u20 u21 u22 u23 u24 u25 u26 u27 u28 u29 u30 u31 u32 u33 u34 u35 u36 u37 u38 u39 u40 u41 u42 u43 u44 u45 u46 u47 u48 u49 u50 u51 u52 u53 u54 u55 u56 u57 u58 u59 u60 u61 u62 u63 u64 u65 u66 u67 u68 u69 u70 u71 u72 u73 u74 u75 u76 u77 u78 u79 u80 u81 u82 u83 u84 u85 u86 u87 u88 u89 u90 u91 u92 u93 u94 u95 u96 u97 u98 u99 u100 u101 u102 u103 u104 u105 u106 u107 u108 u109 u110 u111 u112 u113 u114 u115 u116 u117 u118 u119 u120 u121 u122 u123 u124 u125 u126 u127 u128 u129 u130 u131 u132 u133 u134 u135 u136 u137 u138 u139 u140 u141 u142 u143 u144 u145 u146 u147 u148 u149 u150 u151 u152 u153 u154 : Value) :
    Code.wp Fagg.prog (bodyAt Fagg.f29 [1, 1]) (bodyPost Fagg.prog Fagg.f29 R) ⟨List.toArray ((.slice (some ⟨b, off, none⟩) n c) :: (.int .i64 (s : Int)) :: (.int .i64 (i : Int)) :: u3 :: u4 :: u5 :: (.pointer (some ⟨A, 0, none⟩)) :: (.pointer (some ⟨A + 1, 0, none⟩)) :: (.bool false) :: (.pointer (some ⟨A + 1 + 1, 0, none⟩)) :: u10 :: u11 :: u12 :: u13 :: u14 :: u15 :: u16 :: u17 :: u18 :: u19 :: u20 :: u21 :: u22 :: u23 :: u24 :: u25 :: u26 :: u27 :: u28 :: u29 :: u30 :: u31 :: u32 :: u33 :: u34 :: u35 :: u36 :: u37 :: u38 :: u39 :: u40 :: u41 :: u42 :: u43 :: u44 :: u45 :: u46 :: u47 :: u48 :: u49 :: u50 :: u51 :: u52 :: u53 :: u54 :: u55 :: u56 :: u57 :: u58 :: u59 :: u60 :: u61 :: u62 :: u63 :: u64 :: u65 :: u66 :: u67 :: u68 :: u69 :: u70 :: u71 :: u72 :: u73 :: u74 :: u75 :: u76 :: u77 :: u78 :: u79 :: u80 :: u81 :: u82 :: u83 :: u84 :: u85 :: u86 :: u87 :: u88 :: u89 :: u90 :: u91 :: u92 :: u93 :: u94 :: u95 :: u96 :: u97 :: u98 :: u99 :: u100 :: u101 :: u102 :: u103 :: u104 :: u105 :: u106 :: u107 :: u108 :: u109 :: u110 :: u111 :: u112 :: u113 :: u114 :: u115 :: u116 :: u117 :: u118 :: u119 :: u120 :: u121 :: u122 :: u123 :: u124 :: u125 :: u126 :: u127 :: u128 :: u129 :: u130 :: u131 :: u132 :: u133 :: u134 :: u135 :: u136 :: u137 :: u138 :: u139 :: u140 :: u141 :: u142 :: u143 :: u144 :: u145 :: u146 :: u147 :: u148 :: u149 :: u150 :: u151 :: u152 :: u153 :: u154 :: []), []⟩ w := by
  conv => arg 2; whnf
  obtain ⟨hn1, hn8, hl⟩ := fits_facts hf
  have hL256 := hl s
  have hi256 : i < 256 := by omega
  have hs8 : s < 8 := by omega
  have H7 := hide h7
  have H3 := hide h3
  have H9 := hide h9
  clear h7 h3 h9
  have h3a := and_3 x hx.1 hx.2
  rw [hr] at h3a
  have h1a := and_1 (x / 4) (by omega) (by omega)
  rw [hd] at h1a
  have hl3 := hl t
  have HF1 := hide (fun W (hW : Below w.heap.size w W) => ownFar_any (some ⟨b, off, none⟩) n c ms x 2 W (hs.below hW) hn (by omega) (by omega) hl hx.1 hx.2 (by omega))
  rw [hfo] at HF1
  simp only [farW] at HF1
  have HF2 := hide (fun W (hW : Below w.heap.size w W) => ownFar_any (some ⟨b, off, none⟩) n c ms y 0 W (hs.below hW) hn (by omega) (by omega) hl hy.1 hy.2 (by omega))
  have HD := hide (show doubleOf ms x = if y % 8 ≠ 2 ∨ T = 0 ∨ T / 4 % 1073741824 ≠ 0 then none else match farOf ms y 0 with
      | none => none
      | some (o, f) => match readOf (ms.getD o []) T (f : Int) (lowI o) with
        | none => none
        | some p => some ⟨(o : Int), p, (t : Int), (pad : Int), 2⟩ by unfold doubleOf; rw [hfo]; simp only [hyw, hTw]; rfl)
  have h7a := and_7 y hy.1 hy.2
  have hza := and_fffc0 T hT.1 hT.2
  have hp256 : pad < 256 := by omega
  have ht8 : t < 8 := by omega
  have wt : IntKind.u8.wrap (t : Int) = (t : Int) := by rw [IntKind.wrap_u8]; omega
  have wp : IntKind.u16.wrap (pad : Int) = (pad : Int) := by rw [IntKind.wrap_u16]; omega
  have HSEG := hide hs
  have HN := hide hn
  have HLL := hide hl
  have HWW := hide hw
  clear hs hf hw hn hl hr hLL hfo hyw hL3 hd hTw
  generalize hm8 : y % 8 = m8 at *
  generalize hz4 : T / 4 % 1073741824 = z4 at *
  clear hm8 hz4
  cases hf2 : farOf ms y 0 with
  | none =>
    rw [hf2] at HF2 HD
    simp only [farW] at HF2
    have HR2 : Hid (∀ w', Below A w w' → R (.returned (spRes none)) w') := by
      have h := unhide HR
      rw [unhide HD, ite_self] at h
      exact h
    clear HD HR hf2
    by_cases h8 : m8 = 2
    · have h8' : (m8 != 2) = false := by simp [h8]
      clear h8
      go_wp2_with (first | (go_at_call 74; first | (with_reducible refine (unhide HF1 _ (Below.refl _ _)).mono ?_; rintro e w1 ⟨rfl, hw1⟩; subst hw1) | (with_reducible refine (unhide HF2 _ (drewN_below _ _)).mono ?_; rintro e w1 ⟨rfl, hw1⟩; subst hw1)))
      go_quiet (fail)
      go_wp2_with (first | (go_at_call 74; first | (with_reducible refine (unhide HF1 _ (Below.refl _ _)).mono ?_; rintro e w1 ⟨rfl, hw1⟩; subst hw1) | (with_reducible refine (unhide HF2 _ (drewN_below _ _)).mono ?_; rintro e w1 ⟨rfl, hw1⟩; subst hw1)))
      refine own_r18 (K2 := fun _ _ => True) A _ ((unhide H7).below (drewN_below _ _)) ((unhide H3).below (drewN_below _ _)) ((unhide H9).below (drewN_below _ _)) _ _ _ _ _ _ _ _ _ _ _ _ _ _ _ _ _ _ _ _ _ _ _ _ _ _ _ _ _ _ _ _ _ _ _ _ _ _ _ _ _ _ _ _ _ _ _ _ _ _ _ _ _ _ _ _ _ _ _ _ _ _ _ _ _ _ _ _ _ _ _ _ _ _ _ _ _ _ _ _ _ _ _ _ _ _ _ _ _ _ _ _ _ _ _ _ _ _ _ _ _ _ _ _ _ _ _ _ _ _ _ _ _ _ _ _ _ _ _ _ _ _ _ _ _ _ _ _ _ _ _ _ _ _ _ _ _ _ _ _ _ _ _ _ _ _ _ _ _ _ _ _ (hide ?_)
      intro v122 v123 w4 hr7 hr3 hb3
      have hb2 := (drewN_below w1 nq).mono (show A ≤ w1.heap.size by omega)
      obtain ⟨r0, r1, r2, r3, r4, r5, r6⟩ := hr7
      obtain ⟨t0, t1, t2⟩ := hr3
      have hbb := hb2.trans hb3
      go_wp2_with fail
      exact bodyPost_ret (v := spRes none) (by simp [results, Fagg.results29, go_sem, spRes, spP, padV, Sp.nil, Pt.nil, r0, r1, r2, r3, r4, r5, r6, t0, t1, t2]) rfl (unhide HR2 _ hbb)
    · have h8' : (m8 != 2) = true := by simp [h8]
      clear h8
      go_wp2_with (first | (go_at_call 74; first | (with_reducible refine (unhide HF1 _ (Below.refl _ _)).mono ?_; rintro e w1 ⟨rfl, hw1⟩; subst hw1) | (with_reducible refine (unhide HF2 _ (drewN_below _ _)).mono ?_; rintro e w1 ⟨rfl, hw1⟩; subst hw1)))
      go_quiet (fail)
      go_wp2_with (first | (go_at_call 74; first | (with_reducible refine (unhide HF1 _ (Below.refl _ _)).mono ?_; rintro e w1 ⟨rfl, hw1⟩; subst hw1) | (with_reducible refine (unhide HF2 _ (drewN_below _ _)).mono ?_; rintro e w1 ⟨rfl, hw1⟩; subst hw1)))
      refine own_r18 (K2 := fun _ _ => True) A _ ((unhide H7).below (drewN_below _ _)) ((unhide H3).below (drewN_below _ _)) ((unhide H9).below (drewN_below _ _)) _ _ _ _ _ _ _ _ _ _ _ _ _ _ _ _ _ _ _ _ _ _ _ _ _ _ _ _ _ _ _ _ _ _ _ _ _ _ _ _ _ _ _ _ _ _ _ _ _ _ _ _ _ _ _ _ _ _ _ _ _ _ _ _ _ _ _ _ _ _ _ _ _ _ _ _ _ _ _ _ _ _ _ _ _ _ _ _ _ _ _ _ _ _ _ _ _ _ _ _ _ _ _ _ _ _ _ _ _ _ _ _ _ _ _ _ _ _ _ _ _ _ _ _ _ _ _ _ _ _ _ _ _ _ _ _ _ _ _ _ _ _ _ _ _ _ _ _ _ _ _ _ (hide ?_)
      intro v122 v123 w4 hr7 hr3 hb3
      have hb2 := (drewN_below w1 nq).mono (show A ≤ w1.heap.size by omega)
      obtain ⟨r0, r1, r2, r3, r4, r5, r6⟩ := hr7
      obtain ⟨t0, t1, t2⟩ := hr3
      have hbb := hb2.trans hb3
      go_wp2_with fail
      exact bodyPost_ret (v := spRes none) (by simp [results, Fagg.results29, go_sem, spRes, spP, padV, Sp.nil, Pt.nil, r0, r1, r2, r3, r4, r5, r6, t0, t1, t2]) rfl (unhide HR2 _ hbb)
  | some r =>
    obtain ⟨o, f⟩ := r
    obtain ⟨hon, hfl⟩ := farOf_facts hf2 hy.1
    have hln := unhide HLL o
    have hnn := unhide HN
    rw [hf2] at HF2 HD
    simp only [farW] at HF2
    by_cases h8 : m8 = 2
    · have h8' : (m8 != 2) = false := by simp [h8]
      by_cases h4 : z4 = 0
      · have h4' : decide (z4 ≠ 0) = false := by simp [h4]
        rw [h4'] at hza
        obtain ⟨_, _, he, _, hcell⟩ := (unhide HSEG).get (by omega)
        simp at he
        obtain ⟨rfl, rfl⟩ := he
        obtain ⟨ao, co, hcs, _, hso⟩ := hcell o hon
        have HRW := hide (fun W (hW : Below w.heap.size w W) => readWord_any ao (ms.getD o []).length co (ms.getD o []) T (f : Int) (lowI o) W (hso.below hW) rfl (unhide HWW o) (unhide HLL o) hT.1 hT.2 (by omega) (by unfold lowI; split <;> omega))
        have HLOW := hide (fun W => lowOf_s (o : Int) W (by omega) (by omega))
        have hlo : (if (o : Int) = 0 then (1 : Int) else 0) = lowI o := by unfold lowI; split <;> split <;> omega
        rw [hlo] at HLOW
        have wo : IntKind.u8.wrap (o : Int) = (o : Int) := by rw [IntKind.wrap_u8]; omega
        clear hf2 hso hcell hlo h4'
        generalize (ms.getD o []).length = Lo at *
        cases hrd : readOf (ms.getD o []) T (f : Int) (lowI o) with
        | none =>
          have HR2 : Hid (∀ w', Below A w w' → R (.returned (spRes none)) w') := by
            have h := unhide HR
            rw [unhide HD] at h
            simp only [hrd, ite_self] at h
            exact h
          rw [hrd] at HRW
          clear HD HR hrd h8 h4
          go_wp2_with (first | (go_at_call 74; first | (with_reducible refine (unhide HF1 _ (Below.refl _ _)).mono ?_; rintro e w1 ⟨rfl, hw1⟩; subst hw1) | (with_reducible refine (unhide HF2 _ (drewN_below _ _)).mono ?_; rintro e w1 ⟨rfl, hw1⟩; subst hw1)))
          go_quiet (fail)
          go_wp2_with (first | (go_at_call 74; first | (with_reducible refine (unhide HF1 _ (Below.refl _ _)).mono ?_; rintro e w1 ⟨rfl, hw1⟩; subst hw1) | (with_reducible refine (unhide HF2 _ (drewN_below _ _)).mono ?_; rintro e w1 ⟨rfl, hw1⟩; subst hw1)))
          refine own_r19 b off n c o Lo co ao T (f : Int) (lowI o) Pt.nil false _ (by omega) (by omega) ((((drewN_below _ _).cell (p := ⟨b, off + o, none⟩) hbw)).trans hcs) (hide fun W hW => unhide HRW W ((drewN_below _ _).trans (hW.mono (drewN_below _ _).size))) HLOW _ _ _ _ _ _ _ _ _ _ _ _ _ _ _ _ _ _ _ _ _ _ _ _ _ _ _ _ _ _ _ _ _ _ _ _ _ _ _ _ _ _ _ _ _ _ _ _ _ _ _ _ _ _ _ _ _ _ _ _ _ _ _ _ _ _ _ _ _ _ _ _ _ _ _ _ _ _ _ _ _ _ _ _ _ _ _ _ _ _ _ _ _ _ _ _ _ _ _ _ _ _ _ _ _ _ _ _ _ _ _ _ _ _ _ _ _ _ _ _ _ _ _ _ _ _ _ _ _ _ _ _ _ _ _ _ _ _ _ _ _ _ _ _ _ _ _ _ _ _ _ (hide ?_)
          intro v125 v126 v127 v128 v129 v130 v131 v132 v133 v124 v134 v135 G w' hG hpt hb'
          have hbx : Below A _ w' := ((drewN_below _ _).trans (hb'.mono (drewN_below _ _).size)).mono (by omega)
          have h7' := ((unhide H7).below (drewN_below _ _)).below hb'
          have h3' := ((unhide H3).below (drewN_below _ _)).below hb'
          have h9' := ((unhide H9).below (drewN_below _ _)).below hb'
          clear hb'
          go_wp2_with fail
          refine own_r21 (K2 := fun _ _ => True) A w' h7' h3' h9' _ _ _ _ _ _ _ _ _ _ _ _ _ _ _ _ _ _ _ _ _ _ _ _ _ _ _ _ _ _ _ _ _ _ _ _ _ _ _ _ _ _ _ _ _ _ _ _ _ _ _ _ _ _ _ _ _ _ _ _ _ _ _ _ _ _ _ _ _ _ _ _ _ _ _ _ _ _ _ _ _ _ _ _ _ _ _ _ _ _ _ _ _ _ _ _ _ _ _ _ _ _ _ _ _ _ _ _ _ _ _ _ _ _ _ _ _ _ _ _ _ _ _ _ _ _ _ _ _ _ _ _ _ _ _ _ _ _ _ _ _ _ _ _ _ _ _ _ _ _ _ _ (hide ?_)
          intro v142 v143 w4 hr7 hr3 hb3
          have hb2 := hbx
          obtain ⟨r0, r1, r2, r3, r4, r5, r6⟩ := hr7
          obtain ⟨t0, t1, t2⟩ := hr3
          have hbb := hb2.trans hb3
          go_wp2_with fail
          exact bodyPost_ret (v := spRes none) (by simp [results, Fagg.results29, go_sem, spRes, spP, padV, Sp.nil, Pt.nil, r0, r1, r2, r3, r4, r5, r6, t0, t1, t2]) rfl (unhide HR2 _ hbb)
        | some q =>
          by_cases hT0 : T = 0
          · have hT0' : (T == 0) = true := by simp [hT0]
            have HR2 : Hid (∀ w', Below A w w' → R (.returned (spRes none)) w') := by
              have h := unhide HR
              rw [unhide HD, if_pos (.inr (.inl hT0))] at h
              exact h
            rw [hrd] at HRW
            clear HD HR hrd h8 h4 hT0
            go_wp2_with (first | (go_at_call 74; first | (with_reducible refine (unhide HF1 _ (Below.refl _ _)).mono ?_; rintro e w1 ⟨rfl, hw1⟩; subst hw1) | (with_reducible refine (unhide HF2 _ (drewN_below _ _)).mono ?_; rintro e w1 ⟨rfl, hw1⟩; subst hw1)))
            go_quiet (fail)
            go_wp2_with (first | (go_at_call 74; first | (with_reducible refine (unhide HF1 _ (Below.refl _ _)).mono ?_; rintro e w1 ⟨rfl, hw1⟩; subst hw1) | (with_reducible refine (unhide HF2 _ (drewN_below _ _)).mono ?_; rintro e w1 ⟨rfl, hw1⟩; subst hw1)))
            refine own_r19 b off n c o Lo co ao T (f : Int) (lowI o) q true _ (by omega) (by omega) ((((drewN_below _ _).cell (p := ⟨b, off + o, none⟩) hbw)).trans hcs) (hide fun W hW => unhide HRW W ((drewN_below _ _).trans (hW.mono (drewN_below _ _).size))) HLOW _ _ _ _ _ _ _ _ _ _ _ _ _ _ _ _ _ _ _ _ _ _ _ _ _ _ _ _ _ _ _ _ _ _ _ _ _ _ _ _ _ _ _ _ _ _ _ _ _ _ _ _ _ _ _ _ _ _ _ _ _ _ _ _ _ _ _ _ _ _ _ _ _ _ _ _ _ _ _ _ _ _ _ _ _ _ _ _ _ _ _ _ _ _ _ _ _ _ _ _ _ _ _ _ _ _ _ _ _ _ _ _ _ _ _ _ _ _ _ _ _ _ _ _ _ _ _ _ _ _ _ _ _ _ _ _ _ _ _ _ _ _ _ _ _ _ _ _ _ _ _ (hide ?_)
            intro v125 v126 v127 v128 v129 v130 v131 v132 v133 v124 v134 v135 G w' hG hpt hb'
            have hbx : Below A _ w' := ((drewN_below _ _).trans (hb'.mono (drewN_below _ _).size)).mono (by omega)
            have h7' := ((unhide H7).below (drewN_below _ _)).below hb'
            have h3' := ((unhide H3).below (drewN_below _ _)).below hb'
            have h9' := ((unhide H9).below (drewN_below _ _)).below hb'
            clear hb'
            go_wp2_with fail
            refine own_r21 (K2 := fun _ _ => True) A w' h7' h3' h9' _ _ _ _ _ _ _ _ _ _ _ _ _ _ _ _ _ _ _ _ _ _ _ _ _ _ _ _ _ _ _ _ _ _ _ _ _ _ _ _ _ _ _ _ _ _ _ _ _ _ _ _ _ _ _ _ _ _ _ _ _ _ _ _ _ _ _ _ _ _ _ _ _ _ _ _ _ _ _ _ _ _ _ _ _ _ _ _ _ _ _ _ _ _ _ _ _ _ _ _ _ _ _ _ _ _ _ _ _ _ _ _ _ _ _ _ _ _ _ _ _ _ _ _ _ _ _ _ _ _ _ _ _ _ _ _ _ _ _ _ _ _ _ _ _ _ _ _ _ _ _ _ (hide ?_)
            intro v142 v143 w4 hr7 hr3 hb3
            have hb2 := hbx
            obtain ⟨r0, r1, r2, r3, r4, r5, r6⟩ := hr7
            obtain ⟨t0, t1, t2⟩ := hr3
            have hbb := hb2.trans hb3
            go_wp2_with fail
            exact bodyPost_ret (v := spRes none) (by simp [results, Fagg.results29, go_sem, spRes, spP, padV, Sp.nil, Pt.nil, r0, r1, r2, r3, r4, r5, r6, t0, t1, t2]) rfl (unhide HR2 _ hbb)
          · have hT0' : (T == 0) = false := by simp [hT0]
            have HR2 : Hid (∀ w', Below A w w' → R (.returned (spRes (some ⟨(o : Int), q, (t : Int), (pad : Int), 2⟩))) w') := by
              have h := unhide HR
              rw [unhide HD, if_neg (by simp [h8, hT0, h4])] at h
              simp only [hrd] at h
              exact h
            rw [hrd] at HRW
            clear HD HR hrd h8 h4 hT0
            go_wp2_with (first | (go_at_call 74; first | (with_reducible refine (unhide HF1 _ (Below.refl _ _)).mono ?_; rintro e w1 ⟨rfl, hw1⟩; subst hw1) | (with_reducible refine (unhide HF2 _ (drewN_below _ _)).mono ?_; rintro e w1 ⟨rfl, hw1⟩; subst hw1)))
            go_quiet (fail)
            go_wp2_with (first | (go_at_call 74; first | (with_reducible refine (unhide HF1 _ (Below.refl _ _)).mono ?_; rintro e w1 ⟨rfl, hw1⟩; subst hw1) | (with_reducible refine (unhide HF2 _ (drewN_below _ _)).mono ?_; rintro e w1 ⟨rfl, hw1⟩; subst hw1)))
            refine own_r19 b off n c o Lo co ao T (f : Int) (lowI o) q true _ (by omega) (by omega) ((((drewN_below _ _).cell (p := ⟨b, off + o, none⟩) hbw)).trans hcs) (hide fun W hW => unhide HRW W ((drewN_below _ _).trans (hW.mono (drewN_below _ _).size))) HLOW _ _ _ _ _ _ _ _ _ _ _ _ _ _ _ _ _ _ _ _ _ _ _ _ _ _ _ _ _ _ _ _ _ _ _ _ _ _ _ _ _ _ _ _ _ _ _ _ _ _ _ _ _ _ _ _ _ _ _ _ _ _ _ _ _ _ _ _ _ _ _ _ _ _ _ _ _ _ _ _ _ _ _ _ _ _ _ _ _ _ _ _ _ _ _ _ _ _ _ _ _ _ _ _ _ _ _ _ _ _ _ _ _ _ _ _ _ _ _ _ _ _ _ _ _ _ _ _ _ _ _ _ _ _ _ _ _ _ _ _ _ _ _ _ _ _ _ _ _ _ _ (hide ?_)
            intro v125 v126 v127 v128 v129 v130 v131 v132 v133 v124 v134 v135 G w' hG hpt hb'
            have hbx : Below A _ w' := ((drewN_below _ _).trans (hb'.mono (drewN_below _ _).size)).mono (by omega)
            have h7' := ((unhide H7).below (drewN_below _ _)).below hb'
            have h3' := ((unhide H3).below (drewN_below _ _)).below hb'
            have h9' := ((unhide H9).below (drewN_below _ _)).below hb'
            clear hb'
            obtain ⟨p0, p1, p2, p3, p4, p5⟩ := hpt
            obtain ⟨a0, a1, a2, a3, a4, a5, a6, e0, e1, e2, e3, e4, e5, e6⟩ := h7'
            obtain ⟨z0, z1, z2, y0, y1, y2⟩ := h3'
            clear h9'
            go_wp2_with fail
            exact bodyPost_ret (v := spRes (some ⟨(o : Int), q, (t : Int), (pad : Int), 2⟩)) (by simp [results, Fagg.results29, go_sem, spRes, spP, padV, Sp.nil, Pt.nil, a0, a1, a2, a3, a4, a5, a6, e0, e1, e2, e3, e4, e5, e6, z0, z1, z2, y0, y1, y2, wt, wp, wo]) rfl (unhide HR2 _ (below_set73 hbx (Nat.le_refl _) (by omega) _ _ _ _ _ _ _ _ _ _))
      · have h4' : decide (z4 ≠ 0) = true := by simp [h4]
        rw [h4'] at hza
        have HR2 : Hid (∀ w', Below A w w' → R (.returned (spRes none)) w') := by
          have h := unhide HR
          rw [unhide HD, if_pos (.inr (.inr h4))] at h
          exact h
        clear HD HR h8 h4 hf2 h4'
        go_wp2_with (first | (go_at_call 74; first | (with_reducible refine (unhide HF1 _ (Below.refl _ _)).mono ?_; rintro e w1 ⟨rfl, hw1⟩; subst hw1) | (with_reducible refine (unhide HF2 _ (drewN_below _ _)).mono ?_; rintro e w1 ⟨rfl, hw1⟩; subst hw1)))
        go_quiet (fail)
        go_wp2_with (first | (go_at_call 74; first | (with_reducible refine (unhide HF1 _ (Below.refl _ _)).mono ?_; rintro e w1 ⟨rfl, hw1⟩; subst hw1) | (with_reducible refine (unhide HF2 _ (drewN_below _ _)).mono ?_; rintro e w1 ⟨rfl, hw1⟩; subst hw1)))
        refine own_r18 (K2 := fun _ _ => True) A _ ((unhide H7).below (drewN_below _ _)) ((unhide H3).below (drewN_below _ _)) ((unhide H9).below (drewN_below _ _)) _ _ _ _ _ _ _ _ _ _ _ _ _ _ _ _ _ _ _ _ _ _ _ _ _ _ _ _ _ _ _ _ _ _ _ _ _ _ _ _ _ _ _ _ _ _ _ _ _ _ _ _ _ _ _ _ _ _ _ _ _ _ _ _ _ _ _ _ _ _ _ _ _ _ _ _ _ _ _ _ _ _ _ _ _ _ _ _ _ _ _ _ _ _ _ _ _ _ _ _ _ _ _ _ _ _ _ _ _ _ _ _ _ _ _ _ _ _ _ _ _ _ _ _ _ _ _ _ _ _ _ _ _ _ _ _ _ _ _ _ _ _ _ _ _ _ _ _ _ _ _ _ (hide ?_)
        intro v122 v123 w4 hr7 hr3 hb3
        have hb2 := (drewN_below w1 nq).mono (show A ≤ w1.heap.size by omega)
        obtain ⟨r0, r1, r2, r3, r4, r5, r6⟩ := hr7
        obtain ⟨t0, t1, t2⟩ := hr3
        have hbb := hb2.trans hb3
        go_wp2_with fail
        exact bodyPost_ret (v := spRes none) (by simp [results, Fagg.results29, go_sem, spRes, spP, padV, Sp.nil, Pt.nil, r0, r1, r2, r3, r4, r5, r6, t0, t1, t2]) rfl (unhide HR2 _ hbb)
    · have h8' : (m8 != 2) = true := by simp [h8]
      have HR2 : Hid (∀ w', Below A w w' → R (.returned (spRes none)) w') := by
        have h := unhide HR
        rw [unhide HD, if_pos (.inl h8)] at h
        exact h
      clear HD HR h8 hf2
      go_wp2_with (first | (go_at_call 74; first | (with_reducible refine (unhide HF1 _ (Below.refl _ _)).mono ?_; rintro e w1 ⟨rfl, hw1⟩; subst hw1) | (with_reducible refine (unhide HF2 _ (drewN_below _ _)).mono ?_; rintro e w1 ⟨rfl, hw1⟩; subst hw1)))
      go_quiet (fail)
      go_wp2_with (first | (go_at_call 74; first | (with_reducible refine (unhide HF1 _ (Below.refl _ _)).mono ?_; rintro e w1 ⟨rfl, hw1⟩; subst hw1) | (with_reducible refine (unhide HF2 _ (drewN_below _ _)).mono ?_; rintro e w1 ⟨rfl, hw1⟩; subst hw1)))
      refine own_r18 (K2 := fun _ _ => True) A _ ((unhide H7).below (drewN_below _ _)) ((unhide H3).below (drewN_below _ _)) ((unhide H9).below (drewN_below _ _)) _ _ _ _ _ _ _ _ _ _ _ _ _ _ _ _ _ _ _ _ _ _ _ _ _ _ _ _ _ _ _ _ _ _ _ _ _ _ _ _ _ _ _ _ _ _ _ _ _ _ _ _ _ _ _ _ _ _ _ _ _ _ _ _ _ _ _ _ _ _ _ _ _ _ _ _ _ _ _ _ _ _ _ _ _ _ _ _ _ _ _ _ _ _ _ _ _ _ _ _ _ _ _ _ _ _ _ _ _ _ _ _ _ _ _ _ _ _ _ _ _ _ _ _ _ _ _ _ _ _ _ _ _ _ _ _ _ _ _ _ _ _ _ _ _ _ _ _ _ _ _ _ (hide ?_)
      intro v122 v123 w4 hr7 hr3 hb3
      have hb2 := (drewN_below w1 nq).mono (show A ≤ w1.heap.size by omega)
      obtain ⟨r0, r1, r2, r3, r4, r5, r6⟩ := hr7
      obtain ⟨t0, t1, t2⟩ := hr3
      have hbb := hb2.trans hb3
      go_wp2_with fail
      exact bodyPost_ret (v := spRes none) (by simp [results, Fagg.results29, go_sem, spRes, spP, padV, Sp.nil, Pt.nil, r0, r1, r2, r3, r4, r5, r6, t0, t1, t2]) rfl (unhide HR2 _ hbb)

end Go.Proofs.Ygcfag
