/-
  WALKS: law.ownResolve: near pointers.
-/
import Derived.Test.YgcfagW44
import Derived.Test.YgcfagW45
import Derived.Test.YgcfagW46
import Derived.Test.YgcfagW47
import Derived.Test.YgcfagW48
import Derived.Test.YgcfagW42
namespace Go.Proofs.Ygcfag
open Go.RowKit
set_option linter.unusedVariables false
set_option linter.unusedSimpArgs false

set_option maxHeartbeats 2000000 in
set_option maxRecDepth 100000 in
theorem own_near (R : Ending → World → Prop) (A b off n c s i L c2 b2 o2 : Nat) (ms : List (List Int)) (x : Int) (w : World) (hs : SegsAt w (some ⟨b, off, none⟩) ms) (hn : ms.length = n) (hf : fitsOf ms = true) (hw : ∀ i, Wds (ms.getD i [])) (hsn : s < n) (hil : i < L) (hLL : (ms.getD s []).length = L) (hbw : b < w.heap.size) (hbw2 : b2 < w.heap.size) (hc1 : w.cell? ⟨b, off + s, none⟩ = some (.slice (some ⟨b2, o2, none⟩) L c2)) (hc2 : w.cell? ⟨b2, o2 + i, none⟩ = some (.int .u64 x)) (hx : 0 ≤ x ∧ x < 18446744073709551616)
    (h7 : Z7 w A) (h3 : Z3 w (A + 1)) (h9 : Z3 w (A + 1 + 1)) (hAw : w.heap.size = A + 1 + 1 + 1) (hxw : wordOf ms s i = x) (hsl : Sl .u64 w (some ⟨b2, o2, none⟩) (ms.getD s [])) (hr : x % 4 ≠ 2)
    (HR : Hid (∀ w', Below A w w' → R (.returned (spRes (nearOf ms s i))) w'))
    (u3 u4 u5 u10 u11 u12 u13 u14 u15 u16 u17 u18 u19 u20 u21 u22 u23 u24 u25 u26 u27 u28 u29 u30 u31 u32 u33 u34 u35 u36 u37 u38 u39 u40 u41 u42 u43 u44 u45 u46 u47 u48 u49 u50 u51 u52 u53 u54 u55 u56 u57 u58 u59 u60 u61 u62 u63 u64 u65 u66 u67 u68 u69 u70 u71 u72 u73 u74 u75 u76 u77 u78 u79 u80 u81 u82 u83 u84 u85 u86 u87 u88 u89 u90 u91 u92 u93 u94 u95 u96 u97 u98 u99 u100 u101 u102 u103 u104 u105 u106 u107 u108 u109 u110 u111 u112 u113 u114 u115 u116 u117 u118 u119 u120 u121 u122 u123 u124 u125 u126 u127 u128 u129 u130 u131 u132 u133 u134 u135 u136 u137 u138 u139 u140 u141 u142 u143 u144 u145 u146 u147 u148 u149 u150 u151 u152 u153 u154 : Value) :
    Code.wp Fagg.prog (bodyAt Fagg.f29 [1, 1]) (bodyPost Fagg.prog Fagg.f29 R) ⟨List.toArray ((.slice (some ⟨b, off, none⟩) n c) :: (.int .i64 (s : Int)) :: (.int .i64 (i : Int)) :: u3 :: u4 :: u5 :: (.pointer (some ⟨A, 0, none⟩)) :: (.pointer (some ⟨A + 1, 0, none⟩)) :: (.bool false) :: (.pointer (some ⟨A + 1 + 1, 0, none⟩)) :: u10 :: u11 :: u12 :: u13 :: u14 :: u15 :: u16 :: u17 :: u18 :: u19 :: u20 :: u21 :: u22 :: u23 :: u24 :: u25 :: u26 :: u27 :: u28 :: u29 :: u30 :: u31 :: u32 :: u33 :: u34 :: u35 :: u36 :: u37 :: u38 :: u39 :: u40 :: u41 :: u42 :: u43 :: u44 :: u45 :: u46 :: u47 :: u48 :: u49 :: u50 :: u51 :: u52 :: u53 :: u54 :: u55 :: u56 :: u57 :: u58 :: u59 :: u60 :: u61 :: u62 :: u63 :: u64 :: u65 :: u66 :: u67 :: u68 :: u69 :: u70 :: u71 :: u72 :: u73 :: u74 :: u75 :: u76 :: u77 :: u78 :: u79 :: u80 :: u81 :: u82 :: u83 :: u84 :: u85 :: u86 :: u87 :: u88 :: u89 :: u90 :: u91 :: u92 :: u93 :: u94 :: u95 :: u96 :: u97 :: u98 :: u99 :: u100 :: u101 :: u102 :: u103 :: u104 :: u105 :: u106 :: u107 :: u108 :: u109 :: u110 :: u111 :: u112 :: u113 :: u114 :: u115 :: u116 :: u117 :: u118 :: u119 :: u120 :: u121 :: u122 :: u123 :: u124 :: u125 :: u126 :: u127 :: u128 :: u129 :: u130 :: u131 :: u132 :: u133 :: u134 :: u135 :: u136 :: u137 :: u138 :: u139 :: u140 :: u141 :: u142 :: u143 :: u144 :: u145 :: u146 :: u147 :: u148 :: u149 :: u150 :: u151 :: u152 :: u153 :: u154 :: []), []⟩ w := by
  conv => arg 2; whnf
  obtain ⟨hn1, hn8, hl⟩ := fits_facts hf
  have hL256 := hl s
  have hi256 : i < 256 := by omega
  have hs8 : s < 8 := by omega
  have H7 := hide h7
  have H3 := hide h3
  have H9 := hide h9
  clear h7 h3 h9
  have hwr : IntKind.i64.wrap ((i : Int) + 1) = (i : Int) + 1 := i64_wrap _ (by omega) (by omega)
  have HRW := hide (fun W (hW : Below w.heap.size w W) => readWord_any (some ⟨b2, o2, none⟩) L c2 (ms.getD s []) x ((i : Int) + 1) (lowI s) W (hsl.below hW) hLL (hw s) (by omega) hx.1 hx.2 (by omega) (by unfold lowI; split <;> omega))
  have HLOW := hide (fun W => lowOf_s (s : Int) W (by omega) (by omega))
  have hlo : (if (s : Int) = 0 then (1 : Int) else 0) = lowI s := by unfold lowI; split <;> split <;> omega
  rw [hlo] at HLOW
  have h3a := and_3 x hx.1 hx.2
  have hr' : (x % 4 != 2) = true := by simp [hr]
  have HNR := hide (show nearOf ms s i = match readOf (ms.getD s []) x ((i : Int) + 1) (lowI s) with
    | none => none
    | some p => if x = 0 then some Sp.nil else some ⟨(s : Int), p, 0, 0, 0⟩ by unfold nearOf; rw [hxw]; rfl)
  clear hs hf hw hn hl hsl hlo hr hLL hxw
  generalize x % 4 = r at *
  cases hrd : readOf (ms.getD s []) x ((i : Int) + 1) (lowI s) with
  | none =>
    rw [hrd] at HRW HNR
    have HR2 : Hid (∀ w', Below A w w' → R (.returned (spRes none)) w') := by have h := unhide HR; rw [unhide HNR] at h; exact h
    clear HNR hrd HR
    go_wp2_with fail
    refine own_r4 b off n c s i L c2 (some ⟨b2, o2, none⟩) x (lowI s) Pt.nil false w hsn hs8 hc1 (by omega) (hide fun W hW => by rw [hwr]; exact unhide HRW W hW) HLOW _ _ _ _ _ _ _ _ _ _ _ _ _ _ _ _ _ _ _ _ _ _ _ _ _ _ _ _ _ _ _ _ _ _ _ _ _ _ _ _ _ _ _ _ _ _ _ _ _ _ _ _ _ _ _ _ _ _ _ _ _ _ _ _ _ _ _ _ _ _ _ _ _ _ _ _ _ _ _ _ _ _ _ _ _ _ _ _ _ _ _ _ _ _ _ _ _ _ _ _ _ _ _ _ _ _ _ _ _ _ _ _ _ _ _ _ _ _ _ _ _ _ _ _ _ _ _ _ _ _ _ _ _ _ _ _ _ _ _ _ _ _ _ _ _ _ _ _ _ _ _ (hide ?_)
    intro v33 v34 v35 v36 v37 v38 v39 v40 v41 v42 v32 v43 v44 G w' hG hpt hb'
    have hb2 : Below A w w' := hb'.mono (by omega)
    have h7' := (unhide H7).below hb'
    have h3' := (unhide H3).below hb'
    have h9' := (unhide H9).below hb'
    clear hb'
    go_wp2_with fail
    refine own_r6 A false w' h7' h3' h9' _ _ _ _ _ _ _ _ _ _ _ _ _ _ _ _ _ _ _ _ _ _ _ _ _ _ _ _ _ _ _ _ _ _ _ _ _ _ _ _ _ _ _ _ _ _ _ _ _ _ _ _ _ _ _ _ _ _ _ _ _ _ _ _ _ _ _ _ _ _ _ _ _ _ _ _ _ _ _ _ _ _ _ _ _ _ _ _ _ _ _ _ _ _ _ _ _ _ _ _ _ _ _ _ _ _ _ _ _ _ _ _ _ _ _ _ _ _ _ _ _ _ _ _ _ _ _ _ _ _ _ _ _ _ _ _ _ _ _ _ _ _ _ _ _ _ _ _ _ _ _ (hide ?_)
    intro v51 v52 v53 w4 hr7 hr3 hb3
    obtain ⟨r0, r1, r2, r3, r4, r5, r6⟩ := hr7
    obtain ⟨t0, t1, t2⟩ := hr3
    have hbb := hb2.trans hb3
    go_wp2_with fail
    exact bodyPost_ret (v := spRes none) (by simp [results, Fagg.results29, go_sem, spRes, spP, padV, Sp.nil, Pt.nil, r0, r1, r2, r3, r4, r5, r6, t0, t1, t2]) rfl (unhide HR2 _ hbb)
  | some q =>
    rw [hrd] at HRW HNR
    by_cases hx0 : x = 0
    · have hx0' : (x == 0) = true := by simp [hx0]
      have hq0 : q = Pt.nil := by
        unfold readOf at hrd
        rw [if_pos hx0] at hrd
        exact (Option.some.inj hrd).symm
      subst hq0
      have HR2 : Hid (∀ w', Below A w w' → R (.returned (spRes (some Sp.nil))) w') := by have h := unhide HR; rw [unhide HNR] at h; simp only [hx0, if_true] at h; exact h
      clear HNR hrd hx0 HR
      go_wp2_with fail
      refine own_r4 b off n c s i L c2 (some ⟨b2, o2, none⟩) x (lowI s) Pt.nil true w hsn hs8 hc1 (by omega) (hide fun W hW => by rw [hwr]; exact unhide HRW W hW) HLOW _ _ _ _ _ _ _ _ _ _ _ _ _ _ _ _ _ _ _ _ _ _ _ _ _ _ _ _ _ _ _ _ _ _ _ _ _ _ _ _ _ _ _ _ _ _ _ _ _ _ _ _ _ _ _ _ _ _ _ _ _ _ _ _ _ _ _ _ _ _ _ _ _ _ _ _ _ _ _ _ _ _ _ _ _ _ _ _ _ _ _ _ _ _ _ _ _ _ _ _ _ _ _ _ _ _ _ _ _ _ _ _ _ _ _ _ _ _ _ _ _ _ _ _ _ _ _ _ _ _ _ _ _ _ _ _ _ _ _ _ _ _ _ _ _ _ _ _ _ _ _ (hide ?_)
      intro v33 v34 v35 v36 v37 v38 v39 v40 v41 v42 v32 v43 v44 G w' hG hpt hb'
      have hb2 : Below A w w' := hb'.mono (by omega)
      have h7' := (unhide H7).below hb'
      have h3' := (unhide H3).below hb'
      have h9' := (unhide H9).below hb'
      clear hb'
      go_wp2_with fail
      refine own_r6 A true w' h7' h3' h9' _ _ _ _ _ _ _ _ _ _ _ _ _ _ _ _ _ _ _ _ _ _ _ _ _ _ _ _ _ _ _ _ _ _ _ _ _ _ _ _ _ _ _ _ _ _ _ _ _ _ _ _ _ _ _ _ _ _ _ _ _ _ _ _ _ _ _ _ _ _ _ _ _ _ _ _ _ _ _ _ _ _ _ _ _ _ _ _ _ _ _ _ _ _ _ _ _ _ _ _ _ _ _ _ _ _ _ _ _ _ _ _ _ _ _ _ _ _ _ _ _ _ _ _ _ _ _ _ _ _ _ _ _ _ _ _ _ _ _ _ _ _ _ _ _ _ _ _ _ _ _ (hide ?_)
      intro v51 v52 v53 w4 hr7 hr3 hb3
      obtain ⟨r0, r1, r2, r3, r4, r5, r6⟩ := hr7
      obtain ⟨t0, t1, t2⟩ := hr3
      have hbb := hb2.trans hb3
      go_wp2_with fail
      exact bodyPost_ret (v := spRes (some Sp.nil)) (by simp [results, Fagg.results29, go_sem, spRes, spP, padV, Sp.nil, Pt.nil, r0, r1, r2, r3, r4, r5, r6, t0, t1, t2]) rfl (unhide HR2 _ hbb)
    · have hx0' : (x == 0) = false := by simp [hx0]
      have HR2 : Hid (∀ w', Below A w w' → R (.returned (spRes (some ⟨(s : Int), q, 0, 0, 0⟩))) w') := by have h := unhide HR; rw [unhide HNR] at h; simp only [hx0, if_false] at h; exact h
      clear HNR hrd hx0 HR
      go_wp2_with fail
      refine own_r4 b off n c s i L c2 (some ⟨b2, o2, none⟩) x (lowI s) q true w hsn hs8 hc1 (by omega) (hide fun W hW => by rw [hwr]; exact unhide HRW W hW) HLOW _ _ _ _ _ _ _ _ _ _ _ _ _ _ _ _ _ _ _ _ _ _ _ _ _ _ _ _ _ _ _ _ _ _ _ _ _ _ _ _ _ _ _ _ _ _ _ _ _ _ _ _ _ _ _ _ _ _ _ _ _ _ _ _ _ _ _ _ _ _ _ _ _ _ _ _ _ _ _ _ _ _ _ _ _ _ _ _ _ _ _ _ _ _ _ _ _ _ _ _ _ _ _ _ _ _ _ _ _ _ _ _ _ _ _ _ _ _ _ _ _ _ _ _ _ _ _ _ _ _ _ _ _ _ _ _ _ _ _ _ _ _ _ _ _ _ _ _ _ _ _ (hide ?_)
      intro v33 v34 v35 v36 v37 v38 v39 v40 v41 v42 v32 v43 v44 G w' hG hpt hb'
      have hb2 : Below A w w' := hb'.mono (by omega)
      have h7' := (unhide H7).below hb'
      have h3' := (unhide H3).below hb'
      have h9' := (unhide H9).below hb'
      clear hb'
      go_wp2_with fail
      refine own_r7 (K2 := fun _ _ => True) A G s q w' h7' h3' h9' (by omega) (by omega) hpt _ _ _ _ _ _ _ _ _ _ _ _ _ _ _ _ _ _ _ _ _ _ _ _ _ _ _ _ _ _ _ _ _ _ _ _ _ _ _ _ _ _ _ _ _ _ _ _ _ _ _ _ _ _ _ _ _ _ _ _ _ _ _ _ _ _ _ _ _ _ _ _ _ _ _ _ _ _ _ _ _ _ _ _ _ _ _ _ _ _ _ _ _ _ _ _ _ _ _ _ _ _ _ _ _ _ _ _ _ _ _ _ _ _ _ _ _ _ _ _ _ _ _ _ _ _ _ _ _ _ _ _ _ _ _ _ _ _ _ _ _ _ _ _ _ _ _ _ _ _ (hide ?_)
      intro v54 v55 v56 v57 v58 w4 hr7 hr3 hb3
      obtain ⟨r0, r1, r2, r3, r4, r5, r6⟩ := hr7
      obtain ⟨t0, t1, t2⟩ := hr3
      have hbb := hb2.trans hb3
      go_wp2_with fail
      exact bodyPost_ret (v := spRes (some ⟨(s : Int), q, 0, 0, 0⟩)) (by simp [results, Fagg.results29, go_sem, spRes, spP, padV, Sp.nil, Pt.nil, r0, r1, r2, r3, r4, r5, r6, t0, t1, t2]) rfl (unhide HR2 _ hbb)

end Go.Proofs.Ygcfag
