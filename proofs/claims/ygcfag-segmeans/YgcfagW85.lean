/-
  WALKS: seg.Validate.
-/
import Derived.Test.YgcfagW84
import Derived.Deep.LoopGhost
namespace Go.Proofs.Ygcfag
open Go.RowKit
set_option linter.unusedVariables false
set_option linter.unusedSimpArgs false

theorem ret_out {Q : Exit → Act → World → Prop} {K K1 : Act → World → Prop} {a : Act} {w : World} (h : Q .ret a w) : Exit.inBlock 1 (Exit.then K (Exit.inBlock 0 (Exit.then K1 Q))) .ret a w := h

set_option maxHeartbeats 1000000 in
set_option maxRecDepth 100000 in
theorem valid_any (a : Option Addr) (n c : Nat) (ms : List (List Int)) (w : World) (hs : SegsAt w a ms) (hn : ms.length = n) (hw : ∀ i, Wds (ms.getD i [])) :
    Calls Fagg.prog 31 #[.slice a n c] w fun e w' => e = .returned (.bool (validOf ms)) ∧ Below w.heap.size w w' := by
  have HFIT := hide (fits_any a n c ms w hs hn)
  cases hf : fitsOf ms with
  | false =>
    have HF := hide (show validOf ms = false by unfold validOf; rw [hf]; rfl)
    rw [hf] at HFIT
    clear hf hs hn hw
    go_enter Fagg.func31, Fagg.ntmps31
    refine wp_seq_k (fun K0 hK0 => ?_)
    have HC0 := hide hK0
    clear hK0
    go_wp2_with fail
    refine unhide HC0 _ _ ?_
    clear HC0
    refine wp_seq_k (fun K1 hK1 => ?_)
    have HC1 := hide hK1
    clear hK1
    go_wp2_with (go_at_call 66; with_reducible refine (unhide HFIT).mono ?_; rintro e w1 ⟨rfl, hw1⟩; rw [hw1]; clear hw1)
    go_ret
    exact ⟨by rw [unhide HF]; rfl, Below.refl _ _⟩
  | true =>
    obtain ⟨hn1, hn8, hlen⟩ := fits_facts hf
    have hfs := free_start hf
    have HVO := hide (show validOf ms = FB ms [(0, 0, 1)] [(8, 0, 0)] by unfold validOf; rw [hf]; simp)
    rw [hf] at HFIT
    obtain ⟨B0, off, rfl, hB0, hcell⟩ := hs.get (by omega)
    obtain ⟨Z, z1, z2, z3, z4, hal⟩ := alloc156
    obtain ⟨hsets0, hstk0⟩ := walk_start z1 z2 z3 z4 w
    have hz0 : (w.alloc (.cells Z 156)).cell? ⟨w.heap.size, 0, none⟩ = some (.int .u64 0) := by
      rw [cell_of_row _ _ 0 Z 156 (0, 0) (heap_alloc_new w _)]; exact z2 0 (by omega)
    have hzf : (w.alloc (.cells Z 156)).frozen? ⟨w.heap.size, 0, none⟩ = false := by simp
    have HS := hide hs
    have HF := hide hf
    have HW := hide hw
    have HAL := hide hal
    have HSE0 := hide hsets0
    have HST0 := hide hstk0
    have HZ0 := hide hz0
    have HZF := hide hzf
    clear hs hf hw hal hcell z1 z2 z3 z4 hsets0 hstk0 hz0 hzf
    go_enter Fagg.func31, Fagg.ntmps31
    refine wp_seq_k (fun K0 hK0 => ?_)
    have HC0 := hide hK0
    clear hK0
    go_wp2_with fail
    refine unhide HC0 _ _ ?_
    clear HC0
    refine wp_seq_k (fun K1 hK1 => ?_)
    have HC1 := hide hK1
    clear hK1
    go_wp2_with (go_at_call 66; with_reducible refine (unhide HFIT).mono ?_; rintro e w1 ⟨rfl, hw1⟩; rw [hw1]; clear hw1)
    refine unhide HC1 _ _ ?_
    clear HC1
    refine wp_seq_k (fun K2 hK2 => ?_)
    refine unhide HAL _ _ _ _ _ rfl rfl ?_
    refine hK2 _ _ ?_
    clear hK2 K2
    simp only [Act.put, List.setIfInBounds_toArray, List.set_cons_zero, List.set_cons_succ]
    refine gen_world _ (fun w' => Below w.heap.size w w' ∧ w'.cell? ⟨w.heap.size, 0, none⟩ = some (.int .u64 0) ∧ w'.frozen? ⟨w.heap.size, 0, none⟩ = false ∧ SetsAt (w'.setCell ⟨w.heap.size, 0, none⟩ (.int .u64 1)) w.heap.size [(0, 0, 1)] ∧ StackAt (w'.setCell ⟨w.heap.size, 0, none⟩ (.int .u64 1)) w.heap.size [])
      ⟨(Below.refl _ _).alloc (Nat.le_refl _) _, unhide HZ0, unhide HZF, unhide HSE0, unhide HST0⟩ ?_
    clear HZ0 HZF HSE0 HST0 HAL
    rintro w2 ⟨hb2, hz0, hzf, hse, hst⟩
    have HSE := hide hse
    have HST := hide hst
    have HB2 := hide hb2
    clear hse hst hb2
    refine wp_seq_k (fun K3 hK3 => ?_)
    have HC3 := hide hK3
    clear hK3
    go_wp2_with fail
    refine unhide HC3 _ _ ?_
    clear HC3
    refine gen_world _ (fun w' => Below w.heap.size w w' ∧ SetsAt w' w.heap.size [(0, 0, 1)] ∧ StackAt w' w.heap.size [])
      ⟨(unhide HB2).setCell (Nat.le_refl _) _, unhide HSE, unhide HST⟩ ?_
    clear HSE HST HB2 hz0 hzf
    rintro w3 ⟨hb3, hse, hst⟩
    have HPU : Hid (Calls Fagg.prog 75 #[.pointer (some ⟨w.heap.size, 0, none⟩), .int .u8 0, .int .u16 0, .int .u16 1, .int .u8 1] w3 fun e w' => e = .returned (.tuple #[]) ∧ StackAt w' w.heap.size [(0, 0, 1)] ∧ WroteS w.heap.size w3 w') := hide (push_any w.heap.size 0 0 1 1 [] w3 hst (by omega) (by simp))
    have HSE := hide hse
    have HB3 := hide hb3
    clear hse hst hb3
    refine wp_seq_k (fun K4 hK4 => ?_)
    have HC4 := hide hK4
    clear hK4
    go_wp2_with (go_at_call 75; with_reducible refine (unhide HPU).mono ?_; rintro e w4 ⟨rfl, h1, h2⟩; have H1 := hide h1; have H2 := hide h2; clear h1 h2)
    refine unhide HC4 _ _ ?_
    clear HC4
    have HV0 : Hid (VInv ms w w4 w.heap.size [(0, 0, 1)] [(0, 0, 1)] 256) := hide ⟨(unhide HSE).wroteS (unhide H2), unhide H1, by simp, by simp, rfl, by simpa using hfs, by omega, (unhide HB3).trans ((unhide H2).bel _ (Nat.le_refl _))⟩
    clear HSE H1 H2 HB3 HPU HFIT
    generalize hG : w.heap.size = g at *
    have hwg : w.heap.size ≤ g := by omega
    have HG := hide hG
    clear hG
    go_wp2_with fail
    go_loopg [] 256 (fun k wr => ∃ (L stk : List (Nat × Nat × Nat)), Hid (VInv ms w wr g L stk k))
    case atStart => exact ⟨[(0, 0, 1)], [(0, 0, 1)], HV0⟩
    case round =>
      obtain ⟨L, stk, HV⟩ := hrel
      rcases List.eq_nil_or_concat stk with rfl | ⟨st, x, rfl⟩
      · have c8 : wr.cell? ⟨g, 800, none⟩ = some (.int .u16 0) := (unhide HV).stack.cnt
        go_wp2_with fail
        go_ret
        refine ⟨?_, by rw [← unhide HG]; exact (unhide HV).bel⟩
        have hfin : FB ms [(0, 0, 1)] [(8, 0, 0)] = true := by rw [← (unhide HV).val]; simp [FB_nil]
        rw [unhide HVO, hfin]; rfl
      · obtain ⟨at_, sg, dep⟩ := x
        rw [List.concat_eq_append] at HV
        have c8 : wr.cell? ⟨g, 800, none⟩ = some (.int .u16 ((st.length : Int) + 1)) := by have := (unhide HV).stack.cnt; rw [List.length_append] at this; simpa using this
        have hpos : (st.length : Int) + 1 > 0 := by omega
        have hgk : 1 ≤ gk := by have := (unhide HV).free; rw [List.length_append] at this; simp only [List.length_cons, List.length_nil] at this; omega
        refine wp_seq_k (fun K5 hK5 => ?_)
        have HC5 := hide hK5
        clear hK5
        go_wp2_with fail
        refine unhide HC5 _ _ ?_
        clear HC5 c8
        refine wp_block ?_
        refine val_round ms B0 off n c g gk at_ sg dep L st w wr (unhide HS) hn (unhide HF) (unhide HW) hwg (unhide HV) undef undef _ _ _ _ _ _ _ _ _ _ _ _ _ _ _ _ _ _ _ _ _ _ _ _ _ _ _ _ _ _ _ _ _ _ _ _ _ _ _ _ _ _ _ _ _ _ _ _ _ _ _ _ _ _ _ _ _ _ _ _ _ _ _ _ _ _ _ _ _ _ _ _ _ _ _ _ _ _ _ _ _ _ _ _ _ (hide ?_) (hide ?_) (hide ?_)
        · intro v4 v5 v6 v7 v8 v9 v20 v21 v22 v23 v24 v25 v26 v27 v28 v29 v30 v31 v32 v33 v34 v35 v36 v37 v38 v39 v40 v41 v42 v43 v44 v45 v46 v47 v48 v49 v50 v51 v52 v53 v54 v55 v56 v57 v58 v59 v60 v61 v62 v63 v64 v65 v66 v67 v68 v69 v70 v71 v72 v73 v74 v75 v76 v77 v78 v79 v80 v81 v82 v83 v84 v85 v86 w' hfb hbb
          refine ret_out ?_
          go_ret
          exact ⟨by rw [unhide HVO, hfb]; rfl, by rw [← unhide HG]; exact hbb⟩
        · intro v4 v5 v6 v7 v8 v9 v20 v21 v22 v23 v24 v25 v26 v27 v28 v29 v30 v31 v32 v33 v34 v35 v36 v37 v38 v39 v40 v41 v42 v43 v44 v45 v46 v47 v48 v49 v50 v51 v52 v53 v54 v55 v56 v57 v58 v59 v60 v61 v62 v63 v64 v65 v66 v67 v68 v69 v70 v71 v72 v73 v74 v75 v76 v77 v78 v79 v80 v81 v82 v83 v84 v85 v86 w' L' stk' hv'
          refine (‹∀ (a' : Act) (w' : World), Handed _ _ a' w' → _› _ _ ?_)
          go_roundg (gk - 1)
          case rel => exact ⟨L', stk', hide hv'⟩
          case measure => omega
        · intro v4 v5 v6 v7 v8 v9 v20 v21 v22 v23 v24 v25 v26 v27 v28 v29 v30 v31 v32 v33 v34 v35 v36 v37 v38 v39 v40 v41 v42 v43 v44 v45 v46 v47 v48 v49 v50 v51 v52 v53 v54 v55 v56 v57 v58 v59 v60 v61 v62 v63 v64 v65 v66 v67 v68 v69 v70 v71 v72 v73 v74 v75 v76 v77 v78 v79 v80 v81 v82 v83 v84 v85 v86 w' L' stk' hv'
          refine (‹∀ (a' : Act) (w' : World), Handed _ _ a' w' → _› _ _ ?_)
          go_roundg (gk - 1)
          case rel => exact ⟨L', stk', hide hv'⟩
          case measure => omega
end Go.Proofs.Ygcfag
