/-
  THE STATEMENT SegMeansSaid, PROVED (the frame after the seat's shells).
-/
import Derived.Test.YgcfagRows
import Derived.WalkKit
import Derived.ProofKit
import Derived.OpenShut
import Derived.ShutString
import Derived.ChangeOld
import Derived.Below
import Derived.SizedLaws
import Derived.Test.YgcfagL7
import Derived.Test.YgcfagFrame
namespace Go.Proofs.Ygcfag.segMeans
open Go.ChangeShapes Go.WideShapes Go.ChangeAt Go.RowKit
open Go.ChangeMaps (open_string shut_string)
set_option linter.unusedVariables false

theorem own : ownKnob Fagg.prog.godebug = none := by kernel_rfl
theorem laidOut : laidOutB Fagg.prog = true := by kernel_rfl

theorem walk (a0 : Option Addr) (len0 cap0 : Nat) (ms : List (List Int)) (w : World) (hn : ms.length = len0) (hl : len0 ≤ cap0) (hm : cap0 ≤ maxLen) (hs : SegsAt w a0 ms) (hw : ∀ m ∈ ms, ∀ n ∈ m, (Lit.int .u64 n).wf = true) (hsz : ∀ m ∈ ms, m.length ≤ 17592186043904) :
    Calls Fagg.prog 7 #[.slice a0 len0 cap0] w fun e w' => e = .returned (.bool true) ∧ Below w.heap.size w w' := by
  unfold maxLen at hm
  refine segMeans_any a0 len0 cap0 (min len0 9) (ms.take 9) w (hs.take 9) (by simp; omega) rfl hl (by omega) (fun j => wds_of fun n hn' => ?_) (fun m hm' => hsz m (List.mem_of_mem_take hm'))
  by_cases hj : j < (ms.take 9).length
  · have e : (ms.take 9).getD j [] = (ms.take 9)[j] := by rw [List.getD_eq_getElem?_getD, List.getElem?_eq_getElem hj]; rfl
    rw [e] at hn'
    exact hw _ (List.mem_of_mem_take (List.getElem_mem hj)) n hn'
  · have e : (ms.take 9).getD j [] = [] := by rw [List.getD_eq_getElem?_getD, List.getElem?_eq_none (by omega)]; rfl
    rw [e] at hn'
    simp at hn'

/-! ### THE ROW's STEP -/
set_option maxRecDepth 100000 in
theorem lifted (os : Os) (started : os.Started) (H : Type) (enc : TypeId × Value → H) :
    ReturnsInHanded {} Fagg.checked os 7 .any (Rows.segMeansSpec.pre6 enc Fagg.prog Fagg.f7 Rows.segMeansRow.domain false) (Rows.segMeansSpec.post enc Fagg.prog Fagg.f7 false true false false) := by
  refine returnsInHanded_of_change_sized (C := Fagg.checked) own started (by kernel_rfl) Fagg.func7
    (ChangeSpec.witness6 (enc := enc) (C := Fagg.checked) false ⟨#[], #[.slice none 0 0], []⟩ 8 (by kernel_rfl) (by kernel_rfl) (by kernel_rfl) (by kernel_rfl)) ?_
  intro W base args ds gs before hval0 hW hcnd hsz0 _
  have hsz : (DataW.weightsEach Fagg.prog (Fagg.f7.params.toList ++ Rows.segMeansSpec.plain.varTypes Fagg.prog) (ds ++ gs)).all (· ≤ reachBytes) = true := hsz0
  clear hsz0
  have hval : ∀ (j : Nat) t v, Fagg.f7.params[j]? = some t → args[j]? = some v → Value.okWide Fagg.prog W .any base t v := hval0
  have hW' := hW
  obtain ⟨p, q, hA0, hV, rfl, hfz, hnd⟩ := hW
  have hA : DataW.TrodAll enc Fagg.prog W 0 (fun _ => true) true Fagg.f7.params.toList args.toList ds p := hA0
  rw [Fagg.params7] at hA hval hsz
  obtain ⟨v0, vs0, d0, ds0, p0, q0, hargs, rfl, rfl, h0, r0⟩ := trodAll_cons hA
  obtain ⟨rfl, rfl, rfl⟩ := trodAll_nil r0
  obtain rfl : args = #[v0] := by cases args; simp_all
  obtain ⟨rfl, rfl⟩ := trodVars_none hV
  obtain ⟨a0, len0, cap0, rfl⟩ := okWide_slice Fagg.underlying54 (hval 0 54 v0 rfl rfl)
  have k0 := h0
  have lt0 : ∀ x ∈ p0, x.block < W.heap.size := by obtain ⟨m, hm⟩ := k0; exact DataW.trod_lt m _ _ _ hm
  obtain ⟨ms, e0, hl0, hm0, hs0, hw0, hz0⟩ : ∃ ms : List (List Int), ms.length = len0 ∧ len0 ≤ cap0 ∧ cap0 ≤ maxLen ∧ SegsAt W a0 ms ∧ (∀ m ∈ ms, ∀ n ∈ m, (Lit.int .u64 n).wf = true) ∧ ∀ m ∈ ms, m.length ≤ 17592186043904 := by
    obtain ⟨fuel, hf⟩ := h0
    obtain ⟨ms, e0, hl0, hm0, hs0, hw0, hz⟩ := segs_open hf
    exact ⟨ms, e0, hl0, hm0, hs0, hw0, hz _ _ 0 hsz rfl rfl⟩
  clear hA0 hval0
  refine (walk a0 len0 cap0 ms W e0 hl0 hm0 hs0 hw0 hz0).mono fun e W' ⟨he, bel⟩ => ?_
  subst he
  exact ⟨_, rfl, _, _, _, [], _, [], hW', trodAll_mk1 (shut_bool Fagg.underlying4 _), (trodAll_cons_mk (Below.trod laidOut (by kernel_rfl) (of_decide_eq_true (by kernel_rfl)) k0 bel lt0) trodAll_mk0), rfl, bel.frame _, fun h => by cases h⟩

theorem over : Rows.segMeansRow.holds Fagg.pinned (OpenSpec.ofChange Rows.segMeansSpec) :=
  OpenClaim.holds_of_wide 7 Fagg.f7 rfl rfl rfl rfl rfl rfl rfl ⟨rfl, rfl, rfl, rfl, rfl⟩ rfl rfl rfl rfl rfl (by kernel_rfl) Fagg.func7 (by kernel_rfl)
    (of_decide_eq_true (by kernel_rfl)) (by unfold Func.isWrapper; first | (rw [if_pos (by decide +kernel)]; kernel_rfl) | (rw [if_neg (by decide +kernel)]; exact ⟨rfl, rfl⟩))
    (fun os started H enc _ => lifted os started H enc)

/-- ████ THE STATEMENT ████ -/
theorem proved : Rows.SegMeansSaid := over
end Go.Proofs.Ygcfag.segMeans
