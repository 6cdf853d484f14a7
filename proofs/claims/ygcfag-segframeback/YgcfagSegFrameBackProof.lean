/-
  THE STATEMENT SegFrameBackSaid, PROVED (the frame after the seat's shells).
-/
import Derived.Test.YgcfagRows
import Derived.WalkKit
import Derived.ProofKit
import Derived.OpenShut
import Derived.ShutString
import Derived.ChangeOld
import Derived.Below
import Derived.SizedLaws
import Derived.Test.YgcfagL12
import Derived.Test.YgcfagFrame
namespace Go.Proofs.Ygcfag.segFrameBack
open Go.ChangeShapes Go.WideShapes Go.ChangeAt Go.RowKit
open Go.ChangeMaps (open_string shut_string)
set_option linter.unusedVariables false

theorem own : ownKnob Fagg.prog.godebug = none := by kernel_rfl
theorem laidOut : laidOutB Fagg.prog = true := by kernel_rfl

theorem walk (a0 : Option Addr) (len0 cap0 : Nat) (ms : List (List Int)) (a1 : Bool) (w : World) (hn : ms.length = len0) (hl : len0 ≤ cap0) (hm : cap0 ≤ maxLen) (hs : SegsAt w a0 ms) (hw : ∀ m ∈ ms, ∀ n ∈ m, (Lit.int .u64 n).wf = true) (hsz : ∀ m ∈ ms, m.length ≤ 17592186043904) :
    Calls Fagg.prog 12 #[.slice a0 len0 cap0, .bool a1] w fun e w' => e = .returned (.bool true) ∧ Below w.heap.size w w' := by
  unfold maxLen at hm
  refine segFrameBack_any a0 len0 cap0 a1 (ms.take 9) w (hs.take 9) (by simp; omega) hl (by omega) (wds_of fun n hn' => ?_) (fun m hm' => hsz m (List.mem_of_mem_take hm'))
  obtain ⟨m, hm1, hm2⟩ := List.mem_flatten.1 hn'
  exact hw m (List.mem_of_mem_take hm1) n hm2

/-! ### THE ROW's STEP -/
set_option maxRecDepth 100000 in
theorem lifted (os : Os) (started : os.Started) (H : Type) (enc : TypeId × Value → H) :
    ReturnsInHanded {} Fagg.checked os 12 .any (Rows.segFrameBackSpec.pre6 enc Fagg.prog Fagg.f12 Rows.segFrameBackRow.domain false) (Rows.segFrameBackSpec.post enc Fagg.prog Fagg.f12 false true false false) := by
  refine returnsInHanded_of_change_sized (C := Fagg.checked) own started (by kernel_rfl) Fagg.func12
    (ChangeSpec.witness6 (enc := enc) (C := Fagg.checked) false ⟨#[], #[.slice none 0 0, .bool false], []⟩ 8 (by kernel_rfl) (by kernel_rfl) (by kernel_rfl) (by kernel_rfl)) ?_
  intro W base args ds gs before hval0 hW hcnd hsz0 _
  have hsz : (DataW.weightsEach Fagg.prog (Fagg.f12.params.toList ++ Rows.segFrameBackSpec.plain.varTypes Fagg.prog) (ds ++ gs)).all (· ≤ reachBytes) = true := hsz0
  clear hsz0
  have hval : ∀ (j : Nat) t v, Fagg.f12.params[j]? = some t → args[j]? = some v → Value.okWide Fagg.prog W .any base t v := hval0
  have hW' := hW
  obtain ⟨p, q, hA0, hV, rfl, hfz, hnd⟩ := hW
  have hA : DataW.TrodAll enc Fagg.prog W 0 (fun _ => true) true Fagg.f12.params.toList args.toList ds p := hA0
  rw [Fagg.params12] at hA hval hsz
  obtain ⟨v0, vs0, d0, ds0, p0, q0, hargs, rfl, rfl, h0, r0⟩ := trodAll_cons hA
  obtain ⟨v1, vs1, d1, ds1, p1, q1, rfl, rfl, rfl, h1, r1⟩ := trodAll_cons r0
  obtain ⟨rfl, rfl, rfl⟩ := trodAll_nil r1
  obtain rfl : args = #[v0, v1] := by cases args; simp_all
  obtain ⟨rfl, rfl⟩ := trodVars_none hV
  obtain ⟨a0, len0, cap0, rfl⟩ := okWide_slice Fagg.underlying54 (hval 0 54 v0 rfl rfl)
  have k0 := h0
  have lt0 : ∀ x ∈ p0, x.block < W.heap.size := by obtain ⟨m, hm⟩ := k0; exact DataW.trod_lt m _ _ _ hm
  obtain ⟨ms, e0, hl0, hm0, hs0, hw0, hz0⟩ : ∃ ms : List (List Int), ms.length = len0 ∧ len0 ≤ cap0 ∧ cap0 ≤ maxLen ∧ SegsAt W a0 ms ∧ (∀ m ∈ ms, ∀ n ∈ m, (Lit.int .u64 n).wf = true) ∧ ∀ m ∈ ms, m.length ≤ 17592186043904 := by
    obtain ⟨fuel, hf⟩ := h0
    obtain ⟨ms, e0, hl0, hm0, hs0, hw0, hz⟩ := segs_open hf
    exact ⟨ms, e0, hl0, hm0, hs0, hw0, hz _ _ 0 hsz rfl rfl⟩
  obtain ⟨a1, rfl, rfl, rfl⟩ := open_bool Fagg.underlying4 (hval 1 4 v1 rfl rfl) h1
  clear hA0 hval0
  refine (walk a0 len0 cap0 ms a1 W e0 hl0 hm0 hs0 hw0 hz0).mono fun e W' ⟨he, bel⟩ => ?_
  subst he
  exact ⟨_, rfl, _, _, _, [], _, [], hW', trodAll_mk1 (shut_bool Fagg.underlying4 _), (trodAll_cons_mk (Below.trod laidOut (by kernel_rfl) (of_decide_eq_true (by kernel_rfl)) k0 bel lt0) (trodAll_cons_mk (shut_bool Fagg.underlying4 _) trodAll_mk0)), rfl, bel.frame _, fun h => by cases h⟩

theorem over : Rows.segFrameBackRow.holds Fagg.pinned (OpenSpec.ofChange Rows.segFrameBackSpec) :=
  OpenClaim.holds_of_wide 12 Fagg.f12 rfl rfl rfl rfl rfl rfl rfl ⟨rfl, rfl, rfl, rfl, rfl⟩ rfl rfl rfl rfl rfl (by kernel_rfl) Fagg.func12 (by kernel_rfl)
    (of_decide_eq_true (by kernel_rfl)) (by unfold Func.isWrapper; first | (rw [if_pos (by decide +kernel)]; kernel_rfl) | (rw [if_neg (by decide +kernel)]; exact ⟨rfl, rfl⟩))
    (fun os started H enc _ => lifted os started H enc)

/-- ████ THE STATEMENT ████ -/
theorem proved : Rows.SegFrameBackSaid := over
end Go.Proofs.Ygcfag.segFrameBack
