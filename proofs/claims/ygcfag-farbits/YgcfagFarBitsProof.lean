/-
  THE STATEMENT FarBitsSaid, PROVED (the frame after the seat's shells).
-/
import Derived.Test.YgcfagRows
import Derived.WalkKit
import Derived.ProofKit
import Derived.OpenShut
import Derived.ShutString
import Derived.ChangeOld
import Derived.Below
import Derived.SizedLaws
import Derived.Test.YgcfagL6
import Derived.Test.YgcfagFrame
namespace Go.Proofs.Ygcfag.farBits
open Go.ChangeShapes Go.WideShapes Go.ChangeAt Go.RowKit
open Go.ChangeMaps (open_string shut_string)
set_option linter.unusedVariables false

theorem own : ownKnob Fagg.prog.godebug = none := by kernel_rfl
theorem laidOut : laidOutB Fagg.prog = true := by kernel_rfl

theorem walk (a0 : Option Addr) (len0 cap0 : Nat) (ms : List (List Int)) (a1 a2 : Int) (w : World) (hn : ms.length = len0) (hl : len0 ≤ cap0) (hm : cap0 ≤ maxLen) (hs : SegsAt w a0 ms) (hw : ∀ m ∈ ms, ∀ n ∈ m, (Lit.int .u64 n).wf = true) (hsz : ∀ m ∈ ms, m.length ≤ 17592186043904)
    (w1 : (Lit.int .u8 a1).wf = true) (w2 : (Lit.int .u16 a2).wf = true) :
    Calls Fagg.prog 6 #[.slice a0 len0 cap0, .int .u8 a1, .int .u16 a2] w fun e w' => e = .returned (.bool true) ∧ Below w.heap.size w w' := by
  have b1 := bounds_u8 w1
  have b2 := bounds_u16 w2
  unfold maxLen at hm
  obtain ⟨s, rfl⟩ : ∃ s : Nat, a1 = (s : Int) := ⟨a1.toNat, by omega⟩
  obtain ⟨i, rfl⟩ : ∃ i : Nat, a2 = (i : Int) := ⟨a2.toNat, by omega⟩
  refine farBits_any a0 len0 cap0 s i (min len0 9) (ms.take 9) w (hs.take 9) (by simp; omega) rfl hl (by omega) (fun j => wds_of fun n hn' => ?_) (fun m hm' => hsz m (List.mem_of_mem_take hm')) (by omega) (by omega)
  by_cases hj : j < (ms.take 9).length
  · have e : (ms.take 9).getD j [] = (ms.take 9)[j] := by rw [List.getD_eq_getElem?_getD, List.getElem?_eq_getElem hj]; rfl
    rw [e] at hn'
    exact hw _ (List.mem_of_mem_take (List.getElem_mem hj)) n hn'
  · have e : (ms.take 9).getD j [] = [] := by rw [List.getD_eq_getElem?_getD, List.getElem?_eq_none (by omega)]; rfl
    rw [e] at hn'
    simp at hn'

/-! ### THE ROW's STEP -/
set_option maxRecDepth 100000 in
theorem lifted (os : Os) (started : os.Started) (H : Type) (enc : TypeId × Value → H) :
    ReturnsInHanded {} Fagg.checked os 6 .any (Rows.farBitsSpec.pre6 enc Fagg.prog Fagg.f6 Rows.farBitsRow.domain false) (Rows.farBitsSpec.post enc Fagg.prog Fagg.f6 false true false false) := by
  refine returnsInHanded_of_change_sized (C := Fagg.checked) own started (by kernel_rfl) Fagg.func6
    (ChangeSpec.witness6 (enc := enc) (C := Fagg.checked) false ⟨#[], #[.slice none 0 0, .int .u8 0, .int .u16 0], []⟩ 8 (by kernel_rfl) (by kernel_rfl) (by kernel_rfl) (by kernel_rfl)) ?_
  intro W base args ds gs before hval0 hW hcnd hsz0 _
  have hsz : (DataW.weightsEach Fagg.prog (Fagg.f6.params.toList ++ Rows.farBitsSpec.plain.varTypes Fagg.prog) (ds ++ gs)).all (· ≤ reachBytes) = true := hsz0
  clear hsz0
  have hval : ∀ (j : Nat) t v, Fagg.f6.params[j]? = some t → args[j]? = some v → Value.okWide Fagg.prog W .any base t v := hval0
  have hW' := hW
  obtain ⟨p, q, hA0, hV, rfl, hfz, hnd⟩ := hW
  have hA : DataW.TrodAll enc Fagg.prog W 0 (fun _ => true) true Fagg.f6.params.toList args.toList ds p := hA0
  rw [Fagg.params6] at hA hval hsz
  obtain ⟨v0, vs0, d0, ds0, p0, q0, hargs, rfl, rfl, h0, r0⟩ := trodAll_cons hA
  obtain ⟨v1, vs1, d1, ds1, p1, q1, rfl, rfl, rfl, h1, r1⟩ := trodAll_cons r0
  obtain ⟨v2, vs2, d2, ds2, p2, q2, rfl, rfl, rfl, h2, r2⟩ := trodAll_cons r1
  obtain ⟨rfl, rfl, rfl⟩ := trodAll_nil r2
  obtain rfl : args = #[v0, v1, v2] := by cases args; simp_all
  obtain ⟨rfl, rfl⟩ := trodVars_none hV
  obtain ⟨a0, len0, cap0, rfl⟩ := okWide_slice Fagg.underlying54 (hval 0 54 v0 rfl rfl)
  have k0 := h0
  have lt0 : ∀ x ∈ p0, x.block < W.heap.size := by obtain ⟨m, hm⟩ := k0; exact DataW.trod_lt m _ _ _ hm
  obtain ⟨ms, e0, hl0, hm0, hs0, hw0, hz0⟩ : ∃ ms : List (List Int), ms.length = len0 ∧ len0 ≤ cap0 ∧ cap0 ≤ maxLen ∧ SegsAt W a0 ms ∧ (∀ m ∈ ms, ∀ n ∈ m, (Lit.int .u64 n).wf = true) ∧ ∀ m ∈ ms, m.length ≤ 17592186043904 := by
    obtain ⟨fuel, hf⟩ := h0
    obtain ⟨ms, e0, hl0, hm0, hs0, hw0, hz⟩ := segs_open hf
    exact ⟨ms, e0, hl0, hm0, hs0, hw0, hz _ _ 0 hsz rfl rfl⟩
  obtain ⟨a1, rfl, rfl, rfl, w1⟩ := open_int Fagg.underlying5 (hval 1 5 v1 rfl rfl) h1
  obtain ⟨a2, rfl, rfl, rfl, w2⟩ := open_int Fagg.underlying55 (hval 2 55 v2 rfl rfl) h2
  clear hA0 hval0
  refine (walk a0 len0 cap0 ms a1 a2 W e0 hl0 hm0 hs0 hw0 hz0 w1 w2).mono fun e W' ⟨he, bel⟩ => ?_
  subst he
  exact ⟨_, rfl, _, _, _, [], _, [], hW', trodAll_mk1 (shut_bool Fagg.underlying4 _), (trodAll_cons_mk (Below.trod laidOut (by kernel_rfl) (of_decide_eq_true (by kernel_rfl)) k0 bel lt0) (trodAll_cons_mk (shut_int Fagg.underlying5 w1) (trodAll_cons_mk (shut_int Fagg.underlying55 w2) trodAll_mk0))), rfl, bel.frame _, fun h => by cases h⟩

theorem over : Rows.farBitsRow.holds Fagg.pinned (OpenSpec.ofChange Rows.farBitsSpec) :=
  OpenClaim.holds_of_wide 6 Fagg.f6 rfl rfl rfl rfl rfl rfl rfl ⟨rfl, rfl, rfl, rfl, rfl⟩ rfl rfl rfl rfl rfl (by kernel_rfl) Fagg.func6 (by kernel_rfl)
    (of_decide_eq_true (by kernel_rfl)) (by unfold Func.isWrapper; first | (rw [if_pos (by decide +kernel)]; kernel_rfl) | (rw [if_neg (by decide +kernel)]; exact ⟨rfl, rfl⟩))
    (fun os started H enc _ => lifted os started H enc)

/-- ████ THE STATEMENT ████ -/
theorem proved : Rows.FarBitsSaid := over
end Go.Proofs.Ygcfag.farBits
