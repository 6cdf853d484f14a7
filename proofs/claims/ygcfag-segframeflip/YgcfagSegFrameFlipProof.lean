/-
  THE STATEMENT SegFrameFlipSaid, PROVED (the frame after the seat's shells).
-/
import Derived.Test.YgcfagRows
import Derived.WalkKit
import Derived.ProofKit
import Derived.OpenShut
import Derived.ShutString
import Derived.ChangeOld
import Derived.Below
import Derived.Test.YgcfagL14
import Derived.Test.YgcfagFrame
namespace Go.Proofs.Ygcfag.segFrameFlip
open Go.ChangeShapes Go.WideShapes Go.ChangeAt Go.RowKit
open Go.ChangeMaps (open_string shut_string)
set_option linter.unusedVariables false

theorem own : ownKnob Fagg.prog.godebug = none := by kernel_rfl
theorem laidOut : laidOutB Fagg.prog = true := by kernel_rfl

theorem walk (a0 : Option Addr) (len0 cap0 : Nat) (ms : List (List Int)) (a1 : Bool) (a2 a3 : Int) (w : World) (hn : ms.length = len0) (hl : len0 ≤ cap0) (hm : cap0 ≤ maxLen) (hs : SegsAt w a0 ms) (hw : ∀ m ∈ ms, ∀ n ∈ m, (Lit.int .u64 n).wf = true)
    (w2 : (Lit.int .u16 a2).wf = true) (w3 : (Lit.int .u8 a3).wf = true) :
    Calls Fagg.prog 14 #[.slice a0 len0 cap0, .bool a1, .int .u16 a2, .int .u8 a3] w fun e w' => e = .returned (.bool true) ∧ Below w.heap.size w w' := by
  have b2 := bounds_u16 w2
  have b3 := bounds_u8 w3
  unfold maxLen at hm
  obtain ⟨i, rfl⟩ : ∃ i : Nat, a2 = (i : Int) := ⟨a2.toNat, by omega⟩
  obtain ⟨k, rfl⟩ : ∃ k : Nat, a3 = (k : Int) := ⟨a3.toNat, by omega⟩
  refine segFrameFlip_any a0 len0 cap0 i k a1 (ms.take 9) w (hs.take 9) (by simp; omega) hl (by omega) (wds_of fun n hn' => ?_) (by omega) (by omega)
  obtain ⟨m, hm1, hm2⟩ := List.mem_flatten.1 hn'
  exact hw m (List.mem_of_mem_take hm1) n hm2

/-! ### THE ROW's STEP -/
set_option maxRecDepth 100000 in
theorem lifted (os : Os) (started : os.Started) (H : Type) (enc : TypeId × Value → H) :
    ReturnsInHanded {} Fagg.checked os 14 .any (Rows.segFrameFlipSpec.pre6 enc Fagg.prog Fagg.f14 Rows.segFrameFlipRow.domain false) (Rows.segFrameFlipSpec.post enc Fagg.prog Fagg.f14 false true false false) := by
  refine returnsInHanded_of_change (C := Fagg.checked) own started (by kernel_rfl) Fagg.func14
    (ChangeSpec.witness6 (enc := enc) (C := Fagg.checked) false ⟨#[], #[.slice none 0 0, .bool false, .int .u16 0, .int .u8 0], []⟩ 8 (by kernel_rfl) (by kernel_rfl) (by kernel_rfl) (by kernel_rfl)) ?_
  intro W base args ds gs before hval0 hW hcnd _
  have hval : ∀ (j : Nat) t v, Fagg.f14.params[j]? = some t → args[j]? = some v → Value.okWide Fagg.prog W .any base t v := hval0
  have hW' := hW
  obtain ⟨p, q, hA0, hV, rfl, hfz, hnd⟩ := hW
  have hA : DataW.TrodAll enc Fagg.prog W 0 (fun _ => true) true Fagg.f14.params.toList args.toList ds p := hA0
  rw [Fagg.params14] at hA hval
  obtain ⟨v0, vs0, d0, ds0, p0, q0, hargs, rfl, rfl, h0, r0⟩ := trodAll_cons hA
  obtain ⟨v1, vs1, d1, ds1, p1, q1, rfl, rfl, rfl, h1, r1⟩ := trodAll_cons r0
  obtain ⟨v2, vs2, d2, ds2, p2, q2, rfl, rfl, rfl, h2, r2⟩ := trodAll_cons r1
  obtain ⟨v3, vs3, d3, ds3, p3, q3, rfl, rfl, rfl, h3, r3⟩ := trodAll_cons r2
  obtain ⟨rfl, rfl, rfl⟩ := trodAll_nil r3
  obtain rfl : args = #[v0, v1, v2, v3] := by cases args; simp_all
  obtain ⟨rfl, rfl⟩ := trodVars_none hV
  obtain ⟨a0, len0, cap0, rfl⟩ := okWide_slice Fagg.underlying54 (hval 0 54 v0 rfl rfl)
  have k0 := h0
  have lt0 : ∀ x ∈ p0, x.block < W.heap.size := by obtain ⟨m, hm⟩ := k0; exact DataW.trod_lt m _ _ _ hm
  obtain ⟨ms, e0, hl0, hm0, hs0, hw0⟩ : ∃ ms : List (List Int), ms.length = len0 ∧ len0 ≤ cap0 ∧ cap0 ≤ maxLen ∧ SegsAt W a0 ms ∧ (∀ m ∈ ms, ∀ n ∈ m, (Lit.int .u64 n).wf = true) := by
    obtain ⟨fuel, hf⟩ := h0
    obtain ⟨ms, e0, hl0, hm0, hs0, hw0, _⟩ := segs_open hf
    exact ⟨ms, e0, hl0, hm0, hs0, hw0⟩
  obtain ⟨a1, rfl, rfl, rfl⟩ := open_bool Fagg.underlying4 (hval 1 4 v1 rfl rfl) h1
  obtain ⟨a2, rfl, rfl, rfl, w2⟩ := open_int Fagg.underlying55 (hval 2 55 v2 rfl rfl) h2
  obtain ⟨a3, rfl, rfl, rfl, w3⟩ := open_int Fagg.underlying5 (hval 3 5 v3 rfl rfl) h3
  clear hA0 hval0
  refine (walk a0 len0 cap0 ms a1 a2 a3 W e0 hl0 hm0 hs0 hw0 w2 w3).mono fun e W' ⟨he, bel⟩ => ?_
  subst he
  exact ⟨_, rfl, _, _, _, [], _, [], hW', trodAll_mk1 (shut_bool Fagg.underlying4 _), (trodAll_cons_mk (Below.trod laidOut (by kernel_rfl) (of_decide_eq_true (by kernel_rfl)) k0 bel lt0) (trodAll_cons_mk (shut_bool Fagg.underlying4 _) (trodAll_cons_mk (shut_int Fagg.underlying55 w2) (trodAll_cons_mk (shut_int Fagg.underlying5 w3) trodAll_mk0)))), rfl, bel.frame _, fun h => by cases h⟩

theorem over : Rows.segFrameFlipRow.holds Fagg.pinned (OpenSpec.ofChange Rows.segFrameFlipSpec) :=
  OpenClaim.holds_of_wide 14 Fagg.f14 rfl rfl rfl rfl rfl rfl rfl ⟨rfl, rfl, rfl, rfl, rfl⟩ rfl rfl rfl rfl rfl (by kernel_rfl) Fagg.func14 (by kernel_rfl)
    (of_decide_eq_true (by kernel_rfl)) (by unfold Func.isWrapper; first | (rw [if_pos (by decide +kernel)]; kernel_rfl) | (rw [if_neg (by decide +kernel)]; exact ⟨rfl, rfl⟩))
    (fun os started H enc _ => lifted os started H enc)

/-- ████ THE STATEMENT ████ -/
theorem proved : Rows.SegFrameFlipSaid := over
end Go.Proofs.Ygcfag.segFrameFlip
