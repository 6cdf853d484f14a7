/-
  THE STATEMENT SegFrameCodesSaid, PROVED (the frame after the seat's shell).
-/
import Derived.Test.YgcfagRows
import Derived.WalkKit
import Derived.ProofKit
import Derived.OpenShut
import Derived.ShutString
import Derived.ChangeOld
import Derived.Below
import Derived.Test.YgcfagL13
namespace Go.Proofs.Ygcfag.segFrameCodes
open Go.ChangeShapes Go.WideShapes Go.ChangeAt Go.RowKit
open Go.ChangeMaps (open_string shut_string)
set_option linter.unusedVariables false

theorem own : ownKnob Fagg.prog.godebug = none := by kernel_rfl
theorem laidOut : laidOutB Fagg.prog = true := by kernel_rfl

/-- WHAT THE WALK IS TOLD OF A SLICE OF INTEGERS THAT CAME IN: it is nil; or it leads to a row of 'cap' cells, the numbers 'zs' (the first 'len' are its elements, the rest its spare room), each fitting its kind. -/
def IsRow (k : IntKind) (w : World) (a : Option Addr) (len cap : Nat) (zs : List Int) : Prop :=
  (a = none ∧ len = 0 ∧ cap = 0 ∧ zs = []) ∨
  ∃ x, a = some x ∧ len ≤ cap ∧ cap ≤ maxLen ∧ zs.length = cap ∧ (∀ i, i < zs.length → w.cell? (x.add i) = some (.int k (zs.getD i 0))) ∧ ∀ n ∈ zs, (Lit.int k n).wf = true

theorem row_sl {k : IntKind} {w : World} {a : Option Addr} {len cap m : Nat} {zs : List Int} (h : IsRow k w a len cap zs) (hm : m ≤ len) : Sl k w a (zs.take m) ∧ (zs.take m).length = m ∧ len ≤ cap ∧ cap ≤ maxLen := by
  rcases h with ⟨rfl, rfl, rfl, rfl⟩ | ⟨x, rfl, h1, h2, h3, h4, h5⟩
  · exact ⟨.inl (by simp), by simp; omega, by omega, by unfold maxLen; omega⟩
  · refine ⟨?_, by simp; omega, h1, h2⟩
    by_cases h0 : m = 0
    · subst h0; exact .inl (by simp)
    · obtain ⟨b, off, sp⟩ := x
      have hz := h4 0 (by omega)
      have hsp : sp = none := by
        cases sp with
        | none => rfl
        | some q => simp [Addr.add, World.cell?] at hz; split at hz <;> simp_all
      subst hsp
      refine .inr ⟨b, off, rfl, fun i hi => ?_⟩
      simp at hi
      have := h4 i (by omega)
      rw [Addr.add_lit] at this
      rw [this]
      simp [List.getD, show i < m by omega]

theorem row_bys {w : World} {a : Option Addr} {len cap : Nat} {zs : List Int} (h : IsRow .u8 w a len cap zs) (m : Nat) : Bys (zs.take m) := by
  have hz : ∀ z ∈ zs, 0 ≤ z ∧ z < 256 := by
    rcases h with ⟨_, _, _, rfl⟩ | ⟨x, _, _, _, _, _, h5⟩
    · simp
    · intro z hz
      have := h5 z hz
      have hb := bounds_u8 this
      omega
  intro i
  rw [List.getD_eq_getElem?_getD]
  cases hi : (zs.take m)[i]? with
  | none => simp
  | some z => exact hz z (List.mem_of_mem_take (List.mem_of_getElem? hi))

theorem walk (a0 : Option Addr) (len0 cap0 : Nat) (z0 : List Int) (w : World) (w0 : IsRow .u8 w a0 len0 cap0 z0) :
    Calls Fagg.prog 13 #[.slice a0 len0 cap0] w fun e w' => e = .returned (.bool true) ∧ Below w.heap.size w w' := by
  obtain ⟨h1, h2, h3, h4⟩ := row_sl (m := min len0 4129) w0 (by omega)
  unfold maxLen at h4
  exact segFrameCodes_any a0 len0 _ cap0 _ w h1 h2 rfl h3 (by omega) (row_bys w0 _)

/-! ### THE ROW's STEP: WRITTEN OUT: LEAVE IT -/
set_option maxRecDepth 100000 in
theorem lifted (os : Os) (started : os.Started) (H : Type) (enc : TypeId × Value → H) :
    ReturnsInHanded {} Fagg.checked os 13 .any (Rows.segFrameCodesSpec.pre6 enc Fagg.prog Fagg.f13 Rows.segFrameCodesRow.domain false) (Rows.segFrameCodesSpec.post enc Fagg.prog Fagg.f13 false true false false) := by
  refine returnsInHanded_of_change (C := Fagg.checked) own started (by kernel_rfl) Fagg.func13
    (ChangeSpec.witness6 (enc := enc) (C := Fagg.checked) false ⟨#[], #[.slice none 0 0], []⟩ 8 (by kernel_rfl) (by kernel_rfl) (by kernel_rfl) (by kernel_rfl)) ?_
  intro W base args ds gs before hval0 hW hcnd _
  have hval : ∀ (j : Nat) t v, Fagg.f13.params[j]? = some t → args[j]? = some v → Value.okWide Fagg.prog W .any base t v := hval0
  have hW' := hW
  obtain ⟨p, q, hA0, hV, rfl, hfz, hnd⟩ := hW
  have hA : DataW.TrodAll enc Fagg.prog W 0 (fun _ => true) true Fagg.f13.params.toList args.toList ds p := hA0
  rw [Fagg.params13] at hA hval
  obtain ⟨v0, vs0, d0, ds0, p0, q0, hargs, rfl, rfl, h0, r0⟩ := trodAll_cons hA
  obtain ⟨rfl, rfl, rfl⟩ := trodAll_nil r0
  obtain rfl : args = #[v0] := by cases args; simp_all
  obtain ⟨rfl, rfl⟩ := trodVars_none hV
  obtain ⟨a0, len0, cap0, rfl⟩ := okWide_slice Fagg.underlying33 (hval 0 33 v0 rfl rfl)
  have k0 := h0
  have lt0 : ∀ x ∈ p0, x.block < W.heap.size := by obtain ⟨m, hm⟩ := k0; exact DataW.trod_lt m _ _ _ hm
  obtain ⟨z0, w0⟩ : ∃ zs, IsRow .u8 W a0 len0 cap0 zs := by
    obtain ⟨fuel, hf⟩ := h0
    rcases open_ints Fagg.underlying33 Fagg.underlying5 (by kernel_rfl) hf with ⟨hcs, _⟩ | ⟨x, l, c, zs, hcs, _, hl, hm, hz, _, hcell, hwz⟩
    · simp [Value.cells] at hcs
      obtain ⟨rfl, rfl, rfl⟩ := hcs
      exact ⟨[], .inl ⟨rfl, rfl, rfl, rfl⟩⟩
    · simp [Value.cells] at hcs
      obtain ⟨rfl, rfl, rfl⟩ := hcs
      exact ⟨zs, .inr ⟨_, rfl, hl, hm, by simpa using hz, hcell, hwz⟩⟩
  clear hA0 hval0
  refine (walk a0 len0 cap0 z0 W w0).mono fun e W' ⟨he, bel⟩ => ?_
  subst he
  exact ⟨_, rfl, _, _, _, [], _, [], hW', trodAll_mk1 (shut_bool Fagg.underlying4 _), (trodAll_cons_mk (Below.trod laidOut (by kernel_rfl) (of_decide_eq_true (by kernel_rfl)) k0 bel lt0) trodAll_mk0), rfl, bel.frame _, fun h => by cases h⟩

theorem over : Rows.segFrameCodesRow.holds Fagg.pinned (OpenSpec.ofChange Rows.segFrameCodesSpec) :=
  OpenClaim.holds_of_wide 13 Fagg.f13 rfl rfl rfl rfl rfl rfl rfl ⟨rfl, rfl, rfl, rfl, rfl⟩ rfl rfl rfl rfl rfl (by kernel_rfl) Fagg.func13 (by kernel_rfl)
    (of_decide_eq_true (by kernel_rfl)) (by unfold Func.isWrapper; first | (rw [if_pos (by decide +kernel)]; kernel_rfl) | (rw [if_neg (by decide +kernel)]; exact ⟨rfl, rfl⟩))
    (fun os started H enc _ => lifted os started H enc)

/-- ████ THE STATEMENT ████ -/
theorem proved : Rows.SegFrameCodesSaid := over
end Go.Proofs.Ygcfag.segFrameCodes
