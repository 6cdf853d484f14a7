/-
  WALKS: wire.Extent of a pointer that Resolve gave.
-/
import Derived.Test.YgcfagW53
namespace Go.Proofs.Ygcfag
open Go.RowKit
set_option linter.unusedVariables false
set_option linter.unusedSimpArgs false

set_option maxHeartbeats 1000000 in
set_option maxRecDepth 100000 in
theorem extent_any (q : Pt) (w : World) (h : GoodPt q) : Calls Fagg.prog 76 #[ptV q] w fun e w' => e = .returned (.tuple #[.int .u16 (firstOf q), .int .u16 (wordsOf q)]) ∧ Below w.heap.size w w' := by
  have HW := hide (fun W => words_good q W h)
  have hbd := wordsOf_bd h
  have hB : Below w.heap.size w (w.alloc (Obj.cells #[Value.int IntKind.u8 q.kind, Value.int IntKind.u16 q.at_, Value.int IntKind.u8 q.data, Value.int IntKind.u8 q.ptrs, Value.int IntKind.u8 q.code, Value.int IntKind.u16 q.count] 58)) := (Below.refl _ _).alloc (Nat.le_refl _) _
  have hl0 : ∀ (l : Later (w.alloc (Obj.cells #[Value.int IntKind.u8 q.kind, Value.int IntKind.u16 q.at_, Value.int IntKind.u8 q.data, Value.int IntKind.u8 q.ptrs, Value.int IntKind.u8 q.code, Value.int IntKind.u16 q.count] 58))) (o : Nat), l.u.cell? ⟨w.heap.size, o, none⟩ = (w.alloc (Obj.cells #[Value.int IntKind.u8 q.kind, Value.int IntKind.u16 q.at_, Value.int IntKind.u8 q.data, Value.int IntKind.u8 q.ptrs, Value.int IntKind.u8 q.code, Value.int IntKind.u16 q.count] 58)).cell? ⟨w.heap.size, o, none⟩ := fun l o => l.cell (by simp)
  unfold ptV at *
  have hat : 0 ≤ q.at_ ∧ q.at_ ≤ 256 := by cases h <;> simp <;> omega
  by_cases hk : q.kind = 2
  · have hk' : (q.kind == 2) = true := by simp [hk]
    by_cases hc : q.code = 7
    · have hc' : (q.code == 7) = true := by simp [hc]
      have hat1 : 1 ≤ q.at_ := by cases h <;> simp at * <;> omega
      have hfi : firstOf q = q.at_ - 1 := by unfold firstOf; rw [if_pos hc]
      have hwr : IntKind.u16.wrap (q.at_ - 1) = q.at_ - 1 := by rw [IntKind.wrap_u16]; omega
      rw [hfi]
      generalize wordsOf q = n at *
      clear hk hc h hfi
      go_enter Fagg.func76, Fagg.ntmps76
      go_wp2_with fail
      refine wp_region_later (by kernel_rfl) (by kernel_rfl) ?_
      intro hne
      repeat (go_big_quiet_step ((go_at_call 145; exact Calls.later (unhide HW _))))
      refine wpQuiet_nil ?_
      rintro _ ⟨l, rfl⟩
      have HL := hide (hB.trans (l.h.mono hB.size))
      go_wp2_with fail
      go_ret2
      exact ⟨by first | rfl | (rw [hwr]; rfl), unhide HL⟩
    · have hc' : (q.code == 7) = false := by simp [hc]
      have hfi : firstOf q = q.at_ := by unfold firstOf; rw [if_neg hc]
      rw [hfi]
      generalize wordsOf q = n at *
      clear hk hc h hfi
      go_enter Fagg.func76, Fagg.ntmps76
      go_wp2_with fail
      refine wp_region_later (by kernel_rfl) (by kernel_rfl) ?_
      intro hne
      repeat (go_big_quiet_step ((go_at_call 145; exact Calls.later (unhide HW _))))
      refine wpQuiet_nil ?_
      rintro _ ⟨l, rfl⟩
      have HL := hide (hB.trans (l.h.mono hB.size))
      go_wp2_with fail
      go_ret2
      exact ⟨rfl, unhide HL⟩
  · have hk' : (q.kind == 2) = false := by simp [hk]
    have hfi : firstOf q = q.at_ := by
      unfold firstOf
      rw [if_neg]
      cases h <;> simp at *
    rw [hfi]
    generalize wordsOf q = n at *
    clear hk h hfi
    go_enter Fagg.func76, Fagg.ntmps76
    go_wp2_with fail
    refine wp_region_later (by kernel_rfl) (by kernel_rfl) ?_
    intro hne
    repeat (go_big_quiet_step ((go_at_call 145; exact Calls.later (unhide HW _))))
    refine wpQuiet_nil ?_
    rintro _ ⟨l, rfl⟩
    have HL := hide (hB.trans (l.h.mono hB.size))
    go_wp2_with fail
    go_ret2
    exact ⟨rfl, unhide HL⟩
end Go.Proofs.Ygcfag
