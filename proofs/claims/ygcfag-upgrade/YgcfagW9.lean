/-
  WALKS: law.sameWords, law.sameSegs, where the two are the same.
-/
import Derived.Test.YgcfagW8b
namespace Go.Proofs.Ygcfag
open Go.RowKit
set_option linter.unusedVariables false
set_option linter.unusedSimpArgs false

set_option maxHeartbeats 400000 in
theorem sameWords_same (a b : Option Addr) (n ca cb : Nat) (xs : List Int) (w : World) (ha : Sl .u64 w a xs) (hb : Sl .u64 w b xs) (hn : xs.length = n) (hm : n ≤ 9223372036854775807) :
    Calls Fagg.prog 41 #[.slice a n ca, .slice b n cb] w fun e w' => e = .returned (.bool true) ∧ Below w.heap.size w w' := by
  have HA := hide ha
  have HB := hide hb
  have e0 : ((n : Int) != (n : Int)) = false := by simp
  clear ha hb
  go_enter Fagg.func41, Fagg.ntmps41
  go_wp2_with fail
  go_loopw [13] (fun y wr => ∃ k : Nat, k ≤ n ∧ y = .int .i64 (k : Int) ∧ Below w.heap.size w wr) (fun y _ => n - (intOf y).toNat)
  case atStart => exact ⟨0, by omega, rfl, Below.refl _ _⟩
  case round =>
    obtain ⟨k, hk, rfl, hbr⟩ := hrel
    by_cases hlt : k < n
    · have hlt' : (k : Int) < (n : Int) := by omega
      obtain ⟨ba, oa, rfl, hca⟩ := (unhide HA).at (i := k) (by omega)
      obtain ⟨bb, ob, rfl, hcb⟩ := (unhide HB).at (i := k) (by omega)
      have c1 := (hbr.cell (p := ⟨ba, oa + k, none⟩) (World.block_lt_of_cell? w _ (hca k (by omega)))).trans (hca k (by omega))
      have c2 := (hbr.cell (p := ⟨bb, ob + k, none⟩) (World.block_lt_of_cell? w _ (hcb k (by omega)))).trans (hcb k (by omega))
      generalize xs.getD k 0 = x at *
      have e1 : (x != x) = false := by simp
      clear hca hcb
      go_wp2_with fail
      go_quiet (fail)
      go_wp2
      go_roundw
      case rel => exact ⟨k + 1, by omega, by go_num, hbr.trans ((drewN_below wr nq).mono hbr.size)⟩
      case measure => simp [intOf]; omega
    · have hlt' : ¬ (k : Int) < (n : Int) := by omega
      go_wp2
      go_ret
      exact ⟨rfl, hbr⟩

set_option maxHeartbeats 400000 in
theorem sameSegs_same (a b : Option Addr) (n ca cb : Nat) (ms : List (List Int)) (w : World) (ha : SegsAt w a ms) (hb : SegsAt w b ms) (hn : ms.length = n) (hm : n ≤ 9223372036854775807) (hl : ∀ i, (ms.getD i []).length ≤ 9223372036854775807) :
    Calls Fagg.prog 53 #[.slice a n ca, .slice b n cb] w fun e w' => e = .returned (.bool true) ∧ Below w.heap.size w w' := by
  have HA := hide ha
  have HB := hide hb
  have HL := hide hl
  have e0 : ((n : Int) != (n : Int)) = false := by simp
  clear ha hb hl
  go_enter Fagg.func53, Fagg.ntmps53
  go_wp2_with fail
  go_loopw [13] (fun y wr => ∃ k : Nat, k ≤ n ∧ y = .int .i64 (k : Int) ∧ Below w.heap.size w wr) (fun y _ => n - (intOf y).toNat)
  case atStart => exact ⟨0, by omega, rfl, Below.refl _ _⟩
  case round =>
    obtain ⟨k, hk, rfl, hbr⟩ := hrel
    by_cases hlt : k < n
    · have hlt' : (k : Int) < (n : Int) := by omega
      obtain ⟨ba, oa, rfl, hca⟩ : ∃ b off, a = some ⟨b, off, none⟩ ∧ ∀ i, i < ms.length → ∃ ai ci, w.cell? ⟨b, off + i, none⟩ = some (.slice ai (ms.getD i []).length ci) ∧ (ms.getD i []).length ≤ ci ∧ Sl .u64 w ai (ms.getD i []) := by
        rcases unhide HA with rfl | h
        · simp at hn; omega
        · exact h
      obtain ⟨bb, ob, rfl, hcb⟩ : ∃ b' off, b = some ⟨b', off, none⟩ ∧ ∀ i, i < ms.length → ∃ ai ci, w.cell? ⟨b', off + i, none⟩ = some (.slice ai (ms.getD i []).length ci) ∧ (ms.getD i []).length ≤ ci ∧ Sl .u64 w ai (ms.getD i []) := by
        rcases unhide HB with rfl | h
        · simp at hn; omega
        · exact h
      obtain ⟨a1, c1, f1, g1, s1⟩ := hca k (by omega)
      obtain ⟨a2, c2, f2, g2, s2⟩ := hcb k (by omega)
      replace f1 := (hbr.cell (p := ⟨ba, oa + k, none⟩) (World.block_lt_of_cell? w _ f1)).trans f1
      replace f2 := (hbr.cell (p := ⟨bb, ob + k, none⟩) (World.block_lt_of_cell? w _ f2)).trans f2
      have hlk := unhide HL k
      have hne : Nonempty (Later wr) := ⟨⟨wr, Below.refl _ _⟩⟩
      have HSW := hide (fun (l : Later wr) => sameWords_same a1 a2 (ms.getD k []).length c1 c2 (ms.getD k []) l.u ((s1.below hbr).below l.h) ((s2.below hbr).below l.h) rfl hlk)
      have hl1 : ∀ l : Later wr, l.u.cell? ⟨ba, oa + k, none⟩ = wr.cell? ⟨ba, oa + k, none⟩ := fun l => l.cell (World.block_lt_of_cell? wr _ f1)
      have hl2 : ∀ l : Later wr, l.u.cell? ⟨bb, ob + k, none⟩ = wr.cell? ⟨bb, ob + k, none⟩ := fun l => l.cell (World.block_lt_of_cell? wr _ f2)
      generalize (ms.getD k []).length = len at *
      clear hca hcb s1 s2 hlk
      go_wp2_with fail
      refine wp_region_later (by kernel_rfl) (by kernel_rfl) ?_
      intro _
      repeat (go_big_quiet_step ((go_at_call 41; exact Calls.later (unhide HSW _))))
      refine wpQuiet_nil ?_
      rintro _ ⟨l, rfl⟩
      go_wp2
      go_roundw
      case rel => exact ⟨k + 1, by omega, by go_num, hbr.trans (l.h.mono hbr.size)⟩
      case measure => simp [intOf]; omega
    · have hlt' : ¬ (k : Int) < (n : Int) := by omega
      go_wp2
      go_ret
      exact ⟨rfl, hbr⟩
end Go.Proofs.Ygcfag
