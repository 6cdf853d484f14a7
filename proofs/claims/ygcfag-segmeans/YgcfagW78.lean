/-
  WALKS: seg.Validate: the state of a walk is made.
-/
import Derived.Test.YgcfagW63
import Derived.Test.YgcfagW58
namespace Go.Proofs.Ygcfag
open Go.RowKit
set_option linter.unusedVariables false
set_option linter.unusedSimpArgs false

theorem info156 : (Fagg.prog.info? 156).map (fun i => i.zero) = some (some (.agg (List.replicate 32 (Value.int .u64 0) ++ (List.replicate 256 [Value.int .u16 0, Value.int .u8 0, Value.int .u8 0]).flatten ++ [Value.int .u16 0]).toArray)) := by kernel_rfl

theorem run156 : ∃ Z : List Value, Z = (List.replicate 32 (Value.int .u64 0) ++ (List.replicate 256 [Value.int .u16 0, Value.int .u8 0, Value.int .u8 0]).flatten ++ [Value.int .u16 0]) ∧ ∀ w : World, (Instr.alloc 156 true (.tuple #[])).run Fagg.prog w = .ok (.pointer (some ⟨w.heap.size, 0, none⟩)) (w.alloc (.cells Z.toArray 156)) := by
  refine ⟨_, rfl, fun w => ?_⟩
  obtain ⟨i, hi, hz⟩ : ∃ i, Fagg.prog.info? 156 = some i ∧ i.zero = some (.agg (List.replicate 32 (Value.int .u64 0) ++ (List.replicate 256 [Value.int .u16 0, Value.int .u8 0, Value.int .u8 0]).flatten ++ [Value.int .u16 0]).toArray) := by
    have h := info156
    cases hh : Fagg.prog.info? 156 with
    | none => rw [hh] at h; cases h
    | some i => rw [hh] at h; exact ⟨i, rfl, Option.some.inj h⟩
  generalize (List.replicate 32 (Value.int .u64 0) ++ (List.replicate 256 [Value.int .u16 0, Value.int .u8 0, Value.int .u8 0]).flatten ++ [Value.int .u16 0]) = Z at *
  unfold Instr.alloc
  simp [go_sem, zeroValue, typeInfo, hi, hz, newVar]

theorem Zlen : (List.replicate 32 (Value.int .u64 0) ++ (List.replicate 256 [Value.int .u16 0, Value.int .u8 0, Value.int .u8 0]).flatten ++ [Value.int .u16 0]).length = 801 := by
  simp only [List.length_append, List.length_replicate, List.length_flatten, List.map_replicate, List.length_cons, List.length_nil, List.sum_replicate_nat]

/-- The state of a walk, as it is made. -/
theorem alloc156 : ∃ Z : Array Value, Z.size = 801 ∧ (∀ p, p < 32 → Z[p]? = some (.int .u64 0)) ∧ (∀ p, p < 801 → ∃ v, Z[p]? = some v) ∧ Z[800]? = some (.int .u16 0) ∧
    ∀ (id : Nat) (o : Oper) (Q : Exit → Act → World → Prop) (a : Act) (w : World), o.op = .alloc 156 → o.guard = none → Q .normal (a.put o.dst (.pointer (some ⟨w.heap.size, 0, none⟩))) (w.alloc (.cells Z 156)) → (Code.region id #[o] false).wp Fagg.prog Q a w := by
  obtain ⟨Z, hZ, hrun⟩ := run156
  have hl : Z.length = 801 := by rw [hZ]; exact Zlen
  refine ⟨Z.toArray, by simpa using hl, fun p hp => ?_, fun p hp => ?_, ?_, fun id o Q a w ho hg h => ?_⟩
  · rw [hZ, List.getElem?_toArray, List.append_assoc, List.getElem?_append_left (by simp; omega), List.getElem?_replicate, if_pos hp]
  · rw [List.getElem?_toArray]
    exact ⟨_, List.getElem?_eq_getElem (by omega)⟩
  · have h0 : (List.replicate 32 (Value.int .u64 0) ++ (List.replicate 256 [Value.int .u16 0, Value.int .u8 0, Value.int .u8 0]).flatten).length = 800 := by
      simp only [List.length_append, List.length_replicate, List.length_flatten, List.map_replicate, List.length_cons, List.length_nil, List.sum_replicate_nat]
    rw [hZ, List.getElem?_toArray, List.getElem?_append_right (by omega), h0]; rfl
  · refine wp_region_lit (l := [o]) (wpList_plain hg fun K hK => ?_)
    unfold Oper.wp execOp
    simp only [ho, Sem.run_bind, Sem.run_pure, Result.andThen_ok, hrun]
    refine hK _ _ ?_
    unfold wpList
    exact h
end Go.Proofs.Ygcfag
