/-
  WALKS: codec's words, kids; its node of a root struct.
-/
import Derived.Test.YgcfagW93
import Derived.Test.YgcfagW10g
import Derived.Test.YgcfagW67
import Derived.Laws.MakeOwn
namespace Go.Proofs.Ygcfag
open Go.RowKit
set_option linter.unusedVariables false
set_option linter.unusedSimpArgs false

theorem kids0_any (w : World) : Calls Fagg.prog 153 #[.int .i64 0] w fun e w' => e = .returned (.slice none 0 0) ∧ w' = w := by
  go_enter Fagg.func153, Fagg.ntmps153
  go_wp2
  go_ret
  exact ⟨rfl, rfl⟩

theorem words0_any (w : World) : Calls Fagg.prog 152 #[.int .i64 0] w fun e w' => e = .returned (.slice none 0 0) ∧ w' = w := by
  go_enter Fagg.func152, Fagg.ntmps152
  go_wp2
  go_ret
  exact ⟨rfl, rfl⟩

theorem wpList_make0 (w : World) {ops : Array Oper} {rest : List Oper} {o : Oper} {a : Act} {Q : Exit → Act → World → Prop} (hg : o.guard = none) (l c : Operand) (t : TypeId) (hop : o.op = Op.makeSlice t l c)
    (base : Nat) (e : TypeId) (i : TypeInfo) (z : Value) (size : Nat) (ht : Fagg.prog.underlying t = some (.slice e)) (hi : Fagg.prog.info? e = some i) (hz : i.zero = some z) (hsize : i.size = size)
    (kl kc : IntKind) (n : Nat) (hl : a.eval l = .int kl 0) (hc : a.eval c = .int kc (n : Int)) (hbytes : i.bytes * n ≤ 281474976710656) (h63 : n ≤ maxLen) (hbase : base ≤ w.heap.size)
    (hK : ∀ w', w'.ownsRow base e size (.slice (some ⟨w.heap.size, 0, none⟩) 0 n) 0 [] → w.grownBy w' none → wpList Fagg.prog ops Q rest (a.put o.dst (.slice (some ⟨w.heap.size, 0, none⟩) 0 n)) w') :
    wpList Fagg.prog ops Q (o :: rest) a w := by
  obtain ⟨w', hrun, r1, r2⟩ := run_make_own (P := Fagg.prog) w base t e i z size ht hi hz hsize kl kc n hbytes h63 hbase
  refine wpList_plain hg fun K hK' => ?_
  unfold Oper.wp execOp
  simp only [hop, hl, hc, Sem.run_bind, Sem.run_pure, Result.andThen_ok, hrun]
  exact hK' _ _ (hK w' r1 r2)

set_option maxHeartbeats 1000000 in
theorem words1_any (d : Nat) (w : World) (hd1 : 1 ≤ d) (hd : d ≤ 8) : Calls Fagg.prog 152 #[.int .i64 (d : Int)] w fun e w' => e = .returned (.slice (some ⟨w.heap.size, 0, none⟩) 0 d) ∧ w'.ownsRow w.heap.size 32 1 (.slice (some ⟨w.heap.size, 0, none⟩) 0 d) 0 [] ∧ Below w.heap.size w w' := by
  have e0 : ((d : Int) == 0) = false := by simp; omega
  obtain ⟨i0, hi0, hz0, hz1, hz2⟩ := info_parts info32
  go_enter Fagg.func152, Fagg.ntmps152
  go_wp2_with (at_make; refine wpList_make0 _ rfl _ _ 44 rfl w.heap.size 32 i0 (.int .u64 0) 1 Fagg.underlying44 hi0 hz0 hz1 .i64 .i64 d rfl rfl (by rw [hz2]; omega) (by unfold maxLen; omega) (Nat.le_refl _) ?_; intro w1 ho hg; have HO := hide ho; have HB := hide ((Below.refl w.heap.size w).grown hg (Nat.le_refl _) (fun k hk => by cases hk)); clear ho hg)
  go_ret
  exact ⟨rfl, unhide HO, unhide HB⟩
end Go.Proofs.Ygcfag
