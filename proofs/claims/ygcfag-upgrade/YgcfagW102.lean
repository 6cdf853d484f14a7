/-
  WALKS: tree.sized.
-/
import Derived.Test.YgcfagW101
import Derived.Test.YgcfagW10a
import Derived.Laws.OwnMore
namespace Go.Proofs.Ygcfag
open Go.RowKit
set_option linter.unusedVariables false
set_option linter.unusedSimpArgs false

theorem wpList_makeN (w : World) {ops : Array Oper} {rest : List Oper} {o : Oper} {a : Act} {Q : Exit → Act → World → Prop} (hg : o.guard = none) (l c : Operand) (t : TypeId) (hop : o.op = Op.makeSlice t l c)
    (base : Nat) (e : TypeId) (i : TypeInfo) (z : Value) (size : Nat) (ht : Fagg.prog.underlying t = some (.slice e)) (hi : Fagg.prog.info? e = some i) (hz : i.zero = some z) (hsize : i.size = size)
    (kl kc : IntKind) (n : Nat) (hl : a.eval l = .int kl (n : Int)) (hc : a.eval c = .int kc (n : Int)) (hbytes : i.bytes * n ≤ 281474976710656) (h63 : n ≤ maxLen) (hbase : base ≤ w.heap.size)
    (hK : ∀ w', w'.ownsRow base e size (.slice (some ⟨w.heap.size, 0, none⟩) n n) n (madeCells z.cells (n * size)).toList → w.grownBy w' none → wpList Fagg.prog ops Q rest (a.put o.dst (.slice (some ⟨w.heap.size, 0, none⟩) n n)) w') :
    wpList Fagg.prog ops Q (o :: rest) a w := by
  obtain ⟨w', hrun, r1, r2⟩ := run_make_full (P := Fagg.prog) w base t e i z size ht hi hz hsize kl kc n hbytes h63 hbase
  refine wpList_plain hg fun K hK' => ?_
  unfold Oper.wp execOp
  simp only [hop, hl, hc, Sem.run_bind, Sem.run_pure, Result.andThen_ok, hrun]
  exact hK' _ _ (hK w' r1 r2)

theorem own_block {w : World} {base g n : Nat} {e : TypeId} {xs : List Value} (h : w.ownsRow base e 1 (.slice (some ⟨g, 0, none⟩) n n) n xs) : ∃ cur : Array Value, w.heap[g]? = some (.cells cur e (0, 0)) ∧ cur.size = n := by
  obtain ⟨_, ⟨h2, _⟩ | ⟨g', cap, cur, hv, hB, hg, h3, h4, h5, h6⟩⟩ := h
  · simp at h2
  · simp only [Value.slice.injEq, Option.some.injEq, Addr.mk.injEq] at hv
    obtain ⟨⟨rfl, _⟩, _, rfl⟩ := hv
    exact ⟨cur, hg, by simpa using h5⟩

set_option maxHeartbeats 1000000 in
set_option maxRecDepth 100000 in
theorem sized_any (A : Option Addr) (d capd t : Nat) (ys : List Int) (w : World) (hs : Sl .u64 w A ys) (hn : ys.length = d) (ht : t ≤ d) (hd : d ≤ 8) :
    Calls Fagg.prog 89 #[.slice A d capd, .int .i64 (t : Int)] w fun e w' => ∃ A' c', e = .returned (.slice A' t c') ∧ w'.ownsRow w.heap.size 32 1 (.slice A' t c') t ((ys.take t).map (Value.int .u64)) ∧ Below w.heap.size w w' := by
  match t, ht with
  | 0, ht =>
    go_enter Fagg.func89, Fagg.ntmps89
    go_wp2_with fail
    exact bodyPost_ret (v := .slice none 0 0) (by simp [results, Fagg.results89, go_sem]) rfl ⟨none, 0, rfl, by simpa using World.ownsRow_nil _ _ _ _, Below.refl _ _⟩
  | t + 1, ht =>
    obtain ⟨b, o, hA, hc⟩ := hs.at (i := 0) (by omega)
    subst hA
    have hz : (((t + 1 : Nat) : Int) == 0) = false := by
      rw [beq_eq_false_iff_ne]; omega
    have HN := hide hn
    have HCC := hide hc
    clear hs hn hc
    generalize t + 1 = t at *
    obtain ⟨i0, hi0, hz0, hz1, hz2⟩ := info_parts info32
    have hby : i0.bytes * t ≤ 281474976710656 := by rw [hz2]; omega
    have h63 : t ≤ maxLen := by unfold maxLen; omega
    clear hz2
    go_enter Fagg.func89, Fagg.ntmps89
    go_wp2_with (first
      | (refine wpList_makeN w rfl _ _ 44 rfl w.heap.size 32 i0 (.int .u64 0) 1 Fagg.underlying44 hi0 hz0 hz1 .i64 .i64 t rfl rfl hby h63 (Nat.le_refl _) ?_; intro w1 ho1 hg1; obtain ⟨cur, hcur, hcsz⟩ := own_block ho1; have HB1 := hide ((Below.refl w.heap.size w).grown hg1 (Nat.le_refl _) (fun k hk => by cases hk)); clear ho1 hg1; simp only [Act.put, List.setIfInBounds_toArray, List.set_cons_zero, List.set_cons_succ])
      | (refine wpList_copy_all rfl _ _ 44 44 rfl 32 Fagg.underlying44 sz32 w.heap.size t t ⟨b, o, none⟩ d capd rfl rfl cur 32 hcur hcsz ((ys.take t).map (Value.int .u64)) ?hA ht ?hB ?hC ?hD
         case hA => (rw [List.length_map, List.length_take, unhide HN]; omega)
         case hC => exact ints_oneCell _ _
         case hB => (intro j u hu
                     have hj : j < t := by have := (List.getElem?_eq_some_iff.1 hu).1; simp at this; omega
                     have hj2 : j < ys.length := by rw [unhide HN]; omega
                     rw [Addr.add_mid, (unhide HB1).cell (p := ⟨b, o + j, none⟩) (World.block_lt_of_cell? w _ (unhide HCC j hj2)), unhide HCC j hj2, ← hu]
                     simp [List.getD, hj, hj2])
         intro w2 HW2))
    have hw2 := unhide HW2
    have hl : (ys.take t).length = t := by rw [List.length_take, unhide HN]; omega
    have hown : w2.ownsRow w.heap.size 32 1 (.slice (some ⟨w.heap.size, 0, none⟩) t t) t ((ys.take t).map (Value.int .u64)) := by
      refine ⟨by simpa using hl, .inr ⟨w.heap.size, t, ((ys.take t).map (Value.int .u64)).toArray, rfl, Nat.le_refl _, ?_, Nat.le_refl _, h63, by simpa using hl, ?_⟩⟩
      · rw [hw2, setRow_heap w1 w.heap.size cur _ 32 (0, 0) hcur]
      · rw [List.take_of_length_le (by simp; omega)]
    exact bodyPost_ret (v := .slice (some ⟨w.heap.size, 0, none⟩) t t) (by simp [results, Fagg.results89, go_sem]) rfl ⟨_, _, rfl, hown, by rw [hw2]; exact below_setRow (unhide HB1) (Nat.le_refl _) _⟩
end Go.Proofs.Ygcfag
