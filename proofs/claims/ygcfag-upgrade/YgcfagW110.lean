/-
  WALKS: the builder's New, even.
-/
import Derived.Test.YgcfagW109
namespace Go.Proofs.Ygcfag
open Go.RowKit
set_option linter.unusedVariables false
set_option linter.unusedSimpArgs false

def pt00 : Pt := ⟨1, 0, 0, 1, 0, 0⟩
theorem bd_new (w : World) : BdAt w ((w.alloc (.cells #[.int .u64 0] 32)).alloc (.cells #[.slice (some ⟨w.heap.size, 0, none⟩) 1 1, .int .u64 1, .int .u64 0, .int .u64 0, .int .u64 0, .slice none 0 0, .slice none 0 0, .slice none 0 0, .slice none 0 0, .slice none 0 0] 136)) (w.heap.size + 1) (st (.slice (some ⟨w.heap.size, 0, none⟩) 1 1) (.slice none 0 0) (.slice none 0 0) (.slice none 0 0) (.slice none 0 0) (.slice none 0 0)) (st 1 0 0 0 0 0) (st [.int .u64 0] [] [] [] [] []) := by
  have hb1 : Below w.heap.size w (w.alloc (.cells #[.int .u64 0] 32)) := (Below.refl _ _).alloc (Nat.le_refl _) _
  have hb2 := hb1.alloc (by simp : w.heap.size ≤ (w.alloc (.cells #[.int .u64 0] 32)).heap.size) (.cells #[.slice (some ⟨w.heap.size, 0, none⟩) 1 1, .int .u64 1, .int .u64 0, .int .u64 0, .int .u64 0, .slice none 0 0, .slice none 0 0, .slice none 0 0, .slice none 0 0, .slice none 0 0] 136)
  have hB : (w.alloc (.cells #[.int .u64 0] 32)).heap.size = w.heap.size + 1 := by simp
  have hc : ∀ p, p ≠ 1 → ((w.alloc (.cells #[.int .u64 0] 32)).alloc (.cells #[.slice (some ⟨w.heap.size, 0, none⟩) 1 1, .int .u64 1, .int .u64 0, .int .u64 0, .int .u64 0, .slice none 0 0, .slice none 0 0, .slice none 0 0, .slice none 0 0, .slice none 0 0] 136)).cell? ⟨w.heap.size + 1, p, none⟩ = #[Value.slice (some ⟨w.heap.size, 0, none⟩) 1 1, .int .u64 1, .int .u64 0, .int .u64 0, .int .u64 0, .slice none 0 0, .slice none 0 0, .slice none 0 0, .slice none 0 0, .slice none 0 0][p]? := by
    intro p hp
    rw [World.cell?_alloc_at _ _ _ _ hB.symm]
  refine ⟨hb2, by omega, by simp, ?_, ?_, ?_, ?_, ?_⟩
  · intro k hk
    match k, hk with
    | 0, _ => exact hc 0 (by omega)
    | 1, _ => exact hc 5 (by omega)
    | 2, _ => exact hc 6 (by omega)
    | 3, _ => exact hc 7 (by omega)
    | 4, _ => exact hc 8 (by omega)
    | 5, _ => exact hc 9 (by omega)
  · intro p hp
    rw [← hB, frozen?_alloc_cells, frozen?_alloc_cells]
    have : ∀ W : World, W.frozen? ⟨W.heap.size + 1, p, none⟩ = false := fun W => by
      simp [World.frozen?]
    rw [hB]; exact this w
  · intro k hk
    match k, hk with
    | 0, _ => exact (World.ownsRow_lit (base := w.heap.size) (e := 32) (size := 1) w #[.int .u64 0] 1 (Nat.le_refl _) (by unfold maxLen; omega) rfl).alloc _
    | 1, _ => exact World.ownsRow_nil _ _ _ _
    | 2, _ => exact World.ownsRow_nil _ _ _ _
    | 3, _ => exact World.ownsRow_nil _ _ _ _
    | 4, _ => exact World.ownsRow_nil _ _ _ _
    | 5, _ => exact World.ownsRow_nil _ _ _ _
  · intro i j hi hj hij
    match i, hi with
    | 0, _ => 
      match j, hj with
      | 1, _ => exact .inr (by simp [st, Value.ownBlock])
      | 2, _ => exact .inr (by simp [st, Value.ownBlock])
      | 3, _ => exact .inr (by simp [st, Value.ownBlock])
      | 4, _ => exact .inr (by simp [st, Value.ownBlock])
      | 5, _ => exact .inr (by simp [st, Value.ownBlock])
    | 1, _ => exact .inl rfl
    | 2, _ => exact .inl rfl
    | 3, _ => exact .inl rfl
    | 4, _ => exact .inl rfl
    | 5, _ => exact .inl rfl
  · intro k hk
    match k, hk with
    | 0, _ => simp [st, Value.ownBlock]
    | 1, _ => simp [st, Value.ownBlock]
    | 2, _ => simp [st, Value.ownBlock]
    | 3, _ => simp [st, Value.ownBlock]
    | 4, _ => simp [st, Value.ownBlock]
    | 5, _ => simp [st, Value.ownBlock]

theorem wpList_make11 {ops : Array Oper} {rest : List Oper} {o : Oper} {a : Act} {w : World} {Q : Exit → Act → World → Prop} (hg : o.guard = none) (ho : o.op = .makeSlice 44 (.const (.int .i64 1)) (.const (.int .i64 1)))
    (h : wpList Fagg.prog ops Q rest (a.put o.dst (.slice (some ⟨w.heap.size, 0, none⟩) 1 1)) (w.alloc (.cells #[.int .u64 0] 32))) : wpList Fagg.prog ops Q (o :: rest) a w := by
  obtain ⟨i0, hi0, hz0, hz1, hz2⟩ := info_parts info32
  have hrun := run_make (P := Fagg.prog) w 44 32 i0 (.int .u64 0) Fagg.underlying44 hi0 hz0 .i64 .i64 1 1 (by omega) (by omega) (by rw [hz2]; decide) (by omega)
  have hm : madeCells (Value.int .u64 0).cells ((1 : Int).toNat * i0.size) = #[.int .u64 0] := by
    rw [hz1]
    apply Array.toList_inj.mp
    exact toList_madeCells_one _ 1
  rw [hm] at hrun
  have e1 : a.eval (.const (.int .i64 1)) = .int .i64 1 := rfl
  refine wpList_plain hg fun K hK => ?_
  unfold Oper.wp execOp
  simp only [ho, e1, Sem.run_bind, Sem.run_pure, Result.andThen_ok, hrun]
  exact hK _ _ h

set_option maxHeartbeats 1000000 in
set_option maxRecDepth 100000 in
theorem new_any (w : World) :
    Calls Fagg.prog 60 #[] w fun e w' => ∃ B a b c d ee f, e = .returned (.pointer (some ⟨B, 0, none⟩)) ∧ BdAt w w' B (st a b c d ee f) (st 1 1 1 1 1 1) (st [.int .u64 0] (ptCs pt00) [.int .u8 0] [.int .u8 0] [.int .u8 0] [.bool false]) := by
  have HN := hide (fun (W : World) (hW : BdAt w W (w.heap.size + 1) (st (.slice (some ⟨w.heap.size, 0, none⟩) 1 1) (.slice none 0 0) (.slice none 0 0) (.slice none 0 0) (.slice none 0 0) (.slice none 0 0)) (st 1 0 0 0 0 0) (st [.int .u64 0] [] [] [] [] [])) => hang_any hW (by omega) pt00 0 0 0)
  have HB := hide (bd_new w)
  go_enter Fagg.func60, Fagg.ntmps60
  refine wp_seq_k (fun K0 hK0 => ?_)
  have HC0 := hide hK0
  clear hK0
  go_wp2_with fail
  refine unhide HC0 _ _ ?_
  clear HC0
  refine wp_seq_k (fun K0 hK0 => ?_)
  have HC0 := hide hK0
  clear hK0
  go_wp2_with (refine wpList_make11 rfl rfl ?_)
  refine unhide HC0 _ _ ?_
  clear HC0
  refine wp_seq_k (fun K0 hK0 => ?_)
  have HC0 := hide hK0
  clear hK0
  go_wp2_with fail
  refine unhide HC0 _ _ ?_
  clear HC0
  refine gen_world _ (fun w' => BdAt w w' (w.heap.size + 1) (st (.slice (some ⟨w.heap.size, 0, none⟩) 1 1) (.slice none 0 0) (.slice none 0 0) (.slice none 0 0) (.slice none 0 0) (.slice none 0 0)) (st 1 0 0 0 0 0) (st [.int .u64 0] [] [] [] [] [])) (unhide HB) ?_
  intro w2 h2
  have HN2 := hide (show Calls Fagg.prog 127 #[.pointer (some ⟨w.heap.size + 1, 0, none⟩), .agg #[.int .u8 1, .int .u16 0, .int .u8 0, .int .u8 1, .int .u8 0, .int .u16 0], .int .u8 0, .int .u8 0, .int .u8 0] w2 _ from unhide HN w2 h2)
  clear HN HB h2
  generalize w.heap.size + 1 = B at *
  go_wp2_with (go_at_call 127; with_reducible refine (unhide HN2).mono ?_; rintro ee w3 ⟨rfl, b', c', d', e', f', _, h3⟩; have H3 := hide h3; clear h3)
  go_ret
  exact ⟨B, _, _, _, _, _, _, rfl, unhide H3⟩

set_option maxHeartbeats 1000000 in
set_option maxRecDepth 100000 in
theorem even_any {w0 w : World} {B na m : Nat} {a b c d e f : Value} {xa xo xu xv xp xd : List Value} (h : BdAt w0 w B (st a b c d e f) (st na m m m m m) (st xa xo xu xv xp xd)) (hm : 1 ≤ m) (hm2 : m ≤ 256) (hn : 1 ≤ na) (hn2 : na ≤ 256) :
    Calls Fagg.prog 128 #[.pointer (some ⟨B, 0, none⟩)] w fun ee w' => ee = .returned (.bool true) ∧ w' = w := by
  obtain ⟨g0, k0, e0, _, _⟩ := h.own0.form (show 0 < na by omega)
  obtain ⟨g1, k1, e1, _, _⟩ := h.own1.form (show 0 < m by omega)
  obtain ⟨g2, k2, e2, _, _⟩ := h.own2.form (show 0 < m by omega)
  obtain ⟨g3, k3, e3, _, _⟩ := h.own3.form (show 0 < m by omega)
  obtain ⟨g4, k4, e4, _, _⟩ := h.own4.form (show 0 < m by omega)
  obtain ⟨g5, k5, e5, _, _⟩ := h.own5.form (show 0 < m by omega)
  have c0 : w.cell? ⟨B, 0, none⟩ = some (.slice (some ⟨g0, 0, none⟩) na k0) := h.c0.trans (congrArg some e0)
  have c1 : w.cell? ⟨B, 5, none⟩ = some (.slice (some ⟨g1, 0, none⟩) m k1) := h.c1.trans (congrArg some e1)
  have c2 : w.cell? ⟨B, 6, none⟩ = some (.slice (some ⟨g2, 0, none⟩) m k2) := h.c2.trans (congrArg some e2)
  have c3 : w.cell? ⟨B, 7, none⟩ = some (.slice (some ⟨g3, 0, none⟩) m k3) := h.c3.trans (congrArg some e3)
  have c4 : w.cell? ⟨B, 8, none⟩ = some (.slice (some ⟨g4, 0, none⟩) m k4) := h.c4.trans (congrArg some e4)
  have c5 : w.cell? ⟨B, 9, none⟩ = some (.slice (some ⟨g5, 0, none⟩) m k5) := h.c5.trans (congrArg some e5)
  have d1 : decide ((na : Int) < 1) = false := decide_eq_false (by omega)
  have d2 : decide ((256 : Int) < na) = false := decide_eq_false (by omega)
  have d3 : decide ((1 : Int) ≤ m) = true := decide_eq_true (by omega)
  have d4 : decide ((m : Int) ≤ 256) = true := decide_eq_true (by omega)
  clear h e0 e1 e2 e3 e4 e5
  go_enter Fagg.func128, Fagg.ntmps128
  go_wp2_with fail
  go_ret
  exact ⟨rfl, rfl⟩
end Go.Proofs.Ygcfag
