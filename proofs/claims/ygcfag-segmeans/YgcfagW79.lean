/-
  WALKS: seg.Validate: the sets of taken words, the stack.
-/
import Derived.Test.YgcfagW78
import Derived.Test.YgcfagPlain20
namespace Go.Proofs.Ygcfag
open Go.RowKit
set_option linter.unusedVariables false
set_option linter.unusedSimpArgs false

/-- The eight sets hold what L has taken. -/
def SetsAt (w : World) (g : Nat) (L : List (Nat × Nat × Nat)) : Prop := ∀ s, s < 8 → SetAt w g (s * 4) (fun i => covB L s i)

theorem SetsAt.of {w u : World} {g : Nat} {L : List (Nat × Nat × Nat)} (h : SetsAt w g L) (hc : ∀ p, p < 32 → u.cell? ⟨g, p, none⟩ = w.cell? ⟨g, p, none⟩) (hf : ∀ p, p < 32 → u.frozen? ⟨g, p, none⟩ = w.frozen? ⟨g, p, none⟩) : SetsAt u g L := fun s hs k hk => by
  obtain ⟨v, h1, h2, h3⟩ := h s hs k hk
  exact ⟨v, (hc _ (by omega)).trans h1, (hf _ (by omega)).trans h2, h3⟩

theorem SetsAt.wroteS {w u : World} {g : Nat} {L : List (Nat × Nat × Nat)} (h : SetsAt w g L) (hu : WroteS g w u) : SetsAt u g L :=
  h.of (fun p hp => hu.cell g p (.inr (.inl hp))) (fun p _ => hu.frozen g p)

theorem SetsAt.lt {w : World} {g : Nat} {L : List (Nat × Nat × Nat)} (h : SetsAt w g L) : g < w.heap.size := by
  obtain ⟨v, h1, _, _⟩ := h 0 (by omega) 0 (by omega)
  exact World.block_lt_of_cell? w _ h1

theorem SetsAt.wroteG {w u : World} {g : Nat} {L : List (Nat × Nat × Nat)} (h : SetsAt w g L) (hu : WroteG g w u) : SetsAt u g L :=
  h.of (fun p hp => hu.cell g p h.lt (.inr (.inl hp))) (fun p _ => hu.frozen g p h.lt)

theorem SetsAt.below {w u : World} {g : Nat} {L : List (Nat × Nat × Nat)} (h : SetsAt w g L) (hu : Below w.heap.size w u) : SetsAt u g L :=
  h.of (fun p hp => hu.cell (p := ⟨g, p, none⟩) h.lt) (fun p _ => hu.frozen (p := ⟨g, p, none⟩) h.lt)

theorem SetsAt.set800 {w : World} {g : Nat} {L : List (Nat × Nat × Nat)} (h : SetsAt w g L) (v : Value) : SetsAt (w.setCell ⟨g, 800, none⟩ v) g L :=
  h.of (fun p hp => cell_other _ _ _ _ _ (by omega)) (fun p _ => frozen_set _ _ _ _ _)

theorem free_gather {L : List (Nat × Nat × Nat)} (hL : ∀ o ∈ L, o.2.1 < o.2.2) (s a n : Nat) : freeB (fun i => covB L s i) a (a + n) = gatherB L s a n := by
  by_cases h0 : n = 0
  · subst h0
    rw [Nat.add_zero, freeB_same]; simp [gatherB]
  · have e : gatherB L s a n = apartB L s a n := by simp [gatherB, h0]
    rw [e]
    cases h : apartB L s a n with
    | true => exact decide_eq_true fun i h1 h2 => apart_cov h i h2 h1
    | false =>
      refine decide_eq_false fun hall => ?_
      unfold apartB at h
      rw [List.all_eq_false] at h
      obtain ⟨o, ho, hm⟩ := h
      have hw := hL o ho
      simp [meetB] at hm
      obtain ⟨h1, h2, h3⟩ := hm
      have hi := hall (max a o.2.1) (by omega) (by omega)
      unfold covB at hi
      rw [List.any_eq_false] at hi
      have := hi o ho
      simp at this
      have := this h1
      omega

theorem with_gather (L : List (Nat × Nat × Nat)) (s a n : Nat) : with_ (fun i => covB L s i) a (a + n) = fun i => covB (L ++ ivs s a n) s i := by
  funext i
  unfold with_ ivs
  rw [covB_append]
  by_cases h0 : n = 0
  · subst h0
    have : ¬ (a ≤ i ∧ i < a + 0) := by omega
    simp [covB]; omega
  · rw [if_neg h0]
    simp [covB]

theorem other_gather (L : List (Nat × Nat × Nat)) (s a n t : Nat) (h : t ≠ s) : (fun i => covB (L ++ ivs s a n) t i) = fun i => covB L t i := by
  funext i
  rw [covB_append]
  unfold ivs
  by_cases h0 : n = 0
  · simp [h0, covB]
  · rw [if_neg h0]
    simp [covB]; intro h1; exact absurd h1.symm h

/-- walk.claim, of the sets. -/
theorem vclaim_any (g s at_ n : Nat) (L : List (Nat × Nat × Nat)) (w : World) (hs : s < 8) (hset : SetsAt w g L) (hL : ∀ o ∈ L, o.2.1 < o.2.2) (hn : at_ + n ≤ 256) :
    Calls Fagg.prog 77 #[.pointer (some ⟨g, 0, none⟩), .int .u8 (s : Int), .int .u16 (at_ : Int), .int .u16 (n : Int)] w fun e w' => e = .returned (.bool (gatherB L s at_ n)) ∧ SetsAt w' g (L ++ ivs s at_ n) ∧ Wrote4 g (s * 4) w w' := by
  refine (wclaim_any g s at_ n _ w hs (hset s hs) hn).mono fun e w' ⟨he, h1, h2⟩ => ⟨by rw [he, free_gather hL], fun t ht => ?_, h2⟩
  by_cases e : t = s
  · subst e
    rw [with_gather] at h1
    exact h1
  · rw [other_gather L s at_ n t e]
    intro k hk
    obtain ⟨v, k1, k2, k3⟩ := hset t ht k hk
    exact ⟨v, (h2.cell g _ (by omega)).trans k1, (h2.frozen g _).trans k2, k3⟩

theorem stack_pop {u : World} {g : Nat} {st : List (Nat × Nat × Nat)} {x : Nat × Nat × Nat} (h : StackAt u g (st ++ [x])) : StackAt (u.setCell ⟨g, 800, none⟩ (.int .u16 (st.length : Int))) g st := by
  have hle := h.le
  rw [List.length_append] at hle
  have hg : ∀ i, i < st.length → (st ++ [x]).getD i (0, 0, 0) = st.getD i (0, 0, 0) := fun i hi => by
    rw [List.getD_eq_getElem?_getD, List.getD_eq_getElem?_getD, List.getElem?_append_left hi]
  have hl : ∀ i, i < st.length → i < (st ++ [x]).length := fun i hi => by simp; omega
  refine ⟨by omega, cell_same _ _ _ _ _ h.cnt, by rw [frozen_set]; exact h.cntf, fun p h1 h2 => ?_, fun i hi => ?_, fun i hi => ?_, fun i hi => ?_⟩
  · rw [cell_other _ _ _ _ _ (by omega), frozen_set]; exact h.room p h1 h2
  · rw [cell_other _ _ _ _ _ (by simp at hle; omega), ← hg i hi]; exact h.c0 i (hl i hi)
  · rw [cell_other _ _ _ _ _ (by simp at hle; omega), ← hg i hi]; exact h.c1 i (hl i hi)
  · rw [cell_other _ _ _ _ _ (by simp at hle; omega), ← hg i hi]; exact h.c2 i (hl i hi)

theorem StackAt.wrote4 {w u : World} {g o : Nat} {st : List (Nat × Nat × Nat)} (h : StackAt w g st) (hu : Wrote4 g o w u) (ho : o + 4 ≤ 32) : StackAt u g st := by
  have hc : ∀ p, 32 ≤ p → u.cell? ⟨g, p, none⟩ = w.cell? ⟨g, p, none⟩ := fun p hp => hu.cell g p (by omega)
  have hf : ∀ p, u.frozen? ⟨g, p, none⟩ = w.frozen? ⟨g, p, none⟩ := fun p => hu.frozen g p
  exact ⟨h.le, (hc _ (by omega)).trans h.cnt, (hf _).trans h.cntf, fun p h1 h2 => ⟨by rw [hc p h1]; exact (h.room p h1 h2).1, by rw [hf]; exact (h.room p h1 h2).2⟩, fun i hi => (hc _ (by omega)).trans (h.c0 i hi), fun i hi => (hc _ (by omega)).trans (h.c1 i hi), fun i hi => (hc _ (by omega)).trans (h.c2 i hi)⟩

theorem one_bit (j : Nat) (hj : j < 64) : (1 : Nat).testBit j = decide (j = 0) := by
  rcases j with _ | j
  · rfl
  · simp [Nat.testBit_succ]

/-- The state at the beginning. -/
theorem walk_start {Z : Array Value} (hz : Z.size = 801) (h0 : ∀ p, p < 32 → Z[p]? = some (.int .u64 0)) (h1 : ∀ p, p < 801 → ∃ v, Z[p]? = some v) (h8 : Z[800]? = some (.int .u16 0)) (w : World) :
    SetsAt ((w.alloc (.cells Z 156)).setCell ⟨w.heap.size, 0, none⟩ (.int .u64 1)) w.heap.size [(0, 0, 1)] ∧ StackAt ((w.alloc (.cells Z 156)).setCell ⟨w.heap.size, 0, none⟩ (.int .u64 1)) w.heap.size [] := by
  have hc : ∀ p, (w.alloc (.cells Z 156)).cell? ⟨w.heap.size, p, none⟩ = Z[p]? := fun p => by
    rw [cell_of_row _ _ p Z 156 (0, 0) (heap_alloc_new w _)]
  have hf : ∀ p, (w.alloc (.cells Z 156)).frozen? ⟨w.heap.size, p, none⟩ = false := fun p => by simp
  have hc2 : ∀ p, p ≠ 0 → ((w.alloc (.cells Z 156)).setCell ⟨w.heap.size, 0, none⟩ (.int .u64 1)).cell? ⟨w.heap.size, p, none⟩ = Z[p]? := fun p hp => (cell_other _ _ _ _ _ hp).trans (hc p)
  have hf2 : ∀ p, ((w.alloc (.cells Z 156)).setCell ⟨w.heap.size, 0, none⟩ (.int .u64 1)).frozen? ⟨w.heap.size, p, none⟩ = false := fun p => (frozen_set _ _ _ _ _).trans (hf p)
  refine ⟨fun s hs k hk => ?_, ⟨by simp, (hc2 _ (by omega)).trans h8, hf2 _, fun p k1 k2 => ⟨?_, hf2 _⟩, fun i hi => by simp at hi, fun i hi => by simp at hi, fun i hi => by simp at hi⟩⟩
  · by_cases e : s * 4 + k = 0
    · obtain rfl : s = 0 := by omega
      obtain rfl : k = 0 := by omega
      refine ⟨1, cell_same _ _ _ _ _ ((hc 0).trans (h0 0 (by omega))), hf2 _, by omega, fun j hj => ?_⟩
      rw [one_bit j hj]
      simp [covB]
    · refine ⟨0, (hc2 _ e).trans (h0 _ (by omega)), hf2 _, by omega, fun j hj => ?_⟩
      rw [Nat.zero_testBit]
      symm
      show covB [(0, 0, 1)] s (64 * k + j) = false
      simp [covB]
      omega
  · obtain ⟨v, hv⟩ := h1 p (by omega)
    exact ⟨v, (hc2 p (by omega)).trans hv⟩
end Go.Proofs.Ygcfag
