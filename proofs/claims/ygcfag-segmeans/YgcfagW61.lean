/-
  WALKS: seg.walk's push, whole.
-/
import Derived.Test.YgcfagW60
namespace Go.Proofs.Ygcfag
open Go.RowKit
set_option linter.unusedVariables false
set_option linter.unusedSimpArgs false

/-- One more on the stack. -/
theorem stack_push {u : World} {g : Nat} {L : List (Nat × Nat × Nat)} (h : StackAt u g L) (hl : L.length < 256) (a s d : Nat) :
    StackAt ((((u.setCell ⟨g, 32 + L.length * 3, none⟩ (.int .u16 (a : Int))).setCell ⟨g, 32 + L.length * 3 + 1, none⟩ (.int .u8 (s : Int))).setCell ⟨g, 32 + L.length * 3 + 2, none⟩ (.int .u8 (d : Int))).setCell ⟨g, 800, none⟩ (.int .u16 ((L.length : Int) + 1))) g (L ++ [(a, s, d)]) := by
  obtain ⟨⟨x0, k0⟩, f0⟩ := h.room (32 + L.length * 3) (by omega) (by omega)
  obtain ⟨⟨x1, k1⟩, f1⟩ := h.room (32 + L.length * 3 + 1) (by omega) (by omega)
  obtain ⟨⟨x2, k2⟩, f2⟩ := h.room (32 + L.length * 3 + 2) (by omega) (by omega)
  generalize hu3 : (((u.setCell ⟨g, 32 + L.length * 3, none⟩ (.int .u16 (a : Int))).setCell ⟨g, 32 + L.length * 3 + 1, none⟩ (.int .u8 (s : Int))).setCell ⟨g, 32 + L.length * 3 + 2, none⟩ (.int .u8 (d : Int))) = u3
  have hfr : ∀ p, u3.frozen? ⟨g, p, none⟩ = u.frozen? ⟨g, p, none⟩ := fun p => by
    subst hu3
    exact (frozen_set _ _ _ _ _).trans ((frozen_set _ _ _ _ _).trans (frozen_set _ _ _ _ _))
  have hoth : ∀ p, p ≠ 32 + L.length * 3 → p ≠ 32 + L.length * 3 + 1 → p ≠ 32 + L.length * 3 + 2 → u3.cell? ⟨g, p, none⟩ = u.cell? ⟨g, p, none⟩ := fun p h0 h1 h2 => by
    subst hu3
    exact (cell_other _ _ _ _ _ h2).trans ((cell_other _ _ _ _ _ h1).trans (cell_other _ _ _ _ _ h0))
  have hn0 : u3.cell? ⟨g, 32 + L.length * 3, none⟩ = some (.int .u16 (a : Int)) := by
    subst hu3
    exact (cell_other _ _ _ _ _ (by omega)).trans ((cell_other _ _ _ _ _ (by omega)).trans (cell_same _ _ _ _ _ k0))
  have hn1 : u3.cell? ⟨g, 32 + L.length * 3 + 1, none⟩ = some (.int .u8 (s : Int)) := by
    subst hu3
    exact (cell_other _ _ _ _ _ (by omega)).trans (cell_same _ _ _ _ x1 ((cell_other _ _ _ _ _ (by omega)).trans k1))
  have hn2 : u3.cell? ⟨g, 32 + L.length * 3 + 2, none⟩ = some (.int .u8 (d : Int)) := by
    subst hu3
    exact cell_same _ _ _ _ x2 ((cell_other _ _ _ _ _ (by omega)).trans ((cell_other _ _ _ _ _ (by omega)).trans k2))
  have h8 : u3.cell? ⟨g, 800, none⟩ = some (.int .u16 (L.length : Int)) := (hoth 800 (by omega) (by omega) (by omega)).trans h.cnt
  clear hu3
  have hlen : (L ++ [(a, s, d)]).length = L.length + 1 := by simp
  refine ⟨by omega, ?_, ?_, fun p h1 h2 => ⟨?_, ?_⟩, fun i hi => ?_, fun i hi => ?_, fun i hi => ?_⟩
  · rw [cell_same _ _ _ _ _ h8, hlen]; simp
  · rw [frozen_set, hfr]; exact h.cntf
  · rw [cell_other _ _ _ _ _ (by omega)]
    by_cases e0 : p = 32 + L.length * 3
    · subst e0; exact ⟨_, hn0⟩
    · by_cases e1 : p = 32 + L.length * 3 + 1
      · subst e1; exact ⟨_, hn1⟩
      · by_cases e2 : p = 32 + L.length * 3 + 2
        · subst e2; exact ⟨_, hn2⟩
        · rw [hoth p e0 e1 e2]; exact (h.room p h1 h2).1
  · rw [frozen_set, hfr]; exact (h.room p h1 h2).2
  · rw [cell_other _ _ _ _ _ (by omega)]
    by_cases e : i = L.length
    · subst e; rw [hn0]; simp [List.getD]
    · rw [hoth _ (by omega) (by omega) (by omega), h.c0 i (by omega)]
      simp [List.getD, List.getElem?_append_left (show i < L.length by omega)]
  · rw [cell_other _ _ _ _ _ (by omega)]
    by_cases e : i = L.length
    · subst e; rw [hn1]; simp [List.getD]
    · rw [hoth _ (by omega) (by omega) (by omega), h.c1 i (by omega)]
      simp [List.getD, List.getElem?_append_left (show i < L.length by omega)]
  · rw [cell_other _ _ _ _ _ (by omega)]
    by_cases e : i = L.length
    · subst e; rw [hn2]; simp [List.getD]
    · rw [hoth _ (by omega) (by omega) (by omega), h.c2 i (by omega)]
      simp [List.getD, List.getElem?_append_left (show i < L.length by omega)]

theorem StackAt.drew {u : World} {g : Nat} {L : List (Nat × Nat × Nat)} (h : StackAt u g L) : StackAt u.drew g L := ⟨h.le, h.cnt, h.cntf, h.room, h.c0, h.c1, h.c2⟩

/-- The pointer words that a push lays. -/
def pushed (s at_ dep k : Nat) : List (Nat × Nat × Nat) := (List.range k).map fun i => (at_ + i, s, dep)

theorem pushed_succ (s at_ dep k : Nat) : pushed s at_ dep (k + 1) = pushed s at_ dep k ++ [(at_ + k, s, dep)] := by simp [pushed, List.range_succ]

set_option maxHeartbeats 1000000 in
set_option maxRecDepth 100000 in
theorem push_any (g s at_ n dep : Nat) (L : List (Nat × Nat × Nat)) (w : World) (hst : StackAt w g L) (hn : at_ + n ≤ 256) (hL : L.length + n ≤ 256) :
    Calls Fagg.prog 75 #[.pointer (some ⟨g, 0, none⟩), .int .u8 (s : Int), .int .u16 (at_ : Int), .int .u16 (n : Int), .int .u8 (dep : Int)] w fun e w' => e = .returned (.tuple #[]) ∧ StackAt w' g (L ++ pushed s at_ dep n) ∧ WroteS g w w' := by
  have HST := hide hst
  clear hst
  go_enter Fagg.func75, Fagg.ntmps75
  go_wp2_with fail
  go_loopw [10] (fun s1 wr => ∃ (i : Nat), s1 = .int .u16 (i : Int) ∧ i ≤ n ∧ Hid (StackAt wr g (L ++ pushed s at_ dep i)) ∧ Hid (WroteS g w wr)) (fun s1 _ => n - (intOf s1).toNat)
  case atStart => exact ⟨0, rfl, by omega, by show StackAt _ _ _; simpa [pushed] using unhide HST, hide (WroteS.refl _ _)⟩
  case round =>
    obtain ⟨i, rfl, hi, HS, HW⟩ := hrel
    by_cases hlt : i < n
    · have e1 : (i : Int) < (n : Int) := by omega
      have hlen : (L ++ pushed s at_ dep i).length = L.length + i := by simp [pushed]
      generalize hLL : L ++ pushed s at_ dep i = LL at *
      have HLL := hide hLL
      clear hLL
      obtain ⟨⟨x0, k0⟩, f0⟩ := (unhide HS).room (32 + LL.length * 3) (by omega) (by omega)
      obtain ⟨⟨x1, k1⟩, f1⟩ := (unhide HS).room (32 + LL.length * 3 + 1) (by omega) (by omega)
      obtain ⟨⟨x2, k2⟩, f2⟩ := (unhide HS).room (32 + LL.length * 3 + 2) (by omega) (by omega)
      have hc := (unhide HS).cnt
      have hcf := (unhide HS).cntf
      have HP := hide (stack_push (unhide HS) (by omega) (at_ + i) s dep).drew
      have HW2 := hide (((((unhide HW).set (32 + LL.length * 3) (by omega) (by omega) (.int .u16 ((at_ + i : Nat) : Int))).set (32 + LL.length * 3 + 1) (by omega) (by omega) (.int .u8 (s : Int))).set (32 + LL.length * 3 + 2) (by omega) (by omega) (.int .u8 (dep : Int))).set 800 (by omega) (by omega) (.int .u16 ((LL.length : Int) + 1))).drew
      have hwr : IntKind.u16.wrap ((at_ : Int) + (i : Int)) = ((at_ + i : Nat) : Int) := by rw [IntKind.wrap_u16]; omega
      have hl256 : LL.length < 256 := by omega
      have HLEN := hide hlen
      clear hlen
      generalize hcn : LL.length = cn at *
      have n0 : ¬ 800 = 32 + cn * 3 := by omega
      have n1 : ¬ 800 = 32 + cn * 3 + 1 := by omega
      have n2 : ¬ 800 = 32 + cn * 3 + 2 := by omega
      clear hcn
      go_wp2_with fail
      refine push_store g s at_ dep i cn x0 x1 x2 wr (by omega) hl256 hc k0 k1 k2 f0 f1 f2 _ _ _ _ _ _ _ _ _ _ _ _ _ _ _ _ _ _ _ _ _ _ _ _ _ _ _ _ _ _ _ _ (hide ?_)
      intro v16 v17 v18 v19 v20 v21 v22 v23 v24 v25 v26 v27 v28 v29
      rw [hwr]
      clear k0 k1 k2
      have hcast : ((at_ + i : Nat) : Int) = (at_ : Int) + (i : Int) := by omega
      rw [hcast] at HP HW2
      clear hwr hcast
      go_wp2_with fail
      refine ⟨⟨i + 1, by go_num, by omega, ?_, HW2⟩, by simp [intOf]; omega⟩
      rw [pushed_succ, ← List.append_assoc, unhide HLL]
      exact HP
    · have e1 : ¬ (i : Int) < (n : Int) := by omega
      obtain rfl : i = n := by omega
      go_wp2_with fail
      exact bodyPost_end (v := .tuple #[]) (by simp [results, Fagg.results75, go_sem]) rfl ⟨rfl, unhide HS, unhide HW⟩
end Go.Proofs.Ygcfag
