/-
  WALKS: valid.Walk's claim of a root struct.
-/
import Derived.Test.YgcfagW87
namespace Go.Proofs.Ygcfag
open Go.RowKit
set_option linter.unusedVariables false
set_option linter.unusedSimpArgs false

/-- Of what was there nothing but the cells 'ok' of block g has turned. -/
structure KeptAt (g : Nat) (ok : Nat → Prop) (w w' : World) : Prop where
  size : w.heap.size ≤ w'.heap.size
  cell : ∀ b p, b < w.heap.size → (b ≠ g ∨ ¬ ok p) → w'.cell? ⟨b, p, none⟩ = w.cell? ⟨b, p, none⟩
  frozen : ∀ b p, b < w.heap.size → w'.frozen? ⟨b, p, none⟩ = w.frozen? ⟨b, p, none⟩
  bel : ∀ B, B ≤ g → B ≤ w.heap.size → Below B w w'

theorem KeptAt.trans {g : Nat} {ok : Nat → Prop} {a b c : World} (h : KeptAt g ok a b) (k : KeptAt g ok b c) : KeptAt g ok a c :=
  ⟨Nat.le_trans h.size k.size, fun x p hx hp => (k.cell x p (Nat.lt_of_lt_of_le hx h.size) hp).trans (h.cell x p hx hp), fun x p hx => (k.frozen x p (Nat.lt_of_lt_of_le hx h.size)).trans (h.frozen x p hx), fun B h1 h2 => (h.bel B h1 h2).trans (k.bel B h1 (Nat.le_trans h2 h.size))⟩
theorem KeptAt.of_below {g : Nat} {ok : Nat → Prop} {w w' : World} (h : Below w.heap.size w w') : KeptAt g ok w w' :=
  ⟨h.size, fun b p hb _ => h.cell (p := ⟨b, p, none⟩) hb, fun b p hb => h.frozen (p := ⟨b, p, none⟩) hb, fun B _ h2 => h.mono h2⟩
theorem KeptAt.mono {g : Nat} {ok ok' : Nat → Prop} {w w' : World} (h : KeptAt g ok w w') (hi : ∀ p, ok p → ok' p) : KeptAt g ok' w w' :=
  ⟨h.size, fun b p hb hp => h.cell b p hb (hp.imp id (fun h1 h2 => h1 (hi p h2))), h.frozen, h.bel⟩
theorem KeptAt.set {g : Nat} {ok : Nat → Prop} {w u : World} (h : KeptAt g ok w u) (p : Nat) (hp : ok p) (x : Value) : KeptAt g ok w (u.setCell ⟨g, p, none⟩ x) := by
  refine ⟨by simpa using h.size, fun b q hb hq => ?_, fun b q hb => ?_, fun B h1 h2 => (h.bel B h1 h2).setCell h1 _⟩
  · rw [← h.cell b q hb hq]
    exact World.cell?_setCell_other _ _ _ _ (fun e => by
      simp only [Addr.mk.injEq] at e
      rcases hq with hq | hq
      · exact hq e.1.symm
      · exact hq (e.2.1 ▸ hp))
  · rw [← h.frozen b q hb]; simp [go_sem]
theorem KeptAt.drew {g : Nat} {ok : Nat → Prop} {w u : World} (h : KeptAt g ok w u) : KeptAt g ok w u.drew := ⟨h.size, h.cell, h.frozen, fun B h1 h2 => (h.bel B h1 h2).drew⟩

theorem claim_mask (d : Nat) (hd : d ≤ 8) : putN 0 18446744073709551615 1 d = (2 ^ d - 1) * 2 := by
  have : ∀ d : Fin 9, putN 0 18446744073709551615 1 d.val = (2 ^ d.val - 1) * 2 := by decide +kernel
  exact this ⟨d, by omega⟩
theorem one_and (d : Nat) (hd : d ≤ 8) : 1 &&& ((2 ^ d - 1) * 2) = 0 := by
  have : ∀ d : Fin 9, 1 &&& ((2 ^ d.val - 1) * 2) = 0 := by decide +kernel
  exact this ⟨d, by omega⟩

set_option maxHeartbeats 1000000 in
set_option maxRecDepth 100000 in
theorem claim1_any (g d : Nat) (w : World) (hd : d ≤ 8) (hc : w.cell? ⟨g, 0, none⟩ = some (.int .u64 1)) (hf : w.frozen? ⟨g, 0, none⟩ = false) :
    Calls Fagg.prog 209 #[.pointer (some ⟨g, 0, none⟩), ptV (rootPt d)] w fun e w' => e = .returned (.bool true) ∧ KeptAt g (· = 0) w w' ∧ ∃ x : Int, w'.cell? ⟨g, 0, none⟩ = some (.int .u64 x) := by
  have HEX := hide (fun W => extent_any (rootPt d) W (rootPt_good d hd))
  have hw1 : wordsOf (rootPt d) = (d : Int) := by simp [wordsOf, rootPt]
  have hf1 : firstOf (rootPt d) = if d = 0 then 0 else 1 := by simp [firstOf, rootPt]
  rw [hw1, hf1] at HEX
  have hgw := World.block_lt_of_cell? w _ hc
  by_cases h0 : d = 0
  · subst h0
    simp only [if_true] at HEX
    simp only [ptV] at *
    have hB : Below w.heap.size w (w.alloc (Obj.cells #[Value.int IntKind.u8 (rootPt 0).kind, Value.int IntKind.u16 (rootPt 0).at_, Value.int IntKind.u8 (rootPt 0).data, Value.int IntKind.u8 (rootPt 0).ptrs, Value.int IntKind.u8 (rootPt 0).code, Value.int IntKind.u16 (rootPt 0).count] 58)) := (Below.refl _ _).alloc (Nat.le_refl _) _
    generalize rootPt 0 = q at *
    clear hw1 hf1
    go_enter Fagg.func209, Fagg.ntmps209
    go_wp2_with (go_at_call 76; with_reducible refine (unhide HEX _).mono ?_; rintro e w1 ⟨rfl, hb1⟩; have HB1 := hide (hB.trans (hb1.mono hB.size)); clear hb1)
    go_loopw [6] (fun s6 wr => s6 = .int .u16 0 ∧ wr = w1) (fun _ _ => 0)
    case atStart => exact ⟨rfl, rfl⟩
    case round =>
      obtain ⟨rfl, rfl⟩ := hrel
      go_wp2_with fail
      go_ret
      exact ⟨rfl, KeptAt.of_below (unhide HB1), 1, ((unhide HB1).cell (p := ⟨g, 0, none⟩) hgw).trans hc⟩
  · rw [if_neg h0] at HEX
    simp only [ptV] at *
    have hB : Below w.heap.size w (w.alloc (Obj.cells #[Value.int IntKind.u8 (rootPt d).kind, Value.int IntKind.u16 (rootPt d).at_, Value.int IntKind.u8 (rootPt d).data, Value.int IntKind.u8 (rootPt d).ptrs, Value.int IntKind.u8 (rootPt d).code, Value.int IntKind.u16 (rootPt d).count] 58)) := (Below.refl _ _).alloc (Nat.le_refl _) _
    generalize rootPt d = q at *
    have hd1 : 1 ≤ d := by omega
    have HP : Hid (∀ W, Calls Fagg.prog 168 #[.int .u64 0, .int .u64 18446744073709551615, .int .u8 1, .int .u8 (d : Int)] W fun e w' => e = .returned (.int .u64 (((2 ^ d - 1) * 2 : Nat) : Int)) ∧ w' = W) := hide (fun W => by
      have h := put_any 0 18446744073709551615 1 d W (by decide) (by decide) (by omega) (by decide)
      rw [claim_mask d hd] at h; exact h)
    have hp : (2 ^ d - 1) * 2 < 18446744073709551616 := by
      have : 2 ^ d ≤ 2 ^ 8 := Nat.pow_le_pow_right (by omega) hd
      omega
    have han : bits .and .u64 1 (((2 ^ d - 1) * 2 : Nat) : Int) = 0 := by
      have := u64_and_nat 1 ((2 ^ d - 1) * 2) (by omega) hp
      rw [one_and d hd] at this; exact this
    generalize (2 ^ d - 1) * 2 = M at *
    clear hw1 hf1 h0
    go_enter Fagg.func209, Fagg.ntmps209
    go_wp2_with (go_at_call 76; with_reducible refine (unhide HEX _).mono ?_; rintro e w1 ⟨rfl, hb1⟩; have HB1 := hide (hB.trans (hb1.mono hB.size)); clear hb1)
    go_loopw [5, 6] (fun s5 s6 wr => (s5 = .int .u16 1 ∧ s6 = .int .u16 (d : Int) ∧ wr = w1) ∨ (s6 = .int .u16 0 ∧ Hid (KeptAt g (· = 0) w wr ∧ ∃ x : Int, wr.cell? ⟨g, 0, none⟩ = some (.int .u64 x)))) (fun _ s6 _ => (intOf s6).toNat)
    case atStart => exact .inl ⟨rfl, rfl, rfl⟩
    case round =>
      rcases hrel with ⟨rfl, rfl, hwr⟩ | ⟨rfl, HK⟩
      · have c0 : wr.cell? ⟨g, 0, none⟩ = some (.int .u64 1) := by rw [hwr]; exact ((unhide HB1).cell (p := ⟨g, 0, none⟩) hgw).trans hc
        have f0 : wr.frozen? ⟨g, 0, none⟩ = false := by rw [hwr]; exact ((unhide HB1).frozen (p := ⟨g, 0, none⟩) hgw).trans hf
        have HWR := hide hwr
        clear hwr
        have hdpos : (d : Int) > 0 := by omega
        go_wp2_with (go_at_call 168; with_reducible refine (unhide HP _).mono ?_; rintro e w2 ⟨rfl, hw2⟩; rw [hw2]; clear hw2)
        go_region
        all_goals go_wp2_with fail
        exact ⟨.inr ⟨by go_num, hide ⟨by rw [unhide HWR]; exact (KeptAt.set (ok := (· = 0)) (KeptAt.of_below (unhide HB1)) 0 rfl _).drew, _, World.cell?_setCell_same _ _ _ c0⟩⟩, by simp [intOf]; omega⟩
      · go_wp2_with fail
        go_ret
        exact ⟨rfl, unhide HK⟩
end Go.Proofs.Ygcfag
