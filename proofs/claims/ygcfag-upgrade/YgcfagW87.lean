/-
  WALKS: wire.MakeStruct for a root pointer; wire.Resolve of it.
-/
import Derived.Test.YgcfagW86
import Derived.Test.YgcfagW42
import Derived.Test.YgcfagW54
namespace Go.Proofs.Ygcfag
open Go.RowKit
set_option linter.unusedVariables false
set_option linter.unusedSimpArgs false

/-- The root pointer's word for a struct of d data words and no pointers behind it. -/
def rootW (d : Nat) : Nat := if d = 0 then 4294967292 else d * 4294967296

theorem put_off0 : putN 0 18446744073709551615 2 30 = 4294967292 := by decide +kernel
theorem put_off1 : putN 0 0 2 30 = 0 := by decide +kernel

theorem offset_00 (w : World) : Calls Fagg.prog 203 #[.int .u16 0, .int .u16 0] w fun e w' => e = .returned (.int .u64 4294967292) ∧ w' = w := by
  have H : Hid (Calls Fagg.prog 168 #[.int .u64 0, .int .u64 18446744073709551615, .int .u8 2, .int .u8 30] w fun e w' => e = .returned (.int .u64 4294967292) ∧ w' = w) := hide (by
    have h := put_any 0 18446744073709551615 2 30 w (by decide) (by decide) (by decide) (by decide)
    rw [put_off0] at h; exact h)
  have hneg : IntKind.u64.wrap (-1) = 18446744073709551615 := by decide
  go_enter Fagg.func203, Fagg.ntmps203
  go_wp2_with (go_at_call 168; (try rw [hneg]); with_reducible refine (unhide H).mono ?_; rintro e w1 ⟨rfl, hw1⟩; subst hw1)
  go_ret
  exact ⟨rfl, rfl⟩

theorem offset_01 (w : World) : Calls Fagg.prog 203 #[.int .u16 0, .int .u16 1] w fun e w' => e = .returned (.int .u64 0) ∧ w' = w := by
  have H : Hid (Calls Fagg.prog 168 #[.int .u64 0, .int .u64 0, .int .u8 2, .int .u8 30] w fun e w' => e = .returned (.int .u64 0) ∧ w' = w) := hide (by
    have h := put_any 0 0 2 30 w (by decide) (by decide) (by decide) (by decide)
    rw [put_off1] at h; exact h)
  go_enter Fagg.func203, Fagg.ntmps203
  go_wp2_with (go_at_call 168; with_reducible refine (unhide H).mono ?_; rintro e w1 ⟨rfl, hw1⟩; subst hw1)
  go_ret
  exact ⟨rfl, rfl⟩

theorem makeRoot_any (d : Nat) (w : World) (hd : d ≤ 8) :
    Calls Fagg.prog 158 #[.int .u16 0, .int .u16 1, .int .u8 (d : Int), .int .u8 0] w fun e w' => e = .returned (.int .u64 (rootW d : Int)) ∧ w' = w := by
  have H0 := hide (offset_00 w)
  have H1 := hide (offset_01 w)
  by_cases h0 : d = 0
  · subst h0
    go_enter Fagg.func158, Fagg.ntmps158
    go_wp2_with (go_at_call 203; with_reducible refine (unhide H0).mono ?_; rintro e w1 ⟨rfl, hw1⟩; subst hw1)
    go_ret
    exact ⟨rfl, rfl⟩
  · have e0 : ((d : Int) == 0) = false := by simp; omega
    have HR := hide (show (rootW d : Int) = (d : Int) * 4294967296 by unfold rootW; rw [if_neg h0]; simp)
    have hor : bits .or .u64 (bits .or .u64 0 ((d : Int) * 4294967296)) 0 = (d : Int) * 4294967296 := by
      have e1 : (d : Int) * 4294967296 = ((d * 4294967296 : Nat) : Int) := by simp
      have h1 := u64_or_nat 0 (d * 4294967296) (by omega) (by omega)
      have h2 := u64_or_nat (d * 4294967296) 0 (by omega) (by omega)
      rw [Nat.zero_or] at h1
      rw [Nat.or_zero] at h2
      rw [e1]
      exact (congrArg (fun z => bits .or .u64 z 0) h1).trans h2
    have HOR := hide hor
    clear h0 hor
    go_enter Fagg.func158, Fagg.ntmps158
    go_wp2_with (go_at_call 203; with_reducible refine (unhide H1).mono ?_; rintro e w1 ⟨rfl, hw1⟩; subst hw1)
    go_ret
    exact ⟨ret_int ((unhide HOR).trans (unhide HR).symm), rfl⟩

/-- What the root pointer names. -/
def rootPt (d : Nat) : Pt := ⟨1, if d = 0 then 0 else 1, (d : Int), 0, 0, 0⟩

theorem rootPt_good (d : Nat) (hd : d ≤ 8) : GoodPt (rootPt d) := by
  unfold rootPt
  exact .struct _ _ _ (by split <;> omega) (by omega) (by omega)

theorem root_read (xs : List Int) (d : Nat) (hd : d ≤ 8) (hl : xs.length = d + 1) : readOf xs (rootW d : Int) 1 1 = some (rootPt d) := by
  unfold readOf rootPt rootW
  by_cases h0 : d = 0
  · subst h0
    simp [readNZ, sizedB, dataOf, ptrsOf, sgn30, spansB]
  · rw [if_neg h0, if_neg h0, if_neg (by omega)]
    have e1 : ((d * 4294967296 : Nat) : Int) % 4 = 0 := by omega
    have e2 : dataOf ((d * 4294967296 : Nat) : Int) = (d : Int) := by unfold dataOf; omega
    have e3 : ptrsOf ((d * 4294967296 : Nat) : Int) = 0 := by unfold ptrsOf; omega
    have e4 : sgn30 (((d * 4294967296 : Nat) : Int) / 4) = 0 := by unfold sgn30; split <;> omega
    unfold readNZ
    rw [if_pos e1, e2, e3, e4]
    have e5 : sizedB ((d * 4294967296 : Nat) : Int) = true := by unfold sizedB; rw [e2, e3]; simp; omega
    have e6 : spansB xs.length 1 (1 + 0) ((d : Int) + 0) = true := by unfold spansB; rw [if_neg (by omega)]; simp; omega
    rw [e5, e6]; simp

/-- wire.Resolve of word 0. -/
theorem resolve0_any (a : Option Addr) (n c d : Nat) (xs : List Int) (w : World) (hs : Sl .u64 w a xs) (hn : xs.length = n) (hw : Wds xs) (hd : d ≤ 8) (hl : n = d + 1) (hx : xs.getD 0 0 = (rootW d : Int)) :
    Calls Fagg.prog 136 #[.slice a n c, .int .u16 0] w fun e w' => e = .returned (ptRes (some (rootPt d))) ∧ Below w.heap.size w w' := by
  obtain ⟨b, off, rfl, hc⟩ := hs.at (i := 0) (by omega)
  have h0 := hc 0 (by omega)
  rw [hx, Nat.add_zero] at h0
  have hbw := World.block_lt_of_cell? w _ h0
  have hr : (rootW d : Int) < 18446744073709551616 := by unfold rootW; split <;> omega
  have HR := hide (fun W (hW : Below w.heap.size w W) => resolveWord_any (some ⟨b, off, none⟩) n c xs (rootW d : Int) 1 1 W (hs.below hW) hn hw (by omega) (by omega) hr (by omega) (by omega))
  rw [root_read xs d hd (by omega)] at HR
  simp only [ptRes, ptV] at HR
  have e1 : ¬ (n : Int) > 256 := by omega
  have e2 : ¬ (0 : Int) ≥ (n : Int) := by omega
  have hn0 : (0 : Int) < (n : Int) := by omega
  have hB : Below w.heap.size w (w.alloc (Obj.cells #[Value.int IntKind.u8 0, Value.int IntKind.u16 0, Value.int IntKind.u8 0, Value.int IntKind.u8 0, Value.int IntKind.u8 0, Value.int IntKind.u16 0] 58)) := (Below.refl _ _).alloc (Nat.le_refl _) _
  generalize rootPt d = q at *
  generalize rootW d = x at *
  clear hs hn hw hd hl hx hr hc
  have c0 : (w.alloc (Obj.cells #[Value.int IntKind.u8 0, Value.int IntKind.u16 0, Value.int IntKind.u8 0, Value.int IntKind.u8 0, Value.int IntKind.u8 0, Value.int IntKind.u16 0] 58)).cell? ⟨w.heap.size, 0, none⟩ = some (.int .u8 0) := by simp
  have g0 : (w.alloc (Obj.cells #[Value.int IntKind.u8 0, Value.int IntKind.u16 0, Value.int IntKind.u8 0, Value.int IntKind.u8 0, Value.int IntKind.u8 0, Value.int IntKind.u16 0] 58)).frozen? ⟨w.heap.size, 0, none⟩ = false := by simp
  have c1 : (w.alloc (Obj.cells #[Value.int IntKind.u8 0, Value.int IntKind.u16 0, Value.int IntKind.u8 0, Value.int IntKind.u8 0, Value.int IntKind.u8 0, Value.int IntKind.u16 0] 58)).cell? ⟨w.heap.size, 1, none⟩ = some (.int .u16 0) := by simp
  have g1 : (w.alloc (Obj.cells #[Value.int IntKind.u8 0, Value.int IntKind.u16 0, Value.int IntKind.u8 0, Value.int IntKind.u8 0, Value.int IntKind.u8 0, Value.int IntKind.u16 0] 58)).frozen? ⟨w.heap.size, 1, none⟩ = false := by simp
  have c2 : (w.alloc (Obj.cells #[Value.int IntKind.u8 0, Value.int IntKind.u16 0, Value.int IntKind.u8 0, Value.int IntKind.u8 0, Value.int IntKind.u8 0, Value.int IntKind.u16 0] 58)).cell? ⟨w.heap.size, 2, none⟩ = some (.int .u8 0) := by simp
  have g2 : (w.alloc (Obj.cells #[Value.int IntKind.u8 0, Value.int IntKind.u16 0, Value.int IntKind.u8 0, Value.int IntKind.u8 0, Value.int IntKind.u8 0, Value.int IntKind.u16 0] 58)).frozen? ⟨w.heap.size, 2, none⟩ = false := by simp
  have c3 : (w.alloc (Obj.cells #[Value.int IntKind.u8 0, Value.int IntKind.u16 0, Value.int IntKind.u8 0, Value.int IntKind.u8 0, Value.int IntKind.u8 0, Value.int IntKind.u16 0] 58)).cell? ⟨w.heap.size, 3, none⟩ = some (.int .u8 0) := by simp
  have g3 : (w.alloc (Obj.cells #[Value.int IntKind.u8 0, Value.int IntKind.u16 0, Value.int IntKind.u8 0, Value.int IntKind.u8 0, Value.int IntKind.u8 0, Value.int IntKind.u16 0] 58)).frozen? ⟨w.heap.size, 3, none⟩ = false := by simp
  have c4 : (w.alloc (Obj.cells #[Value.int IntKind.u8 0, Value.int IntKind.u16 0, Value.int IntKind.u8 0, Value.int IntKind.u8 0, Value.int IntKind.u8 0, Value.int IntKind.u16 0] 58)).cell? ⟨w.heap.size, 4, none⟩ = some (.int .u8 0) := by simp
  have g4 : (w.alloc (Obj.cells #[Value.int IntKind.u8 0, Value.int IntKind.u16 0, Value.int IntKind.u8 0, Value.int IntKind.u8 0, Value.int IntKind.u8 0, Value.int IntKind.u16 0] 58)).frozen? ⟨w.heap.size, 4, none⟩ = false := by simp
  have c5 : (w.alloc (Obj.cells #[Value.int IntKind.u8 0, Value.int IntKind.u16 0, Value.int IntKind.u8 0, Value.int IntKind.u8 0, Value.int IntKind.u8 0, Value.int IntKind.u16 0] 58)).cell? ⟨w.heap.size, 5, none⟩ = some (.int .u16 0) := by simp
  have g5 : (w.alloc (Obj.cells #[Value.int IntKind.u8 0, Value.int IntKind.u16 0, Value.int IntKind.u8 0, Value.int IntKind.u8 0, Value.int IntKind.u8 0, Value.int IntKind.u16 0] 58)).frozen? ⟨w.heap.size, 5, none⟩ = false := by simp
  go_enter Fagg.func136, Fagg.ntmps136
  go_wp2_with (go_at_call 68; with_reducible refine (unhide HR _ hB).mono ?_; rintro e w1 ⟨rfl, hb1⟩; have k0 := (hb1.cell (p := ⟨w.heap.size, 0, none⟩) (by simp)).trans (c0); have f0 := (hb1.frozen (p := ⟨w.heap.size, 0, none⟩) (by simp)).trans (g0); have k1 := (hb1.cell (p := ⟨w.heap.size, 1, none⟩) (by simp)).trans (c1); have f1 := (hb1.frozen (p := ⟨w.heap.size, 1, none⟩) (by simp)).trans (g1); have k2 := (hb1.cell (p := ⟨w.heap.size, 2, none⟩) (by simp)).trans (c2); have f2 := (hb1.frozen (p := ⟨w.heap.size, 2, none⟩) (by simp)).trans (g2); have k3 := (hb1.cell (p := ⟨w.heap.size, 3, none⟩) (by simp)).trans (c3); have f3 := (hb1.frozen (p := ⟨w.heap.size, 3, none⟩) (by simp)).trans (g3); have k4 := (hb1.cell (p := ⟨w.heap.size, 4, none⟩) (by simp)).trans (c4); have f4 := (hb1.frozen (p := ⟨w.heap.size, 4, none⟩) (by simp)).trans (g4); have k5 := (hb1.cell (p := ⟨w.heap.size, 5, none⟩) (by simp)).trans (c5); have f5 := (hb1.frozen (p := ⟨w.heap.size, 5, none⟩) (by simp)).trans (g5); have hb2 := hB.trans (hb1.mono hB.size); clear hb1)
  exact bodyPost_ret (v := ptRes (some q)) (by simp [results, Fagg.results136, go_sem, ptRes, ptV, k0, k1, k2, k3, k4, k5]) rfl ⟨rfl, below_set6 hb2 (Nat.le_refl _) _ _ _ _ _ _⟩
end Go.Proofs.Ygcfag
