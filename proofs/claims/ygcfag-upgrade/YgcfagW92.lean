/-
  WALKS: the readers on a root struct: wire.Inside, read.holds, read.field.
-/
import Derived.Test.YgcfagW87
import Derived.Test.YgcfagW53
namespace Go.Proofs.Ygcfag
open Go.RowKit
set_option linter.unusedVariables false
set_option linter.unusedSimpArgs false

theorem rootPt_pos {d : Nat} (h : 1 ≤ d) : rootPt d = ⟨1, 1, (d : Int), 0, 0, 0⟩ := by unfold rootPt; rw [if_neg (by omega)]

set_option maxHeartbeats 1000000 in
theorem inside1_any (a : Option Addr) (n c d : Nat) (w : World) (hd1 : 1 ≤ d) (hd : d ≤ 8) (hl : d + 1 = n) :
    Calls Fagg.prog 200 #[.slice a n c, .agg #[.int .u8 1, .int .u16 1, .int .u8 (d : Int), .int .u8 0, .int .u8 0, .int .u16 0]] w fun e w' => e = .returned (.bool true) ∧ Below w.heap.size w w' := by
  have HW : Hid (∀ W, Calls Fagg.prog 145 #[.agg #[.int .u8 1, .int .u16 1, .int .u8 (d : Int), .int .u8 0, .int .u8 0, .int .u16 0]] W fun e w' => e = .returned (.int .u16 (d : Int)) ∧ Below W.heap.size W w') := hide (fun W => by
    have h := words_good ⟨1, 1, (d : Int), 0, 0, 0⟩ W (.struct _ _ _ (by omega) (by omega) (by omega))
    have e : wordsOf ⟨1, 1, (d : Int), 0, 0, 0⟩ = (d : Int) := by simp [wordsOf]
    rw [e] at h; exact h)
  obtain ⟨W, hW⟩ : ∃ W, W = w.alloc (Obj.cells #[Value.int IntKind.u8 1, Value.int IntKind.u16 1, Value.int IntKind.u8 (d : Int), Value.int IntKind.u8 0, Value.int IntKind.u8 0, Value.int IntKind.u16 0] 58) := ⟨_, rfl⟩
  have hB : Below w.heap.size w W := by rw [hW]; exact (Below.refl _ _).alloc (Nat.le_refl _) _
  have hsz : w.heap.size < W.heap.size := by rw [hW]; simp
  have c0 : W.cell? ⟨w.heap.size, 0, none⟩ = some (.int .u8 1) := by rw [hW]; simp
  have c1 : W.cell? ⟨w.heap.size, 1, none⟩ = some (.int .u16 1) := by rw [hW]; simp
  have HWW := hide hW
  have e1 : ¬ (n : Int) > 256 := by omega
  have e2 : 1 + (d : Int) ≤ (n : Int) := by omega
  have e3 : ((d : Int) == 0) = false := by simp; omega
  clear hW hl
  go_enter Fagg.func200, Fagg.ntmps200
  go_wp2_with (go_at_call 145; (try rw [← unhide HWW]); with_reducible refine (unhide HW _).mono ?_; rintro e w1 ⟨rfl, hb1⟩; have k0 := (hb1.cell (p := ⟨w.heap.size, 0, none⟩) hsz).trans c0; have k1 := (hb1.cell (p := ⟨w.heap.size, 1, none⟩) hsz).trans c1; have HB1 := hide (hB.trans (hb1.mono hB.size)); clear hb1)
  go_ret
  exact ⟨rfl, unhide HB1⟩

set_option maxHeartbeats 1000000 in
theorem holds1_any (a : Option Addr) (n c d : Nat) (w : World) (hd1 : 1 ≤ d) (hd : d ≤ 8) (hl : d + 1 = n) :
    Calls Fagg.prog 175 #[.slice a n c, .agg #[.int .u8 1, .int .u16 1, .int .u8 (d : Int), .int .u8 0, .int .u8 0, .int .u16 0], .int .u8 1] w fun e w' => e = .returned (.bool true) ∧ Below w.heap.size w w' := by
  have HI := hide (fun W => inside1_any a n c d W hd1 hd hl)
  have hB : Below w.heap.size w (w.alloc (Obj.cells #[Value.int IntKind.u8 1, Value.int IntKind.u16 1, Value.int IntKind.u8 (d : Int), Value.int IntKind.u8 0, Value.int IntKind.u8 0, Value.int IntKind.u16 0] 58)) := (Below.refl _ _).alloc (Nat.le_refl _) _
  clear hl
  go_enter Fagg.func175, Fagg.ntmps175
  go_wp2_with (go_at_call 200; with_reducible refine (unhide HI _).mono ?_; rintro e w1 ⟨rfl, hb1⟩; have HB1 := hide (hB.trans (hb1.mono hB.size)); clear hb1)
  go_ret
  exact ⟨rfl, unhide HB1⟩

set_option maxHeartbeats 1000000 in
theorem take_0_64 (x : Int) (w : World) (hx : 0 ≤ x) (hx2 : x < 18446744073709551616) :
    Calls Fagg.prog 67 #[.int .u64 x, .int .u8 0, .int .u8 64] w fun e w' => e = .returned (.int .u64 x) ∧ w' = w := by
  have H1 : Hid (Calls Fagg.prog 137 #[.int .u8 0, .int .u8 64] w fun e w' => e = .returned (.bool true) ∧ w' = w) := hide (fits2_any 0 64 w (by omega))
  have H2 := hide (mask_64 w)
  have HA := hide (show bits .and .u64 x 18446744073709551615 = x by
    have := and_mask x 64 hx hx2 (by omega)
    have e : x % 2 ^ 64 = x := by omega
    rw [e] at this; exact this)
  go_enter Fagg.func67, Fagg.ntmps67
  go_wp2_with (first | (go_at_call 137; refine (unhide H1).mono ?_; rintro e w1 ⟨rfl, hw1⟩; subst hw1) | (go_at_call 138; refine (unhide H2).mono ?_; rintro e w1 ⟨rfl, hw1⟩; subst hw1))
  go_ret
  exact ⟨ret_int (unhide HA), rfl⟩

/-- Field i of 2^sh bits of a struct of d data words behind word 0. -/
def fieldOf (xs : List Int) (d i sh : Nat) : Int := if d * 64 ≤ i * 2 ^ sh then 0 else xs.getD (1 + i * 2 ^ sh / 64) 0 / 2 ^ (i * 2 ^ sh % 64) % 2 ^ (2 ^ sh)

set_option maxHeartbeats 1000000 in
theorem field_0 (a : Option Addr) (n c d i : Nat) (xs : List Int) (w : World) (hs : Sl .u64 w a xs) (hn : xs.length = n) (hw : Wds xs) (hd1 : 1 ≤ d) (hd : d ≤ 8) (hl : d + 1 = n) (hi : i ≤ 65535) :
    Calls Fagg.prog 172 #[.slice a n c, .agg #[.int .u8 1, .int .u16 1, .int .u8 (d : Int), .int .u8 0, .int .u8 0, .int .u16 0], .int .u16 (i : Int), .int .u8 0] w fun e w' => e = .returned (.int .u64 (fieldOf xs d i 0)) ∧ Below w.heap.size w w' := by
  have hB : Below w.heap.size w (w.alloc (Obj.cells #[Value.int IntKind.u8 1, Value.int IntKind.u16 1, Value.int IntKind.u8 (d : Int), Value.int IntKind.u8 0, Value.int IntKind.u8 0, Value.int IntKind.u16 0] 58)) := (Below.refl _ _).alloc (Nat.le_refl _) _
  by_cases hbit : d * 64 ≤ i
  · have HF := hide (show fieldOf xs d i 0 = 0 by unfold fieldOf; rw [if_pos (by omega)])
    have e1 : (i : Int) ≥ (d : Int) * 64 := by omega
    clear hs hn hw hl hbit
    go_enter Fagg.func172, Fagg.ntmps172
    go_wp2_with fail
    go_ret
    exact ⟨by rw [unhide HF]; rfl, hB⟩
  · obtain ⟨b, off, rfl, hc⟩ := hs.at (i := 1 + i / 64) (by omega)
    have hcell := hc (1 + i / 64) (by omega)
    have hx := wds_bd hw (1 + i / 64)
    have HF := hide (show fieldOf xs d i 0 = xs.getD (1 + i / 64) 0 / 2 ^ (i % 64) % 2 ^ 1 by unfold fieldOf; rw [if_neg (by omega)]; simp only [Nat.pow_zero, Nat.mul_one, Nat.pow_one])
    generalize xs.getD (1 + i / 64) 0 = x at *
    have hbw := World.block_lt_of_cell? w _ hcell
    have e1 : ¬ (i : Int) ≥ (d : Int) * 64 := by omega
    have e2 : (0 : Int) ≤ 1 + (i : Int) / 64 := by omega
    have e3 : 1 + (i : Int) / 64 < (n : Int) := by omega
    have HH := hide (fun W => holds1_any (some ⟨b, off, none⟩) n c d W hd1 hd hl)
    have HT : Hid (∀ W, Calls Fagg.prog 67 #[.int .u64 x, .int .u8 ((i : Int) % 64), .int .u8 1] W fun e w' => e = .returned (.int .u64 (x / 2 ^ (i % 64) % 2 ^ 1)) ∧ w' = W) := hide (fun W => by
      have h := take_any x (i % 64) 1 W hx.1 hx.2 (by omega) (by omega); rw [show ((i % 64 : Nat) : Int) = ((i : Int) % 64) by omega] at h; exact h)
    have HCC := hide (fun W (hW : Below w.heap.size w W) => (hW.cell (p := ⟨b, off + (1 + i / 64), none⟩) hbw).trans hcell)
    obtain ⟨W, hW⟩ : ∃ W, W = w.alloc (Obj.cells #[Value.int IntKind.u8 1, Value.int IntKind.u16 1, Value.int IntKind.u8 (d : Int), Value.int IntKind.u8 0, Value.int IntKind.u8 0, Value.int IntKind.u16 0] 58) := ⟨_, rfl⟩
    have hsz : w.heap.size < W.heap.size := by rw [hW]; simp
    have c1 : W.cell? ⟨w.heap.size, 1, none⟩ = some (.int .u16 1) := by rw [hW]; simp
    have HWW := hide hW
    rw [← hW] at hB
    clear hs hn hw hl hbit hc hcell hW
    go_enter Fagg.func172, Fagg.ntmps172
    go_wp2_with (first | (go_at_call 175; (try rw [← unhide HWW]); with_reducible refine (unhide HH _).mono ?_; rintro e w1 ⟨rfl, hb1⟩; have q1 := (hb1.cell (p := ⟨w.heap.size, 1, none⟩) hsz).trans c1; have HB1 := hide (hB.trans (hb1.mono hB.size)); have kk := unhide HCC w1 (unhide HB1); clear hb1) | (go_at_call 67; with_reducible refine (unhide HT _).mono ?_; rintro e w2 ⟨rfl, hw2⟩; rw [hw2]; clear hw2))
    go_ret
    exact ⟨by rw [unhide HF]; rfl, unhide HB1⟩

set_option maxHeartbeats 1000000 in
theorem field_3 (a : Option Addr) (n c d i : Nat) (xs : List Int) (w : World) (hs : Sl .u64 w a xs) (hn : xs.length = n) (hw : Wds xs) (hd1 : 1 ≤ d) (hd : d ≤ 8) (hl : d + 1 = n) (hi : i ≤ 65535) :
    Calls Fagg.prog 172 #[.slice a n c, .agg #[.int .u8 1, .int .u16 1, .int .u8 (d : Int), .int .u8 0, .int .u8 0, .int .u16 0], .int .u16 (i : Int), .int .u8 3] w fun e w' => e = .returned (.int .u64 (fieldOf xs d i 3)) ∧ Below w.heap.size w w' := by
  have hB : Below w.heap.size w (w.alloc (Obj.cells #[Value.int IntKind.u8 1, Value.int IntKind.u16 1, Value.int IntKind.u8 (d : Int), Value.int IntKind.u8 0, Value.int IntKind.u8 0, Value.int IntKind.u16 0] 58)) := (Below.refl _ _).alloc (Nat.le_refl _) _
  by_cases hbit : d * 64 ≤ i * 8
  · have HF := hide (show fieldOf xs d i 3 = 0 by unfold fieldOf; rw [if_pos (by omega)])
    have e1 : (i : Int) * 8 ≥ (d : Int) * 64 := by omega
    clear hs hn hw hl hbit
    go_enter Fagg.func172, Fagg.ntmps172
    go_wp2_with fail
    go_ret
    exact ⟨by rw [unhide HF]; rfl, hB⟩
  · obtain ⟨b, off, rfl, hc⟩ := hs.at (i := 1 + i * 8 / 64) (by omega)
    have hcell := hc (1 + i * 8 / 64) (by omega)
    have hx := wds_bd hw (1 + i * 8 / 64)
    have HF := hide (show fieldOf xs d i 3 = xs.getD (1 + i * 8 / 64) 0 / 2 ^ (i * 8 % 64) % 2 ^ 8 by unfold fieldOf; rw [if_neg (by omega)]; skip)
    generalize xs.getD (1 + i * 8 / 64) 0 = x at *
    have hbw := World.block_lt_of_cell? w _ hcell
    have e1 : ¬ (i : Int) * 8 ≥ (d : Int) * 64 := by omega
    have e2 : (0 : Int) ≤ 1 + (i : Int) * 8 / 64 := by omega
    have e3 : 1 + (i : Int) * 8 / 64 < (n : Int) := by omega
    have HH := hide (fun W => holds1_any (some ⟨b, off, none⟩) n c d W hd1 hd hl)
    have HT : Hid (∀ W, Calls Fagg.prog 67 #[.int .u64 x, .int .u8 ((i : Int) * 8 % 64), .int .u8 8] W fun e w' => e = .returned (.int .u64 (x / 2 ^ (i * 8 % 64) % 2 ^ 8)) ∧ w' = W) := hide (fun W => by
      have h := take_any x (i * 8 % 64) 8 W hx.1 hx.2 (by omega) (by omega); rw [show ((i * 8 % 64 : Nat) : Int) = ((i : Int) * 8 % 64) by omega] at h; exact h)
    have HCC := hide (fun W (hW : Below w.heap.size w W) => (hW.cell (p := ⟨b, off + (1 + i * 8 / 64), none⟩) hbw).trans hcell)
    obtain ⟨W, hW⟩ : ∃ W, W = w.alloc (Obj.cells #[Value.int IntKind.u8 1, Value.int IntKind.u16 1, Value.int IntKind.u8 (d : Int), Value.int IntKind.u8 0, Value.int IntKind.u8 0, Value.int IntKind.u16 0] 58) := ⟨_, rfl⟩
    have hsz : w.heap.size < W.heap.size := by rw [hW]; simp
    have c1 : W.cell? ⟨w.heap.size, 1, none⟩ = some (.int .u16 1) := by rw [hW]; simp
    have HWW := hide hW
    rw [← hW] at hB
    clear hs hn hw hl hbit hc hcell hW
    go_enter Fagg.func172, Fagg.ntmps172
    go_wp2_with (first | (go_at_call 175; (try rw [← unhide HWW]); with_reducible refine (unhide HH _).mono ?_; rintro e w1 ⟨rfl, hb1⟩; have q1 := (hb1.cell (p := ⟨w.heap.size, 1, none⟩) hsz).trans c1; have HB1 := hide (hB.trans (hb1.mono hB.size)); have kk := unhide HCC w1 (unhide HB1); clear hb1) | (go_at_call 67; with_reducible refine (unhide HT _).mono ?_; rintro e w2 ⟨rfl, hw2⟩; rw [hw2]; clear hw2))
    go_ret
    exact ⟨by rw [unhide HF]; rfl, unhide HB1⟩

set_option maxHeartbeats 1000000 in
theorem field_4 (a : Option Addr) (n c d i : Nat) (xs : List Int) (w : World) (hs : Sl .u64 w a xs) (hn : xs.length = n) (hw : Wds xs) (hd1 : 1 ≤ d) (hd : d ≤ 8) (hl : d + 1 = n) (hi : i ≤ 65535) :
    Calls Fagg.prog 172 #[.slice a n c, .agg #[.int .u8 1, .int .u16 1, .int .u8 (d : Int), .int .u8 0, .int .u8 0, .int .u16 0], .int .u16 (i : Int), .int .u8 4] w fun e w' => e = .returned (.int .u64 (fieldOf xs d i 4)) ∧ Below w.heap.size w w' := by
  have hB : Below w.heap.size w (w.alloc (Obj.cells #[Value.int IntKind.u8 1, Value.int IntKind.u16 1, Value.int IntKind.u8 (d : Int), Value.int IntKind.u8 0, Value.int IntKind.u8 0, Value.int IntKind.u16 0] 58)) := (Below.refl _ _).alloc (Nat.le_refl _) _
  by_cases hbit : d * 64 ≤ i * 16
  · have HF := hide (show fieldOf xs d i 4 = 0 by unfold fieldOf; rw [if_pos (by omega)])
    have e1 : (i : Int) * 16 ≥ (d : Int) * 64 := by omega
    clear hs hn hw hl hbit
    go_enter Fagg.func172, Fagg.ntmps172
    go_wp2_with fail
    go_ret
    exact ⟨by rw [unhide HF]; rfl, hB⟩
  · obtain ⟨b, off, rfl, hc⟩ := hs.at (i := 1 + i * 16 / 64) (by omega)
    have hcell := hc (1 + i * 16 / 64) (by omega)
    have hx := wds_bd hw (1 + i * 16 / 64)
    have HF := hide (show fieldOf xs d i 4 = xs.getD (1 + i * 16 / 64) 0 / 2 ^ (i * 16 % 64) % 2 ^ 16 by unfold fieldOf; rw [if_neg (by omega)]; skip)
    generalize xs.getD (1 + i * 16 / 64) 0 = x at *
    have hbw := World.block_lt_of_cell? w _ hcell
    have e1 : ¬ (i : Int) * 16 ≥ (d : Int) * 64 := by omega
    have e2 : (0 : Int) ≤ 1 + (i : Int) * 16 / 64 := by omega
    have e3 : 1 + (i : Int) * 16 / 64 < (n : Int) := by omega
    have HH := hide (fun W => holds1_any (some ⟨b, off, none⟩) n c d W hd1 hd hl)
    have HT : Hid (∀ W, Calls Fagg.prog 67 #[.int .u64 x, .int .u8 ((i : Int) * 16 % 64), .int .u8 16] W fun e w' => e = .returned (.int .u64 (x / 2 ^ (i * 16 % 64) % 2 ^ 16)) ∧ w' = W) := hide (fun W => by
      have h := take_any x (i * 16 % 64) 16 W hx.1 hx.2 (by omega) (by omega); rw [show ((i * 16 % 64 : Nat) : Int) = ((i : Int) * 16 % 64) by omega] at h; exact h)
    have HCC := hide (fun W (hW : Below w.heap.size w W) => (hW.cell (p := ⟨b, off + (1 + i * 16 / 64), none⟩) hbw).trans hcell)
    obtain ⟨W, hW⟩ : ∃ W, W = w.alloc (Obj.cells #[Value.int IntKind.u8 1, Value.int IntKind.u16 1, Value.int IntKind.u8 (d : Int), Value.int IntKind.u8 0, Value.int IntKind.u8 0, Value.int IntKind.u16 0] 58) := ⟨_, rfl⟩
    have hsz : w.heap.size < W.heap.size := by rw [hW]; simp
    have c1 : W.cell? ⟨w.heap.size, 1, none⟩ = some (.int .u16 1) := by rw [hW]; simp
    have HWW := hide hW
    rw [← hW] at hB
    clear hs hn hw hl hbit hc hcell hW
    go_enter Fagg.func172, Fagg.ntmps172
    go_wp2_with (first | (go_at_call 175; (try rw [← unhide HWW]); with_reducible refine (unhide HH _).mono ?_; rintro e w1 ⟨rfl, hb1⟩; have q1 := (hb1.cell (p := ⟨w.heap.size, 1, none⟩) hsz).trans c1; have HB1 := hide (hB.trans (hb1.mono hB.size)); have kk := unhide HCC w1 (unhide HB1); clear hb1) | (go_at_call 67; with_reducible refine (unhide HT _).mono ?_; rintro e w2 ⟨rfl, hw2⟩; rw [hw2]; clear hw2))
    go_ret
    exact ⟨by rw [unhide HF]; rfl, unhide HB1⟩

set_option maxHeartbeats 1000000 in
theorem field_5 (a : Option Addr) (n c d i : Nat) (xs : List Int) (w : World) (hs : Sl .u64 w a xs) (hn : xs.length = n) (hw : Wds xs) (hd1 : 1 ≤ d) (hd : d ≤ 8) (hl : d + 1 = n) (hi : i ≤ 65535) :
    Calls Fagg.prog 172 #[.slice a n c, .agg #[.int .u8 1, .int .u16 1, .int .u8 (d : Int), .int .u8 0, .int .u8 0, .int .u16 0], .int .u16 (i : Int), .int .u8 5] w fun e w' => e = .returned (.int .u64 (fieldOf xs d i 5)) ∧ Below w.heap.size w w' := by
  have hB : Below w.heap.size w (w.alloc (Obj.cells #[Value.int IntKind.u8 1, Value.int IntKind.u16 1, Value.int IntKind.u8 (d : Int), Value.int IntKind.u8 0, Value.int IntKind.u8 0, Value.int IntKind.u16 0] 58)) := (Below.refl _ _).alloc (Nat.le_refl _) _
  by_cases hbit : d * 64 ≤ i * 32
  · have HF := hide (show fieldOf xs d i 5 = 0 by unfold fieldOf; rw [if_pos (by omega)])
    have e1 : (i : Int) * 32 ≥ (d : Int) * 64 := by omega
    clear hs hn hw hl hbit
    go_enter Fagg.func172, Fagg.ntmps172
    go_wp2_with fail
    go_ret
    exact ⟨by rw [unhide HF]; rfl, hB⟩
  · obtain ⟨b, off, rfl, hc⟩ := hs.at (i := 1 + i * 32 / 64) (by omega)
    have hcell := hc (1 + i * 32 / 64) (by omega)
    have hx := wds_bd hw (1 + i * 32 / 64)
    have HF := hide (show fieldOf xs d i 5 = xs.getD (1 + i * 32 / 64) 0 / 2 ^ (i * 32 % 64) % 2 ^ 32 by unfold fieldOf; rw [if_neg (by omega)]; skip)
    generalize xs.getD (1 + i * 32 / 64) 0 = x at *
    have hbw := World.block_lt_of_cell? w _ hcell
    have e1 : ¬ (i : Int) * 32 ≥ (d : Int) * 64 := by omega
    have e2 : (0 : Int) ≤ 1 + (i : Int) * 32 / 64 := by omega
    have e3 : 1 + (i : Int) * 32 / 64 < (n : Int) := by omega
    have HH := hide (fun W => holds1_any (some ⟨b, off, none⟩) n c d W hd1 hd hl)
    have HT : Hid (∀ W, Calls Fagg.prog 67 #[.int .u64 x, .int .u8 ((i : Int) * 32 % 64), .int .u8 32] W fun e w' => e = .returned (.int .u64 (x / 2 ^ (i * 32 % 64) % 2 ^ 32)) ∧ w' = W) := hide (fun W => by
      have h := take_any x (i * 32 % 64) 32 W hx.1 hx.2 (by omega) (by omega); rw [show ((i * 32 % 64 : Nat) : Int) = ((i : Int) * 32 % 64) by omega] at h; exact h)
    have HCC := hide (fun W (hW : Below w.heap.size w W) => (hW.cell (p := ⟨b, off + (1 + i * 32 / 64), none⟩) hbw).trans hcell)
    obtain ⟨W, hW⟩ : ∃ W, W = w.alloc (Obj.cells #[Value.int IntKind.u8 1, Value.int IntKind.u16 1, Value.int IntKind.u8 (d : Int), Value.int IntKind.u8 0, Value.int IntKind.u8 0, Value.int IntKind.u16 0] 58) := ⟨_, rfl⟩
    have hsz : w.heap.size < W.heap.size := by rw [hW]; simp
    have c1 : W.cell? ⟨w.heap.size, 1, none⟩ = some (.int .u16 1) := by rw [hW]; simp
    have HWW := hide hW
    rw [← hW] at hB
    clear hs hn hw hl hbit hc hcell hW
    go_enter Fagg.func172, Fagg.ntmps172
    go_wp2_with (first | (go_at_call 175; (try rw [← unhide HWW]); with_reducible refine (unhide HH _).mono ?_; rintro e w1 ⟨rfl, hb1⟩; have q1 := (hb1.cell (p := ⟨w.heap.size, 1, none⟩) hsz).trans c1; have HB1 := hide (hB.trans (hb1.mono hB.size)); have kk := unhide HCC w1 (unhide HB1); clear hb1) | (go_at_call 67; with_reducible refine (unhide HT _).mono ?_; rintro e w2 ⟨rfl, hw2⟩; rw [hw2]; clear hw2))
    go_ret
    exact ⟨by rw [unhide HF]; rfl, unhide HB1⟩

set_option maxHeartbeats 1000000 in
theorem field_6 (a : Option Addr) (n c d i : Nat) (xs : List Int) (w : World) (hs : Sl .u64 w a xs) (hn : xs.length = n) (hw : Wds xs) (hd1 : 1 ≤ d) (hd : d ≤ 8) (hl : d + 1 = n) (hi : i ≤ 65535) :
    Calls Fagg.prog 172 #[.slice a n c, .agg #[.int .u8 1, .int .u16 1, .int .u8 (d : Int), .int .u8 0, .int .u8 0, .int .u16 0], .int .u16 (i : Int), .int .u8 6] w fun e w' => e = .returned (.int .u64 (fieldOf xs d i 6)) ∧ Below w.heap.size w w' := by
  have hB : Below w.heap.size w (w.alloc (Obj.cells #[Value.int IntKind.u8 1, Value.int IntKind.u16 1, Value.int IntKind.u8 (d : Int), Value.int IntKind.u8 0, Value.int IntKind.u8 0, Value.int IntKind.u16 0] 58)) := (Below.refl _ _).alloc (Nat.le_refl _) _
  by_cases hbit : d * 64 ≤ i * 64
  · have HF := hide (show fieldOf xs d i 6 = 0 by unfold fieldOf; rw [if_pos (by omega)])
    have e1 : (i : Int) * 64 ≥ (d : Int) * 64 := by omega
    clear hs hn hw hl hbit
    go_enter Fagg.func172, Fagg.ntmps172
    go_wp2_with fail
    go_ret
    exact ⟨by rw [unhide HF]; rfl, hB⟩
  · obtain ⟨b, off, rfl, hc⟩ := hs.at (i := 1 + i) (by omega)
    have hcell := hc (1 + i) (by omega)
    have hx := wds_bd hw (1 + i)
    have HF := hide (show fieldOf xs d i 6 = xs.getD (1 + i) 0 by unfold fieldOf; rw [if_neg (by omega)]; rw [show i * 2 ^ 6 / 64 = i by omega, show i * 2 ^ 6 % 64 = 0 by omega]; omega)
    generalize xs.getD (1 + i) 0 = x at *
    have hbw := World.block_lt_of_cell? w _ hcell
    have e1 : ¬ (i : Int) * 64 ≥ (d : Int) * 64 := by omega
    have e2 : (0 : Int) ≤ 1 + (i : Int) := by omega
    have e3 : 1 + (i : Int) < (n : Int) := by omega
    have HH := hide (fun W => holds1_any (some ⟨b, off, none⟩) n c d W hd1 hd hl)
    have HT : Hid (∀ W, Calls Fagg.prog 67 #[.int .u64 x, .int .u8 0, .int .u8 64] W fun e w' => e = .returned (.int .u64 (x)) ∧ w' = W) := hide (fun W => by
      exact take_0_64 x W hx.1 hx.2)
    have HCC := hide (fun W (hW : Below w.heap.size w W) => (hW.cell (p := ⟨b, off + (1 + i), none⟩) hbw).trans hcell)
    obtain ⟨W, hW⟩ : ∃ W, W = w.alloc (Obj.cells #[Value.int IntKind.u8 1, Value.int IntKind.u16 1, Value.int IntKind.u8 (d : Int), Value.int IntKind.u8 0, Value.int IntKind.u8 0, Value.int IntKind.u16 0] 58) := ⟨_, rfl⟩
    have hsz : w.heap.size < W.heap.size := by rw [hW]; simp
    have c1 : W.cell? ⟨w.heap.size, 1, none⟩ = some (.int .u16 1) := by rw [hW]; simp
    have HWW := hide hW
    rw [← hW] at hB
    clear hs hn hw hl hbit hc hcell hW
    go_enter Fagg.func172, Fagg.ntmps172
    go_wp2_with (first | (go_at_call 175; (try rw [← unhide HWW]); with_reducible refine (unhide HH _).mono ?_; rintro e w1 ⟨rfl, hb1⟩; have q1 := (hb1.cell (p := ⟨w.heap.size, 1, none⟩) hsz).trans c1; have HB1 := hide (hB.trans (hb1.mono hB.size)); have kk := unhide HCC w1 (unhide HB1); clear hb1) | (go_at_call 67; with_reducible refine (unhide HT _).mono ?_; rintro e w2 ⟨rfl, hw2⟩; rw [hw2]; clear hw2))
    go_ret
    exact ⟨by rw [unhide HF]; rfl, unhide HB1⟩

end Go.Proofs.Ygcfag
