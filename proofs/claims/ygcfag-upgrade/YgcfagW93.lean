/-
  WALKS: read.U64 .. read.Bit, schema.Get and read.Root on a root struct.
-/
import Derived.Test.YgcfagW92
namespace Go.Proofs.Ygcfag
open Go.RowKit
set_option linter.unusedVariables false
set_option linter.unusedSimpArgs false

theorem fieldOf_bd (xs : List Int) (d i sh : Nat) : 0 ≤ fieldOf xs d i sh ∧ fieldOf xs d i sh < 2 ^ (2 ^ sh) := by
  unfold fieldOf
  have hp : (0 : Int) < 2 ^ (2 ^ sh) := Int.pow_pos (by omega)
  split
  · exact ⟨Int.le_refl _, hp⟩
  · exact ⟨Int.emod_nonneg _ (by omega), Int.emod_lt_of_pos _ hp⟩

set_option maxHeartbeats 1000000 in
theorem fieldz_0 (a : Option Addr) (n c i : Nat) (w : World) (hi : i ≤ 65535) :
    Calls Fagg.prog 172 #[.slice a n c, .agg #[.int .u8 1, .int .u16 0, .int .u8 0, .int .u8 0, .int .u8 0, .int .u16 0], .int .u16 (i : Int), .int .u8 0] w fun e w' => e = .returned (.int .u64 0) ∧ Below w.heap.size w w' := by
  have e1 : (0 : Int) ≤ (i : Int) := by omega
  go_enter Fagg.func172, Fagg.ntmps172
  go_wp2_with fail
  go_ret
  exact ⟨rfl, (Below.refl _ _).alloc (Nat.le_refl _) _⟩

theorem fieldR_0 (a : Option Addr) (n c d i : Nat) (xs : List Int) (w : World) (hs : Sl .u64 w a xs) (hn : xs.length = n) (hw : Wds xs) (hd : d ≤ 8) (hl : d + 1 = n) (hi : i ≤ 65535) :
    Calls Fagg.prog 172 #[.slice a n c, ptV (rootPt d), .int .u16 (i : Int), .int .u8 0] w fun e w' => e = .returned (.int .u64 (fieldOf xs d i 0)) ∧ Below w.heap.size w w' := by
  by_cases h0 : d = 0
  · subst h0
    have e : fieldOf xs 0 i 0 = 0 := by unfold fieldOf; rw [if_pos (by omega)]
    rw [e]
    exact fieldz_0 a n c i w hi
  · rw [rootPt_pos (by omega)]
    exact field_0 a n c d i xs w hs hn hw (by omega) hd hl hi

set_option maxHeartbeats 1000000 in
theorem fieldz_3 (a : Option Addr) (n c i : Nat) (w : World) (hi : i ≤ 65535) :
    Calls Fagg.prog 172 #[.slice a n c, .agg #[.int .u8 1, .int .u16 0, .int .u8 0, .int .u8 0, .int .u8 0, .int .u16 0], .int .u16 (i : Int), .int .u8 3] w fun e w' => e = .returned (.int .u64 0) ∧ Below w.heap.size w w' := by
  have e1 : (0 : Int) ≤ (i : Int) := by omega
  go_enter Fagg.func172, Fagg.ntmps172
  go_wp2_with fail
  go_ret
  exact ⟨rfl, (Below.refl _ _).alloc (Nat.le_refl _) _⟩

theorem fieldR_3 (a : Option Addr) (n c d i : Nat) (xs : List Int) (w : World) (hs : Sl .u64 w a xs) (hn : xs.length = n) (hw : Wds xs) (hd : d ≤ 8) (hl : d + 1 = n) (hi : i ≤ 65535) :
    Calls Fagg.prog 172 #[.slice a n c, ptV (rootPt d), .int .u16 (i : Int), .int .u8 3] w fun e w' => e = .returned (.int .u64 (fieldOf xs d i 3)) ∧ Below w.heap.size w w' := by
  by_cases h0 : d = 0
  · subst h0
    have e : fieldOf xs 0 i 3 = 0 := by unfold fieldOf; rw [if_pos (by omega)]
    rw [e]
    exact fieldz_3 a n c i w hi
  · rw [rootPt_pos (by omega)]
    exact field_3 a n c d i xs w hs hn hw (by omega) hd hl hi

set_option maxHeartbeats 1000000 in
theorem fieldz_4 (a : Option Addr) (n c i : Nat) (w : World) (hi : i ≤ 65535) :
    Calls Fagg.prog 172 #[.slice a n c, .agg #[.int .u8 1, .int .u16 0, .int .u8 0, .int .u8 0, .int .u8 0, .int .u16 0], .int .u16 (i : Int), .int .u8 4] w fun e w' => e = .returned (.int .u64 0) ∧ Below w.heap.size w w' := by
  have e1 : (0 : Int) ≤ (i : Int) := by omega
  go_enter Fagg.func172, Fagg.ntmps172
  go_wp2_with fail
  go_ret
  exact ⟨rfl, (Below.refl _ _).alloc (Nat.le_refl _) _⟩

theorem fieldR_4 (a : Option Addr) (n c d i : Nat) (xs : List Int) (w : World) (hs : Sl .u64 w a xs) (hn : xs.length = n) (hw : Wds xs) (hd : d ≤ 8) (hl : d + 1 = n) (hi : i ≤ 65535) :
    Calls Fagg.prog 172 #[.slice a n c, ptV (rootPt d), .int .u16 (i : Int), .int .u8 4] w fun e w' => e = .returned (.int .u64 (fieldOf xs d i 4)) ∧ Below w.heap.size w w' := by
  by_cases h0 : d = 0
  · subst h0
    have e : fieldOf xs 0 i 4 = 0 := by unfold fieldOf; rw [if_pos (by omega)]
    rw [e]
    exact fieldz_4 a n c i w hi
  · rw [rootPt_pos (by omega)]
    exact field_4 a n c d i xs w hs hn hw (by omega) hd hl hi

set_option maxHeartbeats 1000000 in
theorem fieldz_5 (a : Option Addr) (n c i : Nat) (w : World) (hi : i ≤ 65535) :
    Calls Fagg.prog 172 #[.slice a n c, .agg #[.int .u8 1, .int .u16 0, .int .u8 0, .int .u8 0, .int .u8 0, .int .u16 0], .int .u16 (i : Int), .int .u8 5] w fun e w' => e = .returned (.int .u64 0) ∧ Below w.heap.size w w' := by
  have e1 : (0 : Int) ≤ (i : Int) := by omega
  go_enter Fagg.func172, Fagg.ntmps172
  go_wp2_with fail
  go_ret
  exact ⟨rfl, (Below.refl _ _).alloc (Nat.le_refl _) _⟩

theorem fieldR_5 (a : Option Addr) (n c d i : Nat) (xs : List Int) (w : World) (hs : Sl .u64 w a xs) (hn : xs.length = n) (hw : Wds xs) (hd : d ≤ 8) (hl : d + 1 = n) (hi : i ≤ 65535) :
    Calls Fagg.prog 172 #[.slice a n c, ptV (rootPt d), .int .u16 (i : Int), .int .u8 5] w fun e w' => e = .returned (.int .u64 (fieldOf xs d i 5)) ∧ Below w.heap.size w w' := by
  by_cases h0 : d = 0
  · subst h0
    have e : fieldOf xs 0 i 5 = 0 := by unfold fieldOf; rw [if_pos (by omega)]
    rw [e]
    exact fieldz_5 a n c i w hi
  · rw [rootPt_pos (by omega)]
    exact field_5 a n c d i xs w hs hn hw (by omega) hd hl hi

set_option maxHeartbeats 1000000 in
theorem fieldz_6 (a : Option Addr) (n c i : Nat) (w : World) (hi : i ≤ 65535) :
    Calls Fagg.prog 172 #[.slice a n c, .agg #[.int .u8 1, .int .u16 0, .int .u8 0, .int .u8 0, .int .u8 0, .int .u16 0], .int .u16 (i : Int), .int .u8 6] w fun e w' => e = .returned (.int .u64 0) ∧ Below w.heap.size w w' := by
  have e1 : (0 : Int) ≤ (i : Int) := by omega
  go_enter Fagg.func172, Fagg.ntmps172
  go_wp2_with fail
  go_ret
  exact ⟨rfl, (Below.refl _ _).alloc (Nat.le_refl _) _⟩

theorem fieldR_6 (a : Option Addr) (n c d i : Nat) (xs : List Int) (w : World) (hs : Sl .u64 w a xs) (hn : xs.length = n) (hw : Wds xs) (hd : d ≤ 8) (hl : d + 1 = n) (hi : i ≤ 65535) :
    Calls Fagg.prog 172 #[.slice a n c, ptV (rootPt d), .int .u16 (i : Int), .int .u8 6] w fun e w' => e = .returned (.int .u64 (fieldOf xs d i 6)) ∧ Below w.heap.size w w' := by
  by_cases h0 : d = 0
  · subst h0
    have e : fieldOf xs 0 i 6 = 0 := by unfold fieldOf; rw [if_pos (by omega)]
    rw [e]
    exact fieldz_6 a n c i w hi
  · rw [rootPt_pos (by omega)]
    exact field_6 a n c d i xs w hs hn hw (by omega) hd hl hi

set_option maxHeartbeats 1000000 in
theorem u64_any (a : Option Addr) (n c d i : Nat) (xs : List Int) (w : World) (hs : Sl .u64 w a xs) (hn : xs.length = n) (hw : Wds xs) (hd : d ≤ 8) (hl : d + 1 = n) (hi : i ≤ 255) :
    Calls Fagg.prog 100 #[.slice a n c, ptV (rootPt d), .int .u8 (i : Int)] w fun e w' => e = .returned (.int .u64 (fieldOf xs d i 6)) ∧ Below w.heap.size w w' := by
  have HF := hide (fun W (hW : Below w.heap.size w W) => fieldR_6 a n c d i xs W (hs.below hW) hn hw hd hl (by omega))
  unfold ptV at *
  generalize rootPt d = q at *
  generalize fieldOf xs d i 6 = f at *
  have hB : Below w.heap.size w (w.alloc (Obj.cells #[Value.int IntKind.u8 q.kind, Value.int IntKind.u16 q.at_, Value.int IntKind.u8 q.data, Value.int IntKind.u8 q.ptrs, Value.int IntKind.u8 q.code, Value.int IntKind.u16 q.count] 58)) := (Below.refl _ _).alloc (Nat.le_refl _) _
  clear hs hn hw hl
  go_enter Fagg.func100, Fagg.ntmps100
  go_wp2_with (go_at_call 172; with_reducible refine (unhide HF _ hB).mono ?_; rintro e w1 ⟨rfl, hb1⟩; have HB1 := hide (hB.trans (hb1.mono hB.size)); clear hb1)
  go_ret
  exact ⟨rfl, unhide HB1⟩

set_option maxHeartbeats 1000000 in
theorem u32_any (a : Option Addr) (n c d i : Nat) (xs : List Int) (w : World) (hs : Sl .u64 w a xs) (hn : xs.length = n) (hw : Wds xs) (hd : d ≤ 8) (hl : d + 1 = n) (hi : i ≤ 255) :
    Calls Fagg.prog 101 #[.slice a n c, ptV (rootPt d), .int .u8 (i : Int)] w fun e w' => e = .returned (.int .u32 (fieldOf xs d i 5)) ∧ Below w.heap.size w w' := by
  have HF := hide (fun W (hW : Below w.heap.size w W) => fieldR_5 a n c d i xs W (hs.below hW) hn hw hd hl (by omega))
  have hwr : IntKind.u32.wrap (fieldOf xs d i 5) = fieldOf xs d i 5 := by have := fieldOf_bd xs d i 5; rw [IntKind.wrap_u32]; omega
  unfold ptV at *
  generalize rootPt d = q at *
  generalize fieldOf xs d i 5 = f at *
  have hB : Below w.heap.size w (w.alloc (Obj.cells #[Value.int IntKind.u8 q.kind, Value.int IntKind.u16 q.at_, Value.int IntKind.u8 q.data, Value.int IntKind.u8 q.ptrs, Value.int IntKind.u8 q.code, Value.int IntKind.u16 q.count] 58)) := (Below.refl _ _).alloc (Nat.le_refl _) _
  clear hs hn hw hl
  go_enter Fagg.func101, Fagg.ntmps101
  go_wp2_with (go_at_call 172; with_reducible refine (unhide HF _ hB).mono ?_; rintro e w1 ⟨rfl, hb1⟩; have HB1 := hide (hB.trans (hb1.mono hB.size)); clear hb1)
  go_ret
  exact ⟨rfl, unhide HB1⟩

set_option maxHeartbeats 1000000 in
theorem u16_any (a : Option Addr) (n c d i : Nat) (xs : List Int) (w : World) (hs : Sl .u64 w a xs) (hn : xs.length = n) (hw : Wds xs) (hd : d ≤ 8) (hl : d + 1 = n) (hi : i ≤ 255) :
    Calls Fagg.prog 102 #[.slice a n c, ptV (rootPt d), .int .u8 (i : Int)] w fun e w' => e = .returned (.int .u16 (fieldOf xs d i 4)) ∧ Below w.heap.size w w' := by
  have HF := hide (fun W (hW : Below w.heap.size w W) => fieldR_4 a n c d i xs W (hs.below hW) hn hw hd hl (by omega))
  have hwr : IntKind.u16.wrap (fieldOf xs d i 4) = fieldOf xs d i 4 := by have := fieldOf_bd xs d i 4; rw [IntKind.wrap_u16]; omega
  unfold ptV at *
  generalize rootPt d = q at *
  generalize fieldOf xs d i 4 = f at *
  have hB : Below w.heap.size w (w.alloc (Obj.cells #[Value.int IntKind.u8 q.kind, Value.int IntKind.u16 q.at_, Value.int IntKind.u8 q.data, Value.int IntKind.u8 q.ptrs, Value.int IntKind.u8 q.code, Value.int IntKind.u16 q.count] 58)) := (Below.refl _ _).alloc (Nat.le_refl _) _
  clear hs hn hw hl
  go_enter Fagg.func102, Fagg.ntmps102
  go_wp2_with (go_at_call 172; with_reducible refine (unhide HF _ hB).mono ?_; rintro e w1 ⟨rfl, hb1⟩; have HB1 := hide (hB.trans (hb1.mono hB.size)); clear hb1)
  go_ret
  exact ⟨rfl, unhide HB1⟩

set_option maxHeartbeats 1000000 in
theorem u8_any (a : Option Addr) (n c d i : Nat) (xs : List Int) (w : World) (hs : Sl .u64 w a xs) (hn : xs.length = n) (hw : Wds xs) (hd : d ≤ 8) (hl : d + 1 = n) (hi : i ≤ 255) :
    Calls Fagg.prog 103 #[.slice a n c, ptV (rootPt d), .int .u8 (i : Int)] w fun e w' => e = .returned (.int .u8 (fieldOf xs d i 3)) ∧ Below w.heap.size w w' := by
  have HF := hide (fun W (hW : Below w.heap.size w W) => fieldR_3 a n c d i xs W (hs.below hW) hn hw hd hl (by omega))
  have hwr : IntKind.u8.wrap (fieldOf xs d i 3) = fieldOf xs d i 3 := by have := fieldOf_bd xs d i 3; rw [IntKind.wrap_u8]; omega
  unfold ptV at *
  generalize rootPt d = q at *
  generalize fieldOf xs d i 3 = f at *
  have hB : Below w.heap.size w (w.alloc (Obj.cells #[Value.int IntKind.u8 q.kind, Value.int IntKind.u16 q.at_, Value.int IntKind.u8 q.data, Value.int IntKind.u8 q.ptrs, Value.int IntKind.u8 q.code, Value.int IntKind.u16 q.count] 58)) := (Below.refl _ _).alloc (Nat.le_refl _) _
  clear hs hn hw hl
  go_enter Fagg.func103, Fagg.ntmps103
  go_wp2_with (go_at_call 172; with_reducible refine (unhide HF _ hB).mono ?_; rintro e w1 ⟨rfl, hb1⟩; have HB1 := hide (hB.trans (hb1.mono hB.size)); clear hb1)
  go_ret
  exact ⟨rfl, unhide HB1⟩

set_option maxHeartbeats 1000000 in
theorem bit_any (a : Option Addr) (n c d i : Nat) (xs : List Int) (w : World) (hs : Sl .u64 w a xs) (hn : xs.length = n) (hw : Wds xs) (hd : d ≤ 8) (hl : d + 1 = n) (hi : i ≤ 65535) :
    Calls Fagg.prog 108 #[.slice a n c, ptV (rootPt d), .int .u16 (i : Int)] w fun e w' => e = .returned (.bool (fieldOf xs d i 0 == 1)) ∧ Below w.heap.size w w' := by
  have HF := hide (fun W (hW : Below w.heap.size w W) => fieldR_0 a n c d i xs W (hs.below hW) hn hw hd hl (by omega))
  unfold ptV at *
  generalize rootPt d = q at *
  generalize fieldOf xs d i 0 = f at *
  have hB : Below w.heap.size w (w.alloc (Obj.cells #[Value.int IntKind.u8 q.kind, Value.int IntKind.u16 q.at_, Value.int IntKind.u8 q.data, Value.int IntKind.u8 q.ptrs, Value.int IntKind.u8 q.code, Value.int IntKind.u16 q.count] 58)) := (Below.refl _ _).alloc (Nat.le_refl _) _
  clear hs hn hw hl
  go_enter Fagg.func108, Fagg.ntmps108
  go_wp2_with (go_at_call 172; with_reducible refine (unhide HF _ hB).mono ?_; rintro e w1 ⟨rfl, hb1⟩; have HB1 := hide (hB.trans (hb1.mono hB.size)); clear hb1)
  go_ret
  exact ⟨rfl, unhide HB1⟩

set_option maxHeartbeats 1000000 in
theorem get_0 (a : Option Addr) (n c d o : Nat) (s : Int) (xs : List Int) (w : World) (hs : Sl .u64 w a xs) (hn : xs.length = n) (hw : Wds xs) (hd : d ≤ 8) (hl : d + 1 = n) (ho : o ≤ 511) :
    Calls Fagg.prog 65 #[.slice a n c, ptV (rootPt d), .agg #[.int .u8 1, .int .u16 (o : Int), .int .u8 s, .bool false]] w fun e w' => e = .returned (.int .u64 (fieldOf xs d o 0)) ∧ Below w.heap.size w w' := by
  have HF := hide (fun W (hW : Below w.heap.size w W) => bit_any a n c d o xs W (hs.below hW) hn hw hd hl (by omega))
  unfold ptV at *
  generalize rootPt d = q at *
  have hB : Below w.heap.size w ((w.alloc (Obj.cells #[Value.int IntKind.u8 q.kind, Value.int IntKind.u16 q.at_, Value.int IntKind.u8 q.data, Value.int IntKind.u8 q.ptrs, Value.int IntKind.u8 q.code, Value.int IntKind.u16 q.count] 58)).alloc (Obj.cells #[Value.int IntKind.u8 1, Value.int IntKind.u16 (o : Int), Value.int IntKind.u8 s, Value.bool false] 112)) := ((Below.refl _ _).alloc (Nat.le_refl _) _).alloc (by simp) _
  clear hs hn hw hl
  have hbd := fieldOf_bd xs d o 0
  generalize hf : fieldOf xs d o 0 = f at *
  have hf01 : f = 0 ∨ f = 1 := by simp at hbd; omega
  rcases hf01 with rfl | rfl
  · have hh : ((0 : Int) == 1) = false := by decide
    rw [hh] at HF
    clear hh hf hbd
    go_enter Fagg.func65, Fagg.ntmps65
    go_wp2_with (go_at_call 108; with_reducible refine (unhide HF _ hB).mono ?_; rintro e w1 ⟨rfl, hb1⟩; have HB1 := hide (hB.trans (hb1.mono hB.size)); clear hb1)
    go_ret
    exact ⟨rfl, unhide HB1⟩
  · have hh : ((1 : Int) == 1) = true := by decide
    rw [hh] at HF
    clear hh hf hbd
    go_enter Fagg.func65, Fagg.ntmps65
    go_wp2_with (go_at_call 108; with_reducible refine (unhide HF _ hB).mono ?_; rintro e w1 ⟨rfl, hb1⟩; have HB1 := hide (hB.trans (hb1.mono hB.size)); clear hb1)
    go_ret
    exact ⟨rfl, unhide HB1⟩

set_option maxHeartbeats 1000000 in
theorem get_3 (a : Option Addr) (n c d o : Nat) (s : Int) (xs : List Int) (w : World) (hs : Sl .u64 w a xs) (hn : xs.length = n) (hw : Wds xs) (hd : d ≤ 8) (hl : d + 1 = n) (ho : o ≤ 255) :
    Calls Fagg.prog 65 #[.slice a n c, ptV (rootPt d), .agg #[.int .u8 8, .int .u16 (o : Int), .int .u8 s, .bool false]] w fun e w' => e = .returned (.int .u64 (fieldOf xs d o 3)) ∧ Below w.heap.size w w' := by
  have HF := hide (fun W (hW : Below w.heap.size w W) => u8_any a n c d o xs W (hs.below hW) hn hw hd hl (by omega))
  unfold ptV at *
  generalize rootPt d = q at *
  have hB : Below w.heap.size w ((w.alloc (Obj.cells #[Value.int IntKind.u8 q.kind, Value.int IntKind.u16 q.at_, Value.int IntKind.u8 q.data, Value.int IntKind.u8 q.ptrs, Value.int IntKind.u8 q.code, Value.int IntKind.u16 q.count] 58)).alloc (Obj.cells #[Value.int IntKind.u8 8, Value.int IntKind.u16 (o : Int), Value.int IntKind.u8 s, Value.bool false] 112)) := ((Below.refl _ _).alloc (Nat.le_refl _) _).alloc (by simp) _
  clear hs hn hw hl
  have hbd := fieldOf_bd xs d o 3
  generalize fieldOf xs d o 3 = f at *
  have hb2 : f < 256 := by have := hbd.2; simpa using this
  have hb0 := hbd.1
  clear hbd
  go_enter Fagg.func65, Fagg.ntmps65
  go_wp2_with (go_at_call 103; with_reducible refine (unhide HF _ hB).mono ?_; rintro e w1 ⟨rfl, hb1⟩; have HB1 := hide (hB.trans (hb1.mono hB.size)); clear hb1)
  go_ret
  exact ⟨rfl, unhide HB1⟩

set_option maxHeartbeats 1000000 in
theorem get_4 (a : Option Addr) (n c d o : Nat) (s : Int) (xs : List Int) (w : World) (hs : Sl .u64 w a xs) (hn : xs.length = n) (hw : Wds xs) (hd : d ≤ 8) (hl : d + 1 = n) (ho : o ≤ 255) :
    Calls Fagg.prog 65 #[.slice a n c, ptV (rootPt d), .agg #[.int .u8 16, .int .u16 (o : Int), .int .u8 s, .bool false]] w fun e w' => e = .returned (.int .u64 (fieldOf xs d o 4)) ∧ Below w.heap.size w w' := by
  have HF := hide (fun W (hW : Below w.heap.size w W) => u16_any a n c d o xs W (hs.below hW) hn hw hd hl (by omega))
  unfold ptV at *
  generalize rootPt d = q at *
  have hB : Below w.heap.size w ((w.alloc (Obj.cells #[Value.int IntKind.u8 q.kind, Value.int IntKind.u16 q.at_, Value.int IntKind.u8 q.data, Value.int IntKind.u8 q.ptrs, Value.int IntKind.u8 q.code, Value.int IntKind.u16 q.count] 58)).alloc (Obj.cells #[Value.int IntKind.u8 16, Value.int IntKind.u16 (o : Int), Value.int IntKind.u8 s, Value.bool false] 112)) := ((Below.refl _ _).alloc (Nat.le_refl _) _).alloc (by simp) _
  clear hs hn hw hl
  have hbd := fieldOf_bd xs d o 4
  generalize fieldOf xs d o 4 = f at *
  have hb2 : f < 65536 := by have := hbd.2; simpa using this
  have hb0 := hbd.1
  clear hbd
  go_enter Fagg.func65, Fagg.ntmps65
  go_wp2_with (go_at_call 102; with_reducible refine (unhide HF _ hB).mono ?_; rintro e w1 ⟨rfl, hb1⟩; have HB1 := hide (hB.trans (hb1.mono hB.size)); clear hb1)
  go_ret
  exact ⟨rfl, unhide HB1⟩

set_option maxHeartbeats 1000000 in
theorem get_5 (a : Option Addr) (n c d o : Nat) (s : Int) (xs : List Int) (w : World) (hs : Sl .u64 w a xs) (hn : xs.length = n) (hw : Wds xs) (hd : d ≤ 8) (hl : d + 1 = n) (ho : o ≤ 255) :
    Calls Fagg.prog 65 #[.slice a n c, ptV (rootPt d), .agg #[.int .u8 32, .int .u16 (o : Int), .int .u8 s, .bool false]] w fun e w' => e = .returned (.int .u64 (fieldOf xs d o 5)) ∧ Below w.heap.size w w' := by
  have HF := hide (fun W (hW : Below w.heap.size w W) => u32_any a n c d o xs W (hs.below hW) hn hw hd hl (by omega))
  unfold ptV at *
  generalize rootPt d = q at *
  have hB : Below w.heap.size w ((w.alloc (Obj.cells #[Value.int IntKind.u8 q.kind, Value.int IntKind.u16 q.at_, Value.int IntKind.u8 q.data, Value.int IntKind.u8 q.ptrs, Value.int IntKind.u8 q.code, Value.int IntKind.u16 q.count] 58)).alloc (Obj.cells #[Value.int IntKind.u8 32, Value.int IntKind.u16 (o : Int), Value.int IntKind.u8 s, Value.bool false] 112)) := ((Below.refl _ _).alloc (Nat.le_refl _) _).alloc (by simp) _
  clear hs hn hw hl
  have hbd := fieldOf_bd xs d o 5
  generalize fieldOf xs d o 5 = f at *
  have hb2 : f < 4294967296 := by have := hbd.2; simpa using this
  have hb0 := hbd.1
  clear hbd
  go_enter Fagg.func65, Fagg.ntmps65
  go_wp2_with (go_at_call 101; with_reducible refine (unhide HF _ hB).mono ?_; rintro e w1 ⟨rfl, hb1⟩; have HB1 := hide (hB.trans (hb1.mono hB.size)); clear hb1)
  go_ret
  exact ⟨rfl, unhide HB1⟩

set_option maxHeartbeats 1000000 in
theorem get_6 (a : Option Addr) (n c d o : Nat) (s : Int) (xs : List Int) (w : World) (hs : Sl .u64 w a xs) (hn : xs.length = n) (hw : Wds xs) (hd : d ≤ 8) (hl : d + 1 = n) (ho : o ≤ 255) :
    Calls Fagg.prog 65 #[.slice a n c, ptV (rootPt d), .agg #[.int .u8 64, .int .u16 (o : Int), .int .u8 s, .bool false]] w fun e w' => e = .returned (.int .u64 (fieldOf xs d o 6)) ∧ Below w.heap.size w w' := by
  have HF := hide (fun W (hW : Below w.heap.size w W) => u64_any a n c d o xs W (hs.below hW) hn hw hd hl (by omega))
  unfold ptV at *
  generalize rootPt d = q at *
  have hB : Below w.heap.size w ((w.alloc (Obj.cells #[Value.int IntKind.u8 q.kind, Value.int IntKind.u16 q.at_, Value.int IntKind.u8 q.data, Value.int IntKind.u8 q.ptrs, Value.int IntKind.u8 q.code, Value.int IntKind.u16 q.count] 58)).alloc (Obj.cells #[Value.int IntKind.u8 64, Value.int IntKind.u16 (o : Int), Value.int IntKind.u8 s, Value.bool false] 112)) := ((Below.refl _ _).alloc (Nat.le_refl _) _).alloc (by simp) _
  clear hs hn hw hl
  have hbd := fieldOf_bd xs d o 6
  generalize fieldOf xs d o 6 = f at *
  have hb2 : f < 18446744073709551616 := by have := hbd.2; simpa using this
  have hb0 := hbd.1
  clear hbd
  go_enter Fagg.func65, Fagg.ntmps65
  go_wp2_with (go_at_call 100; with_reducible refine (unhide HF _ hB).mono ?_; rintro e w1 ⟨rfl, hb1⟩; have HB1 := hide (hB.trans (hb1.mono hB.size)); clear hb1)
  go_ret
  exact ⟨rfl, unhide HB1⟩

set_option maxHeartbeats 1000000 in
/-- read.Root. -/
theorem root_any (a : Option Addr) (n c d : Nat) (xs : List Int) (w : World) (hs : Sl .u64 w a xs) (hn : xs.length = n) (hw : Wds xs) (hd : d ≤ 8) (hl : n = d + 1) (hx : xs.getD 0 0 = (rootW d : Int)) :
    Calls Fagg.prog 64 #[.slice a n c] w fun e w' => e = .returned (ptRes (some (rootPt d))) ∧ Below w.heap.size w w' := by
  have HR := hide (fun W (hW : Below w.heap.size w W) => resolve0_any a n c d xs W (hs.below hW) hn hw hd hl hx)
  simp only [ptRes, ptV] at HR
  generalize rootPt d = q at *
  have hB : Below w.heap.size w (w.alloc (Obj.cells #[Value.int IntKind.u8 0, Value.int IntKind.u16 0, Value.int IntKind.u8 0, Value.int IntKind.u8 0, Value.int IntKind.u8 0, Value.int IntKind.u16 0] 58)) := (Below.refl _ _).alloc (Nat.le_refl _) _
  clear hs hn hw hd hl hx
  have c0 : (w.alloc (Obj.cells #[Value.int IntKind.u8 0, Value.int IntKind.u16 0, Value.int IntKind.u8 0, Value.int IntKind.u8 0, Value.int IntKind.u8 0, Value.int IntKind.u16 0] 58)).cell? ⟨w.heap.size, 0, none⟩ = some (.int .u8 0) := by simp
  have g0 : (w.alloc (Obj.cells #[Value.int IntKind.u8 0, Value.int IntKind.u16 0, Value.int IntKind.u8 0, Value.int IntKind.u8 0, Value.int IntKind.u8 0, Value.int IntKind.u16 0] 58)).frozen? ⟨w.heap.size, 0, none⟩ = false := by simp
  have c1 : (w.alloc (Obj.cells #[Value.int IntKind.u8 0, Value.int IntKind.u16 0, Value.int IntKind.u8 0, Value.int IntKind.u8 0, Value.int IntKind.u8 0, Value.int IntKind.u16 0] 58)).cell? ⟨w.heap.size, 1, none⟩ = some (.int .u16 0) := by simp
  have g1 : (w.alloc (Obj.cells #[Value.int IntKind.u8 0, Value.int IntKind.u16 0, Value.int IntKind.u8 0, Value.int IntKind.u8 0, Value.int IntKind.u8 0, Value.int IntKind.u16 0] 58)).frozen? ⟨w.heap.size, 1, none⟩ = false := by simp
  have c2 : (w.alloc (Obj.cells #[Value.int IntKind.u8 0, Value.int IntKind.u16 0, Value.int IntKind.u8 0, Value.int IntKind.u8 0, Value.int IntKind.u8 0, Value.int IntKind.u16 0] 58)).cell? ⟨w.heap.size, 2, none⟩ = some (.int .u8 0) := by simp
  have g2 : (w.alloc (Obj.cells #[Value.int IntKind.u8 0, Value.int IntKind.u16 0, Value.int IntKind.u8 0, Value.int IntKind.u8 0, Value.int IntKind.u8 0, Value.int IntKind.u16 0] 58)).frozen? ⟨w.heap.size, 2, none⟩ = false := by simp
  have c3 : (w.alloc (Obj.cells #[Value.int IntKind.u8 0, Value.int IntKind.u16 0, Value.int IntKind.u8 0, Value.int IntKind.u8 0, Value.int IntKind.u8 0, Value.int IntKind.u16 0] 58)).cell? ⟨w.heap.size, 3, none⟩ = some (.int .u8 0) := by simp
  have g3 : (w.alloc (Obj.cells #[Value.int IntKind.u8 0, Value.int IntKind.u16 0, Value.int IntKind.u8 0, Value.int IntKind.u8 0, Value.int IntKind.u8 0, Value.int IntKind.u16 0] 58)).frozen? ⟨w.heap.size, 3, none⟩ = false := by simp
  have c4 : (w.alloc (Obj.cells #[Value.int IntKind.u8 0, Value.int IntKind.u16 0, Value.int IntKind.u8 0, Value.int IntKind.u8 0, Value.int IntKind.u8 0, Value.int IntKind.u16 0] 58)).cell? ⟨w.heap.size, 4, none⟩ = some (.int .u8 0) := by simp
  have g4 : (w.alloc (Obj.cells #[Value.int IntKind.u8 0, Value.int IntKind.u16 0, Value.int IntKind.u8 0, Value.int IntKind.u8 0, Value.int IntKind.u8 0, Value.int IntKind.u16 0] 58)).frozen? ⟨w.heap.size, 4, none⟩ = false := by simp
  have c5 : (w.alloc (Obj.cells #[Value.int IntKind.u8 0, Value.int IntKind.u16 0, Value.int IntKind.u8 0, Value.int IntKind.u8 0, Value.int IntKind.u8 0, Value.int IntKind.u16 0] 58)).cell? ⟨w.heap.size, 5, none⟩ = some (.int .u16 0) := by simp
  have g5 : (w.alloc (Obj.cells #[Value.int IntKind.u8 0, Value.int IntKind.u16 0, Value.int IntKind.u8 0, Value.int IntKind.u8 0, Value.int IntKind.u8 0, Value.int IntKind.u16 0] 58)).frozen? ⟨w.heap.size, 5, none⟩ = false := by simp
  go_enter Fagg.func64, Fagg.ntmps64
  go_wp2_with (go_at_call 136; with_reducible refine (unhide HR _ hB).mono ?_; rintro e w1 ⟨rfl, hb1⟩; have k0 := (hb1.cell (p := ⟨w.heap.size, 0, none⟩) (by simp)).trans (c0); have f0 := (hb1.frozen (p := ⟨w.heap.size, 0, none⟩) (by simp)).trans (g0); have k1 := (hb1.cell (p := ⟨w.heap.size, 1, none⟩) (by simp)).trans (c1); have f1 := (hb1.frozen (p := ⟨w.heap.size, 1, none⟩) (by simp)).trans (g1); have k2 := (hb1.cell (p := ⟨w.heap.size, 2, none⟩) (by simp)).trans (c2); have f2 := (hb1.frozen (p := ⟨w.heap.size, 2, none⟩) (by simp)).trans (g2); have k3 := (hb1.cell (p := ⟨w.heap.size, 3, none⟩) (by simp)).trans (c3); have f3 := (hb1.frozen (p := ⟨w.heap.size, 3, none⟩) (by simp)).trans (g3); have k4 := (hb1.cell (p := ⟨w.heap.size, 4, none⟩) (by simp)).trans (c4); have f4 := (hb1.frozen (p := ⟨w.heap.size, 4, none⟩) (by simp)).trans (g4); have k5 := (hb1.cell (p := ⟨w.heap.size, 5, none⟩) (by simp)).trans (c5); have f5 := (hb1.frozen (p := ⟨w.heap.size, 5, none⟩) (by simp)).trans (g5); have hb2 := hB.trans (hb1.mono hB.size); clear hb1)
  exact bodyPost_ret (v := ptRes (some q)) (by simp [results, Fagg.results64, go_sem, ptRes, ptV, k0, k1, k2, k3, k4, k5]) rfl ⟨rfl, below_set6 hb2 (Nat.le_refl _) _ _ _ _ _ _⟩
end Go.Proofs.Ygcfag
