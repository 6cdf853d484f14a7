/-
  WALKS: smodel.zeroTail where the last word is full.
-/
import Derived.Test.YgcfagW64
import Derived.Test.YgcfagW35
namespace Go.Proofs.Ygcfag
open Go.RowKit
set_option linter.unusedVariables false
set_option linter.unusedSimpArgs false

set_option maxHeartbeats 1000000 in
set_option maxRecDepth 100000 in
theorem ztw_2 (a : Option Addr) (n c at_ cnt bt nw : Nat) (w : World) (hcnt : cnt ≤ 128) (hat : at_ ≤ 256) (hb : cnt = bt) (hnw : bt = 8 * nw) :
    Calls Fagg.prog 149 #[.slice a n c, ptV ⟨2, (at_ : Int), 0, 0, 2, (cnt : Int)⟩] w fun e w' => e = .returned (.bool true) ∧ Below w.heap.size w w' := by
  subst hb
  have HWD := hide (fun W => words_good ⟨2, (at_ : Int), 0, 0, 2, (cnt : Int)⟩ W (.list _ _ _ (by omega) (by omega) (by omega)))
  have hwo : wordsOf ⟨2, (at_ : Int), 0, 0, 2, (cnt : Int)⟩ = (nw : Int) := by simp [wordsOf, listWords]; omega
  rw [hwo] at HWD
  obtain ⟨W, hW⟩ : ∃ W, W = w.alloc (Obj.cells #[Value.int IntKind.u8 2, Value.int IntKind.u16 (at_ : Int), Value.int IntKind.u8 0, Value.int IntKind.u8 0, Value.int IntKind.u8 2, Value.int IntKind.u16 (cnt : Int)] 58) := ⟨_, rfl⟩
  have hB : Below w.heap.size w W := by rw [hW]; exact (Below.refl _ _).alloc (Nat.le_refl _) _
  have hsz : W.heap.size = w.heap.size + 1 := by rw [hW]; simp
  have c0 : W.cell? ⟨w.heap.size, 0, none⟩ = some (.int .u8 2) := by rw [hW]; simp
  have c1 : W.cell? ⟨w.heap.size, 1, none⟩ = some (.int .u16 (at_ : Int)) := by rw [hW]; simp
  have c2 : W.cell? ⟨w.heap.size, 2, none⟩ = some (.int .u8 0) := by rw [hW]; simp
  have c3 : W.cell? ⟨w.heap.size, 3, none⟩ = some (.int .u8 0) := by rw [hW]; simp
  have c4 : W.cell? ⟨w.heap.size, 4, none⟩ = some (.int .u8 2) := by rw [hW]; simp
  have c5 : W.cell? ⟨w.heap.size, 5, none⟩ = some (.int .u16 (cnt : Int)) := by rw [hW]; simp
  skip
  have HNW := hide hnw
  have HW := hide hW
  clear hwo hW hnw 
  unfold ptV at *
  go_enter Fagg.func149, Fagg.ntmps149
  go_wp2_with fail
  rw [← unhide HW]
  go_loopw [5] (fun s1 wr => s1 = .int .i64 (cnt : Int) ∧ Below W.heap.size W wr) (fun s1 _ => 0)
  case atStart => exact ⟨by go_num, Below.refl _ _⟩
  case round =>
    obtain ⟨rfl, hbr⟩ := hrel
    have r0 := (hbr.cell (p := ⟨w.heap.size, 0, none⟩) (by show w.heap.size < _; omega)).trans c0
    have r1 := (hbr.cell (p := ⟨w.heap.size, 1, none⟩) (by show w.heap.size < _; omega)).trans c1
    have r2 := (hbr.cell (p := ⟨w.heap.size, 2, none⟩) (by show w.heap.size < _; omega)).trans c2
    have r3 := (hbr.cell (p := ⟨w.heap.size, 3, none⟩) (by show w.heap.size < _; omega)).trans c3
    have r4 := (hbr.cell (p := ⟨w.heap.size, 4, none⟩) (by show w.heap.size < _; omega)).trans c4
    have r5 := (hbr.cell (p := ⟨w.heap.size, 5, none⟩) (by show w.heap.size < _; omega)).trans c5
    have e1 : ¬ (cnt : Int) < 8 * (nw : Int) := by have := unhide HNW; omega
    have hu1 : nw ≤ 128 := by have := unhide HNW; omega
    go_wp2_with (go_at_call 145; with_reducible refine (unhide HWD _).mono ?_; rintro e w1 ⟨rfl, hb1⟩; have hb2 := hbr.trans (hb1.mono hbr.size))
    go_ret
    exact ⟨rfl, hB.trans (hb2.mono hB.size)⟩

set_option maxHeartbeats 1000000 in
set_option maxRecDepth 100000 in
theorem ztw_3 (a : Option Addr) (n c at_ cnt bt nw : Nat) (w : World) (hcnt : cnt ≤ 128) (hat : at_ ≤ 256) (hb : cnt * 2 = bt) (hnw : bt = 8 * nw) :
    Calls Fagg.prog 149 #[.slice a n c, ptV ⟨2, (at_ : Int), 0, 0, 3, (cnt : Int)⟩] w fun e w' => e = .returned (.bool true) ∧ Below w.heap.size w w' := by
  skip
  have HWD := hide (fun W => words_good ⟨2, (at_ : Int), 0, 0, 3, (cnt : Int)⟩ W (.list _ _ _ (by omega) (by omega) (by omega)))
  have hwo : wordsOf ⟨2, (at_ : Int), 0, 0, 3, (cnt : Int)⟩ = (nw : Int) := by simp [wordsOf, listWords]; omega
  rw [hwo] at HWD
  obtain ⟨W, hW⟩ : ∃ W, W = w.alloc (Obj.cells #[Value.int IntKind.u8 2, Value.int IntKind.u16 (at_ : Int), Value.int IntKind.u8 0, Value.int IntKind.u8 0, Value.int IntKind.u8 3, Value.int IntKind.u16 (cnt : Int)] 58) := ⟨_, rfl⟩
  have hB : Below w.heap.size w W := by rw [hW]; exact (Below.refl _ _).alloc (Nat.le_refl _) _
  have hsz : W.heap.size = w.heap.size + 1 := by rw [hW]; simp
  have c0 : W.cell? ⟨w.heap.size, 0, none⟩ = some (.int .u8 2) := by rw [hW]; simp
  have c1 : W.cell? ⟨w.heap.size, 1, none⟩ = some (.int .u16 (at_ : Int)) := by rw [hW]; simp
  have c2 : W.cell? ⟨w.heap.size, 2, none⟩ = some (.int .u8 0) := by rw [hW]; simp
  have c3 : W.cell? ⟨w.heap.size, 3, none⟩ = some (.int .u8 0) := by rw [hW]; simp
  have c4 : W.cell? ⟨w.heap.size, 4, none⟩ = some (.int .u8 3) := by rw [hW]; simp
  have c5 : W.cell? ⟨w.heap.size, 5, none⟩ = some (.int .u16 (cnt : Int)) := by rw [hW]; simp
  have hcb : (cnt : Int) * 2 = (bt : Int) := by omega
  have HNW := hide hnw
  have HW := hide hW
  clear hwo hW hnw hb
  unfold ptV at *
  go_enter Fagg.func149, Fagg.ntmps149
  go_wp2_with fail
  rw [← unhide HW]
  go_loopw [5] (fun s1 wr => s1 = .int .i64 (bt : Int) ∧ Below W.heap.size W wr) (fun s1 _ => 0)
  case atStart => exact ⟨by go_num, Below.refl _ _⟩
  case round =>
    obtain ⟨rfl, hbr⟩ := hrel
    have r0 := (hbr.cell (p := ⟨w.heap.size, 0, none⟩) (by show w.heap.size < _; omega)).trans c0
    have r1 := (hbr.cell (p := ⟨w.heap.size, 1, none⟩) (by show w.heap.size < _; omega)).trans c1
    have r2 := (hbr.cell (p := ⟨w.heap.size, 2, none⟩) (by show w.heap.size < _; omega)).trans c2
    have r3 := (hbr.cell (p := ⟨w.heap.size, 3, none⟩) (by show w.heap.size < _; omega)).trans c3
    have r4 := (hbr.cell (p := ⟨w.heap.size, 4, none⟩) (by show w.heap.size < _; omega)).trans c4
    have r5 := (hbr.cell (p := ⟨w.heap.size, 5, none⟩) (by show w.heap.size < _; omega)).trans c5
    have e1 : ¬ (bt : Int) < 8 * (nw : Int) := by have := unhide HNW; omega
    have hu1 : nw ≤ 128 := by have := unhide HNW; omega
    go_wp2_with (go_at_call 145; with_reducible refine (unhide HWD _).mono ?_; rintro e w1 ⟨rfl, hb1⟩; have hb2 := hbr.trans (hb1.mono hbr.size))
    go_ret
    exact ⟨rfl, hB.trans (hb2.mono hB.size)⟩

set_option maxHeartbeats 1000000 in
set_option maxRecDepth 100000 in
theorem ztw_4 (a : Option Addr) (n c at_ cnt bt nw : Nat) (w : World) (hcnt : cnt ≤ 128) (hat : at_ ≤ 256) (hb : cnt * 4 = bt) (hnw : bt = 8 * nw) :
    Calls Fagg.prog 149 #[.slice a n c, ptV ⟨2, (at_ : Int), 0, 0, 4, (cnt : Int)⟩] w fun e w' => e = .returned (.bool true) ∧ Below w.heap.size w w' := by
  skip
  have HWD := hide (fun W => words_good ⟨2, (at_ : Int), 0, 0, 4, (cnt : Int)⟩ W (.list _ _ _ (by omega) (by omega) (by omega)))
  have hwo : wordsOf ⟨2, (at_ : Int), 0, 0, 4, (cnt : Int)⟩ = (nw : Int) := by simp [wordsOf, listWords]; omega
  rw [hwo] at HWD
  obtain ⟨W, hW⟩ : ∃ W, W = w.alloc (Obj.cells #[Value.int IntKind.u8 2, Value.int IntKind.u16 (at_ : Int), Value.int IntKind.u8 0, Value.int IntKind.u8 0, Value.int IntKind.u8 4, Value.int IntKind.u16 (cnt : Int)] 58) := ⟨_, rfl⟩
  have hB : Below w.heap.size w W := by rw [hW]; exact (Below.refl _ _).alloc (Nat.le_refl _) _
  have hsz : W.heap.size = w.heap.size + 1 := by rw [hW]; simp
  have c0 : W.cell? ⟨w.heap.size, 0, none⟩ = some (.int .u8 2) := by rw [hW]; simp
  have c1 : W.cell? ⟨w.heap.size, 1, none⟩ = some (.int .u16 (at_ : Int)) := by rw [hW]; simp
  have c2 : W.cell? ⟨w.heap.size, 2, none⟩ = some (.int .u8 0) := by rw [hW]; simp
  have c3 : W.cell? ⟨w.heap.size, 3, none⟩ = some (.int .u8 0) := by rw [hW]; simp
  have c4 : W.cell? ⟨w.heap.size, 4, none⟩ = some (.int .u8 4) := by rw [hW]; simp
  have c5 : W.cell? ⟨w.heap.size, 5, none⟩ = some (.int .u16 (cnt : Int)) := by rw [hW]; simp
  have hcb : (cnt : Int) * 4 = (bt : Int) := by omega
  have HNW := hide hnw
  have HW := hide hW
  clear hwo hW hnw hb
  unfold ptV at *
  go_enter Fagg.func149, Fagg.ntmps149
  go_wp2_with fail
  rw [← unhide HW]
  go_loopw [5] (fun s1 wr => s1 = .int .i64 (bt : Int) ∧ Below W.heap.size W wr) (fun s1 _ => 0)
  case atStart => exact ⟨by go_num, Below.refl _ _⟩
  case round =>
    obtain ⟨rfl, hbr⟩ := hrel
    have r0 := (hbr.cell (p := ⟨w.heap.size, 0, none⟩) (by show w.heap.size < _; omega)).trans c0
    have r1 := (hbr.cell (p := ⟨w.heap.size, 1, none⟩) (by show w.heap.size < _; omega)).trans c1
    have r2 := (hbr.cell (p := ⟨w.heap.size, 2, none⟩) (by show w.heap.size < _; omega)).trans c2
    have r3 := (hbr.cell (p := ⟨w.heap.size, 3, none⟩) (by show w.heap.size < _; omega)).trans c3
    have r4 := (hbr.cell (p := ⟨w.heap.size, 4, none⟩) (by show w.heap.size < _; omega)).trans c4
    have r5 := (hbr.cell (p := ⟨w.heap.size, 5, none⟩) (by show w.heap.size < _; omega)).trans c5
    have e1 : ¬ (bt : Int) < 8 * (nw : Int) := by have := unhide HNW; omega
    have hu1 : nw ≤ 128 := by have := unhide HNW; omega
    go_wp2_with (go_at_call 145; with_reducible refine (unhide HWD _).mono ?_; rintro e w1 ⟨rfl, hb1⟩; have hb2 := hbr.trans (hb1.mono hbr.size))
    go_ret
    exact ⟨rfl, hB.trans (hb2.mono hB.size)⟩

set_option maxHeartbeats 1000000 in
set_option maxRecDepth 100000 in
theorem ztw_5 (a : Option Addr) (n c at_ cnt bt nw : Nat) (w : World) (hcnt : cnt ≤ 128) (hat : at_ ≤ 256) (hb : cnt * 8 = bt) (hnw : bt = 8 * nw) :
    Calls Fagg.prog 149 #[.slice a n c, ptV ⟨2, (at_ : Int), 0, 0, 5, (cnt : Int)⟩] w fun e w' => e = .returned (.bool true) ∧ Below w.heap.size w w' := by
  skip
  have HWD := hide (fun W => words_good ⟨2, (at_ : Int), 0, 0, 5, (cnt : Int)⟩ W (.list _ _ _ (by omega) (by omega) (by omega)))
  have hwo : wordsOf ⟨2, (at_ : Int), 0, 0, 5, (cnt : Int)⟩ = (nw : Int) := by simp [wordsOf, listWords]; omega
  rw [hwo] at HWD
  obtain ⟨W, hW⟩ : ∃ W, W = w.alloc (Obj.cells #[Value.int IntKind.u8 2, Value.int IntKind.u16 (at_ : Int), Value.int IntKind.u8 0, Value.int IntKind.u8 0, Value.int IntKind.u8 5, Value.int IntKind.u16 (cnt : Int)] 58) := ⟨_, rfl⟩
  have hB : Below w.heap.size w W := by rw [hW]; exact (Below.refl _ _).alloc (Nat.le_refl _) _
  have hsz : W.heap.size = w.heap.size + 1 := by rw [hW]; simp
  have c0 : W.cell? ⟨w.heap.size, 0, none⟩ = some (.int .u8 2) := by rw [hW]; simp
  have c1 : W.cell? ⟨w.heap.size, 1, none⟩ = some (.int .u16 (at_ : Int)) := by rw [hW]; simp
  have c2 : W.cell? ⟨w.heap.size, 2, none⟩ = some (.int .u8 0) := by rw [hW]; simp
  have c3 : W.cell? ⟨w.heap.size, 3, none⟩ = some (.int .u8 0) := by rw [hW]; simp
  have c4 : W.cell? ⟨w.heap.size, 4, none⟩ = some (.int .u8 5) := by rw [hW]; simp
  have c5 : W.cell? ⟨w.heap.size, 5, none⟩ = some (.int .u16 (cnt : Int)) := by rw [hW]; simp
  have hcb : (cnt : Int) * 8 = (bt : Int) := by omega
  have HNW := hide hnw
  have HW := hide hW
  clear hwo hW hnw hb
  unfold ptV at *
  go_enter Fagg.func149, Fagg.ntmps149
  go_wp2_with fail
  rw [← unhide HW]
  go_loopw [5] (fun s1 wr => s1 = .int .i64 (bt : Int) ∧ Below W.heap.size W wr) (fun s1 _ => 0)
  case atStart => exact ⟨by go_num, Below.refl _ _⟩
  case round =>
    obtain ⟨rfl, hbr⟩ := hrel
    have r0 := (hbr.cell (p := ⟨w.heap.size, 0, none⟩) (by show w.heap.size < _; omega)).trans c0
    have r1 := (hbr.cell (p := ⟨w.heap.size, 1, none⟩) (by show w.heap.size < _; omega)).trans c1
    have r2 := (hbr.cell (p := ⟨w.heap.size, 2, none⟩) (by show w.heap.size < _; omega)).trans c2
    have r3 := (hbr.cell (p := ⟨w.heap.size, 3, none⟩) (by show w.heap.size < _; omega)).trans c3
    have r4 := (hbr.cell (p := ⟨w.heap.size, 4, none⟩) (by show w.heap.size < _; omega)).trans c4
    have r5 := (hbr.cell (p := ⟨w.heap.size, 5, none⟩) (by show w.heap.size < _; omega)).trans c5
    have e1 : ¬ (bt : Int) < 8 * (nw : Int) := by have := unhide HNW; omega
    have hu1 : nw ≤ 128 := by have := unhide HNW; omega
    go_wp2_with (go_at_call 145; with_reducible refine (unhide HWD _).mono ?_; rintro e w1 ⟨rfl, hb1⟩; have hb2 := hbr.trans (hb1.mono hbr.size))
    go_ret
    exact ⟨rfl, hB.trans (hb2.mono hB.size)⟩

end Go.Proofs.Ygcfag
