/-
  WALKS: smodel.zeroTail.
-/
import Derived.Test.YgcfagW64
import Derived.Test.YgcfagW35
namespace Go.Proofs.Ygcfag
open Go.RowKit
set_option linter.unusedVariables false
set_option linter.unusedSimpArgs false

set_option maxHeartbeats 1000000 in
set_option maxRecDepth 100000 in
theorem zt_2 (b off n c at_ cnt bt nw j : Nat) (x : Int) (w : World) (hcnt : cnt ≤ 128) (hat : at_ ≤ 256) (hb : cnt = bt) (hnw : nw = (bt + 7) / 8) (hr : bt % 8 ≠ 0) (hj : at_ + bt / 8 = j) (hjn : j < n) (hn : n ≤ 256) (hc : w.cell? ⟨b, off + j, none⟩ = some (.int .u64 x)) (hx : 0 ≤ x ∧ x < 18446744073709551616) :
    Calls Fagg.prog 149 #[.slice (some ⟨b, off, none⟩) n c, ptV ⟨2, (at_ : Int), 0, 0, 2, (cnt : Int)⟩] w fun e w' => e = .returned (.bool (x / 2 ^ (bt % 8 * 8) == 0)) ∧ Below w.heap.size w w' := by
  subst hb
  have HWD := hide (fun W => words_good ⟨2, (at_ : Int), 0, 0, 2, (cnt : Int)⟩ W (.list _ _ _ (by omega) (by omega) (by omega)))
  have hwo : wordsOf ⟨2, (at_ : Int), 0, 0, 2, (cnt : Int)⟩ = (nw : Int) := by simp [wordsOf, listWords]; omega
  rw [hwo] at HWD
  have hbw := World.block_lt_of_cell? w _ hc
  obtain ⟨W, hW⟩ : ∃ W, W = w.alloc (Obj.cells #[Value.int IntKind.u8 2, Value.int IntKind.u16 (at_ : Int), Value.int IntKind.u8 0, Value.int IntKind.u8 0, Value.int IntKind.u8 2, Value.int IntKind.u16 (cnt : Int)] 58) := ⟨_, rfl⟩
  have hB : Below w.heap.size w W := by rw [hW]; exact (Below.refl _ _).alloc (Nat.le_refl _) _
  have hsz : W.heap.size = w.heap.size + 1 := by rw [hW]; simp
  have c0 : W.cell? ⟨w.heap.size, 0, none⟩ = some (.int .u8 2) := by rw [hW]; simp
  have c1 : W.cell? ⟨w.heap.size, 1, none⟩ = some (.int .u16 (at_ : Int)) := by rw [hW]; simp
  have c2 : W.cell? ⟨w.heap.size, 2, none⟩ = some (.int .u8 0) := by rw [hW]; simp
  have c3 : W.cell? ⟨w.heap.size, 3, none⟩ = some (.int .u8 0) := by rw [hW]; simp
  have c4 : W.cell? ⟨w.heap.size, 4, none⟩ = some (.int .u8 2) := by rw [hW]; simp
  have c5 : W.cell? ⟨w.heap.size, 5, none⟩ = some (.int .u16 (cnt : Int)) := by rw [hW]; simp
  skip
  have HTZ := hide (tail_zero x (cnt % 8) hx.1 hx.2 (by omega))
  have HW := hide hW
  clear hwo hW 
  unfold ptV at *
  go_enter Fagg.func149, Fagg.ntmps149
  go_wp2_with fail
  rw [← unhide HW]
  go_loopw [5] (fun s1 wr => ∃ (i : Nat), s1 = .int .i64 (i : Int) ∧ cnt ≤ i ∧ i ≤ 8 * nw ∧ Below W.heap.size W wr ∧ Hid (∀ k, cnt % 8 ≤ k → k < cnt % 8 + (i - cnt) → byteOf x k = 0)) (fun s1 _ => 8 * nw - (intOf s1).toNat)
  case atStart => exact ⟨cnt, by go_num, by omega, by omega, Below.refl _ _, hide (fun k h1 h2 => by omega)⟩
  case round =>
    obtain ⟨i, rfl, hi1, hi2, hbr, HZ⟩ := hrel
    have r0 := (hbr.cell (p := ⟨w.heap.size, 0, none⟩) (by show w.heap.size < _; omega)).trans c0
    have r1 := (hbr.cell (p := ⟨w.heap.size, 1, none⟩) (by show w.heap.size < _; omega)).trans c1
    have r2 := (hbr.cell (p := ⟨w.heap.size, 2, none⟩) (by show w.heap.size < _; omega)).trans c2
    have r3 := (hbr.cell (p := ⟨w.heap.size, 3, none⟩) (by show w.heap.size < _; omega)).trans c3
    have r4 := (hbr.cell (p := ⟨w.heap.size, 4, none⟩) (by show w.heap.size < _; omega)).trans c4
    have r5 := (hbr.cell (p := ⟨w.heap.size, 5, none⟩) (by show w.heap.size < _; omega)).trans c5
    have hbwr := hB.trans (hbr.mono hB.size)
    by_cases hlt : i < 8 * nw
    · have e1 : (i : Int) < 8 * (nw : Int) := by omega
      have hij : (at_ : Int) + (i : Int) / 8 = (j : Int) := by omega
      have hi8 : i % 8 = cnt % 8 + (i - cnt) := by omega
      have hu1 : nw ≤ 128 := by omega
      by_cases hby : byteOf x (i % 8) = 0
      · have hby' : (x / 2 ^ (i % 8 * 8) % 256 != 0) = false := by unfold byteOf at hby; simp [hby]
        have HBY := hide hby
        have HI8 := hide hi8
        clear hby hi8
        go_wp2_with (go_at_call 145; with_reducible refine (unhide HWD _).mono ?_; rintro e w1 ⟨rfl, hb1⟩; have hb2 := hbr.trans (hb1.mono hbr.size); have s1 := (hb2.cell (p := ⟨w.heap.size, 1, none⟩) (by show w.heap.size < _; omega)).trans c1; have sx := ((hB.trans (hb2.mono hB.size)).cell (p := ⟨b, off + j, none⟩) hbw).trans hc)
        refine ⟨⟨i + 1, by go_num, by omega, by omega, hb2, hide fun k h1 h2 => ?_⟩, by simp [intOf]; omega⟩
        by_cases hk : k < cnt % 8 + (i - cnt)
        · exact unhide HZ k h1 hk
        · have e : k = i % 8 := by have := unhide HI8; omega
          rw [e]; exact unhide HBY
      · have hby' : (x / 2 ^ (i % 8 * 8) % 256 != 0) = true := by unfold byteOf at hby; simp [hby]
        have HF := hide (show (x / 2 ^ (cnt % 8 * 8) == 0) = false by
          have := (unhide HTZ).2
          simp
          intro hz
          exact hby (this hz (i % 8) (by omega) (by omega)))
        clear hby hi8
        go_wp2_with (go_at_call 145; with_reducible refine (unhide HWD _).mono ?_; rintro e w1 ⟨rfl, hb1⟩; have hb2 := hbr.trans (hb1.mono hbr.size); have s1 := (hb2.cell (p := ⟨w.heap.size, 1, none⟩) (by show w.heap.size < _; omega)).trans c1; have sx := ((hB.trans (hb2.mono hB.size)).cell (p := ⟨b, off + j, none⟩) hbw).trans hc)
        go_ret
        exact ⟨by rw [unhide HF]; rfl, hB.trans (hb2.mono hB.size)⟩
    · have e1 : ¬ (i : Int) < 8 * (nw : Int) := by omega
      have hu1 : nw ≤ 128 := by omega
      have hi88 : i = 8 * nw := by omega
      have HF := hide (show (x / 2 ^ (cnt % 8 * 8) == 0) = true by
        have := (unhide HTZ).1 (fun k h1 h2 => unhide HZ k h1 (by omega))
        simp [this])
      clear hi88
      go_wp2_with (go_at_call 145; with_reducible refine (unhide HWD _).mono ?_; rintro e w1 ⟨rfl, hb1⟩; have hb2 := hbr.trans (hb1.mono hbr.size))
      go_ret
      exact ⟨by rw [unhide HF]; rfl, hB.trans (hb2.mono hB.size)⟩

set_option maxHeartbeats 1000000 in
set_option maxRecDepth 100000 in
theorem zt_3 (b off n c at_ cnt bt nw j : Nat) (x : Int) (w : World) (hcnt : cnt ≤ 128) (hat : at_ ≤ 256) (hb : cnt * 2 = bt) (hnw : nw = (bt + 7) / 8) (hr : bt % 8 ≠ 0) (hj : at_ + bt / 8 = j) (hjn : j < n) (hn : n ≤ 256) (hc : w.cell? ⟨b, off + j, none⟩ = some (.int .u64 x)) (hx : 0 ≤ x ∧ x < 18446744073709551616) :
    Calls Fagg.prog 149 #[.slice (some ⟨b, off, none⟩) n c, ptV ⟨2, (at_ : Int), 0, 0, 3, (cnt : Int)⟩] w fun e w' => e = .returned (.bool (x / 2 ^ (bt % 8 * 8) == 0)) ∧ Below w.heap.size w w' := by
  skip
  have HWD := hide (fun W => words_good ⟨2, (at_ : Int), 0, 0, 3, (cnt : Int)⟩ W (.list _ _ _ (by omega) (by omega) (by omega)))
  have hwo : wordsOf ⟨2, (at_ : Int), 0, 0, 3, (cnt : Int)⟩ = (nw : Int) := by simp [wordsOf, listWords]; omega
  rw [hwo] at HWD
  have hbw := World.block_lt_of_cell? w _ hc
  obtain ⟨W, hW⟩ : ∃ W, W = w.alloc (Obj.cells #[Value.int IntKind.u8 2, Value.int IntKind.u16 (at_ : Int), Value.int IntKind.u8 0, Value.int IntKind.u8 0, Value.int IntKind.u8 3, Value.int IntKind.u16 (cnt : Int)] 58) := ⟨_, rfl⟩
  have hB : Below w.heap.size w W := by rw [hW]; exact (Below.refl _ _).alloc (Nat.le_refl _) _
  have hsz : W.heap.size = w.heap.size + 1 := by rw [hW]; simp
  have c0 : W.cell? ⟨w.heap.size, 0, none⟩ = some (.int .u8 2) := by rw [hW]; simp
  have c1 : W.cell? ⟨w.heap.size, 1, none⟩ = some (.int .u16 (at_ : Int)) := by rw [hW]; simp
  have c2 : W.cell? ⟨w.heap.size, 2, none⟩ = some (.int .u8 0) := by rw [hW]; simp
  have c3 : W.cell? ⟨w.heap.size, 3, none⟩ = some (.int .u8 0) := by rw [hW]; simp
  have c4 : W.cell? ⟨w.heap.size, 4, none⟩ = some (.int .u8 3) := by rw [hW]; simp
  have c5 : W.cell? ⟨w.heap.size, 5, none⟩ = some (.int .u16 (cnt : Int)) := by rw [hW]; simp
  have hcb : (cnt : Int) * 2 = (bt : Int) := by omega
  have HTZ := hide (tail_zero x (bt % 8) hx.1 hx.2 (by omega))
  have HW := hide hW
  clear hwo hW hb
  unfold ptV at *
  go_enter Fagg.func149, Fagg.ntmps149
  go_wp2_with fail
  rw [← unhide HW]
  go_loopw [5] (fun s1 wr => ∃ (i : Nat), s1 = .int .i64 (i : Int) ∧ bt ≤ i ∧ i ≤ 8 * nw ∧ Below W.heap.size W wr ∧ Hid (∀ k, bt % 8 ≤ k → k < bt % 8 + (i - bt) → byteOf x k = 0)) (fun s1 _ => 8 * nw - (intOf s1).toNat)
  case atStart => exact ⟨bt, by go_num, by omega, by omega, Below.refl _ _, hide (fun k h1 h2 => by omega)⟩
  case round =>
    obtain ⟨i, rfl, hi1, hi2, hbr, HZ⟩ := hrel
    have r0 := (hbr.cell (p := ⟨w.heap.size, 0, none⟩) (by show w.heap.size < _; omega)).trans c0
    have r1 := (hbr.cell (p := ⟨w.heap.size, 1, none⟩) (by show w.heap.size < _; omega)).trans c1
    have r2 := (hbr.cell (p := ⟨w.heap.size, 2, none⟩) (by show w.heap.size < _; omega)).trans c2
    have r3 := (hbr.cell (p := ⟨w.heap.size, 3, none⟩) (by show w.heap.size < _; omega)).trans c3
    have r4 := (hbr.cell (p := ⟨w.heap.size, 4, none⟩) (by show w.heap.size < _; omega)).trans c4
    have r5 := (hbr.cell (p := ⟨w.heap.size, 5, none⟩) (by show w.heap.size < _; omega)).trans c5
    have hbwr := hB.trans (hbr.mono hB.size)
    by_cases hlt : i < 8 * nw
    · have e1 : (i : Int) < 8 * (nw : Int) := by omega
      have hij : (at_ : Int) + (i : Int) / 8 = (j : Int) := by omega
      have hi8 : i % 8 = bt % 8 + (i - bt) := by omega
      have hu1 : nw ≤ 128 := by omega
      by_cases hby : byteOf x (i % 8) = 0
      · have hby' : (x / 2 ^ (i % 8 * 8) % 256 != 0) = false := by unfold byteOf at hby; simp [hby]
        have HBY := hide hby
        have HI8 := hide hi8
        clear hby hi8
        go_wp2_with (go_at_call 145; with_reducible refine (unhide HWD _).mono ?_; rintro e w1 ⟨rfl, hb1⟩; have hb2 := hbr.trans (hb1.mono hbr.size); have s1 := (hb2.cell (p := ⟨w.heap.size, 1, none⟩) (by show w.heap.size < _; omega)).trans c1; have sx := ((hB.trans (hb2.mono hB.size)).cell (p := ⟨b, off + j, none⟩) hbw).trans hc)
        refine ⟨⟨i + 1, by go_num, by omega, by omega, hb2, hide fun k h1 h2 => ?_⟩, by simp [intOf]; omega⟩
        by_cases hk : k < bt % 8 + (i - bt)
        · exact unhide HZ k h1 hk
        · have e : k = i % 8 := by have := unhide HI8; omega
          rw [e]; exact unhide HBY
      · have hby' : (x / 2 ^ (i % 8 * 8) % 256 != 0) = true := by unfold byteOf at hby; simp [hby]
        have HF := hide (show (x / 2 ^ (bt % 8 * 8) == 0) = false by
          have := (unhide HTZ).2
          simp
          intro hz
          exact hby (this hz (i % 8) (by omega) (by omega)))
        clear hby hi8
        go_wp2_with (go_at_call 145; with_reducible refine (unhide HWD _).mono ?_; rintro e w1 ⟨rfl, hb1⟩; have hb2 := hbr.trans (hb1.mono hbr.size); have s1 := (hb2.cell (p := ⟨w.heap.size, 1, none⟩) (by show w.heap.size < _; omega)).trans c1; have sx := ((hB.trans (hb2.mono hB.size)).cell (p := ⟨b, off + j, none⟩) hbw).trans hc)
        go_ret
        exact ⟨by rw [unhide HF]; rfl, hB.trans (hb2.mono hB.size)⟩
    · have e1 : ¬ (i : Int) < 8 * (nw : Int) := by omega
      have hu1 : nw ≤ 128 := by omega
      have hi88 : i = 8 * nw := by omega
      have HF := hide (show (x / 2 ^ (bt % 8 * 8) == 0) = true by
        have := (unhide HTZ).1 (fun k h1 h2 => unhide HZ k h1 (by omega))
        simp [this])
      clear hi88
      go_wp2_with (go_at_call 145; with_reducible refine (unhide HWD _).mono ?_; rintro e w1 ⟨rfl, hb1⟩; have hb2 := hbr.trans (hb1.mono hbr.size))
      go_ret
      exact ⟨by rw [unhide HF]; rfl, hB.trans (hb2.mono hB.size)⟩

set_option maxHeartbeats 1000000 in
set_option maxRecDepth 100000 in
theorem zt_4 (b off n c at_ cnt bt nw j : Nat) (x : Int) (w : World) (hcnt : cnt ≤ 128) (hat : at_ ≤ 256) (hb : cnt * 4 = bt) (hnw : nw = (bt + 7) / 8) (hr : bt % 8 ≠ 0) (hj : at_ + bt / 8 = j) (hjn : j < n) (hn : n ≤ 256) (hc : w.cell? ⟨b, off + j, none⟩ = some (.int .u64 x)) (hx : 0 ≤ x ∧ x < 18446744073709551616) :
    Calls Fagg.prog 149 #[.slice (some ⟨b, off, none⟩) n c, ptV ⟨2, (at_ : Int), 0, 0, 4, (cnt : Int)⟩] w fun e w' => e = .returned (.bool (x / 2 ^ (bt % 8 * 8) == 0)) ∧ Below w.heap.size w w' := by
  skip
  have HWD := hide (fun W => words_good ⟨2, (at_ : Int), 0, 0, 4, (cnt : Int)⟩ W (.list _ _ _ (by omega) (by omega) (by omega)))
  have hwo : wordsOf ⟨2, (at_ : Int), 0, 0, 4, (cnt : Int)⟩ = (nw : Int) := by simp [wordsOf, listWords]; omega
  rw [hwo] at HWD
  have hbw := World.block_lt_of_cell? w _ hc
  obtain ⟨W, hW⟩ : ∃ W, W = w.alloc (Obj.cells #[Value.int IntKind.u8 2, Value.int IntKind.u16 (at_ : Int), Value.int IntKind.u8 0, Value.int IntKind.u8 0, Value.int IntKind.u8 4, Value.int IntKind.u16 (cnt : Int)] 58) := ⟨_, rfl⟩
  have hB : Below w.heap.size w W := by rw [hW]; exact (Below.refl _ _).alloc (Nat.le_refl _) _
  have hsz : W.heap.size = w.heap.size + 1 := by rw [hW]; simp
  have c0 : W.cell? ⟨w.heap.size, 0, none⟩ = some (.int .u8 2) := by rw [hW]; simp
  have c1 : W.cell? ⟨w.heap.size, 1, none⟩ = some (.int .u16 (at_ : Int)) := by rw [hW]; simp
  have c2 : W.cell? ⟨w.heap.size, 2, none⟩ = some (.int .u8 0) := by rw [hW]; simp
  have c3 : W.cell? ⟨w.heap.size, 3, none⟩ = some (.int .u8 0) := by rw [hW]; simp
  have c4 : W.cell? ⟨w.heap.size, 4, none⟩ = some (.int .u8 4) := by rw [hW]; simp
  have c5 : W.cell? ⟨w.heap.size, 5, none⟩ = some (.int .u16 (cnt : Int)) := by rw [hW]; simp
  have hcb : (cnt : Int) * 4 = (bt : Int) := by omega
  have HTZ := hide (tail_zero x (bt % 8) hx.1 hx.2 (by omega))
  have HW := hide hW
  clear hwo hW hb
  unfold ptV at *
  go_enter Fagg.func149, Fagg.ntmps149
  go_wp2_with fail
  rw [← unhide HW]
  go_loopw [5] (fun s1 wr => ∃ (i : Nat), s1 = .int .i64 (i : Int) ∧ bt ≤ i ∧ i ≤ 8 * nw ∧ Below W.heap.size W wr ∧ Hid (∀ k, bt % 8 ≤ k → k < bt % 8 + (i - bt) → byteOf x k = 0)) (fun s1 _ => 8 * nw - (intOf s1).toNat)
  case atStart => exact ⟨bt, by go_num, by omega, by omega, Below.refl _ _, hide (fun k h1 h2 => by omega)⟩
  case round =>
    obtain ⟨i, rfl, hi1, hi2, hbr, HZ⟩ := hrel
    have r0 := (hbr.cell (p := ⟨w.heap.size, 0, none⟩) (by show w.heap.size < _; omega)).trans c0
    have r1 := (hbr.cell (p := ⟨w.heap.size, 1, none⟩) (by show w.heap.size < _; omega)).trans c1
    have r2 := (hbr.cell (p := ⟨w.heap.size, 2, none⟩) (by show w.heap.size < _; omega)).trans c2
    have r3 := (hbr.cell (p := ⟨w.heap.size, 3, none⟩) (by show w.heap.size < _; omega)).trans c3
    have r4 := (hbr.cell (p := ⟨w.heap.size, 4, none⟩) (by show w.heap.size < _; omega)).trans c4
    have r5 := (hbr.cell (p := ⟨w.heap.size, 5, none⟩) (by show w.heap.size < _; omega)).trans c5
    have hbwr := hB.trans (hbr.mono hB.size)
    by_cases hlt : i < 8 * nw
    · have e1 : (i : Int) < 8 * (nw : Int) := by omega
      have hij : (at_ : Int) + (i : Int) / 8 = (j : Int) := by omega
      have hi8 : i % 8 = bt % 8 + (i - bt) := by omega
      have hu1 : nw ≤ 128 := by omega
      by_cases hby : byteOf x (i % 8) = 0
      · have hby' : (x / 2 ^ (i % 8 * 8) % 256 != 0) = false := by unfold byteOf at hby; simp [hby]
        have HBY := hide hby
        have HI8 := hide hi8
        clear hby hi8
        go_wp2_with (go_at_call 145; with_reducible refine (unhide HWD _).mono ?_; rintro e w1 ⟨rfl, hb1⟩; have hb2 := hbr.trans (hb1.mono hbr.size); have s1 := (hb2.cell (p := ⟨w.heap.size, 1, none⟩) (by show w.heap.size < _; omega)).trans c1; have sx := ((hB.trans (hb2.mono hB.size)).cell (p := ⟨b, off + j, none⟩) hbw).trans hc)
        refine ⟨⟨i + 1, by go_num, by omega, by omega, hb2, hide fun k h1 h2 => ?_⟩, by simp [intOf]; omega⟩
        by_cases hk : k < bt % 8 + (i - bt)
        · exact unhide HZ k h1 hk
        · have e : k = i % 8 := by have := unhide HI8; omega
          rw [e]; exact unhide HBY
      · have hby' : (x / 2 ^ (i % 8 * 8) % 256 != 0) = true := by unfold byteOf at hby; simp [hby]
        have HF := hide (show (x / 2 ^ (bt % 8 * 8) == 0) = false by
          have := (unhide HTZ).2
          simp
          intro hz
          exact hby (this hz (i % 8) (by omega) (by omega)))
        clear hby hi8
        go_wp2_with (go_at_call 145; with_reducible refine (unhide HWD _).mono ?_; rintro e w1 ⟨rfl, hb1⟩; have hb2 := hbr.trans (hb1.mono hbr.size); have s1 := (hb2.cell (p := ⟨w.heap.size, 1, none⟩) (by show w.heap.size < _; omega)).trans c1; have sx := ((hB.trans (hb2.mono hB.size)).cell (p := ⟨b, off + j, none⟩) hbw).trans hc)
        go_ret
        exact ⟨by rw [unhide HF]; rfl, hB.trans (hb2.mono hB.size)⟩
    · have e1 : ¬ (i : Int) < 8 * (nw : Int) := by omega
      have hu1 : nw ≤ 128 := by omega
      have hi88 : i = 8 * nw := by omega
      have HF := hide (show (x / 2 ^ (bt % 8 * 8) == 0) = true by
        have := (unhide HTZ).1 (fun k h1 h2 => unhide HZ k h1 (by omega))
        simp [this])
      clear hi88
      go_wp2_with (go_at_call 145; with_reducible refine (unhide HWD _).mono ?_; rintro e w1 ⟨rfl, hb1⟩; have hb2 := hbr.trans (hb1.mono hbr.size))
      go_ret
      exact ⟨by rw [unhide HF]; rfl, hB.trans (hb2.mono hB.size)⟩

end Go.Proofs.Ygcfag
