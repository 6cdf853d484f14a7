/-
  WALKS: frame.ReadHeader.
-/
import Derived.Test.YgcfagW1
import Derived.Deep.RegionHeld
namespace Go.Proofs.Ygcfag
open Go.RowKit
set_option linter.unusedVariables false
set_option linter.unusedSimpArgs false

theorem cons_of {xs : List Int} {n : Nat} (h : n + 1 ≤ xs.length) : ∃ x ys, xs = x :: ys ∧ n ≤ ys.length := by
  cases xs with
  | nil => simp at h
  | cons x ys => exact ⟨x, ys, rfl, by simpa using h⟩

set_option maxHeartbeats 1000000 in
set_option maxRecDepth 100000 in
theorem readHeader_yes (b off n c : Nat) (x0 x1 x2 x3 x4 x5 x6 x7 x8 x9 x10 x11 x12 x13 x14 x15 : Int) (w : World) (h16 : (16 : Int) ≤ (n : Int)) (hnc : n ≤ c)
  (hx0 : 0 ≤ x0 ∧ x0 < 256) (hx1 : 0 ≤ x1 ∧ x1 < 256) (hx2 : 0 ≤ x2 ∧ x2 < 256) (hx3 : 0 ≤ x3 ∧ x3 < 256) (hx4 : 0 ≤ x4 ∧ x4 < 256) (hx5 : 0 ≤ x5 ∧ x5 < 256) (hx6 : 0 ≤ x6 ∧ x6 < 256) (hx7 : 0 ≤ x7 ∧ x7 < 256)
  (hx8 : 0 ≤ x8 ∧ x8 < 256) (hx9 : 0 ≤ x9 ∧ x9 < 256) (hx10 : 0 ≤ x10 ∧ x10 < 256) (hx11 : 0 ≤ x11 ∧ x11 < 256) (hx12 : 0 ≤ x12 ∧ x12 < 256) (hx13 : 0 ≤ x13 ∧ x13 < 256) (hx14 : 0 ≤ x14 ∧ x14 < 256) (hx15 : 0 ≤ x15 ∧ x15 < 256)
  (c0 : w.cell? ⟨b, off, none⟩ = some (.int .u8 x0)) (c1 : w.cell? ⟨b, off + 1, none⟩ = some (.int .u8 x1)) (c2 : w.cell? ⟨b, off + 2, none⟩ = some (.int .u8 x2)) (c3 : w.cell? ⟨b, off + 3, none⟩ = some (.int .u8 x3))
  (c4 : w.cell? ⟨b, off + 4, none⟩ = some (.int .u8 x4)) (c5 : w.cell? ⟨b, off + 5, none⟩ = some (.int .u8 x5)) (c6 : w.cell? ⟨b, off + 6, none⟩ = some (.int .u8 x6)) (c7 : w.cell? ⟨b, off + 7, none⟩ = some (.int .u8 x7))
  (c8 : w.cell? ⟨b, off + 8, none⟩ = some (.int .u8 x8)) (c9 : w.cell? ⟨b, off + 9, none⟩ = some (.int .u8 x9)) (c10 : w.cell? ⟨b, off + 10, none⟩ = some (.int .u8 x10)) (c11 : w.cell? ⟨b, off + 11, none⟩ = some (.int .u8 x11))
  (c12 : w.cell? ⟨b, off + 12, none⟩ = some (.int .u8 x12)) (c13 : w.cell? ⟨b, off + 13, none⟩ = some (.int .u8 x13)) (c14 : w.cell? ⟨b, off + 14, none⟩ = some (.int .u8 x14)) (c15 : w.cell? ⟨b, off + 15, none⟩ = some (.int .u8 x15)) :
    Calls Fagg.prog 115 #[.slice (some ⟨b, off, none⟩) n c] w fun e w' => e = .returned (.tuple #[.agg #[.int .u32 (le [x0, x1, x2, x3]), .int .u16 (le [x4, x5]), .int .u16 (le [x6, x7]), .int .u32 (le [x8, x9, x10, x11]), .int .u32 (le [x12, x13, x14, x15])], .bool true]) ∧ Below w.heap.size w w' := by
  have g1 : (8 : Int) ≤ (c : Int) := by omega
  have g2 : (16 : Int) ≤ (c : Int) := by omega
  have g3 : ¬ c = 0 := by omega
  have g4 : ¬ c = 8 := by omega
  have hb := World.block_lt_of_cell? w _ c0
  have har := run_arrayAt8
  go_enter Fagg.func115, Fagg.ntmps115
  go_wp2_with fail
  have hlat : ∀ (l : Later (w.alloc (Obj.cells #[Value.int IntKind.u32 0, Value.int IntKind.u16 0, Value.int IntKind.u16 0, Value.int IntKind.u32 0, Value.int IntKind.u32 0] 230))) (o : Nat), l.u.cell? ⟨b, o, none⟩ = w.cell? ⟨b, o, none⟩ := fun l o => by
    rw [l.cell (p := ⟨b, o, none⟩) (by simp at hb ⊢; omega)]; exact World.cell?_alloc_lt _ _ _ hb
  refine wp_region_later (by kernel_rfl) (by kernel_rfl) ?_
  intro hne
  repeat (first | go_big_quiet_step ((first | (go_at_call_of 181 x0; exact Calls.later (word_bel x0 x1 x2 x3 x4 x5 x6 x7 hx0 hx1 hx2 hx3 hx4 hx5 hx6 hx7 _)) | (go_at_call_of 181 x8; exact Calls.later (word_bel x8 x9 x10 x11 x12 x13 x14 x15 hx8 hx9 hx10 hx11 hx12 hx13 hx14 hx15 _)))))
  refine wpQuiet_nil ?_
  rintro _ ⟨l, rfl⟩
  have hcn := fun o => l.cell (p := ⟨w.heap.size, o, none⟩) (by simp)
  have hfn := fun o => l.h.frozen (p := ⟨w.heap.size, o, none⟩) (by simp)
  clear hlat c0 c1 c2 c3 c4 c5 c6 c7 c8 c9 c10 c11 c12 c13 c14 c15
  have HL := l.h
  have e1 : le [x0, x1, x2, x3, x4, x5, x6, x7] % 4294967296 = le [x0, x1, x2, x3] := by simp only [le]; omega
  have e2 : IntKind.u16.wrap (le [x0, x1, x2, x3, x4, x5, x6, x7] / 4294967296) = le [x4, x5] := by rw [IntKind.wrap_u16]; simp only [le]; omega
  have e3 : IntKind.u16.wrap (le [x0, x1, x2, x3, x4, x5, x6, x7] / 281474976710656) = le [x6, x7] := by rw [IntKind.wrap_u16]; simp only [le]; omega
  have e4 : le [x8, x9, x10, x11, x12, x13, x14, x15] % 4294967296 = le [x8, x9, x10, x11] := by simp only [le]; omega
  have e5 : le [x8, x9, x10, x11, x12, x13, x14, x15] / 4294967296 % 4294967296 = le [x12, x13, x14, x15] := by simp only [le]; omega
  go_wp2
  refine bodyPost_ret (v := .tuple #[.agg #[.int .u32 (le [x0, x1, x2, x3]), .int .u16 (le [x4, x5]), .int .u16 (le [x6, x7]), .int .u32 (le [x8, x9, x10, x11]), .int .u32 (le [x12, x13, x14, x15])], .bool true]) ?_ rfl ⟨rfl, ?_⟩
  · simp [results, Fagg.results115, go_sem, hcn]
  · have hB : w.heap.size ≤ l.u.heap.size := by have := HL.size; simp at this; omega
    exact ((((((((Below.refl _ _).alloc (Nat.le_refl _) _).trans (HL.mono (by simp)))).setCell (Nat.le_refl _) _).setCell (Nat.le_refl _) _).setCell (Nat.le_refl _) _).setCell (Nat.le_refl _) _).setCell (Nat.le_refl _) _

set_option maxHeartbeats 400000 in
theorem readHeader_no (a : Option Addr) (n c : Nat) (w : World) (h : (n : Int) < 16) :
    Calls Fagg.prog 115 #[.slice a n c] w fun e w' => e = .returned (.tuple #[.agg #[.int .u32 0, .int .u16 0, .int .u16 0, .int .u32 0, .int .u32 0], .bool false]) ∧ Below w.heap.size w w' := by
  go_enter Fagg.func115, Fagg.ntmps115
  go_wp2
  exact bodyPost_ret (v := .tuple #[.agg #[.int .u32 0, .int .u16 0, .int .u16 0, .int .u32 0, .int .u32 0], .bool false]) (by simp [results, Fagg.results115, go_sem]) rfl ⟨rfl, (Below.refl _ _).alloc (Nat.le_refl _) _⟩

/-- The five numbers of a header. -/
theorem readHeader_any (a : Option Addr) (n c : Nat) (xs : List Int) (w : World) (hs : Sl .u8 w a xs) (hn : xs.length = n) (hnc : n ≤ c) (hx : Bys xs) (h16 : 16 ≤ n) :
    Calls Fagg.prog 115 #[.slice a n c] w fun e w' => e = .returned (.tuple #[.agg #[.int .u32 (le ((xs.drop 0).take 4)), .int .u16 (le ((xs.drop 4).take 2)), .int .u16 (le ((xs.drop 6).take 2)), .int .u32 (le ((xs.drop 8).take 4)), .int .u32 (le ((xs.drop 12).take 4))], .bool true]) ∧ Below w.heap.size w w' := by
  obtain ⟨b, off, rfl, hc⟩ := hs.at (i := 0) (by omega)
  subst hn
  obtain ⟨x0, ys0, rfl, g0⟩ := cons_of (n := 15) h16
  obtain ⟨x1, ys1, rfl, g1⟩ := cons_of (n := 14) g0
  obtain ⟨x2, ys2, rfl, g2⟩ := cons_of (n := 13) g1
  obtain ⟨x3, ys3, rfl, g3⟩ := cons_of (n := 12) g2
  obtain ⟨x4, ys4, rfl, g4⟩ := cons_of (n := 11) g3
  obtain ⟨x5, ys5, rfl, g5⟩ := cons_of (n := 10) g4
  obtain ⟨x6, ys6, rfl, g6⟩ := cons_of (n := 9) g5
  obtain ⟨x7, ys7, rfl, g7⟩ := cons_of (n := 8) g6
  obtain ⟨x8, ys8, rfl, g8⟩ := cons_of (n := 7) g7
  obtain ⟨x9, ys9, rfl, g9⟩ := cons_of (n := 6) g8
  obtain ⟨x10, ys10, rfl, g10⟩ := cons_of (n := 5) g9
  obtain ⟨x11, ys11, rfl, g11⟩ := cons_of (n := 4) g10
  obtain ⟨x12, ys12, rfl, g12⟩ := cons_of (n := 3) g11
  obtain ⟨x13, ys13, rfl, g13⟩ := cons_of (n := 2) g12
  obtain ⟨x14, ys14, rfl, g14⟩ := cons_of (n := 1) g13
  obtain ⟨x15, ys15, rfl, g15⟩ := cons_of (n := 0) g14
  have H := readHeader_yes b off _ c x0 x1 x2 x3 x4 x5 x6 x7 x8 x9 x10 x11 x12 x13 x14 x15 w (by omega) hnc (hx 0) (hx 1) (hx 2) (hx 3) (hx 4) (hx 5) (hx 6) (hx 7) (hx 8) (hx 9) (hx 10) (hx 11) (hx 12) (hx 13) (hx 14) (hx 15)
    (hc 0 (by simp)) (hc 1 (by simp)) (hc 2 (by simp)) (hc 3 (by simp)) (hc 4 (by simp)) (hc 5 (by simp)) (hc 6 (by simp)) (hc 7 (by simp)) (hc 8 (by simp)) (hc 9 (by simp)) (hc 10 (by simp)) (hc 11 (by simp)) (hc 12 (by simp)) (hc 13 (by simp)) (hc 14 (by simp)) (hc 15 (by simp))
  simpa using H
end Go.Proofs.Ygcfag
