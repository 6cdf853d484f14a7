/-
  WALKS: segwire.words.
-/
import Derived.Test.YgcfagPlain3
import Derived.Test.YgcfagW5
namespace Go.Proofs.Ygcfag
open Go.RowKit
set_option linter.unusedVariables false
set_option linter.unusedSimpArgs false

set_option maxHeartbeats 1000000 in
set_option maxRecDepth 100000 in
theorem words_any (a : Option Addr) (m c n : Nat) (packed : Bool) (xs : List Int) (w : World) (hs : Sl .u8 w a xs) (hn : xs.length = m) (hnc : m ≤ c) (hm : c ≤ 9223372036854775807) (hx : Bys xs) (hn256 : n ≤ 256) :
    Calls Fagg.prog 117 #[.slice a m c, .bool packed, .int .i64 (n : Int)] w fun e w' => Below w.heap.size w w' ∧ ((payload xs packed n = none ∧ e = .returned (.tuple #[.slice none 0 0, .bool false])) ∨
      ∃ v out, payload xs packed n = some out ∧ e = .returned (.tuple #[v, .bool true]) ∧ w'.ownsRow w.heap.size 32 1 v out.length (out.map (Value.int .u64)) ∧ out.length ≤ 256) := by
  cases packed
  · by_cases hl : m = 8 * n
    · have hl' : ((m : Int) != 8 * (n : Int)) = false := by simp; omega
      have HP := hide (show payload xs false n = some (plainWords xs n) by simp [payload, hn, hl])
      have HL := hide hl
      have HS := hide hs
      have HX := hide hx
      obtain ⟨i0, hi0, hz0, hz1, hz2⟩ := info_parts info32
      clear hl hs hx
      go_enter Fagg.func117, Fagg.ntmps117
      go_wp2_with (at_make; refine wpList_make_full _ rfl _ _ 44 rfl w.heap.size 32 i0 (.int .u64 0) 1 Fagg.underlying44 hi0 hz0 hz1 _ _ _ _ n rfl rfl rfl rfl ?_ ?_ ?_ ?_)
      all_goals first | omega | (unfold maxLen; omega) | (rw [hz2]; omega) | skip
      intro w1 ho hg
      have hb1 := (Below.refl w.heap.size w).grown hg (Nat.le_refl _) (by simp)
      have ho0 : w1.ownsRow w.heap.size 32 1 (.slice (some ⟨w.heap.size, 0, none⟩) n n) n ((filled (wordAt xs) n 0).map (Value.int .u64)) := by
        rw [filled_zero]
        have e : (madeCells #[Value.int IntKind.u64 0] n).toList = (List.replicate n (0 : Int)).map (Value.int .u64) := (toList_madeCells_one _ _).trans (by simp)
        rw [← e]
        exact ho
      have HO := hide ho0
      clear ho hg ho0
      go_wp2_with fail
      go_loopw [24] (fun y wr => ∃ k : Nat, k ≤ n ∧ y = .int .i64 (k : Int) ∧ wr.ownsRow w.heap.size 32 1 (.slice (some ⟨w.heap.size, 0, none⟩) n n) n ((filled (wordAt xs) n k).map (Value.int .u64)) ∧ Below w.heap.size w wr) (fun y _ => n - (intOf y).toNat)
      case atStart => exact ⟨0, by omega, rfl, unhide HO, hb1⟩
      case round =>
        obtain ⟨k, hk, rfl, hown, hbr⟩ := hrel
        by_cases hlt : k < n
        · have hlt' : (k : Int) < (n : Int) := by omega
          have hL := unhide HL
          obtain ⟨b, off, rfl, hc⟩ := (unhide HS).at (i := 8 * k) (by omega)
          have hcell : ∀ r, r < 8 → wr.cell? ⟨b, off + 8 * k + r, none⟩ = some (.int .u8 (xs.getD (8 * k + r) 0)) := fun r hr => by
            have := hc (8 * k + r) (by omega)
            rw [Nat.add_assoc]
            exact (hbr.cell (p := ⟨b, off + (8 * k + r), none⟩) (World.block_lt_of_cell? w _ this)).trans this
          have HM := hide (show wordAt xs k = _ by unfold wordAt; rw [take8 xs (8 * k) (by omega)])
          have c0 := hcell 0 (by omega)
          have c1 := hcell 1 (by omega)
          have c2 := hcell 2 (by omega)
          have c3 := hcell 3 (by omega)
          have c4 := hcell 4 (by omega)
          have c5 := hcell 5 (by omega)
          have c6 := hcell 6 (by omega)
          have c7 := hcell 7 (by omega)
          have b0 := unhide HX (8 * k)
          have b1 := unhide HX (8 * k + 1)
          have b2 := unhide HX (8 * k + 2)
          have b3 := unhide HX (8 * k + 3)
          have b4 := unhide HX (8 * k + 4)
          have b5 := unhide HX (8 * k + 5)
          have b6 := unhide HX (8 * k + 6)
          have b7 := unhide HX (8 * k + 7)
          simp only [Nat.add_zero] at c0
          generalize xs.getD (8 * k) 0 = x0 at *
          generalize xs.getD (8 * k + 1) 0 = x1 at *
          generalize xs.getD (8 * k + 2) 0 = x2 at *
          generalize xs.getD (8 * k + 3) 0 = x3 at *
          generalize xs.getD (8 * k + 4) 0 = x4 at *
          generalize xs.getD (8 * k + 5) 0 = x5 at *
          generalize xs.getD (8 * k + 6) 0 = x6 at *
          generalize xs.getD (8 * k + 7) 0 = x7 at *
          have hsub : 8 * k + 8 - 8 * k = 8 := by omega
          have hne : ¬ c = 8 * k := by omega
          have h8' : 8 * (k : Int) + 8 ≤ (c : Int) := by omega
          have har := run_arrayAt8
          have hst := hown.stored k (.int .u64 (le [x0, x1, x2, x3, x4, x5, x6, x7]))
          have hcw := hown.cellAt k (by omega)
          have hfw := hown.frozenAt k
          have hcw2 : wr.cell? ⟨w.heap.size, k, none⟩ = some (.int .u64 ((filled (wordAt xs) n k).getD k 0)) := by rw [hcw]; simp [List.getD, filled_len _ _ _ hk, hlt]
          have hkw : w.heap.size < wr.heap.size := World.block_lt_of_cell? wr _ hcw2
          have HST := hide hst
          have HOW := hide hown
          clear hst hcw hown hcell hc hL
          go_wp2_with (go_at_call 181; refine (word_any x0 x1 x2 x3 x4 x5 x6 x7 b0 b1 b2 b3 b4 b5 b6 b7 _).mono ?_; rintro e w' ⟨rfl, rfl⟩)
          refine ⟨⟨k + 1, by omega, by go_num, ?_, ?_⟩, ?_⟩
          · refine World.ownsRow.alloc ?_ _
            have h1 := (unhide HST).1
            rw [← unhide HM] at h1 ⊢
            rw [← filled_set (wordAt xs) n k hlt, List.map_set]
            exact h1
          · exact (hbr.setCell (Nat.le_refl _) _).alloc (by simp [World.setCell]; omega) _
          · simp [intOf]; omega
        · have hlt' : ¬ (k : Int) < (n : Int) := by omega
          obtain rfl : k = n := by omega
          have HOW := hide hown
          clear hown
          go_wp2
          go_ret2
          refine ⟨hbr, .inr ⟨_, _, unhide HP, rfl, ?_, ?_⟩⟩
          · have := unhide HOW
            rw [filled_all] at this
            simpa [plainWords] using this
          · simp [plainWords]; omega
    · have hl' : ((m : Int) != 8 * (n : Int)) = true := by simp; omega
      have HP := hide (show payload xs false n = none by simp [payload, hn, hl])
      clear hl
      go_enter Fagg.func117, Fagg.ntmps117
      go_wp2
      go_ret2
      exact ⟨Below.refl _ _, .inl ⟨unhide HP, rfl⟩⟩
  · have HP := hide (show payload xs true n = unpack xs by simp [payload])
    have HU := hide (unpack_any a m c xs w hs hn hnc hm hx)
    go_enter Fagg.func117, Fagg.ntmps117
    go_wp2_with (go_at_call 120; refine (unhide HU).mono ?_)
    rintro e w' ⟨hb, h⟩
    rcases h with ⟨h1, rfl⟩ | ⟨v, out, h1, rfl, ho, hl⟩
    · have H1 := hide h1
      clear h1
      go_wp2
      go_ret2
      exact ⟨hb, .inl ⟨(unhide HP).trans (unhide H1), rfl⟩⟩
    · have H1 := hide h1
      have HO := hide ho
      clear h1 ho
      go_wp2
      go_ret2
      exact ⟨hb, .inr ⟨v, out, (unhide HP).trans (unhide H1), rfl, unhide HO, hl⟩⟩
end Go.Proofs.Ygcfag
