/-
  WALKS: seg.Fits, law.cutSegs.
-/
import Derived.Test.YgcfagPlain7
import Derived.Test.YgcfagL13
namespace Go.Proofs.Ygcfag
open Go.RowKit
set_option linter.unusedVariables false
set_option linter.unusedSimpArgs false

theorem SegsAt.get {w : World} {a : Option Addr} {ms : List (List Int)} (h : SegsAt w a ms) (h0 : 0 < ms.length) :
    ∃ b off, a = some ⟨b, off, none⟩ ∧ b < w.heap.size ∧ ∀ i, i < ms.length → ∃ ai ci, w.cell? ⟨b, off + i, none⟩ = some (.slice ai (ms.getD i []).length ci) ∧ (ms.getD i []).length ≤ ci ∧ Sl .u64 w ai (ms.getD i []) := by
  rcases h with rfl | ⟨b, off, rfl, h⟩
  · simp at h0
  · obtain ⟨ai, ci, hc, _⟩ := h 0 h0
    exact ⟨b, off, rfl, World.block_lt_of_cell? w _ hc, h⟩

set_option maxHeartbeats 1000000 in
theorem fits_any (a : Option Addr) (n c : Nat) (ms : List (List Int)) (w : World) (hs : SegsAt w a ms) (hn : ms.length = n) :
    Calls Fagg.prog 66 #[.slice a n c] w fun e w' => e = .returned (.bool (fitsOf ms)) ∧ w' = w := by
  by_cases h1 : n < 1
  · have HF := hide (show fitsOf ms = false by unfold fitsOf; simp; omega)
    have e1 : (n : Int) < 1 := by omega
    go_enter Fagg.func66, Fagg.ntmps66
    go_wp2
    go_ret
    exact ⟨by rw [unhide HF]; rfl, rfl⟩
  by_cases h8 : 8 < n
  · have HF := hide (show fitsOf ms = false by unfold fitsOf; simp; omega)
    have e1 : ¬ (n : Int) < 1 := by omega
    have e2 : (n : Int) > 8 := by omega
    go_enter Fagg.func66, Fagg.ntmps66
    go_wp2
    go_ret
    exact ⟨by rw [unhide HF]; rfl, rfl⟩
  have e1 : ¬ (n : Int) < 1 := by omega
  have e2 : ¬ (n : Int) > 8 := by omega
  obtain ⟨b, off, rfl, hb, hc⟩ := hs.get (by omega)
  obtain ⟨a0, c0, hc0, _, _⟩ := hc 0 (by omega)
  rw [Nat.add_zero] at hc0
  by_cases h0 : (ms.getD 0 []).length < 1
  · have HF := hide (show fitsOf ms = false by unfold fitsOf; simp only [decide_eq_false_iff_not]; omega)
    have e3 : ((ms.getD 0 []).length : Int) < 1 := by omega
    generalize (ms.getD 0 []).length = l0 at *
    clear hs hc
    go_enter Fagg.func66, Fagg.ntmps66
    go_wp2
    go_ret
    exact ⟨by rw [unhide HF]; rfl, rfl⟩
  have e3 : ¬ ((ms.getD 0 []).length : Int) < 1 := by omega
  have HF := hide (show fitsOf ms = decide (total ms ≤ 256) by unfold fitsOf; exact decide_eq_decide.2 (by omega))
  have HC := hide hc
  generalize hl0 : (ms.getD 0 []).length = l0 at *
  have HL0 := hide hl0
  clear hs hc hl0
  go_enter Fagg.func66, Fagg.ntmps66
  go_wp2_with fail
  go_loopw [3, 23] (fun s y wr => ∃ k : Nat, k ≤ n ∧ y = .int .i64 (k : Int) ∧ s = .int .i64 (total (ms.take k) : Int) ∧ total (ms.take k) ≤ 256 * k ∧ wr = w) (fun _ y _ => n - (intOf y).toNat)
  case atStart => exact ⟨0, by omega, rfl, rfl, by simp [total], rfl⟩
  case round =>
    obtain ⟨k, hk, rfl, rfl, hle, rfl⟩ := hrel
    by_cases hlt : k < n
    · have hlt' : (k : Int) < (n : Int) := by omega
      obtain ⟨ak, ck, hck, _, _⟩ := unhide HC k (by omega)
      have HST := hide (total_step ms k (by omega))
      have hge := total_ge ms k (by omega)
      by_cases h256 : 256 < (ms.getD k []).length
      · have e4 : ((ms.getD k []).length : Int) > 256 := by omega
        have HF2 := hide (show fitsOf ms = false by rw [unhide HF]; simp; omega)
        generalize (ms.getD k []).length = lk at *
        generalize total (ms.take k) = t at *
        go_wp2_with fail
        go_ret
        exact ⟨by rw [unhide HF2]; rfl, rfl⟩
      · have e4 : ¬ ((ms.getD k []).length : Int) > 256 := by omega
        generalize (ms.getD k []).length = lk at *
        have hle2 : total (ms.take k) ≤ 2048 := by omega
        generalize ht : total (ms.take k) = t at *
        have HT := hide ht
        clear ht
        go_wp2_with fail
        refine ⟨⟨k + 1, by omega, by go_num, ?_, by rw [unhide HST]; omega, trivial⟩, by simp [intOf]; omega⟩
        rw [unhide HST]; go_num
    · have hlt' : ¬ (k : Int) < (n : Int) := by omega
      obtain rfl : k = n := by omega
      have hle2 : total (ms.take k) ≤ 2048 := by omega
      have HT := hide (show total (ms.take k) = total ms by rw [List.take_of_length_le (by omega)])
      generalize total (ms.take k) = t at *
      have HF2 := hide (show (decide ((t : Int) ≤ 256)) = fitsOf ms by rw [unhide HF, ← unhide HT]; exact decide_eq_decide.2 (by omega))
      go_wp2_with fail
      go_ret
      exact ⟨by rw [← unhide HF2]; rfl, rfl⟩

theorem cut_any (a : Option Addr) (n c : Nat) (w : World) (hnc : n ≤ c) (hm : c ≤ 9223372036854775807) :
    Calls Fagg.prog 26 #[.slice a n c] w fun e w' => e = .returned (.slice a (min n 9) c) ∧ w' = w := by
  by_cases h8 : n ≤ 9
  · have e1 : (n : Int) ≤ 9 := by omega
    have e2 : min (n : Int) 9 = (n : Int) := by omega
    have e3 : min n 9 = n := by omega
    go_enter Fagg.func26, Fagg.ntmps26
    go_wp2
    go_ret
    exact ⟨by first | rfl | (rw [e3]; rfl), rfl⟩
  · have e1 : ¬ (n : Int) ≤ 9 := by omega
    have e2 : min (n : Int) 9 = 9 := by omega
    have e3 : min n 9 = 9 := by omega
    go_enter Fagg.func26, Fagg.ntmps26
    go_wp2
    go_ret
    exact ⟨by first | rfl | (rw [e3]; rfl), rfl⟩
end Go.Proofs.Ygcfag
