/-
  WALKS: law.ownFits (28).
-/
import Derived.Test.YgcfagW15
namespace Go.Proofs.Ygcfag
open Go.RowKit
set_option linter.unusedVariables false
set_option linter.unusedSimpArgs false

theorem total_bd (B : Nat) : ∀ (ms : List (List Int)), (∀ m ∈ ms, m.length ≤ B) → total ms ≤ ms.length * B
  | [], _ => by simp [total_nil]
  | m :: ms, h => by
    have h1 := h m (by simp)
    have h2 := total_bd B ms (fun x hx => h x (by simp [hx]))
    rw [total_cons, List.length_cons, Nat.add_mul, Nat.one_mul]; omega

set_option maxHeartbeats 1000000 in
set_option maxRecDepth 100000 in
theorem ownFits_loop {Q0 : Exit → Act → World → Prop} (b off n c : Nat) (ms : List (List Int)) (w : World) (hn : ms.length = n) (hn9 : n ≤ 9) (htot : total ms ≤ 158329674395136) (hcell : ∀ i, i < ms.length → ∃ ai ci, w.cell? ⟨b, off + i, none⟩ = some (.slice ai (ms.getD i []).length ci) ∧ (ms.getD i []).length ≤ ci ∧ Sl .u64 w ai (ms.getD i []))
    (u0 u1 u2 u4 u5 u9 u10 u11 u12 u13 u14 u15 u16 u17 u18 u19 u20 u21 u22 u23 u24 u25 u26 u27 u28 u29 u30 u31 u32 u33 u34 u35 : Value)
    (hexit : ∀ (v5 v8 v9 v10 v11 v12 v13 v14 v15 v16 : Value), Q0 (.exit 0) ⟨List.toArray (u0 :: u1 :: u2 :: (.int .i64 (total ms : Int)) :: u4 :: v5 :: (.slice (some ⟨b, off, none⟩) n c) :: (.int .i64 (n : Int)) :: v8 :: v9 :: v10 :: v11 :: v12 :: v13 :: v14 :: v15 :: v16 :: u17 :: u18 :: u19 :: u20 :: u21 :: u22 :: u23 :: u24 :: u25 :: u26 :: u27 :: u28 :: u29 :: u30 :: u31 :: u32 :: u33 :: u34 :: u35 :: []), []⟩ w) :
    Code.wp Fagg.prog (bodyAt Fagg.f28 [1, 1, 0, 1, 0]) Q0 ⟨List.toArray (u0 :: u1 :: u2 :: (.int .i64 0) :: u4 :: u5 :: (.slice (some ⟨b, off, none⟩) n c) :: (.int .i64 (n : Int)) :: (.int .i64 0) :: u9 :: u10 :: u11 :: u12 :: u13 :: u14 :: u15 :: u16 :: u17 :: u18 :: u19 :: u20 :: u21 :: u22 :: u23 :: u24 :: u25 :: u26 :: u27 :: u28 :: u29 :: u30 :: u31 :: u32 :: u33 :: u34 :: u35 :: []), []⟩ w := by
  conv => arg 2; whnf
  have HE := hide hexit
  have HC := hide hcell
  clear hexit hcell
  go_loopw [3, 8] (fun s y wr => ∃ k : Nat, k ≤ n ∧ y = .int .i64 (k : Int) ∧ s = .int .i64 (total (ms.take k) : Int) ∧ wr = w) (fun _ y _ => n - (intOf y).toNat)
  case atStart => exact ⟨0, by omega, rfl, rfl, rfl⟩
  case round =>
    obtain ⟨k, hk, rfl, rfl, rfl⟩ := hrel
    have hle := total_le ms k
    by_cases hlt : k < n
    · have e1 : (k : Int) < (n : Int) := by omega
      obtain ⟨ak, ck, hck, _, _⟩ := unhide HC k (by omega)
      have HST := hide (total_step ms k (by omega))
      have hge := total_ge ms k (by omega)
      generalize (ms.getD k []).length = lk at *
      generalize total (ms.take k) = t at *
      go_wp2_with fail
      refine ⟨⟨k + 1, by omega, by go_num, ?_, trivial⟩, by simp [intOf]; omega⟩
      rw [unhide HST]; go_num
    · have e1 : ¬ (k : Int) < (n : Int) := by omega
      obtain rfl : k = n := by omega
      have HT := hide (show total (ms.take k) = total ms by rw [List.take_of_length_le (by omega)])
      rw [unhide HT]
      go_wp2_with fail
      exact unhide HE _ _ _ _ _ _ _ _ _ _

set_option maxHeartbeats 1000000 in
set_option maxRecDepth 100000 in
theorem ownFits_any (a : Option Addr) (n c : Nat) (ms : List (List Int)) (w : World) (hs : SegsAt w a ms) (hn : ms.length = n) (hn9 : n ≤ 9) (hl : ∀ m ∈ ms, m.length ≤ 17592186043904) :
    Calls Fagg.prog 28 #[.slice a n c] w fun e w' => e = .returned (.bool (fitsOf ms)) ∧ w' = w := by
  have htot : total ms ≤ 158329674395136 := by
    have := total_bd _ ms hl
    rw [hn] at this
    have h9 : n * 17592186043904 ≤ 9 * 17592186043904 := Nat.mul_le_mul_right _ hn9
    omega
  by_cases h0 : n = 0
  · subst h0
    have HF := hide (show fitsOf ms = false by unfold fitsOf; simp; omega)
    rw [unhide HF]
    clear hs hl htot hn
    go_enter Fagg.func28, Fagg.ntmps28
    go_wp2_with fail
    go_loopw [8] (fun y wr => y = .int .i64 0 ∧ wr = w) (fun _ _ => 0)
    case atStart => exact ⟨rfl, rfl⟩
    case round =>
      obtain ⟨rfl, rfl⟩ := hrel
      go_wp2_with fail
      go_ret
      exact ⟨rfl, rfl⟩
  · obtain ⟨b, off, rfl, hbw, hcell⟩ := hs.get (by omega)
    obtain ⟨a0, c0, h00, _, _⟩ := hcell 0 (by omega)
    have HC := hide hcell
    have HN := hide hn
    have HF : Hid (fitsOf ms = (((decide ((1 : Int) ≤ (n : Int)) && decide ((n : Int) ≤ 8)) && decide ((1 : Int) ≤ ((ms.getD 0 []).length : Int))) && decide ((total ms : Int) ≤ 256))) := by
      refine hide ?_
      unfold fitsOf
      rw [hn, ← Bool.decide_and, ← Bool.decide_and, ← Bool.decide_and]
      exact decide_eq_decide.2 (by omega)
    clear hs hl hcell hn
    go_enter Fagg.func28, Fagg.ntmps28
    go_wp2_with fail
    refine ownFits_loop b off n c ms w (unhide HN) hn9 htot (unhide HC) _ _ _ _ _ _ _ _ _ _ _ _ _ _ _ _ _ _ _ _ _ _ _ _ _ _ _ _ _ _ _ _ ?_
    intro v5 v8 v9 v10 v11 v12 v13 v14 v15 v16
    have h1 : (n : Int) ≥ 1 := by omega
    rw [Nat.add_zero] at h00
    generalize hl0 : (ms.getD 0 []).length = l0 at *
    generalize total ms = t at *
    clear hl0 HC HN
    by_cases h8 : (n : Int) ≤ 8
    · by_cases hl : (l0 : Int) ≥ 1
      · by_cases ht : (t : Int) ≤ 256
        · have HF2 := hide (show fitsOf ms = true by rw [unhide HF]; simp [h8, ht]; omega)
          clear HF
          go_wp2_with fail
          go_ret
          exact ⟨by rw [unhide HF2]; first | rfl | (simp [ht, hl, h8]), rfl⟩
        · have HF2 := hide (show fitsOf ms = false by rw [unhide HF]; simp [ht])
          clear HF
          go_wp2_with fail
          go_ret
          exact ⟨by rw [unhide HF2]; first | rfl | (simp [ht, hl, h8]), rfl⟩
      · have HF2 := hide (show fitsOf ms = false by rw [unhide HF]; simp; omega)
        clear HF
        go_wp2_with fail
        go_ret
        exact ⟨by rw [unhide HF2]; first | rfl | (simp [hl, h8]), rfl⟩
    · have HF2 := hide (show fitsOf ms = false by rw [unhide HF]; simp; omega)
      clear HF
      go_wp2_with fail
      go_ret
      exact ⟨by rw [unhide HF2]; first | rfl | (simp [h8]), rfl⟩
end Go.Proofs.Ygcfag
