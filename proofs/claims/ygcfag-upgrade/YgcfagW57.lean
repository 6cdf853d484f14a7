/-
  WALKS: bitsx.Claim whole.
-/
import Derived.Test.YgcfagW56
namespace Go.Proofs.Ygcfag
open Go.RowKit
set_option linter.unusedVariables false
set_option linter.unusedSimpArgs false

theorem mask_int (run sh : Nat) : IntKind.u64.wrap (18446744073709551615 / 2 ^ (64 - run) * 2 ^ sh) = (maskN run sh : Int) := by
  unfold maskN
  rw [IntKind.wrap_u64]
  simp

set_option maxHeartbeats 2000000 in
set_option maxRecDepth 100000 in
theorem claim_any (g o at_ n : Nat) (S : Nat → Bool) (w : World) (hset : SetAt w g o S) (hn : at_ + n ≤ 256) :
    Calls Fagg.prog 146 #[.pointer (some ⟨g, o, none⟩), .int .u16 (at_ : Int), .int .u16 (n : Int)] w fun e w' => e = .returned (.bool (freeB S at_ (at_ + n))) ∧ SetAt w' g o (with_ S at_ (at_ + n)) ∧ Wrote4 g o w w' := by
  by_cases h0 : n = 0
  · subst h0
    rw [Nat.add_zero, freeB_same, with_self]
    have HS := hide hset
    clear hset
    go_enter Fagg.func146, Fagg.ntmps146
    go_wp2_with fail
    go_ret
    exact ⟨rfl, unhide HS, Wrote4.refl _ _ _⟩
  have h0' : ((n : Int) == 0) = false := by simp; omega
  have h256 : (at_ : Int) + (n : Int) ≤ 256 := by omega
  have HS := hide hset
  clear hset
  go_enter Fagg.func146, Fagg.ntmps146
  go_wp2_with fail
  go_loopw [1, 2, 7] (fun s1 s2 s7 wr => ∃ (a' n' : Nat), s1 = .int .u16 (a' : Int) ∧ s2 = .int .u16 (n' : Int) ∧ a' + n' = at_ + n ∧ at_ ≤ a' ∧ s7 = .bool (freeB S at_ a') ∧ SetAt wr g o (with_ S at_ a') ∧ Hid (Wrote4 g o w wr)) (fun _ s2 _ _ => (intOf s2).toNat)
  case atStart => exact ⟨at_, n, rfl, rfl, rfl, by omega, by rw [freeB_same], by rw [with_self]; exact unhide HS, hide (Wrote4.refl _ _ _)⟩
  case round =>
    obtain ⟨a', n', rfl, rfl, hsum, hge, rfl, hset, HWR⟩ := hrel
    by_cases hn0 : n' = 0
    · subst hn0
      have e1 : ¬ ((0 : Nat) : Int) > 0 := by omega
      obtain rfl : a' = at_ + n := by omega
      have HSET := hide hset
      clear hset
      go_wp2_with fail
      go_ret
      exact ⟨rfl, unhide HSET, unhide HWR⟩
    · have e1 : (n' : Int) > 0 := by omega
      obtain ⟨q, sh, hqs, hsh64⟩ : ∃ q sh : Nat, a' = 64 * q + sh ∧ sh < 64 := ⟨a' / 64, a' % 64, by omega, by omega⟩
      have hq : (a' : Int) / 64 = (q : Int) := by omega
      have hs1 : (a' : Int) % 64 = (sh : Int) := by omega
      have hs2 : a' % 64 = sh := by omega
      have hq4 : q < 4 := by omega
      obtain ⟨v, hc, hf, hv⟩ := hset q hq4
      have HSET := hide hset
      have HV := hide hv
      have hvl := hv.1
      clear hset hv
      by_cases hlt : (n' : Int) < 64 - (sh : Int)
      · have hlt2 := hlt
        have hrs : n' + sh ≤ 64 := by omega
        have hM := mask_int n' sh
        have hml := maskN_lt n' sh
        have hor : bits .or .u64 (v : Int) (maskN n' sh : Int) = ((v ||| maskN n' sh : Nat) : Int) := u64_or_nat v (maskN n' sh) hvl hml
        have han : bits .and .u64 (v : Int) (maskN n' sh : Int) = ((v &&& maskN n' sh : Nat) : Int) := u64_and_nat v (maskN n' sh) hvl hml
        have haf := and_free (unhide HV) hrs
        have hand : (((v &&& maskN n' sh : Nat) : Int) == 0) = freeB (with_ S at_ a') a' (a' + n') := by
          rw [show 64 * q + sh = a' by omega] at haf
          cases hfb : freeB (with_ S at_ a') a' (a' + n') with
          | true => have := haf.2 hfb; simp [this]
          | false =>
            have : ¬ (v &&& maskN n' sh = 0) := fun hz => by have := haf.1 hz; rw [hfb] at this; cases this
            simp; omega
        have HAND := hide hand
        have HOR := hide hor

        clear haf hand hor hqs
        cases hfr : freeB S at_ a' with
        | true =>
          go_wp2_with fail
          refine claim_store g o q a' (v : Int) (maskN n' sh : Int) wr (by omega) hq (by omega) hc hf _ _ _ _ _ _ _ _ _ _ _ _ _ _ _ _ _ _ _ _ _ _ _ _ _ _ _ _ _ _ _ _ _ _ _ _ _ _ _ _ _ _ _ _ _ _ _ _ _ _ _ _ _ _ _ _ _ _ _ _ _ _ (hide ?_)
          intro v48 v49 v50 v51 v52 v53 v54 v55 v56 v57
          rw [unhide HOR]
          have HW2 := hide (wrote_step (unhide HWR) q hq4 (.int .u64 ((v ||| maskN n' sh : Nat) : Int)))
          have HS2 := hide (set_step (unhide HSET) q hq4 (unhide HV) hrs hc)
          clear hc hf
          go_wp2_with fail
          refine ⟨⟨a' + n', n' - n', by go_num, by go_num, by omega, by omega, ?_, ?_, HW2⟩, by simp [intOf]; omega⟩
          · show _ = _; rw [show freeB S at_ (a' + n') = _ from (free_with S at_ a' (a' + n') (by omega) (by omega)).symm, hfr, Bool.true_and]; exact congrArg Value.bool (by rw [unhide HAND])
          · have e : 64 * q + sh = a' := by omega
            have h := unhide HS2
            rw [e, with_with S at_ a' (a' + n') (by omega) (by omega)] at h
            exact h
        | false =>
          go_wp2_with fail
          refine claim_store g o q a' (v : Int) (maskN n' sh : Int) wr (by omega) hq (by omega) hc hf _ _ _ _ _ _ _ _ _ _ _ _ _ _ _ _ _ _ _ _ _ _ _ _ _ _ _ _ _ _ _ _ _ _ _ _ _ _ _ _ _ _ _ _ _ _ _ _ _ _ _ _ _ _ _ _ _ _ _ _ _ _ (hide ?_)
          intro v48 v49 v50 v51 v52 v53 v54 v55 v56 v57
          rw [unhide HOR]
          have HW2 := hide (wrote_step (unhide HWR) q hq4 (.int .u64 ((v ||| maskN n' sh : Nat) : Int)))
          have HS2 := hide (set_step (unhide HSET) q hq4 (unhide HV) hrs hc)
          clear hc hf
          go_wp2_with fail
          refine ⟨⟨a' + n', n' - n', by go_num, by go_num, by omega, by omega, ?_, ?_, HW2⟩, by simp [intOf]; omega⟩
          · show _ = _; rw [show freeB S at_ (a' + n') = _ from (free_with S at_ a' (a' + n') (by omega) (by omega)).symm, hfr, Bool.false_and]
          · have e : 64 * q + sh = a' := by omega
            have h := unhide HS2
            rw [e, with_with S at_ a' (a' + n') (by omega) (by omega)] at h
            exact h
      · obtain ⟨run, hrun⟩ : ∃ run : Nat, 64 - (sh : Int) = (run : Int) := ⟨64 - sh, by omega⟩
        rw [hrun] at hlt
        have hrs : run + sh ≤ 64 := by omega
        have hM := mask_int run sh
        have hml := maskN_lt run sh
        have hor : bits .or .u64 (v : Int) (maskN run sh : Int) = ((v ||| maskN run sh : Nat) : Int) := u64_or_nat v (maskN run sh) hvl hml
        have han : bits .and .u64 (v : Int) (maskN run sh : Int) = ((v &&& maskN run sh : Nat) : Int) := u64_and_nat v (maskN run sh) hvl hml
        have haf := and_free (unhide HV) hrs
        have hand : (((v &&& maskN run sh : Nat) : Int) == 0) = freeB (with_ S at_ a') a' (a' + run) := by
          rw [show 64 * q + sh = a' by omega] at haf
          cases hfb : freeB (with_ S at_ a') a' (a' + run) with
          | true => have := haf.2 hfb; simp [this]
          | false =>
            have : ¬ (v &&& maskN run sh = 0) := fun hz => by have := haf.1 hz; rw [hfb] at this; cases this
            simp; omega
        have HAND := hide hand
        have HOR := hide hor

        clear haf hand hor hqs
        cases hfr : freeB S at_ a' with
        | true =>
          go_wp2_with fail
          refine claim_store g o q a' (v : Int) (maskN run sh : Int) wr (by omega) hq (by omega) hc hf _ _ _ _ _ _ _ _ _ _ _ _ _ _ _ _ _ _ _ _ _ _ _ _ _ _ _ _ _ _ _ _ _ _ _ _ _ _ _ _ _ _ _ _ _ _ _ _ _ _ _ _ _ _ _ _ _ _ _ _ _ _ (hide ?_)
          intro v48 v49 v50 v51 v52 v53 v54 v55 v56 v57
          rw [unhide HOR]
          have HW2 := hide (wrote_step (unhide HWR) q hq4 (.int .u64 ((v ||| maskN run sh : Nat) : Int)))
          have HS2 := hide (set_step (unhide HSET) q hq4 (unhide HV) hrs hc)
          clear hc hf
          go_wp2_with fail
          refine ⟨⟨a' + run, n' - run, by go_num, by go_num, by omega, by omega, ?_, ?_, HW2⟩, by simp [intOf]; omega⟩
          · show _ = _; rw [show freeB S at_ (a' + run) = _ from (free_with S at_ a' (a' + run) (by omega) (by omega)).symm, hfr, Bool.true_and]; exact congrArg Value.bool (by rw [unhide HAND])
          · have e : 64 * q + sh = a' := by omega
            have h := unhide HS2
            rw [e, with_with S at_ a' (a' + run) (by omega) (by omega)] at h
            exact h
        | false =>
          go_wp2_with fail
          refine claim_store g o q a' (v : Int) (maskN run sh : Int) wr (by omega) hq (by omega) hc hf _ _ _ _ _ _ _ _ _ _ _ _ _ _ _ _ _ _ _ _ _ _ _ _ _ _ _ _ _ _ _ _ _ _ _ _ _ _ _ _ _ _ _ _ _ _ _ _ _ _ _ _ _ _ _ _ _ _ _ _ _ _ (hide ?_)
          intro v48 v49 v50 v51 v52 v53 v54 v55 v56 v57
          rw [unhide HOR]
          have HW2 := hide (wrote_step (unhide HWR) q hq4 (.int .u64 ((v ||| maskN run sh : Nat) : Int)))
          have HS2 := hide (set_step (unhide HSET) q hq4 (unhide HV) hrs hc)
          clear hc hf
          go_wp2_with fail
          refine ⟨⟨a' + run, n' - run, by go_num, by go_num, by omega, by omega, ?_, ?_, HW2⟩, by simp [intOf]; omega⟩
          · show _ = _; rw [show freeB S at_ (a' + run) = _ from (free_with S at_ a' (a' + run) (by omega) (by omega)).symm, hfr, Bool.false_and]
          · have e : 64 * q + sh = a' := by omega
            have h := unhide HS2
            rw [e, with_with S at_ a' (a' + run) (by omega) (by omega)] at h
            exact h
end Go.Proofs.Ygcfag
