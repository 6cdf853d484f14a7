/-
  WALKS: (*pack.Cur).Step.
-/
import Derived.Test.YgcfagW4c
import Derived.Deep.DeepCutAuto
import Derived.Deep.LoopGhost
namespace Go.Proofs.Ygcfag
open Go.RowKit
set_option linter.unusedVariables false
set_option linter.unusedSimpArgs false

set_option maxHeartbeats 1000000 in
set_option maxRecDepth 100000 in
theorem step_any (B b off n c i L t : Nat) (s out : List Int) (v : Value) (w : World) (hcur : CurAt B w (.slice (some ⟨b, off, none⟩) n c) i v out)
    (hbB : b < B) (hn : (n : Int) ≤ 4096) (hi : (i : Int) < (n : Int)) (hnc : n ≤ c) (ho : (out.length : Int) ≤ 256)
    (hs : ∀ j, j < s.length → w.cell? ⟨b, off + i + j, none⟩ = some (.int .u8 (s.getD j 0))) (hsl : s.length = L) (hL : L + i = n) (hx : Bys s) (ht : s.getD 0 0 = (t : Int)) (ht' : t < 256) :
    Calls Fagg.prog 182 #[.pointer (some ⟨B, 0, none⟩)] w fun e w' => (stepOf s out = none ∧ e = .returned (.bool false) ∧ Below w.heap.size w w') ∨
      ∃ k out' v', stepOf s out = some (k, out') ∧ e = .returned (.bool true) ∧ CurAt B w' (.slice (some ⟨b, off, none⟩) n c) (i + k) v' out' ∧ Below B w w' := by
  obtain ⟨ao, co, rfl⟩ : ∃ ao co, v = .slice ao out.length co := by
    rcases hcur.own.2 with ⟨rfl, h'⟩ | ⟨g, cap, cur, rfl, _⟩
    · exact ⟨_, _, by rw [h']⟩
    · exact ⟨_, _, rfl⟩
  have hin : (i : Int) ≤ (n : Int) := by omega
  have hie : ((i : Int) == (n : Int)) = false := by simp; omega
  have hni : ¬ n = i := by omega
  have hsub : n - i = L := by omega
  have hnc' : (n : Int) ≤ (c : Int) := by omega
  have hc0 : w.cell? ⟨b, off + i, none⟩ = some (.int .u8 (t : Int)) := by rw [← ht]; exact hs 0 (by omega)
  have hL0 : 0 < L := by omega
  have HS := hide hs
  have HX := hide hx
  have HT := hide ht
  clear hs hx ht
  have hBw := hcur.lt
  have h0 := hcur.cs
  have h1 := hcur.ci
  have h2 := hcur.cv
  go_enter Fagg.func182, Fagg.ntmps182
  go_wp2_with fail
  go_quiet ((go_at_call 214; exact Calls.quiet_of (check_any B n c i _ _ _ _ _ (by simpa using h0) (by simpa using h1) (by simpa using h2) hn hin ho)))
  go_wp2_with fail
  have hb1 := drewN_below w nq
  generalize w.drewN nq = W1 at hb1 ⊢
  replace hcur := hcur.same hb1
  replace h0 := hcur.cs
  replace h1 := hcur.ci
  replace h2 := hcur.cv
  go_quiet (fail)
  have hb2 := hb1.trans ((drewN_below W1 nq).mono hb1.size)
  replace hcur := hcur.same (drewN_below W1 nq)
  generalize W1.drewN nq = W2 at hb2 hcur ⊢
  clear hb1 h0 h1 h2
  replace hc0 := (hb2.cell (p := ⟨b, off + i, none⟩) (World.block_lt_of_cell? w ⟨b, off + i, none⟩ hc0)).trans hc0
  have hp := popc_le t
  generalize hpk : popc t = pk at hp
  have HPK := hide hpk
  clear hpk
  go_upto_region 7 with (go_at_call 215; refine (ones_any _ _ (by omega) (by omega)).mono ?_; rintro e w' ⟨rfl, hw⟩; rw [hw, Int.toNat_natCast, unhide HPK]; clear hw)
  go_cut [60] (fun k wx => ∃ T : Bool, Hid (T = decide (t = 0 ∨ t = 255)) ∧ k = .bool T ∧ wx = W2)
  case first =>
    by_cases h0 : t = 0
    · have e0 : ((t : Int) == 0) = true := by simp; omega
      have H0 := hide h0
      clear h0
      go_wp2
      go_meet
      case rel => exact ⟨_, by rw [unhide H0]; rfl, rfl, rfl⟩
    · have e0 : ((t : Int) == 0) = false := by simp; omega
      by_cases h1 : t = 255
      · have e1 : ((t : Int) == 255) = true := by simp; omega
        have H0 := hide h1
        clear h1
        go_wp2
        go_meet
        case rel => exact ⟨_, by rw [unhide H0]; rfl, rfl, rfl⟩
      · have e1 : ((t : Int) == 255) = false := by simp; omega
        go_wp2
        go_meet
        case rel => exact ⟨_, (by simp [h0, h1] : false = decide (t = 0 ∨ t = 255)), rfl, rfl⟩
  case rest =>
    obtain ⟨T, HT0, rfl, rfl⟩ := hcut
    go_upto_if 60 with fail
    go_cut [5, 6, 7] (fun k m v wx => ∃ K M V : Nat, Hid (headOf s = some (K, M, V)) ∧ K ≤ 10 ∧ 1 + pk ≤ K ∧ M ≤ 255 ∧ V ≤ 2040 ∧ (V = 0 ∨ V = 8 * M) ∧ k = .int .i64 (K : Int) ∧ m = .int .i64 (M : Int) ∧ v = .int .i64 (V : Int) ∧ wx = wc)
    case first =>
      cases hT0 : T
      rotate_left
      · have hT : t = 0 ∨ t = 255 := by have := unhide HT0; rw [hT0] at this; simpa using this.symm
        subst hT0
        clear HT0
        by_cases hl : L ≤ 1 + pk
        · have hl' : (L : Int) ≤ 1 + (pk : Int) := by omega
          have HF := hide (stepOf_none (out := out) (headOf_none (unhide HT) hT (by rw [unhide HPK]; omega)))
          clear hT
          go_wp2
          go_ret
          exact .inl ⟨unhide HF, rfl, hb2⟩
        · have hl' : 1 + (pk : Int) < (L : Int) := by omega
          have hm := unhide HX (1 + pk)
          have hcm := unhide HS (1 + pk) (by omega)
          obtain ⟨m, hmm⟩ := Int.eq_ofNat_of_zero_le hm.1
          have HF := hide (headOf_some (unhide HT) hT (by rw [unhide HPK]; omega) (by rw [unhide HPK]; exact hmm))
          rw [unhide HPK] at HF
          rw [hmm] at hm hcm
          clear hmm
          replace hcm := (hb2.cell (p := ⟨b, off + i + (1 + pk), none⟩) (World.block_lt_of_cell? w ⟨b, off + i + (1 + pk), none⟩ hcm)).trans hcm
          by_cases h1 : t = 255
          · have e1 : ((t : Int) == 255) = true := by simp; omega
            rw [if_pos h1] at HF
            have H1 := hide h1
            clear h1 hT
            go_wp2
            go_meet
            case rel => exact ⟨1 + pk + 1, m, 8 * m, HF, by omega, by omega, by omega, by omega, .inr rfl, by go_num, by go_num, by go_num, rfl⟩
          · have e1 : ((t : Int) == 255) = false := by simp; omega
            rw [if_neg h1] at HF
            clear h1 hT
            go_wp2
            go_meet
            case rel => exact ⟨1 + pk + 1, m, 0, HF, by omega, by omega, by omega, by omega, .inl rfl, by go_num, by go_num, by go_num, rfl⟩
      · have hT : ¬ (t = 0 ∨ t = 255) := by have := unhide HT0; rw [hT0] at this; simpa using this.symm
        subst hT0
        clear HT0
        have HF := hide (headOf_plain (unhide HT) hT)
        rw [unhide HPK] at HF
        clear hT
        go_wp2
        go_meet
        case rel => exact ⟨1 + pk, 0, 0, HF, by omega, by omega, by omega, by omega, .inl rfl, by go_num, by go_num, by go_num, rfl⟩
    case rest =>
      obtain ⟨K, M, V, HF, hK, hKp, hM, hV, hV8, rfl, rfl, rfl, rfl⟩ := hcut
      refine (‹∀ (a : Act) (w : World), Code.wp Fagg.prog _ _ a w → _› _ _ ?_)
      refine step_mid _ B b (off + i) L K M V i t pk s out _ _ wc (by omega) hK hM hV hV8 hbB ?_ hsl HX hcur ho ht' HPK hp hKp (by omega) HT HF (fun h w' hb => .inl ⟨h, rfl, hb2.trans (hb.mono hb2.size)⟩) (fun k out' w' v' h h1 h2 => .inr ⟨k, out', v', h, rfl, h1, (hb2.mono (by omega)).trans h2⟩) _ _ _ _ _ _ _ _ _ _ _ _ _ _ _ _ _ _ _ _ _ _ _ _ _ _ _ _ _ _ _ _ _ _ _ _ _ _ _ _ _ _ _ _ _ _ _ _ _ _ _ _ _ _ _ _ _ _ _ _ _ _ _ _ _ _ _ _ _ _ _ _ _ _ _ _ _ _ _ _ _ _ _ _ _ _ _ _ _ _ _ _ _ _ _ _ _ _ _ _ _ _ _ _ _ _ _ _ _ _ _ _ _ _ _ _ _ _ _ _ _ _ _ _ _ _ _ _ _ _ _ _ _ _ _ _ _ _ _ _ _ _ _ _ _ _ _ _ _ _ _ _ _ _ _ _ _ _ _ _
      intro j hj
      exact (hb2.cell (p := ⟨b, off + i + j, none⟩) (show b < w.heap.size by omega)).trans (unhide HS j hj)
end Go.Proofs.Ygcfag
