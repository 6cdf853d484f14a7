/-
  WALKS: segwire.Open.
-/
import Derived.Test.YgcfagW8c
namespace Go.Proofs.Ygcfag
open Go.RowKit
set_option linter.unusedVariables false
set_option linter.unusedSimpArgs false

theorem flags_tab : ∀ a b : Fin 256, (bits .andNot .u16 ((256 * a.val + b.val : Nat) : Int) 1 != 0) = decide (1 < 256 * a.val + b.val) := by decide +kernel
theorem flags_eq (fl : Int) (h0 : 0 ≤ fl) (h1 : fl < 65536) : (bits .andNot .u16 fl 1 != 0) = decide (1 < fl) := by
  obtain ⟨n, rfl⟩ := Int.eq_ofNat_of_zero_le h0
  have := flags_tab ⟨n / 256, by omega⟩ ⟨n % 256, by omega⟩
  simp only [show 256 * (n / 256) + n % 256 = n by omega] at this
  rw [this]
  exact decide_eq_decide.2 (by omega)
theorem flags_yes (fl : Int) (h0 : 0 ≤ fl) (h1 : fl < 65536) (h : 1 < fl) : (bits .andNot .u16 fl 1 != 0) = true := by rw [flags_eq fl h0 h1]; simpa using h
theorem flags_no (fl : Int) (h0 : 0 ≤ fl) (h1 : fl ≤ 1) : (bits .andNot .u16 fl 1 != 0) = false := by rw [flags_eq fl h0 (by omega)]; simp; omega

set_option maxHeartbeats 1000000 in
set_option maxRecDepth 100000 in
theorem open_any (a : Option Addr) (n c : Nat) (xs : List Int) (w : World) (hs : Sl .u8 w a xs) (hn : xs.length = n) (hnc : n ≤ c) (hm : c ≤ 9223372036854775807) (hx : Bys xs) :
    Calls Fagg.prog 52 #[.slice a n c] w fun e w' => Below w.heap.size w w' ∧ (((openOf xs).2 = [] ∧ e = .returned (.tuple #[.slice none 0 0, .int .u8 ((openOf xs).1 : Int)])) ∨
       ∃ x k cc ms, openOf xs = (0, ms) ∧ ms.length = k ∧ e = .returned (.tuple #[.slice (some x) k cc, .int .u8 0]) ∧ SegsAt w' (some x) ms) := by
  by_cases h32 : n < 32
  · have h32' : (n : Int) < 32 := by omega
    have HO := hide (show openOf xs = (1, []) by unfold openOf; rw [if_pos (by omega)])
    by_cases h16 : n < 16
    · have h16' : (n : Int) < 16 := by omega
      go_enter Fagg.func52, Fagg.ntmps52
      go_wp2_with (go_at_call 115; refine (readHeader_no a n c _ h16').mono ?_; rintro e w1 ⟨rfl, hb1⟩)
      go_ret2
      exact ⟨hb1.alloc hb1.size _, .inl ⟨by rw [unhide HO], by rw [unhide HO]; rfl⟩⟩
    · go_enter Fagg.func52, Fagg.ntmps52
      go_wp2_with (go_at_call 115; refine (readHeader_any a n c xs _ hs hn hnc hx (by omega)).mono ?_; rintro e w1 ⟨rfl, hb1⟩)
      go_ret2
      exact ⟨hb1.alloc hb1.size _, .inl ⟨by rw [unhide HO], by rw [unhide HO]; rfl⟩⟩
  · have h32' : ¬ (n : Int) < 32 := by omega
    obtain ⟨b, off, rfl, hc⟩ := hs.at (i := 0) (by omega)
    have HRH := hide (show Calls Fagg.prog 115 #[.slice (some ⟨b, off, none⟩) n c] w fun e w' => e = .returned (.tuple #[.agg #[.int .u32 (num xs 0 4), .int .u16 (num xs 4 2), .int .u16 (num xs 6 2), .int .u32 (num xs 8 4), .int .u32 (num xs 12 4)], .bool true]) ∧ Below w.heap.size w w' from readHeader_any _ n c xs w hs hn hnc hx (by omega))
    have HOP := openOf_ge xs (by omega)
    have bfl := num_bd xs 6 2 hx
    have bwd := num_bd xs 8 4 hx
    have bmg := num_bd xs 0 4 hx
    have bvr := num_bd xs 4 2 hx
    have bsm := num_bd xs 12 4 hx
    generalize num xs 0 4 = mg at *
    generalize num xs 4 2 = vr at *
    generalize num xs 6 2 = fl at *
    generalize num xs 8 4 = wd at *
    generalize num xs 12 4 = sm at *
    have HSUM := fun W hW => segsum_any (some ⟨b, off, none⟩) n c xs W hW hn hnc hm hx (by omega)
    generalize sumOn (sumOn 2166136261 (xs.take 12)) (xs.drop 16) = su at *
    replace HOP := hide HOP
    replace HSUM := hide HSUM
    have HS := hide hs
    have HX := hide hx
    simp at bfl bwd bmg bvr bsm
    clear hc hs hx
    go_enter Fagg.func52, Fagg.ntmps52
    go_upto_block 0 with (go_at_call 115; refine (unhide HRH).mono ?_; rintro e w1 ⟨rfl, hb1⟩)
    rename_i hK
    have HK := hide hK
    clear hK
    have hh : HeadAt w1.heap.size (w1.alloc (Obj.cells #[Value.int IntKind.u32 mg, Value.int IntKind.u16 vr, Value.int IntKind.u16 fl, Value.int IntKind.u32 wd, Value.int IntKind.u32 sm] 230)) mg vr fl wd sm := by constructor <;> simp
    have hbW : Below w.heap.size w (w1.alloc (Obj.cells #[Value.int IntKind.u32 mg, Value.int IntKind.u16 vr, Value.int IntKind.u16 fl, Value.int IntKind.u32 wd, Value.int IntKind.u32 sm] 230)) := hb1.alloc hb1.size _
    generalize w1.alloc (Obj.cells #[Value.int IntKind.u32 mg, Value.int IntKind.u16 vr, Value.int IntKind.u16 fl, Value.int IntKind.u32 wd, Value.int IntKind.u32 sm] 230) = W at *
    generalize w1.heap.size = g at *
    obtain ⟨d0, d1, d2, d3, d4⟩ := hh
    by_cases h1 : mg = 827742039
    rotate_left
    · have e1 : (mg != 827742039) = true := by simp [h1]
      have HO := hide (show openOf xs = (2, []) by rw [unhide HOP]; simp [h1])
      go_wp2
      go_ret2
      exact ⟨hbW, .inl ⟨by rw [unhide HO], by rw [unhide HO]; rfl⟩⟩
    have e1 : (mg != 827742039) = false := by simp [h1]
    by_cases h2 : vr = 2
    rotate_left
    · have e2 : (vr != 2) = true := by simp [h2]
      have HO := hide (show openOf xs = (3, []) by rw [unhide HOP]; simp [h1, h2])
      clear h1
      go_wp2
      go_ret2
      exact ⟨hbW, .inl ⟨by rw [unhide HO], by rw [unhide HO]; rfl⟩⟩
    have e2 : (vr != 2) = false := by simp [h2]
    by_cases h3 : 1 < fl
    · have e3 : (bits .andNot .u16 fl 1 != 0) = true := flags_yes fl (by omega) (by omega) h3
      have HO := hide (show openOf xs = (4, []) by rw [unhide HOP]; simp [h1, h2, h3])
      clear h1 h2
      go_wp2
      go_ret2
      exact ⟨hbW, .inl ⟨by rw [unhide HO], by rw [unhide HO]; rfl⟩⟩
    have e3 : (bits .andNot .u16 fl 1 != 0) = false := flags_no fl (by omega) (by omega)
    by_cases h4 : 256 < wd
    · have HO := hide (show openOf xs = (5, []) by rw [unhide HOP]; simp [h1, h2, h3, h4])
      clear h1 h2
      go_wp2
      go_ret2
      exact ⟨hbW, .inl ⟨by rw [unhide HO], by rw [unhide HO]; rfl⟩⟩
    by_cases h5 : su = sm
    rotate_left
    · have e5 : (su != sm) = true := by simp [h5]
      have HO := hide (show openOf xs = (6, []) by rw [unhide HOP]; simp [h1, h2, h3, h4, h5])
      clear h1 h2
      go_wp2_with fail
      go_quiet ((go_at_call 114; exact Calls.quiet_of (unhide HSUM _ (((unhide HS).below hbW).drewN _))))
      go_wp2
      go_ret2
      exact ⟨hbW.trans ((drewN_below W _).mono hbW.size), .inl ⟨by rw [unhide HO], by rw [unhide HO]; rfl⟩⟩
    have e5 : (su != sm) = false := by simp [h5]
    have HO := hide (show openOf xs = openRest xs fl wd by rw [unhide HOP]; simp [h1, h2, h3, h4, h5])
    clear h1 h2 h5
    go_wp2_with fail
    go_quiet ((go_at_call 114; exact Calls.quiet_of (unhide HSUM _ (((unhide HS).below hbW).drewN _))))
    go_wp2_with fail
    refine unhide HK _ _ ?_
    have hbW2 := hbW.trans ((drewN_below W nq).mono hbW.size)
    have hh2 : HeadAt g (W.drewN nq) mg vr fl wd sm := HeadAt.same ⟨d0, d1, d2, d3, d4⟩ (drewN_below W nq)
    refine open_tail _ b off n c g mg vr fl wd sm xs _ hh2 (by omega) (by omega) (by omega) (by omega) hn (by omega) hnc hm ((unhide HS).below hbW2) HX HO ?_ ?_ _ _ _ _ _ _ _ _ _ _ _ _ _ _ _ _ _ _ _ _ _ _ _ _ _ _ _ _ _ _ _ _ _ _ _ _ _ _ _ _ _ _ _ _ _ _ _ _ _ _ _ _ _ _ _ _ _ _ _ _ _ _ _ _ _ _ _ _ _ _ _ _ _ _ _ _ _ _ _ _ _ _ _ _ _ _ _ _ _ _ _ _ _ _ _ _ _ _ _
    · intro code h w' hb
      exact ⟨hbW2.trans (hb.mono hbW2.size), .inl ⟨by rw [h], by rw [h]⟩⟩
    · intro ms x k cc w' h1 h2 h3 hb
      exact ⟨hbW2.trans (hb.mono hbW2.size), .inr ⟨x, k, cc, ms, h1, h2, rfl, h3⟩⟩
end Go.Proofs.Ygcfag
