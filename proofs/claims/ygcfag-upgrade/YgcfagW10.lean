/-
  WALKS: law.ownSegCode.
-/
import Derived.Test.YgcfagW10g
import Derived.Deep.CutBlock
namespace Go.Proofs.Ygcfag
open Go.RowKit
set_option linter.unusedVariables false
set_option linter.unusedSimpArgs false

set_option maxHeartbeats 1000000 in
set_option maxRecDepth 100000 in
theorem own_any (a : Option Addr) (n c : Nat) (xs : List Int) (w : World) (hs : Sl .u8 w a xs) (hn : xs.length = n) (hn4 : n ≤ 5000) (hnc : n ≤ c) (hm : c ≤ 9223372036854775807) (hx : Bys xs) :
    Calls Fagg.prog 54 #[.slice a n c] w fun e w' => Below w.heap.size w w' ∧ (((openOf xs).2 = [] ∧ e = .returned (.tuple #[.slice none 0 0, .int .u8 ((openOf xs).1 : Int)])) ∨
       ∃ x k cc ms, openOf xs = (0, ms) ∧ ms.length = k ∧ e = .returned (.tuple #[.slice (some x) k cc, .int .u8 0]) ∧ SegsAt w' (some x) ms) := by
  by_cases h32 : n < 32
  · have h32' : (n : Int) < 32 := by omega
    have HO := hide (show openOf xs = (1, []) by unfold openOf; rw [if_pos (by omega)])
    go_enter Fagg.func54, Fagg.ntmps54
    go_wp2
    go_ret2
    exact ⟨Below.refl _ _, .inl ⟨by rw [unhide HO], by rw [unhide HO]; rfl⟩⟩
  · have h32' : ¬ (n : Int) < 32 := by omega
    obtain ⟨b, off, rfl, hc⟩ := hs.at (i := 0) (by omega)
    have HN0 := hide (show Calls Fagg.prog 118 #[.slice (some ⟨b, off, none⟩) n c, .int .i64 0, .int .i64 4] w fun e w' => e = .returned (.int .u64 (num xs 0 4)) ∧ w' = w from number_any _ n c 0 4 xs w hs hn (by omega) hx (by omega) (by omega))
    have HN4 := hide (show Calls Fagg.prog 118 #[.slice (some ⟨b, off, none⟩) n c, .int .i64 4, .int .i64 2] w fun e w' => e = .returned (.int .u64 (num xs 4 2)) ∧ w' = w from number_any _ n c 4 2 xs w hs hn (by omega) hx (by omega) (by omega))
    have HN6 := hide (show Calls Fagg.prog 118 #[.slice (some ⟨b, off, none⟩) n c, .int .i64 6, .int .i64 2] w fun e w' => e = .returned (.int .u64 (num xs 6 2)) ∧ w' = w from number_any _ n c 6 2 xs w hs hn (by omega) hx (by omega) (by omega))
    have HN8 := hide (show Calls Fagg.prog 118 #[.slice (some ⟨b, off, none⟩) n c, .int .i64 8, .int .i64 4] w fun e w' => e = .returned (.int .u64 (num xs 8 4)) ∧ w' = w from number_any _ n c 8 4 xs w hs hn (by omega) hx (by omega) (by omega))
    have HOP := openOf_ge xs (by omega)
    have bfl := num_bd xs 6 2 hx
    have bwd := num_bd xs 8 4 hx
    have bmg := num_bd xs 0 4 hx
    have bvr := num_bd xs 4 2 hx
    generalize num xs 0 4 = mg at *
    generalize num xs 4 2 = vr at *
    generalize num xs 6 2 = fl at *
    generalize num xs 8 4 = wd at *
    generalize hsm : num xs 12 4 = sm at *
    generalize hsu : sumOn (sumOn 2166136261 (xs.take 12)) (xs.drop 16) = su at *
    have HSM := hide hsm
    have HSU := hide hsu
    replace HOP := hide HOP
    have HS := hide hs
    have HX := hide hx
    simp at bfl bwd bmg bvr
    obtain ⟨T, rfl⟩ := Int.eq_ofNat_of_zero_le bwd.1
    have hwT : IntKind.i64.wrap (T : Int) = (T : Int) := i64_wrap _ (by omega) (by omega)
    clear hc hs hx hsm hsu
    go_enter Fagg.func54, Fagg.ntmps54
    go_upto_block 0 with (first | (go_at_call_of 118 (Value.int IntKind.i64 6); refine (unhide HN6).mono ?_; rintro e w' ⟨rfl, hw⟩; rw [hw]; clear hw) | (go_at_call_of 118 (Value.int IntKind.i64 8); refine (unhide HN8).mono ?_; rintro e w' ⟨rfl, hw⟩; rw [hw]; clear hw))
    rename_i hK
    have HK := hide hK
    clear hK
    by_cases h1 : mg = 827742039
    rotate_left
    · have e1 : (mg != 827742039) = true := by simp [h1]
      have HO := hide (show openOf xs = (2, []) by rw [unhide HOP]; simp [h1])
      go_wp2_with (go_at_call_of 118 (Value.int IntKind.i64 0); refine (unhide HN0).mono ?_; rintro e w' ⟨rfl, hw⟩; rw [hw]; clear hw)
      go_ret2
      exact ⟨Below.refl _ _, .inl ⟨by rw [unhide HO], by rw [unhide HO]; rfl⟩⟩
    have e1 : (mg != 827742039) = false := by simp [h1]
    by_cases h2 : vr = 2
    rotate_left
    · have e2 : (vr != 2) = true := by simp [h2]
      have HO := hide (show openOf xs = (3, []) by rw [unhide HOP]; simp [h1, h2])
      clear h1
      go_wp2_with (first | (go_at_call_of 118 (Value.int IntKind.i64 0); refine (unhide HN0).mono ?_; rintro e w' ⟨rfl, hw⟩; rw [hw]; clear hw) | (go_at_call 118; refine (unhide HN4).mono ?_; rintro e w' ⟨rfl, hw⟩; rw [hw]; clear hw))
      go_ret2
      exact ⟨Below.refl _ _, .inl ⟨by rw [unhide HO], by rw [unhide HO]; rfl⟩⟩
    have e2 : (vr != 2) = false := by simp [h2]
    by_cases h3 : 1 < fl
    · have HO := hide (show openOf xs = (4, []) by rw [unhide HOP]; simp [h1, h2, h3])
      clear h1 h2
      go_wp2_with (first | (go_at_call_of 118 (Value.int IntKind.i64 0); refine (unhide HN0).mono ?_; rintro e w' ⟨rfl, hw⟩; rw [hw]; clear hw) | (go_at_call 118; refine (unhide HN4).mono ?_; rintro e w' ⟨rfl, hw⟩; rw [hw]; clear hw))
      go_ret2
      exact ⟨Below.refl _ _, .inl ⟨by rw [unhide HO], by rw [unhide HO]; rfl⟩⟩
    by_cases h4 : 256 < (T : Int)
    · have HO := hide (show openOf xs = (5, []) by rw [unhide HOP]; simp [h1, h2, h3, h4])
      clear h1 h2
      go_wp2_with (first | (go_at_call_of 118 (Value.int IntKind.i64 0); refine (unhide HN0).mono ?_; rintro e w' ⟨rfl, hw⟩; rw [hw]; clear hw) | (go_at_call 118; refine (unhide HN4).mono ?_; rintro e w' ⟨rfl, hw⟩; rw [hw]; clear hw))
      go_ret2
      exact ⟨Below.refl _ _, .inl ⟨by rw [unhide HO], by rw [unhide HO]; rfl⟩⟩
    have HO6 := hide (fun (h5 : su ≠ sm) => show openOf xs = (6, []) by rw [unhide HOP]; simp [h1, h2, h3, h4, h5])
    have HOR := hide (fun (h5 : su = sm) => show openOf xs = openRest xs fl (T : Int) by rw [unhide HOP]; simp [h1, h2, h3, h4, h5])
    clear h1 h2
    go_wp2_with (first | (go_at_call_of 118 (Value.int IntKind.i64 0); refine (unhide HN0).mono ?_; rintro e w' ⟨rfl, hw⟩; rw [hw]; clear hw) | (go_at_call 118; refine (unhide HN4).mono ?_; rintro e w' ⟨rfl, hw⟩; rw [hw]; clear hw))
    refine unhide HK _ _ ?_
    refine own_t5 _ b off n c T fl su sm xs w (by omega) (by omega) (by omega) hn (by omega) hn4 hnc hm HS HX HSU HSM ?_ ?_ ?_ _ _ _ _ _ _ _ _ _ _ _ _ _ _ _ _ _ _ _ _ _ _ _ _ _ _ _ _ _ _ _ _ _ _ _ _ _ _ _ _ _ _ _ _ _ _ _ _ _ _ _ _ _ _ _ _ _ _ _ _ _ _ _ _ _ _ _ _ _ _ _ _ _ _ _ _ _ _ _ _ _ _ _ _ _ _ _ _ _ _ _ _ _ _ _ _ _ _ _ _ _ _ _ _ _ _ _ _ _ _ _ _ _ _ _ _ _ _ _ _ _ _ _ _ _ _ _ _ _ _ _ _ _ _ _ _ _ _ _
    · intro h w' hb
      exact ⟨hb, .inl ⟨by rw [unhide HO6 h], by rw [unhide HO6 h]; rfl⟩⟩
    · intro h code hr w' hb
      exact ⟨hb, .inl ⟨by rw [unhide HOR h, hr], by rw [unhide HOR h, hr]⟩⟩
    · intro h ms x k cc w' h1 h2 h3 hb
      exact ⟨hb, .inr ⟨x, k, cc, ms, by rw [unhide HOR h, h1], h2, rfl, h3⟩⟩
end Go.Proofs.Ygcfag
