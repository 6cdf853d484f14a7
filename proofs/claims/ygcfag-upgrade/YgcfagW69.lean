/-
  WALKS: smodel.zeroTail answers as wire.Padded.
-/
import Derived.Test.YgcfagW65
import Derived.Test.YgcfagW66
namespace Go.Proofs.Ygcfag
open Go.RowKit
set_option linter.unusedVariables false
set_option linter.unusedSimpArgs false

/-- smodel.zeroTail, of a list of scalars that Resolve gave. -/
theorem zeroTail_any (a : Option Addr) (n c : Nat) (xs : List Int) (at_ cd cnt : Int) (w : World) (hs : Sl .u64 w a xs) (hn : xs.length = n) (hw : Wds xs) (hn2 : n ≤ 256) (hat : 0 ≤ at_ ∧ at_ ≤ 256) (hcd : 2 ≤ cd ∧ cd ≤ 5) (hcnt : 0 ≤ cnt ∧ cnt ≤ 128) (hin : firstOf ⟨2, at_, 0, 0, cd, cnt⟩ + wordsOf ⟨2, at_, 0, 0, cd, cnt⟩ ≤ (n : Int)) :
    Calls Fagg.prog 149 #[.slice a n c, ptV ⟨2, at_, 0, 0, cd, cnt⟩] w fun e w' => e = .returned (.bool (paddedOf xs ⟨2, at_, 0, 0, cd, cnt⟩)) ∧ Below w.heap.size w w' := by
  obtain ⟨A, rfl⟩ : ∃ A : Nat, at_ = (A : Int) := ⟨at_.toNat, by omega⟩
  obtain ⟨C, rfl⟩ : ∃ C : Nat, cnt = (C : Int) := ⟨cnt.toNat, by omega⟩
  obtain rfl | rfl | rfl | rfl : cd = 2 ∨ cd = 3 ∨ cd = 4 ∨ cd = 5 := by omega
  · simp [firstOf, wordsOf, listWords] at hin
    have hb : bytesOf ⟨2, (A : Int), 0, 0, 2, (C : Int)⟩ = ((C : Nat) : Int) := by simp [bytesOf]
    unfold paddedOf
    rw [hb]
    by_cases h8 : C % 8 = 0
    · rw [if_pos (by omega)]
      exact ztw_2 a n c A C C (C / 8) w (by omega) (by omega) rfl (by omega)
    · rw [if_neg (by omega)]
      have hj : A + C / 8 < xs.length := by omega
      obtain ⟨b, off, rfl, hc⟩ := hs.at hj
      have hx := hw (A + C / 8)
      have e1 : ((A : Int) + (C : Int) / 8).toNat = A + C / 8 := by omega
      have e2 : ((C : Int) % 8 * 8).toNat = C % 8 * 8 := by omega
      rw [e1, e2]
      exact zt_2 b off n c A C C ((C + 7) / 8) (A + C / 8) (xs.getD (A + C / 8) 0) w (by omega) (by omega) rfl rfl h8 rfl (by omega) hn2 (hc _ hj) (by omega)
  · simp [firstOf, wordsOf, listWords] at hin
    have hb : bytesOf ⟨2, (A : Int), 0, 0, 3, (C : Int)⟩ = ((C * 2 : Nat) : Int) := by simp [bytesOf]
    unfold paddedOf
    rw [hb]
    by_cases h8 : C * 2 % 8 = 0
    · rw [if_pos (by omega)]
      exact ztw_3 a n c A C (C * 2) (C * 2 / 8) w (by omega) (by omega) rfl (by omega)
    · rw [if_neg (by omega)]
      have hj : A + C * 2 / 8 < xs.length := by omega
      obtain ⟨b, off, rfl, hc⟩ := hs.at hj
      have hx := hw (A + C * 2 / 8)
      have e1 : ((A : Int) + ((C * 2 : Nat) : Int) / 8).toNat = A + C * 2 / 8 := by omega
      have e2 : (((C * 2 : Nat) : Int) % 8 * 8).toNat = C * 2 % 8 * 8 := by omega
      rw [e1, e2]
      exact zt_3 b off n c A C (C * 2) ((C * 2 + 7) / 8) (A + C * 2 / 8) (xs.getD (A + C * 2 / 8) 0) w (by omega) (by omega) rfl rfl h8 rfl (by omega) hn2 (hc _ hj) (by omega)
  · simp [firstOf, wordsOf, listWords] at hin
    have hb : bytesOf ⟨2, (A : Int), 0, 0, 4, (C : Int)⟩ = ((C * 4 : Nat) : Int) := by simp [bytesOf]
    unfold paddedOf
    rw [hb]
    by_cases h8 : C * 4 % 8 = 0
    · rw [if_pos (by omega)]
      exact ztw_4 a n c A C (C * 4) (C * 4 / 8) w (by omega) (by omega) rfl (by omega)
    · rw [if_neg (by omega)]
      have hj : A + C * 4 / 8 < xs.length := by omega
      obtain ⟨b, off, rfl, hc⟩ := hs.at hj
      have hx := hw (A + C * 4 / 8)
      have e1 : ((A : Int) + ((C * 4 : Nat) : Int) / 8).toNat = A + C * 4 / 8 := by omega
      have e2 : (((C * 4 : Nat) : Int) % 8 * 8).toNat = C * 4 % 8 * 8 := by omega
      rw [e1, e2]
      exact zt_4 b off n c A C (C * 4) ((C * 4 + 7) / 8) (A + C * 4 / 8) (xs.getD (A + C * 4 / 8) 0) w (by omega) (by omega) rfl rfl h8 rfl (by omega) hn2 (hc _ hj) (by omega)
  · have hb : bytesOf ⟨2, (A : Int), 0, 0, 5, (C : Int)⟩ = ((C * 8 : Nat) : Int) := by simp [bytesOf]
    unfold paddedOf
    rw [hb, if_pos (by omega)]
    exact ztw_5 a n c A C (C * 8) C w (by omega) (by omega) rfl (by omega)
end Go.Proofs.Ygcfag
