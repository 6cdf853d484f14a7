/-
  WALKS: wire.Padded of a pointer that Resolve gave.
-/
import Derived.Test.YgcfagW54
import Derived.Test.YgcfagW11
namespace Go.Proofs.Ygcfag
open Go.RowKit
set_option linter.unusedVariables false
set_option linter.unusedSimpArgs false

set_option maxHeartbeats 1000000 in
theorem width_6 (w : World) : Calls Fagg.prog 147 #[.int .u8 6] w fun e w' => e = .returned (.int .u8 0) ∧ w' = w := by
  go_enter Fagg.func147, Fagg.ntmps147
  go_wp2
  go_ret
  exact ⟨rfl, rfl⟩
set_option maxHeartbeats 1000000 in
theorem width_7 (w : World) : Calls Fagg.prog 147 #[.int .u8 7] w fun e w' => e = .returned (.int .u8 0) ∧ w' = w := by
  go_enter Fagg.func147, Fagg.ntmps147
  go_wp2
  go_ret
  exact ⟨rfl, rfl⟩

set_option maxHeartbeats 1000000 in
set_option maxRecDepth 100000 in
theorem pad_in (a : Option Addr) (n c j : Nat) (at_ d p cd cnt wd bt x : Int) (w : World) (hcnt : 0 ≤ cnt ∧ cnt ≤ 128) (hat : 0 ≤ at_ ∧ at_ ≤ 256) (hwd : 0 ≤ wd ∧ wd ≤ 8) (hbt : cnt * wd = bt) (hbb : 0 ≤ bt ∧ bt ≤ 1024) (HWI : Hid (∀ W, Calls Fagg.prog 147 #[.int .u8 cd] W fun e w' => e = .returned (.int .u8 wd) ∧ w' = W)) (h8 : (bt % 8 == 0) = false) (hj : at_ + bt / 8 = (j : Int)) (hjn : j < n) (b off : Nat) (ha : a = some ⟨b, off, none⟩) (hc : w.cell? ⟨b, off + j, none⟩ = some (.int .u64 x)) (hx : 0 ≤ x ∧ x < 18446744073709551616) (hn : n ≤ 256) :
    Calls Fagg.prog 78 #[.slice a n c, .agg #[.int .u8 2, .int .u16 at_, .int .u8 d, .int .u8 p, .int .u8 cd, .int .u16 cnt]] w fun e w' => e = .returned (.bool (x / 2 ^ (bt % 8 * 8).toNat == 0)) ∧ Below w.heap.size w w' := by
  subst ha
  have hbw := World.block_lt_of_cell? w _ hc
  go_enter Fagg.func78, Fagg.ntmps78
  go_wp2_with fail
  go_quiet ((go_at_call 147; exact Calls.quiet_of ((unhide HWI _).mono fun e w' h => ⟨h.1, 0, h.2⟩)))
  go_wp2_with fail
  go_ret
  exact ⟨rfl, ((Below.refl _ _).alloc (Nat.le_refl _) _).trans ((drewN_below _ _).mono (by simp))⟩

set_option maxHeartbeats 1000000 in
set_option maxRecDepth 100000 in
theorem pad_whole (a : Option Addr) (n c : Nat) (at_ d p cd cnt wd bt : Int) (w : World) (hcnt : 0 ≤ cnt ∧ cnt ≤ 128) (hwd : 0 ≤ wd ∧ wd ≤ 8) (hbt : cnt * wd = bt) (hbb : 0 ≤ bt ∧ bt ≤ 1024) (HWI : Hid (∀ W, Calls Fagg.prog 147 #[.int .u8 cd] W fun e w' => e = .returned (.int .u8 wd) ∧ w' = W)) (h8 : (bt % 8 == 0) = true) :
    Calls Fagg.prog 78 #[.slice a n c, .agg #[.int .u8 2, .int .u16 at_, .int .u8 d, .int .u8 p, .int .u8 cd, .int .u16 cnt]] w fun e w' => e = .returned (.bool true) ∧ Below w.heap.size w w' := by
  go_enter Fagg.func78, Fagg.ntmps78
  go_wp2_with fail
  go_quiet ((go_at_call 147; exact Calls.quiet_of ((unhide HWI _).mono fun e w' h => ⟨h.1, 0, h.2⟩)))
  go_wp2_with fail
  go_ret
  exact ⟨rfl, ((Below.refl _ _).alloc (Nat.le_refl _) _).trans ((drewN_below _ _).mono (by simp))⟩

set_option maxHeartbeats 1000000 in
set_option maxRecDepth 100000 in
theorem pad_struct (a : Option Addr) (n c : Nat) (at_ d p cd cnt : Int) (w : World) :
    Calls Fagg.prog 78 #[.slice a n c, .agg #[.int .u8 1, .int .u16 at_, .int .u8 d, .int .u8 p, .int .u8 cd, .int .u16 cnt]] w fun e w' => e = .returned (.bool true) ∧ Below w.heap.size w w' := by
  go_enter Fagg.func78, Fagg.ntmps78
  go_wp2_with fail
  go_ret
  exact ⟨rfl, (Below.refl _ _).alloc (Nat.le_refl _) _⟩

/-- The bytes of a plain list. -/
def bytesOf (q : Pt) : Int := if q.kind = 2 ∧ q.code ≤ 5 then q.count * 2 ^ (q.code - 2).toNat else 0
/-- The bytes behind a list's last element are zero, as far as its last word. -/
def paddedOf (a : List Int) (q : Pt) : Bool := if bytesOf q % 8 = 0 then true else a.getD (q.at_ + bytesOf q / 8).toNat 0 / 2 ^ (bytesOf q % 8 * 8).toNat == 0

theorem padded_list (a : Option Addr) (n c : Nat) (xs : List Int) (at_ cd cnt wd : Int) (w : World) (hs : Sl .u64 w a xs) (hn : xs.length = n) (hw : Wds xs) (hn2 : n ≤ 256) (hat : 0 ≤ at_ ∧ at_ ≤ 256) (hcd : 2 ≤ cd ∧ cd ≤ 5) (hcnt : 0 ≤ cnt ∧ cnt ≤ 128) (hwd : 1 ≤ wd ∧ wd ≤ 8) (hpw : (2 : Int) ^ (cd - 2).toNat = wd) (hin : at_ + (cnt * wd + 7) / 8 ≤ (n : Int)) (HWI : Hid (∀ W, Calls Fagg.prog 147 #[.int .u8 cd] W fun e w' => e = .returned (.int .u8 wd) ∧ w' = W)) :
    Calls Fagg.prog 78 #[.slice a n c, .agg #[.int .u8 2, .int .u16 at_, .int .u8 0, .int .u8 0, .int .u8 cd, .int .u16 cnt]] w fun e w' => e = .returned (.bool (paddedOf xs ⟨2, at_, 0, 0, cd, cnt⟩)) ∧ Below w.heap.size w w' := by
  have hb : bytesOf ⟨2, at_, 0, 0, cd, cnt⟩ = cnt * wd := by unfold bytesOf; rw [if_pos ⟨rfl, hcd.2⟩, hpw]
  have hm : 0 ≤ cnt * wd := Int.mul_nonneg hcnt.1 (by omega)
  have hm2 : cnt * wd ≤ 128 * 8 := Int.mul_le_mul hcnt.2 hwd.2 (by omega) (by omega)
  unfold paddedOf
  rw [hb]
  generalize hbt : cnt * wd = bt at *
  by_cases h8 : bt % 8 = 0
  · rw [if_pos h8]
    exact pad_whole a n c at_ 0 0 cd cnt wd bt w hcnt (by omega) hbt (by omega) HWI (by simp [h8])
  · rw [if_neg h8]
    have hj : (at_ + bt / 8).toNat < xs.length := by omega
    obtain ⟨b, off, rfl, hc⟩ := hs.at hj
    have hx := hw (at_ + bt / 8).toNat
    exact pad_in _ n c (at_ + bt / 8).toNat at_ 0 0 cd cnt wd bt (xs.getD (at_ + bt / 8).toNat 0) w hcnt hat (by omega) hbt (by omega) HWI (by simp [h8]) (by omega) (by omega) b off rfl (hc _ hj) (by omega) hn2

/-- wire.Padded, of a pointer that Resolve gave. -/
theorem padded_any (a : Option Addr) (n c : Nat) (xs : List Int) (q : Pt) (w : World) (hs : Sl .u64 w a xs) (hn : xs.length = n) (hw : Wds xs) (hn2 : n ≤ 256) (h : GoodPt q) (hin : firstOf q + wordsOf q ≤ (n : Int)) :
    Calls Fagg.prog 78 #[.slice a n c, ptV q] w fun e w' => e = .returned (.bool (paddedOf xs q)) ∧ Below w.heap.size w w' := by
  cases h with
  | struct at_ d p h1 h2 h3 =>
    have e : paddedOf xs ⟨1, at_, d, p, 0, 0⟩ = true := by simp [paddedOf, bytesOf]
    rw [e]; exact pad_struct a n c at_ d p 0 0 w
  | list at_ cd cnt h1 h2 h3 =>
    obtain rfl | rfl | rfl | rfl | rfl : cd = 2 ∨ cd = 3 ∨ cd = 4 ∨ cd = 5 ∨ cd = 6 := by omega
    · exact padded_list a n c xs at_ 2 cnt 1 w hs hn hw hn2 h1 (by omega) h3 (by omega) (by decide) (by simp [firstOf, wordsOf, listWords] at hin; omega) (hide width_2)
    · exact padded_list a n c xs at_ 3 cnt 2 w hs hn hw hn2 h1 (by omega) h3 (by omega) (by decide) (by simp [firstOf, wordsOf, listWords] at hin; omega) (hide width_3)
    · exact padded_list a n c xs at_ 4 cnt 4 w hs hn hw hn2 h1 (by omega) h3 (by omega) (by decide) (by simp [firstOf, wordsOf, listWords] at hin; omega) (hide width_4)
    · exact padded_list a n c xs at_ 5 cnt 8 w hs hn hw hn2 h1 (by omega) h3 (by omega) (by decide) (by simp [firstOf, wordsOf, listWords] at hin; omega) (hide width_5)
    · have e : paddedOf xs ⟨2, at_, 0, 0, 6, cnt⟩ = true := by simp [paddedOf, bytesOf]
      rw [e]; exact pad_whole a n c at_ 0 0 6 cnt 0 0 w h3 (by omega) (by omega) (by omega) (hide width_6) rfl
  | structs at_ d p cnt h1 h2 h3 h4 h5 =>
    have e : paddedOf xs ⟨2, at_, d, p, 7, cnt⟩ = true := by simp [paddedOf, bytesOf]
    rw [e]; exact pad_whole a n c at_ d p 7 cnt 0 0 w h4 (by omega) (by omega) (by omega) (hide width_7) rfl
end Go.Proofs.Ygcfag
