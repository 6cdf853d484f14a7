/-
  WALKS: schema's shift, Put; law's value.
-/
import Derived.Test.YgcfagW115
namespace Go.Proofs.Ygcfag
open Go.RowKit
set_option linter.unusedVariables false
set_option linter.unusedSimpArgs false

def ShOK (sh : Nat) : Prop := sh = 0 ∨ sh = 3 ∨ sh = 4 ∨ sh = 5 ∨ sh = 6
theorem shift_0 (w : World) : Calls Fagg.prog 135 #[.int .u8 1] w fun e w' => e = .returned (.tuple #[.int .u8 0, .bool true]) ∧ w' = w := by
  go_enter Fagg.func135, Fagg.ntmps135
  go_wp2_with fail
  refine bodyPost_ret (v := .tuple #[.int .u8 0, .bool true]) (by simp [results, Fagg.results135, go_sem]) rfl ⟨rfl, rfl⟩
theorem shift_3 (w : World) : Calls Fagg.prog 135 #[.int .u8 8] w fun e w' => e = .returned (.tuple #[.int .u8 3, .bool true]) ∧ w' = w := by
  go_enter Fagg.func135, Fagg.ntmps135
  go_wp2_with fail
  refine bodyPost_ret (v := .tuple #[.int .u8 3, .bool true]) (by simp [results, Fagg.results135, go_sem]) rfl ⟨rfl, rfl⟩
theorem shift_4 (w : World) : Calls Fagg.prog 135 #[.int .u8 16] w fun e w' => e = .returned (.tuple #[.int .u8 4, .bool true]) ∧ w' = w := by
  go_enter Fagg.func135, Fagg.ntmps135
  go_wp2_with fail
  refine bodyPost_ret (v := .tuple #[.int .u8 4, .bool true]) (by simp [results, Fagg.results135, go_sem]) rfl ⟨rfl, rfl⟩
theorem shift_5 (w : World) : Calls Fagg.prog 135 #[.int .u8 32] w fun e w' => e = .returned (.tuple #[.int .u8 5, .bool true]) ∧ w' = w := by
  go_enter Fagg.func135, Fagg.ntmps135
  go_wp2_with fail
  refine bodyPost_ret (v := .tuple #[.int .u8 5, .bool true]) (by simp [results, Fagg.results135, go_sem]) rfl ⟨rfl, rfl⟩
theorem shift_6 (w : World) : Calls Fagg.prog 135 #[.int .u8 64] w fun e w' => e = .returned (.tuple #[.int .u8 6, .bool true]) ∧ w' = w := by
  go_enter Fagg.func135, Fagg.ntmps135
  go_wp2_with fail
  refine bodyPost_ret (v := .tuple #[.int .u8 6, .bool true]) (by simp [results, Fagg.results135, go_sem]) rfl ⟨rfl, rfl⟩
theorem shift_any (sh : Nat) (h : ShOK sh) (w : World) : Calls Fagg.prog 135 #[.int .u8 ((2 ^ sh : Nat) : Int)] w fun e w' => e = .returned (.tuple #[.int .u8 (sh : Int), .bool true]) ∧ w' = w := by
  rcases h with rfl | rfl | rfl | rfl | rfl
  · exact shift_0 w
  · exact shift_3 w
  · exact shift_4 w
  · exact shift_5 w
  · exact shift_6 w

theorem value_any (a : Option Addr) (n c i : Nat) (xs : List Int) (w : World) (hs : Sl .u64 w a xs) (hn : xs.length = n) :
    Calls Fagg.prog 63 #[.slice a n c, .int .i64 (i : Int)] w fun e w' => e = .returned (.int .u64 (xs.getD i 0)) ∧ w' = w := by
  by_cases hi : i < n
  · obtain ⟨b, o, rfl, hc⟩ : ∃ b o, a = some ⟨b, o, none⟩ ∧ ∀ i, i < xs.length → w.cell? ⟨b, o + i, none⟩ = some (.int .u64 (xs.getD i 0)) := by
      rcases hs with h0 | ⟨b, o, ha, hc⟩
      · subst h0; simp at hn; omega
      · exact ⟨b, o, ha, hc⟩
    have hci := hc i (by omega)
    have d1 : decide ((i : Int) < (n : Int)) = true := decide_eq_true (by omega)
    have b0 : (0 : Int) ≤ (i : Int) := by omega
    have b1 : (i : Int) < (n : Int) := by omega
    generalize xs.getD i 0 = x at *
    clear hc hs hn
    go_enter Fagg.func63, Fagg.ntmps63
    go_wp2_with fail
    go_ret
    exact ⟨rfl, rfl⟩
  · have d1 : decide ((i : Int) < (n : Int)) = false := decide_eq_false (by omega)
    have HX : Hid (xs.getD i 0 = 0) := hide (by rw [List.getD_eq_getElem?_getD, List.getElem?_eq_none (by omega)]; rfl)
    rw [unhide HX]
    clear hs hn HX
    go_enter Fagg.func63, Fagg.ntmps63
    go_wp2_with fail
    go_ret
    exact ⟨rfl, rfl⟩

def placeCs (sh i : Nat) : List Value := [.int .u8 ((2 ^ sh : Nat) : Int), .int .u16 (i : Int), .int .u8 0, .bool false]
def stepN (arr : List Nat) (sh i v : Nat) : List Nat := arr.set (1 + i * 2 ^ sh / 64) (putN (arr.getD (1 + i * 2 ^ sh / 64) 0) v (i * 2 ^ sh % 64) (2 ^ sh))

set_option maxHeartbeats 1000000 in
set_option maxRecDepth 100000 in
theorem put62_any {w0 w : World} {B : Nat} {a b c d e f : Value} {xu xv xp : List Value} {arr : List Nat} {dn : Nat} (h : BdAt w0 w B (st a b c d e f) (st (1 + dn) 2 2 2 2 2) (st (valsN arr) (ptCs pt00 ++ ptCs (newPt dn)) xu xv xp [.bool false, .bool false])) (hd : dn ≤ 8) (sh n v : Nat) (hsh : ShOK sh) (hn : n * 2 ^ sh < 64 * dn) (hv : v < 18446744073709551616) (hw : ∀ x ∈ arr, x < 18446744073709551616) :
    Calls Fagg.prog 62 #[.pointer (some ⟨B, 0, none⟩), .int .u8 1, .agg (placeCs sh n).toArray, .int .u64 (v : Int)] w fun ee w' => ee = .returned (.bool true) ∧ BdAt w0 w' B (st a b c d e f) (st (1 + dn) 2 2 2 2 2) (st (valsN (stepN arr sh n v)) (ptCs pt00 ++ ptCs (newPt dn)) xu xv xp [.bool false, .bool false]) := by
  have HSH := hide (fun W => shift_any sh hsh W)
  have HDO := hide (fun (W : World) (hW : Below w.heap.size w W) => doSet_any (h.below hW) hd sh n v { data := #[] } hsh hn hv hw)
  clear h hd hsh hn hv hw
  unfold stepN
  unfold placeCs
  generalize arr.set (1 + n * 2 ^ sh / 64) (putN (arr.getD (1 + n * 2 ^ sh / 64) 0) v (n * 2 ^ sh % 64) (2 ^ sh)) = arr2 at *
  generalize 2 ^ sh = s2 at *
  go_enter Fagg.func62, Fagg.ntmps62
  refine wp_seq_k (fun K0 hK0 => ?_)
  have HC0 := hide hK0
  clear hK0
  go_wp2_with fail
  refine unhide HC0 _ _ ?_
  clear HC0
  refine gen_world _ (fun w' => Below w.heap.size w w' ∧ w'.cell? ⟨w.heap.size, 0, none⟩ = some (.int .u8 (s2 : Int)) ∧ w'.cell? ⟨w.heap.size, 1, none⟩ = some (.int .u16 (n : Int)) ∧ w'.cell? ⟨w.heap.size, 3, none⟩ = some (.bool false)) ⟨(Below.refl _ _).alloc (Nat.le_refl _) _, by simp, by simp, by simp⟩ ?_
  rintro w1 ⟨hb1, p0, p1, p3⟩
  have HD1 := hide (unhide HDO w1 hb1)
  clear HDO hb1
  go_wp2_with (first | (go_at_call 135; with_reducible refine (unhide HSH _).mono ?_; rintro ee w2 ⟨rfl, hw2⟩; subst hw2) | (go_at_call 61; with_reducible refine (unhide HD1).mono ?_; rintro ee w3 ⟨rfl, hp⟩; have HP := hide hp; clear hp))
  go_ret
  exact ⟨rfl, unhide HP⟩
end Go.Proofs.Ygcfag
