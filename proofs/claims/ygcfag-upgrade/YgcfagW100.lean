/-
  WALKS: tree's trimmed, words, shaped of a tree of one node.
-/
import Derived.Test.YgcfagW99
namespace Go.Proofs.Ygcfag
open Go.RowKit
set_option linter.unusedVariables false
set_option linter.unusedSimpArgs false

/-- The data words that are kept. -/
def trimN (ys : List Int) : Nat → Nat
  | 0 => 0
  | k + 1 => if ys.getD k 0 = 0 then trimN ys k else k + 1
theorem trimN_le (ys : List Int) : ∀ d, trimN ys d ≤ d
  | 0 => Nat.le_refl _
  | k + 1 => by
    unfold trimN
    split
    · exact Nat.le_succ_of_le (trimN_le ys k)
    · exact Nat.le_refl _
theorem trimN_zero (ys : List Int) : ∀ d i, trimN ys d ≤ i → i < d → ys.getD i 0 = 0
  | 0, i, _, h => by omega
  | k + 1, i, h1, h2 => by
    unfold trimN at h1
    split at h1
    case isTrue h => by_cases hi : i = k
                     · rw [hi]; exact h
                     · exact trimN_zero ys k i h1 (by omega)
    case isFalse h => omega

set_option maxHeartbeats 1000000 in
set_option maxRecDepth 100000 in
theorem trimmed_any (T B cap d capd : Nat) (A : Option Addr) (ys : List Int) (w : World) (ht : TreeAt w T B cap A d capd ys) (hd : d ≤ 8) :
    Calls Fagg.prog 88 #[.pointer (some ⟨B, 0, none⟩)] w fun e w' => e = .returned (.tuple #[.int .i64 (trimN ys d : Nat), .int .i64 0]) ∧ Below w.heap.size w w' := by
  have k2 := ht.k2
  have k3 := ht.k3
  have HT := hide ht
  clear ht
  go_enter Fagg.func88, Fagg.ntmps88
  go_wp2_with fail
  go_quiet (fail)
  have HB := hide (bel_drewN (Below.refl w.heap.size w) nq)
  have HT2 := hide ((unhide HT).below (unhide HB))
  go_wp2_with fail
  generalize w.drewN nq = w2 at HB HT2 ⊢
  clear k2 k3 HT
  have k2 := (unhide HT2).k2
  have k3 := (unhide HT2).k3
  go_loopw [2] (fun s wr => ∃ k : Nat, s = .int .i64 (k : Int) ∧ k ≤ d ∧ trimN ys k = trimN ys d ∧ wr = w2) (fun s _ => (intOf s).toNat)
  case atStart => exact ⟨d, rfl, Nat.le_refl _, rfl, rfl⟩
  case round =>
    obtain ⟨k, rfl, hk, hkd, rfl⟩ := hrel
    match k, hk, hkd with
    | 0, hk, hkd =>
      go_wp2_with fail
      go_loopw [3] (fun s wx => s = .int .i64 0 ∧ wx = wr) (fun _ _ => 0)
      case atStart => exact ⟨rfl, rfl⟩
      case round =>
        obtain ⟨rfl, rfl⟩ := hrel
        go_wp2_with fail
        exact bodyPost_ret (v := .tuple #[.int .i64 (trimN ys d : Nat), .int .i64 0]) (by rw [← hkd]; simp [results, Fagg.results88, go_sem, trimN]) rfl ⟨rfl, unhide HB⟩
    | k + 1, hk, hkd =>
      obtain ⟨b, o, hA, hc⟩ := (unhide HT2).dat.at (i := k) (by rw [(unhide HT2).len]; omega)
      subst hA
      have hck := hc k (by rw [(unhide HT2).len]; omega)
      clear hc
      have e1 : ((k + 1 : Nat) : Int) > 0 := by omega
      have e2 : IntKind.i64.wrap (((k + 1 : Nat) : Int) - 1) = (k : Int) := by rw [IntKind.wrap_i64]; omega
      have e3 : (0 : Int) ≤ (k : Int) := by omega
      have e4 : (k : Int) < (d : Int) := by omega
      have hadd : (⟨b, o, none⟩ : Addr).add k = ⟨b, o + k, none⟩ := Addr.add_mid _ _ _
      by_cases hz : ys.getD k 0 = 0
      · rw [hz] at hck
        have HKD := hide hkd
        clear hkd
        go_wp2_with fail
        refine ⟨⟨k, rfl, by omega, ?_, trivial⟩, by simp [intOf]⟩
        rw [← unhide HKD]; show trimN ys k = if ys.getD k 0 = 0 then trimN ys k else k + 1; rw [if_pos hz]
      · have hz' : (ys.getD k 0 == 0) = false := by simpa using hz
        have ht : trimN ys (k + 1) = k + 1 := by unfold trimN; rw [if_neg hz]
        rw [ht] at hkd
        have HKD := hide hkd
        clear hkd ht
        generalize ys.getD k 0 = y at hck hz'
        clear hz
        go_wp2_with fail
        go_loopw [3] (fun s wx => s = .int .i64 0 ∧ wx = wr) (fun _ _ => 0)
        case atStart => exact ⟨rfl, rfl⟩
        case round =>
          obtain ⟨rfl, rfl⟩ := hrel
          go_wp2_with fail
          exact bodyPost_ret (v := .tuple #[.int .i64 (trimN ys d : Nat), .int .i64 0]) (by rw [← unhide HKD]; simp [results, Fagg.results88, go_sem]) rfl ⟨rfl, unhide HB⟩

set_option maxHeartbeats 1000000 in
set_option maxRecDepth 100000 in
theorem twords_any (T B cap d capd : Nat) (A : Option Addr) (ys : List Int) (w : World) (ht : TreeAt w T B cap A d capd ys) (hd : d ≤ 8) :
    Calls Fagg.prog 157 #[.pointer (some ⟨T, 0, none⟩), .pointer (some ⟨B, 0, none⟩)] w fun e w' => e = .returned (.int .i64 (trimN ys d : Nat)) ∧ Below w.heap.size w w' := by
  have HTR := hide (trimmed_any T B cap d capd A ys w ht hd)
  have k0 := ht.k0
  have hle : trimN ys d ≤ 8 := Nat.le_trans (trimN_le ys d) hd
  generalize trimN ys d = t at *
  clear ht hd
  have hwr : IntKind.i64.wrap ((t : Int) + 0) = (t : Int) := by rw [IntKind.wrap_i64]; omega
  have hwr2 : IntKind.i64.wrap (t : Int) = (t : Int) := by rw [IntKind.wrap_i64]; omega
  go_enter Fagg.func157, Fagg.ntmps157
  go_wp2_with (go_at_call 88; with_reducible refine (unhide HTR).mono ?_; rintro e w1 ⟨rfl, hb1⟩; have HB1 := hide hb1; clear hb1)
  exact bodyPost_ret (v := .int .i64 (t : Int)) (by simp [results, Fagg.results157, go_sem]) rfl ⟨rfl, unhide HB1⟩

set_option maxHeartbeats 1000000 in
set_option maxRecDepth 100000 in
theorem shaped_any (T B cap d capd : Nat) (A : Option Addr) (ys : List Int) (w : World) (ht : TreeAt w T B cap A d capd ys) (hd : d ≤ 8) :
    Calls Fagg.prog 85 #[.pointer (some ⟨T, 0, none⟩), .int .i64 0] w fun e w' => e = .returned (.bool true) ∧ Below w.heap.size w w' := by
  obtain ⟨n0, r0, k0, k1, k2, k3, dat, len⟩ := ht
  have e1 : (d : Int) ≤ 8 := by omega
  clear dat len
  go_enter Fagg.func85, Fagg.ntmps85
  go_wp2_with fail
  go_loopw [23] (fun s wr => s = .int .i64 0 ∧ wr = w) (fun _ _ => 0)
  case atStart => exact ⟨rfl, rfl⟩
  case round =>
    obtain ⟨rfl, rfl⟩ := hrel
    go_wp2_with fail
    exact bodyPost_ret (v := .bool true) (by simp [results, Fagg.results85, go_sem]) rfl ⟨rfl, Below.refl _ _⟩
end Go.Proofs.Ygcfag
