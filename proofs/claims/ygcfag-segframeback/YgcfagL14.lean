/-
  LAW 14: SegFrameFlip.
-/
import Derived.Test.YgcfagW22
namespace Go.Proofs.Ygcfag
open Go.RowKit
set_option linter.unusedVariables false
set_option linter.unusedSimpArgs false

theorem sealOf_len (ms : List (List Int)) (packed : Bool) (h : total ms ≤ 256) : 32 ≤ (sealOf ms packed).length ∧ (sealOf ms packed).length ≤ 2592 ∧ (sealOf ms packed).length = (rawOf ms packed).length ∧ Bys (rawOf ms packed) := by
  have h1 := rawOf_len ms packed
  have e : (sealOf ms packed).length = (rawOf ms packed).length := laid4_len _ _ (by omega)
  have hl := loadOf_bd ms.flatten packed (by rw [flat_total]; exact h)
  have e2 : (rawOf ms packed).length = 32 + (loadOf ms.flatten packed).length := by
    unfold rawOf loadOf; rw [List.length_append, flat8_len]; rfl
  refine ⟨by omega, by omega, e, ?_⟩
  exact (flat8_bys _).append hl.2

theorem map_getD (xs : List Int) (p : Nat) (h : p < xs.length) : (xs.map (Value.int .u8))[p]? = some (.int .u8 (xs.getD p 0)) := by simp [List.getD, h]

theorem flip_byte : ∀ x : Fin 256, ∀ k : Fin 8, (0 ≤ bits .xor .u8 (x.val : Int) (2 ^ k.val % 256) ∧ bits .xor .u8 (x.val : Int) (2 ^ k.val % 256) < 256) ∧ bits .xor .u8 (x.val : Int) (2 ^ k.val % 256) ≠ (x.val : Int) := by decide +kernel

theorem nil33_yes (w : World) : (binOp .eql 33 (.slice none 0 0) (.slice none 0 0)).run Fagg.prog w = .ok (.bool true) w := Lib.run_eql_slice_nil w 33 5 none 0 0 0 0 Fagg.underlying33
theorem nil33_no (g : Addr) (n c : Nat) (w : World) : (binOp .eql 33 (.slice (some g) n c) (.slice none 0 0)).run Fagg.prog w = .ok (.bool false) w := Lib.run_eql_slice_nil w 33 5 (some g) n c 0 0 Fagg.underlying33

set_option maxHeartbeats 1000000 in
set_option maxRecDepth 100000 in
theorem segFrameFlip_any (a : Option Addr) (n c i bit : Nat) (packed : Bool) (ms : List (List Int)) (w : World) (hs : SegsAt w a ms) (hm : ms.length = min n 9) (hnc : n ≤ c) (hc : c ≤ 9223372036854775807) (hw : Wds ms.flatten) (hi : i < 65536) (hb : bit < 256) :
    Calls Fagg.prog 14 #[.slice a n c, .bool packed, .int .u16 (i : Int), .int .u8 (bit : Int)] w fun e w' => e = .returned (.bool true) ∧ Below w.heap.size w w' := by
  have q0 := nil33_yes
  have q1 := nil33_no
  have HCUT := hide (cut_any a n c w hnc hc)
  generalize hmn : min n 9 = m at *
  cases hf : fitsOf ms with
  | false =>
    have HS := hide (seal_no a m c packed ms w hs hm hf)
    clear hmn
    go_enter Fagg.func14, Fagg.ntmps14
    go_wp2_with (first | (go_at_call 26; refine (unhide HCUT).mono ?_; rintro e w1 ⟨rfl, hw1⟩; subst hw1) | (go_at_call 51; refine (unhide HS).mono ?_; rintro e w2 ⟨rfl, hw2⟩; subst hw2))
    go_ret
    exact ⟨rfl, Below.refl _ _⟩
  | true =>
    have hf' : 1 ≤ ms.length ∧ ms.length ≤ 8 ∧ 1 ≤ (ms.getD 0 []).length ∧ total ms ≤ 256 := by simpa [fitsOf] using hf
    have HS := hide (seal_any a m c packed ms w hs hm hf hw)
    have hl := sealOf_len ms packed hf'.2.2.2
    have HL := hide hl.2.2
    have hl1 := hl.1
    have hl2 := hl.2.1
    clear hl
    generalize hxs : sealOf ms packed = xs at *
    have HXS := hide hxs
    generalize hL : xs.length = L at *
    have HLL := hide hL
    have hp := Nat.mod_lt i (show L > 0 by omega)
    have hip : (i : Int) % (L : Int) = ((i % L : Nat) : Int) := by omega
    have hk := Nat.mod_lt bit (show 8 > 0 by omega)
    have hbk : (bit : Int) % 8 = ((bit % 8 : Nat) : Int) := by omega
    generalize i % L = p at *
    generalize bit % 8 = k at *
    clear hmn hf hf' hw hs hm hxs hL
    go_enter Fagg.func14, Fagg.ntmps14
    go_wp2_with (first | (go_at_call 26; refine (unhide HCUT).mono ?_; rintro e w1 ⟨rfl, hw1⟩; subst hw1) | (go_at_call 51; refine (unhide HS).mono ?_; rintro e w2 ⟨v, rfl, ho, hb2⟩; obtain ⟨g, cap, cur, rfl, hBg, hgs, hg, hnc2, hcm, hcl, hct⟩ := own_row ho (by omega); have hcell := (ho.cellAt p (by omega)).trans (map_getD xs p (by have := unhide HLL; omega)); generalize hx : xs.getD p 0 = x at *; have HX := hide hx; clear hx; have hfr := ho.frozenAt p; have HO := hide ho; clear ho hg hcl hct))
    have hbx : 0 ≤ x ∧ x < 256 := by
      have h := unhide HX
      rw [← unhide HXS] at h
      have := laid4_bys _ (sumF (rawOf ms packed)) (unhide HL).2 p
      unfold sealOf at h
      omega
    have hfl := flip_byte ⟨x.toNat, by omega⟩ ⟨k, hk⟩
    rw [show ((x.toNat : Nat) : Int) = x by omega] at hfl
    generalize bits .xor .u8 x (2 ^ k % 256) = y at *
    obtain ⟨ho3, hg3⟩ := (unhide HO).stored p (.int .u8 y)
    rw [← List.map_set] at ho3
    have hb3 : Below w1.heap.size w1 (w2.setCell ⟨g, p, none⟩ (.int .u8 y)) := hb2.setCell hBg _
    obtain ⟨_, _, hcm2, hsl⟩ := Sl.of_own8 ho3
    have hne : (openOf (xs.set p y)).1 ≠ 0 := by
      have h := open_flip (rawOf ms packed) p y (unhide HL).2 (by have := (unhide HL).1; omega) (by have := (unhide HL).1; omega) hfl.1 (by
        have h := unhide HX
        rw [← unhide HXS] at h
        unfold sealOf at h
        rw [h]; exact hfl.2)
      rw [← unhide HXS]
      exact h
    have hby : Bys (xs.set p y) := by
      refine bys_of fun z hz => ?_
      rcases List.mem_or_eq_of_mem_set hz with h | rfl
      · have hb := laid4_bys _ (sumF (rawOf ms packed)) (unhide HL).2
        have e : laid4 (rawOf ms packed) (sumF (rawOf ms packed)) = xs := unhide HXS
        rw [e] at hb
        exact bys_mem hb h
      · exact hfl.1
    have hlen : (xs.set p y).length = L := by rw [List.length_set]; exact unhide HLL
    refine (open_any (some ⟨g, 0, none⟩) L cap (xs.set p y) _ hsl hlen hnc2 (by unfold maxLen at hcm; omega) hby).mono ?_
    rintro e w4 ⟨hb4, h⟩
    have hbt := hb3.trans (hb4.mono hb3.size)
    rcases h with ⟨_, rfl⟩ | ⟨_, _, _, ms2, ho2, _⟩
    · generalize (openOf (xs.set p y)).1 = C at *
      have e1 : ((C : Int) != 0) = true := by simp; omega
      clear ho3 hg3 hsl hby hlen hb4 hb3
      go_wp2
      go_ret
      exact ⟨rfl, hbt⟩
    · exact absurd (by rw [ho2]) hne
end Go.Proofs.Ygcfag
