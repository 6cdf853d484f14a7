/-
  LAW 12: SegFrameBack.
-/
import Derived.Test.YgcfagL14
import Derived.Test.YgcfagW23
namespace Go.Proofs.Ygcfag
open Go.RowKit
set_option linter.unusedVariables false
set_option linter.unusedSimpArgs false

set_option maxHeartbeats 1000000 in
set_option maxRecDepth 100000 in
theorem segFrameBack_any (a : Option Addr) (n c : Nat) (packed : Bool) (ms : List (List Int)) (w : World) (hs : SegsAt w a ms) (hm : ms.length = min n 9) (hnc : n ≤ c) (hc : c ≤ 9223372036854775807) (hw : Wds ms.flatten) (hl : ∀ m ∈ ms, m.length ≤ 17592186043904) :
    Calls Fagg.prog 12 #[.slice a n c, .bool packed] w fun e w' => e = .returned (.bool true) ∧ Below w.heap.size w w' := by
  have q0 := nil33_yes
  have q1 := nil33_no
  have HCUT := hide (cut_any a n c w hnc hc)
  generalize hmn : min n 9 = m at *
  cases hf : fitsOf ms with
  | false =>
    have HS := hide (seal_no a m c packed ms w hs hm hf)
    have HOF := hide (ownFits_any a m c ms w hs hm (by omega) hl)
    rw [hf] at HOF
    clear hmn
    go_enter Fagg.func12, Fagg.ntmps12
    go_wp2_with (first | (go_at_call 26; refine (unhide HCUT).mono ?_; rintro e w1 ⟨rfl, hw1⟩; subst hw1) | (go_at_call 51; refine (unhide HS).mono ?_; rintro e w2 ⟨rfl, hw2⟩; subst hw2) | (go_at_call 28; refine (unhide HOF).mono ?_; rintro e w3 ⟨rfl, hw3⟩; subst hw3))
    go_ret
    exact ⟨rfl, Below.refl _ _⟩
  | true =>
    have hf' : 1 ≤ ms.length ∧ ms.length ≤ 8 ∧ 1 ≤ (ms.getD 0 []).length ∧ total ms ≤ 256 := by simpa [fitsOf] using hf
    have HS := hide (seal_any a m c packed ms w hs hm hf hw)
    have HOF := hide (fun W (hW : Below w.heap.size w W) => ownFits_any a m c ms W (hs.below hW) hm (by omega) hl)
    rw [hf] at HOF
    have hgl : ∀ i, (ms.getD i []).length ≤ 9223372036854775807 := fun i => by
      have := getD_len_le ms 17592186043904 hl i
      omega
    have HSS := hide (fun W (hW : Below w.heap.size w W) (b : Option Addr) (cb : Nat) (hb : SegsAt W b ms) => sameSegs_same a b m c cb ms W (hs.below hW) hb hm (by omega) hgl)
    clear hgl
    have hln := sealOf_len ms packed hf'.2.2.2
    have HBY := hide (laid4_bys _ (sumF (rawOf ms packed)) hln.2.2.2)
    have HOS := hide (open_seal ms packed hf (fun x hx => by
      obtain ⟨i, hi, rfl⟩ := List.getElem_of_mem hx
      have h := hw i
      have e : ms.flatten.getD i 0 = ms.flatten[i] := by rw [List.getD_eq_getElem?_getD, List.getElem?_eq_getElem hi]; rfl
      rw [e] at h
      omega))
    have hl1 := hln.1
    have hl2 := hln.2.1
    have hm1 : 1 ≤ m := by omega
    have HM := hide hm
    clear hln
    generalize hxs : sealOf ms packed = xs at *
    have HXS := hide hxs
    generalize hL : xs.length = L at *
    have HLL := hide hL
    clear hmn hf hf' hw hs hm hxs hL hl
    go_enter Fagg.func12, Fagg.ntmps12
    go_wp2_with (first | (go_at_call 26; refine (unhide HCUT).mono ?_; rintro e w1 ⟨rfl, hw1⟩; subst hw1) | (go_at_call 51; refine (unhide HS).mono ?_; rintro e w2 ⟨v, rfl, ho, hb2⟩; obtain ⟨g, cap, cur, rfl, hBg, hgs, hg, hnc2, hcm, hcl, hct⟩ := own_row ho (by omega); have HO := hide ho; clear ho hg hcl hct) | (go_at_call 28; refine (unhide HOF _ hb2).mono ?_; rintro e w3 ⟨rfl, hw3⟩; subst hw3))
    obtain ⟨_, _, hcm2, hsl⟩ := Sl.of_own8 (unhide HO)
    have hby : Bys xs := by
      have hb := unhide HBY
      have e : laid4 (rawOf ms packed) (sumF (rawOf ms packed)) = xs := unhide HXS
      rw [e] at hb
      exact hb
    refine (open_any (some ⟨g, 0, none⟩) L cap xs _ hsl (unhide HLL) hnc2 (by unfold maxLen at hcm; omega) hby).mono ?_
    rintro e w4 ⟨hb4, h⟩
    have hbt := hb2.trans (hb4.mono hb2.size)
    rcases h with ⟨h2, _⟩ | ⟨x, k, cc, ms2, ho2, hk, rfl, hseg⟩
    · rw [unhide HOS] at h2
      have h3 : ms = [] := h2
      have h4 := unhide HM
      rw [h3] at h4
      simp at h4
      omega
    · have e2 : ms2 = ms := by
        have := unhide HOS
        rw [ho2] at this
        simpa using this
      rw [e2] at hk hseg
      have hkm : k = m := by have := unhide HM; omega
      have HSG := hide (unhide HSS _ hbt (some x) cc hseg)
      subst hkm
      clear hsl hby hseg ho2
      go_wp2_with (go_at_call 53; refine (unhide HSG).mono ?_; rintro e w5 ⟨rfl, hb5⟩)
      go_ret
      exact ⟨rfl, hbt.trans (hb5.mono hbt.size)⟩
end Go.Proofs.Ygcfag
