/-
  WALKS: law's Upgrade.
-/
import Derived.Test.YgcfagPlain21
namespace Go.Proofs.Ygcfag
open Go.RowKit
set_option linter.unusedVariables false
set_option linter.unusedSimpArgs false

theorem RowAt.take {w : World} {a : Option Addr} {kk : List Nat} (h : RowAt w a (tsCells kk)) (n : Nat) : RowAt w a (tsCells (kk.take n)) := by
  rcases h with h0 | ⟨b, o, ha, hc⟩
  · left
    have h1 := tsCells_len kk
    rw [h0] at h1
    have h2 : kk = [] := List.length_eq_zero_iff.1 (by simp at h1; omega)
    rw [h2, List.take_nil]; rfl
  · refine .inr ⟨b, o, ha, fun i u hi => hc i u ?_⟩
    have e : tsCells kk = tsCells (kk.take n) ++ tsCells (kk.drop n) := by
      unfold tsCells
      rw [← List.flatMap_append, List.take_append_drop]
    rw [e, List.getElem?_append_left (List.getElem?_eq_some_iff.1 hi).1]
    exact hi

theorem arrOK_fill {w : World} {g : Nat} {vs : List Int} {s : LSt} {qs : List (Nat × Nat)} {nn : Nat} (hd : s.2.1 ≤ 8) (hsl : Sl .u64 w (some ⟨g, 0, none⟩) (intsN (fillN (fun j => (vs.getD j 0).toNat) (arr0 s.2.1) s.1 0)))
    (hrd : ∀ j, j < qs.length → fieldOf (intsN (fillN (fun j => (vs.getD j 0).toNat) (arr0 s.2.1) s.1 0)) s.2.1 (qs.getD j (0, 0)).2 (qs.getD j (0, 0)).1 = wantZ vs nn j (qs.getD j (0, 0)).1) :
    ArrOK w (some ⟨g, 0, none⟩) (1 + s.2.1) s.2.1 (intsN (fillN (fun j => (vs.getD j 0).toNat) (arr0 s.2.1) s.1 0)) qs vs nn := by
  have hlt := fillN_lt (fun j => (vs.getD j 0).toNat) s.1 (arr0 s.2.1) 0 (arr0_lt s.2.1 hd)
  have hln := fillN_len (fun j => (vs.getD j 0).toNat) s.1 (arr0 s.2.1) 0
  have hhd := fillN_head (fun j => (vs.getD j 0).toNat) s.1 (arr0 s.2.1) 0
  refine ⟨hsl, ?_, ?_, hd, by omega, ?_, hrd⟩
  · unfold intsN
    rw [List.length_map, hln]; simp [arr0]; omega
  · intro i
    rw [intsN_getD]
    have : (fillN (fun j => (vs.getD j 0).toNat) (arr0 s.2.1) s.1 0).getD i 0 < 18446744073709551616 := by
      rw [List.getD_eq_getElem?_getD]
      rcases hg : (fillN (fun j => (vs.getD j 0).toNat) (arr0 s.2.1) s.1 0)[i]? with _ | y
      · simp
      · exact hlt y (List.mem_of_getElem? hg)
    omega
  · rw [intsN_getD, hhd]; rfl

set_option maxHeartbeats 2000000 in
set_option maxRecDepth 100000 in
theorem upgrade_any (a0 : Option Addr) (n0 c0 : Nat) (ks : List Int) (kN : Nat) (aV : Option Addr) (nV cV : Nat) (vs : List Int) (w : World) (hs : Sl .u8 w a0 ks) (hn : ks.length = n0) (hc : n0 ≤ c0) (ha : a0 = none → n0 = 0 ∧ c0 = 0) (hk : ∀ x ∈ ks, 0 ≤ x ∧ x < 256) (hk2 : kN < 256) (hV : Sl .u64 w aV vs) (hnV : vs.length = nV) (hvs : ∀ x ∈ vs, 0 ≤ x ∧ x < 18446744073709551616) :
    Calls Fagg.prog 5 #[.slice a0 n0 c0, .int .u8 (kN : Int), .slice aV nV cV] w fun e w' => e = .returned (.bool true) ∧ Below w.heap.size w w' := by
  have HTY := hide (typesOf_any a0 n0 c0 ks w hs hn hc ha hk)
  have HK0 : Hid (∀ k ∈ kindN ks (min n0 17), k < 11) := hide (by
    intro k hk3
    unfold kindN at hk3
    rw [List.mem_map] at hk3
    obtain ⟨x, hx, rfl⟩ := hk3
    have := hk x (List.mem_of_mem_take hx)
    omega)
  have HKL0 : Hid ((kindN ks (min n0 17)).length = min n0 17) := hide (by
    unfold kindN
    rw [List.length_map, List.length_take, hn]; omega)
  have HVB := hide (fun (W : World) (hW : Below w.heap.size w W) => hV.below hW)
  have HNV := hide hnV
  have HVS := hide hvs
  have hm17 : min n0 17 ≤ 17 := Nat.min_le_right _ _
  clear hs hn hc ha hk hV hnV hvs
  generalize min n0 17 = m at *
  generalize kindN ks m = kk at *
  go_enter Fagg.func5, Fagg.ntmps5
  refine wp_seq_k (fun K0 hK0 => ?_)
  have HC0 := hide hK0
  clear hK0
  go_wp2_with fail
  refine unhide HC0 _ _ ?_
  clear HC0
  refine wp_seq_k (fun K0 hK0 => ?_)
  have HC0 := hide hK0
  clear hK0
  go_wp2_with (go_at_call 22; with_reducible refine (unhide HTY).mono ?_; rintro ee w1 ⟨g, rfl, hr1, hb1⟩; have HR1 := hide hr1; have HB1 := hide hb1; clear hr1 hb1)
  refine unhide HC0 _ _ ?_
  clear HC0
  have HK11 := HK0
  have HKL := HKL0
  clear HTY HK0 HKL0
  by_cases hkm : kN ≤ m
  · have d1 : decide ((kN : Int) ≤ (m : Int)) = true := decide_eq_true (by omega)
    have d2 : (kN : Int) ≤ (m : Int) := by omega
    have d3 : (0 : Int) ≤ (kN : Int) := by omega
    have hnm : kN ≤ m := hkm
    refine wp_seq_k (fun K0 hK0 => ?_)
    have HC0 := hide hK0
    clear hK0
    go_wp2_with fail
    refine unhide HC0 _ _ ?_
    clear HC0
    have HL1 : Hid (Calls Fagg.prog 23 #[.slice (some ⟨g, 0, none⟩) m m] w1 (fun e w' => LayPost w1 (if 16 < kk.length then none else layN kk) e w')) := hide (by
      have h1 := layout_any (some ⟨g, 0, none⟩) m kk w1 (unhide HR1) (unhide HK11)
      rw [unhide HKL] at h1 ⊢
      exact h1)
    rcases hlay : (if 16 < kk.length then none else layN kk) with _ | s
    · rw [hlay] at HL1
      have HLN : Hid (Calls Fagg.prog 23 #[.slice (some ⟨g, 0, none⟩) m m] w1 fun e w' => e = .returned (.tuple #[.slice none 0 0, .int .u8 0, .int .u8 0, .bool false]) ∧ Below w1.heap.size w1 w') := hide ((unhide HL1).mono fun e w' h => ⟨h.2, h.1⟩)
      clear HL1
      refine wp_seq_k (fun K0 hK0 => ?_)
      have HC0 := hide hK0
      clear hK0
      go_wp2_with (go_at_call 23; with_reducible refine (unhide HLN).mono ?_; rintro ee w2 ⟨rfl, hb2⟩; have HB2 := hide ((unhide HB1).trans (hb2.mono (unhide HB1).size)); clear hb2)
      refine unhide HC0 _ _ ?_
      clear HC0
      go_wp2_with fail
      go_ret
      exact ⟨rfl, unhide HB2⟩
    · rw [hlay] at HL1
      have hlay2 : layN kk = some s ∧ ¬ 16 < kk.length := by
        split at hlay
        · cases hlay
        · exact ⟨hlay, by assumption⟩
      clear hlay
      have hkl := unhide HKL
      obtain ⟨s', hs1, hok, hok', hpre, hlen, hlen', hde⟩ := layN_take hlay2.1 kN (by rw [hkl]; exact hnm)
      have HS := hide (And.intro hok (And.intro hok' (And.intro hpre (And.intro hlen (And.intro hlen' hde)))))
      have HL2 := hide (fun (W : World) (hW : Below w1.heap.size w1 W) => (show Calls Fagg.prog 23 #[.slice (some ⟨g, 0, none⟩) kN m] W (LayPost W (some s')) from (by
        have h1 := layout_any (some ⟨g, 0, none⟩) m (kk.take kN) W (((unhide HR1).take kN).below hW) (fun k hk => unhide HK11 k (List.mem_of_mem_take hk))
        have h2 : (kk.take kN).length = kN := by rw [List.length_take, hkl]; omega
        rw [h2, if_neg (by omega), hs1] at h1
        exact h1)))
      have hd8 : s.2.1 ≤ 8 := hok.d8
      have he8 : s'.2.1 ≤ 8 := hok'.d8
      clear hs1 hok hok' hpre hlen hlen' hde hlay2 HK11 HR1
      obtain ⟨long, d, us⟩ := s
      obtain ⟨short, e, us'⟩ := s'
      simp only at hd8 he8
      have HLS : Hid (Calls Fagg.prog 23 #[.slice (some ⟨g, 0, none⟩) m m] w1 fun ee w' => ∃ aP cP, ee = .returned (.tuple #[.slice aP long.length cP, .int .u8 (d : Int), .int .u8 0, .bool true]) ∧ RowAt w' aP (psCells long) ∧ Below w1.heap.size w1 w') := hide ((unhide HL1).mono fun ee w' h => by
        obtain ⟨h1, aP, cP, h2, h3⟩ := h
        exact ⟨aP, cP, h2, h3, h1⟩)
      have HLT := hide (fun (W : World) (hW : Below w1.heap.size w1 W) => show Calls Fagg.prog 23 #[.slice (some ⟨g, 0, none⟩) kN m] W (fun ee w' => ∃ aP cP, ee = .returned (.tuple #[.slice aP short.length cP, .int .u8 (e : Int), .int .u8 0, .bool true]) ∧ RowAt w' aP (psCells short) ∧ Below W.heap.size W w') from (unhide HL2 W hW).mono fun ee w' h => by
        obtain ⟨h1, aP, cP, h2, h3⟩ := h
        exact ⟨aP, cP, h2, h3, h1⟩)
      clear HL1 HL2
      refine wp_seq_k (fun K0 hK0 => ?_)
      have HC0 := hide hK0
      clear hK0
      go_wp2_with (go_at_call 23; with_reducible refine (unhide HLS).mono ?_; rintro ee w2 ⟨aL, cL, rfl, hr2, hb2⟩; have HB2 := hide hb2; have HRL := hide hr2; clear hb2 hr2)
      refine unhide HC0 _ _ ?_
      clear HC0
      have HL3 := hide (unhide HLT w2 (unhide HB2))
      clear HLS HLT
      refine wp_seq_k (fun K0 hK0 => ?_)
      have HC0 := hide hK0
      clear hK0
      go_wp2_with fail
      refine unhide HC0 _ _ ?_
      clear HC0
      refine wp_seq_k (fun K0 hK0 => ?_)
      have HC0 := hide hK0
      clear hK0
      go_wp2_with (go_at_call 23; with_reducible refine (unhide HL3).mono ?_; rintro ee w3 ⟨aS, cS, rfl, hr3, hb3⟩; have HRL3 := hide ((unhide HRL).below hb3); have HRS := hide hr3; have HB3 := hide ((unhide HB1).trans (((unhide HB2).trans (hb3.mono (unhide HB2).size)).mono (unhide HB1).size)); clear hb3 hr3)
      refine unhide HC0 _ _ ?_
      clear HC0
      clear HL3 HB2 HRL HB1
      obtain ⟨hok, hok', hpre, hlen, hlen', hde⟩ := unhide HS
      try simp only at hpre hlen hlen'
      clear HS
      have hl100 : long.length ≤ 100 := by have := unhide HKL; omega
      have hs100 : short.length ≤ 100 := by rw [hlen']; omega
      have HFL := hide (filled_any aL cL d long aV nV cV vs w3 (unhide HRL3) (fun p hp => ⟨(hok.ok p hp).1, by have h1 := (hok.ok p hp).2; have h2 : 0 < 2 ^ p.1 := Nat.two_pow_pos _; simp only at h1; omega⟩) hd8 (unhide HVB w3 (unhide HB3)) (unhide HNV) (unhide HVS) hl100)
      have HRG1 := hide (fun (j : Nat) (hj : j < short.length) => (show fieldOf (intsN (fillN (fun j => (vs.getD j 0).toNat) (arr0 d) long 0)) d (short.getD j (0, 0)).2 (short.getD j (0, 0)).1 = wantZ vs kN j (short.getD j (0, 0)).1 from by
        have hj2 : j < kN := by rw [← hlen']; exact hj
        have e1 : short.getD j (0, 0) = long.getD j (0, 0) := by rw [hpre]; exact take_getD hj2
        rw [e1]
        exact law_long (unhide HVS) hok kN j hj2 (by rw [hlen, unhide HKL]; omega)))
      have HRG2 := hide (fun (j : Nat) (hj : j < long.length) => (law_long (unhide HVS) hok long.length j hj hj))
      have HRG3 := hide (fun (j : Nat) (hj : j < long.length) => (law_short (unhide HVS) hok hok' kN hpre hlen' j hj))
      have HQL : Hid (∀ p ∈ long, ShOK p.1 ∧ p.2 * 2 ^ p.1 < 512) := hide (fun p hp => ⟨(hok.ok p hp).1, by have h1 := (hok.ok p hp).2; have h2 : 0 < 2 ^ p.1 := Nat.two_pow_pos _; simp only at h1; omega⟩)
      have HQS : Hid (∀ p ∈ short, ShOK p.1 ∧ p.2 * 2 ^ p.1 < 512) := hide (fun p hp => ⟨(hok'.ok p hp).1, by have h1 := (hok'.ok p hp).2; have h2 : 0 < 2 ^ p.1 := Nat.two_pow_pos _; simp only at h1; omega⟩)
      have HFS := hide (fun (W : World) (hW : Below w3.heap.size w3 W) => filled_any aS cS e short aV nV cV vs W ((unhide HRS).below hW) (fun p hp => ⟨(hok'.ok p hp).1, by have h1 := (hok'.ok p hp).2; have h2 : 0 < 2 ^ p.1 := Nat.two_pow_pos _; simp only at h1; omega⟩) he8 (unhide HVB W ((unhide HB3).trans (hW.mono (unhide HB3).size))) (unhide HNV) (unhide HVS) hs100)
      have HV3 := hide (fun (W : World) (hW : Below w3.heap.size w3 W) => unhide HVB W ((unhide HB3).trans (hW.mono (unhide HB3).size)))
      have HL100 := hide hl100
      have HS100 := hide hs100
      clear hok hok' hpre hlen hlen' hde hl100 hs100 HVB hkl
      refine wp_seq_k (fun K0 hK0 => ?_)
      have HC0 := hide hK0
      clear hK0
      go_wp2_with fail
      refine unhide HC0 _ _ ?_
      clear HC0
      refine wp_seq_k (fun K0 hK0 => ?_)
      have HC0 := hide hK0
      clear hK0
      go_wp2_with (go_at_call 24; with_reducible refine (unhide HFL).mono ?_; rintro ee w4 ⟨gA, cA, rfl, hsl4, hln4, hb4⟩; have HA4 := hide hsl4; have HB4 := hide hb4; clear hsl4 hln4 hb4)
      refine unhide HC0 _ _ ?_
      clear HC0
      clear HFL
      have HG1 := hide (gets_any (some ⟨gA, 0, none⟩) (1 + d) cA d _ aS cS short aV nV cV vs kN w4 (arrOK_fill (s := (long, d, us)) hd8 (unhide HA4) (unhide HRG1)) ((unhide HRS).below (unhide HB4)) (unhide HQS) (unhide HV3 w4 (unhide HB4)) (unhide HNV) (unhide HVS) (unhide HS100))
      have HG2 := hide (fun (W : World) (hW : Below w4.heap.size w4 W) => gets_any (some ⟨gA, 0, none⟩) (1 + d) cA d _ aL cL long aV nV cV vs long.length W (arrOK_fill (s := (long, d, us)) hd8 ((unhide HA4).below hW) (unhide HRG2)) ((unhide HRL3).below ((unhide HB4).trans (hW.mono (unhide HB4).size))) (unhide HQL) (unhide HV3 W ((unhide HB4).trans (hW.mono (unhide HB4).size))) (unhide HNV) (unhide HVS) (unhide HL100))
      refine wp_seq_k (fun K0 hK0 => ?_)
      have HC0 := hide hK0
      clear hK0
      go_wp2_with (first | (go_at_call 25; with_reducible refine (unhide HG1).mono ?_; rintro ee w5 ⟨rfl, hb5⟩; have HB5 := hide hb5; have HG5 := hide (unhide HG2 w5 hb5); clear hb5) | (go_at_call 25; with_reducible refine (unhide HG5).mono ?_; rintro ee w6 ⟨rfl, hb6⟩; have HB6 := hide ((unhide HB5).trans (hb6.mono (unhide HB5).size)); clear hb6))
      refine unhide HC0 _ _ ?_
      clear HC0
      have HB7 := hide ((unhide HB4).trans ((unhide HB6).mono (unhide HB4).size))
      have HF6 := hide (unhide HFS w6 (unhide HB7))
      clear HG1 HG2 HG5 HB4 HB5 HB6 HFS HA4 HRG1 HRG2
      refine wp_seq_k (fun K0 hK0 => ?_)
      have HC0 := hide hK0
      clear hK0
      go_wp2_with (go_at_call 24; with_reducible refine (unhide HF6).mono ?_; rintro ee w8 ⟨gB, cB, rfl, hsl8, hln8, hb8⟩; have HA8 := hide hsl8; have HB8 := hide ((unhide HB7).trans (hb8.mono (unhide HB7).size)); clear hsl8 hln8 hb8)
      refine unhide HC0 _ _ ?_
      clear HC0
      clear HF6
      have HG3 := hide (gets_any (some ⟨gB, 0, none⟩) (1 + e) cB e _ aL cL long aV nV cV vs kN w8 (arrOK_fill (s := (short, e, us')) he8 (unhide HA8) (unhide HRG3)) ((unhide HRL3).below (unhide HB8)) (unhide HQL) (unhide HV3 w8 (unhide HB8)) (unhide HNV) (unhide HVS) (unhide HL100))
      go_wp2_with (go_at_call 25; with_reducible refine (unhide HG3).mono ?_; rintro ee w9 ⟨rfl, hb9⟩; have HB9 := hide ((unhide HB3).trans (((unhide HB8).trans (hb9.mono (unhide HB8).size)).mono (unhide HB3).size)); clear hb9)
      go_ret
      exact ⟨rfl, unhide HB9⟩
  · have d1 : decide ((kN : Int) ≤ (m : Int)) = false := decide_eq_false (by omega)
    have d2 : (m : Int) < (kN : Int) := by omega
    have d2b : ¬ (kN : Int) ≤ (m : Int) := by omega
    have d3 : (0 : Int) ≤ (m : Int) := by omega
    have hnm : m ≤ m := Nat.le_refl _
    refine wp_seq_k (fun K0 hK0 => ?_)
    have HC0 := hide hK0
    clear hK0
    go_wp2_with fail
    refine unhide HC0 _ _ ?_
    clear HC0
    have HL1 : Hid (Calls Fagg.prog 23 #[.slice (some ⟨g, 0, none⟩) m m] w1 (fun e w' => LayPost w1 (if 16 < kk.length then none else layN kk) e w')) := hide (by
      have h1 := layout_any (some ⟨g, 0, none⟩) m kk w1 (unhide HR1) (unhide HK11)
      rw [unhide HKL] at h1 ⊢
      exact h1)
    rcases hlay : (if 16 < kk.length then none else layN kk) with _ | s
    · rw [hlay] at HL1
      have HLN : Hid (Calls Fagg.prog 23 #[.slice (some ⟨g, 0, none⟩) m m] w1 fun e w' => e = .returned (.tuple #[.slice none 0 0, .int .u8 0, .int .u8 0, .bool false]) ∧ Below w1.heap.size w1 w') := hide ((unhide HL1).mono fun e w' h => ⟨h.2, h.1⟩)
      clear HL1
      refine wp_seq_k (fun K0 hK0 => ?_)
      have HC0 := hide hK0
      clear hK0
      go_wp2_with (go_at_call 23; with_reducible refine (unhide HLN).mono ?_; rintro ee w2 ⟨rfl, hb2⟩; have HB2 := hide ((unhide HB1).trans (hb2.mono (unhide HB1).size)); clear hb2)
      refine unhide HC0 _ _ ?_
      clear HC0
      go_wp2_with fail
      go_ret
      exact ⟨rfl, unhide HB2⟩
    · rw [hlay] at HL1
      have hlay2 : layN kk = some s ∧ ¬ 16 < kk.length := by
        split at hlay
        · cases hlay
        · exact ⟨hlay, by assumption⟩
      clear hlay
      have hkl := unhide HKL
      obtain ⟨s', hs1, hok, hok', hpre, hlen, hlen', hde⟩ := layN_take hlay2.1 m (by rw [hkl]; exact hnm)
      have HS := hide (And.intro hok (And.intro hok' (And.intro hpre (And.intro hlen (And.intro hlen' hde)))))
      have HL2 := hide (fun (W : World) (hW : Below w1.heap.size w1 W) => (show Calls Fagg.prog 23 #[.slice (some ⟨g, 0, none⟩) m m] W (LayPost W (some s')) from (by
        have h1 := layout_any (some ⟨g, 0, none⟩) m (kk.take m) W (((unhide HR1).take m).below hW) (fun k hk => unhide HK11 k (List.mem_of_mem_take hk))
        have h2 : (kk.take m).length = m := by rw [List.length_take, hkl]; omega
        rw [h2, if_neg (by omega), hs1] at h1
        exact h1)))
      have hd8 : s.2.1 ≤ 8 := hok.d8
      have he8 : s'.2.1 ≤ 8 := hok'.d8
      clear hs1 hok hok' hpre hlen hlen' hde hlay2 HK11 HR1
      obtain ⟨long, d, us⟩ := s
      obtain ⟨short, e, us'⟩ := s'
      simp only at hd8 he8
      have HLS : Hid (Calls Fagg.prog 23 #[.slice (some ⟨g, 0, none⟩) m m] w1 fun ee w' => ∃ aP cP, ee = .returned (.tuple #[.slice aP long.length cP, .int .u8 (d : Int), .int .u8 0, .bool true]) ∧ RowAt w' aP (psCells long) ∧ Below w1.heap.size w1 w') := hide ((unhide HL1).mono fun ee w' h => by
        obtain ⟨h1, aP, cP, h2, h3⟩ := h
        exact ⟨aP, cP, h2, h3, h1⟩)
      have HLT := hide (fun (W : World) (hW : Below w1.heap.size w1 W) => show Calls Fagg.prog 23 #[.slice (some ⟨g, 0, none⟩) m m] W (fun ee w' => ∃ aP cP, ee = .returned (.tuple #[.slice aP short.length cP, .int .u8 (e : Int), .int .u8 0, .bool true]) ∧ RowAt w' aP (psCells short) ∧ Below W.heap.size W w') from (unhide HL2 W hW).mono fun ee w' h => by
        obtain ⟨h1, aP, cP, h2, h3⟩ := h
        exact ⟨aP, cP, h2, h3, h1⟩)
      clear HL1 HL2
      refine wp_seq_k (fun K0 hK0 => ?_)
      have HC0 := hide hK0
      clear hK0
      go_wp2_with (go_at_call 23; with_reducible refine (unhide HLS).mono ?_; rintro ee w2 ⟨aL, cL, rfl, hr2, hb2⟩; have HB2 := hide hb2; have HRL := hide hr2; clear hb2 hr2)
      refine unhide HC0 _ _ ?_
      clear HC0
      have HL3 := hide (unhide HLT w2 (unhide HB2))
      clear HLS HLT
      refine wp_seq_k (fun K0 hK0 => ?_)
      have HC0 := hide hK0
      clear hK0
      go_wp2_with fail
      refine unhide HC0 _ _ ?_
      clear HC0
      refine wp_seq_k (fun K0 hK0 => ?_)
      have HC0 := hide hK0
      clear hK0
      go_wp2_with (go_at_call 23; with_reducible refine (unhide HL3).mono ?_; rintro ee w3 ⟨aS, cS, rfl, hr3, hb3⟩; have HRL3 := hide ((unhide HRL).below hb3); have HRS := hide hr3; have HB3 := hide ((unhide HB1).trans (((unhide HB2).trans (hb3.mono (unhide HB2).size)).mono (unhide HB1).size)); clear hb3 hr3)
      refine unhide HC0 _ _ ?_
      clear HC0
      clear HL3 HB2 HRL HB1
      obtain ⟨hok, hok', hpre, hlen, hlen', hde⟩ := unhide HS
      try simp only at hpre hlen hlen'
      clear HS
      have hl100 : long.length ≤ 100 := by have := unhide HKL; omega
      have hs100 : short.length ≤ 100 := by rw [hlen']; omega
      have HFL := hide (filled_any aL cL d long aV nV cV vs w3 (unhide HRL3) (fun p hp => ⟨(hok.ok p hp).1, by have h1 := (hok.ok p hp).2; have h2 : 0 < 2 ^ p.1 := Nat.two_pow_pos _; simp only at h1; omega⟩) hd8 (unhide HVB w3 (unhide HB3)) (unhide HNV) (unhide HVS) hl100)
      have HRG1 := hide (fun (j : Nat) (hj : j < short.length) => (show fieldOf (intsN (fillN (fun j => (vs.getD j 0).toNat) (arr0 d) long 0)) d (short.getD j (0, 0)).2 (short.getD j (0, 0)).1 = wantZ vs m j (short.getD j (0, 0)).1 from by
        have hj2 : j < m := by rw [← hlen']; exact hj
        have e1 : short.getD j (0, 0) = long.getD j (0, 0) := by rw [hpre]; exact take_getD hj2
        rw [e1]
        exact law_long (unhide HVS) hok m j hj2 (by rw [hlen, unhide HKL]; omega)))
      have HRG2 := hide (fun (j : Nat) (hj : j < long.length) => (law_long (unhide HVS) hok long.length j hj hj))
      have HRG3 := hide (fun (j : Nat) (hj : j < long.length) => (law_short (unhide HVS) hok hok' m hpre hlen' j hj))
      have HQL : Hid (∀ p ∈ long, ShOK p.1 ∧ p.2 * 2 ^ p.1 < 512) := hide (fun p hp => ⟨(hok.ok p hp).1, by have h1 := (hok.ok p hp).2; have h2 : 0 < 2 ^ p.1 := Nat.two_pow_pos _; simp only at h1; omega⟩)
      have HQS : Hid (∀ p ∈ short, ShOK p.1 ∧ p.2 * 2 ^ p.1 < 512) := hide (fun p hp => ⟨(hok'.ok p hp).1, by have h1 := (hok'.ok p hp).2; have h2 : 0 < 2 ^ p.1 := Nat.two_pow_pos _; simp only at h1; omega⟩)
      have HFS := hide (fun (W : World) (hW : Below w3.heap.size w3 W) => filled_any aS cS e short aV nV cV vs W ((unhide HRS).below hW) (fun p hp => ⟨(hok'.ok p hp).1, by have h1 := (hok'.ok p hp).2; have h2 : 0 < 2 ^ p.1 := Nat.two_pow_pos _; simp only at h1; omega⟩) he8 (unhide HVB W ((unhide HB3).trans (hW.mono (unhide HB3).size))) (unhide HNV) (unhide HVS) hs100)
      have HV3 := hide (fun (W : World) (hW : Below w3.heap.size w3 W) => unhide HVB W ((unhide HB3).trans (hW.mono (unhide HB3).size)))
      have HL100 := hide hl100
      have HS100 := hide hs100
      clear hok hok' hpre hlen hlen' hde hl100 hs100 HVB hkl
      refine wp_seq_k (fun K0 hK0 => ?_)
      have HC0 := hide hK0
      clear hK0
      go_wp2_with fail
      refine unhide HC0 _ _ ?_
      clear HC0
      refine wp_seq_k (fun K0 hK0 => ?_)
      have HC0 := hide hK0
      clear hK0
      go_wp2_with (go_at_call 24; with_reducible refine (unhide HFL).mono ?_; rintro ee w4 ⟨gA, cA, rfl, hsl4, hln4, hb4⟩; have HA4 := hide hsl4; have HB4 := hide hb4; clear hsl4 hln4 hb4)
      refine unhide HC0 _ _ ?_
      clear HC0
      clear HFL
      have HG1 := hide (gets_any (some ⟨gA, 0, none⟩) (1 + d) cA d _ aS cS short aV nV cV vs m w4 (arrOK_fill (s := (long, d, us)) hd8 (unhide HA4) (unhide HRG1)) ((unhide HRS).below (unhide HB4)) (unhide HQS) (unhide HV3 w4 (unhide HB4)) (unhide HNV) (unhide HVS) (unhide HS100))
      have HG2 := hide (fun (W : World) (hW : Below w4.heap.size w4 W) => gets_any (some ⟨gA, 0, none⟩) (1 + d) cA d _ aL cL long aV nV cV vs long.length W (arrOK_fill (s := (long, d, us)) hd8 ((unhide HA4).below hW) (unhide HRG2)) ((unhide HRL3).below ((unhide HB4).trans (hW.mono (unhide HB4).size))) (unhide HQL) (unhide HV3 W ((unhide HB4).trans (hW.mono (unhide HB4).size))) (unhide HNV) (unhide HVS) (unhide HL100))
      refine wp_seq_k (fun K0 hK0 => ?_)
      have HC0 := hide hK0
      clear hK0
      go_wp2_with (first | (go_at_call 25; with_reducible refine (unhide HG1).mono ?_; rintro ee w5 ⟨rfl, hb5⟩; have HB5 := hide hb5; have HG5 := hide (unhide HG2 w5 hb5); clear hb5) | (go_at_call 25; with_reducible refine (unhide HG5).mono ?_; rintro ee w6 ⟨rfl, hb6⟩; have HB6 := hide ((unhide HB5).trans (hb6.mono (unhide HB5).size)); clear hb6))
      refine unhide HC0 _ _ ?_
      clear HC0
      have HB7 := hide ((unhide HB4).trans ((unhide HB6).mono (unhide HB4).size))
      have HF6 := hide (unhide HFS w6 (unhide HB7))
      clear HG1 HG2 HG5 HB4 HB5 HB6 HFS HA4 HRG1 HRG2
      refine wp_seq_k (fun K0 hK0 => ?_)
      have HC0 := hide hK0
      clear hK0
      go_wp2_with (go_at_call 24; with_reducible refine (unhide HF6).mono ?_; rintro ee w8 ⟨gB, cB, rfl, hsl8, hln8, hb8⟩; have HA8 := hide hsl8; have HB8 := hide ((unhide HB7).trans (hb8.mono (unhide HB7).size)); clear hsl8 hln8 hb8)
      refine unhide HC0 _ _ ?_
      clear HC0
      clear HF6
      have HG3 := hide (gets_any (some ⟨gB, 0, none⟩) (1 + e) cB e _ aL cL long aV nV cV vs m w8 (arrOK_fill (s := (short, e, us')) he8 (unhide HA8) (unhide HRG3)) ((unhide HRL3).below (unhide HB8)) (unhide HQL) (unhide HV3 w8 (unhide HB8)) (unhide HNV) (unhide HVS) (unhide HL100))
      go_wp2_with (go_at_call 25; with_reducible refine (unhide HG3).mono ?_; rintro ee w9 ⟨rfl, hb9⟩; have HB9 := hide ((unhide HB3).trans (((unhide HB8).trans (hb9.mono (unhide HB8).size)).mono (unhide HB3).size)); clear hb9)
      go_ret
      exact ⟨rfl, unhide HB9⟩
end Go.Proofs.Ygcfag
