/-
  WALKS: law's typesOf.
-/
import Derived.Test.YgcfagW119
namespace Go.Proofs.Ygcfag
open Go.RowKit
set_option linter.unusedVariables false
set_option linter.unusedSimpArgs false

theorem tsCells_zero (m : Nat) : tsCells (List.replicate m 0) = List.replicate (m * 4) (.int .u8 0) := by
  induction m with
  | zero => rfl
  | succ m ih => rw [List.replicate_succ, tsCells_cons, ih, show (m + 1) * 4 = m * 4 + 1 + 1 + 1 + 1 by omega, List.replicate_succ, List.replicate_succ, List.replicate_succ, List.replicate_succ]; rfl
theorem made_ts (m : Nat) : (madeCells (Value.agg #[.int .u8 0, .int .u8 0, .int .u8 0, .int .u8 0]).cells (m * 4)).toList = tsCells (List.replicate m 0) := by
  rw [tsCells_zero]
  apply List.ext_getElem?
  intro j
  have hz : ∀ r, r < 4 → (#[Value.int .u8 0, .int .u8 0, .int .u8 0, .int .u8 0] : Array Value)[r]! = .int .u8 0 := by
    intro r hr
    match r, hr with
    | 0, _ => rfl
    | 1, _ => rfl
    | 2, _ => rfl
    | 3, _ => rfl
  by_cases hj : j < m * 4
  · have h1 : (madeCells (Value.agg #[.int .u8 0, .int .u8 0, .int .u8 0, .int .u8 0]).cells (m * 4)).toList[j]? = some ((#[Value.int .u8 0, .int .u8 0, .int .u8 0, .int .u8 0] : Array Value)[j % 4]!) := by
      simp [madeCells, hj, Value.cells]
    rw [h1, hz _ (Nat.mod_lt _ (by omega))]
    simp [hj]
  · simp [madeCells, hj]
theorem laid_full (ks : List Int) (m : Nat) : laid ks m m = kindN ks m := by simp [laid]
theorem row_of_own {w : World} {base : Nat} {e : TypeId} {size g n cap : Nat} {xs : List Value} (h : w.ownsRow base e size (.slice (some ⟨g, 0, none⟩) n cap) n xs) : RowAt w (some ⟨g, 0, none⟩) xs :=
  .inr ⟨g, 0, rfl, fun i u hi => by
    have hl : i < xs.length := (List.getElem?_eq_some_iff.1 hi).1
    rw [Nat.zero_add, h.cellAt i (by rw [h.1] at hl; exact hl)]; exact hi⟩
theorem laid_zero (ks : List Int) (m : Nat) : laid ks m 0 = List.replicate m 0 := by simp [laid, kindN]

set_option maxHeartbeats 2000000 in
set_option maxRecDepth 100000 in
theorem typesOf_any (a : Option Addr) (n c : Nat) (ks : List Int) (w : World) (hs : Sl .u8 w a ks) (hn : ks.length = n) (hc : n ≤ c) (ha : a = none → n = 0 ∧ c = 0) (hk : ∀ x ∈ ks, 0 ≤ x ∧ x < 256) :
    Calls Fagg.prog 22 #[.slice a n c, .int .u8 11] w fun e w' => ∃ g, e = .returned (.slice (some ⟨g, 0, none⟩) (min n 17) (min n 17)) ∧ RowAt w' (some ⟨g, 0, none⟩) (tsCells (kindN ks (min n 17))) ∧ Below w.heap.size w w' := by
  obtain ⟨i0, hi0, hz0, hz1, hz2⟩ := info_parts info110
  by_cases hle : n ≤ 17
  · rw [Nat.min_eq_left hle]
    have hby : i0.bytes * n ≤ 281474976710656 := by rw [hz2]; omega
    have h63 : n ≤ maxLen := by unfold maxLen; omega
    have d1 : decide ((n : Int) ≤ 17) = true := decide_eq_true (by omega)
    have d2 : (n : Int) ≤ 17 := by omega
    rcases a with _ | ad
    · obtain ⟨rfl, rfl⟩ := ha rfl
      go_enter Fagg.func22, Fagg.ntmps22
      refine wp_seq_k (fun K0 hK0 => ?_)
      have HC0 := hide hK0
      clear hK0
      go_wp2_with fail
      refine unhide HC0 _ _ ?_
      clear HC0
      refine wp_seq_k (fun K0 hK0 => ?_)
      have HC0 := hide hK0
      clear hK0
      go_wp2_with fail
      refine unhide HC0 _ _ ?_
      clear HC0
      refine wp_seq_k (fun K0 hK0 => ?_)
      have HC0 := hide hK0
      clear hK0
      go_wp2_with (refine wpList_makeN w rfl _ _ 45 rfl w.heap.size 110 i0 (.agg #[.int .u8 0, .int .u8 0, .int .u8 0, .int .u8 0]) 4 Fagg.underlying45 hi0 hz0 hz1 .i64 .i64 0 rfl rfl hby h63 (Nat.le_refl _) ?_; intro w1 ho1 hg1; have HB1 := hide ((Below.refl w.heap.size w).grown hg1 (Nat.le_refl _) (by simp)); have HO1 := hide ho1; clear ho1 hg1)
      refine unhide HC0 _ _ ?_
      clear HC0
      have H1 : Hid (Below w.heap.size w w1 ∧ w1.ownsRow w.heap.size 110 4 (.slice (some ⟨w.heap.size, 0, none⟩) 0 0) 0 (tsCells (laid ks 0 0))) := hide ⟨unhide HB1, by rw [laid_zero, ← made_ts]; exact unhide HO1⟩
      clear HB1 HO1
      have HSB := hide (fun (W : World) (hW : Below w.heap.size w W) => hs.below hW)
      have HKB := hide hk
      have HNL : Hid (0 ≤ ks.length) := hide (by omega)
      clear hs hk hn hby h63 ha hc hz0 hz1 hz2 hi0
      generalize hgg : w.heap.size = g at H1 HSB ⊢
      have HGG := hide hgg
      clear hgg
      go_wp2_with fail
      go_loopg [18] 0 (fun r s wr => ∃ j : Nat, r = 0 - j ∧ j ≤ 0 ∧ s = .int .i64 (j : Int) ∧ Hid (Below g w wr ∧ wr.ownsRow g 110 4 (.slice (some ⟨g, 0, none⟩) 0 0) 0 (tsCells (laid ks 0 j))))
      case atStart => exact ⟨0, rfl, Nat.zero_le _, rfl, H1⟩
      case round =>
        obtain ⟨j, rfl, hj, rfl, HR⟩ := hrel
        clear H1
        by_cases hjm : j < 0
        · omega
        · have hjm2 : j = 0 := by omega
          obtain ⟨hbr, hor⟩ := unhide HR
          have d4 : decide ((j : Int) < (0 : Int)) = false := decide_eq_false (by omega)
          rw [hjm2, laid_full ks] at hor
          have HRO := hide (row_of_own hor)
          have HBE := hide hbr
          clear hor hbr HR
          subst hjm2
          go_wp2_with fail
          go_ret
          exact ⟨g, rfl, unhide HRO, unhide HBE⟩
    · go_enter Fagg.func22, Fagg.ntmps22
      refine wp_seq_k (fun K0 hK0 => ?_)
      have HC0 := hide hK0
      clear hK0
      go_wp2_with fail
      refine unhide HC0 _ _ ?_
      clear HC0
      refine wp_seq_k (fun K0 hK0 => ?_)
      have HC0 := hide hK0
      clear hK0
      go_wp2_with fail
      refine unhide HC0 _ _ ?_
      clear HC0
      refine wp_seq_k (fun K0 hK0 => ?_)
      have HC0 := hide hK0
      clear hK0
      go_wp2_with (refine wpList_makeN w rfl _ _ 45 rfl w.heap.size 110 i0 (.agg #[.int .u8 0, .int .u8 0, .int .u8 0, .int .u8 0]) 4 Fagg.underlying45 hi0 hz0 hz1 .i64 .i64 n rfl rfl hby h63 (Nat.le_refl _) ?_; intro w1 ho1 hg1; have HB1 := hide ((Below.refl w.heap.size w).grown hg1 (Nat.le_refl _) (by simp)); have HO1 := hide ho1; clear ho1 hg1)
      refine unhide HC0 _ _ ?_
      clear HC0
      have H1 : Hid (Below w.heap.size w w1 ∧ w1.ownsRow w.heap.size 110 4 (.slice (some ⟨w.heap.size, 0, none⟩) n n) n (tsCells (laid ks n 0))) := hide ⟨unhide HB1, by rw [laid_zero, ← made_ts]; exact unhide HO1⟩
      clear HB1 HO1
      have HSB := hide (fun (W : World) (hW : Below w.heap.size w W) => hs.below hW)
      have HKB := hide hk
      have HNL : Hid (n ≤ ks.length) := hide (by omega)
      clear hs hk hn hby h63 ha hc hz0 hz1 hz2 hi0
      generalize hgg : w.heap.size = g at H1 HSB ⊢
      have HGG := hide hgg
      clear hgg
      go_wp2_with fail
      go_loopg [18] n (fun r s wr => ∃ j : Nat, r = n - j ∧ j ≤ n ∧ s = .int .i64 (j : Int) ∧ Hid (Below g w wr ∧ wr.ownsRow g 110 4 (.slice (some ⟨g, 0, none⟩) n n) n (tsCells (laid ks n j))))
      case atStart => exact ⟨0, rfl, Nat.zero_le _, rfl, H1⟩
      case round =>
        obtain ⟨j, rfl, hj, rfl, HR⟩ := hrel
        clear H1
        by_cases hjm : j < n
        · obtain ⟨hbr, hor⟩ := unhide HR
          have hnl := unhide HNL
          obtain ⟨b, o, rfl, hcx⟩ : ∃ b o, ad = ⟨b, o, none⟩ ∧ wr.cell? ⟨b, o + j, none⟩ = some (.int .u8 (ks.getD j 0)) := by
            rcases unhide HSB wr hbr with h0 | ⟨b, o, ha, hc⟩
            · exfalso; subst h0; simp only [List.length_nil] at hnl; omega
            · exact ⟨b, o, Option.some.inj ha, hc j (by omega)⟩
          have hx : 0 ≤ ks.getD j 0 ∧ ks.getD j 0 < 256 := by
            rw [List.getD_eq_getElem?_getD, List.getElem?_eq_getElem (by omega)]
            exact unhide HKB _ (List.getElem_mem _)
          have hst := hor.stored (j * 4) (.int .u8 (((ks.getD j 0 % 11).toNat : Nat) : Int))
          rw [tsCells_set _ _ _ (by rw [laid_len ks _ _ hj hnl]; exact hjm), laid_set ks _ _ hjm hnl] at hst
          have hy := hor.cellAt (j * 4) (by omega)
          rw [show j * 4 = 4 * j + 0 by omega, tsCells_get _ _ 0 (by rw [laid_len ks _ _ hj hnl]; exact hjm) (by omega)] at hy
          have hy0 : wr.cell? ⟨g, j * 4, none⟩ = some (.int .u8 (((laid ks n j).getD j 0 : Nat) : Int)) := by rw [show j * 4 = 4 * j + 0 by omega]; exact hy
          have hyf := hor.frozenAt (j * 4)
          have hbs := hbr.grown hst.2 (by rw [← unhide HGG]; exact hbr.size) (fun k hk => by have := Option.some.inj hk; omega)
          have hm11 : (((ks.getD j 0 % 11).toNat : Nat) : Int) = ks.getD j 0 % 11 := by omega
          rw [hm11] at hst hbs
          have HST := hide (And.intro hbs hst.1)
          have ht11 : (ks.getD j 0).tmod 11 = ks.getD j 0 % 11 := Int.tmod_eq_emod_of_nonneg hx.1
          have d4 : decide ((j : Int) < (n : Int)) = true := decide_eq_true (by omega)
          have b0 : (0 : Int) ≤ (j : Int) := by omega
          have b1 : (j : Int) < (n : Int) := by omega
          have HWJ : Hid (wrap64 ((j : Int) + 1) = ((j + 1 : Nat) : Int)) := hide (by unfold wrap64; omega)
          generalize ks.getD j 0 = x at *
          generalize (laid ks n j).getD j 0 = y at *
          have HJM := hide hjm
          clear hst hbs hy hor hbr HR hx hm11 HSB HKB HNL hnl hjm
          go_wp2_with fail
          go_roundg (n - (j + 1))
          case measure => have := unhide HJM; omega
          case rel => exact ⟨j + 1, rfl, unhide HJM, by simp, HST⟩
        · have hjm2 : j = n := by omega
          obtain ⟨hbr, hor⟩ := unhide HR
          have d4 : decide ((j : Int) < (n : Int)) = false := decide_eq_false (by omega)
          rw [hjm2, laid_full ks] at hor
          have HRO := hide (row_of_own hor)
          have HBE := hide hbr
          clear hor hbr HR
          subst hjm2
          go_wp2_with fail
          go_ret
          exact ⟨g, rfl, unhide HRO, unhide HBE⟩
  · rw [Nat.min_eq_right (by omega)]
    have hby : i0.bytes * 17 ≤ 281474976710656 := by rw [hz2]; omega
    have h63 : 17 ≤ maxLen := by unfold maxLen; omega
    have d1 : decide ((n : Int) ≤ 17) = false := decide_eq_false (by omega)
    have d2 : ¬ (n : Int) ≤ 17 := by omega
    have d3 : (17 : Int) ≤ (c : Int) := by omega
    rcases a with _ | ad
    · obtain ⟨rfl, rfl⟩ := ha rfl
      omega
    · go_enter Fagg.func22, Fagg.ntmps22
      refine wp_seq_k (fun K0 hK0 => ?_)
      have HC0 := hide hK0
      clear hK0
      go_wp2_with fail
      refine unhide HC0 _ _ ?_
      clear HC0
      refine wp_seq_k (fun K0 hK0 => ?_)
      have HC0 := hide hK0
      clear hK0
      go_wp2_with fail
      refine unhide HC0 _ _ ?_
      clear HC0
      refine wp_seq_k (fun K0 hK0 => ?_)
      have HC0 := hide hK0
      clear hK0
      go_wp2_with (refine wpList_makeN w rfl _ _ 45 rfl w.heap.size 110 i0 (.agg #[.int .u8 0, .int .u8 0, .int .u8 0, .int .u8 0]) 4 Fagg.underlying45 hi0 hz0 hz1 .i64 .i64 17 rfl rfl hby h63 (Nat.le_refl _) ?_; intro w1 ho1 hg1; have HB1 := hide ((Below.refl w.heap.size w).grown hg1 (Nat.le_refl _) (by simp)); have HO1 := hide ho1; clear ho1 hg1)
      refine unhide HC0 _ _ ?_
      clear HC0
      have H1 : Hid (Below w.heap.size w w1 ∧ w1.ownsRow w.heap.size 110 4 (.slice (some ⟨w.heap.size, 0, none⟩) 17 17) 17 (tsCells (laid ks 17 0))) := hide ⟨unhide HB1, by rw [laid_zero, ← made_ts]; exact unhide HO1⟩
      clear HB1 HO1
      have HSB := hide (fun (W : World) (hW : Below w.heap.size w W) => hs.below hW)
      have HKB := hide hk
      have HNL : Hid (17 ≤ ks.length) := hide (by omega)
      clear hs hk hn hby h63 ha hc hz0 hz1 hz2 hi0
      generalize hgg : w.heap.size = g at H1 HSB ⊢
      have HGG := hide hgg
      clear hgg
      go_wp2_with fail
      go_loopg [18] 17 (fun r s wr => ∃ j : Nat, r = 17 - j ∧ j ≤ 17 ∧ s = .int .i64 (j : Int) ∧ Hid (Below g w wr ∧ wr.ownsRow g 110 4 (.slice (some ⟨g, 0, none⟩) 17 17) 17 (tsCells (laid ks 17 j))))
      case atStart => exact ⟨0, rfl, Nat.zero_le _, rfl, H1⟩
      case round =>
        obtain ⟨j, rfl, hj, rfl, HR⟩ := hrel
        clear H1
        by_cases hjm : j < 17
        · obtain ⟨hbr, hor⟩ := unhide HR
          have hnl := unhide HNL
          obtain ⟨b, o, rfl, hcx⟩ : ∃ b o, ad = ⟨b, o, none⟩ ∧ wr.cell? ⟨b, o + j, none⟩ = some (.int .u8 (ks.getD j 0)) := by
            rcases unhide HSB wr hbr with h0 | ⟨b, o, ha, hc⟩
            · exfalso; subst h0; simp only [List.length_nil] at hnl; omega
            · exact ⟨b, o, Option.some.inj ha, hc j (by omega)⟩
          have hx : 0 ≤ ks.getD j 0 ∧ ks.getD j 0 < 256 := by
            rw [List.getD_eq_getElem?_getD, List.getElem?_eq_getElem (by omega)]
            exact unhide HKB _ (List.getElem_mem _)
          have hst := hor.stored (j * 4) (.int .u8 (((ks.getD j 0 % 11).toNat : Nat) : Int))
          rw [tsCells_set _ _ _ (by rw [laid_len ks _ _ hj hnl]; exact hjm), laid_set ks _ _ hjm hnl] at hst
          have hy := hor.cellAt (j * 4) (by omega)
          rw [show j * 4 = 4 * j + 0 by omega, tsCells_get _ _ 0 (by rw [laid_len ks _ _ hj hnl]; exact hjm) (by omega)] at hy
          have hy0 : wr.cell? ⟨g, j * 4, none⟩ = some (.int .u8 (((laid ks 17 j).getD j 0 : Nat) : Int)) := by rw [show j * 4 = 4 * j + 0 by omega]; exact hy
          have hyf := hor.frozenAt (j * 4)
          have hbs := hbr.grown hst.2 (by rw [← unhide HGG]; exact hbr.size) (fun k hk => by have := Option.some.inj hk; omega)
          have hm11 : (((ks.getD j 0 % 11).toNat : Nat) : Int) = ks.getD j 0 % 11 := by omega
          rw [hm11] at hst hbs
          have HST := hide (And.intro hbs hst.1)
          have ht11 : (ks.getD j 0).tmod 11 = ks.getD j 0 % 11 := Int.tmod_eq_emod_of_nonneg hx.1
          have d4 : decide ((j : Int) < (17 : Int)) = true := decide_eq_true (by omega)
          have b0 : (0 : Int) ≤ (j : Int) := by omega
          have b1 : (j : Int) < (17 : Int) := by omega
          have HWJ : Hid (wrap64 ((j : Int) + 1) = ((j + 1 : Nat) : Int)) := hide (by unfold wrap64; omega)
          generalize ks.getD j 0 = x at *
          generalize (laid ks 17 j).getD j 0 = y at *
          have HJM := hide hjm
          clear hst hbs hy hor hbr HR hx hm11 HSB HKB HNL hnl hjm
          go_wp2_with fail
          go_roundg (17 - (j + 1))
          case measure => have := unhide HJM; omega
          case rel => exact ⟨j + 1, rfl, unhide HJM, by simp, HST⟩
        · have hjm2 : j = 17 := by omega
          obtain ⟨hbr, hor⟩ := unhide HR
          have d4 : decide ((j : Int) < (17 : Int)) = false := decide_eq_false (by omega)
          rw [hjm2, laid_full ks] at hor
          have HRO := hide (row_of_own hor)
          have HBE := hide hbr
          clear hor hbr HR
          subst hjm2
          go_wp2_with fail
          go_ret
          exact ⟨g, rfl, unhide HRO, unhide HBE⟩
end Go.Proofs.Ygcfag
