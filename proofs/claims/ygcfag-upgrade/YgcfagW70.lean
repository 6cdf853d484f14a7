/-
  WALKS: smodel.visit's loops over an object's pointers.
-/
import Derived.Test.YgcfagW68
import Derived.Test.YgcfagPlain19
namespace Go.Proofs.Ygcfag
open Go.RowKit
set_option linter.unusedVariables false
set_option linter.unusedSimpArgs false

def kn (l sg : Nat) (ks : List Nat) : List (Nat × Nat × Nat) := ks.map fun k => (l, sg, k)
theorem kn_append (l sg : Nat) (ks js : List Nat) : kn l sg (ks ++ js) = kn l sg ks ++ kn l sg js := by simp [kn]

/-- The pointers of element e ahead of the i-th. -/
def kidL (at_ each D e i : Nat) : List Nat := (List.range i).map fun i => at_ + e * each + D + i
theorem kidL_succ (at_ each D e i : Nat) : kidL at_ each D e (i + 1) = kidL at_ each D e i ++ [at_ + e * each + D + i] := by simp [kidL, List.range_succ]
theorem kidsE_succ (at_ each D K e : Nat) : kidsE at_ each D K (e + 1) = kidsE at_ each D K e ++ kidL at_ each D e K := by simp [kidsE, kidL, List.range_succ]
theorem kidL_pre (at_ each D e : Nat) {i K : Nat} (h : i ≤ K) : kidL at_ each D e i <+: kidL at_ each D e K := by
  induction h with
  | refl => exact List.prefix_refl _
  | step _ ih => rw [kidL_succ]; exact ih.trans (List.prefix_append _ _)
theorem kidsE_pre (at_ each D K : Nat) {e E : Nat} (h : e ≤ E) : kidsE at_ each D K e <+: kidsE at_ each D K E := by
  induction h with
  | refl => exact List.prefix_refl _
  | step _ ih => rw [kidsE_succ]; exact ih.trans (List.prefix_append _ _)
theorem kids_split {at_ each D K e E i : Nat} (he : e < E) (hi : i < K) : ∃ post, kidsE at_ each D K E = (kidsE at_ each D K e ++ kidL at_ each D e i) ++ [at_ + e * each + D + i] ++ post := by
  obtain ⟨p1, h1⟩ := kidL_pre at_ each D e (show i + 1 ≤ K by omega)
  obtain ⟨p2, h2⟩ := kidsE_pre at_ each D K (show e + 1 ≤ E by omega)
  refine ⟨p1 ++ p2, ?_⟩
  rw [← h2, kidsE_succ, ← h1, kidL_succ]; simp

theorem FB_part {ms : List (List Int)} {L x y post : List (Nat × Nat × Nat)} (h : FB ms (L ++ itemsL ms x) y = false) : FB ms L (x ++ y ++ post) = false := by
  rw [FB_append, FB_append, h]; simp

set_option maxHeartbeats 1000000 in
set_option maxRecDepth 100000 in
theorem vis_loops {R : Ending → World → Prop} (ms : List (List Int)) (a : Option Addr) (n c sg l g b A at_ each D K E : Nat) (L : List (Nat × Nat × Nat)) (w : World) (hl1 : 1 ≤ l ∧ l ≤ 8) (hA : A < w.heap.size) (hAg : A ≠ g) (hAb : A ≠ b) (hc : w.cell? ⟨A, 0, none⟩ = some (.int .u8 (sg : Int))) (hsg : sg < 256) (hea : each ≤ 256) (hE : E ≤ 256) (hD : D ≤ 256) (hK : K ≤ 256) (hat : at_ ≤ 256) (hkin : ∀ k ∈ kidsE at_ each D K E, k < 65536) (hseen : SeenAt w g b L) (hfr : L.length + freeN ms L ≤ 300) (hw : ∀ i, Wds (ms.getD i []))
    (HIH : Hid (∀ (k bk : Nat) (Lk : List (Nat × Nat × Nat)) (W : World), k < 65536 → SeenStep g b bk w W → SeenAt W g bk Lk → Lk.length + freeN ms Lk ≤ 300 → Calls Fagg.prog 80 #[.slice a n c, .int .u8 (sg : Int), .int .i64 (k : Int), .int .i64 ((l : Int) - 1), .pointer (some ⟨g, 0, none⟩)] W fun e w' => e = .returned (.bool (FB ms Lk [(l - 1, sg, k)])) ∧ ∃ b', SeenStep g bk b' W w' ∧ (FB ms Lk [(l - 1, sg, k)] = true → SeenAt w' g b' (Lk ++ itemsL ms [(l - 1, sg, k)]))))
    (hR : Hid (∀ (B : Bool) (w' : World) (b' : Nat), B = FB ms L (kn (l - 1) sg (kidsE at_ each D K E)) → SeenStep g b b' w w' → (B = true → SeenAt w' g b' (L ++ itemsL ms (kn (l - 1) sg (kidsE at_ each D K E)))) → R (.returned (.bool B)) w'))
    (u1 u2 u5 u6 u7 u8 u9 u10 u12 u13 u16 u20 u21 u22 u23 u24 u25 u26 u27 u28 u29 u30 u31 u32 u33 u34 u35 u36 u37 u38 u39 u40 u41 u42 u43 u44 u45 u46 u47 u48 u49 u50 u51 u52 u53 u54 u55 u56 u57 u58 u59 u60 u61 u62 u63 u64 u65 u66 u67 u68 u69 u70 u71 u72 u73 u74 u75 u76 u77 u78 u79 u80 u81 u82 u83 u84 u85 u86 u87 u88 u89 u90 u91 u92 u93 u94 u95 u96 u97 u98 u99 u100 u101 u102 u103 u104 u105 u106 u107 u108 u109 u110 u111 u112 u113 u114 u115 u116 u117 u118 u119 u120 u121 u122 u123 u124 u125 u126 u127 u128 u129 u130 u131 u132 u133 u134 u135 u136 u137 u138 u139 u140 : Value) :
    Code.wp Fagg.prog (bodyAt Fagg.f80 [1, 1, 1, 1, 1, 1, 1, 1, 1, 1]) (bodyPost Fagg.prog Fagg.f80 R) ⟨List.toArray ((.slice a n c) :: u1 :: u2 :: (.int .i64 (l : Int)) :: (.pointer (some ⟨g, 0, none⟩)) :: u5 :: u6 :: u7 :: u8 :: u9 :: u10 :: (.pointer (some ⟨A, 0, none⟩)) :: u12 :: u13 :: (.int .i64 (at_ : Int)) :: (.int .i64 (each : Int)) :: u16 :: (.int .i64 (E : Int)) :: (.int .i64 (D : Int)) :: (.int .i64 (K : Int)) :: u20 :: u21 :: u22 :: u23 :: u24 :: u25 :: u26 :: u27 :: u28 :: u29 :: u30 :: u31 :: u32 :: u33 :: u34 :: u35 :: u36 :: u37 :: u38 :: u39 :: u40 :: u41 :: u42 :: u43 :: u44 :: u45 :: u46 :: u47 :: u48 :: u49 :: u50 :: u51 :: u52 :: u53 :: u54 :: u55 :: u56 :: u57 :: u58 :: u59 :: u60 :: u61 :: u62 :: u63 :: u64 :: u65 :: u66 :: u67 :: u68 :: u69 :: u70 :: u71 :: u72 :: u73 :: u74 :: u75 :: u76 :: u77 :: u78 :: u79 :: u80 :: u81 :: u82 :: u83 :: u84 :: u85 :: u86 :: u87 :: u88 :: u89 :: u90 :: u91 :: u92 :: u93 :: u94 :: u95 :: u96 :: u97 :: u98 :: u99 :: u100 :: u101 :: u102 :: u103 :: u104 :: u105 :: u106 :: u107 :: u108 :: u109 :: u110 :: u111 :: u112 :: u113 :: u114 :: u115 :: u116 :: u117 :: u118 :: u119 :: u120 :: u121 :: u122 :: u123 :: u124 :: u125 :: u126 :: u127 :: u128 :: u129 :: u130 :: u131 :: u132 :: u133 :: u134 :: u135 :: u136 :: u137 :: u138 :: u139 :: u140 :: []), []⟩ w := by
  conv => arg 2; whnf
  have HSEEN := hide hseen
  have HKIN := hide hkin
  have HWDS := hide hw
  have HFR := hide hfr
  clear hseen hkin hw hfr
  go_wp2_with fail
  go_loopw [20] (fun s1 wr => ∃ (e bk : Nat), s1 = .int .i64 (e : Int) ∧ e ≤ E ∧ Hid (SeenStep g b bk w wr) ∧ Hid (SeenAt wr g bk (L ++ itemsL ms (kn (l - 1) sg (kidsE at_ each D K e)))) ∧ Hid (FB ms L (kn (l - 1) sg (kidsE at_ each D K e)) = true)) (fun s1 _ => E - (intOf s1).toNat)
  case atStart => exact ⟨0, b, rfl, by omega, hide (SeenStep.of_below (Below.refl _ _)), hide (by have := unhide HSEEN; simpa [kidsE, kn, itemsL] using this), hide (by simp [kidsE, kn, FB_nil])⟩
  case round =>
    obtain ⟨e, bk, rfl, he, HST, HSE, HFB⟩ := hrel
    by_cases hlt : e < E
    · have hlt' : (e : Int) < (E : Int) := by omega
      go_wp2_with fail
      go_loopw [21] (fun s1 wr => ∃ (i bk : Nat), s1 = .int .i64 (i : Int) ∧ i ≤ K ∧ Hid (SeenStep g b bk w wr) ∧ Hid (SeenAt wr g bk (L ++ itemsL ms (kn (l - 1) sg (kidsE at_ each D K e ++ kidL at_ each D e i)))) ∧ Hid (FB ms L (kn (l - 1) sg (kidsE at_ each D K e ++ kidL at_ each D e i)) = true)) (fun s1 _ => K - (intOf s1).toNat)
      case atStart => exact ⟨0, bk, rfl, by omega, HST, hide (by have := unhide HSE; simpa [kidL] using this), hide (by have := unhide HFB; simpa [kidL] using this)⟩
      case round =>
        clear HST HSE HFB bk
        obtain ⟨i, bk, rfl, hi, HST, HSE, HFB⟩ := hrel
        have hsz := (unhide HST).size
        have r0 := ((unhide HST).cell (p := ⟨A, 0, none⟩) hA hAg hAb).trans hc
        by_cases hil : i < K
        · have hil' : (i : Int) < (K : Int) := by omega
          obtain ⟨post, hpost⟩ := kids_split (at_ := at_) (each := each) (D := D) hlt hil
          have hk1 : at_ + e * each + D + i < 65536 := unhide HKIN _ (by rw [hpost]; simp)
          have hm1 : (0 : Int) ≤ (e : Int) * (each : Int) := Int.mul_nonneg (by omega) (by omega)
          have hm2 : (e : Int) * (each : Int) ≤ 256 * 256 := Int.mul_le_mul (by omega) (by omega) (by omega) (by omega)
          have hcast : ((at_ + e * each + D + i : Nat) : Int) = (at_ : Int) + (e : Int) * (each : Int) + (D : Int) + (i : Int) := by simp
          have HC := hide (unhide HIH (at_ + e * each + D + i) bk _ wr hk1 (unhide HST) (unhide HSE) (by have h1 := FB_free (unhide HWDS) (unhide HFB); have h2 := unhide HFR; omega))
          rw [hcast] at HC
          have HPO := hide hpost
          clear hcast hpost
          cases hB : FB ms (L ++ itemsL ms (kn (l - 1) sg (kidsE at_ each D K e ++ kidL at_ each D e i))) [(l - 1, sg, at_ + e * each + D + i)] with
          | true =>
            rw [hB] at HC
            have HB := hide hB
            clear hB
            go_wp2_with (go_at_call 80; with_reducible refine (unhide HC).mono ?_; rintro e' w1 ⟨rfl, b1, hs1, hs2⟩; have HS1 := hide hs1; have HS2 := hide (hs2 rfl); clear hs1 hs2)
            refine ⟨⟨i + 1, b1, by go_num, by omega, hide ((unhide HST).trans (unhide HS1)), hide ?_, hide ?_⟩, by simp [intOf]; omega⟩
            · have h := unhide HS2
              rw [List.append_assoc, ← itemsL_append] at h
              rw [kidL_succ, ← List.append_assoc, kn_append]; exact h
            · rw [kidL_succ, ← List.append_assoc, kn_append, FB_append, unhide HFB]
              simpa [kn] using unhide HB
          | false =>
            rw [hB] at HC
            have HB := hide hB
            clear hB
            go_wp2_with (go_at_call 80; with_reducible refine (unhide HC).mono ?_; rintro e' w1 ⟨rfl, b1, hs1, hs2⟩; have HS1 := hide hs1; clear hs1 hs2)
            show R (.returned (.bool false)) w1
            refine unhide hR false w1 b1 ?_ ((unhide HST).trans (unhide HS1)) (fun h => by cases h)
            rw [unhide HPO, kn_append, kn_append]
            exact (FB_part (by simpa [kn] using unhide HB)).symm
        · have hil' : ¬ (i : Int) < (K : Int) := by omega
          obtain rfl : i = K := by omega
          go_wp2_with fail
          exact ⟨⟨e + 1, bk, by go_num, by omega, HST, by rw [kidsE_succ]; exact HSE, by rw [kidsE_succ]; exact HFB⟩, by simp [intOf]; omega⟩
    · have hlt' : ¬ (e : Int) < (E : Int) := by omega
      obtain rfl : e = E := by omega
      go_wp2_with fail
      show R (.returned (.bool true)) _
      exact unhide hR true _ bk (unhide HFB).symm (unhide HST) (fun _ => unhide HSE)
end Go.Proofs.Ygcfag
