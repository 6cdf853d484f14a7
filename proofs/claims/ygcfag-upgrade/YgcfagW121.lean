/-
  WALKS: schema's fit.
-/
import Derived.Test.YgcfagW120
namespace Go.Proofs.Ygcfag
open Go.RowKit
set_option linter.unusedVariables false
set_option linter.unusedSimpArgs false

def fitB (us : List Nat) (sh i : Nat) : Bool := decide (us.getD (i * 2 ^ sh / 64) 0 / 2 ^ (i * 2 ^ sh % 64) % 2 ^ (2 ^ sh) = 0)
def fitFrom (us : List Nat) (sh : Nat) : Nat → Nat → Option Nat
  | 0, _ => none
  | k + 1, i => if fitB us sh i then some i else fitFrom us sh k (i + 1)
def fitN (us : List Nat) (d sh : Nat) : Option Nat := fitFrom us sh (d * (64 / 2 ^ sh)) 0
def fitV : Nat → Option Nat → Value
  | sh, some i => .tuple #[.int .u16 ((i * 2 ^ sh : Nat) : Int), .bool true]
  | _, none => .tuple #[.int .u16 0, .bool false]

set_option maxHeartbeats 2000000 in
set_option maxRecDepth 100000 in
theorem fit_any (U d sh : Nat) (us : List Nat) (w : World) (hU : ∀ i, i < d → w.cell? ⟨U, i, none⟩ = some (.int .u64 ((us.getD i 0 : Nat) : Int))) (hus : ∀ i, us.getD i 0 < 18446744073709551616) (hd : d ≤ 8) (hsh : ShOK sh) :
    Calls Fagg.prog 59 #[.slice (some ⟨U, 0, none⟩) d d, .int .u8 ((2 ^ sh : Nat) : Int)] w fun e w' => e = .returned (fitV sh (fitN us d sh)) ∧ w' = w := by
  have hP : 64 / 2 ^ sh * 2 ^ sh = 64 := by rcases hsh with rfl | rfl | rfl | rfl | rfl <;> rfl
  have hs64 : 2 ^ sh ≤ 64 ∧ 0 < 2 ^ sh := by rcases hsh with rfl | rfl | rfl | rfl | rfl <;> decide
  unfold fitN
  have HM : Hid (18446744073709551615 / 2 ^ (64 - 2 ^ sh) = (2 : Int) ^ (2 ^ sh) - 1) := hide (by rcases hsh with rfl | rfl | rfl | rfl | rfl <;> decide)
  have e1 : IntKind.u8.wrap (64 - ((2 ^ sh : Nat) : Int)) = ((64 - 2 ^ sh : Nat) : Int) := by rw [IntKind.wrap_u8]; omega
  generalize hs2 : 2 ^ sh = s2 at *
  generalize 64 / s2 = PP at *
  go_enter Fagg.func59, Fagg.ntmps59
  refine wp_seq_k (fun K0 hK0 => ?_)
  have HC0 := hide hK0
  clear hK0
  go_wp2_with fail
  refine unhide HC0 _ _ ?_
  clear HC0
  refine wp_seq_k (fun K0 hK0 => ?_)
  have HC0 := hide hK0
  clear hK0
  go_wp2_with fail
  rw [unhide HM]
  refine unhide HC0 _ _ ?_
  clear HC0
  have HAN : Hid (∀ x : Nat, x < 18446744073709551616 → bits .and .u64 (x : Int) ((2 : Int) ^ s2 - 1) = ((x % 2 ^ s2 : Nat) : Int)) := hide (fun x hx => by
    rw [and_mask (x : Int) s2 (by omega) (by omega) hs64.1]; push_cast; rfl)
  generalize ((2 : Int) ^ s2 - 1) = mm at *
  generalize hR : fitFrom us sh (d * PP) 0 = R at *
  have H0 : Hid (fitFrom us sh ((d - 0) * PP) (0 * PP) = R) := hide (by rw [Nat.zero_mul, Nat.sub_zero]; exact hR)
  have HFB : Hid (∀ k a, a < PP → fitB us sh (k * PP + a) = decide (us.getD k 0 / 2 ^ (a * s2) % 2 ^ s2 = 0)) := hide (fun k a ha => by
    have h1 : (k * PP + a) * 2 ^ sh = k * 64 + a * s2 := by rw [hs2, Nat.add_mul, Nat.mul_assoc, hP]
    have h2 : a * s2 < 64 := by
      have : (a + 1) * s2 ≤ PP * s2 := Nat.mul_le_mul_right _ (by omega)
      rw [Nat.add_mul] at this; omega
    unfold fitB
    rw [h1, hs2, show (k * 64 + a * s2) / 64 = k by omega, show (k * 64 + a * s2) % 64 = a * s2 by omega])
  have HVV : Hid (∀ k a, fitV sh (some (k * PP + a)) = .tuple #[.int .u16 ((k * 64 + a * s2 : Nat) : Int), .bool true]) := hide (fun k a => by
    show Value.tuple #[Value.int .u16 (((k * PP + a) * 2 ^ sh : Nat) : Int), .bool true] = _
    rw [show (k * PP + a) * 2 ^ sh = k * 64 + a * s2 by rw [hs2, Nat.add_mul, Nat.mul_assoc, hP]])
  have HU := hide hU
  have HUS := hide hus
  have HPP := hide hP
  have HD := hide hd
  have HSS := hide hs64
  clear hR hU hus hP hd hsh HM e1 hs2 hs64
  go_wp2_with fail
  go_loopg [14] d (fun r s wr => ∃ k : Nat, r = d - k ∧ k ≤ d ∧ s = .int .i64 (k : Int) ∧ wr = w ∧ Hid (fitFrom us sh ((d - k) * PP) (k * PP) = R))
  case atStart => exact ⟨0, rfl, Nat.zero_le _, rfl, rfl, H0⟩
  case round =>
    obtain ⟨k, rfl, hk, rfl, rfl, HR⟩ := hrel
    clear H0
    by_cases hkd : k < d
    · have d1 : decide ((k : Int) < (d : Int)) = true := decide_eq_true (by omega)
      have HKD := hide hkd
      have H1 : Hid (fitFrom us sh ((d - k) * PP - 0) (k * PP + 0) = R) := HR
      clear HR
      go_wp2_with fail
      go_loopg [8] PP (fun r s wx => ∃ a : Nat, r = PP - a ∧ a ≤ PP ∧ s = .int .u16 ((a * s2 : Nat) : Int) ∧ wx = wr ∧ Hid (fitFrom us sh ((d - k) * PP - a) (k * PP + a) = R))
      case atStart => exact ⟨0, rfl, Nat.zero_le _, by simp, rfl, H1⟩
      case round =>
        obtain ⟨a, rfl, ha, rfl, rfl, HR⟩ := hrel
        clear H1
        have hss := unhide HSS
        have hpp := unhide HPP
        by_cases hap : a < PP
        · have hA : a * s2 + s2 ≤ 64 := by
            have : (a + 1) * s2 ≤ PP * s2 := Nat.mul_le_mul_right _ (by omega)
            rw [Nat.add_mul] at this; omega
          have hc := unhide HU k hkd
          have hx := unhide HUS k
          have hfb := unhide HFB k a hap
          have hvv := unhide HVV k a
          have hd8 := unhide HD
          have HNX : Hid ((a + 1) * s2 = a * s2 + s2) := hide (by rw [Nat.add_mul]; omega)
          have HLT : Hid ((d - k) * PP - a = ((d - k) * PP - (a + 1)) + 1) := hide (by
            have : 1 * PP ≤ (d - k) * PP := Nat.mul_le_mul_right _ (by omega)
            omega)
          generalize a * s2 = A at *
          generalize us.getD k 0 = x at *
          have hdv : ((x : Int) / 2 ^ A) = ((x / 2 ^ A : Nat) : Int) := by push_cast; rfl
          have hand := unhide HAN (x / 2 ^ A) (Nat.lt_of_le_of_lt (Nat.div_le_self _ _) hx)
          have d2 : decide ((A : Int) < 64) = true := decide_eq_true (by omega)
          have mA : min A 64 = A := Nat.min_eq_left (by omega)
          have b0 : (0 : Int) ≤ (k : Int) := by omega
          have b1 : (k : Int) < (d : Int) := by omega
          by_cases hz : x / 2 ^ A % 2 ^ s2 = 0
          · have HRR : Hid (R = some (k * PP + a)) := hide (by
              rw [← unhide HR, unhide HLT]
              unfold fitFrom
              rw [hfb, if_pos (by simpa using hz)])
            have HRV : Hid (fitV sh R = .tuple #[.int .u16 ((k * 64 + A : Nat) : Int), .bool true]) := hide (by rw [unhide HRR, hvv])
            rw [hz] at hand
            have w1 : IntKind.u16.wrap (k : Int) = (k : Int) := by rw [IntKind.wrap_u16]; omega
            have w2 : IntKind.u16.wrap ((k : Int) * 64) = (k : Int) * 64 := by rw [IntKind.wrap_u16]; omega
            have w3 : IntKind.u16.wrap ((k : Int) * 64 + (A : Int)) = (k : Int) * 64 + (A : Int) := by rw [IntKind.wrap_u16]; omega
            generalize x / 2 ^ A = y at *
            clear HR HRR hvv hfb HU HUS HFB HVV HAN
            go_wp2_with fail
            refine bodyPost_ret (v := .tuple #[.int .u16 ((k * 64 + A : Nat) : Int), .bool true]) (by simp [results, Fagg.results59, go_sem]) rfl ⟨by rw [unhide HRV], rfl⟩
          · have HRR : Hid (fitFrom us sh ((d - k) * PP - (a + 1)) (k * PP + (a + 1)) = R) := hide (by
              rw [← unhide HR, unhide HLT]
              conv => rhs; unfold fitFrom
              rw [hfb, if_neg (by simpa using hz)]; rfl)
            have hzb : (((x / 2 ^ A % 2 ^ s2 : Nat) : Int) == 0) = false := by
              rw [beq_eq_false_iff_ne]; omega
            have ws : IntKind.u16.wrap (s2 : Int) = (s2 : Int) := by rw [IntKind.wrap_u16]; omega
            have wA : IntKind.u16.wrap ((A : Int) + (s2 : Int)) = (A : Int) + (s2 : Int) := by rw [IntKind.wrap_u16]; omega
            generalize x / 2 ^ A % 2 ^ s2 = z at *
            generalize x / 2 ^ A = y at *
            have HAP := hide hap
            clear HR hvv hfb HFB HVV HAN hap
            go_wp2_with fail
            go_roundg (PP - (a + 1))
            case measure => have := unhide HAP; omega
            case rel => exact ⟨a + 1, rfl, unhide HAP, by rw [unhide HNX]; simp, rfl, HRR⟩
        · have hap2 : a = PP := by omega
          have d2 : decide (((a * s2 : Nat) : Int) < 64) = false := decide_eq_false (by rw [hap2]; omega)
          have hA : a * s2 = 64 := by rw [hap2]; exact hpp
          have HRR : Hid (fitFrom us sh ((d - (k + 1)) * PP) ((k + 1) * PP) = R) := hide (by
            have hr := unhide HR
            rw [hap2] at hr
            rw [← hr, show k * PP + PP = (k + 1) * PP by rw [Nat.add_mul]; omega, show (d - k) * PP - PP = (d - (k + 1)) * PP by rw [show d - k = (d - (k + 1)) + 1 by omega, Nat.add_mul]; omega])
          have hd8 := unhide HD
          have HWJ : Hid (wrap64 ((k : Int) + 1) = ((k + 1 : Nat) : Int)) := hide (by unfold wrap64; omega)
          rw [hA] at *
          clear HR hpp hap2 hap ha hA
          go_wp2_with fail
          go_roundg (d - (k + 1))
          case measure => have := unhide HKD; omega
          case rel => exact ⟨k + 1, rfl, unhide HKD, by first | rw [unhide HWJ] | simp, rfl, HRR⟩
    · have hkd2 : k = d := by omega
      have d1 : decide ((k : Int) < (d : Int)) = false := decide_eq_false (by omega)
      have HRV : Hid (fitV sh R = .tuple #[.int .u16 0, .bool false]) := hide (by
        have hr := unhide HR
        rw [hkd2, Nat.sub_self, Nat.zero_mul] at hr
        rw [← hr]; rfl)
      clear HR hkd2
      go_wp2_with fail
      refine bodyPost_ret (v := .tuple #[.int .u16 0, .bool false]) (by simp [results, Fagg.results59, go_sem]) rfl ⟨by rw [unhide HRV], rfl⟩
end Go.Proofs.Ygcfag
