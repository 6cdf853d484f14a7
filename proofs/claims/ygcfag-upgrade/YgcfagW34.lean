/-
  WALKS: seg.takeFar, law.ownFar.
-/
import Derived.Test.YgcfagW33
import Derived.Test.YgcfagPlain13
namespace Go.Proofs.Ygcfag
open Go.RowKit
set_option linter.unusedVariables false
set_option linter.unusedSimpArgs false

def farV : Option (Nat × Nat) → Value
  | none => .tuple #[.int .u8 0, .int .u16 0, .bool false]
  | some (s, i) => .tuple #[.int .u8 (s : Int), .int .u16 (i : Int), .bool true]

theorem farOf_id {ms : List (List Int)} {x k : Int} (h : (ms.length : Int) ≤ x / 4294967296) : farOf ms x k = none := by unfold farOf; rw [if_pos (.inl h)]
theorem farOf_len {ms : List (List Int)} {x k : Int} (h : ((ms.getD (x / 4294967296).toNat []).length : Int) < x / 8 % 536870912 + k) : farOf ms x k = none := by unfold farOf; rw [if_pos (.inr (.inl h))]
theorem farOf_zero {ms : List (List Int)} {x k : Int} (h : x / 4294967296 = 0 ∧ x / 8 % 536870912 = 0) : farOf ms x k = none := by unfold farOf; rw [if_pos (.inr (.inr h))]
theorem farOf_ok {ms : List (List Int)} {x k : Int} (h1 : ¬ (ms.length : Int) ≤ x / 4294967296) (h2 : ¬ ((ms.getD (x / 4294967296).toNat []).length : Int) < x / 8 % 536870912 + k) (h3 : ¬ (x / 4294967296 = 0 ∧ x / 8 % 536870912 = 0)) : farOf ms x k = some ((x / 4294967296).toNat, (x / 8 % 536870912).toNat) := by
  unfold farOf; rw [if_neg]; rintro (h | h | h); exact h1 h; exact h2 h; exact h3 h

set_option maxHeartbeats 2000000 in
set_option maxRecDepth 100000 in
theorem takeFar_any (a : Option Addr) (n c : Nat) (ms : List (List Int)) (x k : Int) (w : World) (hs : SegsAt w a ms) (hn : ms.length = n) (hn1 : 1 ≤ n) (hn8 : n ≤ 8) (hl : ∀ i, (ms.getD i []).length ≤ 256) (hx0 : 0 ≤ x) (hx1 : x < 18446744073709551616) (hk : 0 ≤ k ∧ k ≤ 2) :
    Calls Fagg.prog 71 #[.slice a n c, .int .u64 x, .int .u16 k] w fun e w' => e = .returned (farV (farOf ms x k)) ∧ w' = w := by
  have HT1 := hide (take_3_29 x w hx0 hx1)
  have HT2 := hide (take_32_32 x w hx0 hx1)
  have e32 : x / 4294967296 % 4294967296 = x / 4294967296 := by omega
  rw [e32] at HT2
  obtain ⟨b, off, rfl, hbw, hcell⟩ := hs.get (by omega)
  have hid0 : 0 ≤ x / 4294967296 ∧ x / 4294967296 < 4294967296 := by omega
  have ho0 : 0 ≤ x / 8 % 536870912 ∧ x / 8 % 536870912 < 536870912 := by omega
  have HI := hide (farOf_id (ms := ms) (x := x) (k := k))
  have HLN := hide (farOf_len (ms := ms) (x := x) (k := k))
  have HZ := hide (farOf_zero (ms := ms) (x := x) (k := k))
  have HOK := hide (farOf_ok (ms := ms) (x := x) (k := k))
  rw [hn] at HI HOK
  clear hs e32
  by_cases h1 : (n : Int) ≤ x / 4294967296
  · have h1' : x / 4294967296 ≥ (n : Int) := h1
    have HF := hide (unhide HI h1)
    generalize x / 4294967296 = id at *
    generalize x / 8 % 536870912 = o at *
    clear HI HLN HZ HOK hcell
    go_enter Fagg.func71, Fagg.ntmps71
    go_wp2_with (go_at_call 67; first | (with_reducible refine (unhide HT1).mono ?_; rintro e w1 ⟨rfl, hw1⟩; subst hw1) | (with_reducible refine (unhide HT2).mono ?_; rintro e w1 ⟨rfl, hw1⟩; subst hw1))
    go_ret3
    exact ⟨by rw [unhide HF]; rfl, rfl⟩
  · obtain ⟨id, hid⟩ : ∃ id : Nat, x / 4294967296 = (id : Int) := ⟨(x / 4294967296).toNat, by omega⟩
    obtain ⟨o, ho⟩ : ∃ o : Nat, x / 8 % 536870912 = (o : Int) := ⟨(x / 8 % 536870912).toNat, by omega⟩
    rw [hid, ho] at HOK HZ HLN
    rw [hid] at HT2 hid0 h1
    rw [ho] at HT1 ho0
    simp only [Int.toNat_natCast] at HOK HLN
    have h1' : ¬ (id : Int) ≥ (n : Int) := by omega
    have hidn : id < n := by omega
    obtain ⟨ai, ci, hci, _, _⟩ := hcell id (by omega)
    have hli := hl id
    have HLO := hide (low_s (id : Int) w (by omega) (by omega))
    generalize hL : (ms.getD id []).length = L at *
    clear hL hcell hid ho HI
    by_cases h2 : (L : Int) < (o : Int) + k
    · have h2' : (o : Int) + k > (L : Int) := h2
      have HF := hide (unhide HLN h2)
      clear HLN HZ HOK
      go_enter Fagg.func71, Fagg.ntmps71
      go_wp2_with (go_at_call 67; first | (with_reducible refine (unhide HT1).mono ?_; rintro e w1 ⟨rfl, hw1⟩; subst hw1) | (with_reducible refine (unhide HT2).mono ?_; rintro e w1 ⟨rfl, hw1⟩; subst hw1))
      go_ret3
      exact ⟨by rw [unhide HF]; rfl, rfl⟩
    · have h2' : ¬ (o : Int) + k > (L : Int) := by omega
      by_cases h3 : (id : Int) = 0 ∧ (o : Int) = 0
      · have HF := hide (unhide HZ h3)
        obtain rfl : id = 0 := by omega
        obtain rfl : o = 0 := by omega
        simp only [Int.natCast_zero, if_true] at HLO HT1 HT2
        rw [Nat.add_zero] at hci
        clear HLN HZ HOK
        go_enter Fagg.func71, Fagg.ntmps71
        go_wp2_with (first | (go_at_call 67; first | (with_reducible refine (unhide HT1).mono ?_; rintro e w1 ⟨rfl, hw1⟩; subst hw1) | (with_reducible refine (unhide HT2).mono ?_; rintro e w1 ⟨rfl, hw1⟩; subst hw1)) | (go_at_call 69; refine (unhide HLO).mono ?_; rintro e w1 ⟨rfl, hw1⟩; subst hw1))
        go_ret3
        exact ⟨by rw [unhide HF]; rfl, rfl⟩
      · have HF := hide (unhide HOK (by omega) h2 h3)
        clear HLN HZ HOK
        by_cases h0 : id = 0
        · subst h0
          have h4 : ¬ (o : Int) < 1 := by omega
          simp only [Int.natCast_zero, if_true] at HLO HT2
          rw [Nat.add_zero] at hci
          go_enter Fagg.func71, Fagg.ntmps71
          go_wp2_with (first | (go_at_call 67; first | (with_reducible refine (unhide HT1).mono ?_; rintro e w1 ⟨rfl, hw1⟩; subst hw1) | (with_reducible refine (unhide HT2).mono ?_; rintro e w1 ⟨rfl, hw1⟩; subst hw1)) | (go_at_call 69; refine (unhide HLO).mono ?_; rintro e w1 ⟨rfl, hw1⟩; subst hw1))
          go_ret3
          exact ⟨by rw [unhide HF]; rfl, rfl⟩
        · have h0' : ¬ (id : Int) = 0 := by omega
          have h4 : ¬ (o : Int) < 0 := by omega
          rw [if_neg h0'] at HLO
          go_enter Fagg.func71, Fagg.ntmps71
          go_wp2_with (first | (go_at_call 67; first | (with_reducible refine (unhide HT1).mono ?_; rintro e w1 ⟨rfl, hw1⟩; subst hw1) | (with_reducible refine (unhide HT2).mono ?_; rintro e w1 ⟨rfl, hw1⟩; subst hw1)) | (go_at_call 69; refine (unhide HLO).mono ?_; rintro e w1 ⟨rfl, hw1⟩; subst hw1))
          go_ret3
          exact ⟨by rw [unhide HF]; rfl, rfl⟩

def farW : Option (Nat × Nat) → Value
  | none => .tuple #[.int .i64 0, .int .i64 0, .bool false]
  | some (s, i) => .tuple #[.int .i64 (s : Int), .int .i64 (i : Int), .bool true]

set_option maxHeartbeats 2000000 in
set_option maxRecDepth 100000 in
theorem ownFar_any (a : Option Addr) (n c : Nat) (ms : List (List Int)) (x k : Int) (w : World) (hs : SegsAt w a ms) (hn : ms.length = n) (hn1 : 1 ≤ n) (hn8 : n ≤ 8) (hl : ∀ i, (ms.getD i []).length ≤ 256) (hx0 : 0 ≤ x) (hx1 : x < 18446744073709551616) (hk : 0 ≤ k ∧ k ≤ 2) :
    Calls Fagg.prog 74 #[.slice a n c, .int .u64 x, .int .i64 k] w fun e w' => e = .returned (farW (farOf ms x k)) ∧ w' = w := by
  have hq := and_32 x hx0 hx1
  obtain ⟨b, off, rfl, hbw, hcell⟩ := hs.get (by omega)
  have hid0 : 0 ≤ x / 4294967296 ∧ x / 4294967296 < 4294967296 := by omega
  have ho0 : 0 ≤ x / 8 % 536870912 ∧ x / 8 % 536870912 < 536870912 := by omega
  have hqo : x % 4294967296 / 8 = x / 8 % 536870912 := by omega
  have hqb : 0 ≤ x % 4294967296 ∧ x % 4294967296 < 4294967296 := by omega
  have HI := hide (farOf_id (ms := ms) (x := x) (k := k))
  have HLN := hide (farOf_len (ms := ms) (x := x) (k := k))
  have HZ := hide (farOf_zero (ms := ms) (x := x) (k := k))
  have HOK := hide (farOf_ok (ms := ms) (x := x) (k := k))
  rw [hn] at HI HOK
  generalize hqd : x % 4294967296 = q at *
  clear hs hqd
  obtain ⟨o, ho⟩ : ∃ o : Nat, x / 8 % 536870912 = (o : Int) := ⟨(x / 8 % 536870912).toNat, by omega⟩
  rw [ho] at HOK HZ HLN ho0 hqo
  by_cases h1 : (n : Int) ≤ x / 4294967296
  · have h1' : x / 4294967296 ≥ (n : Int) := h1
    have HF := hide (unhide HI h1)
    generalize hid : x / 4294967296 = id at *
    clear HI HLN HZ HOK hcell
    go_enter Fagg.func74, Fagg.ntmps74
    go_wp2_with fail
    go_ret3
    exact ⟨by rw [unhide HF]; rfl, rfl⟩
  · obtain ⟨id, hid⟩ : ∃ id : Nat, x / 4294967296 = (id : Int) := ⟨(x / 4294967296).toNat, by omega⟩
    rw [hid] at HOK HZ HLN hid0 h1
    simp only [Int.toNat_natCast] at HOK HLN
    have h1' : ¬ (id : Int) ≥ (n : Int) := by omega
    have hidn : id < n := by omega
    obtain ⟨ai, ci, hci, _, _⟩ := hcell id (by omega)
    have hli := hl id
    generalize hL : (ms.getD id []).length = L at *
    clear hL hcell ho HI
    by_cases h2 : (L : Int) < (o : Int) + k
    · have h2' : (o : Int) + k > (L : Int) := h2
      have HF := hide (unhide HLN h2)
      clear HLN HZ HOK
      go_enter Fagg.func74, Fagg.ntmps74
      go_wp2_with fail
      go_ret3
      exact ⟨by rw [unhide HF]; rfl, rfl⟩
    · have h2' : ¬ (o : Int) + k > (L : Int) := by omega
      by_cases h0 : id = 0
      · subst h0
        simp only [Int.natCast_zero, Nat.add_zero] at hci hid
        by_cases h3 : o = 0
        · have HF := hide (unhide HZ ⟨rfl, by omega⟩)
          subst h3
          simp only [Int.natCast_zero] at hqo
          clear HLN HZ HOK
          go_enter Fagg.func74, Fagg.ntmps74
          go_wp2_with fail
          go_ret3
          exact ⟨by rw [unhide HF]; rfl, rfl⟩
        · have HF := hide (unhide HOK (by omega) h2 (by omega))
          have h3' : ((o : Int) == 0) = false := by simp; omega
          clear HLN HZ HOK
          go_enter Fagg.func74, Fagg.ntmps74
          go_wp2_with fail
          go_ret3
          exact ⟨by rw [unhide HF]; rfl, rfl⟩
      · have HF := hide (unhide HOK (by omega) h2 (by omega))
        have h0' : ((id : Int) == 0) = false := by simp; omega
        clear HLN HZ HOK
        go_enter Fagg.func74, Fagg.ntmps74
        go_wp2_with fail
        go_ret3
        exact ⟨by rw [unhide HF]; rfl, rfl⟩
end Go.Proofs.Ygcfag
