/-
  WALKS: law.readStructs.
-/
import Derived.Test.YgcfagW28
namespace Go.Proofs.Ygcfag
open Go.RowKit
set_option linter.unusedVariables false
set_option linter.unusedSimpArgs false

set_option maxHeartbeats 2000000 in
set_option maxRecDepth 100000 in
theorem readStructs_in (b off n c t : Nat) (xs : List Int) (low k x d p m q y r : Int) (w : World) (hn : n ≤ 256) (hlow : 0 ≤ low ∧ low ≤ 1) (hk : 0 ≤ k) (hk2 : k < 536870912) (hsp : low ≤ (t : Int) ∧ (t : Int) + 1 + k ≤ (n : Int)) (htag : w.cell? ⟨b, off + t, none⟩ = some (.int .u64 x)) (hx0 : 0 ≤ x) (hx1 : x < 18446744073709551616)
    (hq : bits .and .u64 x 4294967295 = q) (hm : q / 4 = m) (hy : x / 4294967296 = y) (hd : bits .and .u64 y 65535 = d) (hp : x / 281474976710656 = p) (hr : bits .and .u64 x 3 = r) (hqb : 0 ≤ q ∧ q < 4294967296) (hdb : 0 ≤ d ∧ d < 65536) (hpb : 0 ≤ p ∧ p < 65536) (hmb : 0 ≤ m) (hyb : 0 ≤ y ∧ y < 4294967296) (HST : structsOf xs low (t : Int) k =
    if decide (d ≤ 8 ∧ p ≤ 8) = false ∨ r ≠ 0 ∨ 128 < m then none
    else if (d + p = 0 ∧ m ≠ 0) ∨ m * (d + p) ≠ k then none
    else some ⟨2, (t : Int) + 1, d, p, 7, m⟩) :
    Calls Fagg.prog 144 #[.slice (some ⟨b, off, none⟩) n c, .int .i64 (t : Int), .int .i64 k, .int .i64 low] w fun e w' => e = .returned (ptRes (structsOf xs low (t : Int) k)) ∧ Below w.heap.size w w' := by
  have hbw := World.block_lt_of_cell? w _ htag
  have s1 : ¬ (t : Int) < low := by omega
  have s2 : ¬ (t : Int) + 1 + k > (n : Int) := by omega
  have htn : t < n := by omega
  by_cases hr0 : r = 0
  · have er : (r != 0) = false := by simp [hr0]
    by_cases hmm : m > 128
    · have HF := hide (show structsOf xs low (t : Int) k = none by rw [HST, if_pos (.inr (.inr hmm))])
      clear HST
      go_enter Fagg.func144, Fagg.ntmps144
      go_wp2_with fail
      exact bodyPost_ret (v := ptRes none) (by simp [results, Fagg.results144, go_sem, ptRes, ptV, Pt.nil]) rfl ⟨by rw [unhide HF], (Below.refl _ _).alloc (Nat.le_refl _) _⟩
    · by_cases hd8 : d > 8
      · have HF := hide (show structsOf xs low (t : Int) k = none by rw [HST, if_pos (.inl (by simp; omega))])
        clear HST
        go_enter Fagg.func144, Fagg.ntmps144
        go_wp2_with fail
        exact bodyPost_ret (v := ptRes none) (by simp [results, Fagg.results144, go_sem, ptRes, ptV, Pt.nil]) rfl ⟨by rw [unhide HF], (Below.refl _ _).alloc (Nat.le_refl _) _⟩
      · by_cases hp8 : p > 8
        · have HF := hide (show structsOf xs low (t : Int) k = none by rw [HST, if_pos (.inl (by simp; omega))])
          clear HST
          go_enter Fagg.func144, Fagg.ntmps144
          go_wp2_with fail
          exact bodyPost_ret (v := ptRes none) (by simp [results, Fagg.results144, go_sem, ptRes, ptV, Pt.nil]) rfl ⟨by rw [unhide HF], (Below.refl _ _).alloc (Nat.le_refl _) _⟩
        · rw [if_neg (by simp; omega)] at HST
          have hmul : 0 ≤ m * (d + p) ∧ m * (d + p) ≤ 2048 := by
            constructor
            · exact Int.mul_nonneg hmb (by omega)
            · have h1 : m * (d + p) ≤ 128 * (d + p) := Int.mul_le_mul_of_nonneg_right (by omega) (by omega)
              omega
          by_cases he : d + p = 0
          · obtain rfl : d = 0 := by omega
            obtain rfl : p = 0 := by omega
            clear hmul
            by_cases hm0 : m = 0
            · subst hm0
              by_cases hk0 : k = 0
              · subst hk0
                have HF := hide (show structsOf xs low (t : Int) 0 = some ⟨2, (t : Int) + 1, 0, 0, 7, 0⟩ by rw [HST, if_neg (by simp)])
                clear HST
                go_enter Fagg.func144, Fagg.ntmps144
                go_wp2_with fail
                exact bodyPost_ret (v := ptRes (some ⟨2, (t : Int) + 1, 0, 0, 7, 0⟩)) (by simp [results, Fagg.results144, go_sem, ptRes, ptV, Pt.nil]) rfl ⟨by rw [unhide HF], (Below.refl _ _).alloc (Nat.le_refl _) _⟩
              · have hk0' : ((0 : Int) != k) = true := by simp; omega
                have HF := hide (show structsOf xs low (t : Int) k = none by rw [HST, if_pos (.inr (by simp; omega))])
                clear HST
                go_enter Fagg.func144, Fagg.ntmps144
                go_wp2_with fail
                exact bodyPost_ret (v := ptRes none) (by simp [results, Fagg.results144, go_sem, ptRes, ptV, Pt.nil]) rfl ⟨by rw [unhide HF], (Below.refl _ _).alloc (Nat.le_refl _) _⟩
            · have hm0' : m > 0 := by omega
              by_cases hk0 : k = 0
              · subst hk0
                have HF := hide (show structsOf xs low (t : Int) 0 = none by rw [HST, if_pos (.inl ⟨rfl, hm0⟩)])
                clear HST
                go_enter Fagg.func144, Fagg.ntmps144
                go_wp2_with fail
                exact bodyPost_ret (v := ptRes none) (by simp [results, Fagg.results144, go_sem, ptRes, ptV, Pt.nil]) rfl ⟨by rw [unhide HF], (Below.refl _ _).alloc (Nat.le_refl _) _⟩
              · have hk0' : ((0 : Int) != k) = true := by simp; omega
                have HF := hide (show structsOf xs low (t : Int) k = none by rw [HST, if_pos (.inr (by simp; omega))])
                clear HST
                go_enter Fagg.func144, Fagg.ntmps144
                go_wp2_with fail
                exact bodyPost_ret (v := ptRes none) (by simp [results, Fagg.results144, go_sem, ptRes, ptV, Pt.nil]) rfl ⟨by rw [unhide HF], (Below.refl _ _).alloc (Nat.le_refl _) _⟩
          · have he' : (d + p == 0) = false := by simp [he]
            by_cases hk0 : m * (d + p) = k
            · have hk0' : (m * (d + p) != k) = false := by simp [hk0]
              have HF := hide (show structsOf xs low (t : Int) k = some ⟨2, (t : Int) + 1, d, p, 7, m⟩ by rw [HST, if_neg (by simp [he, hk0])])
              clear HST
              go_enter Fagg.func144, Fagg.ntmps144
              go_wp2_with fail
              exact bodyPost_ret (v := ptRes (some ⟨2, (t : Int) + 1, d, p, 7, m⟩)) (by simp [results, Fagg.results144, go_sem, ptRes, ptV, Pt.nil]) rfl ⟨by rw [unhide HF], (Below.refl _ _).alloc (Nat.le_refl _) _⟩
            · have hk0' : (m * (d + p) != k) = true := by simp [hk0]
              have HF := hide (show structsOf xs low (t : Int) k = none by rw [HST, if_pos (.inr hk0)])
              clear HST
              go_enter Fagg.func144, Fagg.ntmps144
              go_wp2_with fail
              exact bodyPost_ret (v := ptRes none) (by simp [results, Fagg.results144, go_sem, ptRes, ptV, Pt.nil]) rfl ⟨by rw [unhide HF], (Below.refl _ _).alloc (Nat.le_refl _) _⟩
  · have er : (r != 0) = true := by simp [hr0]
    have HF := hide (show structsOf xs low (t : Int) k = none by rw [HST, if_pos (.inr (.inl hr0))])
    clear HST
    go_enter Fagg.func144, Fagg.ntmps144
    go_wp2_with fail
    exact bodyPost_ret (v := ptRes none) (by simp [results, Fagg.results144, go_sem, ptRes, ptV, Pt.nil]) rfl ⟨by rw [unhide HF], (Below.refl _ _).alloc (Nat.le_refl _) _⟩

theorem and_3 (x : Int) (h0 : 0 ≤ x) (h1 : x < 18446744073709551616) : bits .and .u64 x 3 = x % 4 := by have := and_mask x 2 h0 h1 (by omega); simpa using this
theorem and_7 (x : Int) (h0 : 0 ≤ x) (h1 : x < 18446744073709551616) : bits .and .u64 x 7 = x % 8 := by have := and_mask x 3 h0 h1 (by omega); simpa using this
theorem and_1 (x : Int) (h0 : 0 ≤ x) (h1 : x < 18446744073709551616) : bits .and .u64 x 1 = x % 2 := by have := and_mask x 1 h0 h1 (by omega); simpa using this
theorem and_16 (x : Int) (h0 : 0 ≤ x) (h1 : x < 18446744073709551616) : bits .and .u64 x 65535 = x % 65536 := by have := and_mask x 16 h0 h1 (by omega); simpa using this
theorem and_32 (x : Int) (h0 : 0 ≤ x) (h1 : x < 18446744073709551616) : bits .and .u64 x 4294967295 = x % 4294967296 := by have := and_mask x 32 h0 h1 (by omega); simpa using this

set_option maxHeartbeats 1000000 in
set_option maxRecDepth 100000 in
theorem readStructs_any (a : Option Addr) (n c : Nat) (xs : List Int) (low tt k : Int) (w : World) (hs : Sl .u64 w a xs) (hxn : xs.length = n) (hw : Wds xs) (hn : n ≤ 256) (hlow : 0 ≤ low ∧ low ≤ 1) (hto : -1073741824 ≤ tt ∧ tt ≤ 1073741824) (hk : 0 ≤ k) (hk2 : k < 536870912) :
    Calls Fagg.prog 144 #[.slice a n c, .int .i64 tt, .int .i64 k, .int .i64 low] w fun e w' => e = .returned (ptRes (structsOf xs low tt k)) ∧ Below w.heap.size w w' := by
  by_cases h1 : tt < low
  · have HST := hide (structsOf_out (xs := xs) (low := low) (tt := tt) (k := k) (by unfold spansB; rw [if_neg (by omega)]; simp; omega))
    clear hs hw
    have HF := hide (show structsOf xs low tt k = none by exact unhide HST)
    clear HST
    go_enter Fagg.func144, Fagg.ntmps144
    go_wp2_with fail
    exact bodyPost_ret (v := ptRes none) (by simp [results, Fagg.results144, go_sem, ptRes, ptV, Pt.nil]) rfl ⟨by rw [unhide HF], (Below.refl _ _).alloc (Nat.le_refl _) _⟩
  · by_cases h2 : tt + 1 + k > (n : Int)
    · have HST := hide (structsOf_out (xs := xs) (low := low) (tt := tt) (k := k) (by unfold spansB; rw [if_neg (by omega)]; simp; omega))
      clear hs hw
      have HF := hide (show structsOf xs low tt k = none by exact unhide HST)
      clear HST
      go_enter Fagg.func144, Fagg.ntmps144
      go_wp2_with fail
      exact bodyPost_ret (v := ptRes none) (by simp [results, Fagg.results144, go_sem, ptRes, ptV, Pt.nil]) rfl ⟨by rw [unhide HF], (Below.refl _ _).alloc (Nat.le_refl _) _⟩
    · obtain ⟨t, rfl⟩ : ∃ t : Nat, tt = (t : Int) := ⟨tt.toNat, by omega⟩
      obtain ⟨b, off, rfl, hc⟩ := hs.at (i := t) (by omega)
      have hct := hc t (by omega)
      have hx := hw t
      generalize hxd : xs.getD t 0 = x at *
      have hst := structsOf_in (xs := xs) (low := low) (k := k) (t := t) (x := x) (by unfold spansB; rw [if_neg (by omega)]; simp; omega) hxd rfl rfl rfl
      refine readStructs_in b off n c t xs low k x (dataOf x) (ptrsOf x) (x / 4 % 1073741824) (x % 4294967296) (x / 4294967296) (x % 4) w hn hlow hk hk2 (by omega) hct hx.1 (by omega) (and_32 x hx.1 (by omega)) (by omega) rfl (and_16 _ (by omega) (by omega)) (by unfold ptrsOf; omega) (and_3 x hx.1 (by omega)) (by omega) (data_bd x) (ptrs_bd x) (by omega) (by omega) hst
end Go.Proofs.Ygcfag
