/-
  WALKS: the loop in which (*pack.Cur).Step gathers a word.
-/
import Derived.Test.YgcfagPlain2
import Derived.Test.YgcfagW3
import Derived.Test.YgcfagSub
import Derived.Deep.DeepCutAuto
namespace Go.Proofs.Ygcfag
open Go.RowKit
set_option linter.unusedVariables false
set_option linter.unusedSimpArgs false

theorem gather_or (X y : Int) (l : Nat) (hl : l < 8) (h0 : 0 ≤ X) (hX : X < 256 ^ l) (hy : 0 ≤ y ∧ y < 256) :
    bits .or .u64 X (IntKind.u64.wrap (y * 2 ^ (8 * l))) = X + y * 256 ^ l := by
  have e : (2 : Int) ^ (8 * l) = 256 ^ l := by rw [Int.pow_mul]; rfl
  have hpos : (0 : Int) < 256 ^ l := Int.pow_pos (by omega)
  have hle : (256 : Int) ^ l ≤ 72057594037927936 := by
    have : l = 0 ∨ l = 1 ∨ l = 2 ∨ l = 3 ∨ l = 4 ∨ l = 5 ∨ l = 6 ∨ l = 7 := by omega
    rcases this with rfl | rfl | rfl | rfl | rfl | rfl | rfl | rfl <;> decide
  have h1 := Int.mul_nonneg hy.1 (Int.le_of_lt hpos)
  have h2 := Int.mul_le_mul_of_nonneg_right (show y ≤ 255 by omega) (Int.le_of_lt hpos)
  rw [IntKind.wrap_u64, e, Int.emod_eq_of_lt h1 (by omega), u64_or X _ h0 (by omega) h1 (by omega), Nat.or_comm, nat_join (8 * l)]
  · omega
  · have hz : ((y * 256 ^ l).toNat : Int) % ((2 ^ (8 * l) : Nat) : Int) = 0 := by
      rw [Int.toNat_of_nonneg h1, Int.natCast_pow, Int.cast_ofNat_Int, e]; exact Int.mul_emod_left _ _
    rw [← Int.natCast_emod] at hz
    exact Int.ofNat_eq_zero.1 hz
  · have : ((2 ^ (8 * l) : Nat) : Int) = 256 ^ l := by rw [Int.natCast_pow]; exact e
    omega

theorem and_pred (r : Nat) (h1 : 1 ≤ r) (h2 : r < 256) : bits .and .u8 (r : Int) ((r : Int) - 1) = ((r &&& (r - 1) : Nat) : Int) := by
  have e : (r : Int) - 1 = ((r - 1 : Nat) : Int) := by omega
  rw [e, u8_and_nat r (r - 1) h2 (by omega)]

set_option maxHeartbeats 1000000 in
set_option maxRecDepth 100000 in
theorem step_loop1 {Q0 : Exit → Act → World → Prop} (B b off L t pk : Nat) (s : List Int) (w : World) (hL4 : (L : Int) ≤ 4096) (hpk : pk ≤ 8) (hL : 1 + pk ≤ L)
    (HS : Hid (∀ j, j < s.length → w.cell? ⟨b, off + j, none⟩ = some (.int .u8 (s.getD j 0)))) (hsl : s.length = L) (HX : Hid (Bys s)) (ht' : t < 256) (HPK : Hid (popc t = pk))
    (u1 u2 u4 u5 u6 u7 u11 u12 u13 u14 u15 u16 u17 u18 u19 u20 u21 u22 u23 u24 u25 u26 u27 u28 u29 u30 u31 u32 u33 u34 u35 u36 u37 u38 u39 u40 u41 u42 u43 u44 u45 u46 u47 u48 u49 u50 u51 u52 u53 u54 u55 u56 u57 u58 u59 u60 u61 u62 u63 u64 u65 u66 u67 u68 u69 u70 u71 u72 u73 u74 u75 u76 u77 u78 u79 u80 u81 u82 u83 u84 u85 u86 u87 u88 u89 u90 u91 u92 u93 u94 u95 u96 u97 u98 u99 u100 u101 u102 u103 u104 u105 u106 u107 u108 u109 u110 u111 u112 u113 u114 u115 u116 u117 u118 u119 u120 u121 u122 u123 u124 u125 u126 u127 u128 u129 u130 u131 u132 u133 u134 u135 u136 u137 u138 u139 u140 u141 u142 u143 u144 u145 u146 u147 u148 u149 u150 u151 u152 u153 u154 u155 u156 u157 u158 u159 u160 u161 u162 u163 u164 u165 : Value)
    (hexit : ∀ (v9 v10 v94 v95 v96 v97 v98 v99 v100 v101 v102 v103 v104 v105 v106 v107 v108 v109 v110 v111 v112 v113 : Value) (wr : World), Below w.heap.size w wr → Q0 (.exit 0) ⟨List.toArray (.pointer (some ⟨B, 0, none⟩) :: u1 :: u2 :: .slice (some ⟨b, off, none⟩) L L :: u4 :: u5 :: u6 :: u7 :: .int .u64 (part t s.tail 8) :: v9 :: v10 :: u11 :: u12 :: u13 :: u14 :: u15 :: u16 :: u17 :: u18 :: u19 :: u20 :: u21 :: u22 :: u23 :: u24 :: u25 :: u26 :: u27 :: u28 :: u29 :: u30 :: u31 :: u32 :: u33 :: u34 :: u35 :: u36 :: u37 :: u38 :: u39 :: u40 :: u41 :: u42 :: u43 :: u44 :: u45 :: u46 :: u47 :: u48 :: u49 :: u50 :: u51 :: u52 :: u53 :: u54 :: u55 :: u56 :: u57 :: u58 :: u59 :: u60 :: u61 :: u62 :: u63 :: u64 :: u65 :: u66 :: u67 :: u68 :: u69 :: u70 :: u71 :: u72 :: u73 :: u74 :: u75 :: u76 :: u77 :: u78 :: u79 :: u80 :: u81 :: u82 :: u83 :: u84 :: u85 :: u86 :: u87 :: u88 :: u89 :: u90 :: u91 :: u92 :: u93 :: v94 :: v95 :: v96 :: v97 :: v98 :: v99 :: v100 :: v101 :: v102 :: v103 :: v104 :: v105 :: v106 :: v107 :: v108 :: v109 :: v110 :: v111 :: v112 :: v113 :: u114 :: u115 :: u116 :: u117 :: u118 :: u119 :: u120 :: u121 :: u122 :: u123 :: u124 :: u125 :: u126 :: u127 :: u128 :: u129 :: u130 :: u131 :: u132 :: u133 :: u134 :: u135 :: u136 :: u137 :: u138 :: u139 :: u140 :: u141 :: u142 :: u143 :: u144 :: u145 :: u146 :: u147 :: u148 :: u149 :: u150 :: u151 :: u152 :: u153 :: u154 :: u155 :: u156 :: u157 :: u158 :: u159 :: u160 :: u161 :: u162 :: u163 :: u164 :: u165 :: []), []⟩ wr) :
    Code.wp Fagg.prog (bodyAt Fagg.f182 [1, 1, 1, 1, 1, 1, 1, 1, 1, 0, 1, 0]) Q0 ⟨List.toArray (.pointer (some ⟨B, 0, none⟩) :: u1 :: u2 :: .slice (some ⟨b, off, none⟩) L L :: u4 :: u5 :: u6 :: u7 :: .int .u64 0 :: .int .i64 1 :: .int .u8 (t : Int) :: u11 :: u12 :: u13 :: u14 :: u15 :: u16 :: u17 :: u18 :: u19 :: u20 :: u21 :: u22 :: u23 :: u24 :: u25 :: u26 :: u27 :: u28 :: u29 :: u30 :: u31 :: u32 :: u33 :: u34 :: u35 :: u36 :: u37 :: u38 :: u39 :: u40 :: u41 :: u42 :: u43 :: u44 :: u45 :: u46 :: u47 :: u48 :: u49 :: u50 :: u51 :: u52 :: u53 :: u54 :: u55 :: u56 :: u57 :: u58 :: u59 :: u60 :: u61 :: u62 :: u63 :: u64 :: u65 :: u66 :: u67 :: u68 :: u69 :: u70 :: u71 :: u72 :: u73 :: u74 :: u75 :: u76 :: u77 :: u78 :: u79 :: u80 :: u81 :: u82 :: u83 :: u84 :: u85 :: u86 :: u87 :: u88 :: u89 :: u90 :: u91 :: u92 :: u93 :: u94 :: u95 :: u96 :: u97 :: u98 :: u99 :: u100 :: u101 :: u102 :: u103 :: u104 :: u105 :: u106 :: u107 :: u108 :: u109 :: u110 :: u111 :: u112 :: u113 :: u114 :: u115 :: u116 :: u117 :: u118 :: u119 :: u120 :: u121 :: u122 :: u123 :: u124 :: u125 :: u126 :: u127 :: u128 :: u129 :: u130 :: u131 :: u132 :: u133 :: u134 :: u135 :: u136 :: u137 :: u138 :: u139 :: u140 :: u141 :: u142 :: u143 :: u144 :: u145 :: u146 :: u147 :: u148 :: u149 :: u150 :: u151 :: u152 :: u153 :: u154 :: u155 :: u156 :: u157 :: u158 :: u159 :: u160 :: u161 :: u162 :: u163 :: u164 :: u165 :: []), []⟩ w := by
  conv => arg 2; whnf
  have HE := hide hexit
  clear hexit
  go_loopw [8, 9, 10] (fun x y z wr => ∃ p q r : Nat, ∃ X : Int, p ≤ 8 ∧ r < 256 ∧ q ≤ pk ∧ 0 ≤ X ∧ Hid (r = t / 2 ^ p * 2 ^ p) ∧ Hid (q = popc (t % 2 ^ p)) ∧ Hid (X = part t s.tail p) ∧
      x = .int .u64 X ∧ y = .int .i64 ((q : Int) + 1) ∧ z = .int .u8 (r : Int) ∧ Below w.heap.size w wr) (fun _ _ z _ => (intOf z).toNat)
  case atStart => exact ⟨0, 0, t, 0, by omega, ht', by omega, by omega, by simp [Hid], by show 0 = _; rw [Nat.pow_zero, Nat.mod_one]; rfl, by simp [Hid, part], rfl, rfl, rfl, Below.refl _ _⟩
  case round =>
    obtain ⟨p, q, r, X, hp8, hr, hq, hX, HR, HQ, HXX, rfl, rfl, rfl, hbr⟩ := hrel
    by_cases hr0 : r = 0
    · have hr2 : ((r : Int) != 0) = false := by simp; omega
      have HZ := hide (gather_end t p s.tail ht' hp8 (by rw [← unhide HR]; exact hr0))
      clear hr0
      go_wp2_with fail
      rw [show X = part t s.tail 8 from (unhide HXX).trans (unhide HZ)]
      exact unhide HE _ _ _ _ _ _ _ _ _ _ _ _ _ _ _ _ _ _ _ _ _ _ wr hbr
    · have hr1 : 1 ≤ (r : Int) := by omega
      have hr2 : ((r : Int) != 0) = true := by simp; omega
      have hG := gather_round t p s.tail ht' hp8 (by rw [← unhide HR]; exact hr0)
      simp only [← unhide HR, ← unhide HQ, ← unhide HXX] at hG
      obtain ⟨g1, g2, g3, g4, g5, g6, g7⟩ := hG
      have hl7 : (low8 r : Int) ≤ 7 := by omega
      generalize hlow : low8 r = l at *
      have HG := hide (And.intro g3 (And.intro g4 (And.intro g6 g7)))
      clear g3 g4 g6 g7
      have hq' : q < pk := by rw [unhide HPK] at g5; exact g5
      have hcq := unhide HS (q + 1) (by omega)
      have hbq := unhide HX (q + 1)
      replace hcq := (hbr.cell (p := ⟨b, off + (q + 1), none⟩) (World.block_lt_of_cell? w ⟨b, off + (q + 1), none⟩ hcq)).trans hcq
      generalize hy : s.getD (q + 1) 0 = y at *
      have HY := hide hy
      have HLOW := hide hlow
      clear hy hlow g5 hr0
      go_wp2_with fail
      refine wp_region_quiet_lit (by kernel_rfl) (by kernel_rfl) ?_
      repeat (go_big_quiet_step ((go_at_call 216; exact Calls.quiet_of_same (low_nat r l _ (by omega) hr HLOW))))
      refine wpQuiet_nil ?_
      rintro _ ⟨nq, rfl⟩
      go_wp2_with fail
      have HA := and_pred r (by omega) hr
      have hXl : X < 256 ^ l := by
        have := (part_bd t s.tail (fun i => by have := unhide HX (i + 1); simpa [List.getD] using this) l).2
        rw [(unhide HG).2.2.2] at this
        exact this
      have HO := gather_or X y l g2 hX hXl hbq
      have hyt : s.tail.getD q 0 = y := by rw [← unhide HY]; simp [List.getD]
      have hlt : r &&& (r - 1) ≤ r - 1 := Nat.and_le_right
      refine ⟨⟨l + 1, q + 1, r &&& (r - 1), X + y * 256 ^ l, by omega, by omega, by omega, ?_, (unhide HG).1, (unhide HG).2.1.symm, ?_, by rw [HO], by go_num, by rw [HA], hbr.trans ((drewN_below wr nq).mono hbr.size)⟩, ?_⟩
      · have := Int.mul_nonneg hbq.1 (Int.le_of_lt (show (0 : Int) < 256 ^ l from Int.pow_pos (by omega)))
        omega
      · show _ = _; rw [(unhide HG).2.2.1, hyt]
      · rw [HA]; simp [intOf]; omega
end Go.Proofs.Ygcfag
