/-
  WALKS: law.readWord whole.
-/
import Derived.Test.YgcfagW31
import Derived.Test.YgcfagW32
import Derived.Test.YgcfagW29
namespace Go.Proofs.Ygcfag
open Go.RowKit
set_option linter.unusedVariables false
set_option linter.unusedSimpArgs false

theorem nat_fffc (a : Nat) : (a &&& 4294967292) / 4 = a / 4 % 1073741824 ∧ (a &&& 4294967292) < 4294967296 := by
  have hd : (a &&& 4294967292) / 2 ^ 2 = a / 2 ^ 2 &&& 4294967292 / 2 ^ 2 := Nat.and_div_two_pow
  have hm : a / 4 &&& (2 ^ 30 - 1) = a / 4 % 2 ^ 30 := Nat.and_two_pow_sub_one_eq_mod _ 30
  simp only [Nat.reducePow, Nat.reduceDiv, Nat.reduceSub] at hd hm
  rw [hm] at hd
  exact ⟨hd, Nat.lt_of_le_of_lt Nat.and_le_right (by omega)⟩

theorem and_fffc (x : Int) (h0 : 0 ≤ x) (h1 : x < 18446744073709551616) : bits .and .u64 x 4294967292 / 4 = x / 4 % 1073741824 ∧ 0 ≤ bits .and .u64 x 4294967292 ∧ bits .and .u64 x 4294967292 < 4294967296 := by
  obtain ⟨a, rfl⟩ := Int.eq_ofNat_of_zero_le h0
  have h := nat_fffc a
  have e : bits .and .u64 (a : Int) 4294967292 = ((a &&& 4294967292 : Nat) : Int) := u64_and_nat a 4294967292 (by omega) (by omega)
  rw [e]
  omega

set_option maxHeartbeats 4000000 in
set_option maxRecDepth 100000 in
theorem rw_tail (R : Ending → World → Prop) (n c : Nat) (a : Option Addr) (xs : List Int) (x base low : Int) (w : World) (hs : Sl .u64 w a xs) (hxn : xs.length = n) (hw : Wds xs) (hn : n ≤ 256) (hx0 : 0 ≤ x) (hx1 : x < 18446744073709551616) (hba : 0 ≤ base ∧ base ≤ 65536) (hlow : 0 ≤ low ∧ low ≤ 1)
    (HR : Hid (∀ w', Below w.heap.size (w.alloc (Obj.cells #[Value.int IntKind.u8 0, Value.int IntKind.u16 0, Value.int IntKind.u8 0, Value.int IntKind.u8 0, Value.int IntKind.u8 0, Value.int IntKind.u16 0] 58)) w' → R (.returned (ptRes (readNZ xs x base low))) w'))
    (u2 u4 u5 u6 u7 u11 u13 u14 u15 u16 u17 u18 u19 u20 u21 u22 u23 u24 u25 u26 u27 u28 u29 u30 u31 u32 u33 u34 u35 u36 u37 u38 u39 u40 u41 u42 u43 u44 u45 u46 u47 u48 u49 u50 u51 u52 u53 u54 u55 u56 u57 u58 u59 u60 u61 u62 u63 u64 u65 u66 u67 u68 u69 u70 u71 u72 u73 u74 u75 u76 u77 u78 u79 u80 u81 u82 u83 u84 u85 u86 u87 u88 u89 u90 u91 u92 u93 u94 u95 u96 u97 u98 u99 u100 u101 u102 u103 u104 u105 u106 u107 u108 u109 u110 u111 u112 u113 u114 u115 u116 u117 u118 u119 u120 u121 u122 u123 u124 u125 u126 u127 u128 u129 u130 u131 u132 u133 u134 u135 u136 u137 u138 u139 u140 u141 u142 u143 u144 u145 u146 u147 u148 u149 u150 u151 u152 u153 u154 u155 u156 u157 u158 u159 u160 u161 u162 u163 u164 u165 u166 u167 u168 u169 u170 u171 u172 u173 : Value) :
    Code.wp Fagg.prog (bodyAt Fagg.f72 [1, 1, 1, 1, 1, 1]) (bodyPost Fagg.prog Fagg.f72 R) ⟨List.toArray ((.slice a n c) :: (.int .u64 x) :: u2 :: (.int .i64 low) :: u4 :: u5 :: u6 :: u7 :: (.pointer (some ⟨w.heap.size, 0, none⟩)) :: (.bool false) :: (.int .i64 (n : Int)) :: u11 :: (.int .i64 (base + sgn30 (x / 4))) :: u13 :: u14 :: u15 :: u16 :: u17 :: u18 :: u19 :: u20 :: u21 :: u22 :: u23 :: u24 :: u25 :: u26 :: u27 :: u28 :: u29 :: u30 :: u31 :: u32 :: u33 :: u34 :: u35 :: u36 :: u37 :: u38 :: u39 :: u40 :: u41 :: u42 :: u43 :: u44 :: u45 :: u46 :: u47 :: u48 :: u49 :: u50 :: u51 :: u52 :: u53 :: u54 :: u55 :: u56 :: u57 :: u58 :: u59 :: u60 :: u61 :: u62 :: u63 :: u64 :: u65 :: u66 :: u67 :: u68 :: u69 :: u70 :: u71 :: u72 :: u73 :: u74 :: u75 :: u76 :: u77 :: u78 :: u79 :: u80 :: u81 :: u82 :: u83 :: u84 :: u85 :: u86 :: u87 :: u88 :: u89 :: u90 :: u91 :: u92 :: u93 :: u94 :: u95 :: u96 :: u97 :: u98 :: u99 :: u100 :: u101 :: u102 :: u103 :: u104 :: u105 :: u106 :: u107 :: u108 :: u109 :: u110 :: u111 :: u112 :: u113 :: u114 :: u115 :: u116 :: u117 :: u118 :: u119 :: u120 :: u121 :: u122 :: u123 :: u124 :: u125 :: u126 :: u127 :: u128 :: u129 :: u130 :: u131 :: u132 :: u133 :: u134 :: u135 :: u136 :: u137 :: u138 :: u139 :: u140 :: u141 :: u142 :: u143 :: u144 :: u145 :: u146 :: u147 :: u148 :: u149 :: u150 :: u151 :: u152 :: u153 :: u154 :: u155 :: u156 :: u157 :: u158 :: u159 :: u160 :: u161 :: u162 :: u163 :: u164 :: u165 :: u166 :: u167 :: u168 :: u169 :: u170 :: u171 :: u172 :: u173 :: []), []⟩ (w.alloc (Obj.cells #[Value.int IntKind.u8 0, Value.int IntKind.u16 0, Value.int IntKind.u8 0, Value.int IntKind.u8 0, Value.int IntKind.u8 0, Value.int IntKind.u16 0] 58)) := by
  have hsg := sgn30_bd (x / 4)
  have hto : -1073741824 ≤ base + sgn30 (x / 4) ∧ base + sgn30 (x / 4) ≤ 1073741824 := by omega
  by_cases hr : x % 4 = 0
  · have hr1 : bits .and .u64 x 3 = 0 := by rw [and_3 x hx0 hx1]; exact hr
    refine rw_struct R w.heap.size w.heap.size n c a xs x base low (base + sgn30 (x / 4)) (dataOf x) (ptrsOf x) (x / 4294967296) (x / 4294967296 % 8) (x / 34359738368) (w.alloc (Obj.cells #[Value.int IntKind.u8 0, Value.int IntKind.u16 0, Value.int IntKind.u8 0, Value.int IntKind.u8 0, Value.int IntKind.u8 0, Value.int IntKind.u16 0] 58)) hn hlow hto hx0 hx1 (Nat.le_refl _) (by simp) (by simp) (by simp) (by simp) (by simp) (by simp) (by simp) (by simp) (by simp) (by simp) (by simp) (by simp) rfl (by omega) (and_16 _ (by omega) (by omega)) (by unfold ptrsOf; omega) (and_7 _ (by omega) (by omega)) rfl (data_bd x) (ptrs_bd x) (by omega) (by omega) hr1 rfl (hide ?_) HR _ _ _ _ _ _ _ _ _ _ _ _ _ _ _ _ _ _ _ _ _ _ _ _ _ _ _ _ _ _ _ _ _ _ _ _ _ _ _ _ _ _ _ _ _ _ _ _ _ _ _ _ _ _ _ _ _ _ _ _ _ _ _ _ _ _ _ _ _ _ _ _ _ _ _ _ _ _ _ _ _ _ _ _ _ _ _ _ _ _ _ _ _ _ _ _ _ _ _ _ _ _ _ _ _ _ _ _ _ _ _ _ _ _ _ _ _ _ _ _ _ _ _ _ _ _ _ _ _ _ _ _ _ _ _ _ _ _ _ _ _ _ _ _ _ _ _ _ _ _ _ _ _ _ _ _ _ _ _ _ _ _ _ _ _ _ _
    rw [readNZ, if_pos hr, hxn]
  · by_cases hr2 : x % 4 = 1
    · have hr1 : bits .and .u64 x 3 = 1 := by rw [and_3 x hx0 hx1]; exact hr2
      by_cases h7 : x / 4294967296 % 8 = 7
      · refine rw_strs R w.heap.size w.heap.size n c a xs x base low (base + sgn30 (x / 4)) (dataOf x) (ptrsOf x) (x / 4294967296) (x / 4294967296 % 8) (x / 34359738368) (w.alloc (Obj.cells #[Value.int IntKind.u8 0, Value.int IntKind.u16 0, Value.int IntKind.u8 0, Value.int IntKind.u8 0, Value.int IntKind.u8 0, Value.int IntKind.u16 0] 58)) hn hlow hto hx0 hx1 (Nat.le_refl _) (by simp) (by simp) (by simp) (by simp) (by simp) (by simp) (by simp) (by simp) (by simp) (by simp) (by simp) (by simp) rfl (by omega) (and_16 _ (by omega) (by omega)) (by unfold ptrsOf; omega) (and_7 _ (by omega) (by omega)) rfl (data_bd x) (ptrs_bd x) (by omega) (by omega) (structsOf xs low (base + sgn30 (x / 4)) (x / 34359738368)) hr1 h7 (by simp) (by simp) (hide (readStructs_any a n c xs low (base + sgn30 (x / 4)) (x / 34359738368) _ (hs.below ((Below.refl _ _).alloc (Nat.le_refl _) _)) hxn hw hn hlow hto (by omega) (by omega))) (hide ?_) HR _ _ _ _ _ _ _ _ _ _ _ _ _ _ _ _ _ _ _ _ _ _ _ _ _ _ _ _ _ _ _ _ _ _ _ _ _ _ _ _ _ _ _ _ _ _ _ _ _ _ _ _ _ _ _ _ _ _ _ _ _ _ _ _ _ _ _ _ _ _ _ _ _ _ _ _ _ _ _ _ _ _ _ _ _ _ _ _ _ _ _ _ _ _ _ _ _ _ _ _ _ _ _ _ _ _ _ _ _ _ _ _ _ _ _ _ _ _ _ _ _ _ _ _ _ _ _ _ _ _ _ _ _ _ _ _ _ _ _ _ _ _ _ _ _ _ _ _ _ _ _ _ _ _ _ _ _ _ _ _ _ _ _ _ _ _ _
        rw [readNZ, if_neg hr, if_pos hr2, if_pos h7]
      by_cases h2 : x / 4294967296 % 8 < 2
      · refine rw_bad R w.heap.size w.heap.size n c a xs x base low (base + sgn30 (x / 4)) (dataOf x) (ptrsOf x) (x / 4294967296) (x / 4294967296 % 8) (x / 34359738368) (w.alloc (Obj.cells #[Value.int IntKind.u8 0, Value.int IntKind.u16 0, Value.int IntKind.u8 0, Value.int IntKind.u8 0, Value.int IntKind.u8 0, Value.int IntKind.u16 0] 58)) hn hlow hto hx0 hx1 (Nat.le_refl _) (by simp) (by simp) (by simp) (by simp) (by simp) (by simp) (by simp) (by simp) (by simp) (by simp) (by simp) (by simp) rfl (by omega) (and_16 _ (by omega) (by omega)) (by unfold ptrsOf; omega) (and_7 _ (by omega) (by omega)) rfl (data_bd x) (ptrs_bd x) (by omega) (by omega) 1 hr1 (by simp) (.inr ⟨rfl, h2⟩) (hide ?_) HR _ _ _ _ _ _ _ _ _ _ _ _ _ _ _ _ _ _ _ _ _ _ _ _ _ _ _ _ _ _ _ _ _ _ _ _ _ _ _ _ _ _ _ _ _ _ _ _ _ _ _ _ _ _ _ _ _ _ _ _ _ _ _ _ _ _ _ _ _ _ _ _ _ _ _ _ _ _ _ _ _ _ _ _ _ _ _ _ _ _ _ _ _ _ _ _ _ _ _ _ _ _ _ _ _ _ _ _ _ _ _ _ _ _ _ _ _ _ _ _ _ _ _ _ _ _ _ _ _ _ _ _ _ _ _ _ _ _ _ _ _ _ _ _ _ _ _ _ _ _ _ _ _ _ _ _ _ _ _ _ _ _ _ _ _ _ _
        rw [readNZ, if_neg hr, if_pos hr2, if_neg h7]
        exact plainOf_bad (.inl h2)
      have hcs : x / 4294967296 % 8 = 2 ∨ x / 4294967296 % 8 = 3 ∨ x / 4294967296 % 8 = 4 ∨ x / 4294967296 % 8 = 5 ∨ x / 4294967296 % 8 = 6 := by omega
      rcases hcs with hcd | hcd | hcd | hcd | hcd
      · have hidx : ∀ W, (Instr.index 262 (.agg #[.int .i64 0, .int .i64 0, .int .i64 1, .int .i64 2, .int .i64 4, .int .i64 8, .int .i64 8, .int .i64 0]) (.int .u64 2)).run Fagg.prog W = .ok (.int .i64 1) W := fun _ => by kernel_rfl
        have hlw : listWords 2 (x / 34359738368) = (x / 34359738368 + 7) / 8 := by unfold listWords; simp
        refine rw_list R w.heap.size w.heap.size n c a xs x base low (base + sgn30 (x / 4)) (dataOf x) (ptrsOf x) (x / 4294967296) 2 (x / 34359738368) (w.alloc (Obj.cells #[Value.int IntKind.u8 0, Value.int IntKind.u16 0, Value.int IntKind.u8 0, Value.int IntKind.u8 0, Value.int IntKind.u8 0, Value.int IntKind.u16 0] 58)) hn hlow hto hx0 hx1 (Nat.le_refl _) (by simp) (by simp) (by simp) (by simp) (by simp) (by simp) (by simp) (by simp) (by simp) (by simp) (by simp) (by simp) rfl (by omega) (and_16 _ (by omega) (by omega)) (by unfold ptrsOf; omega) (by rw [and_7 _ (by omega) (by omega)]; exact hcd) rfl (data_bd x) (ptrs_bd x) (by omega) (by omega) 1 (1 * (x / 34359738368)) (listWords 2 (x / 34359738368)) hr1 (by omega) (by simp) hidx rfl (by omega) (by rw [hlw]; omega) (by rw [hlw]; omega) (by rw [hlw]; omega) (hide ?_) HR _ _ _ _ _ _ _ _ _ _ _ _ _ _ _ _ _ _ _ _ _ _ _ _ _ _ _ _ _ _ _ _ _ _ _ _ _ _ _ _ _ _ _ _ _ _ _ _ _ _ _ _ _ _ _ _ _ _ _ _ _ _ _ _ _ _ _ _ _ _ _ _ _ _ _ _ _ _ _ _ _ _ _ _ _ _ _ _ _ _ _ _ _ _ _ _ _ _ _ _ _ _ _ _ _ _ _ _ _ _ _ _ _ _ _ _ _ _ _ _ _ _ _ _ _ _ _ _ _ _ _ _ _ _ _ _ _ _ _ _ _ _ _ _ _ _ _ _ _ _ _ _ _ _ _ _ _ _ _ _ _ _ _ _ _ _ _
        rw [readNZ, if_neg hr, if_pos hr2, hcd, if_neg (by omega), hxn]
        unfold plainOf
        split
        · rename_i h; rw [if_pos (.inl (by omega))]
        · rename_i h
          split
          · rename_i h3; rw [if_pos (.inr h3)]
          · rename_i h3; rw [if_neg (by rintro (h4 | h4); omega; exact h3 h4)]
      · have hidx : ∀ W, (Instr.index 262 (.agg #[.int .i64 0, .int .i64 0, .int .i64 1, .int .i64 2, .int .i64 4, .int .i64 8, .int .i64 8, .int .i64 0]) (.int .u64 3)).run Fagg.prog W = .ok (.int .i64 2) W := fun _ => by kernel_rfl
        have hlw : listWords 3 (x / 34359738368) = (x / 34359738368 * 2 + 7) / 8 := by unfold listWords; simp
        refine rw_list R w.heap.size w.heap.size n c a xs x base low (base + sgn30 (x / 4)) (dataOf x) (ptrsOf x) (x / 4294967296) 3 (x / 34359738368) (w.alloc (Obj.cells #[Value.int IntKind.u8 0, Value.int IntKind.u16 0, Value.int IntKind.u8 0, Value.int IntKind.u8 0, Value.int IntKind.u8 0, Value.int IntKind.u16 0] 58)) hn hlow hto hx0 hx1 (Nat.le_refl _) (by simp) (by simp) (by simp) (by simp) (by simp) (by simp) (by simp) (by simp) (by simp) (by simp) (by simp) (by simp) rfl (by omega) (and_16 _ (by omega) (by omega)) (by unfold ptrsOf; omega) (by rw [and_7 _ (by omega) (by omega)]; exact hcd) rfl (data_bd x) (ptrs_bd x) (by omega) (by omega) 2 (2 * (x / 34359738368)) (listWords 3 (x / 34359738368)) hr1 (by omega) (by simp) hidx rfl (by omega) (by rw [hlw]; omega) (by rw [hlw]; omega) (by rw [hlw]; omega) (hide ?_) HR _ _ _ _ _ _ _ _ _ _ _ _ _ _ _ _ _ _ _ _ _ _ _ _ _ _ _ _ _ _ _ _ _ _ _ _ _ _ _ _ _ _ _ _ _ _ _ _ _ _ _ _ _ _ _ _ _ _ _ _ _ _ _ _ _ _ _ _ _ _ _ _ _ _ _ _ _ _ _ _ _ _ _ _ _ _ _ _ _ _ _ _ _ _ _ _ _ _ _ _ _ _ _ _ _ _ _ _ _ _ _ _ _ _ _ _ _ _ _ _ _ _ _ _ _ _ _ _ _ _ _ _ _ _ _ _ _ _ _ _ _ _ _ _ _ _ _ _ _ _ _ _ _ _ _ _ _ _ _ _ _ _ _ _ _ _ _
        rw [readNZ, if_neg hr, if_pos hr2, hcd, if_neg (by omega), hxn]
        unfold plainOf
        split
        · rename_i h; rw [if_pos (.inl (by omega))]
        · rename_i h
          split
          · rename_i h3; rw [if_pos (.inr h3)]
          · rename_i h3; rw [if_neg (by rintro (h4 | h4); omega; exact h3 h4)]
      · have hidx : ∀ W, (Instr.index 262 (.agg #[.int .i64 0, .int .i64 0, .int .i64 1, .int .i64 2, .int .i64 4, .int .i64 8, .int .i64 8, .int .i64 0]) (.int .u64 4)).run Fagg.prog W = .ok (.int .i64 4) W := fun _ => by kernel_rfl
        have hlw : listWords 4 (x / 34359738368) = (x / 34359738368 * 4 + 7) / 8 := by unfold listWords; simp
        refine rw_list R w.heap.size w.heap.size n c a xs x base low (base + sgn30 (x / 4)) (dataOf x) (ptrsOf x) (x / 4294967296) 4 (x / 34359738368) (w.alloc (Obj.cells #[Value.int IntKind.u8 0, Value.int IntKind.u16 0, Value.int IntKind.u8 0, Value.int IntKind.u8 0, Value.int IntKind.u8 0, Value.int IntKind.u16 0] 58)) hn hlow hto hx0 hx1 (Nat.le_refl _) (by simp) (by simp) (by simp) (by simp) (by simp) (by simp) (by simp) (by simp) (by simp) (by simp) (by simp) (by simp) rfl (by omega) (and_16 _ (by omega) (by omega)) (by unfold ptrsOf; omega) (by rw [and_7 _ (by omega) (by omega)]; exact hcd) rfl (data_bd x) (ptrs_bd x) (by omega) (by omega) 4 (4 * (x / 34359738368)) (listWords 4 (x / 34359738368)) hr1 (by omega) (by simp) hidx rfl (by omega) (by rw [hlw]; omega) (by rw [hlw]; omega) (by rw [hlw]; omega) (hide ?_) HR _ _ _ _ _ _ _ _ _ _ _ _ _ _ _ _ _ _ _ _ _ _ _ _ _ _ _ _ _ _ _ _ _ _ _ _ _ _ _ _ _ _ _ _ _ _ _ _ _ _ _ _ _ _ _ _ _ _ _ _ _ _ _ _ _ _ _ _ _ _ _ _ _ _ _ _ _ _ _ _ _ _ _ _ _ _ _ _ _ _ _ _ _ _ _ _ _ _ _ _ _ _ _ _ _ _ _ _ _ _ _ _ _ _ _ _ _ _ _ _ _ _ _ _ _ _ _ _ _ _ _ _ _ _ _ _ _ _ _ _ _ _ _ _ _ _ _ _ _ _ _ _ _ _ _ _ _ _ _ _ _ _ _ _ _ _ _
        rw [readNZ, if_neg hr, if_pos hr2, hcd, if_neg (by omega), hxn]
        unfold plainOf
        split
        · rename_i h; rw [if_pos (.inl (by omega))]
        · rename_i h
          split
          · rename_i h3; rw [if_pos (.inr h3)]
          · rename_i h3; rw [if_neg (by rintro (h4 | h4); omega; exact h3 h4)]
      · have hidx : ∀ W, (Instr.index 262 (.agg #[.int .i64 0, .int .i64 0, .int .i64 1, .int .i64 2, .int .i64 4, .int .i64 8, .int .i64 8, .int .i64 0]) (.int .u64 5)).run Fagg.prog W = .ok (.int .i64 8) W := fun _ => by kernel_rfl
        have hlw : listWords 5 (x / 34359738368) = (x / 34359738368 * 8 + 7) / 8 := by unfold listWords; simp
        refine rw_list R w.heap.size w.heap.size n c a xs x base low (base + sgn30 (x / 4)) (dataOf x) (ptrsOf x) (x / 4294967296) 5 (x / 34359738368) (w.alloc (Obj.cells #[Value.int IntKind.u8 0, Value.int IntKind.u16 0, Value.int IntKind.u8 0, Value.int IntKind.u8 0, Value.int IntKind.u8 0, Value.int IntKind.u16 0] 58)) hn hlow hto hx0 hx1 (Nat.le_refl _) (by simp) (by simp) (by simp) (by simp) (by simp) (by simp) (by simp) (by simp) (by simp) (by simp) (by simp) (by simp) rfl (by omega) (and_16 _ (by omega) (by omega)) (by unfold ptrsOf; omega) (by rw [and_7 _ (by omega) (by omega)]; exact hcd) rfl (data_bd x) (ptrs_bd x) (by omega) (by omega) 8 (8 * (x / 34359738368)) (listWords 5 (x / 34359738368)) hr1 (by omega) (by simp) hidx rfl (by omega) (by rw [hlw]; omega) (by rw [hlw]; omega) (by rw [hlw]; omega) (hide ?_) HR _ _ _ _ _ _ _ _ _ _ _ _ _ _ _ _ _ _ _ _ _ _ _ _ _ _ _ _ _ _ _ _ _ _ _ _ _ _ _ _ _ _ _ _ _ _ _ _ _ _ _ _ _ _ _ _ _ _ _ _ _ _ _ _ _ _ _ _ _ _ _ _ _ _ _ _ _ _ _ _ _ _ _ _ _ _ _ _ _ _ _ _ _ _ _ _ _ _ _ _ _ _ _ _ _ _ _ _ _ _ _ _ _ _ _ _ _ _ _ _ _ _ _ _ _ _ _ _ _ _ _ _ _ _ _ _ _ _ _ _ _ _ _ _ _ _ _ _ _ _ _ _ _ _ _ _ _ _ _ _ _ _ _ _ _ _ _
        rw [readNZ, if_neg hr, if_pos hr2, hcd, if_neg (by omega), hxn]
        unfold plainOf
        split
        · rename_i h; rw [if_pos (.inl (by omega))]
        · rename_i h
          split
          · rename_i h3; rw [if_pos (.inr h3)]
          · rename_i h3; rw [if_neg (by rintro (h4 | h4); omega; exact h3 h4)]
      · have hidx : ∀ W, (Instr.index 262 (.agg #[.int .i64 0, .int .i64 0, .int .i64 1, .int .i64 2, .int .i64 4, .int .i64 8, .int .i64 8, .int .i64 0]) (.int .u64 6)).run Fagg.prog W = .ok (.int .i64 8) W := fun _ => by kernel_rfl
        have hlw : listWords 6 (x / 34359738368) = x / 34359738368 := by unfold listWords; simp
        refine rw_list R w.heap.size w.heap.size n c a xs x base low (base + sgn30 (x / 4)) (dataOf x) (ptrsOf x) (x / 4294967296) 6 (x / 34359738368) (w.alloc (Obj.cells #[Value.int IntKind.u8 0, Value.int IntKind.u16 0, Value.int IntKind.u8 0, Value.int IntKind.u8 0, Value.int IntKind.u8 0, Value.int IntKind.u16 0] 58)) hn hlow hto hx0 hx1 (Nat.le_refl _) (by simp) (by simp) (by simp) (by simp) (by simp) (by simp) (by simp) (by simp) (by simp) (by simp) (by simp) (by simp) rfl (by omega) (and_16 _ (by omega) (by omega)) (by unfold ptrsOf; omega) (by rw [and_7 _ (by omega) (by omega)]; exact hcd) rfl (data_bd x) (ptrs_bd x) (by omega) (by omega) 8 (8 * (x / 34359738368)) (listWords 6 (x / 34359738368)) hr1 (by omega) (by simp) hidx rfl (by omega) (by rw [hlw]; omega) (by rw [hlw]; omega) (by rw [hlw]; omega) (hide ?_) HR _ _ _ _ _ _ _ _ _ _ _ _ _ _ _ _ _ _ _ _ _ _ _ _ _ _ _ _ _ _ _ _ _ _ _ _ _ _ _ _ _ _ _ _ _ _ _ _ _ _ _ _ _ _ _ _ _ _ _ _ _ _ _ _ _ _ _ _ _ _ _ _ _ _ _ _ _ _ _ _ _ _ _ _ _ _ _ _ _ _ _ _ _ _ _ _ _ _ _ _ _ _ _ _ _ _ _ _ _ _ _ _ _ _ _ _ _ _ _ _ _ _ _ _ _ _ _ _ _ _ _ _ _ _ _ _ _ _ _ _ _ _ _ _ _ _ _ _ _ _ _ _ _ _ _ _ _ _ _ _ _ _ _ _ _ _ _
        rw [readNZ, if_neg hr, if_pos hr2, hcd, if_neg (by omega), hxn]
        unfold plainOf
        split
        · rename_i h; rw [if_pos (.inl (by omega))]
        · rename_i h
          split
          · rename_i h3; rw [if_pos (.inr h3)]
          · rename_i h3; rw [if_neg (by rintro (h4 | h4); omega; exact h3 h4)]
    · refine rw_bad R w.heap.size w.heap.size n c a xs x base low (base + sgn30 (x / 4)) (dataOf x) (ptrsOf x) (x / 4294967296) (x / 4294967296 % 8) (x / 34359738368) (w.alloc (Obj.cells #[Value.int IntKind.u8 0, Value.int IntKind.u16 0, Value.int IntKind.u8 0, Value.int IntKind.u8 0, Value.int IntKind.u8 0, Value.int IntKind.u16 0] 58)) hn hlow hto hx0 hx1 (Nat.le_refl _) (by simp) (by simp) (by simp) (by simp) (by simp) (by simp) (by simp) (by simp) (by simp) (by simp) (by simp) (by simp) rfl (by omega) (and_16 _ (by omega) (by omega)) (by unfold ptrsOf; omega) (and_7 _ (by omega) (by omega)) rfl (data_bd x) (ptrs_bd x) (by omega) (by omega) (x % 4) (and_3 x hx0 hx1) (by simp [hr]) (.inl (by simp [hr2])) (hide ?_) HR _ _ _ _ _ _ _ _ _ _ _ _ _ _ _ _ _ _ _ _ _ _ _ _ _ _ _ _ _ _ _ _ _ _ _ _ _ _ _ _ _ _ _ _ _ _ _ _ _ _ _ _ _ _ _ _ _ _ _ _ _ _ _ _ _ _ _ _ _ _ _ _ _ _ _ _ _ _ _ _ _ _ _ _ _ _ _ _ _ _ _ _ _ _ _ _ _ _ _ _ _ _ _ _ _ _ _ _ _ _ _ _ _ _ _ _ _ _ _ _ _ _ _ _ _ _ _ _ _ _ _ _ _ _ _ _ _ _ _ _ _ _ _ _ _ _ _ _ _ _ _ _ _ _ _ _ _ _ _ _ _ _ _ _ _ _ _
      rw [readNZ, if_neg hr, if_neg hr2]

set_option maxHeartbeats 4000000 in
set_option maxRecDepth 100000 in
theorem readWord_any (a : Option Addr) (n c : Nat) (xs : List Int) (x base low : Int) (w : World) (hs : Sl .u64 w a xs) (hxn : xs.length = n) (hw : Wds xs) (hn : n ≤ 256) (hx0 : 0 ≤ x) (hx1 : x < 18446744073709551616) (hba : 0 ≤ base ∧ base ≤ 65536) (hlow : 0 ≤ low ∧ low ≤ 1) :
    Calls Fagg.prog 72 #[.slice a n c, .int .u64 x, .int .i64 base, .int .i64 low] w fun e w' => e = .returned (ptRes (readOf xs x base low)) ∧ Below w.heap.size w w' := by
  by_cases hx : x = 0
  · subst hx
    have HF := hide (show readOf xs 0 base low = some Pt.nil by unfold readOf; simp)
    clear hs hw
    go_enter Fagg.func72, Fagg.ntmps72
    go_wp2_with fail
    exact bodyPost_ret (v := ptRes (some Pt.nil)) (by simp [results, Fagg.results72, go_sem, ptRes, ptV, Pt.nil]) rfl ⟨by rw [unhide HF], (Below.refl _ _).alloc (Nat.le_refl _) _⟩
  have ex : (x == 0) = false := by simp [hx]
  have HT := hide (fun (R : Ending → World → Prop) => rw_tail R n c a xs x base low w hs hxn hw hn hx0 hx1 hba hlow)
  have hz := and_fffc x hx0 hx1
  generalize hzz : bits .and .u64 x 4294967292 = z at *
  obtain ⟨hz1, hz2, hz3⟩ := hz
  rw [readOf_nz hx]
  clear hs hw
  by_cases ho : x / 4 % 1073741824 < 536870912
  · have ho' : ¬ x / 4 % 1073741824 ≥ 536870912 := by omega
    have hsg : sgn30 (x / 4) = x / 4 % 1073741824 := by unfold sgn30; rw [if_pos ho]
    rw [hsg] at HT
    generalize x / 4 % 1073741824 = o at *
    go_enter Fagg.func72, Fagg.ntmps72
    refine wp_seq_k (fun K0 hK0 => ?_)
    have HK0 := hide hK0
    clear hK0
    go_wp2
    refine unhide HK0 _ _ ?_
    clear HK0
    refine wp_seq_k (fun K0 hK0 => ?_)
    have HK0 := hide hK0
    clear hK0
    go_wp2
    refine unhide HK0 _ _ ?_
    clear HK0
    refine wp_seq_k (fun K0 hK0 => ?_)
    have HK0 := hide hK0
    clear hK0
    go_wp2
    refine unhide HK0 _ _ ?_
    clear HK0
    refine wp_seq_k (fun K0 hK0 => ?_)
    have HK0 := hide hK0
    clear hK0
    go_wp2
    refine unhide HK0 _ _ ?_
    clear HK0
    refine wp_seq_k (fun K0 hK0 => ?_)
    have HK0 := hide hK0
    clear hK0
    go_wp2
    refine unhide HK0 _ _ ?_
    clear HK0
    refine wp_seq_k (fun K0 hK0 => ?_)
    have HK0 := hide hK0
    clear hK0
    go_wp2
    refine unhide HK0 _ _ ?_
    clear HK0
    refine unhide HT _ (hide fun w' hb => ⟨rfl, ((Below.refl _ _).alloc (Nat.le_refl _) _).trans hb⟩) _ _ _ _ _ _ _ _ _ _ _ _ _ _ _ _ _ _ _ _ _ _ _ _ _ _ _ _ _ _ _ _ _ _ _ _ _ _ _ _ _ _ _ _ _ _ _ _ _ _ _ _ _ _ _ _ _ _ _ _ _ _ _ _ _ _ _ _ _ _ _ _ _ _ _ _ _ _ _ _ _ _ _ _ _ _ _ _ _ _ _ _ _ _ _ _ _ _ _ _ _ _ _ _ _ _ _ _ _ _ _ _ _ _ _ _ _ _ _ _ _ _ _ _ _ _ _ _ _ _ _ _ _ _ _ _ _ _ _ _ _ _ _ _ _ _ _ _ _ _ _ _ _ _ _ _ _ _ _ _ _ _ _ _ _ _ _
  · have ho' : x / 4 % 1073741824 ≥ 536870912 := by omega
    have hsg : sgn30 (x / 4) = x / 4 % 1073741824 - 1073741824 := by unfold sgn30; rw [if_neg ho]
    rw [hsg] at HT
    have hob : x / 4 % 1073741824 < 1073741824 := by omega
    generalize x / 4 % 1073741824 = o at *
    go_enter Fagg.func72, Fagg.ntmps72
    refine wp_seq_k (fun K0 hK0 => ?_)
    have HK0 := hide hK0
    clear hK0
    go_wp2
    refine unhide HK0 _ _ ?_
    clear HK0
    refine wp_seq_k (fun K0 hK0 => ?_)
    have HK0 := hide hK0
    clear hK0
    go_wp2
    refine unhide HK0 _ _ ?_
    clear HK0
    refine wp_seq_k (fun K0 hK0 => ?_)
    have HK0 := hide hK0
    clear hK0
    go_wp2
    refine unhide HK0 _ _ ?_
    clear HK0
    refine wp_seq_k (fun K0 hK0 => ?_)
    have HK0 := hide hK0
    clear hK0
    go_wp2
    refine unhide HK0 _ _ ?_
    clear HK0
    refine wp_seq_k (fun K0 hK0 => ?_)
    have HK0 := hide hK0
    clear hK0
    go_wp2
    refine unhide HK0 _ _ ?_
    clear HK0
    refine wp_seq_k (fun K0 hK0 => ?_)
    have HK0 := hide hK0
    clear hK0
    go_wp2
    refine unhide HK0 _ _ ?_
    clear HK0
    refine unhide HT _ (hide fun w' hb => ⟨rfl, ((Below.refl _ _).alloc (Nat.le_refl _) _).trans hb⟩) _ _ _ _ _ _ _ _ _ _ _ _ _ _ _ _ _ _ _ _ _ _ _ _ _ _ _ _ _ _ _ _ _ _ _ _ _ _ _ _ _ _ _ _ _ _ _ _ _ _ _ _ _ _ _ _ _ _ _ _ _ _ _ _ _ _ _ _ _ _ _ _ _ _ _ _ _ _ _ _ _ _ _ _ _ _ _ _ _ _ _ _ _ _ _ _ _ _ _ _ _ _ _ _ _ _ _ _ _ _ _ _ _ _ _ _ _ _ _ _ _ _ _ _ _ _ _ _ _ _ _ _ _ _ _ _ _ _ _ _ _ _ _ _ _ _ _ _ _ _ _ _ _ _ _ _ _ _ _ _ _ _ _ _ _ _ _
end Go.Proofs.Ygcfag
