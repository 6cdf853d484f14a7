/-
  PLAIN AND MEMORY: the table of segwire.Seal.
-/
import Derived.Test.YgcfagW17a
import Derived.OneCell
import Derived.Lib.OwnKind
namespace Go.Proofs.Ygcfag
open Go.RowKit
set_option linter.unusedVariables false
set_option linter.unusedSimpArgs false

def entN (ms : List (List Int)) (i : Nat) : Nat := if i < ms.length then (ms.getD i []).length + 1 else 0
/-- A word of the table. -/
def tabOf (ms : List (List Int)) (j : Nat) : Int := (entN ms (4 * j) : Int) + (entN ms (4 * j + 1) : Int) * 65536 + (entN ms (4 * j + 2) : Int) * 4294967296 + (entN ms (4 * j + 3) : Int) * 281474976710656

theorem entN_take (ms : List (List Int)) (k i : Nat) : entN (ms.take k) i = if i < k then entN ms i else 0 := by
  unfold entN
  by_cases h : i < k
  · simp only [h, List.getD, List.getElem?_take, List.length_take, if_true]
    by_cases h2 : i < ms.length
    · rw [if_pos (by omega), if_pos h2]
    · rw [if_neg (by omega), if_neg h2]
  · rw [if_neg h, if_neg (by simp; omega)]

theorem entN_le (ms : List (List Int)) (i : Nat) (hT : total ms ≤ 256) : entN ms i ≤ 257 := by
  unfold entN
  split
  · have := total_ge ms i (by assumption); omega
  · omega

theorem tabOf_bd (ms : List (List Int)) (j : Nat) (hT : total ms ≤ 256) : 0 ≤ tabOf ms j ∧ tabOf ms j ≤ 18446744073709551615 := by
  have := entN_le ms (4 * j) hT
  have := entN_le ms (4 * j + 1) hT
  have := entN_le ms (4 * j + 2) hT
  have := entN_le ms (4 * j + 3) hT
  unfold tabOf
  omega

theorem or_join2 (b a : Int) (i : Nat) (ha : 0 ≤ a) (ha' : a < 18446744073709551616) (hb : 0 ≤ b) (hb' : b < 18446744073709551616) (hd : a % (2 ^ i : Nat) = 0) (hl : b < (2 ^ i : Nat)) : bits .or .u64 b a = a + b := by
  rw [← or_join a b i ha ha' hb hb' hd hl, u64_or a b ha ha' hb hb', u64_or b a hb hb' ha ha', Nat.or_comm]

theorem pw32 : ((2 ^ 32 : Nat) : Int) = 4294967296 := by decide
theorem pw48 : ((2 ^ 48 : Nat) : Int) = 281474976710656 := by decide
theorem pw16 : ((2 ^ 16 : Nat) : Int) = 65536 := by decide
theorem or_put (t e M : Int) (i : Nat) (hM : ((2 ^ i : Nat) : Int) = M) (ht0 : 0 ≤ t) (ht : t < M) (ht2 : t < 18446744073709551616) (he0 : 0 ≤ e) (he : e * M < 18446744073709551616) : bits .or .u64 t (e * M) = e * M + t := by
  have hM0 : 0 ≤ M := by omega
  have hp : 0 ≤ e * M := Int.mul_nonneg he0 hM0
  refine or_join2 t (e * M) i hp he ht0 ht2 ?_ ?_
  · rw [hM]; exact Int.mul_emod_left _ _
  · rw [hM]; exact ht
theorem or_put0 (t e : Int) (ht : t = 0) (he0 : 0 ≤ e) (he : e < 18446744073709551616) : bits .or .u64 t e = e := by
  subst ht
  rw [or_join2 0 e 0 he0 he (by omega) (by omega) (by simp) (by simp)]
  omega
theorem tab_k0 (ms : List (List Int)) (h : 0 < ms.length) (hT : total ms ≤ 256) : bits .or .u64 (tabOf (ms.take 0) 0) ((((ms.getD 0 []).length : Int) + 1)) = tabOf (ms.take (0 + 1)) 0 ∧ tabOf (ms.take (0 + 1)) 1 = tabOf (ms.take 0) 1 := by
  have e : entN ms 0 = (ms.getD 0 []).length + 1 := by unfold entN; rw [if_pos h]
  have hg := total_ge ms 0 h
  have a1 : tabOf (ms.take 0) 0 = 0 := by show (entN (ms.take 0) 0 : Int) + (entN (ms.take 0) 1 : Int) * 65536 + (entN (ms.take 0) 2 : Int) * 4294967296 + (entN (ms.take 0) 3 : Int) * 281474976710656 = _; rw [show entN (ms.take 0) 0 = 0 by rw [entN_take]; simp]; rw [show entN (ms.take 0) 1 = 0 by rw [entN_take]; simp]; rw [show entN (ms.take 0) 2 = 0 by rw [entN_take]; simp]; rw [show entN (ms.take 0) 3 = 0 by rw [entN_take]; simp]; omega
  have a2 : tabOf (ms.take (0 + 1)) 0 = 0 + (entN ms 0 : Int) * 1 := by show (entN (ms.take 1) 0 : Int) + (entN (ms.take 1) 1 : Int) * 65536 + (entN (ms.take 1) 2 : Int) * 4294967296 + (entN (ms.take 1) 3 : Int) * 281474976710656 = _; rw [show entN (ms.take 1) 0 = entN ms 0 by rw [entN_take]; simp]; rw [show entN (ms.take 1) 1 = 0 by rw [entN_take]; simp]; rw [show entN (ms.take 1) 2 = 0 by rw [entN_take]; simp]; rw [show entN (ms.take 1) 3 = 0 by rw [entN_take]; simp]; omega
  have a3 : tabOf (ms.take (0 + 1)) 1 = tabOf (ms.take 0) 1 := by show (entN (ms.take 1) 4 : Int) + (entN (ms.take 1) 5 : Int) * 65536 + (entN (ms.take 1) 6 : Int) * 4294967296 + (entN (ms.take 1) 7 : Int) * 281474976710656 = (entN (ms.take 0) 4 : Int) + (entN (ms.take 0) 5 : Int) * 65536 + (entN (ms.take 0) 6 : Int) * 4294967296 + (entN (ms.take 0) 7 : Int) * 281474976710656; rw [show entN (ms.take 1) 4 = 0 by rw [entN_take]; simp]; rw [show entN (ms.take 1) 5 = 0 by rw [entN_take]; simp]; rw [show entN (ms.take 1) 6 = 0 by rw [entN_take]; simp]; rw [show entN (ms.take 1) 7 = 0 by rw [entN_take]; simp]; rw [show entN (ms.take 0) 4 = 0 by rw [entN_take]; simp]; rw [show entN (ms.take 0) 5 = 0 by rw [entN_take]; simp]; rw [show entN (ms.take 0) 6 = 0 by rw [entN_take]; simp]; rw [show entN (ms.take 0) 7 = 0 by rw [entN_take]; simp]
  have b0 := entN_le ms 0 hT
  generalize entN ms 0 = x0 at *
  generalize (ms.getD 0 []).length = lk at *
  refine ⟨?_, a3⟩
  rw [a1, a2]
  refine (or_put0 _ _ ?_ ?_ ?_).trans ?_
  all_goals omega

theorem tab_k1 (ms : List (List Int)) (h : 1 < ms.length) (hT : total ms ≤ 256) : bits .or .u64 (tabOf (ms.take 1) 0) ((((ms.getD 1 []).length : Int) + 1) * 65536) = tabOf (ms.take (1 + 1)) 0 ∧ tabOf (ms.take (1 + 1)) 1 = tabOf (ms.take 1) 1 := by
  have e : entN ms 1 = (ms.getD 1 []).length + 1 := by unfold entN; rw [if_pos h]
  have hg := total_ge ms 1 h
  have a1 : tabOf (ms.take 1) 0 = 0 + (entN ms 0 : Int) * 1 := by show (entN (ms.take 1) 0 : Int) + (entN (ms.take 1) 1 : Int) * 65536 + (entN (ms.take 1) 2 : Int) * 4294967296 + (entN (ms.take 1) 3 : Int) * 281474976710656 = _; rw [show entN (ms.take 1) 0 = entN ms 0 by rw [entN_take]; simp]; rw [show entN (ms.take 1) 1 = 0 by rw [entN_take]; simp]; rw [show entN (ms.take 1) 2 = 0 by rw [entN_take]; simp]; rw [show entN (ms.take 1) 3 = 0 by rw [entN_take]; simp]; omega
  have a2 : tabOf (ms.take (1 + 1)) 0 = 0 + (entN ms 0 : Int) * 1 + (entN ms 1 : Int) * 65536 := by show (entN (ms.take 2) 0 : Int) + (entN (ms.take 2) 1 : Int) * 65536 + (entN (ms.take 2) 2 : Int) * 4294967296 + (entN (ms.take 2) 3 : Int) * 281474976710656 = _; rw [show entN (ms.take 2) 0 = entN ms 0 by rw [entN_take]; simp]; rw [show entN (ms.take 2) 1 = entN ms 1 by rw [entN_take]; simp]; rw [show entN (ms.take 2) 2 = 0 by rw [entN_take]; simp]; rw [show entN (ms.take 2) 3 = 0 by rw [entN_take]; simp]; omega
  have a3 : tabOf (ms.take (1 + 1)) 1 = tabOf (ms.take 1) 1 := by show (entN (ms.take 2) 4 : Int) + (entN (ms.take 2) 5 : Int) * 65536 + (entN (ms.take 2) 6 : Int) * 4294967296 + (entN (ms.take 2) 7 : Int) * 281474976710656 = (entN (ms.take 1) 4 : Int) + (entN (ms.take 1) 5 : Int) * 65536 + (entN (ms.take 1) 6 : Int) * 4294967296 + (entN (ms.take 1) 7 : Int) * 281474976710656; rw [show entN (ms.take 2) 4 = 0 by rw [entN_take]; simp]; rw [show entN (ms.take 2) 5 = 0 by rw [entN_take]; simp]; rw [show entN (ms.take 2) 6 = 0 by rw [entN_take]; simp]; rw [show entN (ms.take 2) 7 = 0 by rw [entN_take]; simp]; rw [show entN (ms.take 1) 4 = 0 by rw [entN_take]; simp]; rw [show entN (ms.take 1) 5 = 0 by rw [entN_take]; simp]; rw [show entN (ms.take 1) 6 = 0 by rw [entN_take]; simp]; rw [show entN (ms.take 1) 7 = 0 by rw [entN_take]; simp]
  have b0 := entN_le ms 0 hT
  have b1 := entN_le ms 1 hT
  generalize entN ms 0 = x0 at *
  generalize entN ms 1 = x1 at *
  generalize (ms.getD 1 []).length = lk at *
  refine ⟨?_, a3⟩
  rw [a1, a2]
  refine (or_put _ _ _ 16 pw16 ?_ ?_ ?_ ?_ ?_).trans ?_
  all_goals omega

theorem tab_k2 (ms : List (List Int)) (h : 2 < ms.length) (hT : total ms ≤ 256) : bits .or .u64 (tabOf (ms.take 2) 0) ((((ms.getD 2 []).length : Int) + 1) * 4294967296) = tabOf (ms.take (2 + 1)) 0 ∧ tabOf (ms.take (2 + 1)) 1 = tabOf (ms.take 2) 1 := by
  have e : entN ms 2 = (ms.getD 2 []).length + 1 := by unfold entN; rw [if_pos h]
  have hg := total_ge ms 2 h
  have a1 : tabOf (ms.take 2) 0 = 0 + (entN ms 0 : Int) * 1 + (entN ms 1 : Int) * 65536 := by show (entN (ms.take 2) 0 : Int) + (entN (ms.take 2) 1 : Int) * 65536 + (entN (ms.take 2) 2 : Int) * 4294967296 + (entN (ms.take 2) 3 : Int) * 281474976710656 = _; rw [show entN (ms.take 2) 0 = entN ms 0 by rw [entN_take]; simp]; rw [show entN (ms.take 2) 1 = entN ms 1 by rw [entN_take]; simp]; rw [show entN (ms.take 2) 2 = 0 by rw [entN_take]; simp]; rw [show entN (ms.take 2) 3 = 0 by rw [entN_take]; simp]; omega
  have a2 : tabOf (ms.take (2 + 1)) 0 = 0 + (entN ms 0 : Int) * 1 + (entN ms 1 : Int) * 65536 + (entN ms 2 : Int) * 4294967296 := by show (entN (ms.take 3) 0 : Int) + (entN (ms.take 3) 1 : Int) * 65536 + (entN (ms.take 3) 2 : Int) * 4294967296 + (entN (ms.take 3) 3 : Int) * 281474976710656 = _; rw [show entN (ms.take 3) 0 = entN ms 0 by rw [entN_take]; simp]; rw [show entN (ms.take 3) 1 = entN ms 1 by rw [entN_take]; simp]; rw [show entN (ms.take 3) 2 = entN ms 2 by rw [entN_take]; simp]; rw [show entN (ms.take 3) 3 = 0 by rw [entN_take]; simp]; omega
  have a3 : tabOf (ms.take (2 + 1)) 1 = tabOf (ms.take 2) 1 := by show (entN (ms.take 3) 4 : Int) + (entN (ms.take 3) 5 : Int) * 65536 + (entN (ms.take 3) 6 : Int) * 4294967296 + (entN (ms.take 3) 7 : Int) * 281474976710656 = (entN (ms.take 2) 4 : Int) + (entN (ms.take 2) 5 : Int) * 65536 + (entN (ms.take 2) 6 : Int) * 4294967296 + (entN (ms.take 2) 7 : Int) * 281474976710656; rw [show entN (ms.take 3) 4 = 0 by rw [entN_take]; simp]; rw [show entN (ms.take 3) 5 = 0 by rw [entN_take]; simp]; rw [show entN (ms.take 3) 6 = 0 by rw [entN_take]; simp]; rw [show entN (ms.take 3) 7 = 0 by rw [entN_take]; simp]; rw [show entN (ms.take 2) 4 = 0 by rw [entN_take]; simp]; rw [show entN (ms.take 2) 5 = 0 by rw [entN_take]; simp]; rw [show entN (ms.take 2) 6 = 0 by rw [entN_take]; simp]; rw [show entN (ms.take 2) 7 = 0 by rw [entN_take]; simp]
  have b0 := entN_le ms 0 hT
  have b1 := entN_le ms 1 hT
  have b2 := entN_le ms 2 hT
  generalize entN ms 0 = x0 at *
  generalize entN ms 1 = x1 at *
  generalize entN ms 2 = x2 at *
  generalize (ms.getD 2 []).length = lk at *
  refine ⟨?_, a3⟩
  rw [a1, a2]
  refine (or_put _ _ _ 32 pw32 ?_ ?_ ?_ ?_ ?_).trans ?_
  all_goals omega

theorem tab_k3 (ms : List (List Int)) (h : 3 < ms.length) (hT : total ms ≤ 256) : bits .or .u64 (tabOf (ms.take 3) 0) ((((ms.getD 3 []).length : Int) + 1) * 281474976710656) = tabOf (ms.take (3 + 1)) 0 ∧ tabOf (ms.take (3 + 1)) 1 = tabOf (ms.take 3) 1 := by
  have e : entN ms 3 = (ms.getD 3 []).length + 1 := by unfold entN; rw [if_pos h]
  have hg := total_ge ms 3 h
  have a1 : tabOf (ms.take 3) 0 = 0 + (entN ms 0 : Int) * 1 + (entN ms 1 : Int) * 65536 + (entN ms 2 : Int) * 4294967296 := by show (entN (ms.take 3) 0 : Int) + (entN (ms.take 3) 1 : Int) * 65536 + (entN (ms.take 3) 2 : Int) * 4294967296 + (entN (ms.take 3) 3 : Int) * 281474976710656 = _; rw [show entN (ms.take 3) 0 = entN ms 0 by rw [entN_take]; simp]; rw [show entN (ms.take 3) 1 = entN ms 1 by rw [entN_take]; simp]; rw [show entN (ms.take 3) 2 = entN ms 2 by rw [entN_take]; simp]; rw [show entN (ms.take 3) 3 = 0 by rw [entN_take]; simp]; omega
  have a2 : tabOf (ms.take (3 + 1)) 0 = 0 + (entN ms 0 : Int) * 1 + (entN ms 1 : Int) * 65536 + (entN ms 2 : Int) * 4294967296 + (entN ms 3 : Int) * 281474976710656 := by show (entN (ms.take 4) 0 : Int) + (entN (ms.take 4) 1 : Int) * 65536 + (entN (ms.take 4) 2 : Int) * 4294967296 + (entN (ms.take 4) 3 : Int) * 281474976710656 = _; rw [show entN (ms.take 4) 0 = entN ms 0 by rw [entN_take]; simp]; rw [show entN (ms.take 4) 1 = entN ms 1 by rw [entN_take]; simp]; rw [show entN (ms.take 4) 2 = entN ms 2 by rw [entN_take]; simp]; rw [show entN (ms.take 4) 3 = entN ms 3 by rw [entN_take]; simp]; omega
  have a3 : tabOf (ms.take (3 + 1)) 1 = tabOf (ms.take 3) 1 := by show (entN (ms.take 4) 4 : Int) + (entN (ms.take 4) 5 : Int) * 65536 + (entN (ms.take 4) 6 : Int) * 4294967296 + (entN (ms.take 4) 7 : Int) * 281474976710656 = (entN (ms.take 3) 4 : Int) + (entN (ms.take 3) 5 : Int) * 65536 + (entN (ms.take 3) 6 : Int) * 4294967296 + (entN (ms.take 3) 7 : Int) * 281474976710656; rw [show entN (ms.take 4) 4 = 0 by rw [entN_take]; simp]; rw [show entN (ms.take 4) 5 = 0 by rw [entN_take]; simp]; rw [show entN (ms.take 4) 6 = 0 by rw [entN_take]; simp]; rw [show entN (ms.take 4) 7 = 0 by rw [entN_take]; simp]; rw [show entN (ms.take 3) 4 = 0 by rw [entN_take]; simp]; rw [show entN (ms.take 3) 5 = 0 by rw [entN_take]; simp]; rw [show entN (ms.take 3) 6 = 0 by rw [entN_take]; simp]; rw [show entN (ms.take 3) 7 = 0 by rw [entN_take]; simp]
  have b0 := entN_le ms 0 hT
  have b1 := entN_le ms 1 hT
  have b2 := entN_le ms 2 hT
  have b3 := entN_le ms 3 hT
  generalize entN ms 0 = x0 at *
  generalize entN ms 1 = x1 at *
  generalize entN ms 2 = x2 at *
  generalize entN ms 3 = x3 at *
  generalize (ms.getD 3 []).length = lk at *
  refine ⟨?_, a3⟩
  rw [a1, a2]
  refine (or_put _ _ _ 48 pw48 ?_ ?_ ?_ ?_ ?_).trans ?_
  all_goals omega

theorem tab_k4 (ms : List (List Int)) (h : 4 < ms.length) (hT : total ms ≤ 256) : bits .or .u64 (tabOf (ms.take 4) 1) ((((ms.getD 4 []).length : Int) + 1)) = tabOf (ms.take (4 + 1)) 1 ∧ tabOf (ms.take (4 + 1)) 0 = tabOf (ms.take 4) 0 := by
  have e : entN ms 4 = (ms.getD 4 []).length + 1 := by unfold entN; rw [if_pos h]
  have hg := total_ge ms 4 h
  have a1 : tabOf (ms.take 4) 1 = 0 := by show (entN (ms.take 4) 4 : Int) + (entN (ms.take 4) 5 : Int) * 65536 + (entN (ms.take 4) 6 : Int) * 4294967296 + (entN (ms.take 4) 7 : Int) * 281474976710656 = _; rw [show entN (ms.take 4) 4 = 0 by rw [entN_take]; simp]; rw [show entN (ms.take 4) 5 = 0 by rw [entN_take]; simp]; rw [show entN (ms.take 4) 6 = 0 by rw [entN_take]; simp]; rw [show entN (ms.take 4) 7 = 0 by rw [entN_take]; simp]; omega
  have a2 : tabOf (ms.take (4 + 1)) 1 = 0 + (entN ms 4 : Int) * 1 := by show (entN (ms.take 5) 4 : Int) + (entN (ms.take 5) 5 : Int) * 65536 + (entN (ms.take 5) 6 : Int) * 4294967296 + (entN (ms.take 5) 7 : Int) * 281474976710656 = _; rw [show entN (ms.take 5) 4 = entN ms 4 by rw [entN_take]; simp]; rw [show entN (ms.take 5) 5 = 0 by rw [entN_take]; simp]; rw [show entN (ms.take 5) 6 = 0 by rw [entN_take]; simp]; rw [show entN (ms.take 5) 7 = 0 by rw [entN_take]; simp]; omega
  have a3 : tabOf (ms.take (4 + 1)) 0 = tabOf (ms.take 4) 0 := by show (entN (ms.take 5) 0 : Int) + (entN (ms.take 5) 1 : Int) * 65536 + (entN (ms.take 5) 2 : Int) * 4294967296 + (entN (ms.take 5) 3 : Int) * 281474976710656 = (entN (ms.take 4) 0 : Int) + (entN (ms.take 4) 1 : Int) * 65536 + (entN (ms.take 4) 2 : Int) * 4294967296 + (entN (ms.take 4) 3 : Int) * 281474976710656; rw [show entN (ms.take 5) 0 = entN ms 0 by rw [entN_take]; simp]; rw [show entN (ms.take 5) 1 = entN ms 1 by rw [entN_take]; simp]; rw [show entN (ms.take 5) 2 = entN ms 2 by rw [entN_take]; simp]; rw [show entN (ms.take 5) 3 = entN ms 3 by rw [entN_take]; simp]; rw [show entN (ms.take 4) 0 = entN ms 0 by rw [entN_take]; simp]; rw [show entN (ms.take 4) 1 = entN ms 1 by rw [entN_take]; simp]; rw [show entN (ms.take 4) 2 = entN ms 2 by rw [entN_take]; simp]; rw [show entN (ms.take 4) 3 = entN ms 3 by rw [entN_take]; simp]
  have b4 := entN_le ms 4 hT
  generalize entN ms 4 = x4 at *
  generalize (ms.getD 4 []).length = lk at *
  refine ⟨?_, a3⟩
  rw [a1, a2]
  refine (or_put0 _ _ ?_ ?_ ?_).trans ?_
  all_goals omega

theorem tab_k5 (ms : List (List Int)) (h : 5 < ms.length) (hT : total ms ≤ 256) : bits .or .u64 (tabOf (ms.take 5) 1) ((((ms.getD 5 []).length : Int) + 1) * 65536) = tabOf (ms.take (5 + 1)) 1 ∧ tabOf (ms.take (5 + 1)) 0 = tabOf (ms.take 5) 0 := by
  have e : entN ms 5 = (ms.getD 5 []).length + 1 := by unfold entN; rw [if_pos h]
  have hg := total_ge ms 5 h
  have a1 : tabOf (ms.take 5) 1 = 0 + (entN ms 4 : Int) * 1 := by show (entN (ms.take 5) 4 : Int) + (entN (ms.take 5) 5 : Int) * 65536 + (entN (ms.take 5) 6 : Int) * 4294967296 + (entN (ms.take 5) 7 : Int) * 281474976710656 = _; rw [show entN (ms.take 5) 4 = entN ms 4 by rw [entN_take]; simp]; rw [show entN (ms.take 5) 5 = 0 by rw [entN_take]; simp]; rw [show entN (ms.take 5) 6 = 0 by rw [entN_take]; simp]; rw [show entN (ms.take 5) 7 = 0 by rw [entN_take]; simp]; omega
  have a2 : tabOf (ms.take (5 + 1)) 1 = 0 + (entN ms 4 : Int) * 1 + (entN ms 5 : Int) * 65536 := by show (entN (ms.take 6) 4 : Int) + (entN (ms.take 6) 5 : Int) * 65536 + (entN (ms.take 6) 6 : Int) * 4294967296 + (entN (ms.take 6) 7 : Int) * 281474976710656 = _; rw [show entN (ms.take 6) 4 = entN ms 4 by rw [entN_take]; simp]; rw [show entN (ms.take 6) 5 = entN ms 5 by rw [entN_take]; simp]; rw [show entN (ms.take 6) 6 = 0 by rw [entN_take]; simp]; rw [show entN (ms.take 6) 7 = 0 by rw [entN_take]; simp]; omega
  have a3 : tabOf (ms.take (5 + 1)) 0 = tabOf (ms.take 5) 0 := by show (entN (ms.take 6) 0 : Int) + (entN (ms.take 6) 1 : Int) * 65536 + (entN (ms.take 6) 2 : Int) * 4294967296 + (entN (ms.take 6) 3 : Int) * 281474976710656 = (entN (ms.take 5) 0 : Int) + (entN (ms.take 5) 1 : Int) * 65536 + (entN (ms.take 5) 2 : Int) * 4294967296 + (entN (ms.take 5) 3 : Int) * 281474976710656; rw [show entN (ms.take 6) 0 = entN ms 0 by rw [entN_take]; simp]; rw [show entN (ms.take 6) 1 = entN ms 1 by rw [entN_take]; simp]; rw [show entN (ms.take 6) 2 = entN ms 2 by rw [entN_take]; simp]; rw [show entN (ms.take 6) 3 = entN ms 3 by rw [entN_take]; simp]; rw [show entN (ms.take 5) 0 = entN ms 0 by rw [entN_take]; simp]; rw [show entN (ms.take 5) 1 = entN ms 1 by rw [entN_take]; simp]; rw [show entN (ms.take 5) 2 = entN ms 2 by rw [entN_take]; simp]; rw [show entN (ms.take 5) 3 = entN ms 3 by rw [entN_take]; simp]
  have b4 := entN_le ms 4 hT
  have b5 := entN_le ms 5 hT
  generalize entN ms 4 = x4 at *
  generalize entN ms 5 = x5 at *
  generalize (ms.getD 5 []).length = lk at *
  refine ⟨?_, a3⟩
  rw [a1, a2]
  refine (or_put _ _ _ 16 pw16 ?_ ?_ ?_ ?_ ?_).trans ?_
  all_goals omega

theorem tab_k6 (ms : List (List Int)) (h : 6 < ms.length) (hT : total ms ≤ 256) : bits .or .u64 (tabOf (ms.take 6) 1) ((((ms.getD 6 []).length : Int) + 1) * 4294967296) = tabOf (ms.take (6 + 1)) 1 ∧ tabOf (ms.take (6 + 1)) 0 = tabOf (ms.take 6) 0 := by
  have e : entN ms 6 = (ms.getD 6 []).length + 1 := by unfold entN; rw [if_pos h]
  have hg := total_ge ms 6 h
  have a1 : tabOf (ms.take 6) 1 = 0 + (entN ms 4 : Int) * 1 + (entN ms 5 : Int) * 65536 := by show (entN (ms.take 6) 4 : Int) + (entN (ms.take 6) 5 : Int) * 65536 + (entN (ms.take 6) 6 : Int) * 4294967296 + (entN (ms.take 6) 7 : Int) * 281474976710656 = _; rw [show entN (ms.take 6) 4 = entN ms 4 by rw [entN_take]; simp]; rw [show entN (ms.take 6) 5 = entN ms 5 by rw [entN_take]; simp]; rw [show entN (ms.take 6) 6 = 0 by rw [entN_take]; simp]; rw [show entN (ms.take 6) 7 = 0 by rw [entN_take]; simp]; omega
  have a2 : tabOf (ms.take (6 + 1)) 1 = 0 + (entN ms 4 : Int) * 1 + (entN ms 5 : Int) * 65536 + (entN ms 6 : Int) * 4294967296 := by show (entN (ms.take 7) 4 : Int) + (entN (ms.take 7) 5 : Int) * 65536 + (entN (ms.take 7) 6 : Int) * 4294967296 + (entN (ms.take 7) 7 : Int) * 281474976710656 = _; rw [show entN (ms.take 7) 4 = entN ms 4 by rw [entN_take]; simp]; rw [show entN (ms.take 7) 5 = entN ms 5 by rw [entN_take]; simp]; rw [show entN (ms.take 7) 6 = entN ms 6 by rw [entN_take]; simp]; rw [show entN (ms.take 7) 7 = 0 by rw [entN_take]; simp]; omega
  have a3 : tabOf (ms.take (6 + 1)) 0 = tabOf (ms.take 6) 0 := by show (entN (ms.take 7) 0 : Int) + (entN (ms.take 7) 1 : Int) * 65536 + (entN (ms.take 7) 2 : Int) * 4294967296 + (entN (ms.take 7) 3 : Int) * 281474976710656 = (entN (ms.take 6) 0 : Int) + (entN (ms.take 6) 1 : Int) * 65536 + (entN (ms.take 6) 2 : Int) * 4294967296 + (entN (ms.take 6) 3 : Int) * 281474976710656; rw [show entN (ms.take 7) 0 = entN ms 0 by rw [entN_take]; simp]; rw [show entN (ms.take 7) 1 = entN ms 1 by rw [entN_take]; simp]; rw [show entN (ms.take 7) 2 = entN ms 2 by rw [entN_take]; simp]; rw [show entN (ms.take 7) 3 = entN ms 3 by rw [entN_take]; simp]; rw [show entN (ms.take 6) 0 = entN ms 0 by rw [entN_take]; simp]; rw [show entN (ms.take 6) 1 = entN ms 1 by rw [entN_take]; simp]; rw [show entN (ms.take 6) 2 = entN ms 2 by rw [entN_take]; simp]; rw [show entN (ms.take 6) 3 = entN ms 3 by rw [entN_take]; simp]
  have b4 := entN_le ms 4 hT
  have b5 := entN_le ms 5 hT
  have b6 := entN_le ms 6 hT
  generalize entN ms 4 = x4 at *
  generalize entN ms 5 = x5 at *
  generalize entN ms 6 = x6 at *
  generalize (ms.getD 6 []).length = lk at *
  refine ⟨?_, a3⟩
  rw [a1, a2]
  refine (or_put _ _ _ 32 pw32 ?_ ?_ ?_ ?_ ?_).trans ?_
  all_goals omega

theorem tab_k7 (ms : List (List Int)) (h : 7 < ms.length) (hT : total ms ≤ 256) : bits .or .u64 (tabOf (ms.take 7) 1) ((((ms.getD 7 []).length : Int) + 1) * 281474976710656) = tabOf (ms.take (7 + 1)) 1 ∧ tabOf (ms.take (7 + 1)) 0 = tabOf (ms.take 7) 0 := by
  have e : entN ms 7 = (ms.getD 7 []).length + 1 := by unfold entN; rw [if_pos h]
  have hg := total_ge ms 7 h
  have a1 : tabOf (ms.take 7) 1 = 0 + (entN ms 4 : Int) * 1 + (entN ms 5 : Int) * 65536 + (entN ms 6 : Int) * 4294967296 := by show (entN (ms.take 7) 4 : Int) + (entN (ms.take 7) 5 : Int) * 65536 + (entN (ms.take 7) 6 : Int) * 4294967296 + (entN (ms.take 7) 7 : Int) * 281474976710656 = _; rw [show entN (ms.take 7) 4 = entN ms 4 by rw [entN_take]; simp]; rw [show entN (ms.take 7) 5 = entN ms 5 by rw [entN_take]; simp]; rw [show entN (ms.take 7) 6 = entN ms 6 by rw [entN_take]; simp]; rw [show entN (ms.take 7) 7 = 0 by rw [entN_take]; simp]; omega
  have a2 : tabOf (ms.take (7 + 1)) 1 = 0 + (entN ms 4 : Int) * 1 + (entN ms 5 : Int) * 65536 + (entN ms 6 : Int) * 4294967296 + (entN ms 7 : Int) * 281474976710656 := by show (entN (ms.take 8) 4 : Int) + (entN (ms.take 8) 5 : Int) * 65536 + (entN (ms.take 8) 6 : Int) * 4294967296 + (entN (ms.take 8) 7 : Int) * 281474976710656 = _; rw [show entN (ms.take 8) 4 = entN ms 4 by rw [entN_take]; simp]; rw [show entN (ms.take 8) 5 = entN ms 5 by rw [entN_take]; simp]; rw [show entN (ms.take 8) 6 = entN ms 6 by rw [entN_take]; simp]; rw [show entN (ms.take 8) 7 = entN ms 7 by rw [entN_take]; simp]; omega
  have a3 : tabOf (ms.take (7 + 1)) 0 = tabOf (ms.take 7) 0 := by show (entN (ms.take 8) 0 : Int) + (entN (ms.take 8) 1 : Int) * 65536 + (entN (ms.take 8) 2 : Int) * 4294967296 + (entN (ms.take 8) 3 : Int) * 281474976710656 = (entN (ms.take 7) 0 : Int) + (entN (ms.take 7) 1 : Int) * 65536 + (entN (ms.take 7) 2 : Int) * 4294967296 + (entN (ms.take 7) 3 : Int) * 281474976710656; rw [show entN (ms.take 8) 0 = entN ms 0 by rw [entN_take]; simp]; rw [show entN (ms.take 8) 1 = entN ms 1 by rw [entN_take]; simp]; rw [show entN (ms.take 8) 2 = entN ms 2 by rw [entN_take]; simp]; rw [show entN (ms.take 8) 3 = entN ms 3 by rw [entN_take]; simp]; rw [show entN (ms.take 7) 0 = entN ms 0 by rw [entN_take]; simp]; rw [show entN (ms.take 7) 1 = entN ms 1 by rw [entN_take]; simp]; rw [show entN (ms.take 7) 2 = entN ms 2 by rw [entN_take]; simp]; rw [show entN (ms.take 7) 3 = entN ms 3 by rw [entN_take]; simp]
  have b4 := entN_le ms 4 hT
  have b5 := entN_le ms 5 hT
  have b6 := entN_le ms 6 hT
  have b7 := entN_le ms 7 hT
  generalize entN ms 4 = x4 at *
  generalize entN ms 5 = x5 at *
  generalize entN ms 6 = x6 at *
  generalize entN ms 7 = x7 at *
  generalize (ms.getD 7 []).length = lk at *
  refine ⟨?_, a3⟩
  rw [a1, a2]
  refine (or_put _ _ _ 48 pw48 ?_ ?_ ?_ ?_ ?_).trans ?_
  all_goals omega

theorem tab_at (w : World) (T : Nat) (x y : Value) (h : w.heap[T]? = some (.cells #[x, y] 224 (0, 0))) : w.cell? ⟨T, 0, none⟩ = some x ∧ w.cell? ⟨T, 1, none⟩ = some y := by
  simp [World.cell?, h]
theorem tab_free (w : World) (T : Nat) (x y : Value) (h : w.heap[T]? = some (.cells #[x, y] 224 (0, 0))) : w.frozen? ⟨T, 0, none⟩ = false ∧ w.frozen? ⟨T, 1, none⟩ = false := by
  simp [World.frozen?, h]
theorem tab_set0 {w : World} {b : Nat} {x y u : Value} {t : TypeId} (h : w.heap[b]? = some (.cells #[x, y] t (0, 0))) : (w.setCell ⟨b, 0, none⟩ u).heap[b]? = some (.cells #[u, y] t (0, 0)) := by
  have hlt := lt_of_block h
  have h' : w.heap[b] = .cells #[x, y] t (0, 0) := by simpa [Array.getElem?_eq_getElem hlt] using h
  show (w.heap.modify b _)[b]? = _
  rw [Array.getElem?_eq_getElem (by simpa using hlt), Array.getElem_modify_self, h']
  rfl
theorem tab_set1 {w : World} {b : Nat} {x y u : Value} {t : TypeId} (h : w.heap[b]? = some (.cells #[x, y] t (0, 0))) : (w.setCell ⟨b, 1, none⟩ u).heap[b]? = some (.cells #[x, u] t (0, 0)) := by
  have hlt := lt_of_block h
  have h' : w.heap[b] = .cells #[x, y] t (0, 0) := by simpa [Array.getElem?_eq_getElem hlt] using h
  show (w.heap.modify b _)[b]? = _
  rw [Array.getElem?_eq_getElem (by simpa using hlt), Array.getElem_modify_self, h']
  rfl

theorem own_not {w : World} {B : Nat} {e : TypeId} {size : Nat} {v : Value} {n : Nat} {xs : List Value} (h : w.ownsRow B e size v n xs) {T : Nat} {cs : Array Value} {t : TypeId} {fz : Nat × Nat} (hT : w.heap[T]? = some (.cells cs t fz)) (hne : e ≠ t) : v.ownBlock ≠ some T := by
  intro hv
  obtain ⟨c, f, hg⟩ := Lib.ownsRow_kind h T hv
  rw [hT] at hg
  simp at hg
  exact hne hg.2.1.symm

theorem SegsAt.seg2 {B : Nat} {w : World} {b off : Nat} {ms : List (List Int)} (hseg : ∀ W, Below B w W → SegsAt W (some ⟨b, off, none⟩) ms) (hbB : b < B) (k : Nat) (hk : k < ms.length) :
    ∃ ak ck, ∀ W, Below B w W → W.cell? ⟨b, off + k, none⟩ = some (.slice ak (ms.getD k []).length ck) ∧ (ms.getD k []).length ≤ ck ∧ Sl .u64 W ak (ms.getD k []) := by
  obtain ⟨b1, o1, he, _, hg⟩ := (hseg w (Below.refl _ _)).get (by omega)
  simp at he
  obtain ⟨rfl, rfl⟩ := he
  obtain ⟨ak, ck, hc, hl, _⟩ := hg k hk
  refine ⟨ak, ck, fun W hW => ?_⟩
  have hcW := (hW.cell (p := ⟨b, off + k, none⟩) hbB).trans hc
  obtain ⟨b2, o2, he2, _, hg2⟩ := (hseg W hW).get (by omega)
  simp at he2
  obtain ⟨rfl, rfl⟩ := he2
  obtain ⟨ak2, ck2, hc2, hl2, hs2⟩ := hg2 k hk
  rw [hcW] at hc2
  simp at hc2
  obtain ⟨rfl, rfl⟩ := hc2
  exact ⟨hcW, hl, hs2⟩
end Go.Proofs.Ygcfag
