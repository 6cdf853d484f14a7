/-
  PLAIN: a pointer word read.
-/
import Derived.Test.YgcfagPlain7
namespace Go.Proofs.Ygcfag
set_option linter.unusedVariables false
set_option linter.unusedSimpArgs false

/-- The low 30 bits as a two's complement number. -/
def sgn30 (v : Int) : Int := if v % 1073741824 < 536870912 then v % 1073741824 else v % 1073741824 - 1073741824

/-- 'k' words from 'to' on lie among 'n' words, behind 'low'. -/
def spansB (n : Nat) (low to k : Int) : Bool := if k = 0 then decide (0 ≤ to ∧ to ≤ (n : Int)) else decide (low ≤ to ∧ to + k ≤ (n : Int))

/-- A resolved pointer: kind, at, data, ptrs, code, count. -/
structure Pt where
  kind : Int
  at_ : Int
  data : Int
  ptrs : Int
  code : Int
  count : Int
deriving DecidableEq

def Pt.nil : Pt := ⟨0, 0, 0, 0, 0, 0⟩

def dataOf (x : Int) : Int := x / 4294967296 % 65536
def ptrsOf (x : Int) : Int := x / 281474976710656 % 65536
def sizedB (x : Int) : Bool := decide (dataOf x ≤ 8 ∧ ptrsOf x ≤ 8)

/-- The words of a list of n elements of the code. -/
def listWords (code n : Int) : Int := if code = 6 then n else (n * 2 ^ (code - 2).toNat + 7) / 8

/-- A list of structs: the tag at 'to', 'n' words behind it. -/
def structsOf (a : List Int) (low to n : Int) : Option Pt :=
  if spansB a.length low to (n + 1) = false then none
  else
    let tag := a.getD to.toNat 0
    if sizedB tag = false ∨ tag % 4 ≠ 0 ∨ 128 < tag / 4 % 1073741824 then none
    else if (dataOf tag + ptrsOf tag = 0 ∧ tag / 4 % 1073741824 ≠ 0) ∨ tag / 4 % 1073741824 * (dataOf tag + ptrsOf tag) ≠ n then none
    else some ⟨2, to + 1, dataOf tag, ptrsOf tag, 7, tag / 4 % 1073741824⟩

/-- A list without a tag. -/
def plainOf (size : Nat) (low to code n : Int) : Option Pt :=
  if code < 2 ∨ 6 < code ∨ 128 < n then none
  else if spansB size low to (listWords code n) = false then none
  else some ⟨2, to, 0, 0, code, n⟩

/-- A pointer word that is not null. -/
def readNZ (a : List Int) (w base low : Int) : Option Pt :=
  if w % 4 = 0 then
    if sizedB w = false ∨ spansB a.length low (base + sgn30 (w / 4)) (dataOf w + ptrsOf w) = false then none
    else some ⟨1, base + sgn30 (w / 4), dataOf w, ptrsOf w, 0, 0⟩
  else if w % 4 = 1 then
    if w / 4294967296 % 8 = 7 then structsOf a low (base + sgn30 (w / 4)) (w / 34359738368)
    else plainOf a.length low (base + sgn30 (w / 4)) (w / 4294967296 % 8) (w / 34359738368)
  else none

/-- A pointer word: what it names; none: refused. -/
def readOf (a : List Int) (w base low : Int) : Option Pt := if w = 0 then some Pt.nil else readNZ a w base low

theorem sgn30_bd (v : Int) : -536870912 ≤ sgn30 v ∧ sgn30 v < 536870912 := by unfold sgn30; split <;> omega
theorem data_bd (x : Int) : 0 ≤ dataOf x ∧ dataOf x < 65536 := by unfold dataOf; omega
theorem ptrs_bd (x : Int) : 0 ≤ ptrsOf x ∧ ptrsOf x < 65536 := by unfold ptrsOf; omega
end Go.Proofs.Ygcfag
