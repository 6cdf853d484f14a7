/-
  PLAIN: far pointers; a pointer word of segments resolved.
-/
import Derived.Test.YgcfagPlain12
namespace Go.Proofs.Ygcfag
set_option linter.unusedVariables false
set_option linter.unusedSimpArgs false

def lowI (s : Nat) : Int := if s = 0 then 1 else 0

/-- What a far pointer word names, with k words behind it. -/
def farOf (ms : List (List Int)) (x k : Int) : Option (Nat × Nat) :=
  if (ms.length : Int) ≤ x / 4294967296 ∨ ((ms.getD (x / 4294967296).toNat []).length : Int) < x / 8 % 536870912 + k ∨ (x / 4294967296 = 0 ∧ x / 8 % 536870912 = 0) then none
  else some ((x / 4294967296).toNat, (x / 8 % 536870912).toNat)

/-- What a pointer of segments names: the segment, the object, the pad's segment, place and words. -/
structure Sp where
  seg : Int
  pt : Pt
  pseg : Int
  pat : Int
  pwords : Int

def Sp.nil : Sp := ⟨0, Pt.nil, 0, 0, 0⟩

def wordOf (ms : List (List Int)) (s i : Nat) : Int := (ms.getD s []).getD i 0

def doubleOf (ms : List (List Int)) (x : Int) : Option Sp :=
  match farOf ms x 2 with
  | none => none
  | some (t, pad) =>
    if wordOf ms t pad % 8 ≠ 2 ∨ wordOf ms t (pad + 1) = 0 ∨ wordOf ms t (pad + 1) / 4 % 1073741824 ≠ 0 then none
    else match farOf ms (wordOf ms t pad) 0 with
      | none => none
      | some (o, f) =>
        match readOf (ms.getD o []) (wordOf ms t (pad + 1)) (f : Int) (lowI o) with
        | none => none
        | some p => some ⟨(o : Int), p, (t : Int), (pad : Int), 2⟩

def singleOf (ms : List (List Int)) (x : Int) : Option Sp :=
  match farOf ms x 1 with
  | none => none
  | some (t, pad) =>
    if wordOf ms t pad = 0 then none
    else match readOf (ms.getD t []) (wordOf ms t pad) ((pad : Int) + 1) (lowI t) with
      | none => none
      | some p => some ⟨(t : Int), p, (t : Int), (pad : Int), 1⟩

def nearOf (ms : List (List Int)) (s i : Nat) : Option Sp :=
  match readOf (ms.getD s []) (wordOf ms s i) ((i : Int) + 1) (lowI s) with
  | none => none
  | some p => if wordOf ms s i = 0 then some Sp.nil else some ⟨(s : Int), p, 0, 0, 0⟩

/-- The pointer word i of segment s. -/
def resolveOf (ms : List (List Int)) (s i : Nat) : Option Sp :=
  if wordOf ms s i % 4 ≠ 2 then nearOf ms s i
  else if wordOf ms s i / 4 % 2 = 1 then doubleOf ms (wordOf ms s i)
  else singleOf ms (wordOf ms s i)
end Go.Proofs.Ygcfag
