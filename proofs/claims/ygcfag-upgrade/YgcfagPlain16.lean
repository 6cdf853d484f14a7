/-
  PLAIN: intervals of words, gathered.
-/
import Derived.Test.YgcfagPlain14
namespace Go.Proofs.Ygcfag
set_option linter.unusedVariables false
set_option linter.unusedSimpArgs false

/-- A gathered interval (segment, from, to) meets the words a .. a + n of segment s. -/
def meetB (o : Nat × Nat × Nat) (s a n : Nat) : Bool := o.1 == s && (decide (a < o.2.2) && decide (o.2.1 < a + n))

def apartB (L : List (Nat × Nat × Nat)) (s a n : Nat) : Bool := L.all fun o => !meetB o s a n

def gatherB (L : List (Nat × Nat × Nat)) (s a n : Nat) : Bool := n == 0 || apartB L s a n

def ivs (s a n : Nat) : List (Nat × Nat × Nat) := if n = 0 then [] else [(s, a, a + n)]

end Go.Proofs.Ygcfag
