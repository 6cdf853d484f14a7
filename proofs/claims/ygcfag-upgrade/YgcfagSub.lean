/-
  A PART OF A FUNCTION's CODE, by the way to it: so that a great function's walk can be cut into declarations.
-/
import Derived.Test.YgcfagBase
namespace Go.Proofs.Ygcfag

/-- The part at the end of the way: 0: the first of two, a block's, a loop's, a scope's body, a test's yes; 1: the second of two, a test's no. -/
def subCode : List Nat → Code → Code
  | [], c => c
  | 0 :: p, .seq a _ => subCode p a
  | _ :: p, .seq _ b => subCode p b
  | 0 :: p, .cond _ a _ => subCode p a
  | _ :: p, .cond _ _ b => subCode p b
  | _ :: p, .block _ c => subCode p c
  | _ :: p, .loop c => subCode p c
  | _ :: p, .scope c => subCode p c
  | _, c => c

/-- A function's body, at the end of the way. -/
def bodyAt (f : Func) (p : List Nat) : Code := subCode p (f.body.getD .skip)

end Go.Proofs.Ygcfag
