/-
  A function's code behind its first parts: so that a long walk can be cut into declarations. Over any program.
-/
import Derived.Test.YtagcbihjejjmnaaBase
namespace Go.Proofs.Ytagcbihjejjmnaa

/-- A function's code behind its first n parts. -/
def codeTail : Nat → Code → Code
  | 0, c => c
  | n + 1, .seq _ b => codeTail n b
  | _ + 1, c => c
noncomputable def bodyTail (f : Func) (n : Nat) : Code := codeTail n (f.body.getD .skip)

/-- The first and the second part of a code. -/
def codeHead : Code → Code
  | .seq a _ => a
  | c => c
def codeRest : Code → Code
  | .seq _ b => b
  | c => c

end Go.Proofs.Ytagcbihjejjmnaa
