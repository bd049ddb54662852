/-
  No cell of these rows narrows 'for every input' (looked for: loops, veiled, ifaces, maps, wideKeys, modest, calm, conditions, laid).
  DERIVED. THE GIVEN ROWS OF THIS SEAT. 2 by the template 'for every input the law returns true; each argument reads behind the call as it read before'; 0 by the template 'total and deterministic' (their statements: YgcsafGreatTotals.lean).
  GIVEN WITH THE SEED: the statements are not yours to turn. If you find one false, say at which input.
  Laid BY PROGRAM, IN A SANDBOX (cutbox-rows.mjs): the forced cells as the released guide's own fill.sh prints them over the translation 353a8f859f460e8f… (all of the seat's roots in one cut). By AI agents, Wed Nov 11 2026. No macro, syntax, notation, axiom, sorry.
-/
import Derived.Test.YgcsafGreatChecked
import GoSem.Claim
import GoSem.ClaimJoined
import GoSem.ClaimMapViews
import Derived.JoinedTies
import Derived.KernelRfl
namespace Go.Proofs.YgcsafGreat
/- THE CELL 'sum', in the pinned program and in every row, IS THE sha256 OF THE DUMP (.gsa) THAT YgcsafGreatProg.lean LOADS. Nothing in Lean hashes anything: it is a label: what it is worth is what the hold of that sum in a sandbox is worth. -/
noncomputable def Safg.pinned : Pinned := { name := "ygcsafgreat", sum := "353a8f859f460e8fbe924a5b650b5e59e87373dfffd67e187518a28f2949cf70", checked := Safg.checked }
namespace Rows
def none {H : Type} : Left H := { results := [], args := [] }

/-- 'law.AluStep': WHATEVER THE INPUT: true; the input reads as it did. -/
def aluStepSpec : ChangeSpec := { name := "aluStep", fn := fun _ => fun
  | [d1, d2, d3, d4] => { results := [.lit (.bool true)], args := [d1, d2, d3, d4] }
  | _ => none }
def aluStepRow : OpenClaim := { program := "ygcsafgreat", sum := "353a8f859f460e8fbe924a5b650b5e59e87373dfffd67e187518a28f2949cf70", func := "yellow/law.AluStep", spec := "aluStep", inPlace := ["math/bits.Add64", "math/bits.Sub64"], named := ["math/bits.divideError", "math/bits.overflowError"], apart := false }
def AluStepSaid : Prop := aluStepRow.holds Safg.pinned (OpenSpec.ofChange aluStepSpec)

/-- ITS FALSE NEIGHBOUR: 'it returns false'. Refute it at one input. -/
def aluStepWrong : ChangeSpec := { name := "aluStep", fn := fun _ => fun
  | [d1, d2, d3, d4] => { results := [.lit (.bool false)], args := [d1, d2, d3, d4] }
  | _ => none }
def AluStepWrongFalsely : Prop := aluStepRow.holds Safg.pinned (OpenSpec.ofChange aluStepWrong)

/-- 'law.MadeRight': WHATEVER THE INPUT: true; the input reads as it did. -/
def madeRightSpec : ChangeSpec := { name := "madeRight", fn := fun _ => fun
  | [d1, d2, d3] => { results := [.lit (.bool true)], args := [d1, d2, d3] }
  | _ => none }
def madeRightRow : OpenClaim := { program := "ygcsafgreat", sum := "353a8f859f460e8fbe924a5b650b5e59e87373dfffd67e187518a28f2949cf70", func := "yellow/law.MadeRight", spec := "madeRight", apart := false }
def MadeRightSaid : Prop := madeRightRow.holds Safg.pinned (OpenSpec.ofChange madeRightSpec)

/-- ITS FALSE NEIGHBOUR: 'it returns false'. Refute it at one input. -/
def madeRightWrong : ChangeSpec := { name := "madeRight", fn := fun _ => fun
  | [d1, d2, d3] => { results := [.lit (.bool false)], args := [d1, d2, d3] }
  | _ => none }
def MadeRightWrongFalsely : Prop := madeRightRow.holds Safg.pinned (OpenSpec.ofChange madeRightWrong)

end Rows
end Go.Proofs.YgcsafGreat
