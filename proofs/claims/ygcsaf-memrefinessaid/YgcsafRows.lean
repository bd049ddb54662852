/-
  No cell of these rows narrows 'for every input' (looked for: loops, veiled, ifaces, maps, wideKeys, modest, calm, conditions, laid).
  DERIVED. THE GIVEN ROWS OF THIS SEAT. 10 by the template 'for every input the law returns true; each argument reads behind the call as it read before'; 0 by the template 'total and deterministic' (their statements: YgcsafTotals.lean).
  GIVEN WITH THE SEED: the statements are not yours to turn. If you find one false, say at which input.
  Laid BY PROGRAM, IN A SANDBOX (cutbox-rows.mjs): the forced cells as the released guide's own fill.sh prints them over the translation a510f88e532fa9d3… (all of the seat's roots in one cut). By AI agents, Wed Nov 11 2026. No macro, syntax, notation, axiom, sorry.
-/
import Derived.Test.YgcsafChecked
import GoSem.Claim
import GoSem.ClaimJoined
import GoSem.ClaimMapViews
import Derived.JoinedTies
import Derived.KernelRfl
namespace Go.Proofs.Ygcsaf
/- THE CELL 'sum', in the pinned program and in every row, IS THE sha256 OF THE DUMP (.gsa) THAT YgcsafProg.lean LOADS. Nothing in Lean hashes anything: it is a label: what it is worth is what the hold of that sum in a sandbox is worth. -/
noncomputable def Safg.pinned : Pinned := { name := "ygcsaf", sum := "a510f88e532fa9d3b06cf9492f57f8b28662565f4d100d37bc01bc912c3960ae", checked := Safg.checked }
namespace Rows
def none {H : Type} : Left H := { results := [], args := [] }

/-- 'law.MemCeiling': WHATEVER THE INPUT: true; the input reads as it did. -/
def memCeilingSpec : ChangeSpec := { name := "memCeiling", fn := fun _ => fun
  | [d] => { results := [.lit (.bool true)], args := [d] }
  | _ => none }
def memCeilingRow : OpenClaim := { program := "ygcsaf", sum := "a510f88e532fa9d3b06cf9492f57f8b28662565f4d100d37bc01bc912c3960ae", func := "yellow/law.MemCeiling", spec := "memCeiling", inPlace := ["math/bits.Add64"], named := ["math/bits.divideError", "math/bits.overflowError"], apart := false }
def MemCeilingSaid : Prop := memCeilingRow.holds Safg.pinned (OpenSpec.ofChange memCeilingSpec)

/-- ITS FALSE NEIGHBOUR: 'it returns false'. Refute it at one input. -/
def memCeilingWrong : ChangeSpec := { name := "memCeiling", fn := fun _ => fun
  | [d] => { results := [.lit (.bool false)], args := [d] }
  | _ => none }
def MemCeilingWrongFalsely : Prop := memCeilingRow.holds Safg.pinned (OpenSpec.ofChange memCeilingWrong)

/-- 'law.IntrinsicSame': WHATEVER THE INPUT: true; the input reads as it did. -/
def intrinsicSameSpec : ChangeSpec := { name := "intrinsicSame", fn := fun _ => fun
  | [d] => { results := [.lit (.bool true)], args := [d] }
  | _ => none }
def intrinsicSameRow : OpenClaim := { program := "ygcsaf", sum := "a510f88e532fa9d3b06cf9492f57f8b28662565f4d100d37bc01bc912c3960ae", func := "yellow/law.IntrinsicSame", spec := "intrinsicSame", apart := false }
def IntrinsicSameSaid : Prop := intrinsicSameRow.holds Safg.pinned (OpenSpec.ofChange intrinsicSameSpec)

/-- ITS FALSE NEIGHBOUR: 'it returns false'. Refute it at one input. -/
def intrinsicSameWrong : ChangeSpec := { name := "intrinsicSame", fn := fun _ => fun
  | [d] => { results := [.lit (.bool false)], args := [d] }
  | _ => none }
def IntrinsicSameWrongFalsely : Prop := intrinsicSameRow.holds Safg.pinned (OpenSpec.ofChange intrinsicSameWrong)

/-- 'law.MemRefines': WHATEVER THE INPUT: true; the input reads as it did. -/
def memRefinesSpec : ChangeSpec := { name := "memRefines", fn := fun _ => fun
  | [d] => { results := [.lit (.bool true)], args := [d] }
  | _ => none }
def memRefinesRow : OpenClaim := { program := "ygcsaf", sum := "a510f88e532fa9d3b06cf9492f57f8b28662565f4d100d37bc01bc912c3960ae", func := "yellow/law.MemRefines", spec := "memRefines", apart := false }
def MemRefinesSaid : Prop := memRefinesRow.holds Safg.pinned (OpenSpec.ofChange memRefinesSpec)

/-- ITS FALSE NEIGHBOUR: 'it returns false'. Refute it at one input. -/
def memRefinesWrong : ChangeSpec := { name := "memRefines", fn := fun _ => fun
  | [d] => { results := [.lit (.bool false)], args := [d] }
  | _ => none }
def MemRefinesWrongFalsely : Prop := memRefinesRow.holds Safg.pinned (OpenSpec.ofChange memRefinesWrong)

/-- 'law.MemMeans': WHATEVER THE INPUT: true; the input reads as it did. -/
def memMeansSpec : ChangeSpec := { name := "memMeans", fn := fun _ => fun
  | [d] => { results := [.lit (.bool true)], args := [d] }
  | _ => none }
def memMeansRow : OpenClaim := { program := "ygcsaf", sum := "a510f88e532fa9d3b06cf9492f57f8b28662565f4d100d37bc01bc912c3960ae", func := "yellow/law.MemMeans", spec := "memMeans", apart := false }
def MemMeansSaid : Prop := memMeansRow.holds Safg.pinned (OpenSpec.ofChange memMeansSpec)

/-- ITS FALSE NEIGHBOUR: 'it returns false'. Refute it at one input. -/
def memMeansWrong : ChangeSpec := { name := "memMeans", fn := fun _ => fun
  | [d] => { results := [.lit (.bool false)], args := [d] }
  | _ => none }
def MemMeansWrongFalsely : Prop := memMeansRow.holds Safg.pinned (OpenSpec.ofChange memMeansWrong)

/-- 'law.NatSmall': WHATEVER THE INPUT: true; the input reads as it did. -/
def natSmallSpec : ChangeSpec := { name := "natSmall", fn := fun _ => fun
  | [d1, d2] => { results := [.lit (.bool true)], args := [d1, d2] }
  | _ => none }
def natSmallRow : OpenClaim := { program := "ygcsaf", sum := "a510f88e532fa9d3b06cf9492f57f8b28662565f4d100d37bc01bc912c3960ae", func := "yellow/law.NatSmall", spec := "natSmall", inPlace := ["math/bits.Add64"], apart := false }
def NatSmallSaid : Prop := natSmallRow.holds Safg.pinned (OpenSpec.ofChange natSmallSpec)

/-- ITS FALSE NEIGHBOUR: 'it returns false'. Refute it at one input. -/
def natSmallWrong : ChangeSpec := { name := "natSmall", fn := fun _ => fun
  | [d1, d2] => { results := [.lit (.bool false)], args := [d1, d2] }
  | _ => none }
def NatSmallWrongFalsely : Prop := natSmallRow.holds Safg.pinned (OpenSpec.ofChange natSmallWrong)

/-- 'law.NatU64': WHATEVER THE INPUT: true; the input reads as it did. -/
def natU64Spec : ChangeSpec := { name := "natU64", fn := fun _ => fun
  | [d1, d2] => { results := [.lit (.bool true)], args := [d1, d2] }
  | _ => none }
def natU64Row : OpenClaim := { program := "ygcsaf", sum := "a510f88e532fa9d3b06cf9492f57f8b28662565f4d100d37bc01bc912c3960ae", func := "yellow/law.NatU64", spec := "natU64", apart := false }
def NatU64Said : Prop := natU64Row.holds Safg.pinned (OpenSpec.ofChange natU64Spec)

/-- ITS FALSE NEIGHBOUR: 'it returns false'. Refute it at one input. -/
def natU64Wrong : ChangeSpec := { name := "natU64", fn := fun _ => fun
  | [d1, d2] => { results := [.lit (.bool false)], args := [d1, d2] }
  | _ => none }
def NatU64WrongFalsely : Prop := natU64Row.holds Safg.pinned (OpenSpec.ofChange natU64Wrong)

/-- 'law.NatPeano': WHATEVER THE INPUT: true; the input reads as it did. -/
def natPeanoSpec : ChangeSpec := { name := "natPeano", fn := fun _ => fun
  | [d1, d2] => { results := [.lit (.bool true)], args := [d1, d2] }
  | _ => none }
def natPeanoRow : OpenClaim := { program := "ygcsaf", sum := "a510f88e532fa9d3b06cf9492f57f8b28662565f4d100d37bc01bc912c3960ae", func := "yellow/law.NatPeano", spec := "natPeano", apart := false }
def NatPeanoSaid : Prop := natPeanoRow.holds Safg.pinned (OpenSpec.ofChange natPeanoSpec)

/-- ITS FALSE NEIGHBOUR: 'it returns false'. Refute it at one input. -/
def natPeanoWrong : ChangeSpec := { name := "natPeano", fn := fun _ => fun
  | [d1, d2] => { results := [.lit (.bool false)], args := [d1, d2] }
  | _ => none }
def NatPeanoWrongFalsely : Prop := natPeanoRow.holds Safg.pinned (OpenSpec.ofChange natPeanoWrong)

/-- 'law.NatVal': WHATEVER THE INPUT: true; the input reads as it did. -/
def natValSpec : ChangeSpec := { name := "natVal", fn := fun _ => fun
  | [d1, d2] => { results := [.lit (.bool true)], args := [d1, d2] }
  | _ => none }
def natValRow : OpenClaim := { program := "ygcsaf", sum := "a510f88e532fa9d3b06cf9492f57f8b28662565f4d100d37bc01bc912c3960ae", func := "yellow/law.NatVal", spec := "natVal", apart := false }
def NatValSaid : Prop := natValRow.holds Safg.pinned (OpenSpec.ofChange natValSpec)

/-- ITS FALSE NEIGHBOUR: 'it returns false'. Refute it at one input. -/
def natValWrong : ChangeSpec := { name := "natVal", fn := fun _ => fun
  | [d1, d2] => { results := [.lit (.bool false)], args := [d1, d2] }
  | _ => none }
def NatValWrongFalsely : Prop := natValRow.holds Safg.pinned (OpenSpec.ofChange natValWrong)

/-- 'law.NatDiv': WHATEVER THE INPUT: true; the input reads as it did. -/
def natDivSpec : ChangeSpec := { name := "natDiv", fn := fun _ => fun
  | [d1, d2] => { results := [.lit (.bool true)], args := [d1, d2] }
  | _ => none }
def natDivRow : OpenClaim := { program := "ygcsaf", sum := "a510f88e532fa9d3b06cf9492f57f8b28662565f4d100d37bc01bc912c3960ae", func := "yellow/law.NatDiv", spec := "natDiv", apart := false }
def NatDivSaid : Prop := natDivRow.holds Safg.pinned (OpenSpec.ofChange natDivSpec)

/-- ITS FALSE NEIGHBOUR: 'it returns false'. Refute it at one input. -/
def natDivWrong : ChangeSpec := { name := "natDiv", fn := fun _ => fun
  | [d1, d2] => { results := [.lit (.bool false)], args := [d1, d2] }
  | _ => none }
def NatDivWrongFalsely : Prop := natDivRow.holds Safg.pinned (OpenSpec.ofChange natDivWrong)

/-- 'law.NatBytes': WHATEVER THE INPUT: true; the input reads as it did. -/
def natBytesSpec : ChangeSpec := { name := "natBytes", fn := fun _ => fun
  | [d] => { results := [.lit (.bool true)], args := [d] }
  | _ => none }
def natBytesRow : OpenClaim := { program := "ygcsaf", sum := "a510f88e532fa9d3b06cf9492f57f8b28662565f4d100d37bc01bc912c3960ae", func := "yellow/law.NatBytes", spec := "natBytes", apart := false }
def NatBytesSaid : Prop := natBytesRow.holds Safg.pinned (OpenSpec.ofChange natBytesSpec)

/-- ITS FALSE NEIGHBOUR: 'it returns false'. Refute it at one input. -/
def natBytesWrong : ChangeSpec := { name := "natBytes", fn := fun _ => fun
  | [d] => { results := [.lit (.bool false)], args := [d] }
  | _ => none }
def NatBytesWrongFalsely : Prop := natBytesRow.holds Safg.pinned (OpenSpec.ofChange natBytesWrong)

end Rows
end Go.Proofs.Ygcsaf
