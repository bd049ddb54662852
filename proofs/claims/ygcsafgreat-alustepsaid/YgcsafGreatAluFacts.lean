/-
  The closed facts of the row of 'law.AluStep', one by one.
-/
import Derived.Test.YgcsafGreatRows
import Derived.Test.YgcsafGreatOpenA
namespace Go.Proofs.YgcsafGreat.aluStep
open Go.ChangeShapes Go.WideShapes Go.ChangeAt Go.RowKit
set_option linter.unusedVariables false
set_option linter.unusedSimpArgs false

theorem fact0 : (Rows.aluStepRow.wf (OpenSpec.ofChange Rows.aluStepSpec)) = true := by kernel_rfl
theorem fact1 : (laidOutB Safg.prog) = true := by kernel_rfl
theorem fact2 : (mapsRowed Safg.prog) = true := by kernel_rfl
theorem fact3 : (Safg.f3.params.all (Safg.prog.readableRec ·)) = true := by kernel_rfl
theorem fact4 : (namedTie Safg.prog Rows.aluStepRow.named Rows.aluStepSpec.vars) = true := by kernel_rfl
theorem fact5 : ((Rows.aluStepRow.stops == [])) = true := by kernel_rfl
theorem fact6 : ((Safg.prog.stops == [])) = true := by kernel_rfl
theorem fact7 : ((Rows.aluStepRow.knobs == [])) = true := by kernel_rfl
theorem fact8 : ((Safg.prog.stopKnobs == [])) = true := by kernel_rfl
theorem fact9 : ((Rows.aluStepRow.inPlace == Safg.prog.inPlace 3)) = true := by kernel_rfl
theorem fact10 : ((Rows.aluStepRow.unfollowed == Safg.prog.unfollowed 3)) = true := by kernel_rfl
theorem fact11 : ((Rows.aluStepRow.recurses == Safg.prog.recurses 3)) = true := by kernel_rfl
theorem fact12 : ((Rows.aluStepRow.named == Safg.prog.varsNamed 3)) = true := by kernel_rfl
theorem fact13 : ((Rows.aluStepRow.maps == (Safg.f3.params.toList ++ Rows.aluStepSpec.plain.varTypes Safg.prog).any (Safg.prog.mapsRec ·))) = true := by kernel_rfl
theorem fact14 : ((Rows.aluStepRow.ifaces == (Safg.f3.params.toList ++ Rows.aluStepSpec.plain.varTypes Safg.prog).any (Safg.prog.ifacesRec ·))) = true := by kernel_rfl
theorem fact15 : ((Rows.aluStepRow.mapsOut == Safg.prog.mapsAmong Safg.f3.resultTypes.toList)) = true := by kernel_rfl
theorem fact16 : ((Rows.aluStepRow.loops == (Safg.f3.params.toList ++ Rows.aluStepSpec.plain.varTypes Safg.prog).any (Safg.prog.loopsFrom ·))) = true := by kernel_rfl
theorem fact17 : ((Rows.aluStepRow.wideKeys == (Safg.f3.params.toList ++ Rows.aluStepSpec.plain.varTypes Safg.prog ++ Safg.f3.resultTypes.toList).any (Safg.prog.wideKeysFrom ·))) = true := by kernel_rfl
theorem fact18 : (Rows.aluStepSpec.vars.all (Safg.prog.varReadable ·)) = true := by kernel_rfl
theorem fact19 : (Safg.f3.resultTypes.all (fun t => Safg.prog.readableRec t && decide (t < Safg.prog.types.size))) = true := by kernel_rfl
theorem fact20 : ((Rows.aluStepRow.ifacesOut == Safg.f3.resultTypes.toList.any (Safg.prog.ifacesRec ·))) = true := by kernel_rfl
theorem fact21 : ((Rows.aluStepRow.loopsOut == Safg.f3.resultTypes.toList.any (Safg.prog.loopsFrom ·))) = true := by kernel_rfl
theorem fact22 : ((Rows.aluStepRow.plainKeys == Safg.prog.plainKeys)) = true := by kernel_rfl
theorem fact23 : (Rows.aluStepRow.shortTexts.isNone) = true := by kernel_rfl
theorem fact24 : (Safg.prog.stopsHeard) = true := by kernel_rfl
theorem fact25 : (Safg.prog.mayEnter) = true := by kernel_rfl
theorem fact26 : ((Rows.aluStepRow.lifted == Safg.prog.liftsFinal)) = true := by kernel_rfl
theorem fact27 : ((Safg.prog.make == some Rows.aluStepRow.make)) = true := by kernel_rfl
theorem fact28 : ((Rows.aluStepRow.kinds == (if Rows.aluStepRow.domain.isEmpty then [] else Safg.f3.params.toList.map fun t => match Safg.prog.underlying t with | some (.int k) => some k | _ => none))) = true := by kernel_rfl
theorem fact29 : ((Rows.aluStepRow.pinned == Rows.aluStepRow.pinnedBy)) = true := by kernel_rfl
theorem fact30 : ((Rows.aluStepRow.veiled == (Safg.f3.params.toList ++ Rows.aluStepSpec.plain.varTypes Safg.prog ++ Safg.f3.resultTypes.toList).any (Safg.prog.veiledRec ·))) = true := by kernel_rfl
theorem fact31 : (Rows.aluStepRow.veiledFits Safg.prog Safg.f3.params.toList (Safg.f3.params.toList ++ Rows.aluStepSpec.plain.varTypes Safg.prog ++ Safg.f3.resultTypes.toList)) = true := by kernel_rfl
theorem named : Safg.prog.funcNamed Rows.aluStepRow.func = some 3 := by kernel_rfl
end Go.Proofs.YgcsafGreat.aluStep
