/- A part of the proof that FnExactReadGrant returns true at every input: plain functions, contracts and lemmas. No conditions. -/
import Derived.Test.YtioocldcdonlpaaDoorQReadGrantc
import Derived.ChangeArms
import Derived.DataReads
import Derived.WideShapes
set_option linter.unusedVariables false
set_option linter.unusedSimpArgs false
set_option linter.unusedSectionVars false
section
namespace Go.Proofs.YtioocldcdonlpaaDoor.A
open Go.RowKit Go.Proofs.YtioocldcdonlpaaDoorW.PrintWords Go.Proofs.YtioocldcdonlpaaDoorW.PrintLast Go.Proofs.YtioocldcdonlpaaDoorW.PrintMore
attribute [local go_sem] max2_int min2_int max_two min_two max_three min_three max_four min_four
end Go.Proofs.YtioocldcdonlpaaDoor.A
end
