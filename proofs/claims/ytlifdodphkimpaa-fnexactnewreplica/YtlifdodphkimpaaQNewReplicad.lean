/- A part of the proof that FnExactNewReplica returns true at every input: plain functions, contracts and lemmas. No conditions. -/
import Derived.Test.YtlifdodphkimpaaQNewReplicac
import Derived.ChangeArms
import Derived.DataReads
import Derived.WideShapes
set_option linter.unusedVariables false
set_option linter.unusedSimpArgs false
set_option linter.unusedSectionVars false
section
namespace Go.Proofs.Ytlifdodphkimpaa.A
open Go.RowKit Go.Proofs.YtlifdodphkimpaaW.PrintWords Go.Proofs.YtlifdodphkimpaaW.PrintLast Go.Proofs.YtlifdodphkimpaaW.PrintMore
attribute [local go_sem] max2_int min2_int max_two min_two max_three min_three max_four min_four
end Go.Proofs.Ytlifdodphkimpaa.A
end
