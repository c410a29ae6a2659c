/- Own walks and lemmas, those that this claim leans on: Q7. -/
import Derived.Test.YtlhmbncalonomaaDoorGaA
namespace Go.Proofs.YtlhmbncalonomaaDoor.Q
open Go.RowKit Go.Proofs.YtlhmbncalonomaaDoorW.PrintWords Go.Proofs.YtlhmbncalonomaaDoorW.PrintLast Go.Proofs.YtlhmbncalonomaaDoorW.PrintMore
attribute [local go_sem] max2_int min2_int max_two min_two max_three min_three max_four min_four   -- for this text's walks alone
set_option linter.unusedVariables false
set_option linter.unusedSimpArgs false
end Go.Proofs.YtlhmbncalonomaaDoor.Q
