-- Written by a program of this session (hyb.py), which runs the print over the translation with contracts of its own added; it is not the print itself. Lean checks it.
import Derived.Test.YtoleenfipnbjkaaPXx0
import Derived.Test.YtoleenfipnbjkaaPXx1
import Derived.Test.YtoleenfipnbjkaaPXx2
import Derived.Test.YtoleenfipnbjkaaPXx3
namespace Go.Proofs.Ytoleenfipnbjkaa.PX
open Go.RowKit Go.Proofs.YtoleenfipnbjkaaW.PrintWords Go.Proofs.YtoleenfipnbjkaaW.PrintLast Go.Proofs.YtoleenfipnbjkaaW.PrintMore
attribute [local go_sem] max2_int min2_int max_two min_two max_three min_three max_four min_four   -- for this text's walks alone
set_option linter.unusedVariables false
set_option linter.unusedSimpArgs false

end Go.Proofs.Ytoleenfipnbjkaa.PX
