-- Written by a program of this session (hyb.py), which runs the print over the translation with contracts of its own added; it is not the print itself. Lean checks it.
import Derived.Test.YtnpndjdkdcbjcaaPXx0
import Derived.Test.YtnpndjdkdcbjcaaPXx1
import Derived.Test.YtnpndjdkdcbjcaaPXx2
import Derived.Test.YtnpndjdkdcbjcaaPXx3
import Derived.Test.YtnpndjdkdcbjcaaPXx4
namespace Go.Proofs.Ytnpndjdkdcbjcaa.PX
open Go.RowKit Go.Proofs.YtnpndjdkdcbjcaaW.PrintWords Go.Proofs.YtnpndjdkdcbjcaaW.PrintLast Go.Proofs.YtnpndjdkdcbjcaaW.PrintMore
attribute [local go_sem] max2_int min2_int max_two min_two max_three min_three max_four min_four   -- for this text's walks alone
set_option linter.unusedVariables false
set_option linter.unusedSimpArgs false

end Go.Proofs.Ytnpndjdkdcbjcaa.PX
