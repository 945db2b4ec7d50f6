/- For any bytes TakeInt of the program and of the reference return the same integer, number of bytes and error. Conditions: none. -/
import Derived.Test.YtjbjmopagjjkaaaPXx4
import Derived.Test.YtjbjmopagjjkaaaWPut0
namespace Go.Proofs.Ytjbjmopagjjkaaa.Pure
open Go.RowKit Go.Proofs.Ytjbjmopagjjkaaa.PX Go.Proofs.YtjbjmopagjjkaaaW.PrintWords Go.Proofs.YtjbjmopagjjkaaaW.PrintLast Go.Proofs.Ytjbjmopagjjkaaa.Wire
set_option linter.unusedVariables false
theorem WireInts : papermilllaw08_WireInts.Pure := by
  intro l0 hl1 hl2 hw
  have hb := bytes_of_wf l0 hw
  refine ⟨40, ?_⟩
  unfold papermilllaw08_WireInts.f
  rw [wire_tk l0 hb 40 (by decide), ref_tk l0 hb 40 (by decide), awake_true 40 (by decide)]
  simp
end Go.Proofs.Ytjbjmopagjjkaaa.Pure
