/- For any bytes and any bound TakeText of the program and of the reference return the same string, number of bytes and error. Conditions: none. -/
import Derived.Test.YtjbjmopagjjkaaaPXx6
import Derived.Test.YtjbjmopagjjkaaaWPut0
namespace Go.Proofs.Ytjbjmopagjjkaaa.Pure
open Go.RowKit Go.Proofs.Ytjbjmopagjjkaaa.PX Go.Proofs.YtjbjmopagjjkaaaW.PrintWords Go.Proofs.YtjbjmopagjjkaaaW.PrintLast Go.Proofs.Ytjbjmopagjjkaaa.Wire
set_option linter.unusedVariables false
theorem WireTexts : papermilllaw08_WireTexts.Pure := by
  intro l0 a1 hl1 hl2 hw hw1
  have hb := bytes_of_wf l0 hw
  refine ⟨1000, ?_⟩
  unfold papermilllaw08_WireTexts.f
  rw [awake_true 1000 (by decide)]
  split
  · rfl
  · obtain ⟨r, h1, h2, _⟩ := texts l0 hb (by omega) a1 1000 (by decide)
    rw [h1, h2]
    simp
end Go.Proofs.Ytjbjmopagjjkaaa.Pure
