/- Open returns the specified content and number of bytes, or the error, for any at most 4000 bytes. Conditions: none. -/
import Derived.Test.YtdnjbakhnnckbaaDoorC3x0
namespace Go.Proofs.YtdnjbakhnnckbaaDoor.Pure
open Go.RowKit Go.Proofs.YtdnjbakhnnckbaaDoor.PX Go.Proofs.YtdnjbakhnnckbaaDoor.Wire Go.Proofs.YtdnjbakhnnckbaaDoor.Crc Go.Proofs.YtdnjbakhnnckbaaDoorW.PrintWords Go.Proofs.YtdnjbakhnnckbaaDoorW.PrintLast
set_option linter.unusedVariables false
theorem CrcOpens : papermilllaw09_CrcOpens.Pure := by
  intro l0 h0 h1 h2
  refine ⟨5000, ?_⟩
  have hb := bytes_of_wf l0 h2
  unfold papermilllaw09_CrcOpens.f
  split
  · rw [awake_true _ (by decide)]
    rfl
  · rw [open_eq l0 hb (by omega) _ (by decide), ropen_eq l0 hb (by omega) _ (by omega)]
    simp only [Option.bind_some]
    have hlen : (openS l0).1.length ≤ 4000 := by
      by_cases he : (openS l0).2.2 = 0
      · obtain ⟨n, _, _, _, _, e5⟩ := open_len l0 hb he
        omega
      · rw [(open_err l0 he).1]; simp
    rw [same_eq _ _ (by omega) _ (by omega)]
    simp only [Option.bind_some, decide_true, if_true]
    rw [awake_true _ (by decide)]
    rfl
end Go.Proofs.YtdnjbakhnnckbaaDoor.Pure
