/- Sum and Extend return the specified checksums, of at most 4000 bytes. Conditions: none. -/
import Derived.Test.YtdnjbakhnnckbaaDoorC2x0
import Derived.Test.YtdnjbakhnnckbaaDoorPXx6
namespace Go.Proofs.YtdnjbakhnnckbaaDoor.Pure
open Go.RowKit Go.Proofs.YtdnjbakhnnckbaaDoor.PX Go.Proofs.YtdnjbakhnnckbaaDoor.Wire Go.Proofs.YtdnjbakhnnckbaaDoor.Crc Go.Proofs.YtdnjbakhnnckbaaDoorW.PrintWords Go.Proofs.YtdnjbakhnnckbaaDoorW.PrintLast
set_option linter.unusedVariables false
theorem u32_of_wf (x : Int) (h : (Lit.int .u32 x).wf = true) : 0 ≤ x ∧ x < 4294967296 := by
  have := h
  simp [Lit.wf, IntKind.min, IntKind.max, IntKind.signed, IntKind.bits] at this
  omega
theorem CrcSums : papermilllaw09_CrcSums.Pure := by
  intro l0 a1 h0 h1 h2 h3
  refine ⟨5000, ?_⟩
  have hb := bytes_of_wf l0 h2
  obtain ⟨g0, g1⟩ := u32_of_wf a1 h3
  obtain ⟨s, rfl⟩ : ∃ s : Nat, a1 = (s : Int) := ⟨a1.toNat, by omega⟩
  unfold papermilllaw09_CrcSums.f
  split
  · rw [awake_true _ (by decide)]
    rfl
  · rw [sum_eq l0 hb (by omega), rsum_eq l0 hb (by omega) _ (by omega)]
    simp only [Option.bind_some, if_true]
    rw [extend_eq s (by omega) l0 hb (by omega), rext_eq s (by omega) l0 hb (by omega) _ (by omega)]
    simp only [Option.bind_some, if_true]
    rw [awake_true _ (by decide)]
    rfl
end Go.Proofs.YtdnjbakhnnckbaaDoor.Pure
