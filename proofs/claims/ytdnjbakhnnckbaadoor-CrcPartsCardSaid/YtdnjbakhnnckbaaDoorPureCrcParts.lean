/- The checksum of two strings, one after the other, is that of the second one as an extension of that of the first one. Conditions: none. -/
import Derived.Test.YtdnjbakhnnckbaaDoorC2x0
import Derived.Test.YtdnjbakhnnckbaaDoorPXx12
namespace Go.Proofs.YtdnjbakhnnckbaaDoor.Pure
open Go.RowKit Go.Proofs.YtdnjbakhnnckbaaDoor.PX Go.Proofs.YtdnjbakhnnckbaaDoor.Wire Go.Proofs.YtdnjbakhnnckbaaDoor.Crc Go.Proofs.YtdnjbakhnnckbaaDoorW.PrintWords Go.Proofs.YtdnjbakhnnckbaaDoorW.PrintLast
set_option linter.unusedVariables false
theorem xor_again (a b : Nat) : a ^^^ (a ^^^ b) = b := by rw [← Nat.xor_assoc, Nat.xor_self, Nat.zero_xor]
theorem CrcParts : papermilllaw09_CrcParts.Pure := by
  intro l0 l1 h0 h1 h2 h3 h4 h5
  refine ⟨5000, ?_⟩
  have hb0 := bytes_of_wf l0 h2
  have hb1 := bytes_of_wf l1 h5
  have key : papermilllaw09_CrcParts.j0 5000 l0 l1 true = some true := by
    simp only [papermilllaw09_CrcParts.j0, if_true]
    rw [awake_true _ (by decide)]
    rfl
  unfold papermilllaw09_CrcParts.f
  split
  · exact key
  · by_cases hl : (l1.length : Int) > 4000
    · rw [decide_eq_true hl]
      exact key
    · rw [decide_eq_false hl]
      simp only [papermilllaw09_CrcParts.j0, List.nil_append, List.length_nil, Nat.zero_add, Option.bind_some]
      rw [if_neg (by decide), if_pos (by omega), if_pos (by omega), sum_eq _ (hb0.append hb1) (by rw [List.length_append]; omega), sum_eq l0 hb0 (by omega)]
      simp only [Option.bind_some]
      rw [extend_eq _ (sumN_lt l0 hb0) l1 hb1 (by omega), extend_eq _ (sumN_lt _ (hb0.append hb1)) [] (fun _ h => by cases h) (by decide)]
      have e1 : extN (sumN l0) (nats l1) = sumN (l0 ++ l1) := by
        unfold sumN extN
        rw [xor_again, nats_append, runN_append]
      have e2 : extN (sumN (l0 ++ l1)) (nats []) = sumN (l0 ++ l1) := xor_again _ _
      simp only [Option.bind_some, e1, e2, if_true]
      rw [awake_true _ (by decide)]
      rfl
end Go.Proofs.YtdnjbakhnnckbaaDoor.Pure
