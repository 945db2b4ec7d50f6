/- Check and Put of the program and of the reference return the same, for any event. Conditions: none. -/
import Derived.Test.YtpcicooogiialaaDoorJRPY
import Derived.Test.YtpcicooogiialaaDoorPYx6
namespace Go.Proofs.YtpcicooogiialaaDoor.Pure
open Go.RowKit Go.Proofs.YtpcicooogiialaaDoor.PY Go.Proofs.YtpcicooogiialaaDoor.Wire Go.Proofs.YtpcicooogiialaaDoor.Jr Go.Proofs.YtpcicooogiialaaDoorW.PrintWords Go.Proofs.YtpcicooogiialaaDoorW.PrintLast
set_option linter.unusedVariables false
theorem JournalChecks : papermilllaw61_JournalChecks.Pure := by
  intro a0 a1 a2 a3 a4 a5 l w0 w1 w2 w3 w4 w5 hl
  obtain ⟨K, hK⟩ : ∃ K, 100000 ≤ K := ⟨100000, Nat.le_refl _⟩
  refine ⟨K, ?_⟩
  unfold papermilllaw61_JournalChecks.f
  rw [awake_true K (by omega)]
  obtain ⟨g, g1, g2⟩ := great_eq [⟨a0, a1, a2, a3, a4, a5, l⟩] K (by omega)
  rw [g1]
  simp only [Option.bind_some]
  cases g with
  | true => rw [if_pos rfl]
  | false =>
    have hs : l.length ≤ 60 := (g2 rfl).2 _ (List.mem_singleton.2 rfl)
    rw [if_neg (by decide), jput_eq a0 a1 a2 a3 a4 a5 l (by omega) K (by omega), rput_eq a0 a1 a2 a3 a4 a5 l (by omega) K (by omega), jchk_eq a0 a1 a2 a3 a4 a5 l (by omega) K (by omega), rchk_eq a0 a1 a2 a3 a4 a5 l (by omega) K (by omega)]
    simp only [Option.bind_some]
    rw [if_pos ⟨by first | rfl | trivial, by first | rfl | trivial⟩]
end Go.Proofs.YtpcicooogiialaaDoor.Pure
