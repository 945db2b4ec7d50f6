/- Append of the program and of the reference return the same bytes and the same error, for any bytes and any event. Conditions: none. -/
import Derived.Test.YtpcicooogiialaaDoorJRAY
import Derived.Test.YtpcicooogiialaaDoorPYx7
namespace Go.Proofs.YtpcicooogiialaaDoor.Pure
open Go.RowKit Go.Proofs.YtpcicooogiialaaDoor.PY Go.Proofs.YtpcicooogiialaaDoor.Wire Go.Proofs.YtpcicooogiialaaDoor.Crc Go.Proofs.YtpcicooogiialaaDoor.Jr Go.Proofs.YtpcicooogiialaaDoorW.PrintWords Go.Proofs.YtpcicooogiialaaDoorW.PrintLast
set_option linter.unusedVariables false
theorem JournalAppends : papermilllaw61_JournalAppends.Pure := by
  intro l0 a0 a1 a2 a3 a4 a5 l h0 w0 w1 w2 w3 w4 w5 hl
  obtain ⟨K, hK⟩ : ∃ K, 100000 ≤ K := ⟨100000, Nat.le_refl _⟩
  refine ⟨K, ?_⟩
  unfold papermilllaw61_JournalAppends.f
  rw [awake_true K (by omega)]
  by_cases c : l0.length > 3000
  · rw [if_pos c]
  · rw [if_neg c]
    obtain ⟨g, g1, g2⟩ := great_eq [⟨a0, a1, a2, a3, a4, a5, l⟩] K (by omega)
    rw [g1]
    simp only [Option.bind_some]
    cases g with
    | true => rw [if_pos rfl]
    | false =>
      have hs : l.length ≤ 60 := (g2 rfl).2 _ (List.mem_singleton.2 rfl)
      rw [if_neg (by decide), japp_eq l0 (by omega) a0 a1 a2 a3 a4 a5 l (by omega) K (by omega), rapp_eq l0 (by omega) a0 a1 a2 a3 a4 a5 l (by omega) K (by omega)]
      simp only [Option.bind_some, if_true]
end Go.Proofs.YtpcicooogiialaaDoor.Pure
