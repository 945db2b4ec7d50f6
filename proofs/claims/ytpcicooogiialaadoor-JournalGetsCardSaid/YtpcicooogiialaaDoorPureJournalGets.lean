/- Get of the program and of the reference return the same event or error for any bytes. Conditions: none. -/
import Derived.Test.YtpcicooogiialaaDoorJS2
import Derived.Test.YtpcicooogiialaaDoorPXx13
namespace Go.Proofs.YtpcicooogiialaaDoor.Pure
open Go.RowKit Go.Proofs.YtpcicooogiialaaDoor.PX Go.Proofs.YtpcicooogiialaaDoor.Wire Go.Proofs.YtpcicooogiialaaDoor.Jr Go.Proofs.YtpcicooogiialaaDoorW.PrintWords Go.Proofs.YtpcicooogiialaaDoorW.PrintLast
theorem JournalGets : papermilllaw61_JournalGets.Pure := by
  intro l0 hl1 hl2 hw
  have hb := bytes_of_wf l0 hw
  refine ⟨1000, ?_⟩
  unfold papermilllaw61_JournalGets.f
  rw [awake_true 1000 (by decide)]
  by_cases h : (l0.length : Int) > 600
  · rw [if_pos h]
    rfl
  · have hn := getS_len l0 hb (by omega)
    rw [if_neg h, jget_eq l0 hb (by omega) 1000 (by omega), rget_eq l0 hb (by omega) 1000 (by omega)]
    simp only [Option.bind_some]
    rw [one_refl _ _ _ _ _ _ _ (by omega) 1000]
    simp
end Go.Proofs.YtpcicooogiialaaDoor.Pure
