/- Recover of the program and of the reference return the same events and the same number of bytes for any bytes. Conditions: none. -/
import Derived.Test.YtpcicooogiialaaDoorJS3
import Derived.Test.YtpcicooogiialaaDoorPXx16
namespace Go.Proofs.YtpcicooogiialaaDoor.Pure
open Go.RowKit Go.Proofs.YtpcicooogiialaaDoor.PX Go.Proofs.YtpcicooogiialaaDoor.Wire Go.Proofs.YtpcicooogiialaaDoor.Crc Go.Proofs.YtpcicooogiialaaDoor.Jr Go.Proofs.YtpcicooogiialaaDoorW.PrintWords Go.Proofs.YtpcicooogiialaaDoorW.PrintLast
theorem JournalRecovers : papermilllaw61_JournalRecovers.Pure := by
  intro l0 hl1 hl2 hw
  have hb := bytes_of_wf l0 hw
  refine ⟨10000, ?_⟩
  unfold papermilllaw61_JournalRecovers.f
  rw [awake_true 10000 (by decide)]
  by_cases h : (l0.length : Int) > 3000
  · rw [if_pos h]
    rfl
  · obtain ⟨es, n, r1, r2, r3, r4, r5⟩ := recover_spec l0 hb (by omega)
    have hfl := framesE_len es r4
    rw [← r3, List.length_take] at hfl
    rw [if_neg h, (r1 10000 (by omega)).1, (r1 10000 (by omega)).2]
    simp only [Option.bind_some]
    rw [evs_refl es (by omega) (fun e he => by have := (r4 e he).kl; omega) 10000]
    simp
end Go.Proofs.YtpcicooogiialaaDoor.Pure
