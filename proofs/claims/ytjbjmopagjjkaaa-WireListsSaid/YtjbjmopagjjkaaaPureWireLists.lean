/- For any bytes and any bound TakeList of the program and of the reference return the same list, number of bytes and error. Conditions: none. -/
import Derived.Test.YtjbjmopagjjkaaaPXx8
import Derived.Test.YtjbjmopagjjkaaaWPut0
namespace Go.Proofs.Ytjbjmopagjjkaaa.Pure
open Go.RowKit Go.Proofs.Ytjbjmopagjjkaaa.PX Go.Proofs.YtjbjmopagjjkaaaW.PrintWords Go.Proofs.YtjbjmopagjjkaaaW.PrintLast Go.Proofs.Ytjbjmopagjjkaaa.Wire
set_option linter.unusedVariables false
theorem WireLists : papermilllaw08_WireLists.Pure := by
  intro l0 a1 hl1 hl2 hw hw1
  have hb := bytes_of_wf l0 hw
  refine ⟨1000, ?_⟩
  unfold papermilllaw08_WireLists.f
  rw [awake_true 1000 (by decide)]
  split
  · rfl
  · obtain ⟨r, h1, h2, h3⟩ := lists l0 hb (by omega) a1 1000 (by omega)
    rw [h1, h2]
    simp only [Option.bind_some]
    have hlen : r.1.length ≤ 600 := by
      rcases h3 with ⟨e, _, rfl⟩ | ⟨ys, m, rfl, _, _, h4, h5, _⟩
      · simp
      · have h6 := congrArg List.length h5
        have h7 := enc_len ys.length
        have h8 : ys.length ≤ (encL ys).length := encL_ge ys
        simp at h6
        simp only
        omega
    rw [ints_refl r.1 (by omega) 1000 (by omega)]
    simp
end Go.Proofs.Ytjbjmopagjjkaaa.Pure
