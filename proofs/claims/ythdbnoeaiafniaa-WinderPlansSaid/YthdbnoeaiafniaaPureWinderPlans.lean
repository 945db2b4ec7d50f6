/- For at most 60 reels and a plan of at most 30 patterns Jobs of the program and of the reference return the same jobs and error. Conditions: none. -/
import Derived.Test.YthdbnoeaiafniaaNLeft0
import Derived.Test.YthdbnoeaiafniaaPXx11
namespace Go.Proofs.Ythdbnoeaiafniaa.Pure
open Go.RowKit Go.Proofs.Ythdbnoeaiafniaa.PX Go.Proofs.YthdbnoeaiafniaaW.PrintWords Go.Proofs.YthdbnoeaiafniaaW.PrintLast Go.Proofs.Ythdbnoeaiafniaa.Wind
set_option linter.unusedVariables false
theorem WinderPlans : papermilllaw50_WinderPlans.Pure := by
  intro l0 a1 l2_0 l2_1 a2_2 h0 h1 h2 h3 h4
  refine ⟨100000, ?_⟩
  have key : papermilllaw50_WinderPlans.j0 100000 l0 a1 true l2_0 l2_1 a2_2 = some true := by
    simp only [papermilllaw50_WinderPlans.j0, if_true]
    rw [awake_true _ (by decide)]
    rfl
  unfold papermilllaw50_WinderPlans.f
  split
  · exact key
  · rename_i hl
    obtain ⟨b, hb, hf⟩ := few_iff l2_0 l2_1 a2_2 100000 (by decide)
    rw [hb]
    simp only [Option.bind_some]
    cases b with
    | false => exact key
    | true =>
      obtain ⟨hs, hp⟩ := hf rfl
      simp only [Bool.not_true, papermilllaw50_WinderPlans.j0]
      rw [if_neg (by decide), wjobs l0 a1 l2_0 l2_1 a2_2 (by omega) hs _ (by decide), rjobs l0 a1 l2_0 l2_1 a2_2 (by omega) hs _ (by decide)]
      simp only [Option.bind_some]
      have hj := jobsR_len l0 a1 l2_0.length l2_1
      rw [same43 _ (by omega) _ (by omega)]
      simp only [Option.bind_some, if_true]
      rw [awake_true _ (by decide)]
      rfl
end Go.Proofs.Ythdbnoeaiafniaa.Pure
