/- For at most 60 reels and a plan of at most 30 patterns each pattern has as many jobs as the plan has sets of it, and the patterns come in their order. Conditions: none. -/
import Derived.Test.YthdbnoeaiafniaaNLaws0
namespace Go.Proofs.Ythdbnoeaiafniaa.Pure
open Go.RowKit Go.Proofs.Ythdbnoeaiafniaa.PX Go.Proofs.YthdbnoeaiafniaaW.PrintWords Go.Proofs.YthdbnoeaiafniaaW.PrintLast Go.Proofs.Ythdbnoeaiafniaa.Wind
set_option linter.unusedVariables false
theorem WinderSets : papermilllaw50_WinderSets.Pure := by
  intro l0 a1 l2_0 l2_1 a2_2 h0 h1 h2 h3 h4
  refine ⟨100000, ?_⟩
  have key : papermilllaw50_WinderSets.j0 100000 l0 a1 true l2_0 l2_1 a2_2 = some true := by
    simp only [papermilllaw50_WinderSets.j0, if_true]
    rw [awake_true _ (by decide)]
    rfl
  unfold papermilllaw50_WinderSets.f
  split
  · exact key
  · rename_i hl
    obtain ⟨b, hb, hf⟩ := few_iff l2_0 l2_1 a2_2 100000 (by decide)
    rw [hb]
    simp only [Option.bind_some]
    cases b with
    | false => exact key
    | true =>
      obtain ⟨hs, hp⟩ := hf rfl
      simp only [Bool.not_true, papermilllaw50_WinderSets.j0]
      rw [if_neg (by decide), wjobs l0 a1 l2_0 l2_1 a2_2 (by omega) hs _ (by decide)]
      simp only [Option.bind_some]
      have hj := jobsR_len l0 a1 l2_0.length l2_1
      rcases jobsR_cases l0 a1 l2_0.length l2_1 with ⟨e0, e1⟩ | ⟨c1, c2, c3, c4, c5, c6, c7, c8⟩
      · rw [if_neg e0, awake_true _ (by decide)]
        rfl
      · rw [c8] at hj ⊢
        simp only [if_true]
        have hj' : (jobsS a1 l0 l0 (patsFrom 0 l2_1)).length ≤ 512 := hj
        have hq : l2_1.length ≤ 30 := by omega
        exact ls0 _ l2_0 l2_1 a2_2 hq c5 hj' l2_1.length 0 _ 0 (by omega) (Nat.zero_le _) (Nat.zero_le _) (by rw [List.drop_zero, List.drop_zero, jobsS_f2]; rfl) (by omega)
end Go.Proofs.Ythdbnoeaiafniaa.Pure
