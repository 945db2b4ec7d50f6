/- For at most 60 reels and a plan of at most 30 patterns each job that Jobs returns begins where the one before on its reel ends, and lies on the reel; a reel is left only if less than size remains. Conditions: none. -/
import Derived.Test.YthdbnoeaiafniaaNLaws0
namespace Go.Proofs.Ythdbnoeaiafniaa.Pure
open Go.RowKit Go.Proofs.Ythdbnoeaiafniaa.PX Go.Proofs.YthdbnoeaiafniaaW.PrintWords Go.Proofs.YthdbnoeaiafniaaW.PrintLast Go.Proofs.Ythdbnoeaiafniaa.Wind
set_option linter.unusedVariables false
theorem WinderJobs : papermilllaw50_WinderJobs.Pure := by
  intro l0 a1 l2_0 l2_1 a2_2 h0 h1 h2 h3 h4
  refine ⟨100000, ?_⟩
  have key : papermilllaw50_WinderJobs.j0 100000 l0 a1 true l2_0 l2_1 a2_2 = some true := by
    simp only [papermilllaw50_WinderJobs.j0, if_true]
    rw [awake_true _ (by decide)]
    rfl
  unfold papermilllaw50_WinderJobs.f
  split
  · exact key
  · rename_i hl
    obtain ⟨b, hb, hf⟩ := few_iff l2_0 l2_1 a2_2 100000 (by decide)
    rw [hb]
    simp only [Option.bind_some]
    cases b with
    | false => exact key
    | true =>
      obtain ⟨hs, hp⟩ := hf rfl
      simp only [Bool.not_true, papermilllaw50_WinderJobs.j0]
      rw [if_neg (by decide), wjobs l0 a1 l2_0 l2_1 a2_2 (by omega) hs _ (by decide)]
      simp only [Option.bind_some]
      have hj := jobsR_len l0 a1 l2_0.length l2_1
      rcases jobsR_cases l0 a1 l2_0.length l2_1 with ⟨e0, e1⟩ | ⟨c1, c2, c3, c4, c5, c6, c7, c8⟩
      · rw [if_neg e0, e1]
        simp only [List.length_nil]
        rw [if_pos (by decide), awake_true _ (by decide)]
        rfl
      · rw [c8] at hj ⊢
        simp only [if_true]
        have hpl := patsFrom_len l2_1 c5 0
        have hI : Inv a1 l0 l0 (patsFrom 0 l2_1).length := Inv.start c1 (by omega)
        have hend : leftT l0 a1 (jobsS a1 l0 l0 (patsFrom 0 l2_1)) = ((leftT l0 a1 (jobsS a1 l0 l0 (patsFrom 0 l2_1))).1, 0) ∧ (leftT l0 a1 (jobsS a1 l0 l0 (patsFrom 0 l2_1))).1.length = l0.length := by
          have := leftR_jobs l0 a1 c1 c2 (patsFrom 0 l2_1) l0 hI
          unfold leftT
          rw [c3, if_pos rfl, if_neg (by simp only at hj; omega)]
          exact ⟨Prod.ext rfl this.1, this.2⟩
        refine lj0 l0 a1 _ (by omega) c1 c2 hj hend (patsFrom 0 l2_1) 0 _ 0 0 l0 rfl (by rw [jobsS_len]; omega) hI ⟨fun i hi => by omega, fun _ => by omega, fun _ _ _ => rfl⟩ (by decide) ?_
        omega
end Go.Proofs.Ythdbnoeaiafniaa.Pure
