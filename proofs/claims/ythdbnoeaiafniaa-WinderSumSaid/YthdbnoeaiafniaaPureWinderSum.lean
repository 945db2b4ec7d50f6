/- For at most 60 reels and 520 jobs what Left leaves of all reels, and size for each job, are the lengths of the reels; with as many jobs as the capacity less than size is left of each. Conditions: none. -/
import Derived.Test.YthdbnoeaiafniaaNLaws0
namespace Go.Proofs.Ythdbnoeaiafniaa.Pure
open Go.RowKit Go.Proofs.Ythdbnoeaiafniaa.PX Go.Proofs.YthdbnoeaiafniaaW.PrintWords Go.Proofs.YthdbnoeaiafniaaW.PrintLast Go.Proofs.Ythdbnoeaiafniaa.Wind
set_option linter.unusedVariables false
theorem WinderSum : papermilllaw50_WinderSum.Pure := by
  intro l0 a1 l2 h0 h1 h2
  refine ⟨100000, ?_⟩
  have key : papermilllaw50_WinderSum.j0 100000 l0 a1 l2 true = some true := by
    simp only [papermilllaw50_WinderSum.j0, if_true]
    rw [awake_true _ (by decide)]
    rfl
  unfold papermilllaw50_WinderSum.f
  split
  · exact key
  · rename_i hl
    by_cases hj : (l2.length : Int) > 520
    · rw [decide_eq_true hj]
      exact key
    · rw [decide_eq_false hj]
      simp only [papermilllaw50_WinderSum.j0]
      rw [if_neg (by decide), wleft l0 a1 l2 (by omega) _ (by decide), wcap l0 a1 _ (by decide)]
      simp only [Option.bind_some]
      unfold leftT
      rcases capS_ok l0 a1 with ⟨e0, e1⟩ | ⟨c1, c2, c3, c4⟩
      · rw [if_neg e0, if_neg e0]
        simp only [List.length_nil]
        rw [if_pos (by decide), awake_true _ (by decide)]
        rfl
      · rw [c4]
        simp only [if_true]
        by_cases h5 : (l2.length : Int) > 512
        · rw [if_pos h5]
          simp only [List.length_nil]
          rw [if_neg (by decide), if_pos (by decide), awake_true _ (by decide)]
          rfl
        · rw [if_neg h5]
          rcases leftR_ok l0 a1 c2 c3 l2 l0 (Inv0.start c2) with ⟨e0, e1⟩ | ⟨d1, d2, d3, d4⟩
          · rw [if_neg e0, e1]
            simp only [List.length_nil]
            rw [if_pos (by decide), awake_true _ (by decide)]
            rfl
          · rw [d1]
            simp only [if_true]
            have hs1 := c3.1
            have hs2 := c3.2
            have hn := tot_nonneg a1 c3.1 _ d2.nn
            rw [if_pos (by rw [d2.len]), decide_eq_false (by omega)]
            simp only [papermilllaw50_WinderSum.j1]
            have hp1 : 0 ≤ a1 * (l2.length : Int) := Int.mul_nonneg (by omega) (by omega)
            have hp2 : a1 * (l2.length : Int) ≤ 17179869184 * 512 := Int.mul_le_mul hs2 (by omega) (by omega) (by omega)
            rw [if_neg (by decide), wrap64_id (by omega) (by omega)]
            exact lsum l0 _ a1 (tot a1 l0) l2 (by omega) c2 c3 d2 (by omega) (fun h => tot_zero a1 c3.1 _ d2.nn (by omega)) d4 _ 0 _ _ rfl (Nat.zero_le _) (by simp) (by omega) (by omega) (by omega)
end Go.Proofs.Ythdbnoeaiafniaa.Pure
