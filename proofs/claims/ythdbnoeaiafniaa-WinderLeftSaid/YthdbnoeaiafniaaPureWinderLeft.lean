/- For at most 60 reels and 520 jobs Left of the program and of the reference return the same lengths and error. Conditions: none. -/
import Derived.Test.YthdbnoeaiafniaaNLeft0
import Derived.Test.YthdbnoeaiafniaaPXx13
namespace Go.Proofs.Ythdbnoeaiafniaa.Pure
open Go.RowKit Go.Proofs.Ythdbnoeaiafniaa.PX Go.Proofs.YthdbnoeaiafniaaW.PrintWords Go.Proofs.YthdbnoeaiafniaaW.PrintLast Go.Proofs.Ythdbnoeaiafniaa.Wind
set_option linter.unusedVariables false
theorem WinderLeft : papermilllaw50_WinderLeft.Pure := by
  intro l0 a1 l2 h0 h1 h2
  refine ⟨100000, ?_⟩
  have key : papermilllaw50_WinderLeft.j0 100000 l0 a1 l2 true = some true := by
    simp only [papermilllaw50_WinderLeft.j0, if_true]
    rw [awake_true _ (by decide)]
    rfl
  unfold papermilllaw50_WinderLeft.f
  split
  · exact key
  · rename_i hl
    by_cases hj : (l2.length : Int) > 520
    · rw [decide_eq_true hj]
      exact key
    · rw [decide_eq_false hj]
      simp only [papermilllaw50_WinderLeft.j0]
      rw [if_neg (by decide), wleft l0 a1 l2 (by omega) _ (by decide), rleft l0 a1 l2 (by omega) _ (by decide)]
      simp only [Option.bind_some]
      have hlen := leftT_len l0 a1 l2
      rw [same12 _ (by omega) _ (by omega)]
      simp only [Option.bind_some, if_true]
      rw [awake_true _ (by decide)]
      rfl
end Go.Proofs.Ythdbnoeaiafniaa.Pure
