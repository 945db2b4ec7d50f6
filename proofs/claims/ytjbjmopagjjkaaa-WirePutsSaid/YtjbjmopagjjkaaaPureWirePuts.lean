/- For any bytes, integer, string and list PutInt, PutText and PutList of the program return the bytes of the reference. Conditions: none. -/
import Derived.Test.YtjbjmopagjjkaaaPXx5
import Derived.Test.YtjbjmopagjjkaaaWPut0
namespace Go.Proofs.Ytjbjmopagjjkaaa.Pure
open Go.RowKit Go.Proofs.Ytjbjmopagjjkaaa.PX Go.Proofs.YtjbjmopagjjkaaaW.PrintWords Go.Proofs.YtjbjmopagjjkaaaW.PrintLast Go.Proofs.Ytjbjmopagjjkaaa.Wire
set_option linter.unusedVariables false
theorem WirePuts : papermilllaw08_WirePuts.Pure := by
  intro l0 a1 a2 l3 hl1 hl2 hw hw1 hs hl3 hl4 hw3
  have hi := inI_of_wf a1 hw1
  refine ⟨1001, ?_⟩
  have key : papermilllaw08_WirePuts.j0 1001 l0 a1 a2 l3 true = some true := by
    simp only [papermilllaw08_WirePuts.j0, if_true]
    rw [awake_true 1000 (by decide)]
    rfl
  unfold papermilllaw08_WirePuts.f
  split
  · exact key
  · split
    · exact key
    · by_cases h3 : (l3.length : Int) > 300
      · rw [decide_eq_true h3]
        exact key
      · rw [decide_eq_false h3]
        simp only [papermilllaw08_WirePuts.j0]
        rw [if_neg (by decide), wire_put l0 a1 (by omega) hi, ref_put l0 a1 (by omega) hi 1000 (by decide)]
        simp only [Option.bind_some]
        rw [same_refl]
        simp only [Option.bind_some, if_true]
        rw [wire_text l0 a2 (by omega) (by omega), ref_text l0 a2 (by omega) (by omega) 1000 (by decide)]
        simp only [Option.bind_some]
        rw [same_refl]
        simp only [Option.bind_some, if_true]
        rw [wire_list l0 l3 (by omega) (by omega) (fun x hx => inI_of_wf x (hw3 x hx)) 1000 (by omega), ref_list l0 l3 (by omega) (by omega) (fun x hx => inI_of_wf x (hw3 x hx)) 1000 (by omega)]
        simp only [Option.bind_some]
        rw [same_refl]
        simp only [Option.bind_some, if_true]
        rw [awake_true 1000 (by decide)]
        rfl
end Go.Proofs.Ytjbjmopagjjkaaa.Pure
