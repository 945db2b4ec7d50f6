/- For any integer, string and list what PutInt, PutText and PutList return is taken again by TakeInt, TakeText and TakeList, with its number of bytes, whatever bytes follow. Conditions: none. -/
import Derived.Test.YtjbjmopagjjkaaaPXx9
import Derived.Test.YtjbjmopagjjkaaaWPut0
namespace Go.Proofs.Ytjbjmopagjjkaaa.Pure
open Go.RowKit Go.Proofs.Ytjbjmopagjjkaaa.PX Go.Proofs.YtjbjmopagjjkaaaW.PrintWords Go.Proofs.YtjbjmopagjjkaaaW.PrintLast Go.Proofs.Ytjbjmopagjjkaaa.Wire
set_option linter.unusedVariables false
theorem WireRoundTrip : papermilllaw08_WireRoundTrip.Pure := by
  intro a0 a1 l2 l3 hw0 hs hl1 hl2 hw2 hl3 hl4 hw3
  have hi := inI_of_wf a0 hw0
  have hi2 : ∀ x ∈ l2, InI x := fun x hx => inI_of_wf x (hw2 x hx)
  have hb := bytes_of_wf l3 hw3
  refine ⟨10003, ?_⟩
  have key : papermilllaw08_WireRoundTrip.j0 10003 a0 a1 l2 l3 true = some true := by
    simp only [papermilllaw08_WireRoundTrip.j0, if_true]
    rw [awake_true _ (by decide)]
    rfl
  unfold papermilllaw08_WireRoundTrip.f
  split
  · exact key
  · split
    · exact key
    · by_cases h3 : (l3.length : Int) > 300
      · rw [decide_eq_true h3]
        exact key
      · rw [decide_eq_false h3]
        have e0 := enc_len a0
        have e1 := enc_len a1.size
        have e2 := enc_len l2.length
        have e3 := encL_len l2
        have e4 : (bytesOf a1).length = a1.size := bytesOf_len a1
        simp only [papermilllaw08_WireRoundTrip.j0]
        rw [if_neg (by decide), wire_put [] a0 (by simp) hi, wire_text [] a1 (by simp) (by omega), wire_list [] l2 (by simp) (by omega) hi2 _ (by omega)]
        simp only [Option.bind_some, List.nil_append]
        rw [if_neg (by omega), if_neg (by rw [List.length_append]; omega), decide_eq_false (by rw [List.length_append]; omega)]
        simp only [papermilllaw08_WireRoundTrip.j1]
        have t1 : wire_TakeInt.f 10001 (enc a0 ++ l3) = some (a0, ((enc a0).length : Int), 0) := by
          rw [wire_tk _ ((enc_bytes a0 hi).append hb) _ (by decide), enc_taken a0 hi]
        have t2 : wire_TakeText.f 10001 (enc a1.size ++ bytesOf a1 ++ l3) (a1.size : Int) = some (a1, ((enc a1.size ++ bytesOf a1).length : Int), 0) := text_taken a1 l3 hb (by omega) (by omega) _ (by decide)
        have t3 : wire_TakeList.f 10001 (enc l2.length ++ encL l2 ++ l3) (l2.length : Int) = some (l2, ((enc l2.length ++ encL l2).length : Int), 0) := list_taken l2 hi2 l3 hb (by omega) (by omega) _ (by omega)
        rw [if_neg (by decide)]
        simp only [Option.bind_some, List.nil_append, List.length_nil, Nat.zero_add]
        rw [if_pos (by omega), if_pos (by omega), t1]
        simp only [Option.bind_some]
        rw [if_pos (by rw [List.length_append]; omega), if_pos (by rw [List.length_append]; omega), t2]
        simp only [Option.bind_some]
        rw [if_pos (by rw [List.length_append]; omega), if_pos (by rw [List.length_append]; omega), t3]
        simp only [Option.bind_some, if_true, bne_self_eq_false]
        simp only [papermilllaw08_WireRoundTrip.j2]
        rw [if_neg (by decide), if_pos True.intro, if_pos True.intro, ints_refl l2 (by omega) _ (by omega)]
        simp only [Option.bind_some, if_true]
        rw [awake_true _ (by decide)]
        rfl
end Go.Proofs.Ytjbjmopagjjkaaa.Pure
