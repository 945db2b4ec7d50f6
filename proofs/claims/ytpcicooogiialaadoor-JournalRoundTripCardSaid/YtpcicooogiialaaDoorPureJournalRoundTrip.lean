/- Get of the content of an event is the event, and Put of an event that Get returned is its content. Conditions: none. -/
import Derived.Test.YtpcicooogiialaaDoorJS2R
import Derived.Test.YtpcicooogiialaaDoorPRx7
namespace Go.Proofs.YtpcicooogiialaaDoor.Pure
open Go.RowKit Go.Proofs.YtpcicooogiialaaDoor.PR Go.Proofs.YtpcicooogiialaaDoor.Wire Go.Proofs.YtpcicooogiialaaDoor.Jr Go.Proofs.YtpcicooogiialaaDoorW.PrintWords Go.Proofs.YtpcicooogiialaaDoorW.PrintLast
set_option linter.unusedVariables false
theorem JournalRoundTrip : papermilllaw61_JournalRoundTrip.Pure := by
  intro a0 a1 a2 a3 a4 a5 l l0 w0 w1 w2 w3 w4 w5 hl h0
  have hb := bytes_of_wf l0 h0.2
  obtain ⟨K, hK⟩ : ∃ K, 100000 ≤ K := ⟨100000, Nat.le_refl _⟩
  refine ⟨K, ?_⟩
  unfold papermilllaw61_JournalRoundTrip.f
  have hw := awake_true K (by omega)
  obtain ⟨g, g1, g2⟩ := great_eq [⟨a0, a1, a2, a3, a4, a5, l⟩] K (by omega)
  refine Option.bind_eq_some_iff.mpr ⟨_, g1, ?_⟩
  cases g with
  | true => rw [if_pos rfl]; exact hw
  | false =>
    have hs : l.length ≤ 60 := (g2 rfl).2 _ (List.mem_singleton.2 rfl)
    rw [if_neg (by decide)]
    by_cases c1 : l0.length > 600
    · rw [if_pos c1]; exact hw
    · rw [if_neg c1]
      refine Option.bind_eq_some_iff.mpr ⟨_, jput_eq a0 a1 a2 a3 a4 a5 l (by omega) K (by omega), ?_⟩
      have hp : ¬ (putS a0 a1 a2 a3 a4 a5 l).2 = 0 ∨ (journal_Get.f K (putS a0 a1 a2 a3 a4 a5 l).1 = some (a0, a1, a2, a3, a4, a5, l, 0) ∧ l.length ≤ 1000000) := by
        by_cases c : chk a0 a1 a2 a3 a4 a5 l = 0
        · have ok := chk_ok.1 c
          have h1 := contS_len a0 a1 a2 a3 a4 a5 l
          refine Or.inr ⟨?_, by omega⟩
          rw [putS_ok c, jget_eq _ (contS_bytes ok) (by omega) K (by omega), getS_cont ok]
        · exact Or.inl (by rw [putS_no c]; exact c)
      rw [if_pos hp]
      refine Option.bind_eq_some_iff.mpr ⟨_, jget_eq l0 hb (by omega) K (by omega), ?_⟩
      by_cases ce : (getS l0).2.2.2.2.2.2.2 = 0
      · obtain ⟨b0, b1, b2, b3, b4, b5, m, e, ok, hc⟩ := getS_once l0 hb (by omega) ce
        have hm := ok.kl
        rw [if_pos ce, e]
        have h1 : journal_Put.f K b0 b1 b2 b3 b4 b5 m = some (l0, 0) := by rw [jput_eq b0 b1 b2 b3 b4 b5 m (by omega) K (by omega), putS_ok (chk_ok.2 ok), hc]
        have h2 : journal_Check.f K b0 b1 b2 b3 b4 b5 m = some 0 := by rw [jchk_eq b0 b1 b2 b3 b4 b5 m (by omega) K (by omega), chk_ok.2 ok]
        rw [if_pos ⟨h1, h2⟩]
        exact hw
      · rw [if_neg ce, getS_err l0 ce]
        have h1 : papermillref61_SameOne.f K 0 0 0 0 0 0 [] 0 0 0 0 0 0 [] = some true := one_refl 0 0 0 0 0 0 [] (by simp) K
        rw [if_pos h1]
        exact hw
end Go.Proofs.YtpcicooogiialaaDoor.Pure
