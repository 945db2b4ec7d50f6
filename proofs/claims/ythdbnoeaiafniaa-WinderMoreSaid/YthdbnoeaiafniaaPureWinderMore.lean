/- For at most 60 reels and a plan of at most 30 patterns Jobs fails exactly when the plan or the capacity does not do, and one set less is one job less. Conditions: none. -/
import Derived.Test.YthdbnoeaiafniaaNMore0
namespace Go.Proofs.Ythdbnoeaiafniaa.Pure
open Go.RowKit Go.Proofs.Ythdbnoeaiafniaa.PX Go.Proofs.YthdbnoeaiafniaaW.PrintWords Go.Proofs.YthdbnoeaiafniaaW.PrintLast Go.Proofs.Ythdbnoeaiafniaa.Wind
set_option linter.unusedVariables false
theorem WinderMore : papermilllaw50_WinderMore.Pure := by
  intro l0 a1 l2_0 l2_1 a2_2 h0 h1 h2 h3 h4
  refine ⟨100000, ?_⟩
  have key : papermilllaw50_WinderMore.j0 100000 l0 a1 true l2_0 l2_1 a2_2 = some true := by
    simp only [papermilllaw50_WinderMore.j0, if_true]
    rw [awake_true _ (by decide)]
    rfl
  unfold papermilllaw50_WinderMore.f
  split
  · exact key
  · rename_i hl
    obtain ⟨b, hb, hf⟩ := few_iff l2_0 l2_1 a2_2 100000 (by decide)
    rw [hb]
    simp only [Option.bind_some]
    cases b with
    | false => exact key
    | true =>
      obtain ⟨hs, hp⟩ := hf rfl
      have hL : l0.length ≤ 60 := by omega
      have hm : l2_1.length ≤ 30 := by omega
      simp only [Bool.not_true, papermilllaw50_WinderMore.j0]
      rw [if_neg (by decide), wcap l0 a1 _ (by decide), wjobs l0 a1 l2_0 l2_1 a2_2 hL hm _ (by decide)]
      simp only [Option.bind_some]
      rcases jobsR_cases l0 a1 l2_0.length l2_1 with ⟨e0, e1⟩ | ⟨c2, c3, c4, c5, c6, c7, c8, c9⟩
      · have hbad : ∀ b : Bool, (b = true → (capS l0 a1).2 = 0 ∧ l2_1.length = l2_0.length) → papermilllaw50_WinderMore.j1 99999 l0 a1 (capS l0 a1).1 (jobsR l0 a1 l2_0.length l2_1).1 (jobsR l0 a1 l2_0.length l2_1).2 b l2_0 l2_1 a2_2 = some true := by
          intro b hb
          simp only [papermilllaw50_WinderMore.j1]
          refine ml0_bad l0 a1 _ _ _ e0 l2_0 l2_1 a2_2 hm _ 0 99998 0 b rfl (Nat.zero_le _) (by omega) (by omega) (by omega) (fun hbt hsm h512 hcap => ?_)
          rw [List.drop_zero, Int.zero_add] at *
          obtain ⟨g1, g2⟩ := hb hbt
          refine e0 ?_
          unfold jobsR
          rw [if_pos g1, if_pos (by omega), if_pos hsm, if_neg (by omega), if_neg (by omega)]
        split
        · rename_i hc
          exact hbad _ (fun h => ⟨hc, Int.ofNat.inj (by simpa using h)⟩)
        · exact hbad _ (fun h => by cases h)
      · have hj : (jobsS a1 l0 l0 (patsFrom 0 l2_1)).length = (patsFrom 0 l2_1).length := jobsS_len ..
        rw [c9, c4]
        simp only [if_true]
        rw [show ((l2_1.length : Int) == (l2_0.length : Int)) = true by simpa using c5]
        simp only [papermilllaw50_WinderMore.j1]
        refine ml0_ok l0 a1 _ _ l2_0 l2_1 a2_2 hm l2_1.sum c8 c7 _ (fun k hk => ?_) _ 0 99998 0 rfl (Nat.zero_le _) (by omega) (by omega) (by omega) (by rw [List.drop_zero]; exact c6) (by rw [List.drop_zero, Int.zero_add])
        obtain ⟨k, rfl⟩ : ∃ m, k = m + 1 := ⟨k - 1, by omega⟩
        simp only [papermilllaw50_WinderMore.j3]
        rw [if_neg (by decide), if_pos trivial]
        have hj4 : papermilllaw50_WinderMore.j4 k l0 a1 (jobsS a1 l0 l0 (patsFrom 0 l2_1)) l2_1.sum true l2_0 l2_1 a2_2 = some true := by
          obtain ⟨k, rfl⟩ : ∃ m, k = m + 1 := ⟨k - 1, by omega⟩
          simp only [papermilllaw50_WinderMore.j4, if_true]
          rw [awake_true k (by omega)]
          rfl
        by_cases hz : l2_1.length = 0
        · rw [if_pos (by omega)]
          exact hj4
        · obtain ⟨m, hml⟩ : ∃ m, l2_1.length = m + 1 := ⟨l2_1.length - 1, by omega⟩
          have hw : wrap64 ((l2_1.length : Int) - 1) = (m : Int) := by rw [wrap64_id (by omega) (by omega)]; omega
          rw [if_neg (by omega), hw, if_pos (by omega), if_pos (by omega)]
          have hmem := c6 _ (rd_mem l2_1 m (by omega))
          by_cases hz0 : rd l2_1 (m : Int) = 0
          · rw [show (rd l2_1 (m : Int) == 0) = true by simpa using hz0]
            exact hj4
          · rw [show (rd l2_1 (m : Int) == 0) = false by simpa using hz0]
            exact mj4_ok l0 a1 l2_0 l2_1 a2_2 hL hm c2 c3 c4 c5 c6 c7 c8 m hml (by omega) k (by omega)
end Go.Proofs.Ythdbnoeaiafniaa.Pure
