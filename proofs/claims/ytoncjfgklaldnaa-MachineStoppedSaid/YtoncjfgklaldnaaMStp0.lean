import Derived.Test.YtoncjfgklaldnaaMSpec0
import Derived.Test.YtoncjfgklaldnaaMStA0
import Derived.Test.YtoncjfgklaldnaaPXx20
namespace Go.Proofs.Ytoncjfgklaldnaa.MSpec
set_option linter.unusedVariables false
set_option linter.unusedSimpArgs false
open Go.RowKit Go.Proofs.Ytoncjfgklaldnaa.PX Go.Proofs.YtoncjfgklaldnaaW.PrintWords Go.Proofs.YtoncjfgklaldnaaW.PrintLast
theorem nx_zero {a : Int} (h : (nx 0 a).2 = 0) : a = 1 ∨ a = 5 := by
  unfold nx at h
  rw [if_neg (by decide), if_neg (by decide)] at h
  by_cases h1 : a = 1
  · exact .inl h1
  · rw [if_neg h1] at h
    by_cases h2 : a = 5
    · exact .inr h2
    · repeat' split at h
      all_goals first | omega | simp at h
theorem try_ev (th cl : Int) (p : Int × List S35) (a0 a1 : Int) (hi : p.2.length = 0 → p.1 = 0) (hl : p.2.length < 5000) : Ev (fun k => papermillref30_Try.f k th cl p.2 p.1 a0 a1) ((perfS th cl p ⟨a0, a1⟩).2, (perfS th cl p ⟨a0, a1⟩).1) := by
  have hq : perfS th cl p ⟨a0, a1⟩ = if (nx p.1 a0).2 = 0 then (if erl th cl a0 a1 (lastA p.2) = true then p else ((nx p.1 a0).1, p.2 ++ [⟨a0, a1⟩])) else p := rfl
  unfold papermillref30_Try.f
  refine Ev.bind (rnext_ev _ _) ?_
  by_cases he : (nx p.1 a0).2 = 0
  · rw [if_pos he] at hq
    refine Ev.ite_pos he ?_
    by_cases h0 : p.2.length = 0
    · have hz := hi h0
      have he' := he
      rw [hz] at he'
      have hr : erl th cl a0 a1 (lastA p.2) = false := by
        unfold erl
        rcases nx_zero he' with rfl | rfl <;> rfl
      rw [hr, if_neg (by decide)] at hq
      rw [hq]
      exact Ev.ite_neg (by omega) (Ev.ite_pos (by omega) (Ev.now _))
    · refine Ev.ite_pos (by omega) ?_
      have hw : wrap64 ((p.2.length : Int) - 1) = (p.2.length : Int) - 1 := by unfold wrap64; omega
      have hla : lastA p.2 = (rd_T35 p.2 ((p.2.length : Int) - 1)).f1 := by unfold lastA; rw [if_neg h0]
      rw [hw]
      refine Ev.ite_pos (by omega) (Ev.ite_pos (by omega) ?_)
      refine Ev.bind (g := fun _ => papermillref30_Early.f th cl a0 a1 (rd_T35 p.2 ((p.2.length : Int) - 1)).f1) (a := erl th cl a0 a1 (lastA p.2)) (Ev.congr (fun k => by rw [rearly_some, ← hla]) (Ev.now _)) ?_
      cases hr : erl th cl a0 a1 (lastA p.2) with
      | true => rw [hr, if_pos rfl] at hq; rw [hq]; exact Ev.ite_pos rfl (Ev.now _)
      | false => rw [hr, if_neg (by decide)] at hq; rw [hq]; exact Ev.ite_neg (by decide) (Ev.ite_pos (by omega) (Ev.now _))
  · rw [if_neg he] at hq
    rw [hq]
    exact Ev.ite_neg he (Ev.now _)
theorem perf_inv {th cl : Int} {p : Int × List S35} {a : S35} (hi : p.2.length = 0 → p.1 = 0) : (perfS th cl p a).2.length = 0 → (perfS th cl p a).1 = 0 := by
  unfold perfS
  split
  · split
    · exact hi
    · simp
  · exact hi
theorem stop_inv {th cl : Int} {p : Int × List S35} {t : Int} (hi : p.2.length = 0 → p.1 = 0) : (stopS th cl p t).2.length = 0 → (stopS th cl p t).1 = 0 := perf_inv (perf_inv hi)
def fins (p : Int × List S35) : List S35 × Int := if 512 < p.2.length then ([], 8) else (p.2, 0)
theorem two_tries (th cl : Int) (p : Int × List S35) (t : Int) (hi : p.2.length = 0 → p.1 = 0) (hl : p.2.length < 4000) {g : Nat → List S35 × Int → Option (List S35 × Int)} {r : List S35 × Int} (h : Ev (fun k => g k ((stopS th cl p t).2, (stopS th cl p t).1)) r) :
    Ev (fun k => (papermillref30_Try.f k th cl p.2 p.1 5 t).bind fun b => (papermillref30_Try.f k th cl b.1 b.2 6 t).bind fun c => g k c) r := by
  refine Ev.bind (try_ev th cl p 5 t hi (by omega)) ?_
  have := perfS_len th cl p ⟨5, t⟩
  exact Ev.bind (try_ev th cl (perfS th cl p ⟨5, t⟩) 6 t (perf_inv hi) (by omega)) h
theorem l3_end (th cl : Int) (l1 : List S35) (l2 : List Int) (h1 : l1.length ≤ 512) (h2 : l2.length ≤ 512) : ∀ (d j : Nat) (p : Int × List S35), j + d = l2.length → (p.2.length = 0 → p.1 = 0) → p.2.length ≤ 512 + 2 * j →
    Ev (fun k => papermillref30_Stops.l3 k l1 l2 (j : Int) (l1.length : Int) th cl p.2 p.1) (fins (List.foldl (stopS th cl) p (l2.drop j))) := by
  intro d
  induction d with
  | zero =>
    intro j p hj hi hl
    rw [List.drop_eq_nil_of_le (by omega)]
    refine Ev.step (fun k => by rw [papermillref30_Stops.l3, if_neg (by omega)]) ?_
    refine Ev.step (fun k => by rw [papermillref30_Stops.j4, if_neg (by decide), if_neg (by omega), w1025 (by omega) (by omega)]) ?_
    refine Ev.step (fun k => by rw [papermillref30_Stops.l2, if_neg (by omega)]) ?_
    simp only [List.foldl_nil]
    unfold fins
    by_cases hc : 512 < p.2.length
    · rw [if_pos hc]; exact Ev.ite_pos (by omega) (Ev.now _)
    · rw [if_neg hc]; exact Ev.ite_neg (by omega) (Ev.now _)
  | succ d ih =>
    intro j p hj hi hl
    rw [rdi_drop l2 j (by omega), List.foldl_cons]
    refine Ev.step (fun k => by rw [papermillref30_Stops.l3, if_pos (by omega), if_pos rfl]) ?_
    refine Ev.step (fun k => by rw [papermillref30_Stops.j4, if_pos rfl, if_pos (by omega), if_pos (by omega), w1025 (by omega) (by omega)]) ?_
    refine two_tries th cl p (rd l2 (j : Int)) hi (by omega) (g := fun k c => papermillref30_Stops.l3 k l1 l2 ((j : Int) + 1) (l1.length : Int) th cl c.1 c.2) ?_
    have := ih (j + 1) (stopS th cl p (rd l2 (j : Int))) (by omega) (stop_inv hi) (by have := stopS_len th cl p (rd l2 (j : Int)); omega)
    exact_mod_cast this
theorem l3_mid (th cl : Int) (l1 : List S35) (l2 : List Int) (h1 : l1.length ≤ 512) (h2 : l2.length ≤ 512) (i : Nat) (hi1 : i < l1.length)
    (next : ∀ (j : Nat) (p : Int × List S35), j ≤ l2.length → (p.2.length = 0 → p.1 = 0) → p.2.length ≤ i + 1 + 2 * j → Ev (fun k => papermillref30_Stops.l2 k l1 l2 (j : Int) ((i : Int) + 1) th cl p.2 p.1) (fins (runS th cl (l1.drop (i + 1)) (l2.drop j) p))) :
    ∀ (d j : Nat) (p : Int × List S35), j + d = l2.length → (p.2.length = 0 → p.1 = 0) → p.2.length ≤ i + 2 * j →
    Ev (fun k => papermillref30_Stops.l3 k l1 l2 (j : Int) (i : Int) th cl p.2 p.1) (fins (runS th cl (rd_T35 l1 (i : Int) :: l1.drop (i + 1)) (l2.drop j) p)) := by
  have go_on : ∀ (j : Nat) (p : Int × List S35), j ≤ l2.length → (p.2.length = 0 → p.1 = 0) → p.2.length ≤ i + 2 * j → adv th cl (rd_T35 l1 (i : Int)).f1 (l2.drop j) p = (l2.drop j, p) →
      Ev (fun k => papermillref30_Stops.j4 k l1 l2 (j : Int) (i : Int) false th cl p.2 p.1) (fins (runS th cl (rd_T35 l1 (i : Int) :: l1.drop (i + 1)) (l2.drop j) p)) := by
    intro j p hj hi hl ha
    simp only [runS]
    rw [ha]
    refine Ev.step (fun k => by rw [papermillref30_Stops.j4, if_neg (by decide), if_pos (by omega), if_pos (by omega), w1025 (by omega) (by omega)]) ?_
    refine Ev.bind (try_ev th cl p _ _ hi (by omega)) ?_
    exact next j (perfS th cl p (rd_T35 l1 (i : Int))) hj (perf_inv hi) (by have := perfS_len th cl p (rd_T35 l1 (i : Int)); omega)
  intro d
  induction d with
  | zero =>
    intro j p hj hi hl
    refine Ev.step (fun k => by rw [papermillref30_Stops.l3, if_neg (by omega)]) ?_
    exact go_on j p (by omega) hi hl (by rw [List.drop_eq_nil_of_le (by omega)]; rfl)
  | succ d ih =>
    intro j p hj hi hl
    refine Ev.step (fun k => by rw [papermillref30_Stops.l3, if_pos (by omega), if_neg (by omega), if_pos (by omega), if_pos (by omega), if_pos (by omega)]) ?_
    by_cases hc : rd l2 (j : Int) < (rd_T35 l1 (i : Int)).f1
    · rw [decide_eq_true hc]
      refine Ev.step (fun k => by rw [papermillref30_Stops.j4, if_pos rfl, if_pos (by omega), if_pos (by omega), w1025 (by omega) (by omega)]) ?_
      refine two_tries th cl p (rd l2 (j : Int)) hi (by omega) (g := fun k c => papermillref30_Stops.l3 k l1 l2 ((j : Int) + 1) (i : Int) th cl c.1 c.2) ?_
      have := ih (j + 1) (stopS th cl p (rd l2 (j : Int))) (by omega) (stop_inv hi) (by have := stopS_len th cl p (rd l2 (j : Int)); omega)
      rw [rdi_drop l2 j (by omega)]
      simp only [runS, adv] at this ⊢
      rw [if_pos hc]
      exact_mod_cast this
    · rw [decide_eq_false hc]
      exact go_on j p (by omega) hi hl (by rw [rdi_drop l2 j (by omega)]; simp only [adv]; rw [if_neg hc])
theorem l2_ev (th cl : Int) (l1 : List S35) (l2 : List Int) (h1 : l1.length ≤ 512) (h2 : l2.length ≤ 512) : ∀ (d i : Nat), i + d = l1.length → ∀ (j : Nat) (p : Int × List S35), j ≤ l2.length → (p.2.length = 0 → p.1 = 0) → p.2.length ≤ i + 2 * j →
    Ev (fun k => papermillref30_Stops.l2 k l1 l2 (j : Int) (i : Int) th cl p.2 p.1) (fins (runS th cl (l1.drop i) (l2.drop j) p)) := by
  intro d
  induction d with
  | zero =>
    intro i hi j p hj hp hl
    refine Ev.step (fun k => by rw [papermillref30_Stops.l2, if_pos (by omega)]) ?_
    obtain rfl : i = l1.length := by omega
    rw [List.drop_eq_nil_of_le (Nat.le_refl _)]
    exact l3_end th cl l1 l2 h1 h2 (l2.length - j) j p (by omega) hp (by omega)
  | succ d ih =>
    intro i hi j p hj hp hl
    refine Ev.step (fun k => by rw [papermillref30_Stops.l2, if_pos (by omega)]) ?_
    rw [rd_drop l1 i (by omega)]
    refine l3_mid th cl l1 l2 h1 h2 i (by omega) (fun j p a b c => ?_) (l2.length - j) j p (by omega) hp hl
    have := ih (i + 1) (by omega) j p a b c
    exact_mod_cast this
theorem rstops_ev (th cl : Int) (l1 : List S35) (l2 : List Int) : Ev (fun k => papermillref30_Stops.f k th cl l1 l2) (stp th cl (chk th cl l1) l1 l2) := by
  unfold papermillref30_Stops.f stp
  refine Ev.bind (rcheck_ev th cl l1) ?_
  by_cases h : chk th cl l1 = 0
  · rw [if_pos h]
    refine Ev.ite_pos h ?_
    obtain ⟨_, _, _, _, hl, hv⟩ := chk_zero h
    by_cases h2 : 512 < l2.length
    · rw [if_pos h2]
      exact Ev.ite_pos (by omega) (Ev.now _)
    · rw [if_neg h2]
      refine Ev.ite_neg (by omega) ?_
      -- the moments
      have e2 : ∀ (d j : Nat), j + d = l2.length → (∀ i, i < j → mom (rd l2 (i : Int)) = true) → Ev (fun k => papermillref30_Stops.l1 k l1 l2 (j : Int) th cl) (if ∀ j ∈ List.range l2.length, mom (rd l2 (j : Int)) = true then (if 512 < (runS th cl l1 l2 (0, [])).2.length then ([], 8) else ((runS th cl l1 l2 (0, [])).2, 0)) else ([], 1)) := by
        intro d
        induction d with
        | zero =>
          intro j hj hm
          rw [if_pos (fun i hi => hm i (by have := List.mem_range.1 hi; omega))]
          refine Ev.step (fun k => by rw [papermillref30_Stops.l1, if_neg (by omega)]) ?_
          exact l2_ev th cl l1 l2 hl (by omega) l1.length 0 (by omega) 0 (0, []) (Nat.zero_le _) (fun _ => rfl) (Nat.le_refl _)
        | succ d ih =>
          intro j hj hm
          refine Ev.step (fun k => by rw [papermillref30_Stops.l1, if_pos (by omega), if_pos (by omega)]) ?_
          cases hc : mom (rd l2 (j : Int)) with
          | false =>
            rw [if_neg (fun c => by have := c j (List.mem_range.2 (by omega)); rw [hc] at this; cases this)]
            by_cases h0 : rd l2 (j : Int) < 0
            · exact Ev.ite_pos h0 (Ev.now _)
            · refine Ev.ite_neg h0 (Ev.ite_pos ?_ (Ev.now _))
              unfold mom at hc
              rw [if_pos (by omega)] at hc
              have := of_decide_eq_false hc
              omega
          | true =>
            have hb := mom_bd hc
            refine Ev.ite_neg (by omega) (Ev.ite_neg (by omega) ?_)
            rw [w1025 (by omega) (by omega)]
            have := ih (j + 1) (by omega) (fun i hi => by
              by_cases hij : i < j
              · exact hm i hij
              · obtain rfl : i = j := by omega
                exact hc)
            exact_mod_cast this
      have e1 : ∀ (d j : Nat), j + d = l2.length → 1 ≤ j → (∀ i, 1 ≤ i → i < j → rd l2 ((i - 1 : Nat) : Int) ≤ rd l2 (i : Int)) → Ev (fun k => papermillref30_Stops.l0 k l1 l2 (j : Int) th cl) (if ∀ j ∈ List.range l2.length, 1 ≤ j → rd l2 ((j - 1 : Nat) : Int) ≤ rd l2 (j : Int) then (if ∀ j ∈ List.range l2.length, mom (rd l2 (j : Int)) = true then (if 512 < (runS th cl l1 l2 (0, [])).2.length then ([], 8) else ((runS th cl l1 l2 (0, [])).2, 0)) else ([], 1)) else ([], 9)) := by
        intro d
        induction d with
        | zero =>
          intro j hj h1 hm
          rw [if_pos (fun i hi h1 => hm i h1 (by have := List.mem_range.1 hi; omega))]
          refine Ev.step (fun k => by rw [papermillref30_Stops.l0, if_neg (by omega)]) ?_
          exact e2 l2.length 0 (by omega) (fun i hi => absurd hi (Nat.not_lt_zero _))
        | succ d ih =>
          intro j hj h1 hm
          have hw : wrap64 ((j : Int) - 1) = ((j - 1 : Nat) : Int) := by unfold wrap64; omega
          refine Ev.step (fun k => by rw [papermillref30_Stops.l0, if_pos (by omega), if_pos (by omega), hw, if_pos (by omega), if_pos (by omega)]) ?_
          by_cases hc : rd l2 (j : Int) < rd l2 ((j - 1 : Nat) : Int)
          · rw [if_neg (fun c => by have := c j (List.mem_range.2 (by omega)) h1; omega)]
            exact Ev.ite_pos hc (Ev.now _)
          · refine Ev.ite_neg hc ?_
            rw [w1025 (by omega) (by omega)]
            have := ih (j + 1) (by omega) (by omega) (fun i hi h => by
              by_cases hij : i < j
              · exact hm i hi hij
              · obtain rfl : i = j := by omega
                omega)
            exact_mod_cast this
      by_cases hz : l2.length = 0
      · rw [if_pos (fun i hi => by have := List.mem_range.1 hi; omega)]
        refine Ev.step (fun k => by rw [papermillref30_Stops.l0, if_neg (by omega)]) ?_
        exact e2 l2.length 0 (by omega) (fun i hi => absurd hi (Nat.not_lt_zero _))
      · exact e1 (l2.length - 1) 1 (by omega) (Nat.le_refl _) (fun i a b => by omega)
  · rw [if_neg h]
    exact Ev.ite_neg h (Ev.now _)
theorem same_acts (p : List S35) (hl : p.length ≤ 512) : Ev (fun k => papermilllaw30_acts.f k p p) true := by
  unfold papermilllaw30_acts.f
  refine Ev.ite_pos rfl ?_
  have : ∀ (d i : Nat), i + d = p.length → Ev (fun k => papermilllaw30_acts.l0 k p p (p.length : Int) (i : Int)) true := by
    intro d
    induction d with
    | zero => intro i hi; exact Ev.step (f := fun _ => some true) (fun k => by rw [papermilllaw30_acts.l0, if_neg (by omega)]) (Ev.now _)
    | succ d ih =>
      intro i hi
      refine Ev.step (fun k => by rw [papermilllaw30_acts.l0, if_pos (by omega), if_pos (by omega), if_pos (by omega), if_pos (by omega), if_neg (by simp), w1025 (by omega) (by omega)]) ?_
      exact_mod_cast ih (i + 1) (by omega)
  exact_mod_cast this p.length 0 (by omega)
end Go.Proofs.Ytoncjfgklaldnaa.MSpec
