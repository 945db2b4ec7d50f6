/- In valid acts each ActReady follows ActThread directly, at least Thread seconds later, and State is Threading from the one to the other; no condition. -/
import Derived.Test.YtoncjfgklaldnaaMSpec0
import Derived.Test.YtoncjfgklaldnaaPXx12
namespace Go.Proofs.Ytoncjfgklaldnaa.Pure
open Go.RowKit Go.Proofs.Ytoncjfgklaldnaa.PX Go.Proofs.Ytoncjfgklaldnaa.MSpec Go.Proofs.YtoncjfgklaldnaaW.PrintWords Go.Proofs.YtoncjfgklaldnaaW.PrintLast
theorem threads_ev (th cl : Int) (l : List S35) (hc : chk th cl l = 0) : ∀ (d i : Nat), i + d = l.length → Ev (fun k => papermilllaw30_MachineThreads.l0 k l (l.length : Int) (i : Int) th cl) true := by
  obtain ⟨ht0, ht1, _, _, hl, hv⟩ := chk_zero hc
  intro d
  induction d with
  | zero =>
    intro i hi
    refine Ev.step (fun k => by rw [papermilllaw30_MachineThreads.l0, if_neg (by omega)]) ?_
    exact Ev.bind awake_ev (Ev.now _)
  | succ d ih =>
    intro i hi
    have next : Ev (fun k => papermilllaw30_MachineThreads.l0 k l (l.length : Int) (wrap64 ((i : Int) + 1)) th cl) true := by
      rw [PX.wrap_small (by omega) (by omega)]
      have := ih (i + 1) (by omega)
      exact_mod_cast this
    refine Ev.step (fun k => by rw [papermilllaw30_MachineThreads.l0, if_pos (by omega), if_pos (by omega), if_pos (by omega)]) ?_
    by_cases h2 : (rd_T35 l (i : Int)).f0 = 2
    · refine Ev.ite_pos h2 ?_
      have hva := valid_at hv i (by omega)
      rw [rd_drop l i (by omega)] at hva
      obtain ⟨hm, hb, he, hr, hw⟩ := wk_cons hva
      rw [h2] at he hr
      have hs := nx_ready he
      have hi0 : i ≠ 0 := by
        intro c
        subst c
        simp [stA] at hs
      obtain ⟨j, rfl⟩ : ∃ j, i = j + 1 := ⟨i - 1, by omega⟩
      have hwr : wrap64 (((j + 1 : Nat) : Int) - 1) = (j : Int) := by unfold wrap64; omega
      rw [bef_succ] at hb hr
      have hvj := valid_at hv j (by omega)
      rw [rd_drop l j (by omega)] at hvj
      obtain ⟨hmj, hbj, hej, _, _⟩ := wk_cons hvj
      have hk1 : (rd_T35 l (j : Int)).f0 = 1 := by
        rw [take_rd l j (by omega)] at hs
        unfold stA at hs hej
        rw [List.foldl_append] at hs
        exact nx_one (Prod.ext hs hej)
      have bj := mom_bd hmj
      have bi := mom_bd hm
      have her : ¬ (rd_T35 l ((j + 1 : Nat) : Int)).f1 < wrap64 ((rd_T35 l (j : Int)).f1 + th) := by
        unfold erl at hr
        rw [if_pos rfl] at hr
        exact of_decide_eq_false hr
      refine Ev.ite_neg (by omega) ?_
      rw [hwr]
      refine Ev.ite_pos (by omega) (Ev.ite_pos (by omega) (Ev.ite_pos hk1 ?_))
      rw [decide_eq_false her]
      refine Ev.step (fun k => by rw [papermilllaw30_MachineThreads.j1, if_neg (by decide), if_pos (by omega), if_pos (by omega), hwr, if_pos (by omega), if_pos (by omega)]) ?_
      by_cases heq : (rd_T35 l ((j + 1 : Nat) : Int)).f1 = (rd_T35 l (j : Int)).f1
      · exact Ev.ite_pos heq next
      · refine Ev.ite_neg heq ?_
        have h64 : wrap64 ((rd_T35 l ((j + 1 : Nat) : Int)).f1 - 1) = (rd_T35 l ((j + 1 : Nat) : Int)).f1 - 1 := by unfold wrap64; omega
        have hst : ∀ t : Int, (rd_T35 l (j : Int)).f1 ≤ t → t < (rd_T35 l ((j + 1 : Nat) : Int)).f1 → stt th cl l t = (1, 0) := by
          intro t h1 h2
          have hmt : mom t = true := by unfold mom; rw [if_pos (by omega), decide_eq_true (by omega)]
          unfold stt
          rw [if_pos hc, if_pos hmt, runT_at hv (j + 1) (by omega) (Or.inl (by rw [bef_succ]; exact h1)) (fun _ => h2), hs]
        have e1 := state_ev th cl l (rd_T35 l (j : Int)).f1
        have e2 := state_ev th cl l ((rd_T35 l ((j + 1 : Nat) : Int)).f1 - 1)
        rw [hst _ (by omega) (by omega)] at e1 e2
        rw [h64]
        exact Ev.bind e1 (Ev.bind e2 (Ev.ite_pos rfl (Ev.ite_pos rfl (Ev.ite_pos rfl (Ev.ite_pos rfl next)))))
    · exact Ev.ite_neg h2 next
theorem MachineThreads : papermilllaw30_MachineThreads.Pure := by
  intro th cl l _ _ _
  refine Ev.rounds ?_
  unfold papermilllaw30_MachineThreads.f
  refine Ev.bind (check_ev th cl l) ?_
  by_cases h : chk th cl l = 0
  · refine Ev.ite_pos h ?_
    have := threads_ev th cl l h l.length 0 (by omega)
    exact_mod_cast this
  · exact Ev.ite_neg h (Ev.bind awake_ev (Ev.now _))

end Go.Proofs.Ytoncjfgklaldnaa.Pure
