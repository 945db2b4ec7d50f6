import Derived.Test.YtoncjfgklaldnaaMA0
import Derived.Test.YtoncjfgklaldnaaPXx9
namespace Go.Proofs.Ytoncjfgklaldnaa.MSpec
set_option linter.unusedVariables false
set_option linter.unusedSimpArgs false
open Go.RowKit Go.Proofs.Ytoncjfgklaldnaa.PX Go.Proofs.YtoncjfgklaldnaaW.PrintWords Go.Proofs.YtoncjfgklaldnaaW.PrintLast
theorem rnext_some (k : Nat) (s a : Int) : papermillref30_Next.f (k + 8) s a = some (nx s a) := by
  unfold papermillref30_Next.f nx
  simp only [papermillref30_Next.j0]
  by_cases h0 : s < 0
  · simp [h0]
  · by_cases h4 : s > 4
    · simp [h0, h4]
    · simp only [h0, h4, if_false, decide_false, Bool.false_eq_true]
      by_cases h1 : a < 1
      · simp only [papermillref30_Next.j1, h1, if_true]
        repeat rw [if_neg (by omega)]
      · by_cases h6 : a > 6
        · simp only [papermillref30_Next.j1, h1, h6, if_false, decide_true, if_true]
          repeat rw [if_neg (by omega)]
        · simp only [papermillref30_Next.j1, h1, h6, if_false, decide_false, Bool.false_eq_true]
          have ha : a = 1 ∨ a = 2 ∨ a = 3 ∨ a = 4 ∨ a = 5 ∨ a = 6 := by omega
          have hs : s = 0 ∨ s = 1 ∨ s = 2 ∨ s = 3 ∨ s = 4 := by omega
          rcases ha with rfl | rfl | rfl | rfl | rfl | rfl <;> rcases hs with rfl | rfl | rfl | rfl | rfl <;> simp [papermillref30_Next.j2, papermillref30_Next.j3, papermillref30_Next.j4, papermillref30_Next.j5, papermillref30_Next.j6]
theorem rnext_ev (s a : Int) : Ev (fun k => papermillref30_Next.f k s a) (nx s a) := Ev.of (fun k => papermillref30_Next.mono s a k) (k := 8) (rnext_some 0 s a)
theorem rearly_some (th cl a0 a1 b : Int) : papermillref30_Early.f th cl a0 a1 b = some (erl th cl a0 a1 b) := by
  unfold papermillref30_Early.f erl
  by_cases h2 : a0 = 2
  · subst h2
    simp only [if_true]
    by_cases h : a1 < wrap64 (b + th)
    · simp [h]
    · simp [h]
  · simp only [h2, if_false]
    split <;> rfl
theorem rwalk_ev (th cl : Int) (l : List S35) (hl : l.length ≤ 512) : ∀ (d i : Nat) (s b : Int), i + d = l.length → (i = 0 → b = 0) → Ev (fun k => papermillref30_Check.l0 k l s b (i : Int) th cl) (wk th cl (l.drop i) s b) := by
  intro d
  induction d with
  | zero =>
    intro i s b hi h0
    refine Ev.step (f := fun _ => some 0) (fun k => ?_) ?_
    · rw [papermillref30_Check.l0, if_neg (by omega)]
    · rw [List.drop_eq_nil_of_le (by omega)]; exact Ev.now _
  | succ d ih =>
    intro i s b hi h0
    rw [rd_drop l i (by omega)]
    have hx : ∀ bad : Bool, (bad = true ↔ mom (rd_T35 l (i : Int)).f1 = false) → Ev (fun k => papermillref30_Check.j2 k l s b (i : Int) bad th cl (rd_T35 l (i : Int)).f0 (rd_T35 l (i : Int)).f1) (wk th cl (rd_T35 l (i : Int) :: l.drop (i + 1)) s b) := by
      intro bad hb
      simp only [wk]
      cases bad with
      | true =>
        rw [if_pos (hb.1 rfl)]
        exact Ev.step (f := fun _ => some 1) (fun k => by rw [papermillref30_Check.j2, if_pos rfl]) (Ev.now _)
      | false =>
        have hm : mom (rd_T35 l (i : Int)).f1 = true := by
          cases hm : mom (rd_T35 l (i : Int)).f1 with
          | true => rfl
          | false => exact absurd (hb.2 hm) (by decide)
        rw [if_neg (by rw [hm]; decide)]
        have hj : ∀ late : Bool, (late = true ↔ (rd_T35 l (i : Int)).f1 < b) → Ev (fun k => papermillref30_Check.j3 k l s b (i : Int) late th cl (rd_T35 l (i : Int)).f0 (rd_T35 l (i : Int)).f1) (if (rd_T35 l (i : Int)).f1 < b then 9 else if (nx s (rd_T35 l (i : Int)).f0).2 = 0 then (if erl th cl (rd_T35 l (i : Int)).f0 (rd_T35 l (i : Int)).f1 b = true then 36 else wk th cl (l.drop (i + 1)) (nx s (rd_T35 l (i : Int)).f0).1 (rd_T35 l (i : Int)).f1) else (nx s (rd_T35 l (i : Int)).f0).2) := by
          intro late hlate
          cases late with
          | true =>
            rw [if_pos (hlate.1 rfl)]
            exact Ev.step (f := fun _ => some 9) (fun k => by rw [papermillref30_Check.j3, if_pos rfl]) (Ev.now _)
          | false =>
            rw [if_neg (fun c => absurd (hlate.2 c) (by decide))]
            refine Ev.step (fun k => by rw [papermillref30_Check.j3, if_neg (by decide)]) ?_
            refine Ev.bind (rnext_ev s _) ?_
            by_cases he : (nx s (rd_T35 l (i : Int)).f0).2 = 0
            · rw [if_pos he]
              refine Ev.ite_pos he ?_
              refine Ev.congr (f := fun k => if erl th cl (rd_T35 l (i : Int)).f0 (rd_T35 l (i : Int)).f1 b = true then some 36 else papermillref30_Check.l0 k l (nx s (rd_T35 l (i : Int)).f0).1 (rd_T35 l (i : Int)).f1 (wrap64 ((i : Int) + 1)) th cl) (fun k => by rw [rearly_some, Option.bind_some]) ?_
              cases hr : erl th cl (rd_T35 l (i : Int)).f0 (rd_T35 l (i : Int)).f1 b with
              | true => exact Ev.ite_pos rfl (Ev.now _)
              | false =>
                refine Ev.ite_neg (by decide) ?_
                rw [if_neg (by decide), PX.wrap_small (by omega) (by omega)]
                have := ih (i + 1) (nx s (rd_T35 l (i : Int)).f0).1 (rd_T35 l (i : Int)).f1 (by omega) (by omega)
                exact_mod_cast this
            · rw [if_neg he]
              exact Ev.ite_neg he (Ev.now _)
        have hmb := mom_bd hm
        refine Ev.step (fun k => by rw [papermillref30_Check.j2, if_neg (by decide)]) ?_
        by_cases hi0 : (i : Int) > 0
        · exact Ev.ite_pos hi0 (hj _ (by simp))
        · refine Ev.ite_neg hi0 (hj _ ?_)
          have := h0 (by omega)
          constructor
          · intro c; exact absurd c (by decide)
          · intro c; omega
    refine Ev.step (fun k => by rw [papermillref30_Check.l0, if_pos (by omega), if_pos (by omega)]) ?_
    by_cases hneg : (rd_T35 l (i : Int)).f1 < 0
    · refine Ev.ite_pos hneg (hx true ?_)
      have : mom (rd_T35 l (i : Int)).f1 = false := by unfold mom; rw [if_neg (by omega)]
      simp [this]
    · refine Ev.ite_neg hneg (hx _ ?_)
      unfold mom
      rw [if_pos (by omega)]
      simp
theorem rcheck_ev (th cl : Int) (l : List S35) : Ev (fun k => papermillref30_Check.f k th cl l) (chk th cl l) := by
  have hj : ∀ b : Bool, Ev (fun k => papermillref30_Check.j0 k l b th cl) (if b = true then 1 else if (l.length : Int) > 512 then 8 else wk th cl l 0 0) := by
    intro b
    refine Ev.step (fun k => by rw [papermillref30_Check.j0]) ?_
    cases b with
    | true => exact Ev.ite_pos rfl (Ev.now _)
    | false =>
      refine Ev.ite_neg (by decide) ?_
      rw [if_neg (by decide)]
      by_cases hl : (l.length : Int) > 512
      · rw [if_pos hl]; exact Ev.ite_pos hl (Ev.now _)
      · rw [if_neg hl]
        refine Ev.ite_neg hl ?_
        have := rwalk_ev th cl l (by omega) l.length 0 0 0 (by omega) (fun _ => rfl)
        exact_mod_cast this
  unfold papermillref30_Check.f chk
  by_cases h1 : th < 0
  · rw [if_pos h1]; exact Ev.ite_pos h1 (hj true)
  · rw [if_neg h1]; refine Ev.ite_neg h1 ?_
    by_cases h2 : th > 86400
    · rw [if_pos h2]; exact Ev.ite_pos h2 (hj true)
    · rw [if_neg h2]; refine Ev.ite_neg h2 ?_
      by_cases h3 : cl < 0
      · rw [if_pos h3]; exact Ev.ite_pos h3 (hj true)
      · rw [if_neg h3]; refine Ev.ite_neg h3 ?_
        have := hj (decide (cl > 86400))
        by_cases h4 : cl > 86400
        · rw [if_pos h4]; rw [decide_eq_true h4] at this ⊢; exact this
        · rw [if_neg h4]; rw [decide_eq_false h4] at this ⊢; exact this
end Go.Proofs.Ytoncjfgklaldnaa.MSpec
