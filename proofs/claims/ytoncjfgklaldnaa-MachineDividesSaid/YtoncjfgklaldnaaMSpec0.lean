import Derived.Test.YtoncjfgklaldnaaPXx9
import Derived.Test.YtoncjfgklaldnaaPXx11
namespace Go.Proofs.Ytoncjfgklaldnaa.MSpec
set_option linter.unusedVariables false
set_option linter.unusedSimpArgs false
open Go.RowKit Go.Proofs.Ytoncjfgklaldnaa.PX Go.Proofs.YtoncjfgklaldnaaW.PrintWords Go.Proofs.YtoncjfgklaldnaaW.PrintLast
theorem awake_ev : Ev (fun k => papermilllaw30_awake.f k) true := Ev.of (fun k => papermilllaw30_awake.mono k) (k := 12) (by decide +kernel)
theorem next_ev (s a : Int) : Ev (fun k => machine_Next.f k s a) (nx s a) := Ev.of (fun k => machine_Next.mono s a k) (k := 1) (next_some 0 s a)
theorem check_ev (th cl : Int) (l : List S35) : Ev (fun k => machine_Check.f k th cl l) (chk th cl l) := by
  obtain ⟨k, h⟩ := chk_ev th cl l
  exact Ev.of (fun k => machine_Check.mono th cl l k) h
theorem rnext_some (k : Nat) (s a : Int) : papermillref30_Next.f (k + 8) s a = some (nx s a) := by
  unfold papermillref30_Next.f nx
  simp only [papermillref30_Next.j0]
  by_cases h0 : s < 0
  · simp [h0]
  · by_cases h4 : s > 4
    · simp [h0, h4]
    · simp only [h0, h4, if_false, decide_false, Bool.false_eq_true]
      by_cases h1 : a < 1
      · simp only [papermillref30_Next.j1, h1, if_true]
        repeat rw [if_neg (by omega)]
      · by_cases h6 : a > 6
        · simp only [papermillref30_Next.j1, h1, h6, if_false, decide_true, if_true]
          repeat rw [if_neg (by omega)]
        · simp only [papermillref30_Next.j1, h1, h6, if_false, decide_false, Bool.false_eq_true]
          have ha : a = 1 ∨ a = 2 ∨ a = 3 ∨ a = 4 ∨ a = 5 ∨ a = 6 := by omega
          have hs : s = 0 ∨ s = 1 ∨ s = 2 ∨ s = 3 ∨ s = 4 := by omega
          rcases ha with rfl | rfl | rfl | rfl | rfl | rfl <;> rcases hs with rfl | rfl | rfl | rfl | rfl <;> simp [papermillref30_Next.j2, papermillref30_Next.j3, papermillref30_Next.j4, papermillref30_Next.j5, papermillref30_Next.j6]
theorem rnext_ev (s a : Int) : Ev (fun k => papermillref30_Next.f k s a) (nx s a) := Ev.of (fun k => papermillref30_Next.mono s a k) (k := 8) (rnext_some 0 s a)
theorem rearly_some (th cl a0 a1 b : Int) : papermillref30_Early.f th cl a0 a1 b = some (erl th cl a0 a1 b) := by
  unfold papermillref30_Early.f erl
  by_cases h2 : a0 = 2
  · subst h2
    simp only [if_true]
    by_cases h : a1 < wrap64 (b + th)
    · simp [h]
    · simp [h]
  · simp only [h2, if_false]
    split <;> rfl
theorem Ev.ite_pos {α : Type} {c : Prop} [Decidable c] {g f : Nat → Option α} {r : α} (hc : c) (h : Ev g r) : Ev (fun k => if c then g k else f k) r := Ev.congr (fun k => if_pos hc) h
theorem Ev.ite_neg {α : Type} {c : Prop} [Decidable c] {g f : Nat → Option α} {r : α} (hc : ¬ c) (h : Ev f r) : Ev (fun k => if c then g k else f k) r := Ev.congr (fun k => if_neg hc) h
theorem rwalk_ev (th cl : Int) (l : List S35) (hl : l.length ≤ 512) : ∀ (d i : Nat) (s b : Int), i + d = l.length → (i = 0 → b = 0) → Ev (fun k => papermillref30_Check.l0 k l s b (i : Int) th cl) (wk th cl (l.drop i) s b) := by
  intro d
  induction d with
  | zero =>
    intro i s b hi h0
    refine Ev.step (f := fun _ => some 0) (fun k => ?_) ?_
    · rw [papermillref30_Check.l0, if_neg (by omega)]
    · rw [List.drop_eq_nil_of_le (by omega)]; exact Ev.now _
  | succ d ih =>
    intro i s b hi h0
    rw [rd_drop l i (by omega)]
    have hx : ∀ bad : Bool, (bad = true ↔ mom (rd_T35 l (i : Int)).f1 = false) → Ev (fun k => papermillref30_Check.j2 k l s b (i : Int) bad th cl (rd_T35 l (i : Int)).f0 (rd_T35 l (i : Int)).f1) (wk th cl (rd_T35 l (i : Int) :: l.drop (i + 1)) s b) := by
      intro bad hb
      simp only [wk]
      cases bad with
      | true =>
        rw [if_pos (hb.1 rfl)]
        exact Ev.step (f := fun _ => some 1) (fun k => by rw [papermillref30_Check.j2, if_pos rfl]) (Ev.now _)
      | false =>
        have hm : mom (rd_T35 l (i : Int)).f1 = true := by
          cases hm : mom (rd_T35 l (i : Int)).f1 with
          | true => rfl
          | false => exact absurd (hb.2 hm) (by decide)
        rw [if_neg (by rw [hm]; decide)]
        have hj : ∀ late : Bool, (late = true ↔ (rd_T35 l (i : Int)).f1 < b) → Ev (fun k => papermillref30_Check.j3 k l s b (i : Int) late th cl (rd_T35 l (i : Int)).f0 (rd_T35 l (i : Int)).f1) (if (rd_T35 l (i : Int)).f1 < b then 9 else if (nx s (rd_T35 l (i : Int)).f0).2 = 0 then (if erl th cl (rd_T35 l (i : Int)).f0 (rd_T35 l (i : Int)).f1 b = true then 36 else wk th cl (l.drop (i + 1)) (nx s (rd_T35 l (i : Int)).f0).1 (rd_T35 l (i : Int)).f1) else (nx s (rd_T35 l (i : Int)).f0).2) := by
          intro late hlate
          cases late with
          | true =>
            rw [if_pos (hlate.1 rfl)]
            exact Ev.step (f := fun _ => some 9) (fun k => by rw [papermillref30_Check.j3, if_pos rfl]) (Ev.now _)
          | false =>
            rw [if_neg (fun c => absurd (hlate.2 c) (by decide))]
            refine Ev.step (fun k => by rw [papermillref30_Check.j3, if_neg (by decide)]) ?_
            refine Ev.bind (rnext_ev s _) ?_
            by_cases he : (nx s (rd_T35 l (i : Int)).f0).2 = 0
            · rw [if_pos he]
              refine Ev.ite_pos he ?_
              refine Ev.congr (f := fun k => if erl th cl (rd_T35 l (i : Int)).f0 (rd_T35 l (i : Int)).f1 b = true then some 36 else papermillref30_Check.l0 k l (nx s (rd_T35 l (i : Int)).f0).1 (rd_T35 l (i : Int)).f1 (wrap64 ((i : Int) + 1)) th cl) (fun k => by rw [rearly_some, Option.bind_some]) ?_
              cases hr : erl th cl (rd_T35 l (i : Int)).f0 (rd_T35 l (i : Int)).f1 b with
              | true => exact Ev.ite_pos rfl (Ev.now _)
              | false =>
                refine Ev.ite_neg (by decide) ?_
                rw [if_neg (by decide), PX.wrap_small (by omega) (by omega)]
                have := ih (i + 1) (nx s (rd_T35 l (i : Int)).f0).1 (rd_T35 l (i : Int)).f1 (by omega) (by omega)
                exact_mod_cast this
            · rw [if_neg he]
              exact Ev.ite_neg he (Ev.now _)
        have hmb := mom_bd hm
        refine Ev.step (fun k => by rw [papermillref30_Check.j2, if_neg (by decide)]) ?_
        by_cases hi0 : (i : Int) > 0
        · exact Ev.ite_pos hi0 (hj _ (by simp))
        · refine Ev.ite_neg hi0 (hj _ ?_)
          have := h0 (by omega)
          constructor
          · intro c; exact absurd c (by decide)
          · intro c; omega
    refine Ev.step (fun k => by rw [papermillref30_Check.l0, if_pos (by omega), if_pos (by omega)]) ?_
    by_cases hneg : (rd_T35 l (i : Int)).f1 < 0
    · refine Ev.ite_pos hneg (hx true ?_)
      have : mom (rd_T35 l (i : Int)).f1 = false := by unfold mom; rw [if_neg (by omega)]
      simp [this]
    · refine Ev.ite_neg hneg (hx _ ?_)
      unfold mom
      rw [if_pos (by omega)]
      simp
theorem rcheck_ev (th cl : Int) (l : List S35) : Ev (fun k => papermillref30_Check.f k th cl l) (chk th cl l) := by
  have hj : ∀ b : Bool, Ev (fun k => papermillref30_Check.j0 k l b th cl) (if b = true then 1 else if (l.length : Int) > 512 then 8 else wk th cl l 0 0) := by
    intro b
    refine Ev.step (fun k => by rw [papermillref30_Check.j0]) ?_
    cases b with
    | true => exact Ev.ite_pos rfl (Ev.now _)
    | false =>
      refine Ev.ite_neg (by decide) ?_
      rw [if_neg (by decide)]
      by_cases hl : (l.length : Int) > 512
      · rw [if_pos hl]; exact Ev.ite_pos hl (Ev.now _)
      · rw [if_neg hl]
        refine Ev.ite_neg hl ?_
        have := rwalk_ev th cl l (by omega) l.length 0 0 0 (by omega) (fun _ => rfl)
        exact_mod_cast this
  unfold papermillref30_Check.f chk
  by_cases h1 : th < 0
  · rw [if_pos h1]; exact Ev.ite_pos h1 (hj true)
  · rw [if_neg h1]; refine Ev.ite_neg h1 ?_
    by_cases h2 : th > 86400
    · rw [if_pos h2]; exact Ev.ite_pos h2 (hj true)
    · rw [if_neg h2]; refine Ev.ite_neg h2 ?_
      by_cases h3 : cl < 0
      · rw [if_pos h3]; exact Ev.ite_pos h3 (hj true)
      · rw [if_neg h3]; refine Ev.ite_neg h3 ?_
        have := hj (decide (cl > 86400))
        by_cases h4 : cl > 86400
        · rw [if_pos h4]; rw [decide_eq_true h4] at this ⊢; exact this
        · rw [if_neg h4]; rw [decide_eq_false h4] at this ⊢; exact this
/-- The state after the acts that are at most at t. -/
def runT (t : Int) : List S35 → Int → Int
  | [], s => s
  | x :: l, s => if x.f1 ≤ t then runT t l (nx s x.f0).1 else s
theorem walkS_ev (th cl t : Int) (l : List S35) (hl : l.length ≤ 512) : ∀ (d i : Nat) (s b : Int), i + d = l.length → wk th cl (l.drop i) s b = 0 → Ev (fun k => machine_walkS.l0 k s b 0 l (l.length : Int) (i : Int) th cl s t) (0, runT t (l.drop i) s) := by
  intro d
  induction d with
  | zero =>
    intro i s b hi hv
    refine Ev.step (f := fun _ => some (0, s)) (fun k => ?_) ?_
    · rw [machine_walkS.l0, if_neg (by omega)]
    · rw [List.drop_eq_nil_of_le (by omega)]; exact Ev.now _
  | succ d ih =>
    intro i s b hi hv
    rw [rd_drop l i (by omega)] at hv ⊢
    obtain ⟨hm, hb, he, hr, hw⟩ := wk_cons hv
    refine Ev.step (fun k => by rw [machine_walkS.l0, if_pos (by omega), if_pos (by omega), if_pos (by omega)]) ?_
    refine Ev.bind (next_ev s _) ?_
    refine Ev.congr (fun k => by rw [mom_some, Option.bind_some, hm, if_pos rfl, if_neg hb, if_pos he, erl_some, Option.bind_some, hr, if_neg (by decide)]) ?_
    simp only [runT]
    by_cases ht : (rd_T35 l (i : Int)).f1 ≤ t
    · rw [if_pos ht]
      refine Ev.ite_pos ht ?_
      rw [PX.wrap_small (by omega) (by omega)]
      have := ih (i + 1) _ _ (by omega) hw
      exact_mod_cast this
    · rw [if_neg ht]
      exact Ev.ite_neg ht (Ev.now _)
/-- State's answer. -/
def stt (th cl : Int) (l : List S35) (t : Int) : Int × Int := if chk th cl l = 0 then (if mom t = true then (runT t l 0, 0) else (0, 1)) else (0, chk th cl l)
theorem state_ev (th cl : Int) (l : List S35) (t : Int) : Ev (fun k => machine_State.f k th cl l t) (stt th cl l t) := by
  unfold machine_State.f stt
  refine Ev.bind (check_ev th cl l) ?_
  by_cases h : chk th cl l = 0
  · rw [if_pos h]
    refine Ev.ite_pos h ?_
    refine Ev.congr (fun k => by rw [mom_some, Option.bind_some]) ?_
    cases hm : mom t with
    | false => rw [if_neg (by decide)]; exact Ev.ite_neg (by decide) (Ev.now _)
    | true =>
      rw [if_pos rfl]
      refine Ev.ite_pos rfl ?_
      obtain ⟨_, _, _, _, hl, hv⟩ := chk_zero h
      have := walkS_ev th cl t l hl l.length 0 0 0 (by omega) (by simpa using hv)
      refine Ev.bind (a := (0, runT t l 0)) ?_ (Ev.now _)
      unfold machine_walkS.f
      exact_mod_cast this
  · rw [if_neg h]
    exact Ev.ite_neg h (Ev.now _)
/-- The acts of valid acts lie in order. -/
theorem wk_late (th cl : Int) : ∀ (l : List S35) (s b : Int), wk th cl l s b = 0 → ∀ x ∈ l, b ≤ x.f1 := by
  intro l
  induction l with
  | nil => intro s b _ x hx; cases hx
  | cons y l ih =>
    intro s b h x hx
    obtain ⟨_, hb, _, _, hw⟩ := wk_cons h
    rcases List.mem_cons.1 hx with rfl | hx
    · omega
    · have := ih _ _ hw x hx; omega
theorem after_ev (t : Int) (l : List S35) (hl : l.length ≤ 512) : ∀ (d i : Nat) (s : Int), i + d = l.length → (∀ x ∈ l.drop i, t < x.f1) → Ev (fun k => papermillref30_After.l0 k l t s (i : Int)) s := by
  intro d
  induction d with
  | zero =>
    intro i s hi _
    exact Ev.step (f := fun _ => some s) (fun k => by rw [papermillref30_After.l0, if_neg (by omega)]) (Ev.now _)
  | succ d ih =>
    intro i s hi hx
    have hd := rd_drop l i (by omega)
    rw [hd] at hx
    refine Ev.step (fun k => by rw [papermillref30_After.l0, if_pos (by omega), if_pos (by omega), if_neg (by have := hx _ List.mem_cons_self; omega), PX.wrap_small (by omega) (by omega)]) ?_
    have := ih (i + 1) s (by omega) (fun x h => hx x (List.mem_cons_of_mem _ h))
    exact_mod_cast this
theorem rafter_ev (th cl t : Int) (l : List S35) (hl : l.length ≤ 512) : ∀ (d i : Nat) (s b : Int), i + d = l.length → wk th cl (l.drop i) s b = 0 → Ev (fun k => papermillref30_After.l0 k l t s (i : Int)) (runT t (l.drop i) s) := by
  intro d
  induction d with
  | zero =>
    intro i s b hi hv
    rw [List.drop_eq_nil_of_le (by omega)]
    exact Ev.step (f := fun _ => some s) (fun k => by rw [papermillref30_After.l0, if_neg (by omega)]) (Ev.now _)
  | succ d ih =>
    intro i s b hi hv
    have hd := rd_drop l i (by omega)
    rw [hd] at hv ⊢
    obtain ⟨hm, hb, he, hr, hw⟩ := wk_cons hv
    simp only [runT]
    by_cases ht : (rd_T35 l (i : Int)).f1 ≤ t
    · rw [if_pos ht]
      refine Ev.step (fun k => by rw [papermillref30_After.l0, if_pos (by omega), if_pos (by omega), if_pos ht, PX.wrap_small (by omega) (by omega)]) ?_
      refine Ev.bind (rnext_ev s _) ?_
      have := ih (i + 1) _ _ (by omega) hw
      exact_mod_cast this
    · rw [if_neg ht]
      have := after_ev t l hl (d + 1) i s hi (by
        rw [hd]
        intro x hx
        rcases List.mem_cons.1 hx with rfl | hx
        · omega
        · have := wk_late th cl _ _ _ hw x hx; omega)
      exact this
theorem rstate_ev (th cl : Int) (l : List S35) (t : Int) : Ev (fun k => papermillref30_State.f k th cl l t) (stt th cl l t) := by
  unfold papermillref30_State.f stt
  refine Ev.bind (rcheck_ev th cl l) ?_
  by_cases h : chk th cl l = 0
  · rw [if_pos h]
    refine Ev.ite_pos h ?_
    by_cases h0 : t < 0
    · have hm : mom t = false := by unfold mom; rw [if_neg (by omega)]
      rw [hm, if_neg (by decide)]
      exact Ev.ite_pos h0 (Ev.now _)
    · refine Ev.ite_neg h0 ?_
      by_cases h1 : t > 2147483647
      · have hm : mom t = false := by unfold mom; rw [if_pos (by omega), decide_eq_false (by omega)]
        rw [hm, if_neg (by decide)]
        exact Ev.ite_pos h1 (Ev.now _)
      · have hm : mom t = true := by unfold mom; rw [if_pos (by omega), decide_eq_true (by omega)]
        rw [hm, if_pos rfl]
        refine Ev.ite_neg h1 ?_
        obtain ⟨_, _, _, _, hl, hv⟩ := chk_zero h
        have := rafter_ev th cl t l hl l.length 0 0 0 (by omega) (by simpa using hv)
        refine Ev.bind (a := runT t l 0) ?_ (Ev.now _)
        unfold papermillref30_After.f
        exact_mod_cast this
  · rw [if_neg h]
    exact Ev.ite_neg h (Ev.now _)
/-! ### acts, one after the other -/
/-- The state behind acts. -/
def stA (l : List S35) (s : Int) : Int := List.foldl (fun s x => (nx s x.f0).1) s l
theorem take_rd (l : List S35) (i : Nat) (h : i < l.length) : l.take (i + 1) = l.take i ++ [rd_T35 l i] := by
  rw [List.take_succ_eq_append_getElem h]
  congr 1
  unfold rd_T35
  rw [Int.toNat_natCast, List.getD_eq_getElem?_getD, List.getElem?_eq_getElem h]
  rfl
/-- The moment of the act before. -/
def bef (l : List S35) (i : Nat) : Int := if i = 0 then 0 else (rd_T35 l ((i - 1 : Nat) : Int)).f1
theorem bef_succ (l : List S35) (i : Nat) : bef l (i + 1) = (rd_T35 l (i : Int)).f1 := by unfold bef; rw [if_neg (by omega)]; rfl
theorem valid_at {th cl : Int} {l : List S35} (h : wk th cl l 0 0 = 0) : ∀ i, i ≤ l.length → wk th cl (l.drop i) (stA (l.take i) 0) (bef l i) = 0 := by
  intro i
  induction i with
  | zero => intro _; simpa [stA, bef] using h
  | succ i ih =>
    intro hi
    have h1 := ih (by omega)
    rw [rd_drop l i (by omega)] at h1
    obtain ⟨_, _, _, _, hw⟩ := wk_cons h1
    rw [take_rd l i (by omega), bef_succ]
    unfold stA at hw ⊢
    rw [List.foldl_append]
    exact hw
theorem rd_mem (l : List S35) (i : Nat) (h : i < l.length) : rd_T35 l (i : Int) ∈ l := by
  unfold rd_T35
  rw [Int.toNat_natCast, List.getD_eq_getElem?_getD, List.getElem?_eq_getElem h]
  exact List.getElem_mem h
theorem runT_stop {t : Int} {l : List S35} {s : Int} (h : ∀ x ∈ l, t < x.f1) : runT t l s = s := by
  cases l with
  | nil => rfl
  | cons x l => simp only [runT]; rw [if_neg (by have := h x List.mem_cons_self; omega)]
theorem runT_go {t : Int} (r : List S35) : ∀ (l : List S35) (s : Int), (∀ x ∈ l, x.f1 ≤ t) → runT t (l ++ r) s = runT t r (stA l s) := by
  intro l
  induction l with
  | nil => intro s _; rfl
  | cons x l ih =>
    intro s h
    simp only [List.cons_append, runT]
    rw [if_pos (h x List.mem_cons_self), ih _ (fun y hy => h y (List.mem_cons_of_mem _ hy))]
    rfl
/-- The acts before an act are not later. -/
theorem early_le {th cl : Int} {l : List S35} (h : wk th cl l 0 0 = 0) (i : Nat) (hi : i ≤ l.length) : ∀ x ∈ l.take i, x.f1 ≤ bef l i := by
  induction i with
  | zero => intro x hx; simp at hx
  | succ i ih =>
    intro x hx
    rw [take_rd l i (by omega)] at hx
    have h1 := valid_at h i (by omega)
    rw [rd_drop l i (by omega)] at h1
    obtain ⟨_, hb, _⟩ := wk_cons h1
    rw [bef_succ]
    rcases List.mem_append.1 hx with hx | hx
    · have := ih (by omega) x hx; omega
    · rw [List.mem_singleton.1 hx]; exact Int.le_refl _
/-- The state at a moment between the act i - 1 and the act i. -/
theorem runT_at {th cl t : Int} {l : List S35} (h : wk th cl l 0 0 = 0) (i : Nat) (hi : i ≤ l.length) (h1 : bef l i ≤ t ∨ i = 0) (h2 : i < l.length → t < (rd_T35 l (i : Int)).f1) : runT t l 0 = stA (l.take i) 0 := by
  have e : l = l.take i ++ l.drop i := (List.take_append_drop i l).symm
  conv => lhs; rw [e]
  rw [runT_go (l.drop i) (l.take i) 0 (fun x hx => by
    rcases h1 with h1 | h1
    · have := early_le h i hi x hx; omega
    · subst h1; simp at hx)]
  refine runT_stop (fun x hx => ?_)
  by_cases hlt : i < l.length
  · have hv := valid_at h i hi
    rw [rd_drop l i hlt] at hv hx
    obtain ⟨_, _, _, _, hw⟩ := wk_cons hv
    rcases List.mem_cons.1 hx with rfl | hx
    · exact h2 hlt
    · have := wk_late _ _ _ _ _ hw x hx; have := h2 hlt; omega
  · rw [List.drop_eq_nil_of_le (by omega)] at hx; cases hx
theorem nx_ready {s : Int} (h : (nx s 2).2 = 0) : s = 1 := by
  unfold nx at h
  split at h
  · simp at h
  · split at h
    · simp at h
    · rw [if_neg (by decide), if_pos rfl] at h
      split at h
      · assumption
      · simp at h
theorem nx_one {s a : Int} (h : nx s a = (1, 0)) : a = 1 := by
  unfold nx at h
  by_cases h0 : s < 0
  · rw [if_pos h0] at h; simp at h
  · rw [if_neg h0] at h
    by_cases h4 : s > 4
    · rw [if_pos h4] at h; simp at h
    · rw [if_neg h4] at h
      by_cases h1 : a = 1
      · exact h1
      · rw [if_neg h1] at h
        repeat' split at h
        all_goals simp at h
end Go.Proofs.Ytoncjfgklaldnaa.MSpec
