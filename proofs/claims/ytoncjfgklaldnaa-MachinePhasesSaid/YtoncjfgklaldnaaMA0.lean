import Derived.Test.YtoncjfgklaldnaaPXx8
namespace Go.Proofs.Ytoncjfgklaldnaa.MSpec
set_option linter.unusedVariables false
set_option linter.unusedSimpArgs false
open Go.RowKit Go.Proofs.Ytoncjfgklaldnaa.PX Go.Proofs.YtoncjfgklaldnaaW.PrintWords Go.Proofs.YtoncjfgklaldnaaW.PrintLast
theorem awake_ev : Ev (fun k => papermilllaw30_awake.f k) true := Ev.of (fun k => papermilllaw30_awake.mono k) (k := 12) (by decide +kernel)
theorem next_ev (s a : Int) : Ev (fun k => machine_Next.f k s a) (nx s a) := Ev.of (fun k => machine_Next.mono s a k) (k := 1) (next_some 0 s a)
theorem check_ev (th cl : Int) (l : List S35) : Ev (fun k => machine_Check.f k th cl l) (chk th cl l) := by
  obtain ⟨k, h⟩ := chk_ev th cl l
  exact Ev.of (fun k => machine_Check.mono th cl l k) h
theorem Ev.ite_pos {α : Type} {c : Prop} [Decidable c] {g f : Nat → Option α} {r : α} (hc : c) (h : Ev g r) : Ev (fun k => if c then g k else f k) r := Ev.congr (fun k => if_pos hc) h
theorem Ev.ite_neg {α : Type} {c : Prop} [Decidable c] {g f : Nat → Option α} {r : α} (hc : ¬ c) (h : Ev f r) : Ev (fun k => if c then g k else f k) r := Ev.congr (fun k => if_neg hc) h
/-- State's answer. -/
def stt (th cl : Int) (l : List S35) (t : Int) : Int × Int := sto (chk th cl l) l t
theorem state_ev (th cl : Int) (l : List S35) (t : Int) : Ev (fun k => machine_State.f k th cl l t) (stt th cl l t) := by
  unfold machine_State.f stt
  exact Ev.bind (check_ev th cl l) (Ev.now _)
/-- The acts of valid acts lie in order. -/
theorem wk_late (th cl : Int) : ∀ (l : List S35) (s b : Int), wk th cl l s b = 0 → ∀ x ∈ l, b ≤ x.f1 := by
  intro l
  induction l with
  | nil => intro s b _ x hx; cases hx
  | cons y l ih =>
    intro s b h x hx
    obtain ⟨_, hb, _, _, hw⟩ := wk_cons h
    rcases List.mem_cons.1 hx with rfl | hx
    · omega
    · have := ih _ _ hw x hx; omega
/-! ### acts, one after the other -/
/-- The state behind acts. -/
def stA (l : List S35) (s : Int) : Int := List.foldl (fun s x => (nx s x.f0).1) s l
theorem take_rd (l : List S35) (i : Nat) (h : i < l.length) : l.take (i + 1) = l.take i ++ [rd_T35 l i] := by
  rw [List.take_succ_eq_append_getElem h]
  congr 1
  unfold rd_T35
  rw [Int.toNat_natCast, List.getD_eq_getElem?_getD, List.getElem?_eq_getElem h]
  rfl
/-- The moment of the act before. -/
def bef (l : List S35) (i : Nat) : Int := if i = 0 then 0 else (rd_T35 l ((i - 1 : Nat) : Int)).f1
theorem bef_succ (l : List S35) (i : Nat) : bef l (i + 1) = (rd_T35 l (i : Int)).f1 := by unfold bef; rw [if_neg (by omega)]; rfl
theorem valid_at {th cl : Int} {l : List S35} (h : wk th cl l 0 0 = 0) : ∀ i, i ≤ l.length → wk th cl (l.drop i) (stA (l.take i) 0) (bef l i) = 0 := by
  intro i
  induction i with
  | zero => intro _; simpa [stA, bef] using h
  | succ i ih =>
    intro hi
    have h1 := ih (by omega)
    rw [rd_drop l i (by omega)] at h1
    obtain ⟨_, _, _, _, hw⟩ := wk_cons h1
    rw [take_rd l i (by omega), bef_succ]
    unfold stA at hw ⊢
    rw [List.foldl_append]
    exact hw
theorem rd_mem (l : List S35) (i : Nat) (h : i < l.length) : rd_T35 l (i : Int) ∈ l := by
  unfold rd_T35
  rw [Int.toNat_natCast, List.getD_eq_getElem?_getD, List.getElem?_eq_getElem h]
  exact List.getElem_mem h
theorem runT_stop {t : Int} {l : List S35} {s : Int} (h : ∀ x ∈ l, t < x.f1) : runTo t l s = s := by
  cases l with
  | nil => rfl
  | cons x l => simp only [runTo]; rw [if_neg (by have := h x List.mem_cons_self; omega)]
theorem runT_go {t : Int} (r : List S35) : ∀ (l : List S35) (s : Int), (∀ x ∈ l, x.f1 ≤ t) → runTo t (l ++ r) s = runTo t r (stA l s) := by
  intro l
  induction l with
  | nil => intro s _; rfl
  | cons x l ih =>
    intro s h
    simp only [List.cons_append, runTo]
    rw [if_pos (h x List.mem_cons_self), ih _ (fun y hy => h y (List.mem_cons_of_mem _ hy))]
    rfl
/-- The acts before an act are not later. -/
theorem early_le {th cl : Int} {l : List S35} (h : wk th cl l 0 0 = 0) (i : Nat) (hi : i ≤ l.length) : ∀ x ∈ l.take i, x.f1 ≤ bef l i := by
  induction i with
  | zero => intro x hx; simp at hx
  | succ i ih =>
    intro x hx
    rw [take_rd l i (by omega)] at hx
    have h1 := valid_at h i (by omega)
    rw [rd_drop l i (by omega)] at h1
    obtain ⟨_, hb, _⟩ := wk_cons h1
    rw [bef_succ]
    rcases List.mem_append.1 hx with hx | hx
    · have := ih (by omega) x hx; omega
    · rw [List.mem_singleton.1 hx]; exact Int.le_refl _
/-- The state at a moment between the act i - 1 and the act i. -/
theorem runT_at {th cl t : Int} {l : List S35} (h : wk th cl l 0 0 = 0) (i : Nat) (hi : i ≤ l.length) (h1 : bef l i ≤ t ∨ i = 0) (h2 : i < l.length → t < (rd_T35 l (i : Int)).f1) : runTo t l 0 = stA (l.take i) 0 := by
  have e : l = l.take i ++ l.drop i := (List.take_append_drop i l).symm
  conv => lhs; rw [e]
  rw [runT_go (l.drop i) (l.take i) 0 (fun x hx => by
    rcases h1 with h1 | h1
    · have := early_le h i hi x hx; omega
    · subst h1; simp at hx)]
  refine runT_stop (fun x hx => ?_)
  by_cases hlt : i < l.length
  · have hv := valid_at h i hi
    rw [rd_drop l i hlt] at hv hx
    obtain ⟨_, _, _, _, hw⟩ := wk_cons hv
    rcases List.mem_cons.1 hx with rfl | hx
    · exact h2 hlt
    · have := wk_late _ _ _ _ _ hw x hx; have := h2 hlt; omega
  · rw [List.drop_eq_nil_of_le (by omega)] at hx; cases hx
theorem nx_ready {s : Int} (h : (nx s 2).2 = 0) : s = 1 := by
  unfold nx at h
  split at h
  · simp at h
  · split at h
    · simp at h
    · rw [if_neg (by decide), if_pos rfl] at h
      split at h
      · assumption
      · simp at h
theorem nx_one {s a : Int} (h : nx s a = (1, 0)) : a = 1 := by
  unfold nx at h
  by_cases h0 : s < 0
  · rw [if_pos h0] at h; simp at h
  · rw [if_neg h0] at h
    by_cases h4 : s > 4
    · rw [if_pos h4] at h; simp at h
    · rw [if_neg h4] at h
      by_cases h1 : a = 1
      · exact h1
      · rw [if_neg h1] at h
        repeat' split at h
        all_goals simp at h
end Go.Proofs.Ytoncjfgklaldnaa.MSpec
