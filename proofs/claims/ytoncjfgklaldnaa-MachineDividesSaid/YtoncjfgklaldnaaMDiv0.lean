import Derived.Test.YtoncjfgklaldnaaMSpec0
import Derived.Test.YtoncjfgklaldnaaPXx16
namespace Go.Proofs.Ytoncjfgklaldnaa.MSpec
set_option linter.unusedVariables false
set_option linter.unusedSimpArgs false
open Go.RowKit Go.Proofs.Ytoncjfgklaldnaa.PX Go.Proofs.YtoncjfgklaldnaaW.PrintWords Go.Proofs.YtoncjfgklaldnaaW.PrintLast
theorem phases_ev (th cl : Int) (l : List S35) (e : Int) : Ev (fun k => machine_Phases.f k th cl l e) (phs (chk th cl l) l e) := by
  unfold machine_Phases.f
  exact Ev.bind (check_ev th cl l) (Ev.now _)
theorem rd_last (l : List S35) (h : 0 < l.length) : bef l l.length = (rd_T35 l ((l.length : Int) - 1)).f1 := by
  unfold bef
  rw [if_neg (by omega)]
  congr 2
  omega
/-- The fold of Phases, from the act i on. -/
theorem rl1_ev (l : List S35) (e : Int) (hl : l.length ≤ 512) : ∀ (d i : Nat) (st fr to_ : Int) (out : List S54), i + d = l.length → out.length ≤ i →
    Ev (fun k => papermillref30_Phases.l1 k l e out (i : Int) st fr to_) (turnS e (List.foldl pstep (st, fr, out) (l.drop i)).1 (List.foldl pstep (st, fr, out) (l.drop i)).2.1 (List.foldl pstep (st, fr, out) (l.drop i)).2.2, 0) := by
  intro d
  induction d with
  | zero =>
    intro i st fr to_ out hi ho
    rw [List.drop_eq_nil_of_le (by omega)]
    simp only [List.foldl_nil]
    refine Ev.step (fun k => by rw [papermillref30_Phases.l1, if_pos (by omega), if_neg (by omega)]) ?_
    refine Ev.step (fun k => by rw [papermillref30_Phases.j3]) ?_
    have fin : ∀ out' : List S54, Ev (fun k => papermillref30_Phases.l1 k l e out' (wrap64 ((i : Int) + 1)) st fr e) (out', 0) := by
      intro out'
      rw [PX.wrap_small (by omega) (by omega)]
      exact Ev.step (f := fun _ => some (out', 0)) (fun k => by rw [papermillref30_Phases.l1, if_neg (by omega)]) (Ev.now _)
    unfold turnS
    by_cases hc : fr < e
    · rw [if_pos hc]
      refine Ev.ite_pos hc (Ev.ite_pos (by omega) ?_)
      refine Ev.bind (g := fun _ => some (out ++ [(⟨st, fr, e⟩ : S54)])) (Ev.now _) (Ev.ite_neg (by omega) (fin _))
    · rw [if_neg hc]
      exact Ev.ite_neg hc (Ev.ite_neg (by omega) (fin _))
  | succ d ih =>
    intro i st fr to_ out hi ho
    rw [rd_drop l i (by omega)]
    simp only [List.foldl_cons]
    refine Ev.step (fun k => by rw [papermillref30_Phases.l1, if_pos (by omega), if_pos (by omega), if_pos (by omega)]) ?_
    refine Ev.step (fun k => by rw [papermillref30_Phases.j3]) ?_
    have next := ih (i + 1) (nx st (rd_T35 l (i : Int)).f0).1 (rd_T35 l (i : Int)).f1 (rd_T35 l (i : Int)).f1 (turnS (rd_T35 l (i : Int)).f1 st fr out) (by omega) (by have := turnS_len (rd_T35 l (i : Int)).f1 st fr out; omega)
    rw [show (((i + 1 : Nat)) : Int) = wrap64 ((i : Int) + 1) by rw [PX.wrap_small (by omega) (by omega)]; omega] at next
    show Ev _ (turnS e (List.foldl pstep (_, _, turnS (rd_T35 l (i : Int)).f1 st fr out) (l.drop (i + 1))).1 (List.foldl pstep (_, _, turnS (rd_T35 l (i : Int)).f1 st fr out) (l.drop (i + 1))).2.1 (List.foldl pstep (_, _, turnS (rd_T35 l (i : Int)).f1 st fr out) (l.drop (i + 1))).2.2, 0)
    by_cases hc : fr < (rd_T35 l (i : Int)).f1
    · refine Ev.ite_pos hc (Ev.ite_pos (by omega) ?_)
      have ht : turnS (rd_T35 l (i : Int)).f1 st fr out = out ++ [(⟨st, fr, (rd_T35 l (i : Int)).f1⟩ : S54)] := if_pos hc
      rw [ht] at next ⊢
      exact Ev.bind (g := fun _ => some (out ++ [(⟨st, fr, (rd_T35 l (i : Int)).f1⟩ : S54)])) (Ev.now _) (Ev.ite_pos (by omega) (Ev.ite_pos (by omega) (Ev.bind (rnext_ev _ _) next)))
    · have ht : turnS (rd_T35 l (i : Int)).f1 st fr out = out := if_neg hc
      rw [ht] at next ⊢
      exact Ev.ite_neg hc (Ev.ite_pos (by omega) (Ev.ite_pos (by omega) (Ev.bind (rnext_ev _ _) next)))
theorem rl0_ev (l : List S35) (e : Int) (hl : l.length ≤ 512) (r : List S54 × Int) (hr : Ev (fun k => papermillref30_Phases.l1 k l e [] 0 0 0 0) r) : ∀ (d i : Nat), i + d = l.length →
    Ev (fun k => papermillref30_Phases.l0 k l e (i : Int)) (if ∃ x ∈ l.drop i, x.f1 ≥ e then ([], 37) else r) := by
  intro d
  induction d with
  | zero =>
    intro i hi
    rw [List.drop_eq_nil_of_le (by omega), if_neg (by simp)]
    exact Ev.step (fun k => by rw [papermillref30_Phases.l0, if_neg (by omega)]) hr
  | succ d ih =>
    intro i hi
    rw [rd_drop l i (by omega)]
    refine Ev.step (fun k => by rw [papermillref30_Phases.l0, if_pos (by omega), if_pos (by omega)]) ?_
    by_cases hc : (rd_T35 l (i : Int)).f1 ≥ e
    · rw [if_pos ⟨_, List.mem_cons_self, hc⟩]
      exact Ev.ite_pos hc (Ev.now _)
    · refine Ev.ite_neg hc ?_
      have next := ih (i + 1) (by omega)
      rw [show (((i + 1 : Nat)) : Int) = wrap64 ((i : Int) + 1) by rw [PX.wrap_small (by omega) (by omega)]; omega] at next
      have he : (∃ x ∈ rd_T35 l (i : Int) :: l.drop (i + 1), x.f1 ≥ e) ↔ ∃ x ∈ l.drop (i + 1), x.f1 ≥ e := by
        constructor
        · rintro ⟨x, hx, h⟩
          rcases List.mem_cons.1 hx with rfl | hx
          · exact absurd h hc
          · exact ⟨x, hx, h⟩
        · rintro ⟨x, hx, h⟩; exact ⟨x, List.mem_cons_of_mem _ hx, h⟩
      by_cases h2 : ∃ x ∈ l.drop (i + 1), x.f1 ≥ e
      · rw [if_pos (he.2 h2)]; rw [if_pos h2] at next; exact next
      · rw [if_neg (fun c => h2 (he.1 c))]; rw [if_neg h2] at next; exact next
/-- In valid acts none is later than the last one. -/
theorem late_iff {th cl e : Int} {l : List S35} (hv : wk th cl l 0 0 = 0) : (∃ x ∈ l, x.f1 ≥ e) ↔ (0 < l.length ∧ (rd_T35 l ((l.length : Int) - 1)).f1 ≥ e) := by
  constructor
  · rintro ⟨x, hx, h⟩
    have h0 : 0 < l.length := List.length_pos_of_mem hx
    refine ⟨h0, ?_⟩
    have := early_le hv l.length (Nat.le_refl _) x (by rw [List.take_length]; exact hx)
    rw [rd_last l h0] at this
    omega
  · rintro ⟨h0, h⟩
    refine ⟨_, ?_, h⟩
    have := rd_mem l (l.length - 1) (by omega)
    rw [show ((l.length - 1 : Nat) : Int) = (l.length : Int) - 1 by omega] at this
    exact this
theorem rphases_ev (th cl : Int) (l : List S35) (e : Int) : Ev (fun k => papermillref30_Phases.f k th cl l e) (phs (chk th cl l) l e) := by
  unfold papermillref30_Phases.f phs
  refine Ev.bind (rcheck_ev th cl l) ?_
  by_cases h : chk th cl l = 0
  · rw [if_pos h]
    refine Ev.ite_pos h ?_
    obtain ⟨_, _, _, _, hl, hv⟩ := chk_zero h
    by_cases h0 : e < 0
    · rw [if_pos h0]
      exact Ev.ite_pos h0 (Ev.step (f := fun _ => some ([], 1)) (fun k => by rw [papermillref30_Phases.j0, if_pos rfl]) (Ev.now _))
    · rw [if_neg h0]
      refine Ev.ite_neg h0 ?_
      by_cases h1 : e > 2147483648
      · rw [if_pos h1, decide_eq_true h1]
        exact Ev.step (f := fun _ => some ([], 1)) (fun k => by rw [papermillref30_Phases.j0, if_pos rfl]) (Ev.now _)
      · rw [if_neg h1, decide_eq_false h1]
        refine Ev.step (fun k => by rw [papermillref30_Phases.j0, if_neg (by decide)]) ?_
        have b := rl1_ev l e hl l.length 0 0 0 0 [] (by omega) (Nat.le_refl _)
        rw [List.drop_zero] at b
        have a := rl0_ev l e hl _ b l.length 0 (by omega)
        rw [List.drop_zero] at a
        by_cases h2 : 0 < l.length ∧ (rd_T35 l ((l.length : Int) - 1)).f1 ≥ e
        · rw [if_pos h2]; rw [if_pos ((late_iff hv).2 h2)] at a; exact a
        · rw [if_neg h2]; rw [if_neg (fun c => h2 ((late_iff hv).1 c))] at a; exact a
  · rw [if_neg h]
    exact Ev.ite_neg h (Ev.now _)
/-! ### the sums -/
theorem nx_range (s a : Int) : 0 ≤ (nx s a).1 ∧ (nx s a).1 ≤ 4 := by
  unfold nx
  repeat' split
  all_goals (simp only; omega)
theorem turnS_mem {a s f : Int} {out : List S54} (h : ∀ x ∈ out, 0 ≤ x.f0 ∧ x.f0 ≤ 4) (hs : 0 ≤ s ∧ s ≤ 4) : ∀ x ∈ turnS a s f out, 0 ≤ x.f0 ∧ x.f0 ≤ 4 := by
  unfold turnS
  split
  · intro x hx
    rcases List.mem_append.1 hx with hx | hx
    · exact h x hx
    · rw [List.mem_singleton.1 hx]; exact hs
  · exact h
theorem pfold_mem (l : List S35) : ∀ p : Int × Int × List S54, (0 ≤ p.1 ∧ p.1 ≤ 4) → (∀ x ∈ p.2.2, 0 ≤ x.f0 ∧ x.f0 ≤ 4) → (0 ≤ (List.foldl pstep p l).1 ∧ (List.foldl pstep p l).1 ≤ 4) ∧ ∀ x ∈ (List.foldl pstep p l).2.2, 0 ≤ x.f0 ∧ x.f0 ≤ 4 := by
  induction l with
  | nil => intro p h1 h2; exact ⟨h1, h2⟩
  | cons x l ih =>
    intro p h1 h2
    exact ih (pstep p x) (nx_range _ _) (turnS_mem h2 h1)
theorem phs_mem (c : Int) (l : List S35) (e : Int) : (∀ x ∈ (phs c l e).1, 0 ≤ x.f0 ∧ x.f0 ≤ 4) ∧ (phs c l e).1.length ≤ l.length + 1 := by
  unfold phs
  split
  · split
    · exact ⟨fun x hx => (List.not_mem_nil hx).elim, by simp⟩
    · split
      · exact ⟨fun x hx => (List.not_mem_nil hx).elim, by simp⟩
      · split
        · exact ⟨fun x hx => (List.not_mem_nil hx).elim, by simp⟩
        · have h := pfold_mem l (0, 0, []) (by simp) (fun x hx => (List.not_mem_nil hx).elim)
          refine ⟨turnS_mem h.2 h.1, ?_⟩
          have h2 := pfold_len l ((0 : Int), (0 : Int), ([] : List S54))
          have h3 := turnS_len e (List.foldl pstep (0, 0, []) l).1 (List.foldl pstep (0, 0, []) l).2.1 (List.foldl pstep (0, 0, []) l).2.2
          simp only [List.length_nil] at h2
          show (turnS _ _ _ _).length ≤ _
          omega
  · exact ⟨fun x hx => (List.not_mem_nil hx).elim, by simp⟩
theorem phs_len {th cl : Int} {l : List S35} {e : Int} : (phs (chk th cl l) l e).1.length ≤ 513 := by
  by_cases h : chk th cl l = 0
  · have := (phs_mem (chk th cl l) l e).2
    have := (chk_zero h).2.2.2.2.1
    omega
  · unfold phs; rw [if_neg h]; simp
def sstep (s : List Int) (x : S54) : List Int := s.set x.f0.toNat (wrap64 (rd s x.f0 + (x.f2 - x.f1)))
theorem rd54_drop (l : List S54) (i : Nat) (h : i < l.length) : l.drop i = rd_T54 l i :: l.drop (i + 1) := by
  rw [List.drop_eq_getElem_cons h]
  congr 1
  unfold rd_T54
  rw [Int.toNat_natCast, List.getD_eq_getElem?_getD, List.getElem?_eq_getElem h]
  rfl
theorem rd54_mem (l : List S54) (i : Nat) (h : i < l.length) : rd_T54 l (i : Int) ∈ l := by
  unfold rd_T54
  rw [Int.toNat_natCast, List.getD_eq_getElem?_getD, List.getElem?_eq_getElem h]
  exact List.getElem_mem h
theorem wrap513 {i : Int} (h0 : 0 ≤ i) (h : i ≤ 513) : wrap64 (i + 1) = i + 1 := by unfold wrap64; omega
theorem msums_l0 (p : List S54) (hm : ∀ x ∈ p, 0 ≤ x.f0 ∧ x.f0 ≤ 4) (hl : p.length ≤ 513) : ∀ (d i : Nat) (s : List Int), i + d = p.length → s.length = 5 → Ev (fun k => machine_Sums.l0 k s p (p.length : Int) (i : Int)) (List.foldl sstep s (p.drop i), 0) := by
  intro d
  induction d with
  | zero =>
    intro i s hi hs
    rw [List.drop_eq_nil_of_le (by omega)]
    exact Ev.step (f := fun _ => some (s, 0)) (fun k => by rw [machine_Sums.l0, if_neg (by omega)]) (Ev.now _)
  | succ d ih =>
    intro i s hi hs
    have hx := hm _ (rd54_mem p i (by omega))
    rw [rd54_drop p i (by omega)]
    refine Ev.step (fun k => by rw [machine_Sums.l0, if_pos (by omega), if_pos (by omega), if_pos (by omega), if_pos hx.1, if_pos (by omega), wrap513 (by omega) (by omega)]) ?_
    have next := ih (i + 1) (sstep s (rd_T54 p (i : Int))) (by omega) (by unfold sstep; rw [List.length_set]; exact hs)
    have e : wrap64 (rd s (rd_T54 p (i : Int)).f0 + wrap64 ((rd_T54 p (i : Int)).f2 - (rd_T54 p (i : Int)).f1)) = wrap64 (rd s (rd_T54 p (i : Int)).f0 + ((rd_T54 p (i : Int)).f2 - (rd_T54 p (i : Int)).f1)) := by unfold wrap64; omega
    rw [e]
    exact_mod_cast next
theorem rsums_l0 (p : List S54) (hm : ∀ x ∈ p, 0 ≤ x.f0 ∧ x.f0 ≤ 4) (hl : p.length ≤ 513) : ∀ (d i : Nat) (s : List Int), i + d = p.length → s.length = 5 → Ev (fun k => papermillref30_Sums.l0 k p s (i : Int)) (List.foldl sstep s (p.drop i), 0) := by
  intro d
  induction d with
  | zero =>
    intro i s hi hs
    rw [List.drop_eq_nil_of_le (by omega)]
    exact Ev.step (f := fun _ => some (s, 0)) (fun k => by rw [papermillref30_Sums.l0, if_neg (by omega)]) (Ev.now _)
  | succ d ih =>
    intro i s hi hs
    have hx := hm _ (rd54_mem p i (by omega))
    rw [rd54_drop p i (by omega)]
    refine Ev.step (fun k => by rw [papermillref30_Sums.l0, if_pos (by omega), if_pos (by omega), if_pos hx.1, if_pos (by omega), wrap513 (by omega) (by omega)]) ?_
    have next := ih (i + 1) (sstep s (rd_T54 p (i : Int))) (by omega) (by unfold sstep; rw [List.length_set]; exact hs)
    have e : wrap64 (wrap64 (rd s (rd_T54 p (i : Int)).f0 + (rd_T54 p (i : Int)).f2) - (rd_T54 p (i : Int)).f1) = wrap64 (rd s (rd_T54 p (i : Int)).f0 + ((rd_T54 p (i : Int)).f2 - (rd_T54 p (i : Int)).f1)) := by unfold wrap64; omega
    rw [e]
    exact_mod_cast next
/-- Sums' answer. -/
def sms (r : List S54 × Int) : List Int × Int := if r.2 = 0 then (List.foldl sstep [0, 0, 0, 0, 0] r.1, 0) else ([], r.2)
theorem msums_ev (th cl : Int) (l : List S35) (e : Int) : Ev (fun k => machine_Sums.f k th cl l e) (sms (phs (chk th cl l) l e)) := by
  unfold machine_Sums.f sms
  refine Ev.bind (phases_ev th cl l e) ?_
  by_cases h : (phs (chk th cl l) l e).2 = 0
  · rw [if_pos h]
    refine Ev.ite_pos h (Ev.ite_pos (by decide) ?_)
    have := msums_l0 _ (phs_mem (chk th cl l) l e).1 phs_len (phs (chk th cl l) l e).1.length 0 [0, 0, 0, 0, 0] (by omega) rfl
    rw [List.drop_zero] at this
    exact this
  · rw [if_neg h]
    exact Ev.ite_neg h (Ev.now _)
theorem rsums_ev (th cl : Int) (l : List S35) (e : Int) : Ev (fun k => papermillref30_Sums.f k th cl l e) (sms (phs (chk th cl l) l e)) := by
  unfold papermillref30_Sums.f sms
  refine Ev.bind (rphases_ev th cl l e) ?_
  by_cases h : (phs (chk th cl l) l e).2 = 0
  · rw [if_pos h]
    refine Ev.ite_pos h ?_
    have := rsums_l0 _ (phs_mem (chk th cl l) l e).1 phs_len (phs (chk th cl l) l e).1.length 0 [0, 0, 0, 0, 0] (by omega) rfl
    rw [List.drop_zero] at this
    exact this
  · rw [if_neg h]
    exact Ev.ite_neg h (Ev.now _)
theorem same_phases (p : List S54) (hl : p.length ≤ 513) : Ev (fun k => papermilllaw30_phases.f k p p) true := by
  unfold papermilllaw30_phases.f
  refine Ev.ite_pos rfl ?_
  have : ∀ (d i : Nat), i + d = p.length → Ev (fun k => papermilllaw30_phases.l0 k p p (p.length : Int) (i : Int)) true := by
    intro d
    induction d with
    | zero => intro i hi; exact Ev.step (f := fun _ => some true) (fun k => by rw [papermilllaw30_phases.l0, if_neg (by omega)]) (Ev.now _)
    | succ d ih =>
      intro i hi
      refine Ev.step (fun k => by rw [papermilllaw30_phases.l0, if_pos (by omega), if_pos (by omega), if_pos (by omega), if_pos (by omega), if_neg (by simp), wrap513 (by omega) (by omega)]) ?_
      exact_mod_cast ih (i + 1) (by omega)
  exact_mod_cast this p.length 0 (by omega)
theorem same_ints (p : List Int) (hl : p.length ≤ 513) : Ev (fun k => papermilllaw30_ints.f k p p) true := by
  unfold papermilllaw30_ints.f
  refine Ev.ite_pos rfl ?_
  have : ∀ (d i : Nat), i + d = p.length → Ev (fun k => papermilllaw30_ints.l0 k p p (p.length : Int) (i : Int)) true := by
    intro d
    induction d with
    | zero => intro i hi; exact Ev.step (f := fun _ => some true) (fun k => by rw [papermilllaw30_ints.l0, if_neg (by omega)]) (Ev.now _)
    | succ d ih =>
      intro i hi
      refine Ev.step (fun k => by rw [papermilllaw30_ints.l0, if_pos (by omega), if_pos (by omega), if_pos (by omega), if_pos (by omega), if_pos rfl, wrap513 (by omega) (by omega)]) ?_
      exact_mod_cast ih (i + 1) (by omega)
  exact_mod_cast this p.length 0 (by omega)
theorem sfold_len (p : List S54) : ∀ s : List Int, (List.foldl sstep s p).length = s.length := by
  induction p with
  | nil => intro s; rfl
  | cons x p ih => intro s; rw [List.foldl_cons, ih]; unfold sstep; rw [List.length_set]
end Go.Proofs.Ytoncjfgklaldnaa.MSpec
