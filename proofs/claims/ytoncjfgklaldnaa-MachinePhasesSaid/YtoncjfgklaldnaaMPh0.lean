import Derived.Test.YtoncjfgklaldnaaMVal0
import Derived.Test.YtoncjfgklaldnaaPXx14
namespace Go.Proofs.Ytoncjfgklaldnaa.MSpec
set_option linter.unusedVariables false
set_option linter.unusedSimpArgs false
open Go.RowKit Go.Proofs.Ytoncjfgklaldnaa.PX Go.Proofs.YtoncjfgklaldnaaW.PrintWords Go.Proofs.YtoncjfgklaldnaaW.PrintLast
/-- Phases, one after the other, from T to F. -/
def Ch : Int → List S54 → Int → Prop
  | T, [], F => T = F
  | T, x :: xs, F => x.f1 = T ∧ T < x.f2 ∧ Ch x.f2 xs F
theorem ch_snoc : ∀ (xs : List S54) (T F a : Int) (st : Int), Ch T xs F → F < a → Ch T (xs ++ [⟨st, F, a⟩]) a := by
  intro xs
  induction xs with
  | nil => intro T F a st h ha; obtain rfl : T = F := h; exact ⟨rfl, ha, rfl⟩
  | cons x xs ih => intro T F a st h ha; exact ⟨h.1, h.2.1, ih _ _ _ _ h.2.2 ha⟩
theorem ch_turn {out : List S54} {T F a st : Int} (h : Ch T out F) (ha : F ≤ a) : Ch T (turnS a st F out) a := by
  unfold turnS
  by_cases hc : F < a
  · rw [if_pos hc]; exact ch_snoc _ _ _ _ _ h hc
  · rw [if_neg hc]; obtain rfl : F = a := by omega
    exact h
theorem ch_le : ∀ (xs : List S54) (T F : Int), Ch T xs F → T ≤ F ∧ ∀ x ∈ xs, T ≤ x.f1 ∧ x.f1 < x.f2 ∧ x.f2 ≤ F := by
  intro xs
  induction xs with
  | nil => intro T F h; exact ⟨Int.le_of_eq h, fun x hx => (List.not_mem_nil hx).elim⟩
  | cons y xs ih =>
    intro T F h
    obtain ⟨h1, h2, h3⟩ := h
    obtain ⟨k1, k2⟩ := ih _ _ h3
    refine ⟨by omega, fun x hx => ?_⟩
    rcases List.mem_cons.1 hx with rfl | hx
    · exact ⟨by omega, by omega, k1⟩
    · have := k2 x hx; exact ⟨by omega, this.2.1, this.2.2⟩
theorem rd54_cons (x : S54) (xs : List S54) (i : Nat) : rd_T54 (x :: xs) ((i + 1 : Nat) : Int) = rd_T54 xs (i : Int) := by
  unfold rd_T54
  rw [Int.toNat_natCast, Int.toNat_natCast]
  rfl
/-- Where the phase i begins. -/
def lto (T : Int) (xs : List S54) (i : Nat) : Int := if i = 0 then T else (rd_T54 xs ((i - 1 : Nat) : Int)).f2
theorem lto_succ (T : Int) (xs : List S54) (i : Nat) : lto T xs (i + 1) = (rd_T54 xs (i : Int)).f2 := by unfold lto; rw [if_neg (by omega)]; rfl
theorem ch_at : ∀ (xs : List S54) (T F : Int), Ch T xs F → (∀ i, i < xs.length → (rd_T54 xs (i : Int)).f1 = lto T xs i) ∧ lto T xs xs.length = F := by
  intro xs
  induction xs with
  | nil => intro T F h; exact ⟨fun i hi => absurd hi (Nat.not_lt_zero _), h⟩
  | cons x xs ih =>
    intro T F h
    obtain ⟨h1, h2, h3⟩ := h
    obtain ⟨k1, k2⟩ := ih _ _ h3
    have key : ∀ i, i ≤ xs.length → lto T (x :: xs) (i + 1) = lto x.f2 xs i := by
      intro i hi
      rw [lto_succ]
      cases i with
      | zero => rfl
      | succ i => rw [rd54_cons, lto_succ]
    refine ⟨fun i hi => ?_, ?_⟩
    · cases i with
      | zero => exact h1
      | succ i => rw [rd54_cons, key i (by simp at hi; omega)]; exact k1 i (by simpa using hi)
    · rw [List.length_cons, key xs.length (Nat.le_refl _)]; exact k2
/-- The fold of Phases over the first i acts. -/
theorem fold_at {th cl : Int} {l : List S35} (hv : wk th cl l 0 0 = 0) : ∀ i, i ≤ l.length →
    (List.foldl pstep (0, 0, []) (l.take i)).1 = stA (l.take i) 0 ∧ (List.foldl pstep (0, 0, []) (l.take i)).2.1 = bef l i ∧ Ch 0 (List.foldl pstep (0, 0, []) (l.take i)).2.2 (bef l i) ∧
    ∀ x ∈ (List.foldl pstep (0, 0, []) (l.take i)).2.2, ∃ j, j < i ∧ x.f0 = stA (l.take j) 0 ∧ x.f1 = bef l j ∧ x.f2 = (rd_T35 l (j : Int)).f1 := by
  intro i
  induction i with
  | zero => intro _; exact ⟨rfl, rfl, rfl, fun x hx => (List.not_mem_nil hx).elim⟩
  | succ i ih =>
    intro hi
    obtain ⟨h1, h2, h3, h4⟩ := ih (by omega)
    have hva := valid_at hv i (by omega)
    rw [rd_drop l i (by omega)] at hva
    obtain ⟨_, hb, _, _, _⟩ := wk_cons hva
    rw [take_rd l i (by omega), List.foldl_append]
    generalize List.foldl pstep (0, 0, []) (l.take i) = p at *
    obtain ⟨p1, p2, p3⟩ := p
    simp only at h1 h2 h3 h4
    subst h2
    subst h1
    simp only [List.foldl_cons, List.foldl_nil, pstep]
    refine ⟨?_, (bef_succ l i).symm, ?_, ?_⟩
    · unfold stA; rw [List.foldl_append]; rfl
    · rw [bef_succ]; exact ch_turn h3 (by omega)
    · intro x hx
      unfold turnS at hx
      split at hx
      · rcases List.mem_append.1 hx with hx | hx
        · obtain ⟨j, a, b⟩ := h4 x hx; exact ⟨j, by omega, b⟩
        · rw [List.mem_singleton.1 hx]; exact ⟨i, by omega, rfl, rfl, rfl⟩
      · obtain ⟨j, a, b⟩ := h4 x hx; exact ⟨j, by omega, b⟩
theorem nx_rng (s a : Int) : 0 ≤ (nx s a).1 ∧ (nx s a).1 ≤ 4 := by
  unfold nx
  repeat' split
  all_goals (simp only; omega)
/-- What holds of the phases of valid acts, where there is no error. -/
theorem phs_good {th cl e : Int} {l : List S35} (hc : chk th cl l = 0) (h : (phs (chk th cl l) l e).2 = 0) : 0 ≤ e ∧ e ≤ 2147483648 ∧ Ch 0 (phs (chk th cl l) l e).1 e ∧
    ∀ x ∈ (phs (chk th cl l) l e).1, (0 ≤ x.f0 ∧ x.f0 ≤ 4) ∧ stt th cl l x.f1 = (x.f0, 0) ∧ stt th cl l (x.f2 - 1) = (x.f0, 0) := by
  obtain ⟨_, _, _, _, hl, hv⟩ := chk_zero hc
  unfold phs at h ⊢
  rw [if_pos hc] at h ⊢
  by_cases h0 : e < 0
  · rw [if_pos h0] at h; simp at h
  · rw [if_neg h0] at h ⊢
    by_cases h1 : e > 2147483648
    · rw [if_pos h1] at h; simp at h
    · rw [if_neg h1] at h ⊢
      by_cases h2 : 0 < l.length ∧ (rd_T35 l ((l.length : Int) - 1)).f1 ≥ e
      · rw [if_pos h2] at h; simp at h
      · rw [if_neg h2]
        obtain ⟨f1, f2, f3, f4⟩ := fold_at hv l.length (Nat.le_refl _)
        rw [List.take_length] at f1 f2 f3 f4
        have hbe : bef l l.length ≤ e := by
          by_cases hz : l.length = 0
          · unfold bef; rw [if_pos hz]; omega
          · have : ¬ (rd_T35 l ((l.length : Int) - 1)).f1 ≥ e := fun c => h2 ⟨by omega, c⟩
            unfold bef
            rw [if_neg hz, show ((l.length - 1 : Nat) : Int) = (l.length : Int) - 1 by omega]
            omega
        generalize List.foldl pstep (0, 0, []) l = p at *
        obtain ⟨p1, p2, p3⟩ := p
        simp only at f1 f2 f3 f4 ⊢
        subst f2
        subst f1
        have hch := ch_turn (a := e) (st := stA l 0) f3 hbe
        refine ⟨by omega, by omega, hch, fun x hx => ?_⟩
        have hle := (ch_le _ _ _ hch).2 x hx
        have hfrom : ∃ j, j ≤ l.length ∧ x.f0 = stA (l.take j) 0 ∧ x.f1 = bef l j ∧ (j < l.length → x.f2 = (rd_T35 l (j : Int)).f1) := by
          unfold turnS at hx
          split at hx
          · rcases List.mem_append.1 hx with hx | hx
            · obtain ⟨j, a, b, c, d⟩ := f4 x hx; exact ⟨j, by omega, b, c, fun _ => d⟩
            · rw [List.mem_singleton.1 hx]; exact ⟨l.length, Nat.le_refl _, by rw [List.take_length], rfl, fun c => absurd c (Nat.lt_irrefl _)⟩
          · obtain ⟨j, a, b, c, d⟩ := f4 x hx; exact ⟨j, by omega, b, c, fun _ => d⟩
        obtain ⟨j, hj, g1, g2, g3⟩ := hfrom
        have hst : ∀ t : Int, x.f1 ≤ t → t < x.f2 → stt th cl l t = (x.f0, 0) := by
          intro t a b
          have hmt : mom t = true := by unfold mom; rw [if_pos (by omega), decide_eq_true (by omega)]
          unfold stt sto
          rw [if_pos hc, if_pos hmt, runT_at hv j hj (.inl (by rw [← g2]; exact a)) (fun c => by rw [← g3 c]; exact b), g1]
        refine ⟨?_, hst _ (Int.le_refl _) hle.2.1, hst _ (by omega) (by omega)⟩
        rw [g1]
        have key : ∀ (l : List S35) (s : Int), (0 ≤ s ∧ s ≤ 4) → 0 ≤ stA l s ∧ stA l s ≤ 4 := by
          intro l
          induction l with
          | nil => intro s h; exact h
          | cons y l ih =>
            intro s h
            exact ih _ (nx_rng s y.f0)
        exact key _ 0 (by decide)
theorem phs_bad {c e : Int} {l : List S35} (h : (phs c l e).2 ≠ 0) : (phs c l e).1 = [] := by
  unfold phs at h ⊢
  split
  · rename_i h1; rw [if_pos h1] at h
    split
    · rfl
    · rename_i h2; rw [if_neg h2] at h
      split
      · rfl
      · rename_i h3; rw [if_neg h3] at h
        split
        · rfl
        · rename_i h4; rw [if_neg h4] at h; exact absurd rfl h
  · rfl
/-! ### the sums -/
def sst (s : List Int) (x : S54) : List Int := s.set x.f0.toNat (wrap64 ((rd s x.f0) + (wrap64 (x.f2 - x.f1))))
def smo (r : List S54 × Int) : List Int × Int := if r.2 = 0 then (List.foldl sst (List.replicate 5 0) r.1, 0) else ([], r.2)
theorem sums_fold : ∀ (xs : List S54) (T F a b c d e : Int), Ch T xs F → (∀ x ∈ xs, 0 ≤ x.f0 ∧ x.f0 ≤ 4) → F ≤ 2147483648 → 0 ≤ a → 0 ≤ b → 0 ≤ c → 0 ≤ d → 0 ≤ e → a + b + c + d + e = T →
    ∃ a' b' c' d' e' : Int, List.foldl sst [a, b, c, d, e] xs = [a', b', c', d', e'] ∧ 0 ≤ a' ∧ 0 ≤ b' ∧ 0 ≤ c' ∧ 0 ≤ d' ∧ 0 ≤ e' ∧ a' + b' + c' + d' + e' = F := by
  intro xs
  induction xs with
  | nil => intro T F a b c d e h _ _ ha hb hc hd he hs; exact ⟨a, b, c, d, e, rfl, ha, hb, hc, hd, he, by have : T = F := h; omega⟩
  | cons x xs ih =>
    intro T F a b c d e h hm hF ha hb hc hd he hs
    obtain ⟨h1, h2, h3⟩ := h
    have hx := hm x List.mem_cons_self
    have hle := (ch_le _ _ _ h3).1
    have hm' := fun y hy => hm y (List.mem_cons_of_mem _ hy)
    rw [List.foldl_cons]
    obtain ⟨x0, x1, x2⟩ := x
    simp only at h1 h2 h3 hx hle
    subst h1
    have hw : ∀ v : Int, 0 ≤ v → v + (x2 - x1) ≤ 2147483648 → wrap64 (v + wrap64 (x2 - x1)) = v + (x2 - x1) := by intro v h0 h1; unfold wrap64; omega
    have hc5 : x0 = 0 ∨ x0 = 1 ∨ x0 = 2 ∨ x0 = 3 ∨ x0 = 4 := by omega
    rcases hc5 with rfl | rfl | rfl | rfl | rfl
    · have e1 : sst [a, b, c, d, e] ⟨0, x1, x2⟩ = [a + (x2 - x1), b, c, d, e] := by show [wrap64 (a + wrap64 (x2 - x1)), b, c, d, e] = _; rw [hw a ha (by omega)]
      rw [e1]; exact ih _ F _ _ _ _ _ h3 hm' hF (by omega) hb hc hd he (by omega)
    · have e1 : sst [a, b, c, d, e] ⟨1, x1, x2⟩ = [a, b + (x2 - x1), c, d, e] := by show [a, wrap64 (b + wrap64 (x2 - x1)), c, d, e] = _; rw [hw b hb (by omega)]
      rw [e1]; exact ih _ F _ _ _ _ _ h3 hm' hF ha (by omega) hc hd he (by omega)
    · have e1 : sst [a, b, c, d, e] ⟨2, x1, x2⟩ = [a, b, c + (x2 - x1), d, e] := by show [a, b, wrap64 (c + wrap64 (x2 - x1)), d, e] = _; rw [hw c hc (by omega)]
      rw [e1]; exact ih _ F _ _ _ _ _ h3 hm' hF ha hb (by omega) hd he (by omega)
    · have e1 : sst [a, b, c, d, e] ⟨3, x1, x2⟩ = [a, b, c, d + (x2 - x1), e] := by show [a, b, c, wrap64 (d + wrap64 (x2 - x1)), e] = _; rw [hw d hd (by omega)]
      rw [e1]; exact ih _ F _ _ _ _ _ h3 hm' hF ha hb hc (by omega) he (by omega)
    · have e1 : sst [a, b, c, d, e] ⟨4, x1, x2⟩ = [a, b, c, d, e + (x2 - x1)] := by show [a, b, c, d, wrap64 (e + wrap64 (x2 - x1))] = _; rw [hw e he (by omega)]
      rw [e1]; exact ih _ F _ _ _ _ _ h3 hm' hF ha hb hc hd (by omega) (by omega)
theorem phases_ev' (th cl : Int) (l : List S35) (e : Int) : Ev (fun k => machine_Phases.f k th cl l e) (phs (chk th cl l) l e) := by
  unfold machine_Phases.f
  exact Ev.bind (check_ev th cl l) (Ev.now _)
theorem rd54_drop' (l : List S54) (i : Nat) (h : i < l.length) : l.drop i = rd_T54 l i :: l.drop (i + 1) := by
  rw [List.drop_eq_getElem_cons h]
  congr 1
  unfold rd_T54
  rw [Int.toNat_natCast, List.getD_eq_getElem?_getD, List.getElem?_eq_getElem h]
  rfl
theorem rd54_in (l : List S54) (i : Nat) (h : i < l.length) : rd_T54 l (i : Int) ∈ l := by
  unfold rd_T54
  rw [Int.toNat_natCast, List.getD_eq_getElem?_getD, List.getElem?_eq_getElem h]
  exact List.getElem_mem h
theorem w513 {i : Int} (h0 : 0 ≤ i) (h : i ≤ 513) : wrap64 (i + 1) = i + 1 := by unfold wrap64; omega
theorem msums_l0' (p : List S54) (hm : ∀ x ∈ p, 0 ≤ x.f0 ∧ x.f0 ≤ 4) (hl : p.length ≤ 513) : ∀ (d i : Nat) (s : List Int), i + d = p.length → s.length = 5 → Ev (fun k => machine_Sums.l0 k s p (p.length : Int) (i : Int)) (List.foldl sst s (p.drop i), 0) := by
  intro d
  induction d with
  | zero =>
    intro i s hi hs
    rw [List.drop_eq_nil_of_le (by omega)]
    exact Ev.step (f := fun _ => some (s, 0)) (fun k => by rw [machine_Sums.l0, if_neg (by omega)]) (Ev.now _)
  | succ d ih =>
    intro i s hi hs
    have hx := hm _ (rd54_in p i (by omega))
    rw [rd54_drop' p i (by omega)]
    refine Ev.step (fun k => by rw [machine_Sums.l0, if_pos (by omega), if_pos (by omega), if_pos (by omega), if_pos hx.1, if_pos (by omega), w513 (by omega) (by omega)]) ?_
    have next := ih (i + 1) (sst s (rd_T54 p (i : Int))) (by omega) (by unfold sst; rw [List.length_set]; exact hs)
    exact_mod_cast next
theorem msums_ev' {th cl : Int} {l : List S35} {e : Int} (hm : ∀ x ∈ (phs (chk th cl l) l e).1, 0 ≤ x.f0 ∧ x.f0 ≤ 4) (hl : (phs (chk th cl l) l e).1.length ≤ 513) : Ev (fun k => machine_Sums.f k th cl l e) (smo (phs (chk th cl l) l e)) := by
  unfold machine_Sums.f smo
  refine Ev.bind (phases_ev' th cl l e) ?_
  by_cases h : (phs (chk th cl l) l e).2 = 0
  · rw [if_pos h]
    refine Ev.ite_pos h (Ev.ite_pos (by decide) ?_)
    have := msums_l0' _ hm hl (phs (chk th cl l) l e).1.length 0 (List.replicate 5 0) (by omega) rfl
    rw [List.drop_zero] at this
    exact this
  · rw [if_neg h]
    exact Ev.ite_neg h (Ev.now _)
theorem phs_len' {th cl : Int} {l : List S35} {e : Int} : (phs (chk th cl l) l e).1.length ≤ 513 := by
  by_cases h : chk th cl l = 0
  · have hl := (chk_zero h).2.2.2.2.1
    have h2 := pfold_len l ((0 : Int), (0 : Int), ([] : List S54))
    have h3 := turnS_len e (List.foldl pstep (0, 0, []) l).1 (List.foldl pstep (0, 0, []) l).2.1 (List.foldl pstep (0, 0, []) l).2.2
    simp only [List.length_nil] at h2
    unfold phs
    repeat' split
    all_goals first | (simp; done) | (simp only; omega)
  · unfold phs; rw [if_neg h]; simp
end Go.Proofs.Ytoncjfgklaldnaa.MSpec
