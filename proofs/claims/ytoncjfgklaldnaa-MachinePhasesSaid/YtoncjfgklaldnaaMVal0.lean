import Derived.Test.YtoncjfgklaldnaaMA0
import Derived.Test.YtoncjfgklaldnaaPXx17
namespace Go.Proofs.Ytoncjfgklaldnaa.MSpec
set_option linter.unusedVariables false
set_option linter.unusedSimpArgs false
open Go.RowKit Go.Proofs.Ytoncjfgklaldnaa.PX Go.Proofs.YtoncjfgklaldnaaW.PrintWords Go.Proofs.YtoncjfgklaldnaaW.PrintLast
/-! ### records stay valid -/
theorem bef_len (l : List S35) : bef l l.length = lastA l := by
  unfold bef lastA
  by_cases h : l.length = 0
  · rw [if_pos h, if_pos h]
  · rw [if_neg h, if_neg h, show ((l.length - 1 : Nat) : Int) = (l.length : Int) - 1 by omega]
theorem lastA_snoc (l : List S35) (a : S35) : lastA (l ++ [a]) = a.f1 := by
  unfold lastA
  rw [if_neg (by simp)]
  unfold rd_T35
  rw [show (((l ++ [a]).length : Int) - 1).toNat = l.length by simp]
  simp
theorem wk_append (th cl : Int) (r : List S35) : ∀ (l : List S35) (s b : Int), wk th cl l s b = 0 → wk th cl (l ++ r) s b = wk th cl r (stA l s) (if l.length = 0 then b else lastA l) := by
  intro l
  induction l with
  | nil => intro s b _; rfl
  | cons x l ih =>
    intro s b h
    obtain ⟨h1, h2, h3, h4, h5⟩ := wk_cons h
    rw [List.cons_append]
    conv => lhs; unfold wk
    rw [if_neg (by rw [h1]; decide), if_neg h2, if_pos h3, if_neg (by rw [h4]; decide), ih _ _ h5]
    have e : (if l.length = 0 then x.f1 else lastA l) = (if (x :: l).length = 0 then b else lastA (x :: l)) := by
      rw [if_neg (show ¬ (x :: l).length = 0 by simp)]
      cases l with
      | nil => rfl
      | cons y l =>
        rw [if_neg (by simp)]
        unfold lastA
        rw [if_neg (by simp), if_neg (by simp)]
        unfold rd_T35
        rw [show (((y :: l).length : Int) - 1).toNat = l.length by simp, show (((x :: y :: l).length : Int) - 1).toNat = l.length + 1 by simp]
        rfl
    rw [e]
    rfl
/-- A record that is valid, whose state is the state behind its acts, and whose acts are not later than T. -/
structure Vd (th cl T : Int) (p : Int × List S35) : Prop where
  ok : wk th cl p.2 0 0 = 0
  st : stA p.2 0 = p.1
  le : lastA p.2 ≤ T
theorem Vd.start (th cl : Int) {T : Int} (h : 0 ≤ T) : Vd th cl T (0, []) := ⟨rfl, rfl, h⟩
theorem Vd.later {th cl T T' : Int} {p : Int × List S35} (h : Vd th cl T p) (ht : T ≤ T') : Vd th cl T' p := ⟨h.ok, h.st, by have := h.le; omega⟩
theorem Vd.perf {th cl T : Int} {p : Int × List S35} (h : Vd th cl T p) (a : S35) (ha : T ≤ a.f1) (hm : mom a.f1 = true) : Vd th cl a.f1 (perfS th cl p a) := by
  have hl := h.le
  unfold perfS
  by_cases he : (nx p.1 a.f0).2 = 0
  · rw [if_pos he]
    cases hr : erl th cl a.f0 a.f1 (lastA p.2) with
    | true => rw [if_pos rfl]; exact h.later ha
    | false =>
      rw [if_neg (by decide)]
      refine ⟨?_, ?_, ?_⟩
      · show wk th cl (p.2 ++ [a]) 0 0 = 0
        rw [wk_append th cl [a] p.2 0 0 h.ok, h.st]
        have e : (if p.2.length = 0 then (0 : Int) else lastA p.2) = lastA p.2 := by
          by_cases hz : p.2.length = 0
          · rw [if_pos hz]; unfold lastA; rw [if_pos hz]
          · rw [if_neg hz]
        rw [e]
        simp only [wk]
        rw [if_neg (by rw [hm]; decide), if_neg (by omega), if_pos he, if_neg (by rw [hr]; decide)]
      · show stA (p.2 ++ [a]) 0 = _
        unfold stA
        rw [List.foldl_append]
        have := h.st
        unfold stA at this
        rw [this]
        rfl
      · show lastA (p.2 ++ [a]) ≤ _
        rw [lastA_snoc]
        exact Int.le_refl _
  · rw [if_neg he]
    exact h.later ha
theorem Vd.stop {th cl T : Int} {p : Int × List S35} (h : Vd th cl T p) (t : Int) (ha : T ≤ t) (hm : mom t = true) : Vd th cl t (stopS th cl p t) := (h.perf ⟨5, t⟩ ha hm).perf ⟨6, t⟩ (Int.le_refl _) hm
/-- Moments in order, from T on. -/
def Srt : Int → List Int → Prop
  | _, [] => True
  | T, t :: ts => T ≤ t ∧ mom t = true ∧ Srt t ts
theorem Srt.weak : ∀ {ts : List Int} {T T' : Int}, Srt T ts → T' ≤ T → Srt T' ts
  | [], _, _, _, _ => trivial
  | _ :: _, _, _, h, ht => ⟨by have := h.1; omega, h.2.1, h.2.2⟩
theorem adv_ok {th cl x1 : Int} : ∀ (ts : List Int) (T : Int) (p : Int × List S35), Vd th cl T p → Srt T ts → T ≤ x1 → Vd th cl x1 (adv th cl x1 ts p).2 ∧ Srt x1 (adv th cl x1 ts p).1 := by
  intro ts
  induction ts with
  | nil => intro T p h _ hT; exact ⟨h.later hT, trivial⟩
  | cons t ts ih =>
    intro T p h hs hT
    simp only [adv]
    by_cases hc : t < x1
    · rw [if_pos hc]
      exact ih t _ (h.stop t hs.1 hs.2.1) hs.2.2 (by omega)
    · rw [if_neg hc]
      exact ⟨h.later hT, by omega, hs.2.1, hs.2.2⟩
theorem fold_ok {th cl : Int} : ∀ (ts : List Int) (T : Int) (p : Int × List S35), Vd th cl T p → Srt T ts → ∃ T', Vd th cl T' (List.foldl (stopS th cl) p ts) := by
  intro ts
  induction ts with
  | nil => intro T p h _; exact ⟨T, h⟩
  | cons t ts ih => intro T p h hs; exact ih t _ (h.stop t hs.1 hs.2.1) hs.2.2
/-- Acts in order, from T on. -/
def SrtA : Int → List S35 → Prop
  | _, [] => True
  | T, x :: l => T ≤ x.f1 ∧ mom x.f1 = true ∧ SrtA x.f1 l
theorem srtA_of {th cl : Int} : ∀ (l : List S35) (s b : Int), wk th cl l s b = 0 → SrtA b l := by
  intro l
  induction l with
  | nil => intro s b _; trivial
  | cons x l ih =>
    intro s b h
    obtain ⟨h1, h2, _, _, h5⟩ := wk_cons h
    exact ⟨by omega, h1, ih _ _ h5⟩
theorem run_ok {th cl : Int} : ∀ (l : List S35) (ts : List Int) (T : Int) (p : Int × List S35), Vd th cl T p → Srt T ts → SrtA T l → ∃ T', Vd th cl T' (runS th cl l ts p) := by
  intro l
  induction l with
  | nil => intro ts T p h hs _; exact fold_ok ts T p h hs
  | cons x l ih =>
    intro ts T p h hs hl
    simp only [runS]
    obtain ⟨h1, h2⟩ := adv_ok (x1 := x.f1) ts T p h hs hl.1
    exact ih _ x.f1 _ (h1.perf x (Int.le_refl _) hl.2.1) h2 hl.2.2
theorem srt_of {l2 : List Int} (h1 : ∀ j ∈ List.range l2.length, 1 ≤ j → rd l2 ((j - 1 : Nat) : Int) ≤ rd l2 (j : Int)) (h2 : ∀ j ∈ List.range l2.length, mom (rd l2 (j : Int)) = true) : Srt 0 l2 := by
  have key : ∀ (d j : Nat) (T : Int), j + d = l2.length → (j < l2.length → T ≤ rd l2 (j : Int)) → Srt T (l2.drop j) := by
    intro d
    induction d with
    | zero => intro j T hj _; rw [List.drop_eq_nil_of_le (by omega)]; trivial
    | succ d ih =>
      intro j T hj hT
      rw [rdi_drop l2 j (by omega)]
      exact ⟨hT (by omega), h2 j (List.mem_range.2 (by omega)), ih (j + 1) _ (by omega) (fun hlt => h1 (j + 1) (List.mem_range.2 hlt) (by omega))⟩
  have := key l2.length 0 0 (by omega) (fun hlt => (mom_bd (h2 0 (List.mem_range.2 hlt))).1)
  rwa [List.drop_zero] at this
/-- What Stops returns without an error is valid. -/
theorem stp_valid {th cl : Int} {l1 : List S35} {l2 : List Int} (hc : chk th cl l1 = 0) (h : (stp th cl (chk th cl l1) l1 l2).2 = 0) : chk th cl (stp th cl (chk th cl l1) l1 l2).1 = 0 := by
  obtain ⟨a1, a2, a3, a4, hl, hv⟩ := chk_zero hc
  rw [hc] at h ⊢
  unfold stp at h ⊢
  rw [if_pos rfl] at h ⊢
  by_cases b1 : 512 < l2.length
  · rw [if_pos b1] at h; simp at h
  · rw [if_neg b1] at h ⊢
    by_cases b2 : ∀ j ∈ List.range l2.length, 1 ≤ j → rd l2 ((j - 1 : Nat) : Int) ≤ rd l2 (j : Int)
    · rw [if_pos b2] at h ⊢
      by_cases b3 : ∀ j ∈ List.range l2.length, mom (rd l2 (j : Int)) = true
      · rw [if_pos b3] at h ⊢
        by_cases b4 : 512 < (runS th cl l1 l2 (0, [])).2.length
        · rw [if_pos b4] at h; simp at h
        · rw [if_neg b4]
          obtain ⟨T, hV⟩ := run_ok l1 l2 0 (0, []) (Vd.start th cl (Int.le_refl _)) (srt_of b2 b3) (srtA_of l1 0 0 hv)
          simp only
          unfold chk
          rw [if_neg (by omega), if_neg (by omega), if_neg (by omega), if_neg (by omega), if_neg (by omega)]
          exact hV.ok
      · rw [if_neg b3] at h; simp at h
    · rw [if_neg b2] at h; simp at h
/-! ### one stop -/
theorem perf_ext (th cl : Int) : ∀ (l : List S35) (p : Int × List S35), ∃ ext, (List.foldl (perfS th cl) p l).2 = p.2 ++ ext ∧ ∀ x ∈ ext, x ∈ l := by
  intro l
  induction l with
  | nil => intro p; exact ⟨[], by simp, fun x hx => hx⟩
  | cons a l ih =>
    intro p
    obtain ⟨ext, h1, h2⟩ := ih (perfS th cl p a)
    rw [List.foldl_cons, h1]
    have : (perfS th cl p a).2 = p.2 ∨ (perfS th cl p a).2 = p.2 ++ [a] := by
      unfold perfS
      split
      · split
        · exact .inl rfl
        · exact .inr rfl
      · exact .inl rfl
    rcases this with h | h
    · exact ⟨ext, by rw [h], fun x hx => List.mem_cons_of_mem _ (h2 x hx)⟩
    · refine ⟨a :: ext, by rw [h]; simp, fun x hx => ?_⟩
      rcases List.mem_cons.1 hx with rfl | hx
      · exact List.mem_cons_self
      · exact List.mem_cons_of_mem _ (h2 x hx)
theorem run_none (th cl : Int) : ∀ (l : List S35) (p : Int × List S35), runS th cl l [] p = List.foldl (perfS th cl) p l := by
  intro l
  induction l with
  | nil => intro p; rfl
  | cons x l ih => intro p; simp only [runS, adv, List.foldl_cons]; exact ih _
theorem run_one (th cl s : Int) : ∀ (l : List S35) (T : Int) (p : Int × List S35), SrtA T l → ∃ pre post, l = pre ++ post ∧ (∀ x ∈ pre, x.f1 ≤ s) ∧ (∀ x ∈ post, s < x.f1) ∧ runS th cl l [s] p = List.foldl (perfS th cl) (stopS th cl (List.foldl (perfS th cl) p pre) s) post := by
  intro l
  induction l with
  | nil => intro T p _; exact ⟨[], [], rfl, fun x hx => (List.not_mem_nil hx).elim, fun x hx => (List.not_mem_nil hx).elim, rfl⟩
  | cons x l ih =>
    intro T p hs
    simp only [runS, adv]
    by_cases hc : s < x.f1
    · rw [if_pos hc]
      refine ⟨[], x :: l, rfl, fun x hx => (List.not_mem_nil hx).elim, ?_, ?_⟩
      · have key : ∀ (l : List S35) (T : Int), SrtA T l → s < T → ∀ y ∈ l, s < y.f1 := by
          intro l
          induction l with
          | nil => intro T _ _ y hy; cases hy
          | cons z l ih2 =>
            intro T h hT y hy
            have hz := h.1
            rcases List.mem_cons.1 hy with rfl | hy
            · omega
            · exact ih2 z.f1 h.2.2 (by omega) y hy
        intro y hy
        rcases List.mem_cons.1 hy with rfl | hy
        · exact hc
        · exact key l x.f1 hs.2.2 hc y hy
      · exact run_none th cl l _
    · rw [if_neg hc]
      obtain ⟨pre, post, h1, h2, h3, h4⟩ := ih x.f1 (perfS th cl p x) hs.2.2
      refine ⟨x :: pre, post, by rw [h1]; rfl, fun y hy => ?_, h3, h4⟩
      rcases List.mem_cons.1 hy with rfl | hy
      · omega
      · exact h2 y hy
theorem run_len (th cl : Int) : ∀ (l : List S35) (p : Int × List S35), (List.foldl (perfS th cl) p l).2.length ≤ p.2.length + l.length := by
  intro l
  induction l with
  | nil => intro p; simp
  | cons x l ih => intro p; have := ih (perfS th cl p x); have := perfS_len th cl p x; rw [List.foldl_cons, List.length_cons]; omega
/-- After a stop the machine is idle. -/
theorem stop_idle (th cl : Int) (p : Int × List S35) (t : Int) (h : 0 ≤ p.1 ∧ p.1 ≤ 4) : (stopS th cl p t).1 = 0 := by
  unfold stopS
  have key : (perfS th cl p ⟨5, t⟩).1 = 4 := by
    unfold perfS
    have hs : p.1 = 0 ∨ p.1 = 1 ∨ p.1 = 2 ∨ p.1 = 3 ∨ p.1 = 4 := by omega
    rcases hs with e | e | e | e | e
    all_goals (rw [e]; simp [nx, erl, e])
  generalize perfS th cl p ⟨5, t⟩ = q at key
  unfold perfS
  rw [key]
  simp [nx, erl]
theorem perf_range {th cl : Int} {p : Int × List S35} {a : S35} (h : 0 ≤ p.1 ∧ p.1 ≤ 4) : 0 ≤ (perfS th cl p a).1 ∧ (perfS th cl p a).1 ≤ 4 := by
  unfold perfS
  split
  · split
    · exact h
    · unfold nx
      repeat' split
      all_goals (simp only; omega)
  · exact h
theorem fold_range {th cl : Int} : ∀ (l : List S35) (p : Int × List S35), (0 ≤ p.1 ∧ p.1 ≤ 4) → 0 ≤ (List.foldl (perfS th cl) p l).1 ∧ (List.foldl (perfS th cl) p l).1 ≤ 4 := by
  intro l
  induction l with
  | nil => intro p h; exact h
  | cons x l ih => intro p h; exact ih _ (perf_range h)
/-- Without ActThread no paper. -/
theorem no_thread (t : Int) : ∀ (l : List S35) (s : Int), (s = 0 ∨ s = 4) → (∀ x ∈ l, x.f1 ≤ t → x.f0 ≠ 1) → runTo t l s = 0 ∨ runTo t l s = 4 := by
  intro l
  induction l with
  | nil => intro s h _; exact h
  | cons x l ih =>
    intro s h hn
    simp only [runTo]
    by_cases hc : x.f1 ≤ t
    · rw [if_pos hc]
      refine ih _ ?_ (fun y hy => hn y (List.mem_cons_of_mem _ hy))
      have h1 := hn x List.mem_cons_self hc
      unfold nx
      rcases h with rfl | rfl
      · rw [if_neg (by decide), if_neg (by decide), if_neg h1]
        repeat' split
        all_goals first | exact .inl rfl | exact .inr rfl | omega
      · rw [if_neg (by decide), if_neg (by decide), if_neg h1]
        repeat' split
        all_goals first | exact .inl rfl | exact .inr rfl | omega
    · rw [if_neg hc]; exact h
end Go.Proofs.Ytoncjfgklaldnaa.MSpec
