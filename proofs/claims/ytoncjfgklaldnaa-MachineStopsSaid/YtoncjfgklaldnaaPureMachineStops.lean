/- After a stop at a moment State is Idle then, and at a later moment the machine is Threading or Running only if an act has threaded it after the stop; for all rules, acts and moments that the statement lets in. -/
import Derived.Test.YtoncjfgklaldnaaMStA0
import Derived.Test.YtoncjfgklaldnaaMVal0
import Derived.Test.YtoncjfgklaldnaaPXx21
set_option linter.unusedVariables false
namespace Go.Proofs.Ytoncjfgklaldnaa.Pure
open Go.RowKit Go.Proofs.Ytoncjfgklaldnaa.PX Go.Proofs.Ytoncjfgklaldnaa.MSpec Go.Proofs.YtoncjfgklaldnaaW.PrintWords Go.Proofs.YtoncjfgklaldnaaW.PrintLast
theorem rd_of_mem {l : List S35} {x : S35} (h : x ∈ l) : ∃ j : Nat, j < l.length ∧ rd_T35 l (j : Int) = x := by
  obtain ⟨j, hj, e⟩ := List.getElem_of_mem h
  refine ⟨j, hj, ?_⟩
  unfold rd_T35
  rw [Int.toNat_natCast, List.getD_eq_getElem?_getD, List.getElem?_eq_getElem hj]
  exact e
theorem all_le (th cl T : Int) (p : Int × List S35) (h : Vd th cl T p) : ∀ x ∈ p.2, x.f1 ≤ T := by
  intro x hx
  have := early_le h.ok p.2.length (Nat.le_refl _) x (by rw [List.take_length]; exact hx)
  rw [bef_len] at this
  have := h.le
  omega
theorem fold_vd (th cl s : Int) (hs : mom s = true) : ∀ (l : List S35) (T : Int) (p : Int × List S35), Vd th cl T p → SrtA T l → (∀ x ∈ l, x.f1 ≤ s) → T ≤ s → Vd th cl s (List.foldl (perfS th cl) p l) := by
  intro l
  induction l with
  | nil => intro T p h _ _ hT; exact h.later hT
  | cons x l ih =>
    intro T p h hl hx hT
    exact ih x.f1 _ (h.perf x hl.1 hl.2.1) hl.2.2 (fun y hy => hx y (List.mem_cons_of_mem _ hy)) (hx x List.mem_cons_self)
theorem srtA_left : ∀ (l r : List S35) (T : Int), SrtA T (l ++ r) → SrtA T l := by
  intro l
  induction l with
  | nil => intro r T _; trivial
  | cons x l ih => intro r T h; exact ⟨h.1, h.2.1, ih r _ h.2.2⟩
/-- The acts with one stop: what came before it, the stop, what came behind. -/
theorem one_stop {th cl s : Int} {l : List S35} (hc : chk th cl l = 0) (hm : mom s = true) : ∃ (q ext : List S35), (runS th cl l [s] (0, [])).2 = q ++ ext ∧ (∀ x ∈ q, x.f1 ≤ s) ∧ (∀ x ∈ ext, s < x.f1) ∧ stA q 0 = 0 ∧ (runS th cl l [s] (0, [])).2.length ≤ l.length + 2 := by
  obtain ⟨_, _, _, _, hl, hv⟩ := chk_zero hc
  have hsr := srtA_of l 0 0 hv
  obtain ⟨pre, post, e, h1, h2, h3⟩ := run_one th cl s l 0 (0, []) hsr
  have hb := mom_bd hm
  have v0 : Vd th cl s (List.foldl (perfS th cl) (0, []) pre) := fold_vd th cl s hm pre 0 (0, []) (Vd.start th cl (Int.le_refl _)) (srtA_left pre post 0 (e ▸ hsr)) h1 hb.1
  have v1 := v0.stop s (Int.le_refl _) hm
  have hi := stop_idle th cl (List.foldl (perfS th cl) (0, []) pre) s (fold_range pre (0, []) (by decide))
  obtain ⟨ext, x1, x2⟩ := perf_ext th cl post (stopS th cl (List.foldl (perfS th cl) (0, []) pre) s)
  refine ⟨_, ext, by rw [h3, x1], all_le th cl s _ v1, fun x hx => h2 x (x2 x hx), by rw [v1.st, hi], ?_⟩
  rw [h3]
  have a1 := run_len th cl post (stopS th cl (List.foldl (perfS th cl) (0, []) pre) s)
  have a2 := stopS_len th cl (List.foldl (perfS th cl) (0, []) pre) s
  have a3 := run_len th cl pre ((0 : Int), ([] : List S35))
  have a4 : l.length = pre.length + post.length := by rw [e]; simp
  simp only [List.length_nil] at a3
  omega
theorem loop_ev (a : List S35) (hl : a.length ≤ 512) (y s t : Int) (h : (∀ j : Nat, j < a.length → ¬ ((rd_T35 a (j : Int)).f0 = 1 ∧ s < (rd_T35 a (j : Int)).f1 ∧ (rd_T35 a (j : Int)).f1 ≤ t)) → y ≠ 1 ∧ y ≠ 2) :
    ∀ (d i : Nat) (b : Bool), i + d = a.length → (b = false → ∀ j : Nat, j < i → ¬ ((rd_T35 a (j : Int)).f0 = 1 ∧ s < (rd_T35 a (j : Int)).f1 ∧ (rd_T35 a (j : Int)).f1 ≤ t)) → Ev (fun k => papermilllaw30_MachineStops.l0 k a y b (a.length : Int) (i : Int) s t) true := by
  intro d
  induction d with
  | zero =>
    intro i b hi hb
    refine Ev.step (fun k => by rw [papermilllaw30_MachineStops.l0, if_neg (by omega)]) ?_
    cases b with
    | true => exact Ev.ite_pos rfl (Ev.bind awake_ev (Ev.now _))
    | false =>
      obtain ⟨h1, h2⟩ := h (fun j hj => hb rfl j (by omega))
      exact Ev.ite_neg (by decide) (Ev.ite_neg h1 (Ev.ite_neg h2 (Ev.bind awake_ev (Ev.now _))))
  | succ d ih =>
    intro i b hi hb
    refine Ev.step (fun k => by rw [papermilllaw30_MachineStops.l0, if_pos (by omega), w1025 (by omega) (by omega)]) ?_
    cases b with
    | true =>
      refine Ev.ite_pos rfl ?_
      exact_mod_cast ih (i + 1) true (by omega) (fun c => by cases c)
    | false =>
      have next : ∀ c : Bool, (c = false → ¬ ((rd_T35 a (i : Int)).f0 = 1 ∧ s < (rd_T35 a (i : Int)).f1 ∧ (rd_T35 a (i : Int)).f1 ≤ t)) → Ev (fun k => papermilllaw30_MachineStops.l0 k a y c (a.length : Int) ((i : Int) + 1) s t) true := by
        intro c hc
        have := ih (i + 1) c (by omega) (fun e j hj => by
          by_cases hji : j < i
          · exact hb rfl j hji
          · obtain rfl : j = i := by omega
            exact hc e)
        exact_mod_cast this
      refine Ev.ite_neg (by decide) (Ev.ite_pos (by omega) (Ev.ite_pos (by omega) ?_))
      by_cases h1 : (rd_T35 a (i : Int)).f0 = 1
      · refine Ev.ite_pos h1 ?_
        by_cases h2 : (rd_T35 a (i : Int)).f1 > s
        · refine Ev.ite_pos h2 (next _ ?_)
          intro c
          have := of_decide_eq_false c
          rintro ⟨_, _, h⟩
          exact this h
        · exact Ev.ite_neg h2 (next _ (fun _ => by rintro ⟨_, h, _⟩; omega))
      · exact Ev.ite_neg h1 (next _ (fun _ => by rintro ⟨h, _⟩; exact h1 h))
theorem MachineStops : papermilllaw30_MachineStops.Pure := by
  intro th cl l s t _ _ _ _ _
  refine Ev.rounds ?_
  have out : Ev (fun k => papermilllaw30_MachineStops.j0 k l true th cl s t) true := Ev.step (fun k => by rw [papermilllaw30_MachineStops.j0, if_pos rfl]) (Ev.bind awake_ev (Ev.now _))
  unfold papermilllaw30_MachineStops.f
  by_cases c1 : s < 0
  · exact Ev.ite_pos c1 out
  · refine Ev.ite_neg c1 ?_
    by_cases c2 : s > 2147483647
    · exact Ev.ite_pos c2 out
    · refine Ev.ite_neg c2 ?_
      by_cases c3 : t < s
      · exact Ev.ite_pos c3 out
      · refine Ev.ite_neg c3 ?_
        by_cases c4 : t > 2147483647
        · exact Ev.ite_pos c4 out
        · refine Ev.ite_neg c4 (Ev.bind (check_ev th cl l) ?_)
          by_cases hc : chk th cl l = 0
          · refine Ev.ite_pos hc ?_
            by_cases c5 : (l.length : Int) > 510
            · rw [decide_eq_true c5]; exact out
            · rw [decide_eq_false c5]
              have hms : mom s = true := by unfold mom; rw [if_pos (by omega), decide_eq_true (by omega)]
              have hmt : mom t = true := by unfold mom; rw [if_pos (by omega), decide_eq_true (by omega)]
              obtain ⟨q, ext, e, h1, h2, h3, h4⟩ := one_stop hc hms
              have hst : stp th cl (chk th cl l) l [s] = ((runS th cl l [s] (0, [])).2, 0) := by
                unfold stp
                rw [if_pos hc, if_neg (by simp), if_pos (by
                  intro j hj hj1
                  have := List.mem_range.1 hj
                  simp at this
                  omega), if_pos (by
                  intro j hj
                  have := List.mem_range.1 hj
                  simp at this
                  subst this
                  exact hms), if_neg (by omega)]
              have hva := stp_valid hc (l2 := [s]) (by rw [hst])
              rw [hst] at hva
              have es := stops_ev th cl l [s]
              rw [hst] at es
              simp only at hva
              generalize ha : (runS th cl l [s] (0, [])).2 = a at *
              have ec := check_ev th cl a
              rw [hva] at ec
              have x1 := state_ev th cl a s
              have x2 := state_ev th cl a t
              have r1 : runTo s a 0 = 0 := by rw [e, runT_go ext q 0 h1, h3, runT_stop h2]
              have r2 : runTo t a 0 = runTo t ext 0 := by rw [e, runT_go ext q 0 (fun x hx => by have := h1 x hx; omega), h3]
              unfold stt sto at x1 x2
              rw [if_pos hva, if_pos hms, r1] at x1
              rw [if_pos hva, if_pos hmt] at x2
              refine Ev.step (fun k => by rw [papermilllaw30_MachineStops.j0, if_neg (by decide)]) ?_
              refine Ev.bind es (Ev.ite_pos rfl (Ev.bind ec ?_))
              refine Ev.step (fun k => by rw [papermilllaw30_MachineStops.j1, if_neg (by decide)]) ?_
              refine Ev.bind x1 (Ev.bind x2 (Ev.ite_pos rfl (Ev.ite_pos rfl ?_)))
              refine Ev.step (fun k => by rw [papermilllaw30_MachineStops.j2, if_neg (by decide)]) ?_
              have hal : a.length ≤ 512 := by omega
              have := loop_ev a hal (runTo t a 0) s t (fun hn => by
                have hx : ∀ x ∈ ext, x.f1 ≤ t → x.f0 ≠ 1 := by
                  intro x hx hxt hx1
                  obtain ⟨j, hj, ej⟩ := rd_of_mem (l := a) (x := x) (by rw [e]; exact List.mem_append_right _ hx)
                  exact hn j hj (by rw [ej]; exact ⟨hx1, h2 x hx, hxt⟩)
                have := no_thread t ext 0 (.inl rfl) hx
                rw [r2]
                omega) a.length 0 false (by omega) (fun _ j hj => absurd hj (Nat.not_lt_zero _))
              exact_mod_cast this
          · exact Ev.ite_neg hc out
end Go.Proofs.Ytoncjfgklaldnaa.Pure
