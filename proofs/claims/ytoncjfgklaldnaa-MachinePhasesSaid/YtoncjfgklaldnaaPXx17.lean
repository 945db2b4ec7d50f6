-- Written by a program of this session (hyb.py), which runs the print over the translation with contracts of its own added; it is not the print itself. Lean checks it.
import Derived.Test.YtoncjfgklaldnaaPXx0
import Derived.Test.YtoncjfgklaldnaaPXx5
import Derived.Test.YtoncjfgklaldnaaPXx6
namespace Go.Proofs.Ytoncjfgklaldnaa.PX
open Go.RowKit Go.Proofs.YtoncjfgklaldnaaW.PrintWords Go.Proofs.YtoncjfgklaldnaaW.PrintLast Go.Proofs.YtoncjfgklaldnaaW.PrintMore
attribute [local go_sem] max2_int min2_int max_two min_two max_three min_three max_four min_four   -- for this text's walks alone
set_option linter.unusedVariables false
set_option linter.unusedSimpArgs false

/-! ### machine_Stops: function 24 -/
/-- The record of Stops: block gx; blocks Ls are others. -/
def Rec (B gx : Nat) (Ls : List Nat) (th cl : Int) (w : World) (st : Int) (acts : List S35) : Prop :=
  ∃ v, w.heap[gx]? = some (.cells #[v, .int .i64 th, .int .i64 cl, .int .i64 st] 66 (0, 0)) ∧ Kd.R k35 35 w B (fun k => k ≠ gx ∧ k ∉ Ls) v acts ∧ gx ∉ Ls ∧ B ≤ gx
theorem Rec.move {B gx : Nat} {Ls : List Nat} {th cl : Int} {w w1 : World} {st : Int} {acts : List S35} (h : Rec B gx Ls th cl w st acts) (hm : ∀ k, k < w.heap.size → k ∉ Ls → w1.heap[k]? = w.heap[k]?) : Rec B gx Ls th cl w1 st acts := by
  obtain ⟨v, hx, hr, hn, hb⟩ := h
  exact ⟨v, (hm gx (blk_lt hx) hn).trans hx, Kd.R_step hr (fun k hk hlt => hm k hlt hk.2), hn, hb⟩
theorem Rec.below {B gx : Nat} {Ls : List Nat} {th cl : Int} {w w1 : World} {st : Int} {acts : List S35} (h : Rec B gx Ls th cl w st acts) (hb : Below w.heap.size w w1) : Rec B gx Ls th cl w1 st acts := h.move (fun k hk _ => hb.block k hk)
theorem Rec.drewN {B gx : Nat} {Ls : List Nat} {th cl : Int} {w : World} {st : Int} {acts : List S35} (h : Rec B gx Ls th cl w st acts) (n : Nat) : Rec B gx Ls th cl (w.drewN n) st acts := h.move (fun _ _ _ => rfl)
theorem Rec.set' {B gx : Nat} {Ls : List Nat} {th cl : Int} {w : World} {st : Int} {acts : List S35} (h : Rec B gx Ls th cl w st acts) {g : Nat} (hg : g ∈ Ls) (j : Nat) (u : Value) : Rec B gx Ls th cl (w.setCell ⟨g, j, none⟩ u) st acts :=
  h.move (fun k _ hk => Below.heap_setCell w ⟨g, j, none⟩ u k (fun e => hk ((show k = g from e) ▸ hg)))
theorem Rec.more {B gx g : Nat} {Ls : List Nat} {th cl : Int} {w w1 : World} {st : Int} {acts : List S35} (h : Rec B gx Ls th cl w st acts) (hg : g = w.heap.size) (hb : Below w.heap.size w w1) : Rec B gx (g :: Ls) th cl w1 st acts := by
  refine Rec.below ?_ hb
  obtain ⟨v, hx, hr, hn, hB⟩ := h
  refine ⟨v, hx, Kd.R_mono (Kd.R_bound hr) (fun k hk => ⟨hk.1.1, ?_⟩), ?_, hB⟩
  · intro hm
    rcases List.mem_cons.1 hm with rfl | hm
    · omega
    · exact hk.1.2 hm
  · intro hm
    rcases List.mem_cons.1 hm with rfl | hm
    · exact absurd (blk_lt hx) (by omega)
    · exact hn hm
theorem Rec.less {B gx g : Nat} {Ls : List Nat} {th cl : Int} {w : World} {st : Int} {acts : List S35} (h : Rec B gx (g :: Ls) th cl w st acts) : Rec B gx Ls th cl w st acts := by
  obtain ⟨v, hx, hr, hn, hB⟩ := h
  exact ⟨v, hx, Kd.R_mono hr (fun k hk => ⟨hk.1, fun hm => hk.2 (List.mem_cons_of_mem _ hm)⟩), fun hm => hn (List.mem_cons_of_mem _ hm), hB⟩
/-- The moment of the last act; 0 if there is none. -/
def lastA (l : List S35) : Int := if l.length = 0 then 0 else (rd_T35 l ((l.length : Int) - 1)).f1
set_option maxHeartbeats 4000000 in
set_option maxRecDepth 100000 in
theorem last_calls (B gx : Nat) (Ls : List Nat) (th cl st : Int) (acts : List S35) (w : World) (hR : Rec B gx Ls th cl w st acts) (hl : acts.length ≤ 5000000000000) :
    Calls Try.prog 38 #[.pointer (some ⟨gx, 0, none⟩)] w fun e w' => e = .returned (.int .i64 (lastA acts)) ∧ Drawn0 w w' := by
  obtain ⟨v, hx, hr, hn, hB⟩ := hR
  obtain ⟨A, c, rfl, hc, hC⟩ := Kd.R_reads hr
  have h0 := (blk_cell hx 0).trans rfl
  have HX := Aside0.mk hx
  unfold lastA
  by_cases hz : acts.length = 0
  · rw [if_pos hz]
    have hz' : (acts.length == 0) = true := beq_iff_eq.2 hz
    have hz2 : ((acts.length : Int) == 0) = true := beq_iff_eq.2 (by omega)
    clear hx hr hn hB hc hC hz hl
    go_enter Try.func38, Try.ntmps38
    go_wp2
    go_ret
    exact ⟨rfl, Drawn0.refl _⟩
  · rw [if_neg hz]
    obtain ⟨ad, e1, hx0, hx1⟩ := at_T35 hC ((acts.length : Int) - 1) (by omega) (by omega)
    cases e1
    rw [show ((acts.length : Int) - 1).toNat = acts.length - 1 by omega] at hx0 hx1
    generalize rd_T35 acts ((acts.length : Int) - 1) = x at *
    obtain ⟨x0, x1⟩ := x
    simp only at hx0 hx1
    have hz' : (acts.length == 0) = false := beq_eq_false_iff_ne.2 hz
    have hz2 : ((acts.length : Int) == 0) = false := beq_eq_false_iff_ne.2 (by omega)
    have hp1_ : 1 ≤ (acts.length : Int) := by omega
    have hp2_ : 0 ≤ (acts.length : Int) - 1 := by omega
    have hp3_ : (acts.length : Int) - 1 < (acts.length : Int) := by omega
    have hp4_ : (acts.length : Int) ≤ 5000000000000 := by omega
    clear hx hr hn hB hc hC hz hl
    go_enter Try.func38, Try.ntmps38
    go_wp2
    go_quiet (fail)
    go_wp2
    go_ret
    exact ⟨rfl, ⟨_, rfl⟩⟩
theorem form35 {w : World} {b : Nat} {ok : Nat → Prop} {v : Value} {l : List S35} (h : Kd.R k35 35 w b ok v l) : ∃ A n c, v = .slice A n c := by
  obtain ⟨A, c, rfl⟩ := Kd.R_slice h
  exact ⟨A, _, c, rfl⟩
theorem rec_fresh {w : World} {gx : Nat} {Ls : List Nat} (h : gx < w.heap.size) (hl : ∀ g ∈ Ls, g < w.heap.size) : ∀ k, w.heap.size ≤ k → k ≠ gx ∧ k ∉ Ls := fun k hk => ⟨by omega, fun hm => absurd (hl k hm) (by omega)⟩
set_option maxHeartbeats 4000000 in
set_option maxRecDepth 100000 in
theorem add_calls (gx : Nat) (Ls : List Nat) (th cl st a0 a1 : Int) (acts : List S35) (w0 w : World) (hB : Below w0.heap.size w0 w) (hR : Rec w0.heap.size gx Ls th cl w st acts) (hl : acts.length < 5000000000000) (hLs : ∀ g ∈ Ls, g < w.heap.size) :
    Calls Try.prog 39 #[.pointer (some ⟨gx, 0, none⟩), .int .i64 a0, .int .i64 a1] w fun e w' => e = .returned (.tuple #[]) ∧ Below w0.heap.size w0 w' ∧ Rec w0.heap.size gx Ls th cl w' st (acts ++ [⟨a0, a1⟩]) ∧ ∀ g ∈ Ls, ∀ o, w.heap[g]? = some o → w'.heap[g]? = some o := by
  obtain ⟨v, hx, hr, hn, hb⟩ := hR
  have HB := Aside0.mk hB
  have HX := Aside0.mk hx
  have HR := Aside0.mk hr
  have HN := Aside0.mk (show gx ∉ Ls ∧ w0.heap.size ≤ gx from ⟨hn, hb⟩)
  have HL := Aside0.mk hl
  have HLS := Aside0.mk hLs
  have h0 := (blk_cell hx 0).trans rfl
  have hf0 := blk_frozen hx 0
  clear hB hx hr hn hb hl hLs
  go_enter Try.func39, Try.ntmps39
  go_wp2_with (first | ((with_reducible refine gate_builtin (b := .append) (xs := #[.tmp 10, .tmp 14]) rfl ?_); go_must (refine Kd.R_append k35 (w0 := w0) w0.heap.size rfl (.tmp 10) (.tmp 14) 29 35 (.agg #[(.int .i64 0), (.int .i64 0)]) 16 rfl Try.underlying29 info35 rfl (by decide) (by omega) v acts (⟨a0, a1⟩ : S35) [.int .i64 a0, .int .i64 a1] (fun k => k ≠ gx ∧ k ∉ Ls) (fun _ => False) rfl rfl ?aP (fun _ hk => hk.elim) ?aF HR.out HB.out HB.out.size ?aL ?_; (case aP => exact k35_mkM _ _ _ (⟨a0, a1⟩ : S35)); (case aF => exact rec_fresh (blk_lt HX.out) HLS.out); (case aL => have := HL.out; omega); intro v1 w1 ho hb hg hat; obtain ⟨A1, n1, c1, rfl⟩ := form35 ho; have HO1 := Aside0.mk ho; have HB1 := Aside0.mk hb; have HG := Aside0.mk hg; have HX1 := Aside0.mk (blk_grown HX.out hg (fun e => (HR.out.1 gx e.symm).1 rfl)); have hfo1 := blk_frozen HX1.out 0; have ho1 := (blk_cell HX1.out 0).trans rfl; clear ho hb hg hat)))
  obtain ⟨hn, hb⟩ := HN.out
  have hr := HR.out
  have hg := HG.out
  refine ⟨rfl, .tuple #[], results_none rfl _ _ _, rfl, below_set HB1.out hb, ⟨.slice A1 n1 c1, blk_put HX1.out 0 _ rfl, ?_, hn, hb⟩, fun g hg' o h => ?_⟩
  · exact Kd.R_far HO1.out (fun k hk => hk.1) _
  · exact (Below.heap_setCell w1 ⟨gx, 0, none⟩ _ g (fun e => hn ((show g = gx from e) ▸ hg'))).trans (blk_grown h hg (fun e => (hr.1 g e.symm).2 hg'))
theorem Rec.ge {B gx : Nat} {Ls : List Nat} {th cl : Int} {w : World} {st : Int} {acts : List S35} (h : Rec B gx Ls th cl w st acts) : B ≤ gx := by
  obtain ⟨v, hx, hr, hn, hb⟩ := h
  exact hb
theorem Rec.far {B gx : Nat} {Ls : List Nat} {th cl : Int} {w : World} {st : Int} {acts : List S35} (h : Rec B gx Ls th cl w st acts) : gx ∉ Ls := by
  obtain ⟨v, hx, hr, hn, hb⟩ := h
  exact hn
theorem Rec.put {B gx : Nat} {Ls : List Nat} {th cl : Int} {w : World} {st : Int} {acts : List S35} (h : Rec B gx Ls th cl w st acts) (n : Int) : Rec B gx Ls th cl (w.setCell ⟨gx, 3, none⟩ (.int .i64 n)) n acts := by
  obtain ⟨v, hx, hr, hn, hb⟩ := h
  exact ⟨v, blk_put hx 3 _ rfl, Kd.R_far hr (fun k hk => hk.1) _, hn, hb⟩
/-- An act is performed, if it is possible. -/
def perfS (th cl : Int) (p : Int × List S35) (a : S35) : Int × List S35 :=
  if (nx p.1 a.f0).2 = 0 then (if erl th cl a.f0 a.f1 (lastA p.2) = true then p else ((nx p.1 a.f0).1, p.2 ++ [a])) else p
theorem Rec.hold {B gx : Nat} {Ls : List Nat} {th cl : Int} {w : World} {st : Int} {acts : List S35} (h : Rec B gx Ls th cl w st acts) : ∃ v, w.heap[gx]? = some (.cells #[v, .int .i64 th, .int .i64 cl, .int .i64 st] 66 (0, 0)) := by
  obtain ⟨v, hx, _⟩ := h
  exact ⟨v, hx⟩
theorem next_quiet (s a n e : Int) (hn : nx s a = (n, e)) (w : World) (k : Nat) : Calls Try.prog 11 #[.int .i64 s, .int .i64 a] (w.drewN k) fun e' w' => e' = .returned (.tuple #[.int .i64 n, .int .i64 e]) ∧ ∃ m, w' = w.drewN m :=
  Calls.quiet_of ((next_any s a n e hn _).mono fun _ _ ⟨he, ⟨m, hm⟩⟩ => ⟨he, m, hm⟩)
set_option maxHeartbeats 4000000 in
set_option maxRecDepth 100000 in
theorem perform_err (gx : Nat) (Ls : List Nat) (th cl st a0 a1 n er : Int) (acts : List S35) (w0 w : World) (hB : Below w0.heap.size w0 w) (hR : Rec w0.heap.size gx Ls th cl w st acts) (hn : nx st a0 = (n, er)) (he : er ≠ 0) :
    Calls Try.prog 35 #[.pointer (some ⟨gx, 0, none⟩), .agg #[.int .i64 a0, .int .i64 a1]] w fun e w' => e = .returned (.tuple #[]) ∧ Below w0.heap.size w0 w' ∧ Rec w0.heap.size gx Ls th cl w' st acts ∧ ∀ g ∈ Ls, ∀ o, w.heap[g]? = some o → w'.heap[g]? = some o := by
  have HB := Aside0.mk hB
  have HR := Aside0.mk hR
  have HN := Aside0.mk hn
  have c0b : (er == 0) = false := beq_eq_false_iff_ne.mpr he
  have c0c : (er != 0) = true := bne_iff_ne.mpr he
  clear hB hR hn he
  go_enter Try.func35, Try.ntmps35
  go_wp2_with (first | ((with_reducible refine gate_dst (N := 3) rfl ?_); go_must (refine box_event ?hg (N := 3) ?hd (cs := #[.int .i64 a0, .int .i64 a1]) (t := 35) ?hr ?_; (case hd => rfl); (case hg => rfl); (case hr => first | (go_simp; done) | (go_simp; rfl)); intro ga hg w4 hbox hb; have HG := Aside0.mk hg; have BX := Aside0.mk hbox; have HB4 := Aside0.mk hb; have HR4 := Aside0.mk (HR.out.more hg hb); obtain ⟨v, hx⟩ := HR4.out.hold; have hx0 := (blk_cell BX.out 0).trans rfl; have hx1 := (blk_cell BX.out 1).trans rfl; have hr3 := (blk_cell hx 3).trans rfl; clear hbox hb hg hx)))
  go_quiet ((go_at_call 11; exact next_quiet st a0 n er HN.out _ _))
  go_wp2
  go_quiet (fail)
  go_wp2
  refine bodyPost_ret (results_none rfl _ _ _) rfl ?_
  refine ⟨rfl, below_then HB.out HB.out.size (pw_below_drewN (pw_below_drewN HB4.out _) _), ((HR4.out.drewN _).drewN _).less, fun g hg o h => ?_⟩
  exact blk_drewN (blk_drewN (blk_below h HB4.out) _) _
set_option maxHeartbeats 4000000 in
set_option maxRecDepth 100000 in
theorem perform_early (gx : Nat) (Ls : List Nat) (th cl st a0 a1 n : Int) (acts : List S35) (w0 w : World) (hB : Below w0.heap.size w0 w) (hR : Rec w0.heap.size gx Ls th cl w st acts) (hl : acts.length < 5000000000000) (hn : nx st a0 = (n, 0)) (he : erl th cl a0 a1 (lastA acts) = true) :
    Calls Try.prog 35 #[.pointer (some ⟨gx, 0, none⟩), .agg #[.int .i64 a0, .int .i64 a1]] w fun e w' => e = .returned (.tuple #[]) ∧ Below w0.heap.size w0 w' ∧ Rec w0.heap.size gx Ls th cl w' st acts ∧ ∀ g ∈ Ls, ∀ o, w.heap[g]? = some o → w'.heap[g]? = some o := by
  have HB := Aside0.mk hB
  have HR := Aside0.mk hR
  have HN := Aside0.mk hn
  have HE := Aside0.mk (show machine_early.f th cl a0 a1 (lastA acts) = some true by rw [erl_some, he])
  have HL := Aside0.mk hl
  clear hB hR hn he hl
  go_enter Try.func35, Try.ntmps35
  go_wp2_with (first | ((with_reducible refine gate_dst (N := 3) rfl ?_); go_must (refine box_event ?hg (N := 3) ?hd (cs := #[.int .i64 a0, .int .i64 a1]) (t := 35) ?hr ?_; (case hd => rfl); (case hg => rfl); (case hr => first | (go_simp; done) | (go_simp; rfl)); intro ga hg w4 hbox hb; have HG := Aside0.mk hg; have BX := Aside0.mk hbox; have HB4 := Aside0.mk hb; have HR4 := Aside0.mk (HR.out.more hg hb); obtain ⟨v, hx⟩ := HR4.out.hold; have HX := Aside0.mk hx; have hx0 := (blk_cell BX.out 0).trans rfl; have hx1 := (blk_cell BX.out 1).trans rfl; have hr1 := (blk_cell hx 1).trans rfl; have hr2 := (blk_cell hx 2).trans rfl; have hr3 := (blk_cell hx 3).trans rfl; clear hbox hb hg hx)))
  go_quiet ((go_at_call 11; exact next_quiet st a0 n 0 HN.out _ _))
  go_wp2
  go_region_held3 (fun w' => w'.cell? ⟨gx, 1, none⟩ = some (.int .i64 th) ∧ w'.cell? ⟨gx, 2, none⟩ = some (.int .i64 cl) ∧ w'.cell? ⟨ga, 0, none⟩ = some (.int .i64 a0) ∧ w'.cell? ⟨ga, 1, none⟩ = some (.int .i64 a1)) (first | go_keep | exact ⟨(blk_cell HX6.out 1).trans rfl, (blk_cell HX6.out 2).trans rfl, (blk_cell BX6.out 0).trans rfl, (blk_cell BX6.out 1).trans rfl⟩) ((first | (go_at_call 38; go_must (refine (last_calls w0.heap.size gx (ga :: Ls) th cl st acts _ (HR4.out.drewN _) (by have := HL.out; omega)).mono ?_; rintro e_ w5 ⟨rfl, ⟨nl, rfl⟩⟩)) | (go_at_call 37; go_must (refine (machine_early.calls th cl a0 a1 (lastA acts) true _ HE.out).mono ?_; rintro e_ w6 ⟨rfl, hb6⟩; have HX6 := Aside0.mk (blk_below (blk_drewN HX.out _) hb6); have BX6 := Aside0.mk (blk_below (blk_drewN BX.out _) hb6); have HB6 := Aside0.mk (below_step (pw_below_drewN HB4.out _) hb6); have HR6 := Aside0.mk ((HR4.out.drewN _).below hb6); clear hb6))))
  go_wp2
  refine bodyPost_ret (results_none rfl _ _ _) rfl ?_
  exact ⟨rfl, below_then HB.out HB.out.size HB6.out, HR6.out.less, fun g hg o h => blk_below h HB6.out⟩
set_option maxHeartbeats 4000000 in
set_option maxRecDepth 100000 in
theorem perform_yes (gx : Nat) (Ls : List Nat) (th cl st a0 a1 n : Int) (acts : List S35) (w0 w : World) (hB : Below w0.heap.size w0 w) (hR : Rec w0.heap.size gx Ls th cl w st acts) (hl : acts.length < 5000000000000) (hLs : ∀ g ∈ Ls, g < w.heap.size) (hn : nx st a0 = (n, 0)) (he : erl th cl a0 a1 (lastA acts) = false) :
    Calls Try.prog 35 #[.pointer (some ⟨gx, 0, none⟩), .agg #[.int .i64 a0, .int .i64 a1]] w fun e w' => e = .returned (.tuple #[]) ∧ Below w0.heap.size w0 w' ∧ Rec w0.heap.size gx Ls th cl w' n (acts ++ [⟨a0, a1⟩]) ∧ ∀ g ∈ Ls, ∀ o, w.heap[g]? = some o → w'.heap[g]? = some o := by
  have HB := Aside0.mk hB
  have HR := Aside0.mk hR
  have HN := Aside0.mk hn
  have HE := Aside0.mk (show machine_early.f th cl a0 a1 (lastA acts) = some false by rw [erl_some, he])
  have HL := Aside0.mk hl
  have HLS := Aside0.mk hLs
  clear hB hR hn he hl hLs
  go_enter Try.func35, Try.ntmps35
  go_wp2_with (first | ((with_reducible refine gate_dst (N := 3) rfl ?_); go_must (refine box_event ?hg (N := 3) ?hd (cs := #[.int .i64 a0, .int .i64 a1]) (t := 35) ?hr ?_; (case hd => rfl); (case hg => rfl); (case hr => first | (go_simp; done) | (go_simp; rfl)); intro ga hg w4 hbox hb; have HG := Aside0.mk hg; have BX := Aside0.mk hbox; have HB4 := Aside0.mk hb; have HR4 := Aside0.mk (HR.out.more hg hb); obtain ⟨v, hx⟩ := HR4.out.hold; have HX := Aside0.mk hx; have hx0 := (blk_cell BX.out 0).trans rfl; have hx1 := (blk_cell BX.out 1).trans rfl; have hr1 := (blk_cell hx 1).trans rfl; have hr2 := (blk_cell hx 2).trans rfl; have hr3 := (blk_cell hx 3).trans rfl; clear hbox hb hg hx)))
  go_quiet ((go_at_call 11; exact next_quiet st a0 n 0 HN.out _ _))
  go_wp2
  go_region_held3 (fun w' => w'.cell? ⟨gx, 1, none⟩ = some (.int .i64 th) ∧ w'.cell? ⟨gx, 2, none⟩ = some (.int .i64 cl) ∧ w'.cell? ⟨ga, 0, none⟩ = some (.int .i64 a0) ∧ w'.cell? ⟨ga, 1, none⟩ = some (.int .i64 a1)) (first | go_keep | exact ⟨(blk_cell HX6.out 1).trans rfl, (blk_cell HX6.out 2).trans rfl, (blk_cell BX6.out 0).trans rfl, (blk_cell BX6.out 1).trans rfl⟩) ((first | (go_at_call 38; go_must (refine (last_calls w0.heap.size gx (ga :: Ls) th cl st acts _ (HR4.out.drewN _) (by have := HL.out; omega)).mono ?_; rintro e_ w5 ⟨rfl, ⟨nl, rfl⟩⟩)) | (go_at_call 37; go_must (refine (machine_early.calls th cl a0 a1 (lastA acts) false _ HE.out).mono ?_; rintro e_ w6 ⟨rfl, hb6⟩; have HX6 := Aside0.mk (blk_below (blk_drewN HX.out _) hb6); have BX6 := Aside0.mk (blk_below (blk_drewN BX.out _) hb6); have HB6 := Aside0.mk (below_step (pw_below_drewN HB4.out _) hb6); have HR6 := Aside0.mk ((HR4.out.drewN _).below hb6); clear hb6))))
  have hx60 := (blk_cell BX6.out 0).trans rfl
  have hx61 := (blk_cell BX6.out 1).trans rfl
  go_wp2
  go_region_held3 (fun w' => w'.cell? ⟨ga, 0, none⟩ = some (.int .i64 a0) ∧ w'.cell? ⟨ga, 1, none⟩ = some (.int .i64 a1)) (first | go_keep | exact ⟨(blk_cell BX7.out 0).trans rfl, (blk_cell BX7.out 1).trans rfl⟩) ((first | (go_at_call 39; go_must (refine (add_calls gx (ga :: Ls) th cl st a0 a1 acts w0 _ (pw_below_drewN (n := 1) (below_then HB.out HB.out.size HB6.out)) (HR6.out.drewN 1) HL.out ?sS).mono ?_; (case sS => intro g hg; rcases List.mem_cons.1 hg with rfl | hg; exact blk_lt (blk_drewN BX6.out _); exact Nat.lt_of_lt_of_le (HLS.out g hg) HB6.out.size); rintro e_ w7 ⟨rfl, hb7, hR7, hk7⟩; have HB7 := Aside0.mk hb7; have HR7 := Aside0.mk hR7; have HK7 := Aside0.mk hk7; have BX7 := Aside0.mk (hk7 ga List.mem_cons_self _ (blk_drewN BX6.out _)); obtain ⟨v7, hx7⟩ := hR7.hold; have HX7 := Aside0.mk hx7; have hr73 := (blk_cell hx7 3).trans rfl; have hf73 := blk_frozen hx7 3; clear hb7 hR7 hk7 hx7))))
  go_wp2
  refine ⟨rfl, .tuple #[], results_none rfl _ _ _, rfl, below_set HB7.out (HR7.out.ge), (HR7.out.put n).less, fun g hg o h => ?_⟩
  refine (Below.heap_setCell w7 ⟨gx, 3, none⟩ _ g (fun e => HR7.out.far ((show g = gx from e) ▸ List.mem_cons_of_mem _ hg))).trans ?_
  exact HK7.out g (List.mem_cons_of_mem _ hg) o (blk_drewN (blk_below h HB6.out) _)
theorem perform_calls (gx : Nat) (Ls : List Nat) (th cl st a0 a1 : Int) (acts : List S35) (w0 w : World) (hB : Below w0.heap.size w0 w) (hR : Rec w0.heap.size gx Ls th cl w st acts) (hl : acts.length < 5000000000000) (hLs : ∀ g ∈ Ls, g < w.heap.size) :
    Calls Try.prog 35 #[.pointer (some ⟨gx, 0, none⟩), .agg #[.int .i64 a0, .int .i64 a1]] w fun e w' => e = .returned (.tuple #[]) ∧ Below w0.heap.size w0 w' ∧ Rec w0.heap.size gx Ls th cl w' (perfS th cl (st, acts) ⟨a0, a1⟩).1 (perfS th cl (st, acts) ⟨a0, a1⟩).2 ∧ ∀ g ∈ Ls, ∀ o, w.heap[g]? = some o → w'.heap[g]? = some o := by
  obtain ⟨n, er, hn⟩ : ∃ n er, nx st a0 = (n, er) := ⟨_, _, rfl⟩
  unfold perfS
  simp only [hn]
  by_cases he : er = 0
  · rw [if_pos he]
    subst he
    cases hr : erl th cl a0 a1 (lastA acts) with
    | true => rw [if_pos rfl]; exact perform_early gx Ls th cl st a0 a1 n acts w0 w hB hR hl hn hr
    | false => rw [if_neg (by decide)]; exact perform_yes gx Ls th cl st a0 a1 n acts w0 w hB hR hl hLs hn hr
  · rw [if_neg he]
    exact perform_err gx Ls th cl st a0 a1 n er acts w0 w hB hR hn he
theorem perfS_len (th cl : Int) (p : Int × List S35) (a : S35) : (perfS th cl p a).2.length ≤ p.2.length + 1 := by
  unfold perfS
  split
  · split
    · omega
    · simp
  · omega
def stopS (th cl : Int) (p : Int × List S35) (t : Int) : Int × List S35 := perfS th cl (perfS th cl p ⟨5, t⟩) ⟨6, t⟩
theorem stopS_len (th cl : Int) (p : Int × List S35) (t : Int) : (stopS th cl p t).2.length ≤ p.2.length + 2 := by
  unfold stopS
  have h1 := perfS_len th cl p ⟨5, t⟩
  have h2 := perfS_len th cl (perfS th cl p ⟨5, t⟩) ⟨6, t⟩
  omega
set_option maxHeartbeats 4000000 in
set_option maxRecDepth 100000 in
theorem stop_calls (gx : Nat) (Ls : List Nat) (th cl st t : Int) (acts : List S35) (w0 w : World) (hB : Below w0.heap.size w0 w) (hR : Rec w0.heap.size gx Ls th cl w st acts) (hl : acts.length < 4000000000000) (hLs : ∀ g ∈ Ls, ∃ o, w.heap[g]? = some o) :
    Calls Try.prog 34 #[.pointer (some ⟨gx, 0, none⟩), .int .i64 t] w fun e w' => e = .returned (.tuple #[]) ∧ Below w0.heap.size w0 w' ∧ Rec w0.heap.size gx Ls th cl w' (stopS th cl (st, acts) t).1 (stopS th cl (st, acts) t).2 ∧ ∀ g ∈ Ls, ∀ o, w.heap[g]? = some o → w'.heap[g]? = some o := by
  have HB := Aside0.mk hB
  have HR := Aside0.mk hR
  have HL := Aside0.mk hl
  have HLS := Aside0.mk hLs
  have tok1 : True := trivial
  clear hB hR hl hLs
  go_enter Try.func34, Try.ntmps34
  go_wp2_with (first | (go_at_call 35; have _t := tok1; go_must (refine (perform_calls gx Ls th cl st 5 t acts w0 _ HB.out HR.out (by have := HL.out; omega) (fun g hg => blk_lt (HLS.out g hg).choose_spec)).mono ?_; rintro e_ w1 ⟨rfl, hb, hR1, hk⟩; have HB1 := Aside0.mk hb; have HR1 := Aside0.mk hR1; have HK1 := Aside0.mk hk; clear hb hR1 hk tok1 _t)) | (go_at_call 35; go_must (refine (perform_calls gx Ls th cl _ 6 t _ w0 _ HB1.out HR1.out (by have := HL.out; have := perfS_len th cl (st, acts) ⟨5, t⟩; simp only at this; omega) (fun g hg => blk_lt (HK1.out g hg _ (HLS.out g hg).choose_spec))).mono ?_; rintro e_ w2 ⟨rfl, hb, hR2, hk⟩; have HB2 := Aside0.mk hb; have HR2 := Aside0.mk hR2; have HK2 := Aside0.mk hk; clear hb hR2 hk)))
  refine ⟨rfl, .tuple #[], results_none rfl _ _ _, rfl, HB2.out, HR2.out, fun g hg o h => HK2.out g hg o (HK1.out g hg o h)⟩
/-- The stops before a moment. -/
def adv (th cl x1 : Int) : List Int → Int × List S35 → List Int × (Int × List S35)
  | [], p => ([], p)
  | t :: ts, p => if t < x1 then adv th cl x1 ts (stopS th cl p t) else (t :: ts, p)
def runS (th cl : Int) : List S35 → List Int → Int × List S35 → Int × List S35
  | [], ts, p => List.foldl (stopS th cl) p ts
  | x :: l, ts, p => runS th cl l (adv th cl x.f1 ts p).1 (perfS th cl (adv th cl x.f1 ts p).2 x)
theorem rdi_drop (l : List Int) (i : Nat) (h : i < l.length) : l.drop i = rd l i :: l.drop (i + 1) := by
  rw [List.drop_eq_getElem_cons h]
  congr 1
  unfold rd
  rw [Int.toNat_natCast, List.getD_eq_getElem?_getD, List.getElem?_eq_getElem h]
  rfl
theorem Rec.start {B gx : Nat} {th cl : Int} {w : World} {Ls : List Nat} (hx : w.heap[gx]? = some (.cells #[.slice none 0 0, .int .i64 th, .int .i64 cl, .int .i64 0] 66 (0, 0))) (hn : gx ∉ Ls) (hb : B ≤ gx) : Rec B gx Ls th cl w 0 [] :=
  ⟨.slice none 0 0, hx, Kd.R_nil _ _ _ _ _, hn, hb⟩
set_option maxHeartbeats 8000000 in
set_option maxRecDepth 100000 in
theorem Stops_bad (k : Nat) (th cl : Int) (A1 : Option Addr) (c1 : Nat) (l1 : List S35) (A2 : Option Addr) (c2 : Nat) (l2 : List Int) (er : Int) (w : World) (hr1 : Kd.C k35 w A1 l1.length l1) (hc1 : l1.length ≤ c1) (hr2 : Kd.C (Kd.int .i64) w A2 l2.length l2) (hc2 : l2.length ≤ c2) (he : machine_Check.f k th cl l1 = some er) (h0 : er ≠ 0) :
    Calls Try.prog 24 #[.agg #[.int .i64 th, .int .i64 cl], .slice A1 l1.length c1, .slice A2 l2.length c2] w fun e w' => ∃ v0_ : Value, e = .returned (.tuple #[v0_, .int .i64 er]) ∧ Kd.R k35 35 w' w.heap.size (fun _ => True) v0_ [] ∧ Below w.heap.size w w' := by
  have HR1 := Aside0.mk hr1
  have HC1 := Aside0.mk hc1
  have HR2 := Aside0.mk hr2
  have HC2 := Aside0.mk hc2
  have HE := Aside0.mk he
  clear hr1 hc1 hr2 hc2 he
  have c0b : (er == 0) = false := beq_eq_false_iff_ne.mpr h0
  have c0c : (er != 0) = true := bne_iff_ne.mpr h0
  clear h0
  go_enter Try.func24, Try.ntmps24
  go_wp2_with (first | ((with_reducible refine gate_dst (N := 3) rfl ?_); go_must (refine box_event ?hg (N := 3) ?hd (cs := #[.int .i64 th, .int .i64 cl]) (t := 28) ?hr ?_; (case hd => rfl); (case hg => rfl); (case hr => first | (go_simp; done) | (go_simp; rfl)); intro gr hg w3 hbox hb; have BR := Aside0.mk hbox; have HB := Aside0.mk hb; have hr0 := (blk_cell BR.out 0).trans rfl; have hr1 := (blk_cell BR.out 1).trans rfl; have HGR := Aside0.mk (show w.heap.size ≤ gr from Nat.le_of_eq hg.symm); clear hbox hb hg)) | (go_at_call 14; go_must (refine (machine_Check.calls k th cl _ c1 l1 er _ (Kd.C_below HR1.out HB.out) HC1.out HE.out).mono ?_; rintro e_ w4 ⟨rfl, hb⟩; have BR4 := Aside0.mk (blk_below BR.out hb); have HB4 := Aside0.mk (below_step HB.out hb); clear hb)))
  go_ret2
  exact ⟨.slice none 0 0, rfl, Kd.R_nil _ _ _ _ _, HB4.out⟩
set_option maxHeartbeats 8000000 in
set_option maxRecDepth 100000 in
theorem Stops_full (k : Nat) (th cl : Int) (A1 : Option Addr) (c1 : Nat) (l1 : List S35) (A2 : Option Addr) (c2 : Nat) (l2 : List Int) (w : World) (hr1 : Kd.C k35 w A1 l1.length l1) (hc1 : l1.length ≤ c1) (hr2 : Kd.C (Kd.int .i64) w A2 l2.length l2) (hc2 : l2.length ≤ c2) (he : machine_Check.f k th cl l1 = some 0) (h0 : 512 < l2.length) :
    Calls Try.prog 24 #[.agg #[.int .i64 th, .int .i64 cl], .slice A1 l1.length c1, .slice A2 l2.length c2] w fun e w' => ∃ v0_ : Value, e = .returned (.tuple #[v0_, .int .i64 8]) ∧ Kd.R k35 35 w' w.heap.size (fun _ => True) v0_ [] ∧ Below w.heap.size w w' := by
  have HR1 := Aside0.mk hr1
  have HC1 := Aside0.mk hc1
  have HR2 := Aside0.mk hr2
  have HC2 := Aside0.mk hc2
  have HE := Aside0.mk he
  clear hr1 hc1 hr2 hc2 he
  have c0b : decide (512 < l2.length) = true := decide_eq_true h0
  have c0c : decide ((512 : Int) < (l2.length : Int)) = true := decide_eq_true (by omega)
  clear h0
  go_enter Try.func24, Try.ntmps24
  go_wp2_with (first | ((with_reducible refine gate_dst (N := 3) rfl ?_); go_must (refine box_event ?hg (N := 3) ?hd (cs := #[.int .i64 th, .int .i64 cl]) (t := 28) ?hr ?_; (case hd => rfl); (case hg => rfl); (case hr => first | (go_simp; done) | (go_simp; rfl)); intro gr hg w3 hbox hb; have BR := Aside0.mk hbox; have HB := Aside0.mk hb; have hr0 := (blk_cell BR.out 0).trans rfl; have hr1 := (blk_cell BR.out 1).trans rfl; have HGR := Aside0.mk (show w.heap.size ≤ gr from Nat.le_of_eq hg.symm); clear hbox hb hg)) | (go_at_call 14; go_must (refine (machine_Check.calls k th cl _ c1 l1 0 _ (Kd.C_below HR1.out HB.out) HC1.out HE.out).mono ?_; rintro e_ w4 ⟨rfl, hb⟩; have BR4 := Aside0.mk (blk_below BR.out hb); have HB4 := Aside0.mk (below_step HB.out hb); clear hb)))
  go_ret2
  exact ⟨.slice none 0 0, rfl, Kd.R_nil _ _ _ _ _, HB4.out⟩
set_option maxHeartbeats 8000000 in
set_option maxRecDepth 100000 in
theorem Stops_order (k : Nat) (th cl : Int) (A1 : Option Addr) (c1 : Nat) (l1 : List S35) (A2 : Option Addr) (c2 : Nat) (l2 : List Int) (w : World) (hr1 : Kd.C k35 w A1 l1.length l1) (hc1 : l1.length ≤ c1) (hr2 : Kd.C (Kd.int .i64) w A2 l2.length l2) (hc2 : l2.length ≤ c2) (he : machine_Check.f k th cl l1 = some 0) (h512 : l2.length ≤ 512) (hs : ∃ j : Nat, 1 ≤ j ∧ j < l2.length ∧ rd l2 (j : Int) < rd l2 ((j - 1 : Nat) : Int)) :
    Calls Try.prog 24 #[.agg #[.int .i64 th, .int .i64 cl], .slice A1 l1.length c1, .slice A2 l2.length c2] w fun e w' => ∃ v0_ : Value, e = .returned (.tuple #[v0_, .int .i64 9]) ∧ Kd.R k35 35 w' w.heap.size (fun _ => True) v0_ [] ∧ Below w.heap.size w w' := by
  have HR1 := Aside0.mk hr1
  have HC1 := Aside0.mk hc1
  have HR2 := Aside0.mk hr2
  have HC2 := Aside0.mk hc2
  have HE := Aside0.mk he
  clear hr1 hc1 hr2 hc2 he
  have HS := Aside0.mk hs
  have H512 := Aside0.mk h512
  have c1b : decide (512 < l2.length) = false := decide_eq_false (by omega)
  have c1c : decide ((512 : Int) < (l2.length : Int)) = false := decide_eq_false (by omega)
  clear hs h512
  go_enter Try.func24, Try.ntmps24
  go_wp2_with (first | ((with_reducible refine gate_dst (N := 3) rfl ?_); go_must (refine box_event ?hg (N := 3) ?hd (cs := #[.int .i64 th, .int .i64 cl]) (t := 28) ?hr ?_; (case hd => rfl); (case hg => rfl); (case hr => first | (go_simp; done) | (go_simp; rfl)); intro gr hg w3 hbox hb; have BR := Aside0.mk hbox; have HB := Aside0.mk hb; have hr0 := (blk_cell BR.out 0).trans rfl; have hr1 := (blk_cell BR.out 1).trans rfl; have HGR := Aside0.mk (show w.heap.size ≤ gr from Nat.le_of_eq hg.symm); clear hbox hb hg)) | (go_at_call 14; go_must (refine (machine_Check.calls k th cl _ c1 l1 0 _ (Kd.C_below HR1.out HB.out) HC1.out HE.out).mono ?_; rintro e_ w4 ⟨rfl, hb⟩; have BR4 := Aside0.mk (blk_below BR.out hb); have HB4 := Aside0.mk (below_step HB.out hb); clear hb)))
  go_loopg [9] l2.length (fun kq v9 w' => ∃ i : Nat, v9 = .int .i64 i ∧ 1 ≤ i ∧ Aside0 (kq + i = l2.length + 1 ∨ (kq = 0 ∧ l2.length < i)) ∧ Aside0 (Below w.heap.size w w') ∧ Aside0 (w'.heap[gr]? = some (.cells #[.int .i64 th, .int .i64 cl] 28 (0, 0))) ∧ Aside0 (∃ j : Nat, i ≤ j ∧ j < l2.length ∧ rd l2 (j : Int) < rd l2 ((j - 1 : Nat) : Int)))
  case atStart => exact ⟨1, rfl, Nat.le_refl _, ⟨by omega⟩, HB4, BR4, HS⟩
  case round =>
    obtain ⟨i, rfl, hi1, HN, HB5, BR5, HX⟩ := hrel
    clear HB HB4 BR BR4
    by_cases hi : i < l2.length
    · obtain ⟨k1, rfl⟩ : ∃ k1, gk = k1 + 1 := ⟨gk - 1, by have := HN.out; omega⟩
      obtain ⟨ad, e1, hx0⟩ := Kd.at_int HR2.out (i : Int) (by omega) (by omega)
      cases e1
      obtain ⟨ad2, e2, hx1⟩ := Kd.at_int HR2.out ((i - 1 : Nat) : Int) (by omega) (by omega)
      cases e2
      rw [Int.toNat_natCast] at hx0 hx1
      replace hx0 := (HB5.out.cell (World.block_lt_of_cell? w _ hx0)).trans hx0
      replace hx1 := (HB5.out.cell (World.block_lt_of_cell? w _ hx1)).trans hx1
      have hit : decide (i < l2.length) = true := decide_eq_true hi
      have q0 : (i : Int) < (l2.length : Int) := by omega
      have q1 : 0 ≤ (i : Int) := by omega
      have q2 : (l2.length : Int) ≤ 512 := by have := H512.out; omega
      have q3 : 1 ≤ (i : Int) := by omega
      have q4 : 0 ≤ (i : Int) - 1 := by omega
      have q5 : (i : Int) - 1 < (l2.length : Int) := by omega
      by_cases hc : rd l2 (i : Int) < rd l2 ((i - 1 : Nat) : Int)
      · have hcb : decide (rd l2 (i : Int) < rd l2 ((i - 1 : Nat) : Int)) = true := decide_eq_true hc
        clear hc hi
        go_wp2
        go_quiet (fail)
        go_wp2
        go_ret2
        exact ⟨.slice none 0 0, rfl, Kd.R_nil _ _ _ _ _, pw_below_drewN HB5.out _⟩
      · have hcb : decide (rd l2 (i : Int) < rd l2 ((i - 1 : Nat) : Int)) = false := decide_eq_false hc
        have HX' : Aside0 (∃ j : Nat, i + 1 ≤ j ∧ j < l2.length ∧ rd l2 (j : Int) < rd l2 ((j - 1 : Nat) : Int)) := by
          obtain ⟨j, h1, h2, h3⟩ := HX.out
          refine ⟨j, ?_, h2, h3⟩
          rcases Nat.lt_or_ge i j with h | h
          · exact h
          · obtain rfl : i = j := by omega
            exact absurd h3 hc
        clear hc hi HX
        go_wp2
        go_quiet (fail)
        go_wp2
        go_roundg k1
        case measure => omega
        case rel => exact ⟨i + 1, by go_num, by omega, ⟨by have := HN.out; omega⟩, ⟨pw_below_drewN HB5.out _⟩, ⟨blk_drewN BR5.out _⟩, HX'⟩
    · exact absurd HX.out (by rintro ⟨j, h1, h2, _⟩; omega)
set_option maxHeartbeats 8000000 in
set_option maxRecDepth 100000 in
theorem Stops_moment (k : Nat) (th cl : Int) (A1 : Option Addr) (c1 : Nat) (l1 : List S35) (A2 : Option Addr) (c2 : Nat) (l2 : List Int) (w : World) (hr1 : Kd.C k35 w A1 l1.length l1) (hc1 : l1.length ≤ c1) (hr2 : Kd.C (Kd.int .i64) w A2 l2.length l2) (hc2 : l2.length ≤ c2) (he : machine_Check.f k th cl l1 = some 0) (h512 : l2.length ≤ 512) (hs : ∀ j : Nat, 1 ≤ j → j < l2.length → ¬ rd l2 (j : Int) < rd l2 ((j - 1 : Nat) : Int)) (hm : ∃ j : Nat, 0 ≤ j ∧ j < l2.length ∧ mom (rd l2 (j : Int)) = false) :
    Calls Try.prog 24 #[.agg #[.int .i64 th, .int .i64 cl], .slice A1 l1.length c1, .slice A2 l2.length c2] w fun e w' => ∃ v0_ : Value, e = .returned (.tuple #[v0_, .int .i64 1]) ∧ Kd.R k35 35 w' w.heap.size (fun _ => True) v0_ [] ∧ Below w.heap.size w w' := by
  have HR1 := Aside0.mk hr1
  have HC1 := Aside0.mk hc1
  have HR2 := Aside0.mk hr2
  have HC2 := Aside0.mk hc2
  have HE := Aside0.mk he
  clear hr1 hc1 hr2 hc2 he
  have HSORT := Aside0.mk hs
  have HM := Aside0.mk hm
  have H512 := Aside0.mk h512
  have c1b : decide (512 < l2.length) = false := decide_eq_false (by omega)
  have c1c : decide ((512 : Int) < (l2.length : Int)) = false := decide_eq_false (by omega)
  clear hs h512 hm
  go_enter Try.func24, Try.ntmps24
  go_wp2_with (first | ((with_reducible refine gate_dst (N := 3) rfl ?_); go_must (refine box_event ?hg (N := 3) ?hd (cs := #[.int .i64 th, .int .i64 cl]) (t := 28) ?hr ?_; (case hd => rfl); (case hg => rfl); (case hr => first | (go_simp; done) | (go_simp; rfl)); intro gr hg w3 hbox hb; have BR := Aside0.mk hbox; have HB := Aside0.mk hb; have hr0 := (blk_cell BR.out 0).trans rfl; have hr1 := (blk_cell BR.out 1).trans rfl; have HGR := Aside0.mk (show w.heap.size ≤ gr from Nat.le_of_eq hg.symm); clear hbox hb hg)) | (go_at_call 14; go_must (refine (machine_Check.calls k th cl _ c1 l1 0 _ (Kd.C_below HR1.out HB.out) HC1.out HE.out).mono ?_; rintro e_ w4 ⟨rfl, hb⟩; have BR4 := Aside0.mk (blk_below BR.out hb); have HB4 := Aside0.mk (below_step HB.out hb); clear hb)))
  go_loopg [9] l2.length (fun kq v9 w' => ∃ i : Nat, v9 = .int .i64 i ∧ 1 ≤ i ∧ Aside0 (kq + i = l2.length + 1 ∨ (kq = 0 ∧ l2.length < i)) ∧ Aside0 (Below w.heap.size w w') ∧ Aside0 (w'.heap[gr]? = some (.cells #[.int .i64 th, .int .i64 cl] 28 (0, 0))) ∧ True)
  case atStart => exact ⟨1, rfl, Nat.le_refl _, ⟨by omega⟩, HB4, BR4, trivial⟩
  case round =>
    obtain ⟨i, rfl, hi1, HN, HB5, BR5, HX⟩ := hrel
    clear HB HB4 BR BR4
    by_cases hi : i < l2.length
    · obtain ⟨k1, rfl⟩ : ∃ k1, gk = k1 + 1 := ⟨gk - 1, by have := HN.out; omega⟩
      obtain ⟨ad, e1, hx0⟩ := Kd.at_int HR2.out (i : Int) (by omega) (by omega)
      cases e1
      obtain ⟨ad2, e2, hx1⟩ := Kd.at_int HR2.out ((i - 1 : Nat) : Int) (by omega) (by omega)
      cases e2
      rw [Int.toNat_natCast] at hx0 hx1
      replace hx0 := (HB5.out.cell (World.block_lt_of_cell? w _ hx0)).trans hx0
      replace hx1 := (HB5.out.cell (World.block_lt_of_cell? w _ hx1)).trans hx1
      have hit : decide (i < l2.length) = true := decide_eq_true hi
      have q0 : (i : Int) < (l2.length : Int) := by omega
      have q1 : 0 ≤ (i : Int) := by omega
      have q2 : (l2.length : Int) ≤ 512 := by have := H512.out; omega
      have q3 : 1 ≤ (i : Int) := by omega
      have q4 : 0 ≤ (i : Int) - 1 := by omega
      have q5 : (i : Int) - 1 < (l2.length : Int) := by omega
      have hcb : decide (rd l2 (i : Int) < rd l2 ((i - 1 : Nat) : Int)) = false := decide_eq_false (by have := HSORT.out i hi1 hi; omega)
      clear hi
      go_wp2
      go_quiet (fail)
      go_wp2
      go_roundg k1
      case measure => omega
      case rel => exact ⟨i + 1, by go_num, by omega, ⟨by have := HN.out; omega⟩, ⟨pw_below_drewN HB5.out _⟩, ⟨blk_drewN BR5.out _⟩, trivial⟩
    · have hit : decide (i < l2.length) = false := decide_eq_false hi
      clear hi HN
      go_wp2
      go_loopg [45] l2.length (fun kq v45 w' => ∃ i : Nat, v45 = .int .i64 i ∧ Aside0 (kq + i = l2.length) ∧ Aside0 (Below w.heap.size w w') ∧ Aside0 (w'.heap[gr]? = some (.cells #[.int .i64 th, .int .i64 cl] 28 (0, 0))) ∧ Aside0 (∃ j : Nat, i ≤ j ∧ j < l2.length ∧ mom (rd l2 (j : Int)) = false))
      case atStart => exact ⟨0, rfl, ⟨rfl⟩, HB5, BR5, HM⟩
      case round =>
        clear HB5 BR5
        obtain ⟨j, rfl, HN, HB6, BR6, HX⟩ := hrel
        by_cases hj : j < l2.length
        · obtain ⟨k1, rfl⟩ : ∃ k1, gk = k1 + 1 := ⟨gk - 1, by have := HN.out; omega⟩
          obtain ⟨ad, e1, hx0⟩ := Kd.at_int HR2.out (j : Int) (by omega) (by omega)
          cases e1
          rw [Int.toNat_natCast] at hx0
          replace hx0 := (HB6.out.cell (World.block_lt_of_cell? w _ hx0)).trans hx0
          have hjt : decide (j < l2.length) = true := decide_eq_true hj
          have q0 : (j : Int) < (l2.length : Int) := by omega
          have q1 : 0 ≤ (j : Int) := by omega
          have q2 : (l2.length : Int) ≤ 512 := by have := H512.out; omega
          cases hc : mom (rd l2 (j : Int)) with
          | false =>
            have HMM := Aside0.mk (show machine_moment.f (rd l2 (j : Int)) = some false by rw [mom_some, hc])
            clear hc hj
            go_wp2_with (first | (go_at_call 29; go_must (refine (machine_moment.calls (rd l2 (j : Int)) false _ HMM.out).mono ?_; rintro e w' ⟨rfl, ⟨nd, rfl⟩⟩)))
            go_ret2
            exact ⟨.slice none 0 0, rfl, Kd.R_nil _ _ _ _ _, pw_below_drewN HB6.out _⟩
          | true =>
            have HMM := Aside0.mk (show machine_moment.f (rd l2 (j : Int)) = some true by rw [mom_some, hc])
            have HX' : Aside0 (∃ j' : Nat, j + 1 ≤ j' ∧ j' < l2.length ∧ mom (rd l2 (j' : Int)) = false) := by
              obtain ⟨j', h1, h2, h3⟩ := HX.out
              refine ⟨j', ?_, h2, h3⟩
              rcases Nat.lt_or_ge j j' with h | h
              · exact h
              · obtain rfl : j = j' := by omega
                rw [hc] at h3; cases h3
            clear hc hj HX
            go_wp2_with (first | (go_at_call 29; go_must (refine (machine_moment.calls (rd l2 (j : Int)) true _ HMM.out).mono ?_; rintro e w' ⟨rfl, ⟨nd, rfl⟩⟩)))
            go_roundg k1
            case measure => omega
            case rel => exact ⟨j + 1, by go_num, ⟨by have := HN.out; omega⟩, ⟨pw_below_drewN HB6.out _⟩, ⟨blk_drewN BR6.out _⟩, HX'⟩
        · exact absurd HX.out (by rintro ⟨j', h1, h2, _⟩; omega)
set_option maxHeartbeats 8000000 in
set_option maxRecDepth 100000 in
theorem Stops_good (k : Nat) (th cl : Int) (A1 : Option Addr) (c1 : Nat) (l1 : List S35) (A2 : Option Addr) (c2 : Nat) (l2 : List Int) (w : World) (hr1 : Kd.C k35 w A1 l1.length l1) (hc1 : l1.length ≤ c1) (hr2 : Kd.C (Kd.int .i64) w A2 l2.length l2) (hc2 : l2.length ≤ c2) (he : machine_Check.f k th cl l1 = some 0) (h1512 : l1.length ≤ 512) (h512 : l2.length ≤ 512) (hs : ∀ j : Nat, 1 ≤ j → j < l2.length → rd l2 ((j - 1 : Nat) : Int) ≤ rd l2 (j : Int)) (hm : ∀ j : Nat, j < l2.length → mom (rd l2 (j : Int)) = true) (fin : Int × List S35) (hfin : runS th cl l1 l2 (0, []) = fin) (r1 : List S35) (r2 : Int) (hres : (if 512 < fin.2.length then (([] : List S35), (8 : Int)) else (fin.2, 0)) = (r1, r2)) :
    Calls Try.prog 24 #[.agg #[.int .i64 th, .int .i64 cl], .slice A1 l1.length c1, .slice A2 l2.length c2] w fun e w' => ∃ v0_ : Value, e = .returned (.tuple #[v0_, .int .i64 r2]) ∧ Kd.R k35 35 w' w.heap.size (fun _ => True) v0_ r1 ∧ Below w.heap.size w w' := by
  have HR1 := Aside0.mk hr1
  have HC1 := Aside0.mk hc1
  have HR2 := Aside0.mk hr2
  have HC2 := Aside0.mk hc2
  have HE := Aside0.mk he
  clear hr1 hc1 hr2 hc2 he
  have HSORT := Aside0.mk hs
  have HMOM := Aside0.mk hm
  have H512 := Aside0.mk h512
  have H1512 := Aside0.mk h1512
  have HFIN := Aside0.mk hfin
  have HRES := Aside0.mk hres
  have c1b : decide (512 < l2.length) = false := decide_eq_false (by omega)
  have c1c : decide ((512 : Int) < (l2.length : Int)) = false := decide_eq_false (by omega)
  clear hs h512 hm h1512 hfin hres
  go_enter Try.func24, Try.ntmps24
  go_wp2_with (first | ((with_reducible refine gate_dst (N := 3) rfl ?_); go_must (refine box_event ?hg (N := 3) ?hd (cs := #[.int .i64 th, .int .i64 cl]) (t := 28) ?hr ?_; (case hd => rfl); (case hg => rfl); (case hr => first | (go_simp; done) | (go_simp; rfl)); intro gr hg w3 hbox hb; have BR := Aside0.mk hbox; have HB := Aside0.mk hb; have hr0 := (blk_cell BR.out 0).trans rfl; have hr1 := (blk_cell BR.out 1).trans rfl; have HGR := Aside0.mk (show w.heap.size ≤ gr from Nat.le_of_eq hg.symm); clear hbox hb hg)) | (go_at_call 14; go_must (refine (machine_Check.calls k th cl _ c1 l1 0 _ (Kd.C_below HR1.out HB.out) HC1.out HE.out).mono ?_; rintro e_ w4 ⟨rfl, hb⟩; have BR4 := Aside0.mk (blk_below BR.out hb); have HB4 := Aside0.mk (below_step HB.out hb); clear hb)))
  go_loopg [9] l2.length (fun kq v9 w' => ∃ i : Nat, v9 = .int .i64 i ∧ 1 ≤ i ∧ Aside0 (kq + i = l2.length + 1 ∨ (kq = 0 ∧ l2.length < i)) ∧ Aside0 (Below w.heap.size w w') ∧ Aside0 (w'.heap[gr]? = some (.cells #[.int .i64 th, .int .i64 cl] 28 (0, 0))) ∧ True)
  case atStart => exact ⟨1, rfl, Nat.le_refl _, ⟨by omega⟩, HB4, BR4, trivial⟩
  case round =>
    obtain ⟨i, rfl, hi1, HN, HB5, BR5, HX⟩ := hrel
    clear HB HB4 BR BR4
    by_cases hi : i < l2.length
    · obtain ⟨k1, rfl⟩ : ∃ k1, gk = k1 + 1 := ⟨gk - 1, by have := HN.out; omega⟩
      obtain ⟨ad, e1, hx0⟩ := Kd.at_int HR2.out (i : Int) (by omega) (by omega)
      cases e1
      obtain ⟨ad2, e2, hx1⟩ := Kd.at_int HR2.out ((i - 1 : Nat) : Int) (by omega) (by omega)
      cases e2
      rw [Int.toNat_natCast] at hx0 hx1
      replace hx0 := (HB5.out.cell (World.block_lt_of_cell? w _ hx0)).trans hx0
      replace hx1 := (HB5.out.cell (World.block_lt_of_cell? w _ hx1)).trans hx1
      have hit : decide (i < l2.length) = true := decide_eq_true hi
      have q0 : (i : Int) < (l2.length : Int) := by omega
      have q1 : 0 ≤ (i : Int) := by omega
      have q2 : (l2.length : Int) ≤ 512 := by have := H512.out; omega
      have q3 : 1 ≤ (i : Int) := by omega
      have q4 : 0 ≤ (i : Int) - 1 := by omega
      have q5 : (i : Int) - 1 < (l2.length : Int) := by omega
      have hcb : decide (rd l2 (i : Int) < rd l2 ((i - 1 : Nat) : Int)) = false := decide_eq_false (by have := HSORT.out i hi1 hi; omega)
      clear hi
      go_wp2
      go_quiet (fail)
      go_wp2
      go_roundg k1
      case measure => omega
      case rel => exact ⟨i + 1, by go_num, by omega, ⟨by have := HN.out; omega⟩, ⟨pw_below_drewN HB5.out _⟩, ⟨blk_drewN BR5.out _⟩, trivial⟩
    · have hit : decide (i < l2.length) = false := decide_eq_false hi
      clear hi HN
      go_wp2
      go_loopg [45] l2.length (fun kq v45 w' => ∃ i : Nat, v45 = .int .i64 i ∧ Aside0 (kq + i = l2.length) ∧ Aside0 (Below w.heap.size w w') ∧ Aside0 (w'.heap[gr]? = some (.cells #[.int .i64 th, .int .i64 cl] 28 (0, 0))) ∧ True)
      case atStart => exact ⟨0, rfl, ⟨rfl⟩, HB5, BR5, trivial⟩
      case round =>
        clear HB5 BR5
        obtain ⟨j, rfl, HN, HB6, BR6, HX⟩ := hrel
        by_cases hj : j < l2.length
        · obtain ⟨k1, rfl⟩ : ∃ k1, gk = k1 + 1 := ⟨gk - 1, by have := HN.out; omega⟩
          obtain ⟨ad, e1, hx0⟩ := Kd.at_int HR2.out (j : Int) (by omega) (by omega)
          cases e1
          rw [Int.toNat_natCast] at hx0
          replace hx0 := (HB6.out.cell (World.block_lt_of_cell? w _ hx0)).trans hx0
          have hjt : decide (j < l2.length) = true := decide_eq_true hj
          have q0 : (j : Int) < (l2.length : Int) := by omega
          have q1 : 0 ≤ (j : Int) := by omega
          have q2 : (l2.length : Int) ≤ 512 := by have := H512.out; omega
          have HMM := Aside0.mk (show machine_moment.f (rd l2 (j : Int)) = some true by rw [mom_some, HMOM.out j hj])
          clear hj
          go_wp2_with (first | (go_at_call 29; go_must (refine (machine_moment.calls (rd l2 (j : Int)) true _ HMM.out).mono ?_; rintro e w' ⟨rfl, ⟨nd, rfl⟩⟩)))
          go_roundg k1
          case measure => omega
          case rel => exact ⟨j + 1, by go_num, ⟨by have := HN.out; omega⟩, ⟨pw_below_drewN HB6.out _⟩, ⟨blk_drewN BR6.out _⟩, trivial⟩
        · have hjt : decide (j < l2.length) = false := decide_eq_false hj
          clear hj HN
          have hr60 := (blk_cell BR6.out 0).trans rfl
          have hr61 := (blk_cell BR6.out 1).trans rfl
          go_wp2_with (first | ((with_reducible refine gate_dst (N := 55) rfl ?_); go_must (refine box_event ?hg (N := 55) ?hd (cs := #[.slice none 0 0, .int .i64 th, .int .i64 cl, .int .i64 0]) (t := 66) ?hr ?_; (case hd => rfl); (case hg => rfl); (case hr => first | (go_simp; done) | (go_simp; rfl)); intro gx hg w7 hbox hb; have HB7 := Aside0.mk (below_step HB6.out hb); have BR7 := Aside0.mk (blk_below BR6.out hb); have hne7 : gx ≠ gr := (by rw [hg]; exact Nat.ne_of_gt (blk_lt BR6.out)); have HR7 := Aside0.mk (Rec.start (B := w.heap.size) (Ls := [gr]) hbox (by simp [hne7]) (show w.heap.size ≤ gx from hg ▸ HB6.out.size)); clear hbox hb hg)))
          go_loopg [13, 58] l1.length (fun kq v13 v58 w' => ∃ (i k : Nat) (st : Int) (acts : List S35), v13 = .int .i64 k ∧ v58 = .int .i64 i ∧ Aside0 (kq + i = l1.length ∧ k ≤ l2.length ∧ acts.length ≤ i + 2 * k) ∧ Aside0 (runS th cl (l1.drop i) (l2.drop k) (st, acts) = fin) ∧ Aside0 (Below w.heap.size w w') ∧ Aside0 (w'.heap[gr]? = some (.cells #[.int .i64 th, .int .i64 cl] 28 (0, 0))) ∧ Aside0 (Rec w.heap.size gx [gr] th cl w' st acts))
          case atStart => exact ⟨0, 0, 0, [], rfl, rfl, ⟨by simp⟩, HFIN, HB7, BR7, HR7⟩
          case round =>
            clear HB6 BR6 HB7 BR7 HR7 hr60 hr61 HFIN
            obtain ⟨i, k, st, acts, rfl, rfl, HN, HQ, HB8, BR8, HR8⟩ := hrel
            by_cases hi : i < l1.length
            · obtain ⟨k1, rfl⟩ : ∃ k1, gk = k1 + 1 := ⟨gk - 1, by have := HN.out; omega⟩
              obtain ⟨ad, e1, hx0, hx1⟩ := at_T35 HR1.out (i : Int) (by omega) (by omega)
              cases e1
              rw [Int.toNat_natCast] at hx0 hx1
              have hQ : runS th cl (rd_T35 l1 (i : Int) :: l1.drop (i + 1)) (l2.drop k) (st, acts) = fin := by rw [← rd_drop l1 i hi]; exact HQ.out
              simp only [runS] at hQ
              generalize rd_T35 l1 (i : Int) = x at *
              obtain ⟨x0, x1⟩ := x
              simp only at hx0 hx1 hQ
              have HQ1 := Aside0.mk hQ
              replace hx0 := (HB8.out.cell (World.block_lt_of_cell? w _ hx0)).trans hx0
              replace hx1 := (HB8.out.cell (World.block_lt_of_cell? w _ hx1)).trans hx1
              have hit : decide (i < l1.length) = true := decide_eq_true hi
              have q0 : (i : Int) < (l1.length : Int) := by omega
              have q1 : 0 ≤ (i : Int) := by omega
              have q2 : (l1.length : Int) ≤ 512 := by have := H1512.out; omega
              clear hi HQ hQ
              go_wp2_with (first | ((with_reducible refine gate_dst (N := 15) rfl ?_); go_must (refine box_event ?hg (N := 15) ?hd (cs := #[.int .i64 0, .int .i64 0]) (t := 35) ?hr ?_; (case hd => rfl); (case hg => rfl); (case hr => first | (go_simp; done) | (go_simp; rfl)); intro ga hg w9 hbox hb; have hne : gr ≠ ga := (by rw [hg]; exact Nat.ne_of_lt (blk_lt BR8.out)); have hne' : ga ≠ gr := (fun e => hne e.symm); have HGA := Aside0.mk (show w.heap.size ≤ ga from hg ▸ HB8.out.size); have HB9 := Aside0.mk (below_step HB8.out hb); have BR9 := Aside0.mk (blk_below BR8.out hb); have BA9 := Aside0.mk hbox; have HR9 := Aside0.mk (HR8.out.more hg hb); have hz0 := (blk_cell hbox 0).trans rfl; have hz1 := (blk_cell hbox 1).trans rfl; have hf0 := blk_frozen hbox 0; have hf1 := blk_frozen hbox 1; clear hbox hb hg)))
              go_loopg [13] l2.length (fun kq v13 w' => ∃ (k : Nat) (st : Int) (acts : List S35), v13 = .int .i64 k ∧ Aside0 (l2.length ≤ kq + k ∧ k ≤ l2.length ∧ acts.length ≤ i + 2 * k) ∧ Aside0 (runS th cl (l1.drop (i + 1)) (adv th cl x1 (l2.drop k) (st, acts)).1 (perfS th cl (adv th cl x1 (l2.drop k) (st, acts)).2 ⟨x0, x1⟩) = fin) ∧ Aside0 (Below w.heap.size w w') ∧ Aside0 (w'.heap[gr]? = some (.cells #[.int .i64 th, .int .i64 cl] 28 (0, 0))) ∧ Aside0 (w'.heap[ga]? = some (.cells #[.int .i64 x0, .int .i64 x1] 35 (0, 0))) ∧ Aside0 (Rec w.heap.size gx [ga, gr] th cl w' st acts))
              case atStart => exact ⟨k, st, acts, rfl, ⟨by have := HN.out; omega⟩, HQ1, ⟨below_set (below_set HB9.out HGA.out) HGA.out⟩, ⟨blk_far (blk_far BR9.out hne _) hne _⟩, ⟨blk_put (blk_put BA9.out 0 _ rfl) 1 _ rfl⟩, ⟨(HR9.out.set' List.mem_cons_self _ _).set' List.mem_cons_self _ _⟩⟩
              case round =>
                clear HB8 BR8 HR8 HB9 BR9 BA9 HR9 hz0 hz1 hf0 hf1 HQ1 hx0 hx1
                have HNO := HN
                clear HN
                obtain ⟨k, st, acts, rfl, HN, HQ, HB10, BR10, BA10, HR10⟩ := hrel
                have ha0 := (blk_cell BA10.out 0).trans rfl
                have ha1 := (blk_cell BA10.out 1).trans rfl
                by_cases hk : k < l2.length
                · obtain ⟨k2, rfl⟩ : ∃ k2, gk = k2 + 1 := ⟨gk - 1, by have := HN.out; omega⟩
                  obtain ⟨ad, e1, hx0⟩ := Kd.at_int HR2.out (k : Int) (by omega) (by omega)
                  cases e1
                  rw [Int.toNat_natCast] at hx0
                  have HX0 := Aside0.mk hx0
                  replace hx0 := (HB10.out.cell (World.block_lt_of_cell? w _ hx0)).trans hx0
                  have hkt : decide (k < l2.length) = true := decide_eq_true hk
                  have p0 : (k : Int) < (l2.length : Int) := by omega
                  have p1 : 0 ≤ (k : Int) := by omega
                  have p2 : (l2.length : Int) ≤ 512 := by have := H512.out; omega
                  have hQ := HQ.out
                  rw [rdi_drop l2 k hk] at hQ
                  simp only [adv] at hQ
                  by_cases hc : rd l2 (k : Int) < x1
                  · rw [if_pos hc] at hQ
                    have HQ2 := Aside0.mk hQ
                    have hcb : decide (rd l2 (k : Int) < x1) = true := decide_eq_true hc
                    clear hQ HQ hc hk
                    go_wp2
                    go_quiet (fail)
                    go_wp2_with (first | (go_at_call 34; go_must (refine (stop_calls gx [ga, gr] th cl st (rd l2 (k : Int)) acts w _ (pw_below_drewN HB10.out _) (HR10.out.drewN _) (by have := HN.out; have := H512.out; have := H1512.out; omega) ?sS).mono ?_; (case sS => intro g hg; rcases List.mem_cons.1 hg with rfl | hg; exact ⟨_, blk_drewN BA10.out _⟩; rcases List.mem_cons.1 hg with rfl | hg; exact ⟨_, blk_drewN BR10.out _⟩; cases hg); rintro e_ w11 ⟨rfl, hb, hR, hk⟩; have HB11 := Aside0.mk hb; have HR11 := Aside0.mk hR; have BA11 := Aside0.mk (hk ga List.mem_cons_self _ (blk_drewN BA10.out _)); have BR11 := Aside0.mk (hk gr (List.mem_cons_of_mem _ List.mem_cons_self) _ (blk_drewN BR10.out _)); clear hb hR hk)))
                    go_roundg k2
                    case measure => omega
                    case rel => exact ⟨k + 1, (stopS th cl (st, acts) (rd l2 (k : Int))).1, (stopS th cl (st, acts) (rd l2 (k : Int))).2, by go_num, ⟨by have := HN.out; have := stopS_len th cl (st, acts) (rd l2 (k : Int)); simp only at this; omega⟩, HQ2, HB11, BR11, BA11, HR11⟩
                  · have hcb : decide (rd l2 (k : Int) < x1) = false := decide_eq_false hc
                    have hA : adv th cl x1 (l2.drop k) (st, acts) = (l2.drop k, (st, acts)) := by
                      rw [rdi_drop l2 k hk]
                      simp only [adv]
                      rw [if_neg hc]
                    have HQ2 := Aside0.mk (show runS th cl (l1.drop (i + 1)) (l2.drop k) (perfS th cl (st, acts) ⟨x0, x1⟩) = fin by have := HQ.out; rw [hA] at this; exact this)
                    clear hQ HQ hc hk hA
                    go_wp2
                    go_quiet (fail)
                    go_wp2_with (first | (go_at_call 35; go_must (refine (perform_calls gx [ga, gr] th cl st x0 x1 acts w _ (pw_below_drewN HB10.out _) (HR10.out.drewN _) (by have := HN.out; have := H512.out; have := H1512.out; omega) ?sS).mono ?_; (case sS => intro g hg; rcases List.mem_cons.1 hg with rfl | hg; exact blk_lt (blk_drewN BA10.out _); rcases List.mem_cons.1 hg with rfl | hg; exact blk_lt (blk_drewN BR10.out _); cases hg); rintro e_ w12 ⟨rfl, hb, hR, hk⟩; have HB12 := Aside0.mk hb; have HR12 := Aside0.mk hR; have BR12 := Aside0.mk (hk gr (List.mem_cons_of_mem _ List.mem_cons_self) _ (blk_drewN BR10.out _)); clear hb hR hk)))
                    go_roundg k1
                    case measure => omega
                    case rel => exact ⟨i + 1, k, (perfS th cl (st, acts) ⟨x0, x1⟩).1, (perfS th cl (st, acts) ⟨x0, x1⟩).2, rfl, by go_num, ⟨by have := HN.out; have := HNO.out; have := perfS_len th cl (st, acts) ⟨x0, x1⟩; simp only at this; omega⟩, HQ2, HB12, BR12, ⟨HR12.out.less⟩⟩
                · have hkt : decide (k < l2.length) = false := decide_eq_false hk
                  have hA : adv th cl x1 (l2.drop k) (st, acts) = (l2.drop k, (st, acts)) := by
                    rw [List.drop_eq_nil_of_le (by omega)]
                    rfl
                  have HQ2 := Aside0.mk (show runS th cl (l1.drop (i + 1)) (l2.drop k) (perfS th cl (st, acts) ⟨x0, x1⟩) = fin by have := HQ.out; rw [hA] at this; exact this)
                  clear HQ hk hA
                  go_wp2
                  go_quiet (fail)
                  go_wp2_with (first | (go_at_call 35; go_must (refine (perform_calls gx [ga, gr] th cl st x0 x1 acts w _ (pw_below_drewN HB10.out _) (HR10.out.drewN _) (by have := HN.out; have := H512.out; have := H1512.out; omega) ?sS).mono ?_; (case sS => intro g hg; rcases List.mem_cons.1 hg with rfl | hg; exact blk_lt (blk_drewN BA10.out _); rcases List.mem_cons.1 hg with rfl | hg; exact blk_lt (blk_drewN BR10.out _); cases hg); rintro e_ w12 ⟨rfl, hb, hR, hk⟩; have HB12 := Aside0.mk hb; have HR12 := Aside0.mk hR; have BR12 := Aside0.mk (hk gr (List.mem_cons_of_mem _ List.mem_cons_self) _ (blk_drewN BR10.out _)); clear hb hR hk)))
                  go_roundg k1
                  case measure => omega
                  case rel => exact ⟨i + 1, k, (perfS th cl (st, acts) ⟨x0, x1⟩).1, (perfS th cl (st, acts) ⟨x0, x1⟩).2, rfl, by go_num, ⟨by have := HN.out; have := HNO.out; have := perfS_len th cl (st, acts) ⟨x0, x1⟩; simp only at this; omega⟩, HQ2, HB12, BR12, ⟨HR12.out.less⟩⟩
            · have hit : decide (i < l1.length) = false := decide_eq_false hi
              obtain ⟨i0, hi0, hz0, hz1, hz2⟩ := info_parts info3
              obtain ⟨A', hcut, hC', hc'⟩ := print_drop_of (P := Try.prog) (Value.int .i64) (0 : Int) 39 3 .i64 Try.underlying39 hi0 hz1 A2 c2 l2 (k : Int) (by omega) (by have := HN.out; omega) HC2.out
              rw [Int.toNat_natCast] at hC' hc'
              have HC' := Aside0.mk (Kd.C_of_reads (h1 := fun _ => rfl) (hC' w (Kd.reads_of_C (enc := Value.int .i64) (d := (0 : Int)) (h1 := fun _ => rfl) HR2.out)))
              have HQ2 := Aside0.mk (show List.foldl (stopS th cl) (st, acts) (l2.drop k) = fin by have := HQ.out; rw [List.drop_eq_nil_of_le (by omega)] at this; exact this)
              have hdl : (l2.drop k).length ≤ 512 := by rw [List.length_drop]; have := H512.out; omega
              have HDL := Aside0.mk hdl
              rw [Int.toNat_natCast] at hcut
              generalize hds : l2.drop k = ds at *
              clear hC' hc' hi HQ hdl hi0 hz0 hz1 hz2 hds
              go_wp2
              go_loopg [91] ds.length (fun kq v91 w' => ∃ (m : Nat) (st : Int) (acts : List S35), v91 = .int .i64 m ∧ Aside0 (kq + m = ds.length ∧ acts.length ≤ 512 + 1024 + 2 * m) ∧ Aside0 (List.foldl (stopS th cl) (st, acts) (ds.drop m) = fin) ∧ Aside0 (Below w.heap.size w w') ∧ Aside0 (w'.heap[gr]? = some (.cells #[.int .i64 th, .int .i64 cl] 28 (0, 0))) ∧ Aside0 (Rec w.heap.size gx [gr] th cl w' st acts))
              case atStart => exact ⟨0, st, acts, rfl, ⟨by have := HN.out; have := H512.out; have := H1512.out; omega⟩, HQ2, HB8, BR8, HR8⟩
              case round =>
                clear HB8 BR8 HR8 HQ2 HN
                obtain ⟨m, st, acts, rfl, HN, HQ, HB9, BR9, HR9⟩ := hrel
                by_cases hm : m < ds.length
                · obtain ⟨k1, rfl⟩ : ∃ k1, gk = k1 + 1 := ⟨gk - 1, by have := HN.out; omega⟩
                  obtain ⟨ad, e1, hx0⟩ := Kd.at_int HC'.out (m : Int) (by omega) (by omega)
                  cases e1
                  rw [Int.toNat_natCast] at hx0
                  replace hx0 := (HB9.out.cell (World.block_lt_of_cell? w _ hx0)).trans hx0
                  have hmt : decide (m < ds.length) = true := decide_eq_true hm
                  have p0 : (m : Int) < (ds.length : Int) := by omega
                  have p1 : 0 ≤ (m : Int) := by omega
                  have p2 : (ds.length : Int) ≤ 512 := by have := HDL.out; omega
                  have hQ := HQ.out
                  rw [rdi_drop ds m hm, List.foldl_cons] at hQ
                  have HQ2 := Aside0.mk hQ
                  clear hQ HQ hm
                  go_wp2_with (first | (go_at_call 34; go_must (refine (stop_calls gx [gr] th cl st (rd ds (m : Int)) acts w _ HB9.out HR9.out (by have := HN.out; have := HDL.out; omega) (fun g hg => by rw [List.mem_singleton.1 hg]; exact ⟨_, BR9.out⟩)).mono ?_; rintro e_ w11 ⟨rfl, hb, hR, hk⟩; have HB11 := Aside0.mk hb; have HR11 := Aside0.mk hR; have BR11 := Aside0.mk (hk gr List.mem_cons_self _ BR9.out); clear hb hR hk)))
                  go_roundg k1
                  case measure => omega
                  case rel => exact ⟨m + 1, (stopS th cl (st, acts) (rd ds (m : Int))).1, (stopS th cl (st, acts) (rd ds (m : Int))).2, by go_num, ⟨by have := HN.out; have := stopS_len th cl (st, acts) (rd ds (m : Int)); simp only at this; omega⟩, HQ2, HB11, BR11, HR11⟩
                · have hmt : decide (m < ds.length) = false := decide_eq_false hm
                  have hQ : (st, acts) = fin := by have := HQ.out; rw [List.drop_eq_nil_of_le (by omega)] at this; exact this
                  subst hQ
                  obtain ⟨v, hx, hr, hn, hb⟩ := HR9.out
                  obtain ⟨A, c, rfl, hc, hC⟩ := Kd.R_reads hr
                  have h0 := (blk_cell hx 0).trans rfl
                  have HRR := Aside0.mk (show Kd.R k35 35 wr w.heap.size (fun _ => True) (.slice A acts.length c) acts from Kd.R_mono hr (fun _ _ => trivial))
                  clear hx hr hn hb hc hC hm HQ
                  by_cases h5 : 512 < acts.length
                  · have h5b : decide (512 < acts.length) = true := decide_eq_true h5
                    have h5c : decide ((512 : Int) < (acts.length : Int)) = true := decide_eq_true (by omega)
                    have hre := HRES.out
                    rw [if_pos h5] at hre
                    obtain ⟨rfl, rfl⟩ : ([] : List S35) = r1 ∧ (8 : Int) = r2 := by simpa only [Prod.mk.injEq] using hre
                    clear h5 hre HRES
                    go_wp2
                    go_ret2
                    exact ⟨.slice none 0 0, rfl, Kd.R_nil _ _ _ _ _, HB9.out⟩
                  · have h5b : decide (512 < acts.length) = false := decide_eq_false h5
                    have h5c : decide ((512 : Int) < (acts.length : Int)) = false := decide_eq_false (by omega)
                    have hre := HRES.out
                    rw [if_neg h5] at hre
                    obtain ⟨rfl, rfl⟩ : acts = r1 ∧ (0 : Int) = r2 := by simpa only [Prod.mk.injEq] using hre
                    clear h5 hre HRES
                    go_wp2
                    go_ret2
                    exact ⟨.slice A acts.length c, rfl, HRR.out, HB9.out⟩
/-- What Stops answers behind Check. -/
def stp (th cl e : Int) (l1 : List S35) (l2 : List Int) : List S35 × Int :=
  if e = 0 then (if 512 < l2.length then ([], 8) else if ∀ j ∈ List.range l2.length, 1 ≤ j → rd l2 ((j - 1 : Nat) : Int) ≤ rd l2 (j : Int) then
    (if ∀ j ∈ List.range l2.length, mom (rd l2 (j : Int)) = true then (if 512 < (runS th cl l1 l2 (0, [])).2.length then ([], 8) else ((runS th cl l1 l2 (0, [])).2, 0)) else ([], 1)) else ([], 9)) else ([], e)
def machine_Stops.f (k : Nat) (a0_0 : Int) (a0_1 : Int) (l1 : List S35) (l2 : List Int) : Option (List S35 × Int) := (machine_Check.f k a0_0 a0_1 l1).bind fun e => some (stp a0_0 a0_1 e l1 l2)
theorem machine_Stops.mono : ∀ a0 a1 a2 a3 k, LeO (machine_Stops.f k a0 a1 a2 a3) (machine_Stops.f (k + 1) a0 a1 a2 a3) := by
  intro a0 a1 a2 a3 k
  unfold machine_Stops.f
  exact LeO.bind (machine_Check.mono _ _ _ _) (fun _ => LeO.refl _)
theorem machine_Stops.calls (k : Nat) (a0_0 : Int) (a0_1 : Int) (A1 : Option Addr) (c1 : Nat) (l1 : List (S35)) (A2 : Option Addr) (c2 : Nat) (l2 : List Int) (r1 : List (S35)) (r2 : Int) (w : World) (hr1 : Kd.C k35 w A1 l1.length l1) (hc1 : l1.length ≤ c1) (hr2 : Kd.C (Kd.int .i64) w A2 l2.length l2) (hc2 : l2.length ≤ c2) (h : machine_Stops.f k a0_0 a0_1 l1 l2 = some (r1, r2)) :
    Calls Try.prog 24 #[.agg #[.int .i64 a0_0, .int .i64 a0_1], .slice A1 l1.length c1, .slice A2 l2.length c2] w fun e w' => ∃ v0_ : Value, e = .returned (.tuple #[v0_, .int .i64 r2]) ∧ Kd.R k35 35 w' w.heap.size (fun _ => True) v0_ r1 ∧ Below w.heap.size w w' := by
  unfold machine_Stops.f at h
  obtain ⟨e, he, h⟩ := Option.bind_eq_some_iff.mp h
  replace h := Option.some.inj h
  unfold stp at h
  by_cases h0 : e = 0
  · rw [if_pos h0] at h
    subst h0
    obtain ⟨_, _, _, _, hl, hw⟩ := chk_zero (chk_of he).symm
    by_cases h1 : 512 < l2.length
    · rw [if_pos h1] at h
      cases h
      exact Stops_full k a0_0 a0_1 A1 c1 l1 A2 c2 l2 w hr1 hc1 hr2 hc2 he h1
    · rw [if_neg h1] at h
      by_cases h2 : ∀ j ∈ List.range l2.length, 1 ≤ j → rd l2 ((j - 1 : Nat) : Int) ≤ rd l2 (j : Int)
      · rw [if_pos h2] at h
        have hs : ∀ j : Nat, 1 ≤ j → j < l2.length → rd l2 ((j - 1 : Nat) : Int) ≤ rd l2 (j : Int) := fun j a b => h2 j (List.mem_range.2 b) a
        by_cases h3 : ∀ j ∈ List.range l2.length, mom (rd l2 (j : Int)) = true
        · rw [if_pos h3] at h
          exact Stops_good k a0_0 a0_1 A1 c1 l1 A2 c2 l2 w hr1 hc1 hr2 hc2 he hl (by omega) hs (fun j a => h3 j (List.mem_range.2 a)) _ rfl r1 r2 h
        · rw [if_neg h3] at h
          cases h
          refine Stops_moment k a0_0 a0_1 A1 c1 l1 A2 c2 l2 w hr1 hc1 hr2 hc2 he (by omega) (fun j a b c => by have := hs j a b; omega) ?_
          apply Classical.byContradiction
          intro hn
          refine h3 (fun j hj => ?_)
          cases hm : mom (rd l2 (j : Int)) with
          | true => rfl
          | false => exact absurd ⟨j, Nat.zero_le _, List.mem_range.1 hj, hm⟩ hn
      · rw [if_neg h2] at h
        cases h
        refine Stops_order k a0_0 a0_1 A1 c1 l1 A2 c2 l2 w hr1 hc1 hr2 hc2 he (by omega) ?_
        apply Classical.byContradiction
        intro hn
        refine h2 (fun j hj h1 => ?_)
        apply Classical.byContradiction
        intro hlt
        exact hn ⟨j, h1, List.mem_range.1 hj, by omega⟩
  · rw [if_neg h0] at h
    cases h
    exact Stops_bad k a0_0 a0_1 A1 c1 l1 A2 c2 l2 _ w hr1 hc1 hr2 hc2 he h0

end Go.Proofs.Ytoncjfgklaldnaa.PX
