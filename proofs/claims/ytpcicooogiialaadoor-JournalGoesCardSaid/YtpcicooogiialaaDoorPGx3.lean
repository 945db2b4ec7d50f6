-- Written by a program of this session (hyb.py), which runs the print over the translation with contracts of its own added; it is not the print itself. Lean checks it.
import Derived.Test.YtpcicooogiialaaDoorPGx0
import Derived.Test.YtpcicooogiialaaDoorPGx2
namespace Go.Proofs.YtpcicooogiialaaDoor.PG
open Go.RowKit Go.Proofs.YtpcicooogiialaaDoorW.PrintWords Go.Proofs.YtpcicooogiialaaDoorW.PrintLast Go.Proofs.YtpcicooogiialaaDoorW.PrintMore
attribute [local go_sem] max2_int min2_int max_two min_two max_three min_three max_four min_four   -- for this text's walks alone
set_option linter.unusedVariables false
set_option linter.unusedSimpArgs false

/-! ### wire_PutList: function 29 -/
def wire_PutList.l0 : Nat → List Int → List Int → Int → Int → Option (List Int)
  | 0, _, _, _, _ => none
  | k + 1, x0, x11, x12, x13 => if x13 < x12 then (if 0 ≤ x13 then (if x13 < (x11.length : Int) then ((wire_appended.f x0 (rd x11 x13)).bind fun t116 => (wire_PutList.l0 k t116 x11 x12 (wrap64 (x13 + 1)))) else (none)) else (none)) else (some x0)
def wire_PutList.f (k : Nat) (l0 : List Int) (l1 : List Int) : Option (List Int) := (wire_appended.f l0 (l1.length : Int)).bind fun t112 => (wire_PutList.l0 k t112 l1 (l1.length : Int) 0)
theorem wire_PutList.mono_l : ∀ k, (∀ y0 y1 y2 y3, LeO (wire_PutList.l0 k y0 y1 y2 y3) (wire_PutList.l0 (k + 1) y0 y1 y2 y3))
  | 0 => fun _ _ _ _ r h => by simp [wire_PutList.l0] at h
  | k + 1 => by
    have ih0 := wire_PutList.mono_l k
    · intro y0 y1 y2 y3
      unfold wire_PutList.l0
      repeat' first
      | (with_reducible exact ih0 _ _ _ _)
      | (with_reducible exact LeO.refl _)
      | (with_reducible exact LeO.none _)
      | (with_reducible refine LeO.ite ?_ ?_)
      | (with_reducible refine LeO.bind ?_ (fun _ => ?_))
      | exact ih0 _ _ _ _
      | exact LeO.none _
      | refine LeO.ite ?_ ?_
      | refine LeO.bind ?_ (fun _ => ?_)
theorem wire_PutList.mono : ∀ a0 a1 k, LeO (wire_PutList.f k a0 a1) (wire_PutList.f (k + 1) a0 a1) := by
  intro a0 a1 k
  have ih0 := wire_PutList.mono_l k
  unfold wire_PutList.f
  repeat' first
      | (with_reducible exact ih0 _ _ _ _)
      | (with_reducible exact LeO.refl _)
      | (with_reducible exact LeO.none _)
      | (with_reducible refine LeO.ite ?_ ?_)
      | (with_reducible refine LeO.bind ?_ (fun _ => ?_))
      | exact ih0 _ _ _ _
      | exact LeO.none _
      | refine LeO.ite ?_ ?_
      | refine LeO.bind ?_ (fun _ => ?_)
set_option maxHeartbeats 8000000 in
set_option maxRecDepth 100000 in
theorem wire_PutList.calls (k : Nat) (A0 : Option Addr) (c0 : Nat) (l0 : List Int) (A1 : Option Addr) (c1 : Nat) (l1 : List Int) (r : List Int) (w : World) (hr0 : Kd.C (Kd.int .u8) w A0 l0.length l0) (hc0 : l0.length ≤ c0) (hr1 : Kd.C (Kd.int .i64) w A1 l1.length l1) (hc1 : l1.length ≤ c1) (h : wire_PutList.f k l0 l1 = some r) :
    Calls Tryd.prog 29 #[.slice A0 l0.length c0, .slice A1 l1.length c1] w fun e w' => ∃ v0_ : Value, e = .returned (v0_) ∧ Kd.R (Kd.int .u8) 5 w' w.heap.size (fun _ => True) v0_ r ∧ Below w.heap.size w w' := by
  have HR0 := Aside0.mk hr0
  have HC0 := Aside0.mk hc0
  clear hr0 hc0
  have HR1 := Aside0.mk hr1
  have HC1 := Aside0.mk hc1
  clear hr1 hc1
  have HB := Aside0.mk (Below.refl w.heap.size w)
  have H : ((wire_appended.f l0 (l1.length : Int)).bind fun t112 => (wire_PutList.l0 k t112 l1 (l1.length : Int) 0)) = some r := h
  clear h
  replace H := Option.bind_eq_some_iff.mp H
  obtain ⟨t112, A30, H⟩ := H
  replace H : (wire_PutList.l0 k t112 l1 (l1.length : Int) 0) = some r := H
  have A3 := Aside0.mk A30
  clear A30
  have H' := Aside0.mk H
  clear H
  go_enter Tryd.func29, Tryd.ntmps29
  go_wp2_with (first | ((with_reducible refine gate_callee (f := 42) rfl ?_); refine goesL_ (some 10) rfl rfl Tryd.func42 (by kernel_rfl) rfl #[.slice A0 l0.length c0, .int .i64 (l1.length : Int)] rfl (by (try simp only [List.map_toArray, List.map_cons, List.map_nil]); first | done | rfl | (simp only [List.length_drop, List.length_take]; rfl)) ?_; (with_reducible refine (wire_appended.calls _ _ l0 (l1.length : Int) t112 _ ?side1 ?side2 A3.out).mono ?_); (case side1 => repeat (first | exact HR0.out | (with_reducible refine Kd.C_alloc ?_ _) | (with_reducible refine Kd.C_drewN ?_ _) | (with_reducible refine Kd.C_drew ?_))); (case side2 => exact HC0.out); rintro e w4 ⟨v113, rfl, ho0, hb⟩; refine ⟨_, rfl, ?_⟩; have n0_ := Aside0.mk (Kd.R_lower ho0 (below_size (by repeat (first | (with_reducible first | exact HB.out | apply below_alloc | apply pw_below_drewN | apply below_drew1) | exact HB.out)))); have n1_ := Aside0.mk (below_step (by repeat (first | (with_reducible first | exact HB.out | apply below_alloc | apply pw_below_drewN | apply below_drew1) | exact HB.out)) hb); clear HB; have HO114 := n0_; have HB := n1_; clear n0_ n1_; (try clear hb); (try clear hb2); (try clear hk); (try clear hi); (try clear ho0)))
  go_loopg [0, 13] k (fun kq v0 v13 w' => ∃ (x0_1 : List Int) (x13_1 : Int), v13 = .int .i64 x13_1 ∧ Aside0 (wire_PutList.l0 kq x0_1 l1 (l1.length : Int) x13_1 = some r) ∧ Aside0 (kq ≤ k) ∧ Aside0 (Kd.R (Kd.int .u8) 5 w' w.heap.size (fun _ => True) v0 x0_1) ∧ Aside0 (Below w.heap.size w w'))
  case atStart => exact ⟨(t112), (0), (by first | rfl | (simp; done) | (simp [*]; done)), H', ⟨Nat.le_refl _⟩, ⟨by (with_reducible repeat (first | apply Kd.R_alloc | apply Kd.R_drewN | apply Kd.R_drew)); exact HO114.out⟩, ⟨by repeat (first | (with_reducible first | exact HB.out | apply below_alloc | apply pw_below_drewN | apply below_drew1) | exact HB.out)⟩⟩
  case round =>
   clear H'
   try clear c1
   try clear c2
   try clear p2
   try clear c4
   obtain ⟨x0_1, x13_1, rfl, HA, HK1, HO_0, HB⟩ := hrel
   cases gk with
   | zero => exact absurd HA.out (by simp [wire_PutList.l0])
   | succ k1 =>
    have H := HA.out
    clear HA
    simp only [wire_PutList.l0] at H
    by_cases c5 : x13_1 < (l1.length : Int)
    ·rw [if_pos c5] at H
     have c5b0 : decide (x13_1 < (l1.length : Int)) = true := decide_eq_true c5
     clear c5
     by_cases c6 : 0 ≤ x13_1
     ·rw [if_pos c6] at H
      have c6b0 : decide (0 ≤ x13_1) = true := decide_eq_true c6
      clear c6
      by_cases c7 : x13_1 < (l1.length : Int)
      ·rw [if_pos c7] at H
       have c7b0 : decide (x13_1 < (l1.length : Int)) = true := decide_eq_true c7
       clear c7
       replace H := Option.bind_eq_some_iff.mp H
       obtain ⟨t116, A80, H⟩ := H
       replace H : (wire_PutList.l0 k1 t116 l1 (l1.length : Int) (wrap64 (x13_1 + 1))) = some r := H
       have A8 := Aside0.mk A80
       clear A80
       have H' := Aside0.mk H
       clear H
       have p115 : 0 ≤ (x13_1 : Int) := of_decide_eq_true (by first | (with_reducible assumption) | assumption)
       have q115 : x13_1 < (l1.length : Int) := of_decide_eq_true (by first | (with_reducible assumption) | assumption)
       obtain ⟨ad115, e115, hx115_0⟩ := Kd.at_int HR1.out x13_1 p115 q115
       cases e115
       replace hx115_0 := (HB.out.cell (World.block_lt_of_cell? w _ hx115_0)).trans hx115_0
       replace p115 := eq_true p115
       replace q115 := eq_true q115
       obtain ⟨Ao9, co9, eo9⟩ := Kd.R_slice HO_0.out
       subst eo9
       go_wp2_with (first | ((with_reducible refine gate_callee (f := 42) rfl ?_); refine goesL_ (some 19) rfl rfl Tryd.func42 (by kernel_rfl) rfl #[.slice Ao9 x0_1.length co9, .int .i64 (rd l1 x13_1)] rfl (by (try simp only [List.map_toArray, List.map_cons, List.map_nil]); first | done | rfl | (simp only [List.length_drop, List.length_take]; rfl)) ?_; (with_reducible refine (wire_appended.calls _ _ x0_1 (rd l1 x13_1) t116 _ ?side1 ?side2 A8.out).mono ?_); (case side1 => repeat (first | exact (Kd.R_reads' HO_0.out).2.2 | (with_reducible refine Kd.C_alloc ?_ _) | (with_reducible refine Kd.C_drewN ?_ _) | (with_reducible refine Kd.C_drew ?_))); (case side2 => exact (Kd.R_reads' HO_0.out).2.1); rintro e w10 ⟨v117, rfl, ho0, hb⟩; refine ⟨_, rfl, ?_⟩; have n0_ := Aside0.mk (Kd.R_elder' (by (with_reducible repeat (first | apply Kd.R_alloc | apply Kd.R_drewN | apply Kd.R_drew)); exact HO_0.out) (Kd.R_base ho0) hb); have n1_ := Aside0.mk (Kd.R_lower (Kd.R_new' ho0 (Kd.R_lt (by (with_reducible repeat (first | apply Kd.R_alloc | apply Kd.R_drewN | apply Kd.R_drew)); exact HO_0.out))) (below_size (by repeat (first | (with_reducible first | exact HB.out | apply below_alloc | apply pw_below_drewN | apply below_drew1) | exact HB.out)))); have n2_ := Aside0.mk (below_step (by repeat (first | (with_reducible first | exact HB.out | apply below_alloc | apply pw_below_drewN | apply below_drew1) | exact HB.out)) hb); clear HO_0; clear HB; have HO_0 := n0_; have HO118 := n1_; have HB := n2_; clear n0_ n1_ n2_; (try clear hb); (try clear hb2); (try clear hk); (try clear hi); (try clear ho0)))
       go_roundg k1
       case measure => have := HK1.out; omega
       case rel => exact ⟨(t116), (wrap64 (x13_1 + 1)), (by first | rfl | (simp; done) | (simp [*]; done)), H', ⟨by have := HK1.out; omega⟩, ⟨by (with_reducible repeat (first | apply Kd.R_alloc | apply Kd.R_drewN | apply Kd.R_drew)); exact Kd.R_mono HO118.out (fun _ hk => trivial)⟩, ⟨by repeat (first | (with_reducible first | exact HB.out | apply below_alloc | apply pw_below_drewN | apply below_drew1) | exact HB.out)⟩⟩
      ·rw [if_neg c7] at H
       exact absurd H (by simp)
     ·rw [if_neg c6] at H
      exact absurd H (by simp)
    ·rw [if_neg c5] at H
     have c5b0 : decide (x13_1 < (l1.length : Int)) = false := decide_eq_false c5
     clear c5
     obtain rfl := Option.some.inj H
     go_wp2
     go_ret
     exact ⟨_, by first | rfl | (simp [errW_none, errW_some] <;> rfl) | (simp [*, errW_none, errW_some] <;> rfl), by (with_reducible repeat (first | apply Kd.R_alloc | apply Kd.R_drewN | apply Kd.R_drew)); exact HO_0.out, by repeat (first | (with_reducible first | exact HB.out | apply below_alloc | apply pw_below_drewN | apply below_drew1) | exact HB.out)⟩

/-! ### journal_Put: function 13 -/
def fldV (g : Nat) : Value := .agg #[.pointer (some ⟨g, 0, none⟩), .pointer (some ⟨g, 1, none⟩), .pointer (some ⟨g, 2, none⟩), .pointer (some ⟨g, 3, none⟩), .pointer (some ⟨g, 4, none⟩), .pointer (some ⟨g, 5, none⟩)]
theorem results_c' {P : Program} {fn : Func} {p : Tmp} {ty : TypeId} (h : fn.results = #[.cell p ty]) (tmps : Array Value) (w : World) (g : Nat) (t : TypeId) (cs : Array Value) (fr : Nat × Nat) (d : TypeDesc)
    (hp : tmps.getD p undef = .pointer (some ⟨g, 0, none⟩)) (hg : w.heap[g]? = some (.cells cs t fr))
    (hu : P.underlying ty = some d) (hd : (match d with | .struct _ | .array _ _ => true | _ => false) = true) (hi : (P.info? ty).map (·.size) = some cs.size) :
    (results fn tmps).run P w = .ok (.agg cs) w := by
  have hp' : tmps[p]?.getD undef = .pointer (some ⟨g, 0, none⟩) := by simpa using hp
  simp [results, h, hp', asAddr, run_loadVar_row w g t ty cs fr d hg hu hd hi]
set_option maxHeartbeats 400000 in
set_option maxRecDepth 100000 in
theorem fields_calls (g : Nat) (w : World) :
    Calls Tryd.prog 27 #[.pointer (some ⟨g, 0, none⟩)] w fun e w' => e = .returned (fldV g) ∧ Below w.heap.size w w' := by
  have hu51 := Tryd.underlying51
  have HB := Aside0.mk (Below.refl w.heap.size w)
  go_enter Tryd.func27, Tryd.ntmps27
  go_step
  go_step
  go_step
  (with_reducible refine gate_dst (N := 2) rfl ?_); (refine box_event ?hg (N := 2) ?hd (cs := #[.pointer none, .pointer none, .pointer none, .pointer none, .pointer none, .pointer none]) (t := 51) ?hr ?_); (case hd => rfl); (case hg => rfl); (case hr => first | (go_simp; done) | (go_simp; rfl)); intro gb hg w1 hbox hb; have BK := Aside0.mk hbox; have HB1 := Aside0.mk hb; have GE := Aside0.mk hg; clear hbox hb hg
  go_step
  go_step
  go_simp
  go_step
  go_step
  go_still_tail 19, (by kernel_rfl)
  generalize hw2 : ({ heap := w1.heap, tape := w1.tape, drawn := w1.drawn + 1, os := w1.os, output := w1.output } : World) = w2
  have BK2 : Aside0 (w2.heap[gb]? = some (Obj.cells #[Value.pointer none, Value.pointer none, Value.pointer none, Value.pointer none, Value.pointer none, Value.pointer none] 51 (0, 0))) := ⟨by rw [← hw2]; exact BK.out⟩
  have HB2 : Aside0 (Below w.heap.size w w2) := ⟨by rw [← hw2]; exact below_drew1 HB1.out⟩
  clear hw2 BK HB1
  have hc0 : w2.cell? ⟨gb, 0, none⟩ = some (.pointer none) := (blk_cell BK2.out 0).trans rfl
  have hc1 : w2.cell? ⟨gb, 1, none⟩ = some (.pointer none) := (blk_cell BK2.out 1).trans rfl
  have hc2 : w2.cell? ⟨gb, 2, none⟩ = some (.pointer none) := (blk_cell BK2.out 2).trans rfl
  have hc3 : w2.cell? ⟨gb, 3, none⟩ = some (.pointer none) := (blk_cell BK2.out 3).trans rfl
  have hc4 : w2.cell? ⟨gb, 4, none⟩ = some (.pointer none) := (blk_cell BK2.out 4).trans rfl
  have hc5 : w2.cell? ⟨gb, 5, none⟩ = some (.pointer none) := (blk_cell BK2.out 5).trans rfl
  have hf0 := blk_frozen BK2.out 0
  have hf1 := blk_frozen BK2.out 1
  have hf2 := blk_frozen BK2.out 2
  have hf3 := blk_frozen BK2.out 3
  have hf4 := blk_frozen BK2.out 4
  have hf5 := blk_frozen BK2.out 5
  go_wp2
  refine bodyPost_ret (results_c' rfl _ _ gb 51 #[.pointer (some ⟨g, 0, none⟩), .pointer (some ⟨g, 1, none⟩), .pointer (some ⟨g, 2, none⟩), .pointer (some ⟨g, 3, none⟩), .pointer (some ⟨g, 4, none⟩), .pointer (some ⟨g, 5, none⟩)] (0, 0) _ rfl (blk_put (blk_put (blk_put (blk_put (blk_put (blk_put BK2.out 0 _ rfl) 1 _ rfl) 2 _ rfl) 3 _ rfl) 4 _ rfl) 5 _ rfl) hu51 rfl (by kernel_rfl)) rfl ?_
  have hge : w.heap.size ≤ gb := Nat.le_of_eq GE.out.symm
  exact ⟨rfl, below_set (below_set (below_set (below_set (below_set (below_set HB2.out hge) hge) hge) hge) hge) hge⟩
def putsF (b : List Int) : List Int → Option (List Int)
  | [] => some b
  | x :: xs => (wire_PutInt.f b x).bind fun c => putsF c xs
def journal_Put.f (k : Nat) (a0_0 : Int) (a0_1 : Int) (a0_2 : Int) (a0_3 : Int) (a0_4 : Int) (a0_5 : Int) (l0_6 : List Int) : Option (List Int × Int) := (journal_Check.f k a0_0 a0_1 a0_2 a0_3 a0_4 a0_5 l0_6).bind fun t => (if t = 0 then ((putsF [] [a0_0, a0_1, a0_2, a0_3, a0_4, a0_5]).bind fun b => (wire_PutList.f k b l0_6).bind fun r => some (r, 0)) else some (([] : List Int), t))
theorem journal_Put.mono : ∀ a0 a1 a2 a3 a4 a5 a6 k, LeO (journal_Put.f k a0 a1 a2 a3 a4 a5 a6) (journal_Put.f (k + 1) a0 a1 a2 a3 a4 a5 a6) := by
  intro a0 a1 a2 a3 a4 a5 a6 k
  unfold journal_Put.f
  repeat' first
      | (with_reducible exact LeO.refl _)
      | (with_reducible exact LeO.none _)
      | exact journal_Check.mono _ _ _ _ _ _ _ _
      | exact wire_PutList.mono _ _ _
      | (with_reducible refine LeO.ite ?_ ?_)
      | (with_reducible refine LeO.bind ?_ (fun _ => ?_))
def evC (a0 a1 a2 a3 a4 a5 : Int) (v : Value) : Array Value := #[.int .i64 a0, .int .i64 a1, .int .i64 a2, .int .i64 a3, .int .i64 a4, .int .i64 a5, v]
theorem fld_index (g i : Nat) (h : i < 6) (W : World) : Sem.run Tryd.prog (Instr.index 51 (fldV g) (.int .i64 (i : Int))) W = .ok (.pointer (some ⟨g, i, none⟩)) W := by
  have hu51 := Tryd.underlying51
  rcases (by omega : i = 0 ∨ i = 1 ∨ i = 2 ∨ i = 3 ∨ i = 4 ∨ i = 5) with rfl | rfl | rfl | rfl | rfl | rfl
  all_goals first | rfl | kernel_rfl | (unfold fldV; simp [Sem.run, hu51]; done)
set_option maxHeartbeats 4000000 in
set_option maxRecDepth 100000 in
theorem journal_Put.ok (k : Nat) (a0_0 : Int) (a0_1 : Int) (a0_2 : Int) (a0_3 : Int) (a0_4 : Int) (a0_5 : Int) (A0_6 : Option Addr) (c0_6 : Nat) (l0_6 : List Int) (b r : List Int) (w : World) (hr0_6 : Kd.C (Kd.int .i64) w A0_6 l0_6.length l0_6) (hc0_6 : l0_6.length ≤ c0_6) (hk : journal_Check.f k a0_0 a0_1 a0_2 a0_3 a0_4 a0_5 l0_6 = some 0)
    (hp : putsF [] [a0_0, a0_1, a0_2, a0_3, a0_4, a0_5] = some b) (hl : wire_PutList.f k b l0_6 = some r) :
    Calls Tryd.prog 13 #[.agg (evC a0_0 a0_1 a0_2 a0_3 a0_4 a0_5 (.slice A0_6 l0_6.length c0_6))] w fun e w' => ∃ v0_ : Value, e = .returned (.tuple #[v0_, .int .i64 0]) ∧ Kd.R (Kd.int .u8) 5 w' w.heap.size (fun _ => True) v0_ r ∧ Below w.heap.size w w' := by
  unfold evC
  have hu24 := Tryd.underlying24
  have HR := Aside0.mk hr0_6
  have HC := Aside0.mk hc0_6
  have HK := Aside0.mk hk
  have HP := Aside0.mk hp
  have HL := Aside0.mk hl
  have HB := Aside0.mk (Below.refl w.heap.size w)
  clear hr0_6 hc0_6 hk hp hl
  go_enter Tryd.func13, Tryd.ntmps13
  go_wp2_with (first
    | ((with_reducible refine gate_dst (N := 1) rfl ?_); (go_must (refine box_event ?hg (N := 1) ?hd (cs := #[.int .i64 a0_0, .int .i64 a0_1, .int .i64 a0_2, .int .i64 a0_3, .int .i64 a0_4, .int .i64 a0_5, .slice A0_6 l0_6.length c0_6]) (t := 24) ?hr ?_)); (case hd => rfl); (case hg => rfl); (case hr => first | (go_simp; done) | (go_simp; rfl)); intro gb hg w1 hbox hb; have BK := Aside0.mk hbox; have HB1 := Aside0.mk hb; have GE := Aside0.mk (Nat.le_of_eq hg.symm); clear hbox hb hg HB; have hc0 := (blk_cell BK.out 0).trans rfl; have hc1 := (blk_cell BK.out 1).trans rfl; have hc2 := (blk_cell BK.out 2).trans rfl; have hc3 := (blk_cell BK.out 3).trans rfl; have hc4 := (blk_cell BK.out 4).trans rfl; have hc5 := (blk_cell BK.out 5).trans rfl; have hc6 := (blk_cell BK.out 6).trans rfl)
    | (go_at_call 15; (go_must (refine (journal_Check.calls k a0_0 a0_1 a0_2 a0_3 a0_4 a0_5 _ _ l0_6 0 _ (Kd.C_below HR.out HB1.out) HC.out HK.out).mono ?_)); rintro e w2 ⟨rfl, hb⟩; have BK2 := Aside0.mk (blk_below BK.out hb); have HB2 := Aside0.mk (below_step HB1.out hb); clear BK HB1 hb hc0 hc1 hc2 hc3 hc4 hc5 hc6)
    | (go_at_call 27; (go_must (refine (fields_calls gb _).mono ?_)); rintro e w3 ⟨rfl, hb⟩; have BK3 := Aside0.mk (blk_below BK2.out hb); have HB3 := Aside0.mk (below_step HB2.out hb); clear BK2 HB2 hb))
  go_loopg [5, 14] 6 (fun kq v5 v14 w' => ∃ (bs : List Int) (i : Nat), v14 = .int .i64 (i : Int) ∧ Aside0 (kq = 6 - i ∧ i ≤ 6) ∧ Aside0 (putsF bs ([a0_0, a0_1, a0_2, a0_3, a0_4, a0_5].drop i) = some b) ∧ Aside0 (Kd.R (Kd.int .u8) 5 w' w.heap.size (fun _ => True) v5 bs) ∧ Aside0 (w'.heap[gb]? = some (.cells #[.int .i64 a0_0, .int .i64 a0_1, .int .i64 a0_2, .int .i64 a0_3, .int .i64 a0_4, .int .i64 a0_5, (.slice A0_6 l0_6.length c0_6)] 24 (0, 0))) ∧ Aside0 (Below w.heap.size w w'))
  case atStart => exact ⟨[], 0, rfl, ⟨by omega⟩, ⟨HP.out⟩, ⟨Kd.R_nil _ _ _ _ _⟩, BK3, HB3⟩
  case round =>
    obtain ⟨bs, i, rfl, HI, HQ, HO, BK3, HB3⟩ := hrel
    by_cases c4 : i < 6
    · have c4b : decide ((i : Int) < 6) = true := decide_eq_true (by omega)
      obtain ⟨x, hq⟩ : ∃ x, wr.cell? ⟨gb, i, none⟩ = some (.int .i64 x) ∧ (wire_PutInt.f bs x).bind (fun c => putsF c ([a0_0, a0_1, a0_2, a0_3, a0_4, a0_5].drop (i + 1))) = some b := by
        have hQ := HQ.out
        have hc0 := (blk_cell BK3.out 0).trans rfl
        have hc1 := (blk_cell BK3.out 1).trans rfl
        have hc2 := (blk_cell BK3.out 2).trans rfl
        have hc3 := (blk_cell BK3.out 3).trans rfl
        have hc4 := (blk_cell BK3.out 4).trans rfl
        have hc5 := (blk_cell BK3.out 5).trans rfl
        rcases (by omega : i = 0 ∨ i = 1 ∨ i = 2 ∨ i = 3 ∨ i = 4 ∨ i = 5) with rfl | rfl | rfl | rfl | rfl | rfl
        · exact ⟨_, hc0, hQ⟩
        · exact ⟨_, hc1, hQ⟩
        · exact ⟨_, hc2, hQ⟩
        · exact ⟨_, hc3, hQ⟩
        · exact ⟨_, hc4, hQ⟩
        · exact ⟨_, hc5, hQ⟩
      obtain ⟨hx, hq⟩ := hq
      obtain ⟨cs, hcs, hcr⟩ := Option.bind_eq_some_iff.mp hq
      have HCS := Aside0.mk hcs
      have HCR := Aside0.mk hcr
      clear hq hcs hcr
      obtain ⟨Ao, co, eo⟩ := Kd.R_slice HO.out
      subst eo
      have hidx := fld_index gb i c4
      go_wp2_with (first | (go_at_call 28; (go_must (refine (wire_PutInt.calls _ _ bs x cs _ (Kd.R_reads' HO.out).2.2 (Kd.R_reads' HO.out).2.1 HCS.out).mono ?_)); rintro e w5 ⟨v5, rfl, ho, hb⟩; have HO5 := Aside0.mk (Kd.R_lower (Kd.R_new' ho (Kd.R_lt HO.out)) (below_size HB3.out)); have BK5 := Aside0.mk (blk_below BK3.out hb); have HB5 := Aside0.mk (below_step HB3.out hb); clear hb ho))
      go_roundg (6 - (i + 1))
      case measure => have := HI.out; omega
      case rel => exact ⟨cs, i + 1, rfl, ⟨by omega⟩, HCR, ⟨Kd.R_mono HO5.out (fun _ _ => trivial)⟩, BK5, HB5⟩
    · have c4b : decide ((i : Int) < 6) = false := decide_eq_false (by omega)
      have HQ2 : Aside0 (bs = b) := ⟨by
        have h6 : i = 6 := by have := HI.out; omega
        subst h6
        exact Option.some.inj HQ.out⟩
      obtain ⟨Ao, co, eo⟩ := Kd.R_slice HO.out
      subst eo
      have hc6 := (blk_cell BK3.out 6).trans rfl
      go_wp2_with (first | (go_at_call 29; (go_must (refine (wire_PutList.calls k _ _ bs _ _ l0_6 r _ (Kd.R_reads' HO.out).2.2 (Kd.R_reads' HO.out).2.1 (Kd.C_below HR.out HB3.out) HC.out (HQ2.out ▸ HL.out)).mono ?_)); rintro e w5 ⟨v5, rfl, ho, hb⟩; have HO5 := Aside0.mk (Kd.R_lower (Kd.R_new' ho (Kd.R_lt HO.out)) (below_size HB3.out)); have HB5 := Aside0.mk (below_step HB3.out hb); clear hb ho))
      go_ret2
      exact ⟨_, rfl, Kd.R_mono HO5.out (fun _ _ => trivial), HB5.out⟩
set_option maxHeartbeats 4000000 in
set_option maxRecDepth 100000 in
theorem journal_Put.bad (k : Nat) (a0_0 : Int) (a0_1 : Int) (a0_2 : Int) (a0_3 : Int) (a0_4 : Int) (a0_5 : Int) (A0_6 : Option Addr) (c0_6 : Nat) (l0_6 : List Int) (e0 : Int) (w : World) (hr0_6 : Kd.C (Kd.int .i64) w A0_6 l0_6.length l0_6) (hc0_6 : l0_6.length ≤ c0_6) (hk : journal_Check.f k a0_0 a0_1 a0_2 a0_3 a0_4 a0_5 l0_6 = some e0) (h0 : e0 ≠ 0) :
    Calls Tryd.prog 13 #[.agg (evC a0_0 a0_1 a0_2 a0_3 a0_4 a0_5 (.slice A0_6 l0_6.length c0_6))] w fun e w' => ∃ v0_ : Value, e = .returned (.tuple #[v0_, .int .i64 e0]) ∧ Kd.R (Kd.int .u8) 5 w' w.heap.size (fun _ => True) v0_ [] ∧ Below w.heap.size w w' := by
  unfold evC
  have hu24 := Tryd.underlying24
  have HR := Aside0.mk hr0_6
  have HC := Aside0.mk hc0_6
  have HK := Aside0.mk hk
  have cb : (e0 != 0) = true := bne_iff_ne.mpr h0
  have HB := Aside0.mk (Below.refl w.heap.size w)
  clear hr0_6 hc0_6 hk h0
  go_enter Tryd.func13, Tryd.ntmps13
  go_wp2_with (first
    | ((with_reducible refine gate_dst (N := 1) rfl ?_); (go_must (refine box_event ?hg (N := 1) ?hd (cs := #[.int .i64 a0_0, .int .i64 a0_1, .int .i64 a0_2, .int .i64 a0_3, .int .i64 a0_4, .int .i64 a0_5, .slice A0_6 l0_6.length c0_6]) (t := 24) ?hr ?_)); (case hd => rfl); (case hg => rfl); (case hr => first | (go_simp; done) | (go_simp; rfl)); intro gb hg w1 hbox hb; have BK := Aside0.mk hbox; have HB1 := Aside0.mk hb; have GE := Aside0.mk (Nat.le_of_eq hg.symm); clear hbox hb hg HB; have hc0 := (blk_cell BK.out 0).trans rfl; have hc1 := (blk_cell BK.out 1).trans rfl; have hc2 := (blk_cell BK.out 2).trans rfl; have hc3 := (blk_cell BK.out 3).trans rfl; have hc4 := (blk_cell BK.out 4).trans rfl; have hc5 := (blk_cell BK.out 5).trans rfl; have hc6 := (blk_cell BK.out 6).trans rfl)
    | (go_at_call 15; (go_must (refine (journal_Check.calls k a0_0 a0_1 a0_2 a0_3 a0_4 a0_5 _ _ l0_6 e0 _ (Kd.C_below HR.out HB1.out) HC.out HK.out).mono ?_)); rintro e w2 ⟨rfl, hb⟩; have HB2 := Aside0.mk (below_step HB1.out hb); clear BK HB1 hb hc0 hc1 hc2 hc3 hc4 hc5 hc6))
  go_ret2
  exact ⟨_, rfl, Kd.R_nil _ _ _ _ _, HB2.out⟩
theorem journal_Put.calls (k : Nat) (a0_0 : Int) (a0_1 : Int) (a0_2 : Int) (a0_3 : Int) (a0_4 : Int) (a0_5 : Int) (A0_6 : Option Addr) (c0_6 : Nat) (l0_6 : List Int) (r1 : List Int) (r2 : Int) (w : World) (hr0_6 : Kd.C (Kd.int .i64) w A0_6 l0_6.length l0_6) (hc0_6 : l0_6.length ≤ c0_6) (h : journal_Put.f k a0_0 a0_1 a0_2 a0_3 a0_4 a0_5 l0_6 = some (r1, r2)) :
    Calls Tryd.prog 13 #[.agg #[.int .i64 a0_0, .int .i64 a0_1, .int .i64 a0_2, .int .i64 a0_3, .int .i64 a0_4, .int .i64 a0_5, .slice A0_6 l0_6.length c0_6]] w fun e w' => ∃ v0_ : Value, e = .returned (.tuple #[v0_, .int .i64 r2]) ∧ Kd.R (Kd.int .u8) 5 w' w.heap.size (fun _ => True) v0_ r1 ∧ Below w.heap.size w w' := by
  unfold journal_Put.f at h
  obtain ⟨e0, hk, h⟩ := Option.bind_eq_some_iff.mp h
  by_cases c : e0 = 0
  · subst c
    rw [if_pos rfl] at h
    obtain ⟨b, hp, h⟩ := Option.bind_eq_some_iff.mp h
    obtain ⟨r, hl, h⟩ := Option.bind_eq_some_iff.mp h
    cases h
    exact journal_Put.ok k a0_0 a0_1 a0_2 a0_3 a0_4 a0_5 A0_6 c0_6 l0_6 b r1 w hr0_6 hc0_6 hk hp hl
  · rw [if_neg c] at h
    cases h
    exact journal_Put.bad k a0_0 a0_1 a0_2 a0_3 a0_4 a0_5 A0_6 c0_6 l0_6 r2 w hr0_6 hc0_6 hk c

/-! ### papermillref61_SameBytes: function 17 -/
def papermillref61_SameBytes.f (l0 : List Int) (l1 : List Int) : Option (Bool) := some ((strOfNums l0).toList == (strOfNums l1).toList)
set_option maxHeartbeats 8000000 in
set_option maxRecDepth 100000 in
theorem papermillref61_SameBytes.calls (A0 : Option Addr) (c0 : Nat) (l0 : List Int) (A1 : Option Addr) (c1 : Nat) (l1 : List Int) (r : Bool) (w : World) (hr0 : Kd.C (Kd.int .u8) w A0 l0.length l0) (hc0 : l0.length ≤ c0) (hr1 : Kd.C (Kd.int .u8) w A1 l1.length l1) (hc1 : l1.length ≤ c1) (h : papermillref61_SameBytes.f l0 l1 = some r) :
    Calls Tryd.prog 17 #[.slice A0 l0.length c0, .slice A1 l1.length c1] w fun e w' => e = .returned (.bool r) ∧ Drawn0 w w' := by
  have HR0 := Aside0.mk hr0
  have HC0 := Aside0.mk hc0
  clear hr0 hc0
  have HR1 := Aside0.mk hr1
  have HC1 := Aside0.mk hc1
  clear hr1 hc1
  have H : (some ((strOfNums l0).toList == (strOfNums l1).toList)) = some r := h
  clear h
  obtain rfl := Option.some.inj H
  have hcv3 := Kd.C_string (P := Tryd.prog) (A := A0) (c := c0) Tryd.underlying28 Tryd.underlying5 Tryd.underlying9 HR0.out
  have hcv4 := Kd.C_string (P := Tryd.prog) (A := A1) (c := c1) Tryd.underlying28 Tryd.underlying5 Tryd.underlying9 HR1.out
  go_enter Tryd.func17, Tryd.ntmps17
  go_wp2
  go_ret
  exact ⟨by first | rfl | (simp; done) | (simp [*]; done), by repeat (first | exact Drawn0.refl _ | apply Drawn0.step)⟩

end Go.Proofs.YtpcicooogiialaaDoor.PG
