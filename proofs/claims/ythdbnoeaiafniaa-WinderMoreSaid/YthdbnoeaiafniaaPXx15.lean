-- Written by a program of this session (hyb.py), which runs the print over the translation with contracts of its own added; it is not the print itself. Lean checks it.
import Derived.Test.YthdbnoeaiafniaaPXx0
import Derived.Test.YthdbnoeaiafniaaPXx3
import Derived.Test.YthdbnoeaiafniaaPXx6
import Derived.Test.YthdbnoeaiafniaaPXx9
namespace Go.Proofs.Ythdbnoeaiafniaa.PX
open Go.RowKit Go.Proofs.YthdbnoeaiafniaaW.PrintWords Go.Proofs.YthdbnoeaiafniaaW.PrintLast Go.Proofs.YthdbnoeaiafniaaW.PrintMore
attribute [local go_sem] max2_int min2_int max_two min_two max_three min_three max_four min_four   -- for this text's walks alone
set_option linter.unusedVariables false
set_option linter.unusedSimpArgs false

/-! ### papermilllaw50_WinderSets: function 7 -/
mutual
def papermilllaw50_WinderSets.j0 : Nat → List Int → Int → Bool → List (List Int) → List Int → Int → Option (Bool)
  | 0, _, _, _, _, _, _ => none
  | k + 1, x0, x1, x19, x289000, x289001, x289002 => if x19 = true then ((papermilllaw50_awake.f k).bind fun t290 => (some t290)) else ((winder_Jobs.f k x0 x1 x289000 x289001 x289002).bind fun bt291 => (if bt291.2 = 0 then (papermilllaw50_WinderSets.l0 k bt291.1 0 0 x289000 x289001 x289002) else ((papermilllaw50_awake.f k).bind fun t295 => (some t295))))
def papermilllaw50_WinderSets.l0 : Nat → List (S43) → Int → Int → List (List Int) → List Int → Int → Option (Bool)
  | 0, _, _, _, _, _, _ => none
  | k + 1, x7, x9, x10, x289000, x289001, x289002 => if x10 < (x289001.length : Int) then (papermilllaw50_WinderSets.l1 k x7 x9 x10 0 x289000 x289001 x289002) else (if x9 = (x7.length : Int) then ((papermilllaw50_awake.f k).bind fun t296 => (some t296)) else (some false))
def papermilllaw50_WinderSets.l1 : Nat → List (S43) → Int → Int → Int → List (List Int) → List Int → Int → Option (Bool)
  | 0, _, _, _, _, _, _, _ => none
  | k + 1, x7, x9, x10, x11, x289000, x289001, x289002 => if 0 ≤ x10 then (if x10 < (x289001.length : Int) then (if x11 < (rd x289001 x10) then (if x9 ≥ (x7.length : Int) then (some false) else (if 0 ≤ x9 then (if x9 < (x7.length : Int) then (if ((rd_T43 x7 x9).f2) = x10 then (papermilllaw50_WinderSets.l1 k x7 (wrap64 (x9 + 1)) x10 (wrap64 (x11 + 1)) x289000 x289001 x289002) else (some false)) else (none)) else (none))) else (papermilllaw50_WinderSets.l0 k x7 x9 (wrap64 (x10 + 1)) x289000 x289001 x289002)) else (none)) else (none)
end
def papermilllaw50_WinderSets.f (k : Nat) (l0 : List Int) (a1 : Int) (l2_0 : List (List Int)) (l2_1 : List Int) (a2_2 : Int) : Option (Bool) := if (l0.length : Int) > 60 then (papermilllaw50_WinderSets.j0 k l0 a1 true l2_0 l2_1 a2_2) else ((papermilllaw50_few.f k l2_0 l2_1 a2_2).bind fun t289 => (papermilllaw50_WinderSets.j0 k l0 a1 (!t289) l2_0 l2_1 a2_2))
theorem papermilllaw50_WinderSets.mono_l : ∀ k, (∀ y0 y1 y2 y3 y4 y5, LeO (papermilllaw50_WinderSets.j0 k y0 y1 y2 y3 y4 y5) (papermilllaw50_WinderSets.j0 (k + 1) y0 y1 y2 y3 y4 y5)) ∧ (∀ y0 y1 y2 y3 y4 y5, LeO (papermilllaw50_WinderSets.l0 k y0 y1 y2 y3 y4 y5) (papermilllaw50_WinderSets.l0 (k + 1) y0 y1 y2 y3 y4 y5)) ∧ (∀ y0 y1 y2 y3 y4 y5 y6, LeO (papermilllaw50_WinderSets.l1 k y0 y1 y2 y3 y4 y5 y6) (papermilllaw50_WinderSets.l1 (k + 1) y0 y1 y2 y3 y4 y5 y6))
  | 0 => ⟨fun _ _ _ _ _ _ r h => by simp [papermilllaw50_WinderSets.j0] at h, fun _ _ _ _ _ _ r h => by simp [papermilllaw50_WinderSets.l0] at h, fun _ _ _ _ _ _ _ r h => by simp [papermilllaw50_WinderSets.l1] at h⟩
  | k + 1 => by
    obtain ⟨ih0, ih1, ih2⟩ := papermilllaw50_WinderSets.mono_l k
    refine ⟨?_, ?_, ?_⟩
    · intro y0 y1 y2 y3 y4 y5
      unfold papermilllaw50_WinderSets.j0
      repeat' first
      | (with_reducible exact ih0 _ _ _ _ _ _)
      | (with_reducible exact ih1 _ _ _ _ _ _)
      | (with_reducible exact ih2 _ _ _ _ _ _ _)
      | (with_reducible exact papermilllaw50_awake.mono _)
      | (with_reducible exact papermilllaw50_few.mono _ _ _ _)
      | (with_reducible exact winder_Jobs.mono _ _ _ _ _ _)
      | (with_reducible exact LeO.refl _)
      | (with_reducible exact LeO.none _)
      | (with_reducible refine LeO.ite ?_ ?_)
      | (with_reducible refine LeO.bind ?_ (fun _ => ?_))
      | exact ih0 _ _ _ _ _ _
      | exact ih1 _ _ _ _ _ _
      | exact ih2 _ _ _ _ _ _ _
      | exact papermilllaw50_awake.mono _
      | exact papermilllaw50_few.mono _ _ _ _
      | exact winder_Jobs.mono _ _ _ _ _ _
      | exact LeO.none _
      | refine LeO.ite ?_ ?_
      | refine LeO.bind ?_ (fun _ => ?_)
    · intro y0 y1 y2 y3 y4 y5
      unfold papermilllaw50_WinderSets.l0
      repeat' first
      | (with_reducible exact ih0 _ _ _ _ _ _)
      | (with_reducible exact ih1 _ _ _ _ _ _)
      | (with_reducible exact ih2 _ _ _ _ _ _ _)
      | (with_reducible exact papermilllaw50_awake.mono _)
      | (with_reducible exact papermilllaw50_few.mono _ _ _ _)
      | (with_reducible exact winder_Jobs.mono _ _ _ _ _ _)
      | (with_reducible exact LeO.refl _)
      | (with_reducible exact LeO.none _)
      | (with_reducible refine LeO.ite ?_ ?_)
      | (with_reducible refine LeO.bind ?_ (fun _ => ?_))
      | exact ih0 _ _ _ _ _ _
      | exact ih1 _ _ _ _ _ _
      | exact ih2 _ _ _ _ _ _ _
      | exact papermilllaw50_awake.mono _
      | exact papermilllaw50_few.mono _ _ _ _
      | exact winder_Jobs.mono _ _ _ _ _ _
      | exact LeO.none _
      | refine LeO.ite ?_ ?_
      | refine LeO.bind ?_ (fun _ => ?_)
    · intro y0 y1 y2 y3 y4 y5 y6
      unfold papermilllaw50_WinderSets.l1
      repeat' first
      | (with_reducible exact ih0 _ _ _ _ _ _)
      | (with_reducible exact ih1 _ _ _ _ _ _)
      | (with_reducible exact ih2 _ _ _ _ _ _ _)
      | (with_reducible exact papermilllaw50_awake.mono _)
      | (with_reducible exact papermilllaw50_few.mono _ _ _ _)
      | (with_reducible exact winder_Jobs.mono _ _ _ _ _ _)
      | (with_reducible exact LeO.refl _)
      | (with_reducible exact LeO.none _)
      | (with_reducible refine LeO.ite ?_ ?_)
      | (with_reducible refine LeO.bind ?_ (fun _ => ?_))
      | exact ih0 _ _ _ _ _ _
      | exact ih1 _ _ _ _ _ _
      | exact ih2 _ _ _ _ _ _ _
      | exact papermilllaw50_awake.mono _
      | exact papermilllaw50_few.mono _ _ _ _
      | exact winder_Jobs.mono _ _ _ _ _ _
      | exact LeO.none _
      | refine LeO.ite ?_ ?_
      | refine LeO.bind ?_ (fun _ => ?_)
theorem papermilllaw50_WinderSets.mono : ∀ a0 a1 a2 a3 a4 k, LeO (papermilllaw50_WinderSets.f k a0 a1 a2 a3 a4) (papermilllaw50_WinderSets.f (k + 1) a0 a1 a2 a3 a4) := by
  intro a0 a1 a2 a3 a4 k
  obtain ⟨ih0, ih1, ih2⟩ := papermilllaw50_WinderSets.mono_l k
  unfold papermilllaw50_WinderSets.f
  repeat' first
      | (with_reducible exact ih0 _ _ _ _ _ _)
      | (with_reducible exact ih1 _ _ _ _ _ _)
      | (with_reducible exact ih2 _ _ _ _ _ _ _)
      | (with_reducible exact papermilllaw50_awake.mono _)
      | (with_reducible exact papermilllaw50_few.mono _ _ _ _)
      | (with_reducible exact winder_Jobs.mono _ _ _ _ _ _)
      | (with_reducible exact LeO.refl _)
      | (with_reducible exact LeO.none _)
      | (with_reducible refine LeO.ite ?_ ?_)
      | (with_reducible refine LeO.bind ?_ (fun _ => ?_))
      | exact ih0 _ _ _ _ _ _
      | exact ih1 _ _ _ _ _ _
      | exact ih2 _ _ _ _ _ _ _
      | exact papermilllaw50_awake.mono _
      | exact papermilllaw50_few.mono _ _ _ _
      | exact winder_Jobs.mono _ _ _ _ _ _
      | exact LeO.none _
      | refine LeO.ite ?_ ?_
      | refine LeO.bind ?_ (fun _ => ?_)
set_option maxHeartbeats 8000000 in
set_option maxRecDepth 100000 in
theorem papermilllaw50_WinderSets.calls (k : Nat) (A0 : Option Addr) (c0 : Nat) (l0 : List Int) (a1 : Int) (A2_0 : Option Addr) (c2_0 : Nat) (l2_0 : List (List Int)) (A2_1 : Option Addr) (c2_1 : Nat) (l2_1 : List Int) (a2_2 : Int) (r : Bool) (w : World) (hr0 : Kd.C (Kd.int .i64) w A0 l0.length l0) (hc0 : l0.length ≤ c0) (hr2_0 : Kd.C (Kd.slice 3 (Kd.int .i64)) w A2_0 l2_0.length l2_0) (hc2_0 : l2_0.length ≤ c2_0) (hr2_1 : Kd.C (Kd.int .i64) w A2_1 l2_1.length l2_1) (hc2_1 : l2_1.length ≤ c2_1) (h : papermilllaw50_WinderSets.f k l0 a1 l2_0 l2_1 a2_2 = some r) :
    Calls Try.prog 7 #[.slice A0 l0.length c0, .int .i64 a1, .agg #[.slice A2_0 l2_0.length c2_0, .slice A2_1 l2_1.length c2_1, .int .i64 a2_2]] w fun e w' => e = .returned (.bool r) ∧ Below w.heap.size w w' := by
  have hu31 := Try.underlying31
  have HR0 := Aside0.mk hr0
  have HC0 := Aside0.mk hc0
  clear hr0 hc0
  have HR2_0 := Aside0.mk hr2_0
  have HC2_0 := Aside0.mk hc2_0
  clear hr2_0 hc2_0
  have HR2_1 := Aside0.mk hr2_1
  have HC2_1 := Aside0.mk hc2_1
  clear hr2_1 hc2_1
  have HB := Aside0.mk (Below.refl w.heap.size w)
  have H : (if (l0.length : Int) > 60 then (papermilllaw50_WinderSets.j0 k l0 a1 true l2_0 l2_1 a2_2) else ((papermilllaw50_few.f k l2_0 l2_1 a2_2).bind fun t289 => (papermilllaw50_WinderSets.j0 k l0 a1 (!t289) l2_0 l2_1 a2_2))) = some r := h
  clear h
  have HC4 := Aside0.mk H
  clear H
  go_enter Try.func7, Try.ntmps7
  go_upto_region 1 with (first | ((with_reducible refine gate_dst (N := 5) rfl ?_); refine box_event ?hg (N := 5) ?hd (cs := #[.slice A2_0 l2_0.length c2_0, .slice A2_1 l2_1.length c2_1, .int .i64 a2_2]) (t := 31) ?hr ?_; (case hd => rfl); (case hg => rfl); (case hr => first | (go_simp; done) | (go_simp; rfl)); intro gb288 hg w5 hbox hb; have n0_ := Aside0.mk (below_step (by repeat (first | (with_reducible first | exact HB.out | apply below_alloc | apply pw_below_drewN | apply below_drew1) | exact HB.out)) hb); have n1_ := Aside0.mk (hbox); have n2_ := Aside0.mk ((by rw [hg]; exact (below_size (by repeat (first | (with_reducible first | exact HB.out | apply below_alloc | apply pw_below_drewN | apply below_drew1) | exact HB.out))) : w.heap.size ≤ gb288)); have n3_ := Aside0.mk ((by rw [hg]; exact (below_size (by repeat (first | (with_reducible first | exact HB.out | apply below_alloc | apply pw_below_drewN | apply below_drew1) | exact HB.out))) : w.heap.size ≤ gb288)); clear HB; have HB := n0_; have BK288 := n1_; have GW288 := n2_; have GE288 := n3_; clear n0_ n1_ n2_ n3_; clear hb hbox hg))
  (try simp only [Act.put, List.setIfInBounds_toArray, List.set_cons_zero, List.set_cons_succ])
  go_cut [19] (fun v19 wc => ∃ (kq : Nat) (x19_3 : Bool), v19 = .bool x19_3 ∧ Aside0 (papermilllaw50_WinderSets.j0 kq l0 a1 x19_3 l2_0 l2_1 a2_2 = some r) ∧ Aside0 (kq ≤ k) ∧ Aside0 (wc.heap[gb288]? = some (.cells #[(.slice A2_0 l2_0.length c2_0), (.slice A2_1 l2_1.length c2_1), .int .i64 a2_2] 31 (0, 0))) ∧ Aside0 (Below w.heap.size w wc))
  case first =>
   have H := HC4.out
   clear HC4
   by_cases c6 : (l0.length : Int) > 60
   ·rw [if_pos c6] at H
    have c6b0 : decide (60 < (l0.length : Int)) = true := decide_eq_true c6
    have c6b1 : decide (60 < l0.length) = true := decide_eq_true (by omega)
    clear c6
    (first | rw [c6b0] | (simp only [i64_w, i32_w]; rw [c6b0]) | skip)
    have H' := Aside0.mk H
    clear H
    go_wp2
    go_meet
    case rel => exact ⟨_, (true), (by first | rfl | (simp; done) | (simp [*]; done)), H', ⟨by first | omega | exact Nat.le_refl _⟩, ⟨by (with_reducible repeat (first | refine blk_drewN ?_ _ | refine blk_drew ?_ | refine blk_alloc ?_ _)); exact BK288.out⟩, ⟨by repeat (first | (with_reducible first | exact HB.out | apply below_alloc | apply pw_below_drewN | apply below_drew1 | refine below_set ?_ GE288.out) | exact HB.out)⟩⟩
   ·rw [if_neg c6] at H
    have c6b0 : decide (60 < (l0.length : Int)) = false := decide_eq_false c6
    have c6b1 : decide (60 < l0.length) = false := decide_eq_false (by omega)
    clear c6
    (first | rw [c6b0] | (simp only [i64_w, i32_w]; rw [c6b0]) | skip)
    replace H := Option.bind_eq_some_iff.mp H
    obtain ⟨t289, A70, H⟩ := H
    replace H : (papermilllaw50_WinderSets.j0 k l0 a1 (!t289) l2_0 l2_1 a2_2) = some r := H
    have A7 := Aside0.mk A70
    clear A70
    have H' := Aside0.mk H
    clear H
    have hcz8_0 : w5.cell? ⟨gb288, 0, none⟩ = some (.slice A2_0 l2_0.length c2_0) := (blk_cell BK288.out 0).trans rfl
    have hcz8_1 : w5.cell? ⟨gb288, 1, none⟩ = some (.slice A2_1 l2_1.length c2_1) := (blk_cell BK288.out 1).trans rfl
    have hcz8_2 : w5.cell? ⟨gb288, 2, none⟩ = some (.int .i64 a2_2) := (blk_cell BK288.out 2).trans rfl
    have hfz8_0 := blk_frozen BK288.out 0
    have hfz8_1 := blk_frozen BK288.out 1
    have hfz8_2 := blk_frozen BK288.out 2
    go_wp2_with (first | (go_at_call 14; (with_reducible refine (papermilllaw50_few.calls k _ _ l2_0 _ _ l2_1 a2_2 t289 _ ?side1 ?side2 ?side3 ?side4 A7.out).mono ?_); (case side1 => repeat (first | exact (Kd.C_below HR2_0.out HB.out) | (with_reducible refine Kd.C_alloc ?_ _) | (with_reducible refine Kd.C_drewN ?_ _) | (with_reducible refine Kd.C_drew ?_))); (case side2 => exact HC2_0.out); (case side3 => repeat (first | exact (Kd.C_below HR2_1.out HB.out) | (with_reducible refine Kd.C_alloc ?_ _) | (with_reducible refine Kd.C_drewN ?_ _) | (with_reducible refine Kd.C_drew ?_))); (case side4 => exact HC2_1.out); rintro e w9 ⟨rfl, hb⟩; have n0_ := Aside0.mk (blk_below (g := gb288) (o := .cells #[.slice A2_0 l2_0.length c2_0, .slice A2_1 l2_1.length c2_1, .int .i64 a2_2] 31 (0, 0)) (by (with_reducible repeat (first | refine blk_drewN ?_ _ | refine blk_drew ?_ | refine blk_alloc ?_ _)); exact BK288.out) hb); have n1_ := Aside0.mk (below_step (by repeat (first | (with_reducible first | exact HB.out | apply below_alloc | apply pw_below_drewN | apply below_drew1 | refine below_set ?_ GE288.out) | exact HB.out)) hb); clear BK288; clear HB; have BK288 := n0_; have HB := n1_; clear n0_ n1_; (try clear hb); (try clear hb2); (try clear hk); (try clear hi)))
    go_meet
    case rel => exact ⟨_, (!t289), (by first | rfl | (simp; done) | (simp [*]; done)), H', ⟨by first | omega | exact Nat.le_refl _⟩, ⟨by (with_reducible repeat (first | refine blk_drewN ?_ _ | refine blk_drew ?_ | refine blk_alloc ?_ _)); exact BK288.out⟩, ⟨by repeat (first | (with_reducible first | exact HB.out | apply below_alloc | apply pw_below_drewN | apply below_drew1 | refine below_set ?_ GE288.out) | exact HB.out)⟩⟩
  case rest =>
   clear HC4
   try clear c2
   try clear p2
   try clear c6
   try clear c6b0
   try clear c6b1
   try clear c7
   try clear hcz8_0
   try clear hcz8_1
   try clear hcz8_2
   try clear hfz8_0
   try clear hfz8_1
   try clear hfz8_2
   obtain ⟨kq, x19_3, rfl, HA, HJ3, BK288, HB⟩ := hcut
   cases kq with
   | zero => exact absurd HA.out (by simp [papermilllaw50_WinderSets.j0])
   | succ kj3 =>
    have H := HA.out
    clear HA
    simp only [papermilllaw50_WinderSets.j0] at H
    by_cases c10 : x19_3 = true
    ·subst c10
     have H1 : ((papermilllaw50_awake.f kj3).bind fun t290 => (some t290)) = some r := by rw [if_pos rfl] at H; exact H
     clear H
     have H := H1
     clear H1
     replace H := Option.bind_eq_some_iff.mp H
     obtain ⟨t290, A110, H⟩ := H
     replace H : (some t290) = some r := H
     have A11 := Aside0.mk A110
     clear A110
     obtain rfl := Option.some.inj H
     go_wp2_with (first | ((with_reducible refine gate_callee (f := 10) rfl ?_); refine goesL_ (some 20) rfl rfl Try.func10 (by kernel_rfl) rfl #[] rfl (by (try simp only [List.map_toArray, List.map_cons, List.map_nil]); first | done | rfl | (simp only [List.length_drop, List.length_take]; rfl)) ?_; (with_reducible refine (papermilllaw50_awake.calls kj3  t290 _ A11.out).mono ?_); rintro e w12 ⟨rfl, hb⟩; refine ⟨_, rfl, ?_⟩; have n0_ := Aside0.mk (blk_below (g := gb288) (o := .cells #[.slice A2_0 l2_0.length c2_0, .slice A2_1 l2_1.length c2_1, .int .i64 a2_2] 31 (0, 0)) (by (with_reducible repeat (first | refine blk_drewN ?_ _ | refine blk_drew ?_ | refine blk_alloc ?_ _)); exact BK288.out) hb); have n1_ := Aside0.mk (below_step (by repeat (first | (with_reducible first | exact HB.out | apply below_alloc | apply pw_below_drewN | apply below_drew1 | refine below_set ?_ GE288.out) | exact HB.out)) hb); clear BK288; clear HB; have BK288 := n0_; have HB := n1_; clear n0_ n1_; (try clear hb); (try clear hb2); (try clear hk); (try clear hi)))
     go_ret
     exact ⟨by first | rfl | (simp [errW_none, errW_some] <;> rfl) | (simp [*, errW_none, errW_some] <;> rfl), by repeat (first | (with_reducible first | exact HB.out | apply below_alloc | apply pw_below_drewN | apply below_drew1 | refine below_set ?_ GE288.out) | exact HB.out)⟩
    ·replace c10 := Bool.eq_false_iff.mpr c10
     subst c10
     have H1 : ((winder_Jobs.f kj3 l0 a1 l2_0 l2_1 a2_2).bind fun bt291 => (if bt291.2 = 0 then (papermilllaw50_WinderSets.l0 kj3 bt291.1 0 0 l2_0 l2_1 a2_2) else ((papermilllaw50_awake.f kj3).bind fun t295 => (some t295)))) = some r := by rw [if_neg (show ¬ (false = true) by decide)] at H; exact H
     clear H
     have H := H1
     clear H1
     replace H := Option.bind_eq_some_iff.mp H
     obtain ⟨⟨t291, t294⟩, A130, H⟩ := H
     replace H : (if t294 = 0 then (papermilllaw50_WinderSets.l0 kj3 t291 0 0 l2_0 l2_1 a2_2) else ((papermilllaw50_awake.f kj3).bind fun t295 => (some t295))) = some r := H
     have A13 := Aside0.mk A130
     clear A130
     by_cases c14 : t294 = 0
     ·rw [if_pos c14] at H
      have c14b0 : (t294 == 0) = true := beq_iff_eq.mpr c14
      have c14b1 : (t294 != 0) = false := bne_eq_false_iff_eq.mpr c14
      clear c14
      have H' := Aside0.mk H
      clear H
      have hcz15_0 : wc.cell? ⟨gb288, 0, none⟩ = some (.slice A2_0 l2_0.length c2_0) := (blk_cell BK288.out 0).trans rfl
      have hcz15_1 : wc.cell? ⟨gb288, 1, none⟩ = some (.slice A2_1 l2_1.length c2_1) := (blk_cell BK288.out 1).trans rfl
      have hcz15_2 : wc.cell? ⟨gb288, 2, none⟩ = some (.int .i64 a2_2) := (blk_cell BK288.out 2).trans rfl
      have hfz15_0 := blk_frozen BK288.out 0
      have hfz15_1 := blk_frozen BK288.out 1
      have hfz15_2 := blk_frozen BK288.out 2
      go_wp2_with (first | ((with_reducible refine gate_callee (f := 15) rfl ?_); refine goesL_ (some 25) rfl rfl Try.func15 (by kernel_rfl) rfl #[.slice A0 l0.length c0, .int .i64 a1, .agg #[.slice A2_0 l2_0.length c2_0, .slice A2_1 l2_1.length c2_1, .int .i64 a2_2]] rfl (by (try simp only [List.map_toArray, List.map_cons, List.map_nil]); first | done | rfl | (simp only [List.length_drop, List.length_take]; rfl)) ?_; (with_reducible refine (winder_Jobs.calls kj3 _ _ l0 a1 _ _ l2_0 _ _ l2_1 a2_2 t291 t294 _ ?side1 ?side2 ?side3 ?side4 ?side5 ?side6 A13.out).mono ?_); (case side1 => repeat (first | exact (Kd.C_below HR0.out HB.out) | (with_reducible refine Kd.C_alloc ?_ _) | (with_reducible refine Kd.C_drewN ?_ _) | (with_reducible refine Kd.C_drew ?_))); (case side2 => exact HC0.out); (case side3 => repeat (first | exact (Kd.C_below HR2_0.out HB.out) | (with_reducible refine Kd.C_alloc ?_ _) | (with_reducible refine Kd.C_drewN ?_ _) | (with_reducible refine Kd.C_drew ?_))); (case side4 => exact HC2_0.out); (case side5 => repeat (first | exact (Kd.C_below HR2_1.out HB.out) | (with_reducible refine Kd.C_alloc ?_ _) | (with_reducible refine Kd.C_drewN ?_ _) | (with_reducible refine Kd.C_drew ?_))); (case side6 => exact HC2_1.out); rintro e w16 ⟨v292, rfl, ho0, hb⟩; refine ⟨_, rfl, ?_⟩; have n0_ := Aside0.mk (Kd.R_lower ho0 (below_size (by repeat (first | (with_reducible first | exact HB.out | apply below_alloc | apply pw_below_drewN | apply below_drew1 | refine below_set ?_ GE288.out) | exact HB.out)))); have n1_ := Aside0.mk (blk_below (g := gb288) (o := .cells #[.slice A2_0 l2_0.length c2_0, .slice A2_1 l2_1.length c2_1, .int .i64 a2_2] 31 (0, 0)) (by (with_reducible repeat (first | refine blk_drewN ?_ _ | refine blk_drew ?_ | refine blk_alloc ?_ _)); exact BK288.out) hb); have n2_ := Aside0.mk (below_step (by repeat (first | (with_reducible first | exact HB.out | apply below_alloc | apply pw_below_drewN | apply below_drew1 | refine below_set ?_ GE288.out) | exact HB.out)) hb); clear BK288; clear HB; have HO293 := n0_; have BK288 := n1_; have HB := n2_; clear n0_ n1_ n2_; (try clear hb); (try clear hb2); (try clear hk); (try clear hi); (try clear ho0)))
      go_loopg [9, 10] kj3 (fun kq v9 v10 w' => ∃ (x9_2 : Int) (x10_2 : Int), v9 = .int .i64 x9_2 ∧ v10 = .int .i64 x10_2 ∧ Aside0 (papermilllaw50_WinderSets.l0 kq t291 x9_2 x10_2 l2_0 l2_1 a2_2 = some r) ∧ Aside0 (kq ≤ kj3) ∧ Aside0 (Kd.R k43 43 w' w.heap.size (fun _ => True) v292 t291) ∧ Aside0 (w'.heap[gb288]? = some (.cells #[(.slice A2_0 l2_0.length c2_0), (.slice A2_1 l2_1.length c2_1), .int .i64 a2_2] 31 (0, 0))) ∧ Aside0 (Below w.heap.size w w'))
      case atStart => exact ⟨(0), (0), (by first | rfl | (simp; done) | (simp [*]; done)), (by first | rfl | (simp; done) | (simp [*]; done)), H', ⟨Nat.le_refl _⟩, ⟨by (with_reducible repeat (first | apply Kd.R_alloc | apply Kd.R_drewN | apply Kd.R_drew)); exact HO293.out⟩, ⟨by (with_reducible repeat (first | refine blk_drewN ?_ _ | refine blk_drew ?_ | refine blk_alloc ?_ _)); exact BK288.out⟩, ⟨by repeat (first | (with_reducible first | exact HB.out | apply below_alloc | apply pw_below_drewN | apply below_drew1 | refine below_set ?_ GE288.out) | exact HB.out)⟩⟩
      case round =>
       clear H'
       try clear c1
       try clear c2
       try clear p2
       try clear c6
       try clear c6b0
       try clear c6b1
       try clear c7
       try clear c10
       try clear c14
       try clear c14b0
       try clear c14b1
       try clear c15
       try clear hcz15_0
       try clear hcz15_1
       try clear hcz15_2
       try clear hcz8_0
       try clear hcz8_1
       try clear hcz8_2
       try clear hfz15_0
       try clear hfz15_1
       try clear hfz15_2
       try clear hfz8_0
       try clear hfz8_1
       try clear hfz8_2
       try clear p2
       obtain ⟨x9_2, x10_2, rfl, rfl, HA, HK2, HO_7, BK288, HB⟩ := hrel
       cases gk with
       | zero => exact absurd HA.out (by simp [papermilllaw50_WinderSets.l0])
       | succ k2 =>
        have H := HA.out
        clear HA
        simp only [papermilllaw50_WinderSets.l0] at H
        by_cases c17 : x10_2 < (l2_1.length : Int)
        ·rw [if_pos c17] at H
         have c17b0 : decide (x10_2 < (l2_1.length : Int)) = true := decide_eq_true c17
         clear c17
         have H' := Aside0.mk H
         clear H
         have hcz18_0 : wr.cell? ⟨gb288, 0, none⟩ = some (.slice A2_0 l2_0.length c2_0) := (blk_cell BK288.out 0).trans rfl
         have hcz18_1 : wr.cell? ⟨gb288, 1, none⟩ = some (.slice A2_1 l2_1.length c2_1) := (blk_cell BK288.out 1).trans rfl
         have hcz18_2 : wr.cell? ⟨gb288, 2, none⟩ = some (.int .i64 a2_2) := (blk_cell BK288.out 2).trans rfl
         have hfz18_0 := blk_frozen BK288.out 0
         have hfz18_1 := blk_frozen BK288.out 1
         have hfz18_2 := blk_frozen BK288.out 2
         go_wp2
         go_loopg [9, 11] k2 (fun kq v9 v11 w' => ∃ (x9_3 : Int) (x11_3 : Int), v9 = .int .i64 x9_3 ∧ v11 = .int .i64 x11_3 ∧ Aside0 (papermilllaw50_WinderSets.l1 kq t291 x9_3 x10_2 x11_3 l2_0 l2_1 a2_2 = some r) ∧ Aside0 (kq ≤ k2) ∧ Aside0 (Kd.R k43 43 w' w.heap.size (fun _ => True) v292 t291) ∧ Aside0 (w'.heap[gb288]? = some (.cells #[(.slice A2_0 l2_0.length c2_0), (.slice A2_1 l2_1.length c2_1), .int .i64 a2_2] 31 (0, 0))) ∧ Aside0 (Below w.heap.size w w'))
         case atStart => exact ⟨(x9_2), (0), (by first | rfl | (simp; done) | (simp [*]; done)), (by first | rfl | (simp; done) | (simp [*]; done)), H', ⟨Nat.le_refl _⟩, ⟨by (with_reducible repeat (first | apply Kd.R_alloc | apply Kd.R_drewN | apply Kd.R_drew)); exact HO_7.out⟩, ⟨by (with_reducible repeat (first | refine blk_drewN ?_ _ | refine blk_drew ?_ | refine blk_alloc ?_ _)); exact BK288.out⟩, ⟨by repeat (first | (with_reducible first | exact HB.out | apply below_alloc | apply pw_below_drewN | apply below_drew1 | refine below_set ?_ GE288.out) | exact HB.out)⟩⟩
         case round =>
          clear H'
          try clear c1
          try clear c2
          try clear p2
          try clear c6
          try clear c6b0
          try clear c6b1
          try clear c7
          try clear c10
          try clear c14
          try clear c14b0
          try clear c14b1
          try clear c15
          try clear c17
          try clear c17b0
          try clear hcz15_0
          try clear hcz15_1
          try clear hcz15_2
          try clear hcz18_0
          try clear hcz18_1
          try clear hcz18_2
          try clear hcz8_0
          try clear hcz8_1
          try clear hcz8_2
          try clear hfz15_0
          try clear hfz15_1
          try clear hfz15_2
          try clear hfz18_0
          try clear hfz18_1
          try clear hfz18_2
          try clear hfz8_0
          try clear hfz8_1
          try clear hfz8_2
          try clear p2
          obtain ⟨x9_3, x11_3, rfl, rfl, HA, HK3, HO_7, BK288, HB⟩ := hrel
          cases gk with
          | zero => exact absurd HA.out (by simp [papermilllaw50_WinderSets.l1])
          | succ k3 =>
           have H := HA.out
           clear HA
           simp only [papermilllaw50_WinderSets.l1] at H
           by_cases c19 : 0 ≤ x10_2
           ·rw [if_pos c19] at H
            have c19b0 : decide (0 ≤ x10_2) = true := decide_eq_true c19
            clear c19
            by_cases c20 : x10_2 < (l2_1.length : Int)
            ·rw [if_pos c20] at H
             have c20b0 : decide (x10_2 < (l2_1.length : Int)) = true := decide_eq_true c20
             clear c20
             by_cases c21 : x11_3 < (rd l2_1 x10_2)
             ·rw [if_pos c21] at H
              have c21b0 : decide (x11_3 < (rd l2_1 x10_2)) = true := decide_eq_true c21
              clear c21
              by_cases c22 : x9_3 ≥ (t291.length : Int)
              ·rw [if_pos c22] at H
               have c22b0 : decide ((t291.length : Int) ≤ x9_3) = true := decide_eq_true c22
               clear c22
               obtain rfl := Option.some.inj H
               have hcz23_0 : wr.cell? ⟨gb288, 0, none⟩ = some (.slice A2_0 l2_0.length c2_0) := (blk_cell BK288.out 0).trans rfl
               have hcz23_1 : wr.cell? ⟨gb288, 1, none⟩ = some (.slice A2_1 l2_1.length c2_1) := (blk_cell BK288.out 1).trans rfl
               have hcz23_2 : wr.cell? ⟨gb288, 2, none⟩ = some (.int .i64 a2_2) := (blk_cell BK288.out 2).trans rfl
               have hfz23_0 := blk_frozen BK288.out 0
               have hfz23_1 := blk_frozen BK288.out 1
               have hfz23_2 := blk_frozen BK288.out 2
               have p297 : 0 ≤ (x10_2 : Int) := of_decide_eq_true (by first | (with_reducible assumption) | assumption)
               have q297 : x10_2 < (l2_1.length : Int) := of_decide_eq_true (by first | (with_reducible assumption) | assumption)
               obtain ⟨ad297, e297, hx297_0⟩ := Kd.at_int HR2_1.out x10_2 p297 q297
               cases e297
               replace hx297_0 := (HB.out.cell (World.block_lt_of_cell? w _ hx297_0)).trans hx297_0
               replace p297 := eq_true p297
               replace q297 := eq_true q297
               obtain ⟨Ao24, co24, eo24⟩ := Kd.R_slice HO_7.out
               subst eo24
               go_wp2
               go_ret
               exact ⟨by first | rfl | (simp [errW_none, errW_some] <;> rfl) | (simp [*, errW_none, errW_some] <;> rfl), by repeat (first | (with_reducible first | exact HB.out | apply below_alloc | apply pw_below_drewN | apply below_drew1 | refine below_set ?_ GE288.out) | exact HB.out)⟩
              ·rw [if_neg c22] at H
               have c22b0 : decide ((t291.length : Int) ≤ x9_3) = false := decide_eq_false c22
               clear c22
               by_cases c25 : 0 ≤ x9_3
               ·rw [if_pos c25] at H
                have c25b0 : decide (0 ≤ x9_3) = true := decide_eq_true c25
                clear c25
                by_cases c26 : x9_3 < (t291.length : Int)
                ·rw [if_pos c26] at H
                 have c26b0 : decide (x9_3 < (t291.length : Int)) = true := decide_eq_true c26
                 clear c26
                 by_cases c27 : ((rd_T43 t291 x9_3).f2) = x10_2
                 ·rw [if_pos c27] at H
                  have c27b0 : (((rd_T43 t291 x9_3).f2) == x10_2) = true := beq_iff_eq.mpr c27
                  have c27b1 : (((rd_T43 t291 x9_3).f2) != x10_2) = false := bne_eq_false_iff_eq.mpr c27
                  clear c27
                  have H' := Aside0.mk H
                  clear H
                  have hcz28_0 : wr.cell? ⟨gb288, 0, none⟩ = some (.slice A2_0 l2_0.length c2_0) := (blk_cell BK288.out 0).trans rfl
                  have hcz28_1 : wr.cell? ⟨gb288, 1, none⟩ = some (.slice A2_1 l2_1.length c2_1) := (blk_cell BK288.out 1).trans rfl
                  have hcz28_2 : wr.cell? ⟨gb288, 2, none⟩ = some (.int .i64 a2_2) := (blk_cell BK288.out 2).trans rfl
                  have hfz28_0 := blk_frozen BK288.out 0
                  have hfz28_1 := blk_frozen BK288.out 1
                  have hfz28_2 := blk_frozen BK288.out 2
                  have p297 : 0 ≤ (x10_2 : Int) := of_decide_eq_true (by first | (with_reducible assumption) | assumption)
                  have q297 : x10_2 < (l2_1.length : Int) := of_decide_eq_true (by first | (with_reducible assumption) | assumption)
                  obtain ⟨ad297, e297, hx297_0⟩ := Kd.at_int HR2_1.out x10_2 p297 q297
                  cases e297
                  replace hx297_0 := (HB.out.cell (World.block_lt_of_cell? w _ hx297_0)).trans hx297_0
                  replace p297 := eq_true p297
                  replace q297 := eq_true q297
                  obtain ⟨Ao29, co29, eo29⟩ := Kd.R_slice HO_7.out
                  subst eo29
                  have p298 : 0 ≤ (x9_3 : Int) := of_decide_eq_true (by first | (with_reducible assumption) | assumption)
                  have q298 : x9_3 < (t291.length : Int) := of_decide_eq_true (by first | (with_reducible assumption) | assumption)
                  obtain ⟨ad298, e298, hx298_0, hx298_1, hx298_2⟩ := at_T43 (Kd.R_reads' HO_7.out).2.2 x9_3 p298 q298
                  cases e298
                  replace p298 := eq_true p298
                  replace q298 := eq_true q298
                  go_wp2
                  go_roundg k3
                  case measure => have := HJ3.out; have := HK2.out; have := HK3.out; omega
                  case rel => exact ⟨(wrap64 (x9_3 + 1)), (wrap64 (x11_3 + 1)), (by first | rfl | (simp; done) | (simp [*]; done)), (by first | rfl | (simp; done) | (simp [*]; done)), H', ⟨by have := HJ3.out; have := HK2.out; have := HK3.out; omega⟩, ⟨by (with_reducible repeat (first | apply Kd.R_alloc | apply Kd.R_drewN | apply Kd.R_drew)); exact HO_7.out⟩, ⟨by (with_reducible repeat (first | refine blk_drewN ?_ _ | refine blk_drew ?_ | refine blk_alloc ?_ _)); exact BK288.out⟩, ⟨by repeat (first | (with_reducible first | exact HB.out | apply below_alloc | apply pw_below_drewN | apply below_drew1 | refine below_set ?_ GE288.out) | exact HB.out)⟩⟩
                 ·rw [if_neg c27] at H
                  have c27b0 : (((rd_T43 t291 x9_3).f2) == x10_2) = false := beq_eq_false_iff_ne.mpr c27
                  have c27b1 : (((rd_T43 t291 x9_3).f2) != x10_2) = true := bne_iff_ne.mpr c27
                  obtain rfl := Option.some.inj H
                  have hcz30_0 : wr.cell? ⟨gb288, 0, none⟩ = some (.slice A2_0 l2_0.length c2_0) := (blk_cell BK288.out 0).trans rfl
                  have hcz30_1 : wr.cell? ⟨gb288, 1, none⟩ = some (.slice A2_1 l2_1.length c2_1) := (blk_cell BK288.out 1).trans rfl
                  have hcz30_2 : wr.cell? ⟨gb288, 2, none⟩ = some (.int .i64 a2_2) := (blk_cell BK288.out 2).trans rfl
                  have hfz30_0 := blk_frozen BK288.out 0
                  have hfz30_1 := blk_frozen BK288.out 1
                  have hfz30_2 := blk_frozen BK288.out 2
                  have p297 : 0 ≤ (x10_2 : Int) := of_decide_eq_true (by first | (with_reducible assumption) | assumption)
                  have q297 : x10_2 < (l2_1.length : Int) := of_decide_eq_true (by first | (with_reducible assumption) | assumption)
                  obtain ⟨ad297, e297, hx297_0⟩ := Kd.at_int HR2_1.out x10_2 p297 q297
                  cases e297
                  replace hx297_0 := (HB.out.cell (World.block_lt_of_cell? w _ hx297_0)).trans hx297_0
                  replace p297 := eq_true p297
                  replace q297 := eq_true q297
                  obtain ⟨Ao31, co31, eo31⟩ := Kd.R_slice HO_7.out
                  subst eo31
                  have p298 : 0 ≤ (x9_3 : Int) := of_decide_eq_true (by first | (with_reducible assumption) | assumption)
                  have q298 : x9_3 < (t291.length : Int) := of_decide_eq_true (by first | (with_reducible assumption) | assumption)
                  obtain ⟨ad298, e298, hx298_0, hx298_1, hx298_2⟩ := at_T43 (Kd.R_reads' HO_7.out).2.2 x9_3 p298 q298
                  cases e298
                  replace p298 := eq_true p298
                  replace q298 := eq_true q298
                  go_wp2
                  go_ret
                  exact ⟨by first | rfl | (simp [errW_none, errW_some] <;> rfl) | (simp [*, errW_none, errW_some] <;> rfl), by repeat (first | (with_reducible first | exact HB.out | apply below_alloc | apply pw_below_drewN | apply below_drew1 | refine below_set ?_ GE288.out) | exact HB.out)⟩
                ·rw [if_neg c26] at H
                 exact absurd H (by simp)
               ·rw [if_neg c25] at H
                exact absurd H (by simp)
             ·rw [if_neg c21] at H
              have c21b0 : decide (x11_3 < (rd l2_1 x10_2)) = false := decide_eq_false c21
              clear c21
              have H' := Aside0.mk H
              clear H
              have hcz32_0 : wr.cell? ⟨gb288, 0, none⟩ = some (.slice A2_0 l2_0.length c2_0) := (blk_cell BK288.out 0).trans rfl
              have hcz32_1 : wr.cell? ⟨gb288, 1, none⟩ = some (.slice A2_1 l2_1.length c2_1) := (blk_cell BK288.out 1).trans rfl
              have hcz32_2 : wr.cell? ⟨gb288, 2, none⟩ = some (.int .i64 a2_2) := (blk_cell BK288.out 2).trans rfl
              have hfz32_0 := blk_frozen BK288.out 0
              have hfz32_1 := blk_frozen BK288.out 1
              have hfz32_2 := blk_frozen BK288.out 2
              have p297 : 0 ≤ (x10_2 : Int) := of_decide_eq_true (by first | (with_reducible assumption) | assumption)
              have q297 : x10_2 < (l2_1.length : Int) := of_decide_eq_true (by first | (with_reducible assumption) | assumption)
              obtain ⟨ad297, e297, hx297_0⟩ := Kd.at_int HR2_1.out x10_2 p297 q297
              cases e297
              replace hx297_0 := (HB.out.cell (World.block_lt_of_cell? w _ hx297_0)).trans hx297_0
              replace p297 := eq_true p297
              replace q297 := eq_true q297
              go_wp2
              go_roundg k3
              case measure => have := HJ3.out; have := HK2.out; have := HK3.out; omega
              case rel => exact ⟨(x9_3), (wrap64 (x10_2 + 1)), (by first | rfl | (simp; done) | (simp [*]; done)), (by first | rfl | (simp; done) | (simp [*]; done)), H', ⟨by have := HJ3.out; have := HK2.out; have := HK3.out; omega⟩, ⟨by (with_reducible repeat (first | apply Kd.R_alloc | apply Kd.R_drewN | apply Kd.R_drew)); exact HO_7.out⟩, ⟨by (with_reducible repeat (first | refine blk_drewN ?_ _ | refine blk_drew ?_ | refine blk_alloc ?_ _)); exact BK288.out⟩, ⟨by repeat (first | (with_reducible first | exact HB.out | apply below_alloc | apply pw_below_drewN | apply below_drew1 | refine below_set ?_ GE288.out) | exact HB.out)⟩⟩
            ·rw [if_neg c20] at H
             exact absurd H (by simp)
           ·rw [if_neg c19] at H
            exact absurd H (by simp)
        ·rw [if_neg c17] at H
         have c17b0 : decide (x10_2 < (l2_1.length : Int)) = false := decide_eq_false c17
         clear c17
         by_cases c33 : x9_2 = (t291.length : Int)
         ·rw [if_pos c33] at H
          have c33b0 : (x9_2 == (t291.length : Int)) = true := beq_iff_eq.mpr c33
          have c33b1 : (x9_2 != (t291.length : Int)) = false := bne_eq_false_iff_eq.mpr c33
          clear c33
          replace H := Option.bind_eq_some_iff.mp H
          obtain ⟨t296, A340, H⟩ := H
          replace H : (some t296) = some r := H
          have A34 := Aside0.mk A340
          clear A340
          obtain rfl := Option.some.inj H
          have hcz35_0 : wr.cell? ⟨gb288, 0, none⟩ = some (.slice A2_0 l2_0.length c2_0) := (blk_cell BK288.out 0).trans rfl
          have hcz35_1 : wr.cell? ⟨gb288, 1, none⟩ = some (.slice A2_1 l2_1.length c2_1) := (blk_cell BK288.out 1).trans rfl
          have hcz35_2 : wr.cell? ⟨gb288, 2, none⟩ = some (.int .i64 a2_2) := (blk_cell BK288.out 2).trans rfl
          have hfz35_0 := blk_frozen BK288.out 0
          have hfz35_1 := blk_frozen BK288.out 1
          have hfz35_2 := blk_frozen BK288.out 2
          obtain ⟨Ao36, co36, eo36⟩ := Kd.R_slice HO_7.out
          subst eo36
          go_wp2_with (first | (go_at_call 10; (with_reducible refine (papermilllaw50_awake.calls k2  t296 _ A34.out).mono ?_); rintro e w37 ⟨rfl, hb⟩; have n0_ := Aside0.mk (Kd.R_below (by (with_reducible repeat (first | apply Kd.R_alloc | apply Kd.R_drewN | apply Kd.R_drew)); exact HO_7.out) hb); have n1_ := Aside0.mk (blk_below (g := gb288) (o := .cells #[.slice A2_0 l2_0.length c2_0, .slice A2_1 l2_1.length c2_1, .int .i64 a2_2] 31 (0, 0)) (by (with_reducible repeat (first | refine blk_drewN ?_ _ | refine blk_drew ?_ | refine blk_alloc ?_ _)); exact BK288.out) hb); have n2_ := Aside0.mk (below_step (by repeat (first | (with_reducible first | exact HB.out | apply below_alloc | apply pw_below_drewN | apply below_drew1 | refine below_set ?_ GE288.out) | exact HB.out)) hb); clear HO_7; clear BK288; clear HB; have HO_7 := n0_; have BK288 := n1_; have HB := n2_; clear n0_ n1_ n2_; (try clear hb); (try clear hb2); (try clear hk); (try clear hi)))
          go_ret
          exact ⟨by first | rfl | (simp [errW_none, errW_some] <;> rfl) | (simp [*, errW_none, errW_some] <;> rfl), by repeat (first | (with_reducible first | exact HB.out | apply below_alloc | apply pw_below_drewN | apply below_drew1 | refine below_set ?_ GE288.out) | exact HB.out)⟩
         ·rw [if_neg c33] at H
          have c33b0 : (x9_2 == (t291.length : Int)) = false := beq_eq_false_iff_ne.mpr c33
          have c33b1 : (x9_2 != (t291.length : Int)) = true := bne_iff_ne.mpr c33
          obtain rfl := Option.some.inj H
          have hcz38_0 : wr.cell? ⟨gb288, 0, none⟩ = some (.slice A2_0 l2_0.length c2_0) := (blk_cell BK288.out 0).trans rfl
          have hcz38_1 : wr.cell? ⟨gb288, 1, none⟩ = some (.slice A2_1 l2_1.length c2_1) := (blk_cell BK288.out 1).trans rfl
          have hcz38_2 : wr.cell? ⟨gb288, 2, none⟩ = some (.int .i64 a2_2) := (blk_cell BK288.out 2).trans rfl
          have hfz38_0 := blk_frozen BK288.out 0
          have hfz38_1 := blk_frozen BK288.out 1
          have hfz38_2 := blk_frozen BK288.out 2
          obtain ⟨Ao39, co39, eo39⟩ := Kd.R_slice HO_7.out
          subst eo39
          go_wp2
          go_ret
          exact ⟨by first | rfl | (simp [errW_none, errW_some] <;> rfl) | (simp [*, errW_none, errW_some] <;> rfl), by repeat (first | (with_reducible first | exact HB.out | apply below_alloc | apply pw_below_drewN | apply below_drew1 | refine below_set ?_ GE288.out) | exact HB.out)⟩
     ·rw [if_neg c14] at H
      have c14b0 : (t294 == 0) = false := beq_eq_false_iff_ne.mpr c14
      have c14b1 : (t294 != 0) = true := bne_iff_ne.mpr c14
      replace H := Option.bind_eq_some_iff.mp H
      obtain ⟨t295, A400, H⟩ := H
      replace H : (some t295) = some r := H
      have A40 := Aside0.mk A400
      clear A400
      obtain rfl := Option.some.inj H
      have hcz41_0 : wc.cell? ⟨gb288, 0, none⟩ = some (.slice A2_0 l2_0.length c2_0) := (blk_cell BK288.out 0).trans rfl
      have hcz41_1 : wc.cell? ⟨gb288, 1, none⟩ = some (.slice A2_1 l2_1.length c2_1) := (blk_cell BK288.out 1).trans rfl
      have hcz41_2 : wc.cell? ⟨gb288, 2, none⟩ = some (.int .i64 a2_2) := (blk_cell BK288.out 2).trans rfl
      have hfz41_0 := blk_frozen BK288.out 0
      have hfz41_1 := blk_frozen BK288.out 1
      have hfz41_2 := blk_frozen BK288.out 2
      go_wp2_with (first | ((with_reducible refine gate_callee (f := 15) rfl ?_); refine goesL_ (some 25) rfl rfl Try.func15 (by kernel_rfl) rfl #[.slice A0 l0.length c0, .int .i64 a1, .agg #[.slice A2_0 l2_0.length c2_0, .slice A2_1 l2_1.length c2_1, .int .i64 a2_2]] rfl (by (try simp only [List.map_toArray, List.map_cons, List.map_nil]); first | done | rfl | (simp only [List.length_drop, List.length_take]; rfl)) ?_; (with_reducible refine (winder_Jobs.calls kj3 _ _ l0 a1 _ _ l2_0 _ _ l2_1 a2_2 t291 t294 _ ?side1 ?side2 ?side3 ?side4 ?side5 ?side6 A13.out).mono ?_); (case side1 => repeat (first | exact (Kd.C_below HR0.out HB.out) | (with_reducible refine Kd.C_alloc ?_ _) | (with_reducible refine Kd.C_drewN ?_ _) | (with_reducible refine Kd.C_drew ?_))); (case side2 => exact HC0.out); (case side3 => repeat (first | exact (Kd.C_below HR2_0.out HB.out) | (with_reducible refine Kd.C_alloc ?_ _) | (with_reducible refine Kd.C_drewN ?_ _) | (with_reducible refine Kd.C_drew ?_))); (case side4 => exact HC2_0.out); (case side5 => repeat (first | exact (Kd.C_below HR2_1.out HB.out) | (with_reducible refine Kd.C_alloc ?_ _) | (with_reducible refine Kd.C_drewN ?_ _) | (with_reducible refine Kd.C_drew ?_))); (case side6 => exact HC2_1.out); rintro e w42 ⟨v292, rfl, ho0, hb⟩; refine ⟨_, rfl, ?_⟩; have n0_ := Aside0.mk (Kd.R_lower ho0 (below_size (by repeat (first | (with_reducible first | exact HB.out | apply below_alloc | apply pw_below_drewN | apply below_drew1 | refine below_set ?_ GE288.out) | exact HB.out)))); have n1_ := Aside0.mk (blk_below (g := gb288) (o := .cells #[.slice A2_0 l2_0.length c2_0, .slice A2_1 l2_1.length c2_1, .int .i64 a2_2] 31 (0, 0)) (by (with_reducible repeat (first | refine blk_drewN ?_ _ | refine blk_drew ?_ | refine blk_alloc ?_ _)); exact BK288.out) hb); have n2_ := Aside0.mk (below_step (by repeat (first | (with_reducible first | exact HB.out | apply below_alloc | apply pw_below_drewN | apply below_drew1 | refine below_set ?_ GE288.out) | exact HB.out)) hb); clear BK288; clear HB; have HO293 := n0_; have BK288 := n1_; have HB := n2_; clear n0_ n1_ n2_; (try clear hb); (try clear hb2); (try clear hk); (try clear hi); (try clear ho0)) | ((with_reducible refine gate_callee (f := 10) rfl ?_); refine goesL_ (some 30) rfl rfl Try.func10 (by kernel_rfl) rfl #[] rfl (by (try simp only [List.map_toArray, List.map_cons, List.map_nil]); first | done | rfl | (simp only [List.length_drop, List.length_take]; rfl)) ?_; (with_reducible refine (papermilllaw50_awake.calls kj3  t295 _ A40.out).mono ?_); rintro e w43 ⟨rfl, hb⟩; refine ⟨_, rfl, ?_⟩; have n0_ := Aside0.mk (Kd.R_below (by (with_reducible repeat (first | apply Kd.R_alloc | apply Kd.R_drewN | apply Kd.R_drew)); exact HO293.out) hb); have n1_ := Aside0.mk (blk_below (g := gb288) (o := .cells #[.slice A2_0 l2_0.length c2_0, .slice A2_1 l2_1.length c2_1, .int .i64 a2_2] 31 (0, 0)) (by (with_reducible repeat (first | refine blk_drewN ?_ _ | refine blk_drew ?_ | refine blk_alloc ?_ _)); exact BK288.out) hb); have n2_ := Aside0.mk (below_step (by repeat (first | (with_reducible first | exact HB.out | apply below_alloc | apply pw_below_drewN | apply below_drew1 | refine below_set ?_ GE288.out) | exact HB.out)) hb); clear HO293; clear BK288; clear HB; have HO293 := n0_; have BK288 := n1_; have HB := n2_; clear n0_ n1_ n2_; (try clear hb); (try clear hb2); (try clear hk); (try clear hi)))
      go_ret
      exact ⟨by first | rfl | (simp [errW_none, errW_some] <;> rfl) | (simp [*, errW_none, errW_some] <;> rfl), by repeat (first | (with_reducible first | exact HB.out | apply below_alloc | apply pw_below_drewN | apply below_drew1 | refine below_set ?_ GE288.out) | exact HB.out)⟩

/-- THE ONE PURE STATEMENT of papermilllaw50_WinderSets. -/
def papermilllaw50_WinderSets.Pure : Prop := ∀ (l0 : List Int) (a1 : Int) (l2_0 : List (List Int)) (l2_1 : List Int) (a2_2 : Int), (l0.length ≤ maxLen ∧ ∀ z21_ ∈ l0, (Lit.int .i64 z21_).wf = true) → (Lit.int .i64 a1).wf = true → (l2_0.length ≤ maxLen ∧ ∀ z22_ ∈ l2_0, (z22_.length ≤ maxLen ∧ ∀ z23_ ∈ z22_, (Lit.int .i64 z23_).wf = true)) → (l2_1.length ≤ maxLen ∧ ∀ z24_ ∈ l2_1, (Lit.int .i64 z24_).wf = true) → (Lit.int .i64 a2_2).wf = true → ∃ k, papermilllaw50_WinderSets.f k l0 a1 l2_0 l2_1 a2_2 = some true
theorem papermilllaw50_WinderSets.walk (P : papermilllaw50_WinderSets.Pure) (A0 : Option Addr) (c0 : Nat) (l0 : List Int) (a1 : Int) (A2_0 : Option Addr) (c2_0 : Nat) (l2_0 : List (List Int)) (A2_1 : Option Addr) (c2_1 : Nat) (l2_1 : List Int) (a2_2 : Int) (w : World) (hr0 : Kd.C (Kd.int .i64) w A0 l0.length l0) (hc0 : l0.length ≤ c0) (hr2_0 : Kd.C (Kd.slice 3 (Kd.int .i64)) w A2_0 l2_0.length l2_0) (hc2_0 : l2_0.length ≤ c2_0) (hr2_1 : Kd.C (Kd.int .i64) w A2_1 l2_1.length l2_1) (hc2_1 : l2_1.length ≤ c2_1) (q0 : (l0.length ≤ maxLen ∧ ∀ z25_ ∈ l0, (Lit.int .i64 z25_).wf = true)) (q1 : (Lit.int .i64 a1).wf = true) (q2_0 : (l2_0.length ≤ maxLen ∧ ∀ z26_ ∈ l2_0, (z26_.length ≤ maxLen ∧ ∀ z27_ ∈ z26_, (Lit.int .i64 z27_).wf = true))) (q2_1 : (l2_1.length ≤ maxLen ∧ ∀ z28_ ∈ l2_1, (Lit.int .i64 z28_).wf = true)) (q2_2 : (Lit.int .i64 a2_2).wf = true) :
    Calls Try.prog 7 #[.slice A0 l0.length c0, .int .i64 a1, .agg #[.slice A2_0 l2_0.length c2_0, .slice A2_1 l2_1.length c2_1, .int .i64 a2_2]] w fun e w' => e = .returned (.bool true) ∧ Below w.heap.size w w' := by
  obtain ⟨k, h⟩ := P l0 a1 l2_0 l2_1 a2_2 q0 q1 q2_0 q2_1 q2_2
  refine (papermilllaw50_WinderSets.calls k _ _ l0 a1 _ _ l2_0 _ _ l2_1 a2_2 true w hr0 hc0 hr2_0 hc2_0 hr2_1 hc2_1 h).mono ?_
  rintro e w' ⟨rfl, hd⟩
  exact ⟨rfl, hd⟩

end Go.Proofs.Ythdbnoeaiafniaa.PX
