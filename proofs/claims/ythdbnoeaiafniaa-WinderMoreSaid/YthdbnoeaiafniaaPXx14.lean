-- Written by a program of this session (hyb.py), which runs the print over the translation with contracts of its own added; it is not the print itself. Lean checks it.
import Derived.Test.YthdbnoeaiafniaaPXx0
import Derived.Test.YthdbnoeaiafniaaPXx3
import Derived.Test.YthdbnoeaiafniaaPXx5
import Derived.Test.YthdbnoeaiafniaaPXx6
import Derived.Test.YthdbnoeaiafniaaPXx9
namespace Go.Proofs.Ythdbnoeaiafniaa.PX
open Go.RowKit Go.Proofs.YthdbnoeaiafniaaW.PrintWords Go.Proofs.YthdbnoeaiafniaaW.PrintLast Go.Proofs.YthdbnoeaiafniaaW.PrintMore
attribute [local go_sem] max2_int min2_int max_two min_two max_three min_three max_four min_four   -- for this text's walks alone
set_option linter.unusedVariables false
set_option linter.unusedSimpArgs false

/-! ### papermilllaw50_WinderJobs: function 6 -/
mutual
def papermilllaw50_WinderJobs.j0 : Nat → List Int → Int → Bool → List (List Int) → List Int → Int → Option (Bool)
  | 0, _, _, _, _, _, _ => none
  | k + 1, x0, x1, x22, x272000, x272001, x272002 => if x22 = true then ((papermilllaw50_awake.f k).bind fun t273 => (some t273)) else ((winder_Jobs.f k x0 x1 x272000 x272001 x272002).bind fun bt274 => (if bt274.2 = 0 then (papermilllaw50_WinderJobs.l0 k x0 x1 bt274.1 0 0 0) else (if (bt274.1.length : Int) = 0 then ((papermilllaw50_awake.f k).bind fun t278 => (some t278)) else (some false))))
def papermilllaw50_WinderJobs.l0 : Nat → List Int → Int → List (S43) → Int → Int → Int → Option (Bool)
  | 0, _, _, _, _, _, _ => none
  | k + 1, x0, x1, x7, x9, x10, x11 => if x11 < (x7.length : Int) then (if 0 ≤ x11 then (if ((rd_T43 x7 x11).f0) < x9 then (papermilllaw50_WinderJobs.j2 k x0 x1 x7 x9 x10 x11 ((rd_T43 x7 x11).f0) true) else (papermilllaw50_WinderJobs.j2 k x0 x1 x7 x9 x10 x11 ((rd_T43 x7 x11).f0) (decide (((rd_T43 x7 x11).f0) ≥ (x0.length : Int))))) else (none)) else ((winder_Left.f k x0 x1 x7).bind fun bt279 => (if bt279.2 = 0 then (if (bt279.1.length : Int) = (x0.length : Int) then ((papermilllaw50_awake.f k).bind fun t283 => (some t283)) else (some false)) else (some false)))
def papermilllaw50_WinderJobs.j2 : Nat → List Int → Int → List (S43) → Int → Int → Int → Int → Bool → Option (Bool)
  | 0, _, _, _, _, _, _, _, _ => none
  | k + 1, x0, x1, x7, x9, x10, x11, x12, x58 => if x58 = true then (some false) else (papermilllaw50_WinderJobs.l1 k x0 x1 x7 x9 x10 x11 x12)
def papermilllaw50_WinderJobs.l1 : Nat → List Int → Int → List (S43) → Int → Int → Int → Int → Option (Bool)
  | 0, _, _, _, _, _, _, _ => none
  | k + 1, x0, x1, x7, x9, x10, x11, x12 => if x9 < x12 then (if 0 ≤ x9 then (if x9 < (x0.length : Int) then (if (wrap64 ((rd x0 x9) - x10)) ≥ x1 then (some false) else (papermilllaw50_WinderJobs.l1 k x0 x1 x7 (wrap64 (x9 + 1)) 0 x11 x12)) else (none)) else (none)) else (if 0 ≤ x11 then (if x11 < (x7.length : Int) then (if ((rd_T43 x7 x11).f1) = x10 then (if 0 ≤ x9 then (if x9 < (x0.length : Int) then (if (wrap64 ((rd x0 x9) - x10)) < x1 then (some false) else (papermilllaw50_WinderJobs.l0 k x0 x1 x7 x9 (wrap64 (x10 + x1)) (wrap64 (x11 + 1)))) else (none)) else (none)) else (some false)) else (none)) else (none))
end
def papermilllaw50_WinderJobs.f (k : Nat) (l0 : List Int) (a1 : Int) (l2_0 : List (List Int)) (l2_1 : List Int) (a2_2 : Int) : Option (Bool) := if (l0.length : Int) > 60 then (papermilllaw50_WinderJobs.j0 k l0 a1 true l2_0 l2_1 a2_2) else ((papermilllaw50_few.f k l2_0 l2_1 a2_2).bind fun t272 => (papermilllaw50_WinderJobs.j0 k l0 a1 (!t272) l2_0 l2_1 a2_2))
theorem papermilllaw50_WinderJobs.mono_l : ∀ k, (∀ y0 y1 y2 y3 y4 y5, LeO (papermilllaw50_WinderJobs.j0 k y0 y1 y2 y3 y4 y5) (papermilllaw50_WinderJobs.j0 (k + 1) y0 y1 y2 y3 y4 y5)) ∧ (∀ y0 y1 y2 y3 y4 y5, LeO (papermilllaw50_WinderJobs.l0 k y0 y1 y2 y3 y4 y5) (papermilllaw50_WinderJobs.l0 (k + 1) y0 y1 y2 y3 y4 y5)) ∧ (∀ y0 y1 y2 y3 y4 y5 y6 y7, LeO (papermilllaw50_WinderJobs.j2 k y0 y1 y2 y3 y4 y5 y6 y7) (papermilllaw50_WinderJobs.j2 (k + 1) y0 y1 y2 y3 y4 y5 y6 y7)) ∧ (∀ y0 y1 y2 y3 y4 y5 y6, LeO (papermilllaw50_WinderJobs.l1 k y0 y1 y2 y3 y4 y5 y6) (papermilllaw50_WinderJobs.l1 (k + 1) y0 y1 y2 y3 y4 y5 y6))
  | 0 => ⟨fun _ _ _ _ _ _ r h => by simp [papermilllaw50_WinderJobs.j0] at h, fun _ _ _ _ _ _ r h => by simp [papermilllaw50_WinderJobs.l0] at h, fun _ _ _ _ _ _ _ _ r h => by simp [papermilllaw50_WinderJobs.j2] at h, fun _ _ _ _ _ _ _ r h => by simp [papermilllaw50_WinderJobs.l1] at h⟩
  | k + 1 => by
    obtain ⟨ih0, ih1, ih2, ih3⟩ := papermilllaw50_WinderJobs.mono_l k
    refine ⟨?_, ?_, ?_, ?_⟩
    · intro y0 y1 y2 y3 y4 y5
      unfold papermilllaw50_WinderJobs.j0
      repeat' first
      | (with_reducible exact ih0 _ _ _ _ _ _)
      | (with_reducible exact ih1 _ _ _ _ _ _)
      | (with_reducible exact ih2 _ _ _ _ _ _ _ _)
      | (with_reducible exact ih3 _ _ _ _ _ _ _)
      | (with_reducible exact papermilllaw50_awake.mono _)
      | (with_reducible exact papermilllaw50_few.mono _ _ _ _)
      | (with_reducible exact winder_Jobs.mono _ _ _ _ _ _)
      | (with_reducible exact winder_Left.mono _ _ _ _)
      | (with_reducible exact LeO.refl _)
      | (with_reducible exact LeO.none _)
      | (with_reducible refine LeO.ite ?_ ?_)
      | (with_reducible refine LeO.bind ?_ (fun _ => ?_))
      | exact ih0 _ _ _ _ _ _
      | exact ih1 _ _ _ _ _ _
      | exact ih2 _ _ _ _ _ _ _ _
      | exact ih3 _ _ _ _ _ _ _
      | exact papermilllaw50_awake.mono _
      | exact papermilllaw50_few.mono _ _ _ _
      | exact winder_Jobs.mono _ _ _ _ _ _
      | exact winder_Left.mono _ _ _ _
      | exact LeO.none _
      | refine LeO.ite ?_ ?_
      | refine LeO.bind ?_ (fun _ => ?_)
    · intro y0 y1 y2 y3 y4 y5
      unfold papermilllaw50_WinderJobs.l0
      repeat' first
      | (with_reducible exact ih0 _ _ _ _ _ _)
      | (with_reducible exact ih1 _ _ _ _ _ _)
      | (with_reducible exact ih2 _ _ _ _ _ _ _ _)
      | (with_reducible exact ih3 _ _ _ _ _ _ _)
      | (with_reducible exact papermilllaw50_awake.mono _)
      | (with_reducible exact papermilllaw50_few.mono _ _ _ _)
      | (with_reducible exact winder_Jobs.mono _ _ _ _ _ _)
      | (with_reducible exact winder_Left.mono _ _ _ _)
      | (with_reducible exact LeO.refl _)
      | (with_reducible exact LeO.none _)
      | (with_reducible refine LeO.ite ?_ ?_)
      | (with_reducible refine LeO.bind ?_ (fun _ => ?_))
      | exact ih0 _ _ _ _ _ _
      | exact ih1 _ _ _ _ _ _
      | exact ih2 _ _ _ _ _ _ _ _
      | exact ih3 _ _ _ _ _ _ _
      | exact papermilllaw50_awake.mono _
      | exact papermilllaw50_few.mono _ _ _ _
      | exact winder_Jobs.mono _ _ _ _ _ _
      | exact winder_Left.mono _ _ _ _
      | exact LeO.none _
      | refine LeO.ite ?_ ?_
      | refine LeO.bind ?_ (fun _ => ?_)
    · intro y0 y1 y2 y3 y4 y5 y6 y7
      unfold papermilllaw50_WinderJobs.j2
      repeat' first
      | (with_reducible exact ih0 _ _ _ _ _ _)
      | (with_reducible exact ih1 _ _ _ _ _ _)
      | (with_reducible exact ih2 _ _ _ _ _ _ _ _)
      | (with_reducible exact ih3 _ _ _ _ _ _ _)
      | (with_reducible exact papermilllaw50_awake.mono _)
      | (with_reducible exact papermilllaw50_few.mono _ _ _ _)
      | (with_reducible exact winder_Jobs.mono _ _ _ _ _ _)
      | (with_reducible exact winder_Left.mono _ _ _ _)
      | (with_reducible exact LeO.refl _)
      | (with_reducible exact LeO.none _)
      | (with_reducible refine LeO.ite ?_ ?_)
      | (with_reducible refine LeO.bind ?_ (fun _ => ?_))
      | exact ih0 _ _ _ _ _ _
      | exact ih1 _ _ _ _ _ _
      | exact ih2 _ _ _ _ _ _ _ _
      | exact ih3 _ _ _ _ _ _ _
      | exact papermilllaw50_awake.mono _
      | exact papermilllaw50_few.mono _ _ _ _
      | exact winder_Jobs.mono _ _ _ _ _ _
      | exact winder_Left.mono _ _ _ _
      | exact LeO.none _
      | refine LeO.ite ?_ ?_
      | refine LeO.bind ?_ (fun _ => ?_)
    · intro y0 y1 y2 y3 y4 y5 y6
      unfold papermilllaw50_WinderJobs.l1
      repeat' first
      | (with_reducible exact ih0 _ _ _ _ _ _)
      | (with_reducible exact ih1 _ _ _ _ _ _)
      | (with_reducible exact ih2 _ _ _ _ _ _ _ _)
      | (with_reducible exact ih3 _ _ _ _ _ _ _)
      | (with_reducible exact papermilllaw50_awake.mono _)
      | (with_reducible exact papermilllaw50_few.mono _ _ _ _)
      | (with_reducible exact winder_Jobs.mono _ _ _ _ _ _)
      | (with_reducible exact winder_Left.mono _ _ _ _)
      | (with_reducible exact LeO.refl _)
      | (with_reducible exact LeO.none _)
      | (with_reducible refine LeO.ite ?_ ?_)
      | (with_reducible refine LeO.bind ?_ (fun _ => ?_))
      | exact ih0 _ _ _ _ _ _
      | exact ih1 _ _ _ _ _ _
      | exact ih2 _ _ _ _ _ _ _ _
      | exact ih3 _ _ _ _ _ _ _
      | exact papermilllaw50_awake.mono _
      | exact papermilllaw50_few.mono _ _ _ _
      | exact winder_Jobs.mono _ _ _ _ _ _
      | exact winder_Left.mono _ _ _ _
      | exact LeO.none _
      | refine LeO.ite ?_ ?_
      | refine LeO.bind ?_ (fun _ => ?_)
theorem papermilllaw50_WinderJobs.mono : ∀ a0 a1 a2 a3 a4 k, LeO (papermilllaw50_WinderJobs.f k a0 a1 a2 a3 a4) (papermilllaw50_WinderJobs.f (k + 1) a0 a1 a2 a3 a4) := by
  intro a0 a1 a2 a3 a4 k
  obtain ⟨ih0, ih1, ih2, ih3⟩ := papermilllaw50_WinderJobs.mono_l k
  unfold papermilllaw50_WinderJobs.f
  repeat' first
      | (with_reducible exact ih0 _ _ _ _ _ _)
      | (with_reducible exact ih1 _ _ _ _ _ _)
      | (with_reducible exact ih2 _ _ _ _ _ _ _ _)
      | (with_reducible exact ih3 _ _ _ _ _ _ _)
      | (with_reducible exact papermilllaw50_awake.mono _)
      | (with_reducible exact papermilllaw50_few.mono _ _ _ _)
      | (with_reducible exact winder_Jobs.mono _ _ _ _ _ _)
      | (with_reducible exact winder_Left.mono _ _ _ _)
      | (with_reducible exact LeO.refl _)
      | (with_reducible exact LeO.none _)
      | (with_reducible refine LeO.ite ?_ ?_)
      | (with_reducible refine LeO.bind ?_ (fun _ => ?_))
      | exact ih0 _ _ _ _ _ _
      | exact ih1 _ _ _ _ _ _
      | exact ih2 _ _ _ _ _ _ _ _
      | exact ih3 _ _ _ _ _ _ _
      | exact papermilllaw50_awake.mono _
      | exact papermilllaw50_few.mono _ _ _ _
      | exact winder_Jobs.mono _ _ _ _ _ _
      | exact winder_Left.mono _ _ _ _
      | exact LeO.none _
      | refine LeO.ite ?_ ?_
      | refine LeO.bind ?_ (fun _ => ?_)
set_option maxHeartbeats 8000000 in
set_option maxRecDepth 100000 in
theorem papermilllaw50_WinderJobs.calls (k : Nat) (A0 : Option Addr) (c0 : Nat) (l0 : List Int) (a1 : Int) (A2_0 : Option Addr) (c2_0 : Nat) (l2_0 : List (List Int)) (A2_1 : Option Addr) (c2_1 : Nat) (l2_1 : List Int) (a2_2 : Int) (r : Bool) (w : World) (hr0 : Kd.C (Kd.int .i64) w A0 l0.length l0) (hc0 : l0.length ≤ c0) (hr2_0 : Kd.C (Kd.slice 3 (Kd.int .i64)) w A2_0 l2_0.length l2_0) (hc2_0 : l2_0.length ≤ c2_0) (hr2_1 : Kd.C (Kd.int .i64) w A2_1 l2_1.length l2_1) (hc2_1 : l2_1.length ≤ c2_1) (h : papermilllaw50_WinderJobs.f k l0 a1 l2_0 l2_1 a2_2 = some r) :
    Calls Try.prog 6 #[.slice A0 l0.length c0, .int .i64 a1, .agg #[.slice A2_0 l2_0.length c2_0, .slice A2_1 l2_1.length c2_1, .int .i64 a2_2]] w fun e w' => e = .returned (.bool r) ∧ Below w.heap.size w w' := by
  have hu31 := Try.underlying31
  have HR0 := Aside0.mk hr0
  have HC0 := Aside0.mk hc0
  clear hr0 hc0
  have HR2_0 := Aside0.mk hr2_0
  have HC2_0 := Aside0.mk hc2_0
  clear hr2_0 hc2_0
  have HR2_1 := Aside0.mk hr2_1
  have HC2_1 := Aside0.mk hc2_1
  clear hr2_1 hc2_1
  have HB := Aside0.mk (Below.refl w.heap.size w)
  have H : (if (l0.length : Int) > 60 then (papermilllaw50_WinderJobs.j0 k l0 a1 true l2_0 l2_1 a2_2) else ((papermilllaw50_few.f k l2_0 l2_1 a2_2).bind fun t272 => (papermilllaw50_WinderJobs.j0 k l0 a1 (!t272) l2_0 l2_1 a2_2))) = some r := h
  clear h
  have HC4 := Aside0.mk H
  clear H
  go_enter Try.func6, Try.ntmps6
  go_upto_region 1 with (first | ((with_reducible refine gate_dst (N := 5) rfl ?_); (try (refine gate_guard (by rfl) ?_; dsimp only)); refine box_event ?hg (N := 5) ?hd (cs := #[.slice A2_0 l2_0.length c2_0, .slice A2_1 l2_1.length c2_1, .int .i64 a2_2]) (t := 31) ?hr ?_; (case hd => rfl); (case hg => rfl); (case hr => first | (go_simp; done) | (go_simp; rfl)); intro gb271 hg w5 hbox hb; have n0_ := Aside0.mk (below_step (by repeat (first | (with_reducible first | exact HB.out | apply below_alloc | apply pw_below_drewN | apply below_drew1) | exact HB.out)) hb); have n1_ := Aside0.mk (hbox); have n2_ := Aside0.mk ((by rw [hg]; exact (below_size (by repeat (first | (with_reducible first | exact HB.out | apply below_alloc | apply pw_below_drewN | apply below_drew1) | exact HB.out))) : w.heap.size ≤ gb271)); have n3_ := Aside0.mk ((by rw [hg]; exact (below_size (by repeat (first | (with_reducible first | exact HB.out | apply below_alloc | apply pw_below_drewN | apply below_drew1) | exact HB.out))) : w.heap.size ≤ gb271)); clear HB; have HB := n0_; have BK271 := n1_; have GW271 := n2_; have GE271 := n3_; clear n0_ n1_ n2_ n3_; clear hb hbox hg))
  (try simp only [Act.put, List.setIfInBounds_toArray, List.set_cons_zero, List.set_cons_succ])
  go_cut [22] (fun v22 wc => ∃ (kq : Nat) (x22_3 : Bool), v22 = .bool x22_3 ∧ Aside0 (papermilllaw50_WinderJobs.j0 kq l0 a1 x22_3 l2_0 l2_1 a2_2 = some r) ∧ Aside0 (kq ≤ k) ∧ Aside0 (wc.heap[gb271]? = some (.cells #[(.slice A2_0 l2_0.length c2_0), (.slice A2_1 l2_1.length c2_1), .int .i64 a2_2] 31 (0, 0))) ∧ Aside0 (Below w.heap.size w wc))
  case first =>
   have H := HC4.out
   clear HC4
   by_cases c6 : (l0.length : Int) > 60
   ·rw [if_pos c6] at H
    have c6b0 : decide (60 < (l0.length : Int)) = true := decide_eq_true c6
    have c6b1 : decide (60 < l0.length) = true := decide_eq_true (by omega)
    clear c6
    (first | rw [c6b0] | (simp only [i64_w, i32_w]; rw [c6b0]) | skip)
    have H' := Aside0.mk H
    clear H
    go_wp2
    go_meet
    case rel => exact ⟨_, (true), (by first | rfl | (simp; done) | (simp [*]; done)), H', ⟨by first | omega | exact Nat.le_refl _⟩, ⟨by (with_reducible repeat (first | refine blk_drewN ?_ _ | refine blk_drew ?_ | refine blk_alloc ?_ _)); exact BK271.out⟩, ⟨by repeat (first | (with_reducible first | exact HB.out | apply below_alloc | apply pw_below_drewN | apply below_drew1 | refine below_set ?_ GE271.out) | exact HB.out)⟩⟩
   ·rw [if_neg c6] at H
    have c6b0 : decide (60 < (l0.length : Int)) = false := decide_eq_false c6
    have c6b1 : decide (60 < l0.length) = false := decide_eq_false (by omega)
    clear c6
    (first | rw [c6b0] | (simp only [i64_w, i32_w]; rw [c6b0]) | skip)
    replace H := Option.bind_eq_some_iff.mp H
    obtain ⟨t272, A70, H⟩ := H
    replace H : (papermilllaw50_WinderJobs.j0 k l0 a1 (!t272) l2_0 l2_1 a2_2) = some r := H
    have A7 := Aside0.mk A70
    clear A70
    have H' := Aside0.mk H
    clear H
    have hcz8_0 : w5.cell? ⟨gb271, 0, none⟩ = some (.slice A2_0 l2_0.length c2_0) := (blk_cell BK271.out 0).trans rfl
    have hcz8_1 : w5.cell? ⟨gb271, 1, none⟩ = some (.slice A2_1 l2_1.length c2_1) := (blk_cell BK271.out 1).trans rfl
    have hcz8_2 : w5.cell? ⟨gb271, 2, none⟩ = some (.int .i64 a2_2) := (blk_cell BK271.out 2).trans rfl
    have hfz8_0 := blk_frozen BK271.out 0
    have hfz8_1 := blk_frozen BK271.out 1
    have hfz8_2 := blk_frozen BK271.out 2
    go_wp2_with (first | (go_at_call 14; (with_reducible refine (papermilllaw50_few.calls k _ _ l2_0 _ _ l2_1 a2_2 t272 _ ?side1 ?side2 ?side3 ?side4 A7.out).mono ?_); (case side1 => repeat (first | exact (Kd.C_below HR2_0.out HB.out) | (with_reducible refine Kd.C_alloc ?_ _) | (with_reducible refine Kd.C_drewN ?_ _) | (with_reducible refine Kd.C_drew ?_))); (case side2 => exact HC2_0.out); (case side3 => repeat (first | exact (Kd.C_below HR2_1.out HB.out) | (with_reducible refine Kd.C_alloc ?_ _) | (with_reducible refine Kd.C_drewN ?_ _) | (with_reducible refine Kd.C_drew ?_))); (case side4 => exact HC2_1.out); rintro e w9 ⟨rfl, hb⟩; have n0_ := Aside0.mk (blk_below (g := gb271) (o := .cells #[.slice A2_0 l2_0.length c2_0, .slice A2_1 l2_1.length c2_1, .int .i64 a2_2] 31 (0, 0)) (by (with_reducible repeat (first | refine blk_drewN ?_ _ | refine blk_drew ?_ | refine blk_alloc ?_ _)); exact BK271.out) hb); have n1_ := Aside0.mk (below_step (by repeat (first | (with_reducible first | exact HB.out | apply below_alloc | apply pw_below_drewN | apply below_drew1 | refine below_set ?_ GE271.out) | exact HB.out)) hb); clear BK271; clear HB; have BK271 := n0_; have HB := n1_; clear n0_ n1_; (try clear hb); (try clear hb2); (try clear hk); (try clear hi)))
    go_meet
    case rel => exact ⟨_, (!t272), (by first | rfl | (simp; done) | (simp [*]; done)), H', ⟨by first | omega | exact Nat.le_refl _⟩, ⟨by (with_reducible repeat (first | refine blk_drewN ?_ _ | refine blk_drew ?_ | refine blk_alloc ?_ _)); exact BK271.out⟩, ⟨by repeat (first | (with_reducible first | exact HB.out | apply below_alloc | apply pw_below_drewN | apply below_drew1 | refine below_set ?_ GE271.out) | exact HB.out)⟩⟩
  case rest =>
   clear HC4
   try clear c2
   try clear p2
   try clear c6
   try clear c6b0
   try clear c6b1
   try clear hcz8_0
   try clear hcz8_1
   try clear hcz8_2
   try clear hfz8_0
   try clear hfz8_1
   try clear hfz8_2
   obtain ⟨kq, x22_3, rfl, HA, HJ3, BK271, HB⟩ := hcut
   cases kq with
   | zero => exact absurd HA.out (by simp [papermilllaw50_WinderJobs.j0])
   | succ kj3 =>
    have H := HA.out
    clear HA
    simp only [papermilllaw50_WinderJobs.j0] at H
    by_cases c10 : x22_3 = true
    ·subst c10
     have H1 : ((papermilllaw50_awake.f kj3).bind fun t273 => (some t273)) = some r := by rw [if_pos rfl] at H; exact H
     clear H
     have H := H1
     clear H1
     replace H := Option.bind_eq_some_iff.mp H
     obtain ⟨t273, A110, H⟩ := H
     replace H : (some t273) = some r := H
     have A11 := Aside0.mk A110
     clear A110
     obtain rfl := Option.some.inj H
     go_wp2_with (first | ((with_reducible refine gate_callee (f := 10) rfl ?_); refine goesL_ (some 23) rfl rfl Try.func10 (by kernel_rfl) rfl #[] rfl (by (try simp only [List.map_toArray, List.map_cons, List.map_nil]); first | done | rfl | (simp only [List.length_drop, List.length_take]; rfl)) ?_; (with_reducible refine (papermilllaw50_awake.calls kj3  t273 _ A11.out).mono ?_); rintro e w12 ⟨rfl, hb⟩; refine ⟨_, rfl, ?_⟩; have n0_ := Aside0.mk (blk_below (g := gb271) (o := .cells #[.slice A2_0 l2_0.length c2_0, .slice A2_1 l2_1.length c2_1, .int .i64 a2_2] 31 (0, 0)) (by (with_reducible repeat (first | refine blk_drewN ?_ _ | refine blk_drew ?_ | refine blk_alloc ?_ _)); exact BK271.out) hb); have n1_ := Aside0.mk (below_step (by repeat (first | (with_reducible first | exact HB.out | apply below_alloc | apply pw_below_drewN | apply below_drew1 | refine below_set ?_ GE271.out) | exact HB.out)) hb); clear BK271; clear HB; have BK271 := n0_; have HB := n1_; clear n0_ n1_; (try clear hb); (try clear hb2); (try clear hk); (try clear hi)))
     go_ret
     exact ⟨by first | rfl | (simp [errW_none, errW_some] <;> rfl) | (simp [*, errW_none, errW_some] <;> rfl), by repeat (first | (with_reducible first | exact HB.out | apply below_alloc | apply pw_below_drewN | apply below_drew1 | refine below_set ?_ GE271.out) | exact HB.out)⟩
    ·replace c10 := Bool.eq_false_iff.mpr c10
     subst c10
     have H1 : ((winder_Jobs.f kj3 l0 a1 l2_0 l2_1 a2_2).bind fun bt274 => (if bt274.2 = 0 then (papermilllaw50_WinderJobs.l0 kj3 l0 a1 bt274.1 0 0 0) else (if (bt274.1.length : Int) = 0 then ((papermilllaw50_awake.f kj3).bind fun t278 => (some t278)) else (some false)))) = some r := by rw [if_neg (show ¬ (false = true) by decide)] at H; exact H
     clear H
     have H := H1
     clear H1
     replace H := Option.bind_eq_some_iff.mp H
     obtain ⟨⟨t274, t277⟩, A130, H⟩ := H
     replace H : (if t277 = 0 then (papermilllaw50_WinderJobs.l0 kj3 l0 a1 t274 0 0 0) else (if (t274.length : Int) = 0 then ((papermilllaw50_awake.f kj3).bind fun t278 => (some t278)) else (some false))) = some r := H
     have A13 := Aside0.mk A130
     clear A130
     by_cases c14 : t277 = 0
     ·rw [if_pos c14] at H
      have c14b0 : (t277 == 0) = true := beq_iff_eq.mpr c14
      have c14b1 : (t277 != 0) = false := bne_eq_false_iff_eq.mpr c14
      clear c14
      have H' := Aside0.mk H
      clear H
      have hcz15_0 : wc.cell? ⟨gb271, 0, none⟩ = some (.slice A2_0 l2_0.length c2_0) := (blk_cell BK271.out 0).trans rfl
      have hcz15_1 : wc.cell? ⟨gb271, 1, none⟩ = some (.slice A2_1 l2_1.length c2_1) := (blk_cell BK271.out 1).trans rfl
      have hcz15_2 : wc.cell? ⟨gb271, 2, none⟩ = some (.int .i64 a2_2) := (blk_cell BK271.out 2).trans rfl
      have hfz15_0 := blk_frozen BK271.out 0
      have hfz15_1 := blk_frozen BK271.out 1
      have hfz15_2 := blk_frozen BK271.out 2
      go_wp2_with (first | ((with_reducible refine gate_callee (f := 15) rfl ?_); refine goesL_ (some 28) rfl rfl Try.func15 (by kernel_rfl) rfl #[.slice A0 l0.length c0, .int .i64 a1, .agg #[.slice A2_0 l2_0.length c2_0, .slice A2_1 l2_1.length c2_1, .int .i64 a2_2]] rfl (by (try simp only [List.map_toArray, List.map_cons, List.map_nil]); first | done | rfl | (simp only [List.length_drop, List.length_take]; rfl)) ?_; (with_reducible refine (winder_Jobs.calls kj3 _ _ l0 a1 _ _ l2_0 _ _ l2_1 a2_2 t274 t277 _ ?side1 ?side2 ?side3 ?side4 ?side5 ?side6 A13.out).mono ?_); (case side1 => repeat (first | exact (Kd.C_below HR0.out HB.out) | (with_reducible refine Kd.C_alloc ?_ _) | (with_reducible refine Kd.C_drewN ?_ _) | (with_reducible refine Kd.C_drew ?_))); (case side2 => exact HC0.out); (case side3 => repeat (first | exact (Kd.C_below HR2_0.out HB.out) | (with_reducible refine Kd.C_alloc ?_ _) | (with_reducible refine Kd.C_drewN ?_ _) | (with_reducible refine Kd.C_drew ?_))); (case side4 => exact HC2_0.out); (case side5 => repeat (first | exact (Kd.C_below HR2_1.out HB.out) | (with_reducible refine Kd.C_alloc ?_ _) | (with_reducible refine Kd.C_drewN ?_ _) | (with_reducible refine Kd.C_drew ?_))); (case side6 => exact HC2_1.out); rintro e w16 ⟨v275, rfl, ho0, hb⟩; refine ⟨_, rfl, ?_⟩; have n0_ := Aside0.mk (Kd.R_lower ho0 (below_size (by repeat (first | (with_reducible first | exact HB.out | apply below_alloc | apply pw_below_drewN | apply below_drew1 | refine below_set ?_ GE271.out) | exact HB.out)))); have n1_ := Aside0.mk (blk_below (g := gb271) (o := .cells #[.slice A2_0 l2_0.length c2_0, .slice A2_1 l2_1.length c2_1, .int .i64 a2_2] 31 (0, 0)) (by (with_reducible repeat (first | refine blk_drewN ?_ _ | refine blk_drew ?_ | refine blk_alloc ?_ _)); exact BK271.out) hb); have n2_ := Aside0.mk (below_step (by repeat (first | (with_reducible first | exact HB.out | apply below_alloc | apply pw_below_drewN | apply below_drew1 | refine below_set ?_ GE271.out) | exact HB.out)) hb); clear BK271; clear HB; have HO276 := n0_; have BK271 := n1_; have HB := n2_; clear n0_ n1_ n2_; (try clear hb); (try clear hb2); (try clear hk); (try clear hi); (try clear ho0)))
      go_loopg [9, 10, 11] kj3 (fun kq v9 v10 v11 w' => ∃ (x9_2 : Int) (x10_2 : Int) (x11_2 : Int), v9 = .int .i64 x9_2 ∧ v10 = .int .i64 x10_2 ∧ v11 = .int .i64 x11_2 ∧ Aside0 (papermilllaw50_WinderJobs.l0 kq l0 a1 t274 x9_2 x10_2 x11_2 = some r) ∧ Aside0 (kq ≤ kj3) ∧ Aside0 (Kd.R k43 43 w' w.heap.size (fun _ => True) v275 t274) ∧ Aside0 (w'.heap[gb271]? = some (.cells #[(.slice A2_0 l2_0.length c2_0), (.slice A2_1 l2_1.length c2_1), .int .i64 a2_2] 31 (0, 0))) ∧ Aside0 (Below w.heap.size w w'))
      case atStart => exact ⟨(0), (0), (0), (by first | rfl | (simp; done) | (simp [*]; done)), (by first | rfl | (simp; done) | (simp [*]; done)), (by first | rfl | (simp; done) | (simp [*]; done)), H', ⟨Nat.le_refl _⟩, ⟨by (with_reducible repeat (first | apply Kd.R_alloc | apply Kd.R_drewN | apply Kd.R_drew)); exact HO276.out⟩, ⟨by (with_reducible repeat (first | refine blk_drewN ?_ _ | refine blk_drew ?_ | refine blk_alloc ?_ _)); exact BK271.out⟩, ⟨by repeat (first | (with_reducible first | exact HB.out | apply below_alloc | apply pw_below_drewN | apply below_drew1 | refine below_set ?_ GE271.out) | exact HB.out)⟩⟩
      case round =>
       clear H'
       try clear c1
       try clear c2
       try clear p2
       try clear c6
       try clear c6b0
       try clear c6b1
       try clear c10
       try clear c14
       try clear c14b0
       try clear c14b1
       try clear c15
       try clear hcz15_0
       try clear hcz15_1
       try clear hcz15_2
       try clear hcz8_0
       try clear hcz8_1
       try clear hcz8_2
       try clear hfz15_0
       try clear hfz15_1
       try clear hfz15_2
       try clear hfz8_0
       try clear hfz8_1
       try clear hfz8_2
       try clear p2
       obtain ⟨x9_2, x10_2, x11_2, rfl, rfl, rfl, HA, HK2, HO_7, BK271, HB⟩ := hrel
       cases gk with
       | zero => exact absurd HA.out (by simp [papermilllaw50_WinderJobs.l0])
       | succ k2 =>
        have H := HA.out
        clear HA
        simp only [papermilllaw50_WinderJobs.l0] at H
        by_cases c17 : x11_2 < (t274.length : Int)
        ·rw [if_pos c17] at H
         have c17b0 : decide (x11_2 < (t274.length : Int)) = true := decide_eq_true c17
         clear c17
         by_cases c18 : 0 ≤ x11_2
         ·rw [if_pos c18] at H
          have c18b0 : decide (0 ≤ x11_2) = true := decide_eq_true c18
          clear c18
          have HC19 := Aside0.mk H
          clear H
          obtain ⟨Ao20, co20, eo20⟩ := Kd.R_slice HO_7.out
          subst eo20
          have p284 : 0 ≤ (x11_2 : Int) := of_decide_eq_true (by first | (with_reducible assumption) | assumption)
          have q284 : x11_2 < (t274.length : Int) := of_decide_eq_true (by first | (with_reducible assumption) | assumption)
          obtain ⟨ad284, e284, hx284_0, hx284_1, hx284_2⟩ := at_T43 (Kd.R_reads' HO_7.out).2.2 x11_2 p284 q284
          cases e284
          replace p284 := eq_true p284
          replace q284 := eq_true q284
          go_upto_region 11 with (fail)
          go_cut [58] (fun v58 wc => ∃ (kq : Nat) (x58_18 : Bool), v58 = .bool x58_18 ∧ Aside0 (papermilllaw50_WinderJobs.j2 kq l0 a1 t274 x9_2 x10_2 x11_2 ((rd_T43 t274 x11_2).f0) x58_18 = some r) ∧ Aside0 (kq ≤ k2) ∧ Aside0 (Kd.R k43 43 wc w.heap.size (fun _ => True) (.slice (some ad284) t274.length co20) t274) ∧ Aside0 (wc.heap[gb271]? = some (.cells #[(.slice A2_0 l2_0.length c2_0), (.slice A2_1 l2_1.length c2_1), .int .i64 a2_2] 31 (0, 0))) ∧ Aside0 (Below w.heap.size w wc))
          case first =>
           have H := HC19.out
           clear HC19
           by_cases c21 : ((rd_T43 t274 x11_2).f0) < x9_2
           ·rw [if_pos c21] at H
            have c21b0 : decide (((rd_T43 t274 x11_2).f0) < x9_2) = true := decide_eq_true c21
            clear c21
            (first | rw [c21b0] | (simp only [i64_w, i32_w]; rw [c21b0]) | skip)
            have H' := Aside0.mk H
            clear H
            go_wp2
            go_meet
            case rel => exact ⟨_, (true), (by first | rfl | (simp; done) | (simp [*]; done)), H', ⟨by have := HJ3.out; have := HK2.out; first | omega | exact Nat.le_refl _⟩, ⟨by (with_reducible repeat (first | apply Kd.R_alloc | apply Kd.R_drewN | apply Kd.R_drew)); exact HO_7.out⟩, ⟨by (with_reducible repeat (first | refine blk_drewN ?_ _ | refine blk_drew ?_ | refine blk_alloc ?_ _)); exact BK271.out⟩, ⟨by repeat (first | (with_reducible first | exact HB.out | apply below_alloc | apply pw_below_drewN | apply below_drew1 | refine below_set ?_ GE271.out) | exact HB.out)⟩⟩
           ·rw [if_neg c21] at H
            have c21b0 : decide (((rd_T43 t274 x11_2).f0) < x9_2) = false := decide_eq_false c21
            clear c21
            (first | rw [c21b0] | (simp only [i64_w, i32_w]; rw [c21b0]) | skip)
            have H' := Aside0.mk H
            clear H
            go_wp2
            go_meet
            case rel => exact ⟨_, (decide (((rd_T43 t274 x11_2).f0) ≥ (l0.length : Int))), (by first | rfl | (simp; done) | (simp [*]; done)), H', ⟨by have := HJ3.out; have := HK2.out; first | omega | exact Nat.le_refl _⟩, ⟨by (with_reducible repeat (first | apply Kd.R_alloc | apply Kd.R_drewN | apply Kd.R_drew)); exact HO_7.out⟩, ⟨by (with_reducible repeat (first | refine blk_drewN ?_ _ | refine blk_drew ?_ | refine blk_alloc ?_ _)); exact BK271.out⟩, ⟨by repeat (first | (with_reducible first | exact HB.out | apply below_alloc | apply pw_below_drewN | apply below_drew1 | refine below_set ?_ GE271.out) | exact HB.out)⟩⟩
          case rest =>
           clear HC19
           try clear c1
           try clear c2
           try clear p2
           try clear q2
           try clear hx2
           try clear c6
           try clear c6b0
           try clear c6b1
           try clear c10
           try clear c14
           try clear c14b0
           try clear c14b1
           try clear c15
           try clear c17
           try clear c17b0
           try clear c18
           try clear c18b0
           try clear c21
           try clear c21b0
           try clear hcz15_0
           try clear hcz15_1
           try clear hcz15_2
           try clear hcz8_0
           try clear hcz8_1
           try clear hcz8_2
           try clear hfz15_0
           try clear hfz15_1
           try clear hfz15_2
           try clear hfz8_0
           try clear hfz8_1
           try clear hfz8_2
           try clear hx284_0
           try clear hx284_1
           try clear hx284_2
           try clear p2
           try clear p284
           try clear q284
           obtain ⟨kq, x58_18, rfl, HA, HJ18, HO_7, BK271, HB⟩ := hcut
           cases kq with
           | zero => exact absurd HA.out (by simp [papermilllaw50_WinderJobs.j2])
           | succ kj18 =>
            have H := HA.out
            clear HA
            simp only [papermilllaw50_WinderJobs.j2] at H
            by_cases c22 : x58_18 = true
            ·subst c22
             have H1 : (some false) = some r := by rw [if_pos rfl] at H; exact H
             clear H
             have H := H1
             clear H1
             obtain rfl := Option.some.inj H
             go_wp2
             go_ret
             exact ⟨by first | rfl | (simp [errW_none, errW_some] <;> rfl) | (simp [*, errW_none, errW_some] <;> rfl), by repeat (first | (with_reducible first | exact HB.out | apply below_alloc | apply pw_below_drewN | apply below_drew1 | refine below_set ?_ GE271.out) | exact HB.out)⟩
            ·replace c22 := Bool.eq_false_iff.mpr c22
             subst c22
             have H1 : (papermilllaw50_WinderJobs.l1 kj18 l0 a1 t274 x9_2 x10_2 x11_2 ((rd_T43 t274 x11_2).f0)) = some r := by rw [if_neg (show ¬ (false = true) by decide)] at H; exact H
             clear H
             have H := H1
             clear H1
             have H' := Aside0.mk H
             clear H
             go_wp2
             go_loopg [9, 10] kj18 (fun kq v9 v10 w' => ∃ (x9_4 : Int) (x10_4 : Int), v9 = .int .i64 x9_4 ∧ v10 = .int .i64 x10_4 ∧ Aside0 (papermilllaw50_WinderJobs.l1 kq l0 a1 t274 x9_4 x10_4 x11_2 ((rd_T43 t274 x11_2).f0) = some r) ∧ Aside0 (kq ≤ kj18) ∧ Aside0 (Kd.R k43 43 w' w.heap.size (fun _ => True) (.slice (some ad284) t274.length co20) t274) ∧ Aside0 (w'.heap[gb271]? = some (.cells #[(.slice A2_0 l2_0.length c2_0), (.slice A2_1 l2_1.length c2_1), .int .i64 a2_2] 31 (0, 0))) ∧ Aside0 (Below w.heap.size w w'))
             case atStart => exact ⟨(x9_2), (x10_2), (by first | rfl | (simp; done) | (simp [*]; done)), (by first | rfl | (simp; done) | (simp [*]; done)), H', ⟨Nat.le_refl _⟩, ⟨by (with_reducible repeat (first | apply Kd.R_alloc | apply Kd.R_drewN | apply Kd.R_drew)); exact HO_7.out⟩, ⟨by (with_reducible repeat (first | refine blk_drewN ?_ _ | refine blk_drew ?_ | refine blk_alloc ?_ _)); exact BK271.out⟩, ⟨by repeat (first | (with_reducible first | exact HB.out | apply below_alloc | apply pw_below_drewN | apply below_drew1 | refine below_set ?_ GE271.out) | exact HB.out)⟩⟩
             case round =>
              clear H'
              try clear c1
              try clear c2
              try clear p2
              try clear q2
              try clear hx2
              try clear c6
              try clear c6b0
              try clear c6b1
              try clear c10
              try clear c14
              try clear c14b0
              try clear c14b1
              try clear c15
              try clear c17
              try clear c17b0
              try clear c18
              try clear c18b0
              try clear c21
              try clear c21b0
              try clear c22
              try clear hcz15_0
              try clear hcz15_1
              try clear hcz15_2
              try clear hcz8_0
              try clear hcz8_1
              try clear hcz8_2
              try clear hfz15_0
              try clear hfz15_1
              try clear hfz15_2
              try clear hfz8_0
              try clear hfz8_1
              try clear hfz8_2
              try clear hx284_0
              try clear hx284_1
              try clear hx284_2
              try clear p2
              try clear p284
              try clear q2
              try clear q284
              obtain ⟨x9_4, x10_4, rfl, rfl, HA, HK4, HO_7, BK271, HB⟩ := hrel
              cases gk with
              | zero => exact absurd HA.out (by simp [papermilllaw50_WinderJobs.l1])
              | succ k4 =>
               have H := HA.out
               clear HA
               simp only [papermilllaw50_WinderJobs.l1] at H
               by_cases c23 : x9_4 < ((rd_T43 t274 x11_2).f0)
               ·rw [if_pos c23] at H
                have c23b0 : decide (x9_4 < ((rd_T43 t274 x11_2).f0)) = true := decide_eq_true c23
                clear c23
                by_cases c24 : 0 ≤ x9_4
                ·rw [if_pos c24] at H
                 have c24b0 : decide (0 ≤ x9_4) = true := decide_eq_true c24
                 clear c24
                 by_cases c25 : x9_4 < (l0.length : Int)
                 ·rw [if_pos c25] at H
                  have c25b0 : decide (x9_4 < (l0.length : Int)) = true := decide_eq_true c25
                  clear c25
                  by_cases c26 : (wrap64 ((rd l0 x9_4) - x10_4)) ≥ a1
                  ·rw [if_pos c26] at H
                   have c26b0 : decide (a1 ≤ (wrap64 ((rd l0 x9_4) - x10_4))) = true := decide_eq_true c26
                   clear c26
                   obtain rfl := Option.some.inj H
                   have p285 : 0 ≤ (x9_4 : Int) := of_decide_eq_true (by first | (with_reducible assumption) | assumption)
                   have q285 : x9_4 < (l0.length : Int) := of_decide_eq_true (by first | (with_reducible assumption) | assumption)
                   obtain ⟨ad285, e285, hx285_0⟩ := Kd.at_int HR0.out x9_4 p285 q285
                   cases e285
                   replace hx285_0 := (HB.out.cell (World.block_lt_of_cell? w _ hx285_0)).trans hx285_0
                   replace p285 := eq_true p285
                   replace q285 := eq_true q285
                   go_wp2
                   go_ret
                   exact ⟨by first | rfl | (simp [errW_none, errW_some] <;> rfl) | (simp [*, errW_none, errW_some] <;> rfl), by repeat (first | (with_reducible first | exact HB.out | apply below_alloc | apply pw_below_drewN | apply below_drew1 | refine below_set ?_ GE271.out) | exact HB.out)⟩
                  ·rw [if_neg c26] at H
                   have c26b0 : decide (a1 ≤ (wrap64 ((rd l0 x9_4) - x10_4))) = false := decide_eq_false c26
                   clear c26
                   have H' := Aside0.mk H
                   clear H
                   have p285 : 0 ≤ (x9_4 : Int) := of_decide_eq_true (by first | (with_reducible assumption) | assumption)
                   have q285 : x9_4 < (l0.length : Int) := of_decide_eq_true (by first | (with_reducible assumption) | assumption)
                   obtain ⟨ad285, e285, hx285_0⟩ := Kd.at_int HR0.out x9_4 p285 q285
                   cases e285
                   replace hx285_0 := (HB.out.cell (World.block_lt_of_cell? w _ hx285_0)).trans hx285_0
                   replace p285 := eq_true p285
                   replace q285 := eq_true q285
                   go_wp2
                   go_roundg k4
                   case measure => have := HJ3.out; have := HK2.out; have := HJ18.out; have := HK4.out; omega
                   case rel => exact ⟨(wrap64 (x9_4 + 1)), (0), (by first | rfl | (simp; done) | (simp [*]; done)), (by first | rfl | (simp; done) | (simp [*]; done)), H', ⟨by have := HJ3.out; have := HK2.out; have := HJ18.out; have := HK4.out; omega⟩, ⟨by (with_reducible repeat (first | apply Kd.R_alloc | apply Kd.R_drewN | apply Kd.R_drew)); exact HO_7.out⟩, ⟨by (with_reducible repeat (first | refine blk_drewN ?_ _ | refine blk_drew ?_ | refine blk_alloc ?_ _)); exact BK271.out⟩, ⟨by repeat (first | (with_reducible first | exact HB.out | apply below_alloc | apply pw_below_drewN | apply below_drew1 | refine below_set ?_ GE271.out) | exact HB.out)⟩⟩
                 ·rw [if_neg c25] at H
                  exact absurd H (by simp)
                ·rw [if_neg c24] at H
                 exact absurd H (by simp)
               ·rw [if_neg c23] at H
                have c23b0 : decide (x9_4 < ((rd_T43 t274 x11_2).f0)) = false := decide_eq_false c23
                clear c23
                by_cases c27 : 0 ≤ x11_2
                ·rw [if_pos c27] at H
                 have c27b0 : decide (0 ≤ x11_2) = true := decide_eq_true c27
                 clear c27
                 by_cases c28 : x11_2 < (t274.length : Int)
                 ·rw [if_pos c28] at H
                  have c28b0 : decide (x11_2 < (t274.length : Int)) = true := decide_eq_true c28
                  clear c28
                  by_cases c29 : ((rd_T43 t274 x11_2).f1) = x10_4
                  ·rw [if_pos c29] at H
                   have c29b0 : (((rd_T43 t274 x11_2).f1) == x10_4) = true := beq_iff_eq.mpr c29
                   have c29b1 : (((rd_T43 t274 x11_2).f1) != x10_4) = false := bne_eq_false_iff_eq.mpr c29
                   clear c29
                   by_cases c30 : 0 ≤ x9_4
                   ·rw [if_pos c30] at H
                    have c30b0 : decide (0 ≤ x9_4) = true := decide_eq_true c30
                    clear c30
                    by_cases c31 : x9_4 < (l0.length : Int)
                    ·rw [if_pos c31] at H
                     have c31b0 : decide (x9_4 < (l0.length : Int)) = true := decide_eq_true c31
                     clear c31
                     by_cases c32 : (wrap64 ((rd l0 x9_4) - x10_4)) < a1
                     ·rw [if_pos c32] at H
                      have c32b0 : decide ((wrap64 ((rd l0 x9_4) - x10_4)) < a1) = true := decide_eq_true c32
                      clear c32
                      obtain rfl := Option.some.inj H
                      have p286 : 0 ≤ (x11_2 : Int) := of_decide_eq_true (by first | (with_reducible assumption) | assumption)
                      have q286 : x11_2 < (t274.length : Int) := of_decide_eq_true (by first | (with_reducible assumption) | assumption)
                      obtain ⟨ad286, e286, hx286_0, hx286_1, hx286_2⟩ := at_T43 (Kd.R_reads' HO_7.out).2.2 x11_2 p286 q286
                      obtain rfl : ad284 = ad286 := (by injection e286)
                      replace p286 := eq_true p286
                      replace q286 := eq_true q286
                      have p287 : 0 ≤ (x9_4 : Int) := of_decide_eq_true (by first | (with_reducible assumption) | assumption)
                      have q287 : x9_4 < (l0.length : Int) := of_decide_eq_true (by first | (with_reducible assumption) | assumption)
                      obtain ⟨ad287, e287, hx287_0⟩ := Kd.at_int HR0.out x9_4 p287 q287
                      cases e287
                      replace hx287_0 := (HB.out.cell (World.block_lt_of_cell? w _ hx287_0)).trans hx287_0
                      replace p287 := eq_true p287
                      replace q287 := eq_true q287
                      go_wp2
                      go_ret
                      exact ⟨by first | rfl | (simp [errW_none, errW_some] <;> rfl) | (simp [*, errW_none, errW_some] <;> rfl), by repeat (first | (with_reducible first | exact HB.out | apply below_alloc | apply pw_below_drewN | apply below_drew1 | refine below_set ?_ GE271.out) | exact HB.out)⟩
                     ·rw [if_neg c32] at H
                      have c32b0 : decide ((wrap64 ((rd l0 x9_4) - x10_4)) < a1) = false := decide_eq_false c32
                      clear c32
                      have H' := Aside0.mk H
                      clear H
                      have p286 : 0 ≤ (x11_2 : Int) := of_decide_eq_true (by first | (with_reducible assumption) | assumption)
                      have q286 : x11_2 < (t274.length : Int) := of_decide_eq_true (by first | (with_reducible assumption) | assumption)
                      obtain ⟨ad286, e286, hx286_0, hx286_1, hx286_2⟩ := at_T43 (Kd.R_reads' HO_7.out).2.2 x11_2 p286 q286
                      obtain rfl : ad284 = ad286 := (by injection e286)
                      replace p286 := eq_true p286
                      replace q286 := eq_true q286
                      have p287 : 0 ≤ (x9_4 : Int) := of_decide_eq_true (by first | (with_reducible assumption) | assumption)
                      have q287 : x9_4 < (l0.length : Int) := of_decide_eq_true (by first | (with_reducible assumption) | assumption)
                      obtain ⟨ad287, e287, hx287_0⟩ := Kd.at_int HR0.out x9_4 p287 q287
                      cases e287
                      replace hx287_0 := (HB.out.cell (World.block_lt_of_cell? w _ hx287_0)).trans hx287_0
                      replace p287 := eq_true p287
                      replace q287 := eq_true q287
                      go_wp2
                      go_roundg k4
                      case measure => have := HJ3.out; have := HK2.out; have := HJ18.out; have := HK4.out; omega
                      case rel => exact ⟨(x9_4), (wrap64 (x10_4 + a1)), (wrap64 (x11_2 + 1)), (by first | rfl | (simp; done) | (simp [*]; done)), (by first | rfl | (simp; done) | (simp [*]; done)), (by first | rfl | (simp; done) | (simp [*]; done)), H', ⟨by have := HJ3.out; have := HK2.out; have := HJ18.out; have := HK4.out; omega⟩, ⟨by (with_reducible repeat (first | apply Kd.R_alloc | apply Kd.R_drewN | apply Kd.R_drew)); exact HO_7.out⟩, ⟨by (with_reducible repeat (first | refine blk_drewN ?_ _ | refine blk_drew ?_ | refine blk_alloc ?_ _)); exact BK271.out⟩, ⟨by repeat (first | (with_reducible first | exact HB.out | apply below_alloc | apply pw_below_drewN | apply below_drew1 | refine below_set ?_ GE271.out) | exact HB.out)⟩⟩
                    ·rw [if_neg c31] at H
                     exact absurd H (by simp)
                   ·rw [if_neg c30] at H
                    exact absurd H (by simp)
                  ·rw [if_neg c29] at H
                   have c29b0 : (((rd_T43 t274 x11_2).f1) == x10_4) = false := beq_eq_false_iff_ne.mpr c29
                   have c29b1 : (((rd_T43 t274 x11_2).f1) != x10_4) = true := bne_iff_ne.mpr c29
                   obtain rfl := Option.some.inj H
                   have p286 : 0 ≤ (x11_2 : Int) := of_decide_eq_true (by first | (with_reducible assumption) | assumption)
                   have q286 : x11_2 < (t274.length : Int) := of_decide_eq_true (by first | (with_reducible assumption) | assumption)
                   obtain ⟨ad286, e286, hx286_0, hx286_1, hx286_2⟩ := at_T43 (Kd.R_reads' HO_7.out).2.2 x11_2 p286 q286
                   obtain rfl : ad284 = ad286 := (by injection e286)
                   replace p286 := eq_true p286
                   replace q286 := eq_true q286
                   go_wp2
                   go_ret
                   exact ⟨by first | rfl | (simp [errW_none, errW_some] <;> rfl) | (simp [*, errW_none, errW_some] <;> rfl), by repeat (first | (with_reducible first | exact HB.out | apply below_alloc | apply pw_below_drewN | apply below_drew1 | refine below_set ?_ GE271.out) | exact HB.out)⟩
                 ·rw [if_neg c28] at H
                  exact absurd H (by simp)
                ·rw [if_neg c27] at H
                 exact absurd H (by simp)
         ·rw [if_neg c18] at H
          exact absurd H (by simp)
        ·rw [if_neg c17] at H
         have c17b0 : decide (x11_2 < (t274.length : Int)) = false := decide_eq_false c17
         clear c17
         replace H := Option.bind_eq_some_iff.mp H
         obtain ⟨⟨t279, t280⟩, A330, H⟩ := H
         replace H : (if t280 = 0 then (if (t279.length : Int) = (l0.length : Int) then ((papermilllaw50_awake.f k2).bind fun t283 => (some t283)) else (some false)) else (some false)) = some r := H
         have A33 := Aside0.mk A330
         clear A330
         by_cases c34 : t280 = 0
         ·rw [if_pos c34] at H
          have c34b0 : (t280 == 0) = true := beq_iff_eq.mpr c34
          have c34b1 : (t280 != 0) = false := bne_eq_false_iff_eq.mpr c34
          clear c34
          by_cases c35 : (t279.length : Int) = (l0.length : Int)
          ·rw [if_pos c35] at H
           have c35b0 : ((t279.length : Int) == (l0.length : Int)) = true := beq_iff_eq.mpr c35
           have c35b1 : ((t279.length : Int) != (l0.length : Int)) = false := bne_eq_false_iff_eq.mpr c35
           have c35b2 : (t279.length == l0.length) = true := by first | simpa using c35 | (simp at c35 ⊢; omega)
           clear c35
           replace H := Option.bind_eq_some_iff.mp H
           obtain ⟨t283, A360, H⟩ := H
           replace H : (some t283) = some r := H
           have A36 := Aside0.mk A360
           clear A360
           obtain rfl := Option.some.inj H
           obtain ⟨Ao37, co37, eo37⟩ := Kd.R_slice HO_7.out
           subst eo37
           go_wp2_with (first | ((with_reducible refine gate_callee (f := 18) rfl ?_); refine goesL_ (some 96) rfl rfl Try.func18 (by kernel_rfl) rfl #[.slice A0 l0.length c0, .int .i64 a1, .slice Ao37 t274.length co37] rfl (by (try simp only [List.map_toArray, List.map_cons, List.map_nil]); first | done | rfl | (simp only [List.length_drop, List.length_take]; rfl)) ?_; (with_reducible refine (winder_Left.calls k2 _ _ l0 a1 _ _ t274 t279 t280 _ ?side1 ?side2 ?side3 ?side4 A33.out).mono ?_); (case side1 => repeat (first | exact (Kd.C_below HR0.out HB.out) | (with_reducible refine Kd.C_alloc ?_ _) | (with_reducible refine Kd.C_drewN ?_ _) | (with_reducible refine Kd.C_drew ?_))); (case side2 => exact HC0.out); (case side3 => repeat (first | exact (Kd.R_reads' HO_7.out).2.2 | (with_reducible refine Kd.C_alloc ?_ _) | (with_reducible refine Kd.C_drewN ?_ _) | (with_reducible refine Kd.C_drew ?_))); (case side4 => exact (Kd.R_reads' HO_7.out).2.1); rintro e w38 ⟨v281, rfl, ho0, hb⟩; refine ⟨_, rfl, ?_⟩; have n0_ := Aside0.mk (Kd.R_below (by (with_reducible repeat (first | apply Kd.R_alloc | apply Kd.R_drewN | apply Kd.R_drew)); exact HO_7.out) hb); have n1_ := Aside0.mk (Kd.R_lower ho0 (below_size (by repeat (first | (with_reducible first | exact HB.out | apply below_alloc | apply pw_below_drewN | apply below_drew1 | refine below_set ?_ GE271.out) | exact HB.out)))); have n2_ := Aside0.mk (blk_below (g := gb271) (o := .cells #[.slice A2_0 l2_0.length c2_0, .slice A2_1 l2_1.length c2_1, .int .i64 a2_2] 31 (0, 0)) (by (with_reducible repeat (first | refine blk_drewN ?_ _ | refine blk_drew ?_ | refine blk_alloc ?_ _)); exact BK271.out) hb); have n3_ := Aside0.mk (below_step (by repeat (first | (with_reducible first | exact HB.out | apply below_alloc | apply pw_below_drewN | apply below_drew1 | refine below_set ?_ GE271.out) | exact HB.out)) hb); clear HO_7; clear BK271; clear HB; have HO_7 := n0_; have HO282 := n1_; have BK271 := n2_; have HB := n3_; clear n0_ n1_ n2_ n3_; (try clear hb); (try clear hb2); (try clear hk); (try clear hi); (try clear ho0); obtain ⟨Ao39, co39, eo39⟩ := Kd.R_slice HO282.out; subst eo39) | (go_at_call 10; (with_reducible refine (papermilllaw50_awake.calls k2  t283 _ A36.out).mono ?_); rintro e w40 ⟨rfl, hb⟩; have n0_ := Aside0.mk (Kd.R_below (by (with_reducible repeat (first | apply Kd.R_alloc | apply Kd.R_drewN | apply Kd.R_drew)); exact HO_7.out) hb); have n1_ := Aside0.mk (Kd.R_below (by (with_reducible repeat (first | apply Kd.R_alloc | apply Kd.R_drewN | apply Kd.R_drew)); exact HO282.out) hb); have n2_ := Aside0.mk (blk_below (g := gb271) (o := .cells #[.slice A2_0 l2_0.length c2_0, .slice A2_1 l2_1.length c2_1, .int .i64 a2_2] 31 (0, 0)) (by (with_reducible repeat (first | refine blk_drewN ?_ _ | refine blk_drew ?_ | refine blk_alloc ?_ _)); exact BK271.out) hb); have n3_ := Aside0.mk (below_step (by repeat (first | (with_reducible first | exact HB.out | apply below_alloc | apply pw_below_drewN | apply below_drew1 | refine below_set ?_ GE271.out) | exact HB.out)) hb); clear HO_7; clear HO282; clear BK271; clear HB; have HO_7 := n0_; have HO282 := n1_; have BK271 := n2_; have HB := n3_; clear n0_ n1_ n2_ n3_; (try clear hb); (try clear hb2); (try clear hk); (try clear hi)))
           go_ret
           exact ⟨by first | rfl | (simp [errW_none, errW_some] <;> rfl) | (simp [*, errW_none, errW_some] <;> rfl), by repeat (first | (with_reducible first | exact HB.out | apply below_alloc | apply pw_below_drewN | apply below_drew1 | refine below_set ?_ GE271.out) | exact HB.out)⟩
          ·rw [if_neg c35] at H
           have c35b0 : ((t279.length : Int) == (l0.length : Int)) = false := beq_eq_false_iff_ne.mpr c35
           have c35b1 : ((t279.length : Int) != (l0.length : Int)) = true := bne_iff_ne.mpr c35
           have c35b2 : (t279.length == l0.length) = false := by first | simpa using c35 | (simp at c35 ⊢; omega)
           obtain rfl := Option.some.inj H
           obtain ⟨Ao41, co41, eo41⟩ := Kd.R_slice HO_7.out
           subst eo41
           go_wp2_with (first | ((with_reducible refine gate_callee (f := 18) rfl ?_); refine goesL_ (some 96) rfl rfl Try.func18 (by kernel_rfl) rfl #[.slice A0 l0.length c0, .int .i64 a1, .slice Ao41 t274.length co41] rfl (by (try simp only [List.map_toArray, List.map_cons, List.map_nil]); first | done | rfl | (simp only [List.length_drop, List.length_take]; rfl)) ?_; (with_reducible refine (winder_Left.calls k2 _ _ l0 a1 _ _ t274 t279 t280 _ ?side1 ?side2 ?side3 ?side4 A33.out).mono ?_); (case side1 => repeat (first | exact (Kd.C_below HR0.out HB.out) | (with_reducible refine Kd.C_alloc ?_ _) | (with_reducible refine Kd.C_drewN ?_ _) | (with_reducible refine Kd.C_drew ?_))); (case side2 => exact HC0.out); (case side3 => repeat (first | exact (Kd.R_reads' HO_7.out).2.2 | (with_reducible refine Kd.C_alloc ?_ _) | (with_reducible refine Kd.C_drewN ?_ _) | (with_reducible refine Kd.C_drew ?_))); (case side4 => exact (Kd.R_reads' HO_7.out).2.1); rintro e w42 ⟨v281, rfl, ho0, hb⟩; refine ⟨_, rfl, ?_⟩; have n0_ := Aside0.mk (Kd.R_below (by (with_reducible repeat (first | apply Kd.R_alloc | apply Kd.R_drewN | apply Kd.R_drew)); exact HO_7.out) hb); have n1_ := Aside0.mk (Kd.R_lower ho0 (below_size (by repeat (first | (with_reducible first | exact HB.out | apply below_alloc | apply pw_below_drewN | apply below_drew1 | refine below_set ?_ GE271.out) | exact HB.out)))); have n2_ := Aside0.mk (blk_below (g := gb271) (o := .cells #[.slice A2_0 l2_0.length c2_0, .slice A2_1 l2_1.length c2_1, .int .i64 a2_2] 31 (0, 0)) (by (with_reducible repeat (first | refine blk_drewN ?_ _ | refine blk_drew ?_ | refine blk_alloc ?_ _)); exact BK271.out) hb); have n3_ := Aside0.mk (below_step (by repeat (first | (with_reducible first | exact HB.out | apply below_alloc | apply pw_below_drewN | apply below_drew1 | refine below_set ?_ GE271.out) | exact HB.out)) hb); clear HO_7; clear BK271; clear HB; have HO_7 := n0_; have HO282 := n1_; have BK271 := n2_; have HB := n3_; clear n0_ n1_ n2_ n3_; (try clear hb); (try clear hb2); (try clear hk); (try clear hi); (try clear ho0); obtain ⟨Ao43, co43, eo43⟩ := Kd.R_slice HO282.out; subst eo43))
           go_ret
           exact ⟨by first | rfl | (simp [errW_none, errW_some] <;> rfl) | (simp [*, errW_none, errW_some] <;> rfl), by repeat (first | (with_reducible first | exact HB.out | apply below_alloc | apply pw_below_drewN | apply below_drew1 | refine below_set ?_ GE271.out) | exact HB.out)⟩
         ·rw [if_neg c34] at H
          have c34b0 : (t280 == 0) = false := beq_eq_false_iff_ne.mpr c34
          have c34b1 : (t280 != 0) = true := bne_iff_ne.mpr c34
          obtain rfl := Option.some.inj H
          obtain ⟨Ao44, co44, eo44⟩ := Kd.R_slice HO_7.out
          subst eo44
          go_wp2_with (first | ((with_reducible refine gate_callee (f := 18) rfl ?_); refine goesL_ (some 96) rfl rfl Try.func18 (by kernel_rfl) rfl #[.slice A0 l0.length c0, .int .i64 a1, .slice Ao44 t274.length co44] rfl (by (try simp only [List.map_toArray, List.map_cons, List.map_nil]); first | done | rfl | (simp only [List.length_drop, List.length_take]; rfl)) ?_; (with_reducible refine (winder_Left.calls k2 _ _ l0 a1 _ _ t274 t279 t280 _ ?side1 ?side2 ?side3 ?side4 A33.out).mono ?_); (case side1 => repeat (first | exact (Kd.C_below HR0.out HB.out) | (with_reducible refine Kd.C_alloc ?_ _) | (with_reducible refine Kd.C_drewN ?_ _) | (with_reducible refine Kd.C_drew ?_))); (case side2 => exact HC0.out); (case side3 => repeat (first | exact (Kd.R_reads' HO_7.out).2.2 | (with_reducible refine Kd.C_alloc ?_ _) | (with_reducible refine Kd.C_drewN ?_ _) | (with_reducible refine Kd.C_drew ?_))); (case side4 => exact (Kd.R_reads' HO_7.out).2.1); rintro e w45 ⟨v281, rfl, ho0, hb⟩; refine ⟨_, rfl, ?_⟩; have n0_ := Aside0.mk (Kd.R_below (by (with_reducible repeat (first | apply Kd.R_alloc | apply Kd.R_drewN | apply Kd.R_drew)); exact HO_7.out) hb); have n1_ := Aside0.mk (Kd.R_lower ho0 (below_size (by repeat (first | (with_reducible first | exact HB.out | apply below_alloc | apply pw_below_drewN | apply below_drew1 | refine below_set ?_ GE271.out) | exact HB.out)))); have n2_ := Aside0.mk (blk_below (g := gb271) (o := .cells #[.slice A2_0 l2_0.length c2_0, .slice A2_1 l2_1.length c2_1, .int .i64 a2_2] 31 (0, 0)) (by (with_reducible repeat (first | refine blk_drewN ?_ _ | refine blk_drew ?_ | refine blk_alloc ?_ _)); exact BK271.out) hb); have n3_ := Aside0.mk (below_step (by repeat (first | (with_reducible first | exact HB.out | apply below_alloc | apply pw_below_drewN | apply below_drew1 | refine below_set ?_ GE271.out) | exact HB.out)) hb); clear HO_7; clear BK271; clear HB; have HO_7 := n0_; have HO282 := n1_; have BK271 := n2_; have HB := n3_; clear n0_ n1_ n2_ n3_; (try clear hb); (try clear hb2); (try clear hk); (try clear hi); (try clear ho0)))
          go_ret
          exact ⟨by first | rfl | (simp [errW_none, errW_some] <;> rfl) | (simp [*, errW_none, errW_some] <;> rfl), by repeat (first | (with_reducible first | exact HB.out | apply below_alloc | apply pw_below_drewN | apply below_drew1 | refine below_set ?_ GE271.out) | exact HB.out)⟩
     ·rw [if_neg c14] at H
      have c14b0 : (t277 == 0) = false := beq_eq_false_iff_ne.mpr c14
      have c14b1 : (t277 != 0) = true := bne_iff_ne.mpr c14
      by_cases c46 : (t274.length : Int) = 0
      ·rw [if_pos c46] at H
       have c46b0 : ((t274.length : Int) == 0) = true := beq_iff_eq.mpr c46
       have c46b1 : ((t274.length : Int) != 0) = false := bne_eq_false_iff_eq.mpr c46
       clear c46
       replace H := Option.bind_eq_some_iff.mp H
       obtain ⟨t278, A470, H⟩ := H
       replace H : (some t278) = some r := H
       have A47 := Aside0.mk A470
       clear A470
       obtain rfl := Option.some.inj H
       have hcz48_0 : wc.cell? ⟨gb271, 0, none⟩ = some (.slice A2_0 l2_0.length c2_0) := (blk_cell BK271.out 0).trans rfl
       have hcz48_1 : wc.cell? ⟨gb271, 1, none⟩ = some (.slice A2_1 l2_1.length c2_1) := (blk_cell BK271.out 1).trans rfl
       have hcz48_2 : wc.cell? ⟨gb271, 2, none⟩ = some (.int .i64 a2_2) := (blk_cell BK271.out 2).trans rfl
       have hfz48_0 := blk_frozen BK271.out 0
       have hfz48_1 := blk_frozen BK271.out 1
       have hfz48_2 := blk_frozen BK271.out 2
       go_wp2_with (first | ((with_reducible refine gate_callee (f := 15) rfl ?_); refine goesL_ (some 28) rfl rfl Try.func15 (by kernel_rfl) rfl #[.slice A0 l0.length c0, .int .i64 a1, .agg #[.slice A2_0 l2_0.length c2_0, .slice A2_1 l2_1.length c2_1, .int .i64 a2_2]] rfl (by (try simp only [List.map_toArray, List.map_cons, List.map_nil]); first | done | rfl | (simp only [List.length_drop, List.length_take]; rfl)) ?_; (with_reducible refine (winder_Jobs.calls kj3 _ _ l0 a1 _ _ l2_0 _ _ l2_1 a2_2 t274 t277 _ ?side1 ?side2 ?side3 ?side4 ?side5 ?side6 A13.out).mono ?_); (case side1 => repeat (first | exact (Kd.C_below HR0.out HB.out) | (with_reducible refine Kd.C_alloc ?_ _) | (with_reducible refine Kd.C_drewN ?_ _) | (with_reducible refine Kd.C_drew ?_))); (case side2 => exact HC0.out); (case side3 => repeat (first | exact (Kd.C_below HR2_0.out HB.out) | (with_reducible refine Kd.C_alloc ?_ _) | (with_reducible refine Kd.C_drewN ?_ _) | (with_reducible refine Kd.C_drew ?_))); (case side4 => exact HC2_0.out); (case side5 => repeat (first | exact (Kd.C_below HR2_1.out HB.out) | (with_reducible refine Kd.C_alloc ?_ _) | (with_reducible refine Kd.C_drewN ?_ _) | (with_reducible refine Kd.C_drew ?_))); (case side6 => exact HC2_1.out); rintro e w49 ⟨v275, rfl, ho0, hb⟩; refine ⟨_, rfl, ?_⟩; have n0_ := Aside0.mk (Kd.R_lower ho0 (below_size (by repeat (first | (with_reducible first | exact HB.out | apply below_alloc | apply pw_below_drewN | apply below_drew1 | refine below_set ?_ GE271.out) | exact HB.out)))); have n1_ := Aside0.mk (blk_below (g := gb271) (o := .cells #[.slice A2_0 l2_0.length c2_0, .slice A2_1 l2_1.length c2_1, .int .i64 a2_2] 31 (0, 0)) (by (with_reducible repeat (first | refine blk_drewN ?_ _ | refine blk_drew ?_ | refine blk_alloc ?_ _)); exact BK271.out) hb); have n2_ := Aside0.mk (below_step (by repeat (first | (with_reducible first | exact HB.out | apply below_alloc | apply pw_below_drewN | apply below_drew1 | refine below_set ?_ GE271.out) | exact HB.out)) hb); clear BK271; clear HB; have HO276 := n0_; have BK271 := n1_; have HB := n2_; clear n0_ n1_ n2_; (try clear hb); (try clear hb2); (try clear hk); (try clear hi); (try clear ho0); obtain ⟨Ao50, co50, eo50⟩ := Kd.R_slice HO276.out; subst eo50) | (go_at_call 10; (with_reducible refine (papermilllaw50_awake.calls kj3  t278 _ A47.out).mono ?_); rintro e w51 ⟨rfl, hb⟩; have n0_ := Aside0.mk (Kd.R_below (by (with_reducible repeat (first | apply Kd.R_alloc | apply Kd.R_drewN | apply Kd.R_drew)); exact HO276.out) hb); have n1_ := Aside0.mk (blk_below (g := gb271) (o := .cells #[.slice A2_0 l2_0.length c2_0, .slice A2_1 l2_1.length c2_1, .int .i64 a2_2] 31 (0, 0)) (by (with_reducible repeat (first | refine blk_drewN ?_ _ | refine blk_drew ?_ | refine blk_alloc ?_ _)); exact BK271.out) hb); have n2_ := Aside0.mk (below_step (by repeat (first | (with_reducible first | exact HB.out | apply below_alloc | apply pw_below_drewN | apply below_drew1 | refine below_set ?_ GE271.out) | exact HB.out)) hb); clear HO276; clear BK271; clear HB; have HO276 := n0_; have BK271 := n1_; have HB := n2_; clear n0_ n1_ n2_; (try clear hb); (try clear hb2); (try clear hk); (try clear hi)))
       go_ret
       exact ⟨by first | rfl | (simp [errW_none, errW_some] <;> rfl) | (simp [*, errW_none, errW_some] <;> rfl), by repeat (first | (with_reducible first | exact HB.out | apply below_alloc | apply pw_below_drewN | apply below_drew1 | refine below_set ?_ GE271.out) | exact HB.out)⟩
      ·rw [if_neg c46] at H
       have c46b0 : ((t274.length : Int) == 0) = false := beq_eq_false_iff_ne.mpr c46
       have c46b1 : ((t274.length : Int) != 0) = true := bne_iff_ne.mpr c46
       have c46b2 : ¬ (t274 = []) := fun h_ => c46 (by rw [h_]; rfl)
       obtain rfl := Option.some.inj H
       have hcz52_0 : wc.cell? ⟨gb271, 0, none⟩ = some (.slice A2_0 l2_0.length c2_0) := (blk_cell BK271.out 0).trans rfl
       have hcz52_1 : wc.cell? ⟨gb271, 1, none⟩ = some (.slice A2_1 l2_1.length c2_1) := (blk_cell BK271.out 1).trans rfl
       have hcz52_2 : wc.cell? ⟨gb271, 2, none⟩ = some (.int .i64 a2_2) := (blk_cell BK271.out 2).trans rfl
       have hfz52_0 := blk_frozen BK271.out 0
       have hfz52_1 := blk_frozen BK271.out 1
       have hfz52_2 := blk_frozen BK271.out 2
       go_wp2_with (first | ((with_reducible refine gate_callee (f := 15) rfl ?_); refine goesL_ (some 28) rfl rfl Try.func15 (by kernel_rfl) rfl #[.slice A0 l0.length c0, .int .i64 a1, .agg #[.slice A2_0 l2_0.length c2_0, .slice A2_1 l2_1.length c2_1, .int .i64 a2_2]] rfl (by (try simp only [List.map_toArray, List.map_cons, List.map_nil]); first | done | rfl | (simp only [List.length_drop, List.length_take]; rfl)) ?_; (with_reducible refine (winder_Jobs.calls kj3 _ _ l0 a1 _ _ l2_0 _ _ l2_1 a2_2 t274 t277 _ ?side1 ?side2 ?side3 ?side4 ?side5 ?side6 A13.out).mono ?_); (case side1 => repeat (first | exact (Kd.C_below HR0.out HB.out) | (with_reducible refine Kd.C_alloc ?_ _) | (with_reducible refine Kd.C_drewN ?_ _) | (with_reducible refine Kd.C_drew ?_))); (case side2 => exact HC0.out); (case side3 => repeat (first | exact (Kd.C_below HR2_0.out HB.out) | (with_reducible refine Kd.C_alloc ?_ _) | (with_reducible refine Kd.C_drewN ?_ _) | (with_reducible refine Kd.C_drew ?_))); (case side4 => exact HC2_0.out); (case side5 => repeat (first | exact (Kd.C_below HR2_1.out HB.out) | (with_reducible refine Kd.C_alloc ?_ _) | (with_reducible refine Kd.C_drewN ?_ _) | (with_reducible refine Kd.C_drew ?_))); (case side6 => exact HC2_1.out); rintro e w53 ⟨v275, rfl, ho0, hb⟩; refine ⟨_, rfl, ?_⟩; have n0_ := Aside0.mk (Kd.R_lower ho0 (below_size (by repeat (first | (with_reducible first | exact HB.out | apply below_alloc | apply pw_below_drewN | apply below_drew1 | refine below_set ?_ GE271.out) | exact HB.out)))); have n1_ := Aside0.mk (blk_below (g := gb271) (o := .cells #[.slice A2_0 l2_0.length c2_0, .slice A2_1 l2_1.length c2_1, .int .i64 a2_2] 31 (0, 0)) (by (with_reducible repeat (first | refine blk_drewN ?_ _ | refine blk_drew ?_ | refine blk_alloc ?_ _)); exact BK271.out) hb); have n2_ := Aside0.mk (below_step (by repeat (first | (with_reducible first | exact HB.out | apply below_alloc | apply pw_below_drewN | apply below_drew1 | refine below_set ?_ GE271.out) | exact HB.out)) hb); clear BK271; clear HB; have HO276 := n0_; have BK271 := n1_; have HB := n2_; clear n0_ n1_ n2_; (try clear hb); (try clear hb2); (try clear hk); (try clear hi); (try clear ho0); obtain ⟨Ao54, co54, eo54⟩ := Kd.R_slice HO276.out; subst eo54))
       go_ret
       exact ⟨by first | rfl | (simp [errW_none, errW_some] <;> rfl) | (simp [*, errW_none, errW_some] <;> rfl), by repeat (first | (with_reducible first | exact HB.out | apply below_alloc | apply pw_below_drewN | apply below_drew1 | refine below_set ?_ GE271.out) | exact HB.out)⟩

/-- THE ONE PURE STATEMENT of papermilllaw50_WinderJobs. -/
def papermilllaw50_WinderJobs.Pure : Prop := ∀ (l0 : List Int) (a1 : Int) (l2_0 : List (List Int)) (l2_1 : List Int) (a2_2 : Int), (l0.length ≤ maxLen ∧ ∀ z13_ ∈ l0, (Lit.int .i64 z13_).wf = true) → (Lit.int .i64 a1).wf = true → (l2_0.length ≤ maxLen ∧ ∀ z14_ ∈ l2_0, (z14_.length ≤ maxLen ∧ ∀ z15_ ∈ z14_, (Lit.int .i64 z15_).wf = true)) → (l2_1.length ≤ maxLen ∧ ∀ z16_ ∈ l2_1, (Lit.int .i64 z16_).wf = true) → (Lit.int .i64 a2_2).wf = true → ∃ k, papermilllaw50_WinderJobs.f k l0 a1 l2_0 l2_1 a2_2 = some true
theorem papermilllaw50_WinderJobs.walk (P : papermilllaw50_WinderJobs.Pure) (A0 : Option Addr) (c0 : Nat) (l0 : List Int) (a1 : Int) (A2_0 : Option Addr) (c2_0 : Nat) (l2_0 : List (List Int)) (A2_1 : Option Addr) (c2_1 : Nat) (l2_1 : List Int) (a2_2 : Int) (w : World) (hr0 : Kd.C (Kd.int .i64) w A0 l0.length l0) (hc0 : l0.length ≤ c0) (hr2_0 : Kd.C (Kd.slice 3 (Kd.int .i64)) w A2_0 l2_0.length l2_0) (hc2_0 : l2_0.length ≤ c2_0) (hr2_1 : Kd.C (Kd.int .i64) w A2_1 l2_1.length l2_1) (hc2_1 : l2_1.length ≤ c2_1) (q0 : (l0.length ≤ maxLen ∧ ∀ z17_ ∈ l0, (Lit.int .i64 z17_).wf = true)) (q1 : (Lit.int .i64 a1).wf = true) (q2_0 : (l2_0.length ≤ maxLen ∧ ∀ z18_ ∈ l2_0, (z18_.length ≤ maxLen ∧ ∀ z19_ ∈ z18_, (Lit.int .i64 z19_).wf = true))) (q2_1 : (l2_1.length ≤ maxLen ∧ ∀ z20_ ∈ l2_1, (Lit.int .i64 z20_).wf = true)) (q2_2 : (Lit.int .i64 a2_2).wf = true) :
    Calls Try.prog 6 #[.slice A0 l0.length c0, .int .i64 a1, .agg #[.slice A2_0 l2_0.length c2_0, .slice A2_1 l2_1.length c2_1, .int .i64 a2_2]] w fun e w' => e = .returned (.bool true) ∧ Below w.heap.size w w' := by
  obtain ⟨k, h⟩ := P l0 a1 l2_0 l2_1 a2_2 q0 q1 q2_0 q2_1 q2_2
  refine (papermilllaw50_WinderJobs.calls k _ _ l0 a1 _ _ l2_0 _ _ l2_1 a2_2 true w hr0 hc0 hr2_0 hc2_0 hr2_1 hc2_1 h).mono ?_
  rintro e w' ⟨rfl, hd⟩
  exact ⟨rfl, hd⟩

end Go.Proofs.Ythdbnoeaiafniaa.PX
