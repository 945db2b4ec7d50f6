-- Written by a program of this session (hyb.py), which runs the print over the translation with contracts of its own added; it is not the print itself. Lean checks it.
import Derived.Test.YthdbnoeaiafniaaPXx0
import Derived.Test.YthdbnoeaiafniaaPXx2
import Derived.Test.YthdbnoeaiafniaaPXx3
import Derived.Test.YthdbnoeaiafniaaPXx4
import Derived.Test.YthdbnoeaiafniaaPXx6
import Derived.Test.YthdbnoeaiafniaaPXx9
namespace Go.Proofs.Ythdbnoeaiafniaa.PX
open Go.RowKit Go.Proofs.YthdbnoeaiafniaaW.PrintWords Go.Proofs.YthdbnoeaiafniaaW.PrintLast Go.Proofs.YthdbnoeaiafniaaW.PrintMore
attribute [local go_sem] max2_int min2_int max_two min_two max_three min_three max_four min_four   -- for this text's walks alone
set_option linter.unusedVariables false
set_option linter.unusedSimpArgs false

/-! ### papermilllaw50_WinderMore: function 9 -/
mutual
def papermilllaw50_WinderMore.j0 : Nat → List Int → Int → Bool → List (List Int) → List Int → Int → Option (Bool)
  | 0, _, _, _, _, _, _ => none
  | k + 1, x0, x1, x24, x317000, x317001, x317002 => if x24 = true then ((papermilllaw50_awake.f k).bind fun t318 => (some t318)) else ((winder_Capacity.f k x0 x1).bind fun bt319 => ((winder_Jobs.f k x0 x1 x317000 x317001 x317002).bind fun bt321 => (if bt319.2 = 0 then (papermilllaw50_WinderMore.j1 k x0 x1 bt319.1 bt321.1 bt321.2 ((x317001.length : Int) == (x317000.length : Int)) x317000 x317001 x317002) else (papermilllaw50_WinderMore.j1 k x0 x1 bt319.1 bt321.1 bt321.2 false x317000 x317001 x317002))))
def papermilllaw50_WinderMore.j1 : Nat → List Int → Int → Int → List (S43) → Int → Bool → List (List Int) → List Int → Int → Option (Bool)
  | 0, _, _, _, _, _, _, _, _, _ => none
  | k + 1, x0, x1, x7, x9, x10, x11, x317000, x317001, x317002 => papermilllaw50_WinderMore.l0 k x0 x1 x7 x9 x10 x11 0 0 x317000 x317001 x317002
def papermilllaw50_WinderMore.l0 : Nat → List Int → Int → Int → List (S43) → Int → Bool → Int → Int → List (List Int) → List Int → Int → Option (Bool)
  | 0, _, _, _, _, _, _, _, _, _, _, _ => none
  | k + 1, x0, x1, x7, x9, x10, x11, x12, x13, x317000, x317001, x317002 => if x13 < (x317001.length : Int) then (if x11 = true then (if 0 ≤ x13 then (if (rd x317001 x13) ≥ 0 then (if (rd x317001 x13) ≤ 512 then (papermilllaw50_WinderMore.l0 k x0 x1 x7 x9 x10 (decide ((rd x317001 x13) ≤ 512)) (wrap64 (x12 + (rd x317001 x13))) (wrap64 (x13 + 1)) x317000 x317001 x317002) else (papermilllaw50_WinderMore.l0 k x0 x1 x7 x9 x10 (decide ((rd x317001 x13) ≤ 512)) x12 (wrap64 (x13 + 1)) x317000 x317001 x317002)) else (papermilllaw50_WinderMore.l0 k x0 x1 x7 x9 x10 false x12 (wrap64 (x13 + 1)) x317000 x317001 x317002)) else (none)) else (papermilllaw50_WinderMore.l0 k x0 x1 x7 x9 x10 false x12 (wrap64 (x13 + 1)) x317000 x317001 x317002)) else (if x11 = true then (if x12 ≤ 512 then (papermilllaw50_WinderMore.j3 k x0 x1 x9 x10 x12 ((x10 == 0) != (decide (x12 ≤ x7))) x317000 x317001 x317002) else (papermilllaw50_WinderMore.j3 k x0 x1 x9 x10 x12 ((x10 == 0) != false) x317000 x317001 x317002)) else (papermilllaw50_WinderMore.j3 k x0 x1 x9 x10 x12 ((x10 == 0) != false) x317000 x317001 x317002))
def papermilllaw50_WinderMore.j3 : Nat → List Int → Int → List (S43) → Int → Int → Bool → List (List Int) → List Int → Int → Option (Bool)
  | 0, _, _, _, _, _, _, _, _, _ => none
  | k + 1, x0, x1, x9, x10, x12, x94, x317000, x317001, x317002 => if x94 = true then (some false) else (if x10 = 0 then (if (x317001.length : Int) = 0 then (papermilllaw50_WinderMore.j4 k x0 x1 x9 x12 true x317000 x317001 x317002) else (if 0 ≤ (wrap64 ((x317001.length : Int) - 1)) then (if (wrap64 ((x317001.length : Int) - 1)) < (x317001.length : Int) then (papermilllaw50_WinderMore.j4 k x0 x1 x9 x12 ((rd x317001 (wrap64 ((x317001.length : Int) - 1))) == 0) x317000 x317001 x317002) else (none)) else (none))) else (papermilllaw50_WinderMore.j4 k x0 x1 x9 x12 true x317000 x317001 x317002))
def papermilllaw50_WinderMore.j4 : Nat → List Int → Int → List (S43) → Int → Bool → List (List Int) → List Int → Int → Option (Bool)
  | 0, _, _, _, _, _, _, _, _ => none
  | k + 1, x0, x1, x9, x12, x113, x317000, x317001, x317002 => if x113 = true then ((papermilllaw50_awake.f k).bind fun t329 => (some t329)) else (if ([] : List Int).length + x317001.length < 17592186044416 then ((some (([] : List Int) ++ x317001 : List Int)).bind fun y330 => (if 0 ≤ (wrap64 ((y330.length : Int) - 1)) then (if (wrap64 ((y330.length : Int) - 1)) < (y330.length : Int) then ((winder_Jobs.f k x0 x1 x317000 (y330.set ((wrap64 ((y330.length : Int) - 1)) : Int).toNat (wrap64 ((rd y330 (wrap64 ((y330.length : Int) - 1))) - 1))) 0).bind fun bt335 => (if bt335.2 = 0 then (if (x9.length : Int) = x12 then (if 0 ≤ (mx 0 (wrap64 ((x9.length : Int) - 1))) then (if (mx 0 (wrap64 ((x9.length : Int) - 1))) ≤ (x9.length : Int) then ((papermillref50_Same.f k bt335.1 (x9.take ((mx 0 (wrap64 ((x9.length : Int) - 1))) : Int).toNat)).bind fun t343 => (if t343 = true then ((papermilllaw50_awake.f k).bind fun t344 => (some t344)) else (some false))) else (none)) else (none)) else (some false)) else (some false))) else (none)) else (none))) else (none))
end
def papermilllaw50_WinderMore.f (k : Nat) (l0 : List Int) (a1 : Int) (l2_0 : List (List Int)) (l2_1 : List Int) (a2_2 : Int) : Option (Bool) := if (l0.length : Int) > 60 then (papermilllaw50_WinderMore.j0 k l0 a1 true l2_0 l2_1 a2_2) else ((papermilllaw50_few.f k l2_0 l2_1 a2_2).bind fun t317 => (papermilllaw50_WinderMore.j0 k l0 a1 (!t317) l2_0 l2_1 a2_2))
theorem papermilllaw50_WinderMore.mono_l : ∀ k, (∀ y0 y1 y2 y3 y4 y5, LeO (papermilllaw50_WinderMore.j0 k y0 y1 y2 y3 y4 y5) (papermilllaw50_WinderMore.j0 (k + 1) y0 y1 y2 y3 y4 y5)) ∧ (∀ y0 y1 y2 y3 y4 y5 y6 y7 y8, LeO (papermilllaw50_WinderMore.j1 k y0 y1 y2 y3 y4 y5 y6 y7 y8) (papermilllaw50_WinderMore.j1 (k + 1) y0 y1 y2 y3 y4 y5 y6 y7 y8)) ∧ (∀ y0 y1 y2 y3 y4 y5 y6 y7 y8 y9 y10, LeO (papermilllaw50_WinderMore.l0 k y0 y1 y2 y3 y4 y5 y6 y7 y8 y9 y10) (papermilllaw50_WinderMore.l0 (k + 1) y0 y1 y2 y3 y4 y5 y6 y7 y8 y9 y10)) ∧ (∀ y0 y1 y2 y3 y4 y5 y6 y7 y8, LeO (papermilllaw50_WinderMore.j3 k y0 y1 y2 y3 y4 y5 y6 y7 y8) (papermilllaw50_WinderMore.j3 (k + 1) y0 y1 y2 y3 y4 y5 y6 y7 y8)) ∧ (∀ y0 y1 y2 y3 y4 y5 y6 y7, LeO (papermilllaw50_WinderMore.j4 k y0 y1 y2 y3 y4 y5 y6 y7) (papermilllaw50_WinderMore.j4 (k + 1) y0 y1 y2 y3 y4 y5 y6 y7))
  | 0 => ⟨fun _ _ _ _ _ _ r h => by simp [papermilllaw50_WinderMore.j0] at h, fun _ _ _ _ _ _ _ _ _ r h => by simp [papermilllaw50_WinderMore.j1] at h, fun _ _ _ _ _ _ _ _ _ _ _ r h => by simp [papermilllaw50_WinderMore.l0] at h, fun _ _ _ _ _ _ _ _ _ r h => by simp [papermilllaw50_WinderMore.j3] at h, fun _ _ _ _ _ _ _ _ r h => by simp [papermilllaw50_WinderMore.j4] at h⟩
  | k + 1 => by
    obtain ⟨ih0, ih1, ih2, ih3, ih4⟩ := papermilllaw50_WinderMore.mono_l k
    refine ⟨?_, ?_, ?_, ?_, ?_⟩
    · intro y0 y1 y2 y3 y4 y5
      unfold papermilllaw50_WinderMore.j0
      repeat' first
      | (with_reducible exact ih0 _ _ _ _ _ _)
      | (with_reducible exact ih1 _ _ _ _ _ _ _ _ _)
      | (with_reducible exact ih2 _ _ _ _ _ _ _ _ _ _ _)
      | (with_reducible exact ih3 _ _ _ _ _ _ _ _ _)
      | (with_reducible exact ih4 _ _ _ _ _ _ _ _)
      | (with_reducible exact papermilllaw50_awake.mono _)
      | (with_reducible exact papermilllaw50_few.mono _ _ _ _)
      | (with_reducible exact papermillref50_Same.mono _ _ _)
      | (with_reducible exact winder_Capacity.mono _ _ _)
      | (with_reducible exact winder_Jobs.mono _ _ _ _ _ _)
      | (with_reducible exact LeO.refl _)
      | (with_reducible exact LeO.none _)
      | (with_reducible refine LeO.ite ?_ ?_)
      | (with_reducible refine LeO.bind ?_ (fun _ => ?_))
      | exact ih0 _ _ _ _ _ _
      | exact ih1 _ _ _ _ _ _ _ _ _
      | exact ih2 _ _ _ _ _ _ _ _ _ _ _
      | exact ih3 _ _ _ _ _ _ _ _ _
      | exact ih4 _ _ _ _ _ _ _ _
      | exact papermilllaw50_awake.mono _
      | exact papermilllaw50_few.mono _ _ _ _
      | exact papermillref50_Same.mono _ _ _
      | exact winder_Capacity.mono _ _ _
      | exact winder_Jobs.mono _ _ _ _ _ _
      | exact LeO.none _
      | refine LeO.ite ?_ ?_
      | refine LeO.bind ?_ (fun _ => ?_)
    · intro y0 y1 y2 y3 y4 y5 y6 y7 y8
      unfold papermilllaw50_WinderMore.j1
      repeat' first
      | (with_reducible exact ih0 _ _ _ _ _ _)
      | (with_reducible exact ih1 _ _ _ _ _ _ _ _ _)
      | (with_reducible exact ih2 _ _ _ _ _ _ _ _ _ _ _)
      | (with_reducible exact ih3 _ _ _ _ _ _ _ _ _)
      | (with_reducible exact ih4 _ _ _ _ _ _ _ _)
      | (with_reducible exact papermilllaw50_awake.mono _)
      | (with_reducible exact papermilllaw50_few.mono _ _ _ _)
      | (with_reducible exact papermillref50_Same.mono _ _ _)
      | (with_reducible exact winder_Capacity.mono _ _ _)
      | (with_reducible exact winder_Jobs.mono _ _ _ _ _ _)
      | (with_reducible exact LeO.refl _)
      | (with_reducible exact LeO.none _)
      | (with_reducible refine LeO.ite ?_ ?_)
      | (with_reducible refine LeO.bind ?_ (fun _ => ?_))
      | exact ih0 _ _ _ _ _ _
      | exact ih1 _ _ _ _ _ _ _ _ _
      | exact ih2 _ _ _ _ _ _ _ _ _ _ _
      | exact ih3 _ _ _ _ _ _ _ _ _
      | exact ih4 _ _ _ _ _ _ _ _
      | exact papermilllaw50_awake.mono _
      | exact papermilllaw50_few.mono _ _ _ _
      | exact papermillref50_Same.mono _ _ _
      | exact winder_Capacity.mono _ _ _
      | exact winder_Jobs.mono _ _ _ _ _ _
      | exact LeO.none _
      | refine LeO.ite ?_ ?_
      | refine LeO.bind ?_ (fun _ => ?_)
    · intro y0 y1 y2 y3 y4 y5 y6 y7 y8 y9 y10
      unfold papermilllaw50_WinderMore.l0
      repeat' first
      | (with_reducible exact ih0 _ _ _ _ _ _)
      | (with_reducible exact ih1 _ _ _ _ _ _ _ _ _)
      | (with_reducible exact ih2 _ _ _ _ _ _ _ _ _ _ _)
      | (with_reducible exact ih3 _ _ _ _ _ _ _ _ _)
      | (with_reducible exact ih4 _ _ _ _ _ _ _ _)
      | (with_reducible exact papermilllaw50_awake.mono _)
      | (with_reducible exact papermilllaw50_few.mono _ _ _ _)
      | (with_reducible exact papermillref50_Same.mono _ _ _)
      | (with_reducible exact winder_Capacity.mono _ _ _)
      | (with_reducible exact winder_Jobs.mono _ _ _ _ _ _)
      | (with_reducible exact LeO.refl _)
      | (with_reducible exact LeO.none _)
      | (with_reducible refine LeO.ite ?_ ?_)
      | (with_reducible refine LeO.bind ?_ (fun _ => ?_))
      | exact ih0 _ _ _ _ _ _
      | exact ih1 _ _ _ _ _ _ _ _ _
      | exact ih2 _ _ _ _ _ _ _ _ _ _ _
      | exact ih3 _ _ _ _ _ _ _ _ _
      | exact ih4 _ _ _ _ _ _ _ _
      | exact papermilllaw50_awake.mono _
      | exact papermilllaw50_few.mono _ _ _ _
      | exact papermillref50_Same.mono _ _ _
      | exact winder_Capacity.mono _ _ _
      | exact winder_Jobs.mono _ _ _ _ _ _
      | exact LeO.none _
      | refine LeO.ite ?_ ?_
      | refine LeO.bind ?_ (fun _ => ?_)
    · intro y0 y1 y2 y3 y4 y5 y6 y7 y8
      unfold papermilllaw50_WinderMore.j3
      repeat' first
      | (with_reducible exact ih0 _ _ _ _ _ _)
      | (with_reducible exact ih1 _ _ _ _ _ _ _ _ _)
      | (with_reducible exact ih2 _ _ _ _ _ _ _ _ _ _ _)
      | (with_reducible exact ih3 _ _ _ _ _ _ _ _ _)
      | (with_reducible exact ih4 _ _ _ _ _ _ _ _)
      | (with_reducible exact papermilllaw50_awake.mono _)
      | (with_reducible exact papermilllaw50_few.mono _ _ _ _)
      | (with_reducible exact papermillref50_Same.mono _ _ _)
      | (with_reducible exact winder_Capacity.mono _ _ _)
      | (with_reducible exact winder_Jobs.mono _ _ _ _ _ _)
      | (with_reducible exact LeO.refl _)
      | (with_reducible exact LeO.none _)
      | (with_reducible refine LeO.ite ?_ ?_)
      | (with_reducible refine LeO.bind ?_ (fun _ => ?_))
      | exact ih0 _ _ _ _ _ _
      | exact ih1 _ _ _ _ _ _ _ _ _
      | exact ih2 _ _ _ _ _ _ _ _ _ _ _
      | exact ih3 _ _ _ _ _ _ _ _ _
      | exact ih4 _ _ _ _ _ _ _ _
      | exact papermilllaw50_awake.mono _
      | exact papermilllaw50_few.mono _ _ _ _
      | exact papermillref50_Same.mono _ _ _
      | exact winder_Capacity.mono _ _ _
      | exact winder_Jobs.mono _ _ _ _ _ _
      | exact LeO.none _
      | refine LeO.ite ?_ ?_
      | refine LeO.bind ?_ (fun _ => ?_)
    · intro y0 y1 y2 y3 y4 y5 y6 y7
      unfold papermilllaw50_WinderMore.j4
      repeat' first
      | (with_reducible exact ih0 _ _ _ _ _ _)
      | (with_reducible exact ih1 _ _ _ _ _ _ _ _ _)
      | (with_reducible exact ih2 _ _ _ _ _ _ _ _ _ _ _)
      | (with_reducible exact ih3 _ _ _ _ _ _ _ _ _)
      | (with_reducible exact ih4 _ _ _ _ _ _ _ _)
      | (with_reducible exact papermilllaw50_awake.mono _)
      | (with_reducible exact papermilllaw50_few.mono _ _ _ _)
      | (with_reducible exact papermillref50_Same.mono _ _ _)
      | (with_reducible exact winder_Capacity.mono _ _ _)
      | (with_reducible exact winder_Jobs.mono _ _ _ _ _ _)
      | (with_reducible exact LeO.refl _)
      | (with_reducible exact LeO.none _)
      | (with_reducible refine LeO.ite ?_ ?_)
      | (with_reducible refine LeO.bind ?_ (fun _ => ?_))
      | exact ih0 _ _ _ _ _ _
      | exact ih1 _ _ _ _ _ _ _ _ _
      | exact ih2 _ _ _ _ _ _ _ _ _ _ _
      | exact ih3 _ _ _ _ _ _ _ _ _
      | exact ih4 _ _ _ _ _ _ _ _
      | exact papermilllaw50_awake.mono _
      | exact papermilllaw50_few.mono _ _ _ _
      | exact papermillref50_Same.mono _ _ _
      | exact winder_Capacity.mono _ _ _
      | exact winder_Jobs.mono _ _ _ _ _ _
      | exact LeO.none _
      | refine LeO.ite ?_ ?_
      | refine LeO.bind ?_ (fun _ => ?_)
theorem papermilllaw50_WinderMore.mono : ∀ a0 a1 a2 a3 a4 k, LeO (papermilllaw50_WinderMore.f k a0 a1 a2 a3 a4) (papermilllaw50_WinderMore.f (k + 1) a0 a1 a2 a3 a4) := by
  intro a0 a1 a2 a3 a4 k
  obtain ⟨ih0, ih1, ih2, ih3, ih4⟩ := papermilllaw50_WinderMore.mono_l k
  unfold papermilllaw50_WinderMore.f
  repeat' first
      | (with_reducible exact ih0 _ _ _ _ _ _)
      | (with_reducible exact ih1 _ _ _ _ _ _ _ _ _)
      | (with_reducible exact ih2 _ _ _ _ _ _ _ _ _ _ _)
      | (with_reducible exact ih3 _ _ _ _ _ _ _ _ _)
      | (with_reducible exact ih4 _ _ _ _ _ _ _ _)
      | (with_reducible exact papermilllaw50_awake.mono _)
      | (with_reducible exact papermilllaw50_few.mono _ _ _ _)
      | (with_reducible exact papermillref50_Same.mono _ _ _)
      | (with_reducible exact winder_Capacity.mono _ _ _)
      | (with_reducible exact winder_Jobs.mono _ _ _ _ _ _)
      | (with_reducible exact LeO.refl _)
      | (with_reducible exact LeO.none _)
      | (with_reducible refine LeO.ite ?_ ?_)
      | (with_reducible refine LeO.bind ?_ (fun _ => ?_))
      | exact ih0 _ _ _ _ _ _
      | exact ih1 _ _ _ _ _ _ _ _ _
      | exact ih2 _ _ _ _ _ _ _ _ _ _ _
      | exact ih3 _ _ _ _ _ _ _ _ _
      | exact ih4 _ _ _ _ _ _ _ _
      | exact papermilllaw50_awake.mono _
      | exact papermilllaw50_few.mono _ _ _ _
      | exact papermillref50_Same.mono _ _ _
      | exact winder_Capacity.mono _ _ _
      | exact winder_Jobs.mono _ _ _ _ _ _
      | exact LeO.none _
      | refine LeO.ite ?_ ?_
      | refine LeO.bind ?_ (fun _ => ?_)
set_option maxHeartbeats 8000000 in
set_option maxRecDepth 100000 in
theorem papermilllaw50_WinderMore.calls (k : Nat) (A0 : Option Addr) (c0 : Nat) (l0 : List Int) (a1 : Int) (A2_0 : Option Addr) (c2_0 : Nat) (l2_0 : List (List Int)) (A2_1 : Option Addr) (c2_1 : Nat) (l2_1 : List Int) (a2_2 : Int) (r : Bool) (w : World) (hr0 : Kd.C (Kd.int .i64) w A0 l0.length l0) (hc0 : l0.length ≤ c0) (hr2_0 : Kd.C (Kd.slice 3 (Kd.int .i64)) w A2_0 l2_0.length l2_0) (hc2_0 : l2_0.length ≤ c2_0) (hr2_1 : Kd.C (Kd.int .i64) w A2_1 l2_1.length l2_1) (hc2_1 : l2_1.length ≤ c2_1) (h : papermilllaw50_WinderMore.f k l0 a1 l2_0 l2_1 a2_2 = some r) :
    Calls Try.prog 9 #[.slice A0 l0.length c0, .int .i64 a1, .agg #[.slice A2_0 l2_0.length c2_0, .slice A2_1 l2_1.length c2_1, .int .i64 a2_2]] w fun e w' => e = .returned (.bool r) ∧ Below w.heap.size w w' := by
  have hu31 := Try.underlying31
  have HR0 := Aside0.mk hr0
  have HC0 := Aside0.mk hc0
  clear hr0 hc0
  have HR2_0 := Aside0.mk hr2_0
  have HC2_0 := Aside0.mk hc2_0
  clear hr2_0 hc2_0
  have HR2_1 := Aside0.mk hr2_1
  have HC2_1 := Aside0.mk hc2_1
  clear hr2_1 hc2_1
  have HB := Aside0.mk (Below.refl w.heap.size w)
  have H : (if (l0.length : Int) > 60 then (papermilllaw50_WinderMore.j0 k l0 a1 true l2_0 l2_1 a2_2) else ((papermilllaw50_few.f k l2_0 l2_1 a2_2).bind fun t317 => (papermilllaw50_WinderMore.j0 k l0 a1 (!t317) l2_0 l2_1 a2_2))) = some r := h
  clear h
  have HC4 := Aside0.mk H
  clear H
  go_enter Try.func9, Try.ntmps9
  go_upto_region 1 with (first | ((with_reducible refine gate_dst (N := 5) rfl ?_); (try (refine gate_guard (by rfl) ?_; dsimp only)); refine box_event ?hg (N := 5) ?hd (cs := #[.slice A2_0 l2_0.length c2_0, .slice A2_1 l2_1.length c2_1, .int .i64 a2_2]) (t := 31) ?hr ?_; (case hd => rfl); (case hg => rfl); (case hr => first | (go_simp; done) | (go_simp; rfl)); intro gb316 hg w5 hbox hb; have n0_ := Aside0.mk (below_step (by repeat (first | (with_reducible first | exact HB.out | apply below_alloc | apply pw_below_drewN | apply below_drew1) | exact HB.out)) hb); have n1_ := Aside0.mk (hbox); have n2_ := Aside0.mk ((by rw [hg]; exact (below_size (by repeat (first | (with_reducible first | exact HB.out | apply below_alloc | apply pw_below_drewN | apply below_drew1) | exact HB.out))) : w.heap.size ≤ gb316)); have n3_ := Aside0.mk ((by rw [hg]; exact (below_size (by repeat (first | (with_reducible first | exact HB.out | apply below_alloc | apply pw_below_drewN | apply below_drew1) | exact HB.out))) : w.heap.size ≤ gb316)); clear HB; have HB := n0_; have BK316 := n1_; have GW316 := n2_; have GE316 := n3_; clear n0_ n1_ n2_ n3_; clear hb hbox hg))
  (try simp only [Act.put, List.setIfInBounds_toArray, List.set_cons_zero, List.set_cons_succ])
  go_cut [24] (fun v24 wc => ∃ (kq : Nat) (x24_3 : Bool), v24 = .bool x24_3 ∧ Aside0 (papermilllaw50_WinderMore.j0 kq l0 a1 x24_3 l2_0 l2_1 a2_2 = some r) ∧ Aside0 (kq ≤ k) ∧ Aside0 (wc.heap[gb316]? = some (.cells #[(.slice A2_0 l2_0.length c2_0), (.slice A2_1 l2_1.length c2_1), .int .i64 a2_2] 31 (0, 0))) ∧ Aside0 (Below w.heap.size w wc))
  case first =>
   have H := HC4.out
   clear HC4
   by_cases c6 : (l0.length : Int) > 60
   ·rw [if_pos c6] at H
    have c6b0 : decide (60 < (l0.length : Int)) = true := decide_eq_true c6
    have c6b1 : decide (60 < l0.length) = true := decide_eq_true (by omega)
    clear c6
    (first | rw [c6b0] | (simp only [i64_w, i32_w]; rw [c6b0]) | skip)
    have H' := Aside0.mk H
    clear H
    go_wp2
    go_meet
    case rel => exact ⟨_, (true), (by first | rfl | (simp; done) | (simp [*]; done)), H', ⟨by first | omega | exact Nat.le_refl _⟩, ⟨by (with_reducible repeat (first | refine blk_drewN ?_ _ | refine blk_drew ?_ | refine blk_alloc ?_ _)); exact BK316.out⟩, ⟨by repeat (first | (with_reducible first | exact HB.out | apply below_alloc | apply pw_below_drewN | apply below_drew1 | refine below_set ?_ GE316.out) | exact HB.out)⟩⟩
   ·rw [if_neg c6] at H
    have c6b0 : decide (60 < (l0.length : Int)) = false := decide_eq_false c6
    have c6b1 : decide (60 < l0.length) = false := decide_eq_false (by omega)
    clear c6
    (first | rw [c6b0] | (simp only [i64_w, i32_w]; rw [c6b0]) | skip)
    replace H := Option.bind_eq_some_iff.mp H
    obtain ⟨t317, A70, H⟩ := H
    replace H : (papermilllaw50_WinderMore.j0 k l0 a1 (!t317) l2_0 l2_1 a2_2) = some r := H
    have A7 := Aside0.mk A70
    clear A70
    have H' := Aside0.mk H
    clear H
    have hcz8_0 : w5.cell? ⟨gb316, 0, none⟩ = some (.slice A2_0 l2_0.length c2_0) := (blk_cell BK316.out 0).trans rfl
    have hcz8_1 : w5.cell? ⟨gb316, 1, none⟩ = some (.slice A2_1 l2_1.length c2_1) := (blk_cell BK316.out 1).trans rfl
    have hcz8_2 : w5.cell? ⟨gb316, 2, none⟩ = some (.int .i64 a2_2) := (blk_cell BK316.out 2).trans rfl
    have hfz8_0 := blk_frozen BK316.out 0
    have hfz8_1 := blk_frozen BK316.out 1
    have hfz8_2 := blk_frozen BK316.out 2
    go_wp2_with (first | (go_at_call 14; (with_reducible refine (papermilllaw50_few.calls k _ _ l2_0 _ _ l2_1 a2_2 t317 _ ?side1 ?side2 ?side3 ?side4 A7.out).mono ?_); (case side1 => repeat (first | exact (Kd.C_below HR2_0.out HB.out) | (with_reducible refine Kd.C_alloc ?_ _) | (with_reducible refine Kd.C_drewN ?_ _) | (with_reducible refine Kd.C_drew ?_))); (case side2 => exact HC2_0.out); (case side3 => repeat (first | exact (Kd.C_below HR2_1.out HB.out) | (with_reducible refine Kd.C_alloc ?_ _) | (with_reducible refine Kd.C_drewN ?_ _) | (with_reducible refine Kd.C_drew ?_))); (case side4 => exact HC2_1.out); rintro e w9 ⟨rfl, hb⟩; have n0_ := Aside0.mk (blk_below (g := gb316) (o := .cells #[.slice A2_0 l2_0.length c2_0, .slice A2_1 l2_1.length c2_1, .int .i64 a2_2] 31 (0, 0)) (by (with_reducible repeat (first | refine blk_drewN ?_ _ | refine blk_drew ?_ | refine blk_alloc ?_ _)); exact BK316.out) hb); have n1_ := Aside0.mk (below_step (by repeat (first | (with_reducible first | exact HB.out | apply below_alloc | apply pw_below_drewN | apply below_drew1 | refine below_set ?_ GE316.out) | exact HB.out)) hb); clear BK316; clear HB; have BK316 := n0_; have HB := n1_; clear n0_ n1_; (try clear hb); (try clear hb2); (try clear hk); (try clear hi)))
    go_meet
    case rel => exact ⟨_, (!t317), (by first | rfl | (simp; done) | (simp [*]; done)), H', ⟨by first | omega | exact Nat.le_refl _⟩, ⟨by (with_reducible repeat (first | refine blk_drewN ?_ _ | refine blk_drew ?_ | refine blk_alloc ?_ _)); exact BK316.out⟩, ⟨by repeat (first | (with_reducible first | exact HB.out | apply below_alloc | apply pw_below_drewN | apply below_drew1 | refine below_set ?_ GE316.out) | exact HB.out)⟩⟩
  case rest =>
   clear HC4
   try clear c2
   try clear p2
   try clear c6
   try clear c6b0
   try clear c6b1
   try clear c9
   try clear hcz8_0
   try clear hcz8_1
   try clear hcz8_2
   try clear hfz8_0
   try clear hfz8_1
   try clear hfz8_2
   obtain ⟨kq, x24_3, rfl, HA, HJ3, BK316, HB⟩ := hcut
   cases kq with
   | zero => exact absurd HA.out (by simp [papermilllaw50_WinderMore.j0])
   | succ kj3 =>
    have H := HA.out
    clear HA
    simp only [papermilllaw50_WinderMore.j0] at H
    by_cases c10 : x24_3 = true
    ·subst c10
     have H1 : ((papermilllaw50_awake.f kj3).bind fun t318 => (some t318)) = some r := by rw [if_pos rfl] at H; exact H
     clear H
     have H := H1
     clear H1
     replace H := Option.bind_eq_some_iff.mp H
     obtain ⟨t318, A110, H⟩ := H
     replace H : (some t318) = some r := H
     have A11 := Aside0.mk A110
     clear A110
     obtain rfl := Option.some.inj H
     go_wp2_with (first | ((with_reducible refine gate_callee (f := 10) rfl ?_); refine goesL_ (some 25) rfl rfl Try.func10 (by kernel_rfl) rfl #[] rfl (by (try simp only [List.map_toArray, List.map_cons, List.map_nil]); first | done | rfl | (simp only [List.length_drop, List.length_take]; rfl)) ?_; (with_reducible refine (papermilllaw50_awake.calls kj3  t318 _ A11.out).mono ?_); rintro e w12 ⟨rfl, hb⟩; refine ⟨_, rfl, ?_⟩; have n0_ := Aside0.mk (blk_below (g := gb316) (o := .cells #[.slice A2_0 l2_0.length c2_0, .slice A2_1 l2_1.length c2_1, .int .i64 a2_2] 31 (0, 0)) (by (with_reducible repeat (first | refine blk_drewN ?_ _ | refine blk_drew ?_ | refine blk_alloc ?_ _)); exact BK316.out) hb); have n1_ := Aside0.mk (below_step (by repeat (first | (with_reducible first | exact HB.out | apply below_alloc | apply pw_below_drewN | apply below_drew1 | refine below_set ?_ GE316.out) | exact HB.out)) hb); clear BK316; clear HB; have BK316 := n0_; have HB := n1_; clear n0_ n1_; (try clear hb); (try clear hb2); (try clear hk); (try clear hi)))
     go_ret
     exact ⟨by first | rfl | (simp [errW_none, errW_some] <;> rfl) | (simp [*, errW_none, errW_some] <;> rfl), by repeat (first | (with_reducible first | exact HB.out | apply below_alloc | apply pw_below_drewN | apply below_drew1 | refine below_set ?_ GE316.out) | exact HB.out)⟩
    ·replace c10 := Bool.eq_false_iff.mpr c10
     subst c10
     have H1 : ((winder_Capacity.f kj3 l0 a1).bind fun bt319 => ((winder_Jobs.f kj3 l0 a1 l2_0 l2_1 a2_2).bind fun bt321 => (if bt319.2 = 0 then (papermilllaw50_WinderMore.j1 kj3 l0 a1 bt319.1 bt321.1 bt321.2 ((l2_1.length : Int) == (l2_0.length : Int)) l2_0 l2_1 a2_2) else (papermilllaw50_WinderMore.j1 kj3 l0 a1 bt319.1 bt321.1 bt321.2 false l2_0 l2_1 a2_2)))) = some r := by rw [if_neg (show ¬ (false = true) by decide)] at H; exact H
     clear H
     have H := H1
     clear H1
     replace H := Option.bind_eq_some_iff.mp H
     obtain ⟨⟨t319, t320⟩, A130, H⟩ := H
     replace H : ((winder_Jobs.f kj3 l0 a1 l2_0 l2_1 a2_2).bind fun bt321 => (if t320 = 0 then (papermilllaw50_WinderMore.j1 kj3 l0 a1 t319 bt321.1 bt321.2 ((l2_1.length : Int) == (l2_0.length : Int)) l2_0 l2_1 a2_2) else (papermilllaw50_WinderMore.j1 kj3 l0 a1 t319 bt321.1 bt321.2 false l2_0 l2_1 a2_2))) = some r := H
     have A13 := Aside0.mk A130
     clear A130
     replace H := Option.bind_eq_some_iff.mp H
     obtain ⟨⟨t321, t324⟩, A140, H⟩ := H
     replace H : (if t320 = 0 then (papermilllaw50_WinderMore.j1 kj3 l0 a1 t319 t321 t324 ((l2_1.length : Int) == (l2_0.length : Int)) l2_0 l2_1 a2_2) else (papermilllaw50_WinderMore.j1 kj3 l0 a1 t319 t321 t324 false l2_0 l2_1 a2_2)) = some r := H
     have A14 := Aside0.mk A140
     clear A140
     have HC15 := Aside0.mk H
     clear H
     go_upto_region 5 with (first | ((with_reducible refine gate_callee (f := 12) rfl ?_); refine goesL_ (some 29) rfl rfl Try.func12 (by kernel_rfl) rfl #[.slice A0 l0.length c0, .int .i64 a1] rfl (by (try simp only [List.map_toArray, List.map_cons, List.map_nil]); first | done | rfl | (simp only [List.length_drop, List.length_take]; rfl)) ?_; (with_reducible refine (winder_Capacity.calls kj3 _ _ l0 a1 t319 t320 _ ?side1 ?side2 A13.out).mono ?_); (case side1 => repeat (first | exact (Kd.C_below HR0.out HB.out) | (with_reducible refine Kd.C_alloc ?_ _) | (with_reducible refine Kd.C_drewN ?_ _) | (with_reducible refine Kd.C_drew ?_))); (case side2 => exact HC0.out); rintro e w' ⟨rfl, ⟨nd, rfl⟩⟩; refine ⟨_, rfl, ?_⟩; have hcz16_0 : wc.cell? ⟨gb316, 0, none⟩ = some (.slice A2_0 l2_0.length c2_0) := (blk_cell BK316.out 0).trans rfl; have hcz16_1 : wc.cell? ⟨gb316, 1, none⟩ = some (.slice A2_1 l2_1.length c2_1) := (blk_cell BK316.out 1).trans rfl; have hcz16_2 : wc.cell? ⟨gb316, 2, none⟩ = some (.int .i64 a2_2) := (blk_cell BK316.out 2).trans rfl; have hfz16_0 := blk_frozen BK316.out 0; have hfz16_1 := blk_frozen BK316.out 1; have hfz16_2 := blk_frozen BK316.out 2) | ((with_reducible refine gate_callee (f := 15) rfl ?_); refine goesL_ (some 36) rfl rfl Try.func15 (by kernel_rfl) rfl #[.slice A0 l0.length c0, .int .i64 a1, .agg #[.slice A2_0 l2_0.length c2_0, .slice A2_1 l2_1.length c2_1, .int .i64 a2_2]] rfl (by (try simp only [List.map_toArray, List.map_cons, List.map_nil]); first | done | rfl | (simp only [List.length_drop, List.length_take]; rfl)) ?_; (with_reducible refine (winder_Jobs.calls kj3 _ _ l0 a1 _ _ l2_0 _ _ l2_1 a2_2 t321 t324 _ ?side1 ?side2 ?side3 ?side4 ?side5 ?side6 A14.out).mono ?_); (case side1 => repeat (first | exact (Kd.C_below HR0.out (by repeat (first | (with_reducible first | exact HB.out | apply below_alloc | apply pw_below_drewN | apply below_drew1 | refine below_set ?_ GE316.out) | exact HB.out))) | (with_reducible refine Kd.C_alloc ?_ _) | (with_reducible refine Kd.C_drewN ?_ _) | (with_reducible refine Kd.C_drew ?_))); (case side2 => exact HC0.out); (case side3 => repeat (first | exact (Kd.C_below HR2_0.out (by repeat (first | (with_reducible first | exact HB.out | apply below_alloc | apply pw_below_drewN | apply below_drew1 | refine below_set ?_ GE316.out) | exact HB.out))) | (with_reducible refine Kd.C_alloc ?_ _) | (with_reducible refine Kd.C_drewN ?_ _) | (with_reducible refine Kd.C_drew ?_))); (case side4 => exact HC2_0.out); (case side5 => repeat (first | exact (Kd.C_below HR2_1.out (by repeat (first | (with_reducible first | exact HB.out | apply below_alloc | apply pw_below_drewN | apply below_drew1 | refine below_set ?_ GE316.out) | exact HB.out))) | (with_reducible refine Kd.C_alloc ?_ _) | (with_reducible refine Kd.C_drewN ?_ _) | (with_reducible refine Kd.C_drew ?_))); (case side6 => exact HC2_1.out); rintro e w17 ⟨v322, rfl, ho0, hb⟩; refine ⟨_, rfl, ?_⟩; have n0_ := Aside0.mk (Kd.R_lower ho0 (below_size (by repeat (first | (with_reducible first | exact HB.out | apply below_alloc | apply pw_below_drewN | apply below_drew1 | refine below_set ?_ GE316.out) | exact HB.out)))); have n1_ := Aside0.mk (blk_below (g := gb316) (o := .cells #[.slice A2_0 l2_0.length c2_0, .slice A2_1 l2_1.length c2_1, .int .i64 a2_2] 31 (0, 0)) (by (with_reducible repeat (first | refine blk_drewN ?_ _ | refine blk_drew ?_ | refine blk_alloc ?_ _)); exact BK316.out) hb); have n2_ := Aside0.mk (below_step (by repeat (first | (with_reducible first | exact HB.out | apply below_alloc | apply pw_below_drewN | apply below_drew1 | refine below_set ?_ GE316.out) | exact HB.out)) hb); clear BK316; clear HB; have HO323 := n0_; have BK316 := n1_; have HB := n2_; clear n0_ n1_ n2_; (try clear hb); (try clear hb2); (try clear hk); (try clear hi); (try clear ho0)))
     (try simp only [Act.put, List.setIfInBounds_toArray, List.set_cons_zero, List.set_cons_succ])
     go_cut [11] (fun v11 wc => ∃ (kq : Nat) (x11_14 : Bool), v11 = .bool x11_14 ∧ Aside0 (papermilllaw50_WinderMore.j1 kq l0 a1 t319 t321 t324 x11_14 l2_0 l2_1 a2_2 = some r) ∧ Aside0 (kq ≤ kj3) ∧ Aside0 (Kd.R k43 43 wc w.heap.size (fun _ => True) v322 t321) ∧ Aside0 (wc.heap[gb316]? = some (.cells #[(.slice A2_0 l2_0.length c2_0), (.slice A2_1 l2_1.length c2_1), .int .i64 a2_2] 31 (0, 0))) ∧ Aside0 (Below w.heap.size w wc))
     case first =>
      have H := HC15.out
      clear HC15
      by_cases c18 : t320 = 0
      ·rw [if_pos c18] at H
       have c18b0 : (t320 == 0) = true := beq_iff_eq.mpr c18
       have c18b1 : (t320 != 0) = false := bne_eq_false_iff_eq.mpr c18
       clear c18
       (first | rw [c18b0] | (simp only [i64_w, i32_w]; rw [c18b0]) | skip)
       have H' := Aside0.mk H
       clear H
       have hcz19_0 : w17.cell? ⟨gb316, 0, none⟩ = some (.slice A2_0 l2_0.length c2_0) := (blk_cell BK316.out 0).trans rfl
       have hcz19_1 : w17.cell? ⟨gb316, 1, none⟩ = some (.slice A2_1 l2_1.length c2_1) := (blk_cell BK316.out 1).trans rfl
       have hcz19_2 : w17.cell? ⟨gb316, 2, none⟩ = some (.int .i64 a2_2) := (blk_cell BK316.out 2).trans rfl
       have hfz19_0 := blk_frozen BK316.out 0
       have hfz19_1 := blk_frozen BK316.out 1
       have hfz19_2 := blk_frozen BK316.out 2
       go_wp2
       go_meet
       case rel => exact ⟨_, (((l2_1.length : Int) == (l2_0.length : Int))), (by first | rfl | (simp; done) | (simp [*]; done)), H', ⟨by have := HJ3.out; first | omega | exact Nat.le_refl _⟩, ⟨by (with_reducible repeat (first | apply Kd.R_alloc | apply Kd.R_drewN | apply Kd.R_drew)); exact HO323.out⟩, ⟨by (with_reducible repeat (first | refine blk_drewN ?_ _ | refine blk_drew ?_ | refine blk_alloc ?_ _)); exact BK316.out⟩, ⟨by repeat (first | (with_reducible first | exact HB.out | apply below_alloc | apply pw_below_drewN | apply below_drew1 | refine below_set ?_ GE316.out) | exact HB.out)⟩⟩
      ·rw [if_neg c18] at H
       have c18b0 : (t320 == 0) = false := beq_eq_false_iff_ne.mpr c18
       have c18b1 : (t320 != 0) = true := bne_iff_ne.mpr c18
       (first | rw [c18b0] | (simp only [i64_w, i32_w]; rw [c18b0]) | skip)
       have H' := Aside0.mk H
       clear H
       go_wp2
       go_meet
       case rel => exact ⟨_, (false), (by first | rfl | (simp; done) | (simp [*]; done)), H', ⟨by have := HJ3.out; first | omega | exact Nat.le_refl _⟩, ⟨by (with_reducible repeat (first | apply Kd.R_alloc | apply Kd.R_drewN | apply Kd.R_drew)); exact HO323.out⟩, ⟨by (with_reducible repeat (first | refine blk_drewN ?_ _ | refine blk_drew ?_ | refine blk_alloc ?_ _)); exact BK316.out⟩, ⟨by repeat (first | (with_reducible first | exact HB.out | apply below_alloc | apply pw_below_drewN | apply below_drew1 | refine below_set ?_ GE316.out) | exact HB.out)⟩⟩
     case rest =>
      clear HC15
      try clear c1
      try clear c2
      try clear p2
      try clear c6
      try clear c6b0
      try clear c6b1
      try clear c9
      try clear c10
      try clear c12
      try clear c15
      try clear c18
      try clear c18b0
      try clear c18b1
      try clear hcz16_0
      try clear hcz16_1
      try clear hcz16_2
      try clear hcz19_0
      try clear hcz19_1
      try clear hcz19_2
      try clear hcz8_0
      try clear hcz8_1
      try clear hcz8_2
      try clear hfz16_0
      try clear hfz16_1
      try clear hfz16_2
      try clear hfz19_0
      try clear hfz19_1
      try clear hfz19_2
      try clear hfz8_0
      try clear hfz8_1
      try clear hfz8_2
      try clear p2
      obtain ⟨kq, x11_14, rfl, HA, HJ14, HO_9, BK316, HB⟩ := hcut
      cases kq with
      | zero => exact absurd HA.out (by simp [papermilllaw50_WinderMore.j1])
      | succ kj14 =>
       have H := HA.out
       clear HA
       simp only [papermilllaw50_WinderMore.j1] at H
       have H' := Aside0.mk H
       clear H
       go_wp2
       go_loopg [11, 12, 13] kj14 (fun kq v11 v12 v13 w' => ∃ (x11_3 : Bool) (x12_3 : Int) (x13_3 : Int), v11 = .bool x11_3 ∧ v12 = .int .i64 x12_3 ∧ v13 = .int .i64 x13_3 ∧ Aside0 (papermilllaw50_WinderMore.l0 kq l0 a1 t319 t321 t324 x11_3 x12_3 x13_3 l2_0 l2_1 a2_2 = some r) ∧ Aside0 (kq ≤ kj14) ∧ Aside0 (Kd.R k43 43 w' w.heap.size (fun _ => True) v322 t321) ∧ Aside0 (w'.heap[gb316]? = some (.cells #[(.slice A2_0 l2_0.length c2_0), (.slice A2_1 l2_1.length c2_1), .int .i64 a2_2] 31 (0, 0))) ∧ Aside0 (Below w.heap.size w w'))
       case atStart => exact ⟨(x11_14), (0), (0), (by first | rfl | (simp; done) | (simp [*]; done)), (by first | rfl | (simp; done) | (simp [*]; done)), (by first | rfl | (simp; done) | (simp [*]; done)), H', ⟨Nat.le_refl _⟩, ⟨by (with_reducible repeat (first | apply Kd.R_alloc | apply Kd.R_drewN | apply Kd.R_drew)); exact HO_9.out⟩, ⟨by (with_reducible repeat (first | refine blk_drewN ?_ _ | refine blk_drew ?_ | refine blk_alloc ?_ _)); exact BK316.out⟩, ⟨by repeat (first | (with_reducible first | exact HB.out | apply below_alloc | apply pw_below_drewN | apply below_drew1 | refine below_set ?_ GE316.out) | exact HB.out)⟩⟩
       case round =>
        clear H'
        try clear c1
        try clear c2
        try clear p2
        try clear c6
        try clear c6b0
        try clear c6b1
        try clear c9
        try clear c10
        try clear c12
        try clear c15
        try clear c18
        try clear c18b0
        try clear c18b1
        try clear hcz16_0
        try clear hcz16_1
        try clear hcz16_2
        try clear hcz19_0
        try clear hcz19_1
        try clear hcz19_2
        try clear hcz8_0
        try clear hcz8_1
        try clear hcz8_2
        try clear hfz16_0
        try clear hfz16_1
        try clear hfz16_2
        try clear hfz19_0
        try clear hfz19_1
        try clear hfz19_2
        try clear hfz8_0
        try clear hfz8_1
        try clear hfz8_2
        try clear p2
        obtain ⟨x11_3, x12_3, x13_3, rfl, rfl, rfl, HA, HK3, HO_9, BK316, HB⟩ := hrel
        cases gk with
        | zero => exact absurd HA.out (by simp [papermilllaw50_WinderMore.l0])
        | succ k3 =>
         have H := HA.out
         clear HA
         simp only [papermilllaw50_WinderMore.l0] at H
         by_cases c20 : x13_3 < (l2_1.length : Int)
         ·rw [if_pos c20] at H
          have c20b0 : decide (x13_3 < (l2_1.length : Int)) = true := decide_eq_true c20
          clear c20
          by_cases c21 : x11_3 = true
          ·subst c21
           have H1 : (if 0 ≤ x13_3 then (if (rd l2_1 x13_3) ≥ 0 then (if (rd l2_1 x13_3) ≤ 512 then (papermilllaw50_WinderMore.l0 k3 l0 a1 t319 t321 t324 (decide ((rd l2_1 x13_3) ≤ 512)) (wrap64 (x12_3 + (rd l2_1 x13_3))) (wrap64 (x13_3 + 1)) l2_0 l2_1 a2_2) else (papermilllaw50_WinderMore.l0 k3 l0 a1 t319 t321 t324 (decide ((rd l2_1 x13_3) ≤ 512)) x12_3 (wrap64 (x13_3 + 1)) l2_0 l2_1 a2_2)) else (papermilllaw50_WinderMore.l0 k3 l0 a1 t319 t321 t324 false x12_3 (wrap64 (x13_3 + 1)) l2_0 l2_1 a2_2)) else (none)) = some r := by rw [if_pos rfl] at H; exact H
           clear H
           have H := H1
           clear H1
           by_cases c22 : 0 ≤ x13_3
           ·rw [if_pos c22] at H
            have c22b0 : decide (0 ≤ x13_3) = true := decide_eq_true c22
            clear c22
            by_cases c23 : (rd l2_1 x13_3) ≥ 0
            ·rw [if_pos c23] at H
             have c23b0 : decide (0 ≤ (rd l2_1 x13_3)) = true := decide_eq_true c23
             clear c23
             by_cases c24 : (rd l2_1 x13_3) ≤ 512
             ·rw [if_pos c24] at H
              have c24b0 : decide ((rd l2_1 x13_3) ≤ 512) = true := decide_eq_true c24
              clear c24
              have H' := Aside0.mk H
              clear H
              have hcz25_0 : wr.cell? ⟨gb316, 0, none⟩ = some (.slice A2_0 l2_0.length c2_0) := (blk_cell BK316.out 0).trans rfl
              have hcz25_1 : wr.cell? ⟨gb316, 1, none⟩ = some (.slice A2_1 l2_1.length c2_1) := (blk_cell BK316.out 1).trans rfl
              have hcz25_2 : wr.cell? ⟨gb316, 2, none⟩ = some (.int .i64 a2_2) := (blk_cell BK316.out 2).trans rfl
              have hfz25_0 := blk_frozen BK316.out 0
              have hfz25_1 := blk_frozen BK316.out 1
              have hfz25_2 := blk_frozen BK316.out 2
              have p325 : 0 ≤ (x13_3 : Int) := of_decide_eq_true (by first | (with_reducible assumption) | assumption)
              have q325 : x13_3 < (l2_1.length : Int) := of_decide_eq_true (by first | (with_reducible assumption) | assumption)
              obtain ⟨ad325, e325, hx325_0⟩ := Kd.at_int HR2_1.out x13_3 p325 q325
              cases e325
              replace hx325_0 := (HB.out.cell (World.block_lt_of_cell? w _ hx325_0)).trans hx325_0
              replace p325 := eq_true p325
              replace q325 := eq_true q325
              have p326 : 0 ≤ (x13_3 : Int) := of_decide_eq_true (by first | (with_reducible assumption) | assumption)
              have q326 : x13_3 < (l2_1.length : Int) := of_decide_eq_true (by first | (with_reducible assumption) | assumption)
              obtain ⟨ad326, e326, hx326_0⟩ := Kd.at_int HR2_1.out x13_3 p326 q326
              obtain rfl : ad325 = ad326 := (by injection e326)
              replace hx326_0 := (HB.out.cell (World.block_lt_of_cell? w _ hx326_0)).trans hx326_0
              replace p326 := eq_true p326
              replace q326 := eq_true q326
              have p327 : 0 ≤ (x13_3 : Int) := of_decide_eq_true (by first | (with_reducible assumption) | assumption)
              have q327 : x13_3 < (l2_1.length : Int) := of_decide_eq_true (by first | (with_reducible assumption) | assumption)
              obtain ⟨ad327, e327, hx327_0⟩ := Kd.at_int HR2_1.out x13_3 p327 q327
              obtain rfl : ad325 = ad327 := (by injection e327)
              replace hx327_0 := (HB.out.cell (World.block_lt_of_cell? w _ hx327_0)).trans hx327_0
              replace p327 := eq_true p327
              replace q327 := eq_true q327
              go_wp2
              go_roundg k3
              case measure => have := HJ3.out; have := HJ14.out; have := HK3.out; omega
              case rel => exact ⟨(decide ((rd l2_1 x13_3) ≤ 512)), (wrap64 (x12_3 + (rd l2_1 x13_3))), (wrap64 (x13_3 + 1)), (by first | rfl | (simp; done) | (simp [*]; done)), (by first | rfl | (simp; done) | (simp [*]; done)), (by first | rfl | (simp; done) | (simp [*]; done)), H', ⟨by have := HJ3.out; have := HJ14.out; have := HK3.out; omega⟩, ⟨by (with_reducible repeat (first | apply Kd.R_alloc | apply Kd.R_drewN | apply Kd.R_drew)); exact HO_9.out⟩, ⟨by (with_reducible repeat (first | refine blk_drewN ?_ _ | refine blk_drew ?_ | refine blk_alloc ?_ _)); exact BK316.out⟩, ⟨by repeat (first | (with_reducible first | exact HB.out | apply below_alloc | apply pw_below_drewN | apply below_drew1 | refine below_set ?_ GE316.out) | exact HB.out)⟩⟩
             ·rw [if_neg c24] at H
              have c24b0 : decide ((rd l2_1 x13_3) ≤ 512) = false := decide_eq_false c24
              clear c24
              have H' := Aside0.mk H
              clear H
              have hcz26_0 : wr.cell? ⟨gb316, 0, none⟩ = some (.slice A2_0 l2_0.length c2_0) := (blk_cell BK316.out 0).trans rfl
              have hcz26_1 : wr.cell? ⟨gb316, 1, none⟩ = some (.slice A2_1 l2_1.length c2_1) := (blk_cell BK316.out 1).trans rfl
              have hcz26_2 : wr.cell? ⟨gb316, 2, none⟩ = some (.int .i64 a2_2) := (blk_cell BK316.out 2).trans rfl
              have hfz26_0 := blk_frozen BK316.out 0
              have hfz26_1 := blk_frozen BK316.out 1
              have hfz26_2 := blk_frozen BK316.out 2
              have p325 : 0 ≤ (x13_3 : Int) := of_decide_eq_true (by first | (with_reducible assumption) | assumption)
              have q325 : x13_3 < (l2_1.length : Int) := of_decide_eq_true (by first | (with_reducible assumption) | assumption)
              obtain ⟨ad325, e325, hx325_0⟩ := Kd.at_int HR2_1.out x13_3 p325 q325
              cases e325
              replace hx325_0 := (HB.out.cell (World.block_lt_of_cell? w _ hx325_0)).trans hx325_0
              replace p325 := eq_true p325
              replace q325 := eq_true q325
              have p326 : 0 ≤ (x13_3 : Int) := of_decide_eq_true (by first | (with_reducible assumption) | assumption)
              have q326 : x13_3 < (l2_1.length : Int) := of_decide_eq_true (by first | (with_reducible assumption) | assumption)
              obtain ⟨ad326, e326, hx326_0⟩ := Kd.at_int HR2_1.out x13_3 p326 q326
              obtain rfl : ad325 = ad326 := (by injection e326)
              replace hx326_0 := (HB.out.cell (World.block_lt_of_cell? w _ hx326_0)).trans hx326_0
              replace p326 := eq_true p326
              replace q326 := eq_true q326
              go_wp2
              go_roundg k3
              case measure => have := HJ3.out; have := HJ14.out; have := HK3.out; omega
              case rel => exact ⟨(decide ((rd l2_1 x13_3) ≤ 512)), (x12_3), (wrap64 (x13_3 + 1)), (by first | rfl | (simp; done) | (simp [*]; done)), (by first | rfl | (simp; done) | (simp [*]; done)), (by first | rfl | (simp; done) | (simp [*]; done)), H', ⟨by have := HJ3.out; have := HJ14.out; have := HK3.out; omega⟩, ⟨by (with_reducible repeat (first | apply Kd.R_alloc | apply Kd.R_drewN | apply Kd.R_drew)); exact HO_9.out⟩, ⟨by (with_reducible repeat (first | refine blk_drewN ?_ _ | refine blk_drew ?_ | refine blk_alloc ?_ _)); exact BK316.out⟩, ⟨by repeat (first | (with_reducible first | exact HB.out | apply below_alloc | apply pw_below_drewN | apply below_drew1 | refine below_set ?_ GE316.out) | exact HB.out)⟩⟩
            ·rw [if_neg c23] at H
             have c23b0 : decide (0 ≤ (rd l2_1 x13_3)) = false := decide_eq_false c23
             clear c23
             have H' := Aside0.mk H
             clear H
             have hcz27_0 : wr.cell? ⟨gb316, 0, none⟩ = some (.slice A2_0 l2_0.length c2_0) := (blk_cell BK316.out 0).trans rfl
             have hcz27_1 : wr.cell? ⟨gb316, 1, none⟩ = some (.slice A2_1 l2_1.length c2_1) := (blk_cell BK316.out 1).trans rfl
             have hcz27_2 : wr.cell? ⟨gb316, 2, none⟩ = some (.int .i64 a2_2) := (blk_cell BK316.out 2).trans rfl
             have hfz27_0 := blk_frozen BK316.out 0
             have hfz27_1 := blk_frozen BK316.out 1
             have hfz27_2 := blk_frozen BK316.out 2
             have p325 : 0 ≤ (x13_3 : Int) := of_decide_eq_true (by first | (with_reducible assumption) | assumption)
             have q325 : x13_3 < (l2_1.length : Int) := of_decide_eq_true (by first | (with_reducible assumption) | assumption)
             obtain ⟨ad325, e325, hx325_0⟩ := Kd.at_int HR2_1.out x13_3 p325 q325
             cases e325
             replace hx325_0 := (HB.out.cell (World.block_lt_of_cell? w _ hx325_0)).trans hx325_0
             replace p325 := eq_true p325
             replace q325 := eq_true q325
             go_wp2
             go_roundg k3
             case measure => have := HJ3.out; have := HJ14.out; have := HK3.out; omega
             case rel => exact ⟨(false), (x12_3), (wrap64 (x13_3 + 1)), (by first | rfl | (simp; done) | (simp [*]; done)), (by first | rfl | (simp; done) | (simp [*]; done)), (by first | rfl | (simp; done) | (simp [*]; done)), H', ⟨by have := HJ3.out; have := HJ14.out; have := HK3.out; omega⟩, ⟨by (with_reducible repeat (first | apply Kd.R_alloc | apply Kd.R_drewN | apply Kd.R_drew)); exact HO_9.out⟩, ⟨by (with_reducible repeat (first | refine blk_drewN ?_ _ | refine blk_drew ?_ | refine blk_alloc ?_ _)); exact BK316.out⟩, ⟨by repeat (first | (with_reducible first | exact HB.out | apply below_alloc | apply pw_below_drewN | apply below_drew1 | refine below_set ?_ GE316.out) | exact HB.out)⟩⟩
           ·rw [if_neg c22] at H
            exact absurd H (by simp)
          ·replace c21 := Bool.eq_false_iff.mpr c21
           subst c21
           have H1 : (papermilllaw50_WinderMore.l0 k3 l0 a1 t319 t321 t324 false x12_3 (wrap64 (x13_3 + 1)) l2_0 l2_1 a2_2) = some r := by rw [if_neg (show ¬ (false = true) by decide)] at H; exact H
           clear H
           have H := H1
           clear H1
           have H' := Aside0.mk H
           clear H
           have hcz28_0 : wr.cell? ⟨gb316, 0, none⟩ = some (.slice A2_0 l2_0.length c2_0) := (blk_cell BK316.out 0).trans rfl
           have hcz28_1 : wr.cell? ⟨gb316, 1, none⟩ = some (.slice A2_1 l2_1.length c2_1) := (blk_cell BK316.out 1).trans rfl
           have hcz28_2 : wr.cell? ⟨gb316, 2, none⟩ = some (.int .i64 a2_2) := (blk_cell BK316.out 2).trans rfl
           have hfz28_0 := blk_frozen BK316.out 0
           have hfz28_1 := blk_frozen BK316.out 1
           have hfz28_2 := blk_frozen BK316.out 2
           go_wp2
           go_roundg k3
           case measure => have := HJ3.out; have := HJ14.out; have := HK3.out; omega
           case rel => exact ⟨(false), (x12_3), (wrap64 (x13_3 + 1)), (by first | rfl | (simp; done) | (simp [*]; done)), (by first | rfl | (simp; done) | (simp [*]; done)), (by first | rfl | (simp; done) | (simp [*]; done)), H', ⟨by have := HJ3.out; have := HJ14.out; have := HK3.out; omega⟩, ⟨by (with_reducible repeat (first | apply Kd.R_alloc | apply Kd.R_drewN | apply Kd.R_drew)); exact HO_9.out⟩, ⟨by (with_reducible repeat (first | refine blk_drewN ?_ _ | refine blk_drew ?_ | refine blk_alloc ?_ _)); exact BK316.out⟩, ⟨by repeat (first | (with_reducible first | exact HB.out | apply below_alloc | apply pw_below_drewN | apply below_drew1 | refine below_set ?_ GE316.out) | exact HB.out)⟩⟩
         ·rw [if_neg c20] at H
          have c20b0 : decide (x13_3 < (l2_1.length : Int)) = false := decide_eq_false c20
          clear c20
          have HC29 := Aside0.mk H
          clear H
          have hcz30_0 : wr.cell? ⟨gb316, 0, none⟩ = some (.slice A2_0 l2_0.length c2_0) := (blk_cell BK316.out 0).trans rfl
          have hcz30_1 : wr.cell? ⟨gb316, 1, none⟩ = some (.slice A2_1 l2_1.length c2_1) := (blk_cell BK316.out 1).trans rfl
          have hcz30_2 : wr.cell? ⟨gb316, 2, none⟩ = some (.int .i64 a2_2) := (blk_cell BK316.out 2).trans rfl
          have hfz30_0 := blk_frozen BK316.out 0
          have hfz30_1 := blk_frozen BK316.out 1
          have hfz30_2 := blk_frozen BK316.out 2
          go_upto_region 13 with (fail)
          go_cut [94] (fun v94 wc => ∃ (kq : Nat) (x94_28 : Bool), v94 = .bool x94_28 ∧ Aside0 (papermilllaw50_WinderMore.j3 kq l0 a1 t321 t324 x12_3 x94_28 l2_0 l2_1 a2_2 = some r) ∧ Aside0 (kq ≤ k3) ∧ Aside0 (Kd.R k43 43 wc w.heap.size (fun _ => True) v322 t321) ∧ Aside0 (wc.heap[gb316]? = some (.cells #[(.slice A2_0 l2_0.length c2_0), (.slice A2_1 l2_1.length c2_1), .int .i64 a2_2] 31 (0, 0))) ∧ Aside0 (Below w.heap.size w wc))
          case first =>
           have H := HC29.out
           clear HC29
           by_cases c31 : x11_3 = true
           ·subst c31
            have H1 : (if x12_3 ≤ 512 then (papermilllaw50_WinderMore.j3 k3 l0 a1 t321 t324 x12_3 ((t324 == 0) != (decide (x12_3 ≤ t319))) l2_0 l2_1 a2_2) else (papermilllaw50_WinderMore.j3 k3 l0 a1 t321 t324 x12_3 ((t324 == 0) != false) l2_0 l2_1 a2_2)) = some r := by rw [if_pos rfl] at H; exact H
            clear H
            have H := H1
            clear H1
            by_cases c32 : x12_3 ≤ 512
            ·rw [if_pos c32] at H
             have c32b0 : decide (x12_3 ≤ 512) = true := decide_eq_true c32
             clear c32
             (first | rw [c32b0] | (simp only [i64_w, i32_w]; rw [c32b0]) | skip)
             have H' := Aside0.mk H
             clear H
             go_wp2
             go_meet
             case rel => exact ⟨_, (((t324 == 0) != (decide (x12_3 ≤ t319)))), (by first | rfl | (simp; done) | (simp [*]; done)), H', ⟨by have := HJ3.out; have := HJ14.out; have := HK3.out; first | omega | exact Nat.le_refl _⟩, ⟨by (with_reducible repeat (first | apply Kd.R_alloc | apply Kd.R_drewN | apply Kd.R_drew)); exact HO_9.out⟩, ⟨by (with_reducible repeat (first | refine blk_drewN ?_ _ | refine blk_drew ?_ | refine blk_alloc ?_ _)); exact BK316.out⟩, ⟨by repeat (first | (with_reducible first | exact HB.out | apply below_alloc | apply pw_below_drewN | apply below_drew1 | refine below_set ?_ GE316.out) | exact HB.out)⟩⟩
            ·rw [if_neg c32] at H
             have c32b0 : decide (x12_3 ≤ 512) = false := decide_eq_false c32
             clear c32
             (first | rw [c32b0] | (simp only [i64_w, i32_w]; rw [c32b0]) | skip)
             have H' := Aside0.mk H
             clear H
             go_wp2
             go_meet
             case rel => exact ⟨_, (((t324 == 0) != false)), (by first | rfl | (simp; done) | (simp [*]; done)), H', ⟨by have := HJ3.out; have := HJ14.out; have := HK3.out; first | omega | exact Nat.le_refl _⟩, ⟨by (with_reducible repeat (first | apply Kd.R_alloc | apply Kd.R_drewN | apply Kd.R_drew)); exact HO_9.out⟩, ⟨by (with_reducible repeat (first | refine blk_drewN ?_ _ | refine blk_drew ?_ | refine blk_alloc ?_ _)); exact BK316.out⟩, ⟨by repeat (first | (with_reducible first | exact HB.out | apply below_alloc | apply pw_below_drewN | apply below_drew1 | refine below_set ?_ GE316.out) | exact HB.out)⟩⟩
           ·replace c31 := Bool.eq_false_iff.mpr c31
            subst c31
            have H1 : (papermilllaw50_WinderMore.j3 k3 l0 a1 t321 t324 x12_3 ((t324 == 0) != false) l2_0 l2_1 a2_2) = some r := by rw [if_neg (show ¬ (false = true) by decide)] at H; exact H
            clear H
            have H := H1
            clear H1
            have H' := Aside0.mk H
            clear H
            go_wp2
            go_meet
            case rel => exact ⟨_, (((t324 == 0) != false)), (by first | rfl | (simp; done) | (simp [*]; done)), H', ⟨by have := HJ3.out; have := HJ14.out; have := HK3.out; first | omega | exact Nat.le_refl _⟩, ⟨by (with_reducible repeat (first | apply Kd.R_alloc | apply Kd.R_drewN | apply Kd.R_drew)); exact HO_9.out⟩, ⟨by (with_reducible repeat (first | refine blk_drewN ?_ _ | refine blk_drew ?_ | refine blk_alloc ?_ _)); exact BK316.out⟩, ⟨by repeat (first | (with_reducible first | exact HB.out | apply below_alloc | apply pw_below_drewN | apply below_drew1 | refine below_set ?_ GE316.out) | exact HB.out)⟩⟩
          case rest =>
           clear HC29
           try clear c1
           try clear c2
           try clear p2
           try clear c3
           try clear p3
           try clear q3
           try clear hx3
           try clear c6
           try clear c6b0
           try clear c6b1
           try clear p6
           try clear c9
           try clear c10
           try clear c12
           try clear c15
           try clear c18
           try clear c18b0
           try clear c18b1
           try clear c20
           try clear c20b0
           try clear c21
           try clear c22
           try clear c22b0
           try clear c23
           try clear c23b0
           try clear c24
           try clear c24b0
           try clear c31
           try clear c32
           try clear c32b0
           try clear p32
           try clear q32
           try clear hx32
           try clear hcz16_0
           try clear hcz16_1
           try clear hcz16_2
           try clear hcz19_0
           try clear hcz19_1
           try clear hcz19_2
           try clear hcz25_0
           try clear hcz25_1
           try clear hcz25_2
           try clear hcz26_0
           try clear hcz26_1
           try clear hcz26_2
           try clear hcz27_0
           try clear hcz27_1
           try clear hcz27_2
           try clear hcz28_0
           try clear hcz28_1
           try clear hcz28_2
           try clear hcz30_0
           try clear hcz30_1
           try clear hcz30_2
           try clear hcz8_0
           try clear hcz8_1
           try clear hcz8_2
           try clear hfz16_0
           try clear hfz16_1
           try clear hfz16_2
           try clear hfz19_0
           try clear hfz19_1
           try clear hfz19_2
           try clear hfz25_0
           try clear hfz25_1
           try clear hfz25_2
           try clear hfz26_0
           try clear hfz26_1
           try clear hfz26_2
           try clear hfz27_0
           try clear hfz27_1
           try clear hfz27_2
           try clear hfz28_0
           try clear hfz28_1
           try clear hfz28_2
           try clear hfz30_0
           try clear hfz30_1
           try clear hfz30_2
           try clear hfz8_0
           try clear hfz8_1
           try clear hfz8_2
           try clear hx325_0
           try clear hx326_0
           try clear hx327_0
           try clear p2
           try clear p325
           try clear p326
           try clear p327
           try clear q325
           try clear q326
           try clear q327
           obtain ⟨kq, x94_28, rfl, HA, HJ28, HO_9, BK316, HB⟩ := hcut
           cases kq with
           | zero => exact absurd HA.out (by simp [papermilllaw50_WinderMore.j3])
           | succ kj28 =>
            have H := HA.out
            clear HA
            simp only [papermilllaw50_WinderMore.j3] at H
            by_cases c33 : x94_28 = true
            ·subst c33
             have H1 : (some false) = some r := by rw [if_pos rfl] at H; exact H
             clear H
             have H := H1
             clear H1
             obtain rfl := Option.some.inj H
             go_wp2
             go_ret
             exact ⟨by first | rfl | (simp [errW_none, errW_some] <;> rfl) | (simp [*, errW_none, errW_some] <;> rfl), by repeat (first | (with_reducible first | exact HB.out | apply below_alloc | apply pw_below_drewN | apply below_drew1 | refine below_set ?_ GE316.out) | exact HB.out)⟩
            ·replace c33 := Bool.eq_false_iff.mpr c33
             subst c33
             have H1 : (if t324 = 0 then (if (l2_1.length : Int) = 0 then (papermilllaw50_WinderMore.j4 kj28 l0 a1 t321 x12_3 true l2_0 l2_1 a2_2) else (if 0 ≤ (wrap64 ((l2_1.length : Int) - 1)) then (if (wrap64 ((l2_1.length : Int) - 1)) < (l2_1.length : Int) then (papermilllaw50_WinderMore.j4 kj28 l0 a1 t321 x12_3 ((rd l2_1 (wrap64 ((l2_1.length : Int) - 1))) == 0) l2_0 l2_1 a2_2) else (none)) else (none))) else (papermilllaw50_WinderMore.j4 kj28 l0 a1 t321 x12_3 true l2_0 l2_1 a2_2)) = some r := by rw [if_neg (show ¬ (false = true) by decide)] at H; exact H
             clear H
             have H := H1
             clear H1
             have HC34 := Aside0.mk H
             clear H
             go_upto_region 15 with (fail)
             go_cut [113] (fun v113 wc => ∃ (kq : Nat) (x113_33 : Bool), v113 = .bool x113_33 ∧ Aside0 (papermilllaw50_WinderMore.j4 kq l0 a1 t321 x12_3 x113_33 l2_0 l2_1 a2_2 = some r) ∧ Aside0 (kq ≤ kj28) ∧ Aside0 (Kd.R k43 43 wc w.heap.size (fun _ => True) v322 t321) ∧ Aside0 (wc.heap[gb316]? = some (.cells #[(.slice A2_0 l2_0.length c2_0), (.slice A2_1 l2_1.length c2_1), .int .i64 a2_2] 31 (0, 0))) ∧ Aside0 (Below w.heap.size w wc))
             case first =>
              have H := HC34.out
              clear HC34
              by_cases c35 : t324 = 0
              ·rw [if_pos c35] at H
               have c35b0 : (t324 == 0) = true := beq_iff_eq.mpr c35
               have c35b1 : (t324 != 0) = false := bne_eq_false_iff_eq.mpr c35
               clear c35
               (first | rw [c35b0] | (simp only [i64_w, i32_w]; rw [c35b0]) | skip)
               by_cases c36 : (l2_1.length : Int) = 0
               ·rw [if_pos c36] at H
                have c36b0 : ((l2_1.length : Int) == 0) = true := beq_iff_eq.mpr c36
                have c36b1 : ((l2_1.length : Int) != 0) = false := bne_eq_false_iff_eq.mpr c36
                clear c36
                have H' := Aside0.mk H
                clear H
                have hcz37_0 : wc.cell? ⟨gb316, 0, none⟩ = some (.slice A2_0 l2_0.length c2_0) := (blk_cell BK316.out 0).trans rfl
                have hcz37_1 : wc.cell? ⟨gb316, 1, none⟩ = some (.slice A2_1 l2_1.length c2_1) := (blk_cell BK316.out 1).trans rfl
                have hcz37_2 : wc.cell? ⟨gb316, 2, none⟩ = some (.int .i64 a2_2) := (blk_cell BK316.out 2).trans rfl
                have hfz37_0 := blk_frozen BK316.out 0
                have hfz37_1 := blk_frozen BK316.out 1
                have hfz37_2 := blk_frozen BK316.out 2
                go_wp2
                go_meet
                case rel => exact ⟨_, (true), (by first | rfl | (simp; done) | (simp [*]; done)), H', ⟨by have := HJ3.out; have := HJ14.out; have := HK3.out; have := HJ28.out; first | omega | exact Nat.le_refl _⟩, ⟨by (with_reducible repeat (first | apply Kd.R_alloc | apply Kd.R_drewN | apply Kd.R_drew)); exact HO_9.out⟩, ⟨by (with_reducible repeat (first | refine blk_drewN ?_ _ | refine blk_drew ?_ | refine blk_alloc ?_ _)); exact BK316.out⟩, ⟨by repeat (first | (with_reducible first | exact HB.out | apply below_alloc | apply pw_below_drewN | apply below_drew1 | refine below_set ?_ GE316.out) | exact HB.out)⟩⟩
               ·rw [if_neg c36] at H
                have c36b0 : ((l2_1.length : Int) == 0) = false := beq_eq_false_iff_ne.mpr c36
                have c36b1 : ((l2_1.length : Int) != 0) = true := bne_iff_ne.mpr c36
                have c36b2 : ¬ (l2_1 = []) := fun h_ => c36 (by rw [h_]; rfl)
                obtain ⟨ji38, hji38⟩ : ∃ j_ : Int, (wrap64 ((l2_1.length : Int) - 1)) = j_ := ⟨_, rfl⟩
                replace H : (if 0 ≤ (ji38) then (if (ji38) < (l2_1.length : Int) then (papermilllaw50_WinderMore.j4 kj28 l0 a1 t321 x12_3 ((rd l2_1 (ji38)) == 0) l2_0 l2_1 a2_2) else (none)) else (none)) = some r := by first | (rw [hji38] at H; exact H) | (simp only [hji38] at H ⊢; exact H)
                have hji38w : (IntKind.i64.wrap ((l2_1.length : Int) - 1)) = ji38 := (i64_w _).trans hji38
                by_cases c39 : 0 ≤ (ji38)
                ·rw [if_pos c39] at H
                 have c39b0 : decide (0 ≤ (ji38)) = true := decide_eq_true c39
                 clear c39
                 by_cases c40 : (ji38) < (l2_1.length : Int)
                 ·rw [if_pos c40] at H
                  have c40b0 : decide ((ji38) < (l2_1.length : Int)) = true := decide_eq_true c40
                  clear c40
                  have H' := Aside0.mk H
                  clear H
                  have hcz41_0 : wc.cell? ⟨gb316, 0, none⟩ = some (.slice A2_0 l2_0.length c2_0) := (blk_cell BK316.out 0).trans rfl
                  have hcz41_1 : wc.cell? ⟨gb316, 1, none⟩ = some (.slice A2_1 l2_1.length c2_1) := (blk_cell BK316.out 1).trans rfl
                  have hcz41_2 : wc.cell? ⟨gb316, 2, none⟩ = some (.int .i64 a2_2) := (blk_cell BK316.out 2).trans rfl
                  have hfz41_0 := blk_frozen BK316.out 0
                  have hfz41_1 := blk_frozen BK316.out 1
                  have hfz41_2 := blk_frozen BK316.out 2
                  have p328 : 0 ≤ ((ji38) : Int) := of_decide_eq_true (by first | (with_reducible assumption) | assumption)
                  have q328 : (ji38) < (l2_1.length : Int) := of_decide_eq_true (by first | (with_reducible assumption) | assumption)
                  obtain ⟨ad328, e328, hx328_0⟩ := Kd.at_int HR2_1.out (ji38) p328 q328
                  cases e328
                  replace hx328_0 := (HB.out.cell (World.block_lt_of_cell? w _ hx328_0)).trans hx328_0
                  replace p328 := eq_true p328
                  replace q328 := eq_true q328
                  go_wp2
                  go_meet
                  case rel => exact ⟨_, (((rd l2_1 (ji38)) == 0)), (by first | rfl | (simp; done) | (simp only [← hji38] <;> (first | rfl | simp)) | (simp [*]; done)), H', ⟨by have := HJ3.out; have := HJ14.out; have := HK3.out; have := HJ28.out; first | omega | exact Nat.le_refl _⟩, ⟨by (with_reducible repeat (first | apply Kd.R_alloc | apply Kd.R_drewN | apply Kd.R_drew)); exact HO_9.out⟩, ⟨by (with_reducible repeat (first | refine blk_drewN ?_ _ | refine blk_drew ?_ | refine blk_alloc ?_ _)); exact BK316.out⟩, ⟨by repeat (first | (with_reducible first | exact HB.out | apply below_alloc | apply pw_below_drewN | apply below_drew1 | refine below_set ?_ GE316.out) | exact HB.out)⟩⟩
                 ·rw [if_neg c40] at H
                  exact absurd H (by simp)
                ·rw [if_neg c39] at H
                 exact absurd H (by simp)
              ·rw [if_neg c35] at H
               have c35b0 : (t324 == 0) = false := beq_eq_false_iff_ne.mpr c35
               have c35b1 : (t324 != 0) = true := bne_iff_ne.mpr c35
               (first | rw [c35b0] | (simp only [i64_w, i32_w]; rw [c35b0]) | skip)
               have H' := Aside0.mk H
               clear H
               go_wp2
               go_meet
               case rel => exact ⟨_, (true), (by first | rfl | (simp; done) | (simp [*]; done)), H', ⟨by have := HJ3.out; have := HJ14.out; have := HK3.out; have := HJ28.out; first | omega | exact Nat.le_refl _⟩, ⟨by (with_reducible repeat (first | apply Kd.R_alloc | apply Kd.R_drewN | apply Kd.R_drew)); exact HO_9.out⟩, ⟨by (with_reducible repeat (first | refine blk_drewN ?_ _ | refine blk_drew ?_ | refine blk_alloc ?_ _)); exact BK316.out⟩, ⟨by repeat (first | (with_reducible first | exact HB.out | apply below_alloc | apply pw_below_drewN | apply below_drew1 | refine below_set ?_ GE316.out) | exact HB.out)⟩⟩
             case rest =>
              clear HC34
              try clear c1
              try clear c2
              try clear p2
              try clear c3
              try clear p3
              try clear q3
              try clear hx3
              try clear c4
              try clear c6
              try clear c6b0
              try clear c6b1
              try clear p6
              try clear c9
              try clear c10
              try clear c12
              try clear c15
              try clear c18
              try clear c18b0
              try clear c18b1
              try clear c20
              try clear c20b0
              try clear c21
              try clear c22
              try clear c22b0
              try clear c23
              try clear c23b0
              try clear c24
              try clear c24b0
              try clear c31
              try clear c32
              try clear c32b0
              try clear p32
              try clear q32
              try clear hx32
              try clear c33
              try clear c35
              try clear c35b0
              try clear c35b1
              try clear c36
              try clear c36b0
              try clear c36b1
              try clear c36b2
              try clear c39
              try clear c39b0
              try clear c40
              try clear c40b0
              try clear hcz16_0
              try clear hcz16_1
              try clear hcz16_2
              try clear hcz19_0
              try clear hcz19_1
              try clear hcz19_2
              try clear hcz25_0
              try clear hcz25_1
              try clear hcz25_2
              try clear hcz26_0
              try clear hcz26_1
              try clear hcz26_2
              try clear hcz27_0
              try clear hcz27_1
              try clear hcz27_2
              try clear hcz28_0
              try clear hcz28_1
              try clear hcz28_2
              try clear hcz30_0
              try clear hcz30_1
              try clear hcz30_2
              try clear hcz37_0
              try clear hcz37_1
              try clear hcz37_2
              try clear hcz41_0
              try clear hcz41_1
              try clear hcz41_2
              try clear hcz8_0
              try clear hcz8_1
              try clear hcz8_2
              try clear hfz16_0
              try clear hfz16_1
              try clear hfz16_2
              try clear hfz19_0
              try clear hfz19_1
              try clear hfz19_2
              try clear hfz25_0
              try clear hfz25_1
              try clear hfz25_2
              try clear hfz26_0
              try clear hfz26_1
              try clear hfz26_2
              try clear hfz27_0
              try clear hfz27_1
              try clear hfz27_2
              try clear hfz28_0
              try clear hfz28_1
              try clear hfz28_2
              try clear hfz30_0
              try clear hfz30_1
              try clear hfz30_2
              try clear hfz37_0
              try clear hfz37_1
              try clear hfz37_2
              try clear hfz41_0
              try clear hfz41_1
              try clear hfz41_2
              try clear hfz8_0
              try clear hfz8_1
              try clear hfz8_2
              try clear hx325_0
              try clear hx326_0
              try clear hx327_0
              try clear hx328_0
              try clear p2
              try clear p3
              try clear p32
              try clear p325
              try clear p326
              try clear p327
              try clear p328
              try clear p6
              try clear q3
              try clear q32
              try clear q325
              try clear q326
              try clear q327
              try clear q328
              obtain ⟨kq, x113_33, rfl, HA, HJ33, HO_9, BK316, HB⟩ := hcut
              cases kq with
              | zero => exact absurd HA.out (by simp [papermilllaw50_WinderMore.j4])
              | succ kj33 =>
               have H := HA.out
               clear HA
               simp only [papermilllaw50_WinderMore.j4] at H
               by_cases c42 : x113_33 = true
               ·subst c42
                have H1 : ((papermilllaw50_awake.f kj33).bind fun t329 => (some t329)) = some r := by rw [if_pos rfl] at H; exact H
                clear H
                have H := H1
                clear H1
                replace H := Option.bind_eq_some_iff.mp H
                obtain ⟨t329, A430, H⟩ := H
                replace H : (some t329) = some r := H
                have A43 := Aside0.mk A430
                clear A430
                obtain rfl := Option.some.inj H
                go_wp2_with (first | ((with_reducible refine gate_callee (f := 10) rfl ?_); refine goesL_ (some 114) rfl rfl Try.func10 (by kernel_rfl) rfl #[] rfl (by (try simp only [List.map_toArray, List.map_cons, List.map_nil]); first | done | rfl | (simp only [List.length_drop, List.length_take]; rfl)) ?_; (with_reducible refine (papermilllaw50_awake.calls kj33  t329 _ A43.out).mono ?_); rintro e w44 ⟨rfl, hb⟩; refine ⟨_, rfl, ?_⟩; have n0_ := Aside0.mk (Kd.R_below (by (with_reducible repeat (first | apply Kd.R_alloc | apply Kd.R_drewN | apply Kd.R_drew)); exact HO_9.out) hb); have n1_ := Aside0.mk (blk_below (g := gb316) (o := .cells #[.slice A2_0 l2_0.length c2_0, .slice A2_1 l2_1.length c2_1, .int .i64 a2_2] 31 (0, 0)) (by (with_reducible repeat (first | refine blk_drewN ?_ _ | refine blk_drew ?_ | refine blk_alloc ?_ _)); exact BK316.out) hb); have n2_ := Aside0.mk (below_step (by repeat (first | (with_reducible first | exact HB.out | apply below_alloc | apply pw_below_drewN | apply below_drew1 | refine below_set ?_ GE316.out) | exact HB.out)) hb); clear HO_9; clear BK316; clear HB; have HO_9 := n0_; have BK316 := n1_; have HB := n2_; clear n0_ n1_ n2_; (try clear hb); (try clear hb2); (try clear hk); (try clear hi)))
                go_ret
                exact ⟨by first | rfl | (simp [errW_none, errW_some] <;> rfl) | (simp [*, errW_none, errW_some] <;> rfl), by repeat (first | (with_reducible first | exact HB.out | apply below_alloc | apply pw_below_drewN | apply below_drew1 | refine below_set ?_ GE316.out) | exact HB.out)⟩
               ·replace c42 := Bool.eq_false_iff.mpr c42
                subst c42
                have H1 : (if ([] : List Int).length + l2_1.length < 17592186044416 then ((some (([] : List Int) ++ l2_1 : List Int)).bind fun y330 => (if 0 ≤ (wrap64 ((y330.length : Int) - 1)) then (if (wrap64 ((y330.length : Int) - 1)) < (y330.length : Int) then ((winder_Jobs.f kj33 l0 a1 l2_0 (y330.set ((wrap64 ((y330.length : Int) - 1)) : Int).toNat (wrap64 ((rd y330 (wrap64 ((y330.length : Int) - 1))) - 1))) 0).bind fun bt335 => (if bt335.2 = 0 then (if (t321.length : Int) = x12_3 then (if 0 ≤ (mx 0 (wrap64 ((t321.length : Int) - 1))) then (if (mx 0 (wrap64 ((t321.length : Int) - 1))) ≤ (t321.length : Int) then ((papermillref50_Same.f kj33 bt335.1 (t321.take ((mx 0 (wrap64 ((t321.length : Int) - 1))) : Int).toNat)).bind fun t343 => (if t343 = true then ((papermilllaw50_awake.f kj33).bind fun t344 => (some t344)) else (some false))) else (none)) else (none)) else (some false)) else (some false))) else (none)) else (none))) else (none)) = some r := by rw [if_neg (show ¬ (false = true) by decide)] at H; exact H
                clear H
                have H := H1
                clear H1
                by_cases c45 : ([] : List Int).length + l2_1.length < 17592186044416
                ·rw [if_pos c45] at H
                 have LMc45 := Aside0.mk c45
                 clear c45
                 obtain ⟨y330, hy330⟩ : ∃ y_ : List Int, y_ = (([] : List Int) ++ l2_1) := ⟨_, rfl⟩
                 replace H : (if 0 ≤ (wrap64 ((y330.length : Int) - 1)) then (if (wrap64 ((y330.length : Int) - 1)) < (y330.length : Int) then ((winder_Jobs.f kj33 l0 a1 l2_0 (y330.set ((wrap64 ((y330.length : Int) - 1)) : Int).toNat (wrap64 ((rd y330 (wrap64 ((y330.length : Int) - 1))) - 1))) 0).bind fun bt335 => (if bt335.2 = 0 then (if (t321.length : Int) = x12_3 then (if 0 ≤ (mx 0 (wrap64 ((t321.length : Int) - 1))) then (if (mx 0 (wrap64 ((t321.length : Int) - 1))) ≤ (t321.length : Int) then ((papermillref50_Same.f kj33 bt335.1 (t321.take ((mx 0 (wrap64 ((t321.length : Int) - 1))) : Int).toNat)).bind fun t343 => (if t343 = true then ((papermilllaw50_awake.f kj33).bind fun t344 => (some t344)) else (some false))) else (none)) else (none)) else (some false)) else (some false))) else (none)) else (none)) = some r := by first | (rw [hy330]; with_reducible exact H) | (have H2_ := (Option.bind_some _ _).symm.trans H; rw [hy330]; with_reducible exact H2_) | (have H2_ := (Option.bind_some _ _).symm.trans H; with_reducible exact H2_) | with_reducible exact H | (rw [hy330]; exact H) | exact H
                 have Ny330 := Aside0.mk hy330
                 clear hy330
                 obtain ⟨ji46, hji46⟩ : ∃ j_ : Int, (wrap64 ((y330.length : Int) - 1)) = j_ := ⟨_, rfl⟩
                 replace H : (if 0 ≤ (ji46) then (if (ji46) < (y330.length : Int) then ((winder_Jobs.f kj33 l0 a1 l2_0 (y330.set ((ji46) : Int).toNat (wrap64 ((rd y330 (ji46)) - 1))) 0).bind fun bt335 => (if bt335.2 = 0 then (if (t321.length : Int) = x12_3 then (if 0 ≤ (mx 0 (wrap64 ((t321.length : Int) - 1))) then (if (mx 0 (wrap64 ((t321.length : Int) - 1))) ≤ (t321.length : Int) then ((papermillref50_Same.f kj33 bt335.1 (t321.take ((mx 0 (wrap64 ((t321.length : Int) - 1))) : Int).toNat)).bind fun t343 => (if t343 = true then ((papermilllaw50_awake.f kj33).bind fun t344 => (some t344)) else (some false))) else (none)) else (none)) else (some false)) else (some false))) else (none)) else (none)) = some r := by first | (rw [hji46] at H; exact H) | (simp only [hji46] at H ⊢; exact H)
                 have hji46w : (IntKind.i64.wrap ((y330.length : Int) - 1)) = ji46 := (i64_w _).trans hji46
                 by_cases c47 : 0 ≤ (ji46)
                 ·rw [if_pos c47] at H
                  have c47b0 : decide (0 ≤ (ji46)) = true := decide_eq_true c47
                  clear c47
                  by_cases c48 : (ji46) < (y330.length : Int)
                  ·rw [if_pos c48] at H
                   have c48b0 : decide ((ji46) < (y330.length : Int)) = true := decide_eq_true c48
                   clear c48
                   obtain ⟨y334, hy334⟩ : ∃ y_ : List Int, y_ = (y330.set ((ji46) : Int).toNat (wrap64 ((rd y330 (ji46)) - 1))) := ⟨_, rfl⟩
                   replace H : ((winder_Jobs.f kj33 l0 a1 l2_0 y334 0).bind fun bt335 => (if bt335.2 = 0 then (if (t321.length : Int) = x12_3 then (if 0 ≤ (mx 0 (wrap64 ((t321.length : Int) - 1))) then (if (mx 0 (wrap64 ((t321.length : Int) - 1))) ≤ (t321.length : Int) then ((papermillref50_Same.f kj33 bt335.1 (t321.take ((mx 0 (wrap64 ((t321.length : Int) - 1))) : Int).toNat)).bind fun t343 => (if t343 = true then ((papermilllaw50_awake.f kj33).bind fun t344 => (some t344)) else (some false))) else (none)) else (none)) else (some false)) else (some false))) = some r := by first | (rw [hy334]; with_reducible exact H) | (have H2_ := (Option.bind_some _ _).symm.trans H; rw [hy334]; with_reducible exact H2_) | (have H2_ := (Option.bind_some _ _).symm.trans H; with_reducible exact H2_) | with_reducible exact H | (rw [hy334]; exact H) | exact H
                   have Ny334 := Aside0.mk hy334
                   clear hy334
                   replace H := Option.bind_eq_some_iff.mp H
                   obtain ⟨⟨t335, t338⟩, A500, H⟩ := H
                   replace H : (if t338 = 0 then (if (t321.length : Int) = x12_3 then (if 0 ≤ (mx 0 (wrap64 ((t321.length : Int) - 1))) then (if (mx 0 (wrap64 ((t321.length : Int) - 1))) ≤ (t321.length : Int) then ((papermillref50_Same.f kj33 t335 (t321.take ((mx 0 (wrap64 ((t321.length : Int) - 1))) : Int).toNat)).bind fun t343 => (if t343 = true then ((papermilllaw50_awake.f kj33).bind fun t344 => (some t344)) else (some false))) else (none)) else (none)) else (some false)) else (some false)) = some r := H
                   have A50 := Aside0.mk A500
                   clear A500
                   by_cases c51 : t338 = 0
                   ·rw [if_pos c51] at H
                    have c51b0 : (t338 == 0) = true := beq_iff_eq.mpr c51
                    have c51b1 : (t338 != 0) = false := bne_eq_false_iff_eq.mpr c51
                    clear c51
                    by_cases c52 : (t321.length : Int) = x12_3
                    ·rw [if_pos c52] at H
                     have c52b0 : ((t321.length : Int) == x12_3) = true := beq_iff_eq.mpr c52
                     have c52b1 : ((t321.length : Int) != x12_3) = false := bne_eq_false_iff_eq.mpr c52
                     clear c52
                     obtain ⟨ji53, hji53⟩ : ∃ j_ : Int, (mx 0 (wrap64 ((t321.length : Int) - 1))) = j_ := ⟨_, rfl⟩
                     replace H : (if 0 ≤ (ji53) then (if (ji53) ≤ (t321.length : Int) then ((papermillref50_Same.f kj33 t335 (t321.take ((ji53) : Int).toNat)).bind fun t343 => (if t343 = true then ((papermilllaw50_awake.f kj33).bind fun t344 => (some t344)) else (some false))) else (none)) else (none)) = some r := by first | (rw [hji53] at H; exact H) | (simp only [hji53] at H ⊢; exact H)
                     (try rw [hji53] at A50)
                     have hji53_ : (if 0 < (wrap64 ((t321.length : Int) - 1)) then (wrap64 ((t321.length : Int) - 1)) else 0) = ji53 := hji53
                     by_cases c54 : 0 ≤ (ji53)
                     ·rw [if_pos c54] at H
                      have c54b0 := eq_true c54
                      have c54b1 : decide (0 ≤ (ji53)) = true := decide_eq_true c54
                      clear c54
                      by_cases c55 : (ji53) ≤ (t321.length : Int)
                      ·rw [if_pos c55] at H
                       have c55b0 := eq_true c55
                       have c55b1 : decide ((ji53) ≤ (t321.length : Int)) = true := decide_eq_true c55
                       clear c55
                       obtain ⟨y339, hy339⟩ : ∃ y_ : List (S43), y_ = (t321.take ((ji53) : Int).toNat) := ⟨_, rfl⟩
                       replace H : ((papermillref50_Same.f kj33 t335 y339).bind fun t343 => (if t343 = true then ((papermilllaw50_awake.f kj33).bind fun t344 => (some t344)) else (some false))) = some r := by first | (rw [hy339]; with_reducible exact H) | (have H2_ := (Option.bind_some _ _).symm.trans H; rw [hy339]; with_reducible exact H2_) | (have H2_ := (Option.bind_some _ _).symm.trans H; with_reducible exact H2_) | with_reducible exact H | (rw [hy339]; exact H) | exact H
                       have Ny339 := Aside0.mk hy339
                       clear hy339
                       replace H := Option.bind_eq_some_iff.mp H
                       obtain ⟨t343, A560, H⟩ := H
                       replace H : (if t343 = true then ((papermilllaw50_awake.f kj33).bind fun t344 => (some t344)) else (some false)) = some r := H
                       have A56 := Aside0.mk A560
                       clear A560
                       by_cases c57 : t343 = true
                       ·subst c57
                        have H1 : ((papermilllaw50_awake.f kj33).bind fun t344 => (some t344)) = some r := by rw [if_pos rfl] at H; exact H
                        clear H
                        have H := H1
                        clear H1
                        replace H := Option.bind_eq_some_iff.mp H
                        obtain ⟨t344, A580, H⟩ := H
                        replace H : (some t344) = some r := H
                        have A58 := Aside0.mk A580
                        clear A580
                        obtain rfl := Option.some.inj H
                        have hcz59_0 : wc.cell? ⟨gb316, 0, none⟩ = some (.slice A2_0 l2_0.length c2_0) := (blk_cell BK316.out 0).trans rfl
                        have hcz59_1 : wc.cell? ⟨gb316, 1, none⟩ = some (.slice A2_1 l2_1.length c2_1) := (blk_cell BK316.out 1).trans rfl
                        have hcz59_2 : wc.cell? ⟨gb316, 2, none⟩ = some (.int .i64 a2_2) := (blk_cell BK316.out 2).trans rfl
                        have hfz59_0 := blk_frozen BK316.out 0
                        have hfz59_1 := blk_frozen BK316.out 1
                        have hfz59_2 := blk_frozen BK316.out 2
                        go_wp2_with (first | ((with_reducible refine gate_builtin (b := .append) (xs := #[.tmp 115, .tmp 117]) rfl ?_); (try (refine gate_guard (by rfl) ?_; dsimp only)); at_builtin; refine Kd.R_append_rows (Kd.int .i64) (w0 := w) w.heap.size rfl (.tmp 115) (.tmp 117) 22 3 (.int .i64 0) 8 rfl Try.underlying22 info3 rfl (by decide) (by omega) (.slice none 0 0) ([] : List Int) l2_1 _ _ _ (fun _ => True) (fun _ => False) rfl rfl ?aO ?aR (fun _ _ h => h) (fun _ h => h.elim) ?aF ?aB ?aS ?aL ?_; (case aR => repeat (first | exact (Kd.C_below HR2_1.out HB.out) | (with_reducible refine Kd.C_alloc ?_ _) | (with_reducible refine Kd.C_drewN ?_ _) | (with_reducible refine Kd.C_drew ?_))); (case aB => exact (by repeat (first | (with_reducible first | exact HB.out | apply below_alloc | apply pw_below_drewN | apply below_drew1 | refine below_set ?_ GE316.out) | exact HB.out))); (case aF => exact (fun _ _ => trivial)); (case aO => exact ((Kd.R_nil _ _ _ _ (fun _ => True)))); (case aS => exact (below_size (by repeat (first | (with_reducible first | exact HB.out | apply below_alloc | apply pw_below_drewN | apply below_drew1 | refine below_set ?_ GE316.out) | exact HB.out)))); (case aL => have := LMc45.out; omega); intro v331 w60 ho hb hg hat; rw [← Ny330.out] at ho; have n0_ := Aside0.mk (Kd.R_grown (by (with_reducible repeat (first | apply Kd.R_alloc | apply Kd.R_drewN | apply Kd.R_drew)); exact HO_9.out) hg (fun _ _ => by simp [Value.ownBlock])); have n1_ := Aside0.mk (blk_grown (g := gb316) (o := .cells #[.slice A2_0 l2_0.length c2_0, .slice A2_1 l2_1.length c2_1, .int .i64 a2_2] 31 (0, 0)) (by (with_reducible repeat (first | refine blk_drewN ?_ _ | refine blk_drew ?_ | refine blk_alloc ?_ _)); exact BK316.out) hg (by simp [Value.ownBlock])); have n2_ := Aside0.mk (hb); have n3_ := Aside0.mk (ho); clear HO_9; clear BK316; clear HB; have HO_9 := n0_; have BK316 := n1_; have HB := n2_; have HO332 := n3_; clear n0_ n1_ n2_ n3_; clear ho hb hg hat; obtain ⟨Ao61, co61, eo61⟩ := Kd.R_slice HO332.out; subst eo61; have p333 : 0 ≤ ((ji46) : Int) := of_decide_eq_true (by first | (with_reducible assumption) | assumption); have q333 : (ji46) < (y330.length : Int) := of_decide_eq_true (by first | (with_reducible assumption) | assumption); obtain ⟨ad333, e333, hx333_0⟩ := Kd.at_int (Kd.R_reads' HO332.out).2.2 (ji46) p333 q333; cases e333; replace p333 := eq_true p333; replace q333 := eq_true q333; have p49 : 0 ≤ ((ji46) : Int) := of_decide_eq_true (by first | (with_reducible assumption) | assumption); have q49 : ((ji46) : Int) < ((y330.length : Int) : Int) := of_decide_eq_true (by first | (with_reducible assumption) | assumption); obtain ⟨go49, co49, eo49, gb49, gl49, cl49, HG49⟩ := Kd.R_form HO332.out (by omega); (first | cases eo49 | (injection eo49 with ea_ en_ ec_; (first | subst ea_ | (injection ea_ with ea_; subst ea_)); subst ec_; clear en_)); have GB49 := Aside0.mk gb49; have GG49 := Aside0.mk HG49; clear gb49 gl49 HG49; (first | simp only [add_plain] at hx333_0 | skip); obtain ⟨hx49_0, hf49_0⟩ := Kd.R_celln 0 HO332.out ((ji46) : Int) p49 q49; replace p49 := eq_true p49; replace q49 := eq_true q49; obtain ⟨hy62_, hz62_⟩ := Kd.R_celln 0 HO332.out ((ji46) : Int) (of_decide_eq_true (by first | (with_reducible assumption) | assumption)) (of_decide_eq_true (by first | (with_reducible assumption) | assumption)); have HP62 := Kd.R_putg HO332.out ((ji46) : Int) (wrap64 ((rd y330 (ji46)) - 1))) | ((with_reducible refine gate_store (t := 3) (p := 126) rfl ?_); refine store_event (t := 3) (p := 126) (v := ?vo_w63) (w1 := (w60.setCell ⟨go49, ((ji46) : Int).toNat, none⟩ (.int .i64 (wrap64 ((rd y330 (ji46)) - 1))))) ?hg ?ho ?hn ?hr ?_; (case ho => rfl); (case hg => rfl); (case hn => rfl); (case hr => first | (go_simp; done) | (go_simp; rfl)); intro w63 hw; have hg : w60.grownBy w63 (some go49) := (by rw [hw]; exact HP62.2); have hp_ : Kd.R (Kd.int .i64) 3 w63 w.heap.size (fun _ => True) (.slice (some ⟨go49, 0, none⟩) y330.length co61) y334 := (by rw [hw, Ny334.out]; exact HP62.1); clear HP62; have n0_ := Aside0.mk (Kd.R_over' (v := (.slice (some ⟨go49, 0, none⟩) y330.length co61)) (by (with_reducible repeat (first | apply Kd.R_alloc | apply Kd.R_drewN | apply Kd.R_drew)); exact HO_9.out) (Kd.R_typed HO332.out) (by decide) hg); have n1_ := Aside0.mk (blk_grown (g := gb316) (o := .cells #[.slice A2_0 l2_0.length c2_0, .slice A2_1 l2_1.length c2_1, .int .i64 a2_2] 31 (0, 0)) (by (with_reducible repeat (first | refine blk_drewN ?_ _ | refine blk_drew ?_ | refine blk_alloc ?_ _)); exact BK316.out) hg (Kd.R_ne HO332.out BK316.out (by decide))); have n2_ := Aside0.mk (hp_); have n3_ := Aside0.mk ((by rw [hw]; exact below_set (HB.out) GB49.out : Below w.heap.size w w63)); clear HO_9; clear BK316; clear HO332; clear HB; have HO_9 := n0_; have BK316 := n1_; have HO332 := n2_; have HB := n3_; clear n0_ n1_ n2_ n3_; clear hg hw hp_; have hcz64_0 : w63.cell? ⟨gb316, 0, none⟩ = some (.slice A2_0 l2_0.length c2_0) := (blk_cell BK316.out 0).trans rfl; have hcz64_1 : w63.cell? ⟨gb316, 1, none⟩ = some (.slice A2_1 l2_1.length c2_1) := (blk_cell BK316.out 1).trans rfl; have hcz64_2 : w63.cell? ⟨gb316, 2, none⟩ = some (.int .i64 a2_2) := (blk_cell BK316.out 2).trans rfl; have hfz64_0 := blk_frozen BK316.out 0; have hfz64_1 := blk_frozen BK316.out 1; have hfz64_2 := blk_frozen BK316.out 2) | ((with_reducible refine gate_callee (f := 15) rfl ?_); refine goesL_ (some 134) rfl rfl Try.func15 (by kernel_rfl) rfl #[.slice A0 l0.length c0, .int .i64 a1, .agg #[.slice A2_0 l2_0.length c2_0, .slice (some ⟨go49, 0, none⟩) y334.length co61, .int .i64 0]] rfl (by (try simp only [List.map_toArray, List.map_cons, List.map_nil]); first | done | (rw [show y334.length = y330.length from (Kd.R_reads' HO332.out).1.symm] <;> rfl) | rfl | (simp only [List.length_drop, List.length_take]; rfl)) ?_; (with_reducible refine (winder_Jobs.calls kj33 _ _ l0 a1 _ _ l2_0 _ _ y334 0 t335 t338 _ ?side1 ?side2 ?side3 ?side4 ?side5 ?side6 A50.out).mono ?_); (case side1 => repeat (first | exact (Kd.C_below HR0.out HB.out) | (with_reducible refine Kd.C_alloc ?_ _) | (with_reducible refine Kd.C_drewN ?_ _) | (with_reducible refine Kd.C_drew ?_))); (case side2 => exact HC0.out); (case side3 => repeat (first | exact (Kd.C_below HR2_0.out HB.out) | (with_reducible refine Kd.C_alloc ?_ _) | (with_reducible refine Kd.C_drewN ?_ _) | (with_reducible refine Kd.C_drew ?_))); (case side4 => exact HC2_0.out); (case side5 => repeat (first | exact (Kd.R_reads' HO332.out).2.2 | (with_reducible refine Kd.C_alloc ?_ _) | (with_reducible refine Kd.C_drewN ?_ _) | (with_reducible refine Kd.C_drew ?_))); (case side6 => rw [show y334.length = y330.length from (Kd.R_reads' HO332.out).1.symm]; exact (Kd.R_reads' HO332.out).2.1); rintro e w65 ⟨v336, rfl, ho0, hb⟩; refine ⟨_, rfl, ?_⟩; have n0_ := Aside0.mk (Kd.R_elder' (by (with_reducible repeat (first | apply Kd.R_alloc | apply Kd.R_drewN | apply Kd.R_drew)); exact HO_9.out) (Kd.R_base ho0) hb); have n1_ := Aside0.mk (Kd.R_below (by (with_reducible repeat (first | apply Kd.R_alloc | apply Kd.R_drewN | apply Kd.R_drew)); exact HO332.out) hb); have n2_ := Aside0.mk (Kd.R_lower (Kd.R_new' ho0 (Kd.R_lt (by (with_reducible repeat (first | apply Kd.R_alloc | apply Kd.R_drewN | apply Kd.R_drew)); exact HO_9.out))) (below_size (by repeat (first | (with_reducible first | exact HB.out | apply below_alloc | apply pw_below_drewN | apply below_drew1 | refine below_set ?_ GE316.out) | exact HB.out)))); have n3_ := Aside0.mk (blk_below (g := gb316) (o := .cells #[.slice A2_0 l2_0.length c2_0, .slice A2_1 l2_1.length c2_1, .int .i64 a2_2] 31 (0, 0)) (by (with_reducible repeat (first | refine blk_drewN ?_ _ | refine blk_drew ?_ | refine blk_alloc ?_ _)); exact BK316.out) hb); have n4_ := Aside0.mk (below_step (by repeat (first | (with_reducible first | exact HB.out | apply below_alloc | apply pw_below_drewN | apply below_drew1 | refine below_set ?_ GE316.out) | exact HB.out)) hb); clear HO_9; clear HO332; clear BK316; clear HB; have HO_9 := n0_; have HO332 := n1_; have HO337 := n2_; have BK316 := n3_; have HB := n4_; clear n0_ n1_ n2_ n3_ n4_; (try clear hb); (try clear hb2); (try clear hk); (try clear hi); (try clear ho0); obtain ⟨Ao66, co66, eo66⟩ := Kd.R_slice HO_9.out; subst eo66; have q67 : ((ji53) : Int) ≤ ((t321.length : Int) : Int) := of_decide_eq_true (by first | (with_reducible assumption) | assumption); obtain ⟨i067, hi067, _, hsz67, _⟩ := info_parts info43; have hroom67 : t321.length ≤ co66 := (Kd.R_reads' HO_9.out).2.1; have hC67 : Kd.C k43 _ Ao66 t321.length t321 := (Kd.R_reads' HO_9.out).2.2; have hcut67 := cut_to (P := Try.prog) 33 43 .i64 Try.underlying33 hi067 Ao66 t321.length co66 (ji53) (of_decide_eq_true (by first | (with_reducible assumption) | assumption)) q67 hroom67; have hr67 := Kd.C_take (m := ((ji53) : Int).toNat) hC67 (by omega); have hy67 : y339.length = ((ji53) : Int).toNat := (by rw [Ny339.out, List.length_take]; omega); rw [← Ny339.out] at hr67; rw [← hy67] at hcut67; have HR342 := Aside0.mk hr67; have HC342 := Aside0.mk (show y339.length ≤ co66 from by omega); clear hr67 hC67 hroom67 hi067 hsz67; have KY67 := Aside0.mk hy67; clear hy67; have KL67 := Aside0.mk (show ((ji53) : Int).toNat ≤ t321.length from by omega); replace q67 := eq_true q67; obtain ⟨Ao68, co68, eo68⟩ := Kd.R_slice HO337.out; subst eo68) | (go_at_call 17; (with_reducible refine (papermillref50_Same.calls kj33 _ _ t335 _ _ y339 true _ ?side1 ?side2 ?side3 ?side4 A56.out).mono ?_); (case side1 => repeat (first | exact (Kd.R_reads' HO337.out).2.2 | (with_reducible refine Kd.C_alloc ?_ _) | (with_reducible refine Kd.C_drewN ?_ _) | (with_reducible refine Kd.C_drew ?_))); (case side2 => exact (Kd.R_reads' HO337.out).2.1); (case side3 => repeat (first | exact (by repeat (first | (with_reducible exact HR342.out) | (with_reducible refine Kd.C_alloc ?_ _) | (with_reducible refine Kd.C_drewN ?_ _) | (with_reducible refine Kd.C_drew ?_) | exact HR342.out)) | (with_reducible refine Kd.C_alloc ?_ _) | (with_reducible refine Kd.C_drewN ?_ _) | (with_reducible refine Kd.C_drew ?_))); (case side4 => exact HC342.out); rintro e w' ⟨rfl, ⟨nd, rfl⟩⟩) | (go_at_call 10; (with_reducible refine (papermilllaw50_awake.calls kj33  t344 _ A58.out).mono ?_); rintro e w69 ⟨rfl, hb⟩; have n0_ := Aside0.mk (Kd.R_below (by (with_reducible repeat (first | apply Kd.R_alloc | apply Kd.R_drewN | apply Kd.R_drew)); exact HO_9.out) hb); have n1_ := Aside0.mk (Kd.R_below (by (with_reducible repeat (first | apply Kd.R_alloc | apply Kd.R_drewN | apply Kd.R_drew)); exact HO332.out) hb); have n2_ := Aside0.mk (Kd.R_below (by (with_reducible repeat (first | apply Kd.R_alloc | apply Kd.R_drewN | apply Kd.R_drew)); exact HO337.out) hb); have n3_ := Aside0.mk (blk_below (g := gb316) (o := .cells #[.slice A2_0 l2_0.length c2_0, .slice A2_1 l2_1.length c2_1, .int .i64 a2_2] 31 (0, 0)) (by (with_reducible repeat (first | refine blk_drewN ?_ _ | refine blk_drew ?_ | refine blk_alloc ?_ _)); exact BK316.out) hb); have n4_ := Aside0.mk (Kd.C_below (by repeat (first | (with_reducible exact HR342.out) | (with_reducible refine Kd.C_alloc ?_ _) | (with_reducible refine Kd.C_drewN ?_ _) | (with_reducible refine Kd.C_drew ?_) | exact HR342.out)) hb); have n5_ := Aside0.mk (below_step (by repeat (first | (with_reducible first | exact HB.out | apply below_alloc | apply pw_below_drewN | apply below_drew1 | refine below_set ?_ GE316.out) | exact HB.out)) hb); clear HO_9; clear HO332; clear HO337; clear BK316; clear HR342; clear HB; have HO_9 := n0_; have HO332 := n1_; have HO337 := n2_; have BK316 := n3_; have HR342 := n4_; have HB := n5_; clear n0_ n1_ n2_ n3_ n4_ n5_; (try clear hb); (try clear hb2); (try clear hk); (try clear hi)))
                        go_ret
                        exact ⟨by first | rfl | (simp [errW_none, errW_some] <;> rfl) | (simp only [← hji46, ← hji53]; first | rfl | (simp [errW_none, errW_some] <;> rfl)) | (simp [*, errW_none, errW_some] <;> rfl), by repeat (first | (with_reducible first | exact HB.out | apply below_alloc | apply pw_below_drewN | apply below_drew1 | refine below_set ?_ GE316.out) | exact HB.out)⟩
                       ·replace c57 := Bool.eq_false_iff.mpr c57
                        subst c57
                        have H1 : (some false) = some r := by rw [if_neg (show ¬ (false = true) by decide)] at H; exact H
                        clear H
                        have H := H1
                        clear H1
                        obtain rfl := Option.some.inj H
                        have hcz70_0 : wc.cell? ⟨gb316, 0, none⟩ = some (.slice A2_0 l2_0.length c2_0) := (blk_cell BK316.out 0).trans rfl
                        have hcz70_1 : wc.cell? ⟨gb316, 1, none⟩ = some (.slice A2_1 l2_1.length c2_1) := (blk_cell BK316.out 1).trans rfl
                        have hcz70_2 : wc.cell? ⟨gb316, 2, none⟩ = some (.int .i64 a2_2) := (blk_cell BK316.out 2).trans rfl
                        have hfz70_0 := blk_frozen BK316.out 0
                        have hfz70_1 := blk_frozen BK316.out 1
                        have hfz70_2 := blk_frozen BK316.out 2
                        go_wp2_with (first | ((with_reducible refine gate_builtin (b := .append) (xs := #[.tmp 115, .tmp 117]) rfl ?_); (try (refine gate_guard (by rfl) ?_; dsimp only)); at_builtin; refine Kd.R_append_rows (Kd.int .i64) (w0 := w) w.heap.size rfl (.tmp 115) (.tmp 117) 22 3 (.int .i64 0) 8 rfl Try.underlying22 info3 rfl (by decide) (by omega) (.slice none 0 0) ([] : List Int) l2_1 _ _ _ (fun _ => True) (fun _ => False) rfl rfl ?aO ?aR (fun _ _ h => h) (fun _ h => h.elim) ?aF ?aB ?aS ?aL ?_; (case aR => repeat (first | exact (Kd.C_below HR2_1.out HB.out) | (with_reducible refine Kd.C_alloc ?_ _) | (with_reducible refine Kd.C_drewN ?_ _) | (with_reducible refine Kd.C_drew ?_))); (case aB => exact (by repeat (first | (with_reducible first | exact HB.out | apply below_alloc | apply pw_below_drewN | apply below_drew1 | refine below_set ?_ GE316.out) | exact HB.out))); (case aF => exact (fun _ _ => trivial)); (case aO => exact ((Kd.R_nil _ _ _ _ (fun _ => True)))); (case aS => exact (below_size (by repeat (first | (with_reducible first | exact HB.out | apply below_alloc | apply pw_below_drewN | apply below_drew1 | refine below_set ?_ GE316.out) | exact HB.out)))); (case aL => have := LMc45.out; omega); intro v331 w71 ho hb hg hat; rw [← Ny330.out] at ho; have n0_ := Aside0.mk (Kd.R_grown (by (with_reducible repeat (first | apply Kd.R_alloc | apply Kd.R_drewN | apply Kd.R_drew)); exact HO_9.out) hg (fun _ _ => by simp [Value.ownBlock])); have n1_ := Aside0.mk (blk_grown (g := gb316) (o := .cells #[.slice A2_0 l2_0.length c2_0, .slice A2_1 l2_1.length c2_1, .int .i64 a2_2] 31 (0, 0)) (by (with_reducible repeat (first | refine blk_drewN ?_ _ | refine blk_drew ?_ | refine blk_alloc ?_ _)); exact BK316.out) hg (by simp [Value.ownBlock])); have n2_ := Aside0.mk (hb); have n3_ := Aside0.mk (ho); clear HO_9; clear BK316; clear HB; have HO_9 := n0_; have BK316 := n1_; have HB := n2_; have HO332 := n3_; clear n0_ n1_ n2_ n3_; clear ho hb hg hat; obtain ⟨Ao72, co72, eo72⟩ := Kd.R_slice HO332.out; subst eo72; have p333 : 0 ≤ ((ji46) : Int) := of_decide_eq_true (by first | (with_reducible assumption) | assumption); have q333 : (ji46) < (y330.length : Int) := of_decide_eq_true (by first | (with_reducible assumption) | assumption); obtain ⟨ad333, e333, hx333_0⟩ := Kd.at_int (Kd.R_reads' HO332.out).2.2 (ji46) p333 q333; cases e333; replace p333 := eq_true p333; replace q333 := eq_true q333; have p49 : 0 ≤ ((ji46) : Int) := of_decide_eq_true (by first | (with_reducible assumption) | assumption); have q49 : ((ji46) : Int) < ((y330.length : Int) : Int) := of_decide_eq_true (by first | (with_reducible assumption) | assumption); obtain ⟨go49, co49, eo49, gb49, gl49, cl49, HG49⟩ := Kd.R_form HO332.out (by omega); (first | cases eo49 | (injection eo49 with ea_ en_ ec_; (first | subst ea_ | (injection ea_ with ea_; subst ea_)); subst ec_; clear en_)); have GB49 := Aside0.mk gb49; have GG49 := Aside0.mk HG49; clear gb49 gl49 HG49; (first | simp only [add_plain] at hx333_0 | skip); obtain ⟨hx49_0, hf49_0⟩ := Kd.R_celln 0 HO332.out ((ji46) : Int) p49 q49; replace p49 := eq_true p49; replace q49 := eq_true q49; obtain ⟨hy73_, hz73_⟩ := Kd.R_celln 0 HO332.out ((ji46) : Int) (of_decide_eq_true (by first | (with_reducible assumption) | assumption)) (of_decide_eq_true (by first | (with_reducible assumption) | assumption)); have HP73 := Kd.R_putg HO332.out ((ji46) : Int) (wrap64 ((rd y330 (ji46)) - 1))) | ((with_reducible refine gate_store (t := 3) (p := 126) rfl ?_); refine store_event (t := 3) (p := 126) (v := ?vo_w74) (w1 := (w71.setCell ⟨go49, ((ji46) : Int).toNat, none⟩ (.int .i64 (wrap64 ((rd y330 (ji46)) - 1))))) ?hg ?ho ?hn ?hr ?_; (case ho => rfl); (case hg => rfl); (case hn => rfl); (case hr => first | (go_simp; done) | (go_simp; rfl)); intro w74 hw; have hg : w71.grownBy w74 (some go49) := (by rw [hw]; exact HP73.2); have hp_ : Kd.R (Kd.int .i64) 3 w74 w.heap.size (fun _ => True) (.slice (some ⟨go49, 0, none⟩) y330.length co72) y334 := (by rw [hw, Ny334.out]; exact HP73.1); clear HP73; have n0_ := Aside0.mk (Kd.R_over' (v := (.slice (some ⟨go49, 0, none⟩) y330.length co72)) (by (with_reducible repeat (first | apply Kd.R_alloc | apply Kd.R_drewN | apply Kd.R_drew)); exact HO_9.out) (Kd.R_typed HO332.out) (by decide) hg); have n1_ := Aside0.mk (blk_grown (g := gb316) (o := .cells #[.slice A2_0 l2_0.length c2_0, .slice A2_1 l2_1.length c2_1, .int .i64 a2_2] 31 (0, 0)) (by (with_reducible repeat (first | refine blk_drewN ?_ _ | refine blk_drew ?_ | refine blk_alloc ?_ _)); exact BK316.out) hg (Kd.R_ne HO332.out BK316.out (by decide))); have n2_ := Aside0.mk (hp_); have n3_ := Aside0.mk ((by rw [hw]; exact below_set (HB.out) GB49.out : Below w.heap.size w w74)); clear HO_9; clear BK316; clear HO332; clear HB; have HO_9 := n0_; have BK316 := n1_; have HO332 := n2_; have HB := n3_; clear n0_ n1_ n2_ n3_; clear hg hw hp_; have hcz75_0 : w74.cell? ⟨gb316, 0, none⟩ = some (.slice A2_0 l2_0.length c2_0) := (blk_cell BK316.out 0).trans rfl; have hcz75_1 : w74.cell? ⟨gb316, 1, none⟩ = some (.slice A2_1 l2_1.length c2_1) := (blk_cell BK316.out 1).trans rfl; have hcz75_2 : w74.cell? ⟨gb316, 2, none⟩ = some (.int .i64 a2_2) := (blk_cell BK316.out 2).trans rfl; have hfz75_0 := blk_frozen BK316.out 0; have hfz75_1 := blk_frozen BK316.out 1; have hfz75_2 := blk_frozen BK316.out 2) | ((with_reducible refine gate_callee (f := 15) rfl ?_); refine goesL_ (some 134) rfl rfl Try.func15 (by kernel_rfl) rfl #[.slice A0 l0.length c0, .int .i64 a1, .agg #[.slice A2_0 l2_0.length c2_0, .slice (some ⟨go49, 0, none⟩) y334.length co72, .int .i64 0]] rfl (by (try simp only [List.map_toArray, List.map_cons, List.map_nil]); first | done | (rw [show y334.length = y330.length from (Kd.R_reads' HO332.out).1.symm] <;> rfl) | rfl | (simp only [List.length_drop, List.length_take]; rfl)) ?_; (with_reducible refine (winder_Jobs.calls kj33 _ _ l0 a1 _ _ l2_0 _ _ y334 0 t335 t338 _ ?side1 ?side2 ?side3 ?side4 ?side5 ?side6 A50.out).mono ?_); (case side1 => repeat (first | exact (Kd.C_below HR0.out HB.out) | (with_reducible refine Kd.C_alloc ?_ _) | (with_reducible refine Kd.C_drewN ?_ _) | (with_reducible refine Kd.C_drew ?_))); (case side2 => exact HC0.out); (case side3 => repeat (first | exact (Kd.C_below HR2_0.out HB.out) | (with_reducible refine Kd.C_alloc ?_ _) | (with_reducible refine Kd.C_drewN ?_ _) | (with_reducible refine Kd.C_drew ?_))); (case side4 => exact HC2_0.out); (case side5 => repeat (first | exact (Kd.R_reads' HO332.out).2.2 | (with_reducible refine Kd.C_alloc ?_ _) | (with_reducible refine Kd.C_drewN ?_ _) | (with_reducible refine Kd.C_drew ?_))); (case side6 => rw [show y334.length = y330.length from (Kd.R_reads' HO332.out).1.symm]; exact (Kd.R_reads' HO332.out).2.1); rintro e w76 ⟨v336, rfl, ho0, hb⟩; refine ⟨_, rfl, ?_⟩; have n0_ := Aside0.mk (Kd.R_elder' (by (with_reducible repeat (first | apply Kd.R_alloc | apply Kd.R_drewN | apply Kd.R_drew)); exact HO_9.out) (Kd.R_base ho0) hb); have n1_ := Aside0.mk (Kd.R_below (by (with_reducible repeat (first | apply Kd.R_alloc | apply Kd.R_drewN | apply Kd.R_drew)); exact HO332.out) hb); have n2_ := Aside0.mk (Kd.R_lower (Kd.R_new' ho0 (Kd.R_lt (by (with_reducible repeat (first | apply Kd.R_alloc | apply Kd.R_drewN | apply Kd.R_drew)); exact HO_9.out))) (below_size (by repeat (first | (with_reducible first | exact HB.out | apply below_alloc | apply pw_below_drewN | apply below_drew1 | refine below_set ?_ GE316.out) | exact HB.out)))); have n3_ := Aside0.mk (blk_below (g := gb316) (o := .cells #[.slice A2_0 l2_0.length c2_0, .slice A2_1 l2_1.length c2_1, .int .i64 a2_2] 31 (0, 0)) (by (with_reducible repeat (first | refine blk_drewN ?_ _ | refine blk_drew ?_ | refine blk_alloc ?_ _)); exact BK316.out) hb); have n4_ := Aside0.mk (below_step (by repeat (first | (with_reducible first | exact HB.out | apply below_alloc | apply pw_below_drewN | apply below_drew1 | refine below_set ?_ GE316.out) | exact HB.out)) hb); clear HO_9; clear HO332; clear BK316; clear HB; have HO_9 := n0_; have HO332 := n1_; have HO337 := n2_; have BK316 := n3_; have HB := n4_; clear n0_ n1_ n2_ n3_ n4_; (try clear hb); (try clear hb2); (try clear hk); (try clear hi); (try clear ho0); obtain ⟨Ao77, co77, eo77⟩ := Kd.R_slice HO_9.out; subst eo77; have q78 : ((ji53) : Int) ≤ ((t321.length : Int) : Int) := of_decide_eq_true (by first | (with_reducible assumption) | assumption); obtain ⟨i078, hi078, _, hsz78, _⟩ := info_parts info43; have hroom78 : t321.length ≤ co77 := (Kd.R_reads' HO_9.out).2.1; have hC78 : Kd.C k43 _ Ao77 t321.length t321 := (Kd.R_reads' HO_9.out).2.2; have hcut78 := cut_to (P := Try.prog) 33 43 .i64 Try.underlying33 hi078 Ao77 t321.length co77 (ji53) (of_decide_eq_true (by first | (with_reducible assumption) | assumption)) q78 hroom78; have hr78 := Kd.C_take (m := ((ji53) : Int).toNat) hC78 (by omega); have hy78 : y339.length = ((ji53) : Int).toNat := (by rw [Ny339.out, List.length_take]; omega); rw [← Ny339.out] at hr78; rw [← hy78] at hcut78; have HR342 := Aside0.mk hr78; have HC342 := Aside0.mk (show y339.length ≤ co77 from by omega); clear hr78 hC78 hroom78 hi078 hsz78; have KY78 := Aside0.mk hy78; clear hy78; have KL78 := Aside0.mk (show ((ji53) : Int).toNat ≤ t321.length from by omega); replace q78 := eq_true q78; obtain ⟨Ao79, co79, eo79⟩ := Kd.R_slice HO337.out; subst eo79) | (go_at_call 17; (with_reducible refine (papermillref50_Same.calls kj33 _ _ t335 _ _ y339 false _ ?side1 ?side2 ?side3 ?side4 A56.out).mono ?_); (case side1 => repeat (first | exact (Kd.R_reads' HO337.out).2.2 | (with_reducible refine Kd.C_alloc ?_ _) | (with_reducible refine Kd.C_drewN ?_ _) | (with_reducible refine Kd.C_drew ?_))); (case side2 => exact (Kd.R_reads' HO337.out).2.1); (case side3 => repeat (first | exact (by repeat (first | (with_reducible exact HR342.out) | (with_reducible refine Kd.C_alloc ?_ _) | (with_reducible refine Kd.C_drewN ?_ _) | (with_reducible refine Kd.C_drew ?_) | exact HR342.out)) | (with_reducible refine Kd.C_alloc ?_ _) | (with_reducible refine Kd.C_drewN ?_ _) | (with_reducible refine Kd.C_drew ?_))); (case side4 => exact HC342.out); rintro e w' ⟨rfl, ⟨nd, rfl⟩⟩))
                        go_ret
                        exact ⟨by first | rfl | (simp [errW_none, errW_some] <;> rfl) | (simp only [← hji46, ← hji53]; first | rfl | (simp [errW_none, errW_some] <;> rfl)) | (simp [*, errW_none, errW_some] <;> rfl), by repeat (first | (with_reducible first | exact HB.out | apply below_alloc | apply pw_below_drewN | apply below_drew1 | refine below_set ?_ GE316.out) | exact HB.out)⟩
                      ·rw [if_neg c55] at H
                       exact absurd H (by simp)
                     ·rw [if_neg c54] at H
                      exact absurd H (by simp)
                    ·rw [if_neg c52] at H
                     have c52b0 : ((t321.length : Int) == x12_3) = false := beq_eq_false_iff_ne.mpr c52
                     have c52b1 : ((t321.length : Int) != x12_3) = true := bne_iff_ne.mpr c52
                     obtain rfl := Option.some.inj H
                     have hcz80_0 : wc.cell? ⟨gb316, 0, none⟩ = some (.slice A2_0 l2_0.length c2_0) := (blk_cell BK316.out 0).trans rfl
                     have hcz80_1 : wc.cell? ⟨gb316, 1, none⟩ = some (.slice A2_1 l2_1.length c2_1) := (blk_cell BK316.out 1).trans rfl
                     have hcz80_2 : wc.cell? ⟨gb316, 2, none⟩ = some (.int .i64 a2_2) := (blk_cell BK316.out 2).trans rfl
                     have hfz80_0 := blk_frozen BK316.out 0
                     have hfz80_1 := blk_frozen BK316.out 1
                     have hfz80_2 := blk_frozen BK316.out 2
                     go_wp2_with (first | ((with_reducible refine gate_builtin (b := .append) (xs := #[.tmp 115, .tmp 117]) rfl ?_); (try (refine gate_guard (by rfl) ?_; dsimp only)); at_builtin; refine Kd.R_append_rows (Kd.int .i64) (w0 := w) w.heap.size rfl (.tmp 115) (.tmp 117) 22 3 (.int .i64 0) 8 rfl Try.underlying22 info3 rfl (by decide) (by omega) (.slice none 0 0) ([] : List Int) l2_1 _ _ _ (fun _ => True) (fun _ => False) rfl rfl ?aO ?aR (fun _ _ h => h) (fun _ h => h.elim) ?aF ?aB ?aS ?aL ?_; (case aR => repeat (first | exact (Kd.C_below HR2_1.out HB.out) | (with_reducible refine Kd.C_alloc ?_ _) | (with_reducible refine Kd.C_drewN ?_ _) | (with_reducible refine Kd.C_drew ?_))); (case aB => exact (by repeat (first | (with_reducible first | exact HB.out | apply below_alloc | apply pw_below_drewN | apply below_drew1 | refine below_set ?_ GE316.out) | exact HB.out))); (case aF => exact (fun _ _ => trivial)); (case aO => exact ((Kd.R_nil _ _ _ _ (fun _ => True)))); (case aS => exact (below_size (by repeat (first | (with_reducible first | exact HB.out | apply below_alloc | apply pw_below_drewN | apply below_drew1 | refine below_set ?_ GE316.out) | exact HB.out)))); (case aL => have := LMc45.out; omega); intro v331 w81 ho hb hg hat; rw [← Ny330.out] at ho; have n0_ := Aside0.mk (Kd.R_grown (by (with_reducible repeat (first | apply Kd.R_alloc | apply Kd.R_drewN | apply Kd.R_drew)); exact HO_9.out) hg (fun _ _ => by simp [Value.ownBlock])); have n1_ := Aside0.mk (blk_grown (g := gb316) (o := .cells #[.slice A2_0 l2_0.length c2_0, .slice A2_1 l2_1.length c2_1, .int .i64 a2_2] 31 (0, 0)) (by (with_reducible repeat (first | refine blk_drewN ?_ _ | refine blk_drew ?_ | refine blk_alloc ?_ _)); exact BK316.out) hg (by simp [Value.ownBlock])); have n2_ := Aside0.mk (hb); have n3_ := Aside0.mk (ho); clear HO_9; clear BK316; clear HB; have HO_9 := n0_; have BK316 := n1_; have HB := n2_; have HO332 := n3_; clear n0_ n1_ n2_ n3_; clear ho hb hg hat; obtain ⟨Ao82, co82, eo82⟩ := Kd.R_slice HO332.out; subst eo82; have p333 : 0 ≤ ((ji46) : Int) := of_decide_eq_true (by first | (with_reducible assumption) | assumption); have q333 : (ji46) < (y330.length : Int) := of_decide_eq_true (by first | (with_reducible assumption) | assumption); obtain ⟨ad333, e333, hx333_0⟩ := Kd.at_int (Kd.R_reads' HO332.out).2.2 (ji46) p333 q333; cases e333; replace p333 := eq_true p333; replace q333 := eq_true q333; have p49 : 0 ≤ ((ji46) : Int) := of_decide_eq_true (by first | (with_reducible assumption) | assumption); have q49 : ((ji46) : Int) < ((y330.length : Int) : Int) := of_decide_eq_true (by first | (with_reducible assumption) | assumption); obtain ⟨go49, co49, eo49, gb49, gl49, cl49, HG49⟩ := Kd.R_form HO332.out (by omega); (first | cases eo49 | (injection eo49 with ea_ en_ ec_; (first | subst ea_ | (injection ea_ with ea_; subst ea_)); subst ec_; clear en_)); have GB49 := Aside0.mk gb49; have GG49 := Aside0.mk HG49; clear gb49 gl49 HG49; (first | simp only [add_plain] at hx333_0 | skip); obtain ⟨hx49_0, hf49_0⟩ := Kd.R_celln 0 HO332.out ((ji46) : Int) p49 q49; replace p49 := eq_true p49; replace q49 := eq_true q49; obtain ⟨hy83_, hz83_⟩ := Kd.R_celln 0 HO332.out ((ji46) : Int) (of_decide_eq_true (by first | (with_reducible assumption) | assumption)) (of_decide_eq_true (by first | (with_reducible assumption) | assumption)); have HP83 := Kd.R_putg HO332.out ((ji46) : Int) (wrap64 ((rd y330 (ji46)) - 1))) | ((with_reducible refine gate_store (t := 3) (p := 126) rfl ?_); refine store_event (t := 3) (p := 126) (v := ?vo_w84) (w1 := (w81.setCell ⟨go49, ((ji46) : Int).toNat, none⟩ (.int .i64 (wrap64 ((rd y330 (ji46)) - 1))))) ?hg ?ho ?hn ?hr ?_; (case ho => rfl); (case hg => rfl); (case hn => rfl); (case hr => first | (go_simp; done) | (go_simp; rfl)); intro w84 hw; have hg : w81.grownBy w84 (some go49) := (by rw [hw]; exact HP83.2); have hp_ : Kd.R (Kd.int .i64) 3 w84 w.heap.size (fun _ => True) (.slice (some ⟨go49, 0, none⟩) y330.length co82) y334 := (by rw [hw, Ny334.out]; exact HP83.1); clear HP83; have n0_ := Aside0.mk (Kd.R_over' (v := (.slice (some ⟨go49, 0, none⟩) y330.length co82)) (by (with_reducible repeat (first | apply Kd.R_alloc | apply Kd.R_drewN | apply Kd.R_drew)); exact HO_9.out) (Kd.R_typed HO332.out) (by decide) hg); have n1_ := Aside0.mk (blk_grown (g := gb316) (o := .cells #[.slice A2_0 l2_0.length c2_0, .slice A2_1 l2_1.length c2_1, .int .i64 a2_2] 31 (0, 0)) (by (with_reducible repeat (first | refine blk_drewN ?_ _ | refine blk_drew ?_ | refine blk_alloc ?_ _)); exact BK316.out) hg (Kd.R_ne HO332.out BK316.out (by decide))); have n2_ := Aside0.mk (hp_); have n3_ := Aside0.mk ((by rw [hw]; exact below_set (HB.out) GB49.out : Below w.heap.size w w84)); clear HO_9; clear BK316; clear HO332; clear HB; have HO_9 := n0_; have BK316 := n1_; have HO332 := n2_; have HB := n3_; clear n0_ n1_ n2_ n3_; clear hg hw hp_; have hcz85_0 : w84.cell? ⟨gb316, 0, none⟩ = some (.slice A2_0 l2_0.length c2_0) := (blk_cell BK316.out 0).trans rfl; have hcz85_1 : w84.cell? ⟨gb316, 1, none⟩ = some (.slice A2_1 l2_1.length c2_1) := (blk_cell BK316.out 1).trans rfl; have hcz85_2 : w84.cell? ⟨gb316, 2, none⟩ = some (.int .i64 a2_2) := (blk_cell BK316.out 2).trans rfl; have hfz85_0 := blk_frozen BK316.out 0; have hfz85_1 := blk_frozen BK316.out 1; have hfz85_2 := blk_frozen BK316.out 2) | ((with_reducible refine gate_callee (f := 15) rfl ?_); refine goesL_ (some 134) rfl rfl Try.func15 (by kernel_rfl) rfl #[.slice A0 l0.length c0, .int .i64 a1, .agg #[.slice A2_0 l2_0.length c2_0, .slice (some ⟨go49, 0, none⟩) y334.length co82, .int .i64 0]] rfl (by (try simp only [List.map_toArray, List.map_cons, List.map_nil]); first | done | (rw [show y334.length = y330.length from (Kd.R_reads' HO332.out).1.symm] <;> rfl) | rfl | (simp only [List.length_drop, List.length_take]; rfl)) ?_; (with_reducible refine (winder_Jobs.calls kj33 _ _ l0 a1 _ _ l2_0 _ _ y334 0 t335 t338 _ ?side1 ?side2 ?side3 ?side4 ?side5 ?side6 A50.out).mono ?_); (case side1 => repeat (first | exact (Kd.C_below HR0.out HB.out) | (with_reducible refine Kd.C_alloc ?_ _) | (with_reducible refine Kd.C_drewN ?_ _) | (with_reducible refine Kd.C_drew ?_))); (case side2 => exact HC0.out); (case side3 => repeat (first | exact (Kd.C_below HR2_0.out HB.out) | (with_reducible refine Kd.C_alloc ?_ _) | (with_reducible refine Kd.C_drewN ?_ _) | (with_reducible refine Kd.C_drew ?_))); (case side4 => exact HC2_0.out); (case side5 => repeat (first | exact (Kd.R_reads' HO332.out).2.2 | (with_reducible refine Kd.C_alloc ?_ _) | (with_reducible refine Kd.C_drewN ?_ _) | (with_reducible refine Kd.C_drew ?_))); (case side6 => rw [show y334.length = y330.length from (Kd.R_reads' HO332.out).1.symm]; exact (Kd.R_reads' HO332.out).2.1); rintro e w86 ⟨v336, rfl, ho0, hb⟩; refine ⟨_, rfl, ?_⟩; have n0_ := Aside0.mk (Kd.R_elder' (by (with_reducible repeat (first | apply Kd.R_alloc | apply Kd.R_drewN | apply Kd.R_drew)); exact HO_9.out) (Kd.R_base ho0) hb); have n1_ := Aside0.mk (Kd.R_below (by (with_reducible repeat (first | apply Kd.R_alloc | apply Kd.R_drewN | apply Kd.R_drew)); exact HO332.out) hb); have n2_ := Aside0.mk (Kd.R_lower (Kd.R_new' ho0 (Kd.R_lt (by (with_reducible repeat (first | apply Kd.R_alloc | apply Kd.R_drewN | apply Kd.R_drew)); exact HO_9.out))) (below_size (by repeat (first | (with_reducible first | exact HB.out | apply below_alloc | apply pw_below_drewN | apply below_drew1 | refine below_set ?_ GE316.out) | exact HB.out)))); have n3_ := Aside0.mk (blk_below (g := gb316) (o := .cells #[.slice A2_0 l2_0.length c2_0, .slice A2_1 l2_1.length c2_1, .int .i64 a2_2] 31 (0, 0)) (by (with_reducible repeat (first | refine blk_drewN ?_ _ | refine blk_drew ?_ | refine blk_alloc ?_ _)); exact BK316.out) hb); have n4_ := Aside0.mk (below_step (by repeat (first | (with_reducible first | exact HB.out | apply below_alloc | apply pw_below_drewN | apply below_drew1 | refine below_set ?_ GE316.out) | exact HB.out)) hb); clear HO_9; clear HO332; clear BK316; clear HB; have HO_9 := n0_; have HO332 := n1_; have HO337 := n2_; have BK316 := n3_; have HB := n4_; clear n0_ n1_ n2_ n3_ n4_; (try clear hb); (try clear hb2); (try clear hk); (try clear hi); (try clear ho0); obtain ⟨Ao87, co87, eo87⟩ := Kd.R_slice HO_9.out; subst eo87))
                     go_ret
                     exact ⟨by first | rfl | (simp [errW_none, errW_some] <;> rfl) | (simp only [← hji46]; first | rfl | (simp [errW_none, errW_some] <;> rfl)) | (simp [*, errW_none, errW_some] <;> rfl), by repeat (first | (with_reducible first | exact HB.out | apply below_alloc | apply pw_below_drewN | apply below_drew1 | refine below_set ?_ GE316.out) | exact HB.out)⟩
                   ·rw [if_neg c51] at H
                    have c51b0 : (t338 == 0) = false := beq_eq_false_iff_ne.mpr c51
                    have c51b1 : (t338 != 0) = true := bne_iff_ne.mpr c51
                    obtain rfl := Option.some.inj H
                    have hcz88_0 : wc.cell? ⟨gb316, 0, none⟩ = some (.slice A2_0 l2_0.length c2_0) := (blk_cell BK316.out 0).trans rfl
                    have hcz88_1 : wc.cell? ⟨gb316, 1, none⟩ = some (.slice A2_1 l2_1.length c2_1) := (blk_cell BK316.out 1).trans rfl
                    have hcz88_2 : wc.cell? ⟨gb316, 2, none⟩ = some (.int .i64 a2_2) := (blk_cell BK316.out 2).trans rfl
                    have hfz88_0 := blk_frozen BK316.out 0
                    have hfz88_1 := blk_frozen BK316.out 1
                    have hfz88_2 := blk_frozen BK316.out 2
                    go_wp2_with (first | ((with_reducible refine gate_builtin (b := .append) (xs := #[.tmp 115, .tmp 117]) rfl ?_); (try (refine gate_guard (by rfl) ?_; dsimp only)); at_builtin; refine Kd.R_append_rows (Kd.int .i64) (w0 := w) w.heap.size rfl (.tmp 115) (.tmp 117) 22 3 (.int .i64 0) 8 rfl Try.underlying22 info3 rfl (by decide) (by omega) (.slice none 0 0) ([] : List Int) l2_1 _ _ _ (fun _ => True) (fun _ => False) rfl rfl ?aO ?aR (fun _ _ h => h) (fun _ h => h.elim) ?aF ?aB ?aS ?aL ?_; (case aR => repeat (first | exact (Kd.C_below HR2_1.out HB.out) | (with_reducible refine Kd.C_alloc ?_ _) | (with_reducible refine Kd.C_drewN ?_ _) | (with_reducible refine Kd.C_drew ?_))); (case aB => exact (by repeat (first | (with_reducible first | exact HB.out | apply below_alloc | apply pw_below_drewN | apply below_drew1 | refine below_set ?_ GE316.out) | exact HB.out))); (case aF => exact (fun _ _ => trivial)); (case aO => exact ((Kd.R_nil _ _ _ _ (fun _ => True)))); (case aS => exact (below_size (by repeat (first | (with_reducible first | exact HB.out | apply below_alloc | apply pw_below_drewN | apply below_drew1 | refine below_set ?_ GE316.out) | exact HB.out)))); (case aL => have := LMc45.out; omega); intro v331 w89 ho hb hg hat; rw [← Ny330.out] at ho; have n0_ := Aside0.mk (Kd.R_grown (by (with_reducible repeat (first | apply Kd.R_alloc | apply Kd.R_drewN | apply Kd.R_drew)); exact HO_9.out) hg (fun _ _ => by simp [Value.ownBlock])); have n1_ := Aside0.mk (blk_grown (g := gb316) (o := .cells #[.slice A2_0 l2_0.length c2_0, .slice A2_1 l2_1.length c2_1, .int .i64 a2_2] 31 (0, 0)) (by (with_reducible repeat (first | refine blk_drewN ?_ _ | refine blk_drew ?_ | refine blk_alloc ?_ _)); exact BK316.out) hg (by simp [Value.ownBlock])); have n2_ := Aside0.mk (hb); have n3_ := Aside0.mk (ho); clear HO_9; clear BK316; clear HB; have HO_9 := n0_; have BK316 := n1_; have HB := n2_; have HO332 := n3_; clear n0_ n1_ n2_ n3_; clear ho hb hg hat; obtain ⟨Ao90, co90, eo90⟩ := Kd.R_slice HO332.out; subst eo90; have p333 : 0 ≤ ((ji46) : Int) := of_decide_eq_true (by first | (with_reducible assumption) | assumption); have q333 : (ji46) < (y330.length : Int) := of_decide_eq_true (by first | (with_reducible assumption) | assumption); obtain ⟨ad333, e333, hx333_0⟩ := Kd.at_int (Kd.R_reads' HO332.out).2.2 (ji46) p333 q333; cases e333; replace p333 := eq_true p333; replace q333 := eq_true q333; have p49 : 0 ≤ ((ji46) : Int) := of_decide_eq_true (by first | (with_reducible assumption) | assumption); have q49 : ((ji46) : Int) < ((y330.length : Int) : Int) := of_decide_eq_true (by first | (with_reducible assumption) | assumption); obtain ⟨go49, co49, eo49, gb49, gl49, cl49, HG49⟩ := Kd.R_form HO332.out (by omega); (first | cases eo49 | (injection eo49 with ea_ en_ ec_; (first | subst ea_ | (injection ea_ with ea_; subst ea_)); subst ec_; clear en_)); have GB49 := Aside0.mk gb49; have GG49 := Aside0.mk HG49; clear gb49 gl49 HG49; (first | simp only [add_plain] at hx333_0 | skip); obtain ⟨hx49_0, hf49_0⟩ := Kd.R_celln 0 HO332.out ((ji46) : Int) p49 q49; replace p49 := eq_true p49; replace q49 := eq_true q49; obtain ⟨hy91_, hz91_⟩ := Kd.R_celln 0 HO332.out ((ji46) : Int) (of_decide_eq_true (by first | (with_reducible assumption) | assumption)) (of_decide_eq_true (by first | (with_reducible assumption) | assumption)); have HP91 := Kd.R_putg HO332.out ((ji46) : Int) (wrap64 ((rd y330 (ji46)) - 1))) | ((with_reducible refine gate_store (t := 3) (p := 126) rfl ?_); refine store_event (t := 3) (p := 126) (v := ?vo_w92) (w1 := (w89.setCell ⟨go49, ((ji46) : Int).toNat, none⟩ (.int .i64 (wrap64 ((rd y330 (ji46)) - 1))))) ?hg ?ho ?hn ?hr ?_; (case ho => rfl); (case hg => rfl); (case hn => rfl); (case hr => first | (go_simp; done) | (go_simp; rfl)); intro w92 hw; have hg : w89.grownBy w92 (some go49) := (by rw [hw]; exact HP91.2); have hp_ : Kd.R (Kd.int .i64) 3 w92 w.heap.size (fun _ => True) (.slice (some ⟨go49, 0, none⟩) y330.length co90) y334 := (by rw [hw, Ny334.out]; exact HP91.1); clear HP91; have n0_ := Aside0.mk (Kd.R_over' (v := (.slice (some ⟨go49, 0, none⟩) y330.length co90)) (by (with_reducible repeat (first | apply Kd.R_alloc | apply Kd.R_drewN | apply Kd.R_drew)); exact HO_9.out) (Kd.R_typed HO332.out) (by decide) hg); have n1_ := Aside0.mk (blk_grown (g := gb316) (o := .cells #[.slice A2_0 l2_0.length c2_0, .slice A2_1 l2_1.length c2_1, .int .i64 a2_2] 31 (0, 0)) (by (with_reducible repeat (first | refine blk_drewN ?_ _ | refine blk_drew ?_ | refine blk_alloc ?_ _)); exact BK316.out) hg (Kd.R_ne HO332.out BK316.out (by decide))); have n2_ := Aside0.mk (hp_); have n3_ := Aside0.mk ((by rw [hw]; exact below_set (HB.out) GB49.out : Below w.heap.size w w92)); clear HO_9; clear BK316; clear HO332; clear HB; have HO_9 := n0_; have BK316 := n1_; have HO332 := n2_; have HB := n3_; clear n0_ n1_ n2_ n3_; clear hg hw hp_; have hcz93_0 : w92.cell? ⟨gb316, 0, none⟩ = some (.slice A2_0 l2_0.length c2_0) := (blk_cell BK316.out 0).trans rfl; have hcz93_1 : w92.cell? ⟨gb316, 1, none⟩ = some (.slice A2_1 l2_1.length c2_1) := (blk_cell BK316.out 1).trans rfl; have hcz93_2 : w92.cell? ⟨gb316, 2, none⟩ = some (.int .i64 a2_2) := (blk_cell BK316.out 2).trans rfl; have hfz93_0 := blk_frozen BK316.out 0; have hfz93_1 := blk_frozen BK316.out 1; have hfz93_2 := blk_frozen BK316.out 2) | ((with_reducible refine gate_callee (f := 15) rfl ?_); refine goesL_ (some 134) rfl rfl Try.func15 (by kernel_rfl) rfl #[.slice A0 l0.length c0, .int .i64 a1, .agg #[.slice A2_0 l2_0.length c2_0, .slice (some ⟨go49, 0, none⟩) y334.length co90, .int .i64 0]] rfl (by (try simp only [List.map_toArray, List.map_cons, List.map_nil]); first | done | (rw [show y334.length = y330.length from (Kd.R_reads' HO332.out).1.symm] <;> rfl) | rfl | (simp only [List.length_drop, List.length_take]; rfl)) ?_; (with_reducible refine (winder_Jobs.calls kj33 _ _ l0 a1 _ _ l2_0 _ _ y334 0 t335 t338 _ ?side1 ?side2 ?side3 ?side4 ?side5 ?side6 A50.out).mono ?_); (case side1 => repeat (first | exact (Kd.C_below HR0.out HB.out) | (with_reducible refine Kd.C_alloc ?_ _) | (with_reducible refine Kd.C_drewN ?_ _) | (with_reducible refine Kd.C_drew ?_))); (case side2 => exact HC0.out); (case side3 => repeat (first | exact (Kd.C_below HR2_0.out HB.out) | (with_reducible refine Kd.C_alloc ?_ _) | (with_reducible refine Kd.C_drewN ?_ _) | (with_reducible refine Kd.C_drew ?_))); (case side4 => exact HC2_0.out); (case side5 => repeat (first | exact (Kd.R_reads' HO332.out).2.2 | (with_reducible refine Kd.C_alloc ?_ _) | (with_reducible refine Kd.C_drewN ?_ _) | (with_reducible refine Kd.C_drew ?_))); (case side6 => rw [show y334.length = y330.length from (Kd.R_reads' HO332.out).1.symm]; exact (Kd.R_reads' HO332.out).2.1); rintro e w94 ⟨v336, rfl, ho0, hb⟩; refine ⟨_, rfl, ?_⟩; have n0_ := Aside0.mk (Kd.R_elder' (by (with_reducible repeat (first | apply Kd.R_alloc | apply Kd.R_drewN | apply Kd.R_drew)); exact HO_9.out) (Kd.R_base ho0) hb); have n1_ := Aside0.mk (Kd.R_below (by (with_reducible repeat (first | apply Kd.R_alloc | apply Kd.R_drewN | apply Kd.R_drew)); exact HO332.out) hb); have n2_ := Aside0.mk (Kd.R_lower (Kd.R_new' ho0 (Kd.R_lt (by (with_reducible repeat (first | apply Kd.R_alloc | apply Kd.R_drewN | apply Kd.R_drew)); exact HO_9.out))) (below_size (by repeat (first | (with_reducible first | exact HB.out | apply below_alloc | apply pw_below_drewN | apply below_drew1 | refine below_set ?_ GE316.out) | exact HB.out)))); have n3_ := Aside0.mk (blk_below (g := gb316) (o := .cells #[.slice A2_0 l2_0.length c2_0, .slice A2_1 l2_1.length c2_1, .int .i64 a2_2] 31 (0, 0)) (by (with_reducible repeat (first | refine blk_drewN ?_ _ | refine blk_drew ?_ | refine blk_alloc ?_ _)); exact BK316.out) hb); have n4_ := Aside0.mk (below_step (by repeat (first | (with_reducible first | exact HB.out | apply below_alloc | apply pw_below_drewN | apply below_drew1 | refine below_set ?_ GE316.out) | exact HB.out)) hb); clear HO_9; clear HO332; clear BK316; clear HB; have HO_9 := n0_; have HO332 := n1_; have HO337 := n2_; have BK316 := n3_; have HB := n4_; clear n0_ n1_ n2_ n3_ n4_; (try clear hb); (try clear hb2); (try clear hk); (try clear hi); (try clear ho0)))
                    go_ret
                    exact ⟨by first | rfl | (simp [errW_none, errW_some] <;> rfl) | (simp only [← hji46]; first | rfl | (simp [errW_none, errW_some] <;> rfl)) | (simp [*, errW_none, errW_some] <;> rfl), by repeat (first | (with_reducible first | exact HB.out | apply below_alloc | apply pw_below_drewN | apply below_drew1 | refine below_set ?_ GE316.out) | exact HB.out)⟩
                  ·rw [if_neg c48] at H
                   exact absurd H (by simp)
                 ·rw [if_neg c47] at H
                  exact absurd H (by simp)
                ·rw [if_neg c45] at H
                 exact absurd H (by simp)

/-- THE ONE PURE STATEMENT of papermilllaw50_WinderMore. -/
def papermilllaw50_WinderMore.Pure : Prop := ∀ (l0 : List Int) (a1 : Int) (l2_0 : List (List Int)) (l2_1 : List Int) (a2_2 : Int), (l0.length ≤ maxLen ∧ ∀ z33_ ∈ l0, (Lit.int .i64 z33_).wf = true) → (Lit.int .i64 a1).wf = true → (l2_0.length ≤ maxLen ∧ ∀ z34_ ∈ l2_0, (z34_.length ≤ maxLen ∧ ∀ z35_ ∈ z34_, (Lit.int .i64 z35_).wf = true)) → (l2_1.length ≤ maxLen ∧ ∀ z36_ ∈ l2_1, (Lit.int .i64 z36_).wf = true) → (Lit.int .i64 a2_2).wf = true → ∃ k, papermilllaw50_WinderMore.f k l0 a1 l2_0 l2_1 a2_2 = some true
theorem papermilllaw50_WinderMore.walk (P : papermilllaw50_WinderMore.Pure) (A0 : Option Addr) (c0 : Nat) (l0 : List Int) (a1 : Int) (A2_0 : Option Addr) (c2_0 : Nat) (l2_0 : List (List Int)) (A2_1 : Option Addr) (c2_1 : Nat) (l2_1 : List Int) (a2_2 : Int) (w : World) (hr0 : Kd.C (Kd.int .i64) w A0 l0.length l0) (hc0 : l0.length ≤ c0) (hr2_0 : Kd.C (Kd.slice 3 (Kd.int .i64)) w A2_0 l2_0.length l2_0) (hc2_0 : l2_0.length ≤ c2_0) (hr2_1 : Kd.C (Kd.int .i64) w A2_1 l2_1.length l2_1) (hc2_1 : l2_1.length ≤ c2_1) (q0 : (l0.length ≤ maxLen ∧ ∀ z37_ ∈ l0, (Lit.int .i64 z37_).wf = true)) (q1 : (Lit.int .i64 a1).wf = true) (q2_0 : (l2_0.length ≤ maxLen ∧ ∀ z38_ ∈ l2_0, (z38_.length ≤ maxLen ∧ ∀ z39_ ∈ z38_, (Lit.int .i64 z39_).wf = true))) (q2_1 : (l2_1.length ≤ maxLen ∧ ∀ z40_ ∈ l2_1, (Lit.int .i64 z40_).wf = true)) (q2_2 : (Lit.int .i64 a2_2).wf = true) :
    Calls Try.prog 9 #[.slice A0 l0.length c0, .int .i64 a1, .agg #[.slice A2_0 l2_0.length c2_0, .slice A2_1 l2_1.length c2_1, .int .i64 a2_2]] w fun e w' => e = .returned (.bool true) ∧ Below w.heap.size w w' := by
  obtain ⟨k, h⟩ := P l0 a1 l2_0 l2_1 a2_2 q0 q1 q2_0 q2_1 q2_2
  refine (papermilllaw50_WinderMore.calls k _ _ l0 a1 _ _ l2_0 _ _ l2_1 a2_2 true w hr0 hc0 hr2_0 hc2_0 hr2_1 hc2_1 h).mono ?_
  rintro e w' ⟨rfl, hd⟩
  exact ⟨rfl, hd⟩

end Go.Proofs.Ythdbnoeaiafniaa.PX
