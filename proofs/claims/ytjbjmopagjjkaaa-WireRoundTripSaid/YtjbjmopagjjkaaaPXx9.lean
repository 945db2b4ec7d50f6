-- Written by a program of this session (hyb.py), which runs the print over the translation with contracts of its own added; it is not the print itself. Lean checks it.
import Derived.Test.YtjbjmopagjjkaaaPXx0
import Derived.Test.YtjbjmopagjjkaaaPXx1
import Derived.Test.YtjbjmopagjjkaaaPXx2
import Derived.Test.YtjbjmopagjjkaaaPXx4
import Derived.Test.YtjbjmopagjjkaaaPXx6
import Derived.Test.YtjbjmopagjjkaaaPXx7
namespace Go.Proofs.Ytjbjmopagjjkaaa.PX
open Go.RowKit Go.Proofs.YtjbjmopagjjkaaaW.PrintWords Go.Proofs.YtjbjmopagjjkaaaW.PrintLast Go.Proofs.YtjbjmopagjjkaaaW.PrintMore
attribute [local go_sem] max2_int min2_int max_two min_two max_three min_three max_four min_four   -- for this text's walks alone
set_option linter.unusedVariables false
set_option linter.unusedSimpArgs false

/-! ### papermilllaw08_WireRoundTrip: function 8 -/
mutual
def papermilllaw08_WireRoundTrip.j0 : Nat → Int → ByteArray → List Int → List Int → Bool → Option (Bool)
  | 0, _, _, _, _, _ => none
  | k + 1, x0, x1, x2, x3, x33 => if x33 = true then ((papermilllaw08_awake.f k).bind fun t331 => (some t331)) else ((wire_PutInt.f ([] : List Int) x0).bind fun t332 => ((wire_PutText.f ([] : List Int) x1).bind fun t335 => ((wire_PutList.f k ([] : List Int) x2).bind fun t338 => (if (t332.length : Int) > 10 then (papermilllaw08_WireRoundTrip.j1 k x0 x1 x2 x3 t332 t335 t338 true) else (if (t335.length : Int) > 310 then (papermilllaw08_WireRoundTrip.j1 k x0 x1 x2 x3 t332 t335 t338 true) else (papermilllaw08_WireRoundTrip.j1 k x0 x1 x2 x3 t332 t335 t338 (decide ((t338.length : Int) > 3010))))))))
def papermilllaw08_WireRoundTrip.j1 : Nat → Int → ByteArray → List Int → List Int → List Int → List Int → List Int → Bool → Option (Bool)
  | 0, _, _, _, _, _, _, _, _ => none
  | k + 1, x0, x1, x2, x3, x9, x10, x11, x53 => if x53 = true then (some false) else ((some (([] : List Int) : List Int)).bind fun y341 => (if y341.length + x9.length < 140737488355328 then ((some (y341 ++ x9 : List Int)).bind fun y344 => (if y344.length + x3.length < 140737488355328 then ((wire_TakeInt.f k (y344 ++ x3)).bind fun bt350 => ((some (([] : List Int) : List Int)).bind fun y353 => (if y353.length + x10.length < 140737488355328 then ((some (y353 ++ x10 : List Int)).bind fun y356 => (if y356.length + x3.length < 140737488355328 then ((wire_TakeText.f k (y356 ++ x3) (x1.size : Int)).bind fun bt362 => ((some (([] : List Int) : List Int)).bind fun y365 => (if y365.length + x11.length < 140737488355328 then ((some (y365 ++ x11 : List Int)).bind fun y368 => (if y368.length + x3.length < 140737488355328 then ((wire_TakeList.f k (y368 ++ x3) (x2.length : Int)).bind fun bt374 => (if bt350.2.2 = 0 then (if bt362.2.2 = 0 then (if bt374.2.2 = 0 then (if bt350.2.1 = (x9.length : Int) then (if bt362.2.1 = (x10.length : Int) then (papermilllaw08_WireRoundTrip.j2 k x0 x1 x2 bt350.1 bt362.1 bt374.1 (bt374.2.1 != (x11.length : Int))) else (papermilllaw08_WireRoundTrip.j2 k x0 x1 x2 bt350.1 bt362.1 bt374.1 true)) else (papermilllaw08_WireRoundTrip.j2 k x0 x1 x2 bt350.1 bt362.1 bt374.1 true)) else (papermilllaw08_WireRoundTrip.j2 k x0 x1 x2 bt350.1 bt362.1 bt374.1 true)) else (papermilllaw08_WireRoundTrip.j2 k x0 x1 x2 bt350.1 bt362.1 bt374.1 true)) else (papermilllaw08_WireRoundTrip.j2 k x0 x1 x2 bt350.1 bt362.1 bt374.1 true))) else (none))) else (none)))) else (none))) else (none)))) else (none))) else (none)))
def papermilllaw08_WireRoundTrip.j2 : Nat → Int → ByteArray → List Int → Int → ByteArray → List Int → Bool → Option (Bool)
  | 0, _, _, _, _, _, _, _ => none
  | k + 1, x0, x1, x2, x12, x15, x18, x115 => if x115 = true then (some false) else (if x12 = x0 then (if x15.toList = x1.toList then ((papermillref08_Ints.f k x18 x2).bind fun t379 => (if t379 = true then ((papermilllaw08_awake.f k).bind fun t380 => (some t380)) else (some false))) else (some false)) else (some false))
end
def papermilllaw08_WireRoundTrip.f (k : Nat) (a0 : Int) (a1 : ByteArray) (l2 : List Int) (l3 : List Int) : Option (Bool) := if (a1.size : Int) > 300 then (papermilllaw08_WireRoundTrip.j0 k a0 a1 l2 l3 true) else (if (l2.length : Int) > 300 then (papermilllaw08_WireRoundTrip.j0 k a0 a1 l2 l3 true) else (papermilllaw08_WireRoundTrip.j0 k a0 a1 l2 l3 (decide ((l3.length : Int) > 300))))
theorem papermilllaw08_WireRoundTrip.mono_l : ∀ k, (∀ y0 y1 y2 y3 y4, LeO (papermilllaw08_WireRoundTrip.j0 k y0 y1 y2 y3 y4) (papermilllaw08_WireRoundTrip.j0 (k + 1) y0 y1 y2 y3 y4)) ∧ (∀ y0 y1 y2 y3 y4 y5 y6 y7, LeO (papermilllaw08_WireRoundTrip.j1 k y0 y1 y2 y3 y4 y5 y6 y7) (papermilllaw08_WireRoundTrip.j1 (k + 1) y0 y1 y2 y3 y4 y5 y6 y7)) ∧ (∀ y0 y1 y2 y3 y4 y5 y6, LeO (papermilllaw08_WireRoundTrip.j2 k y0 y1 y2 y3 y4 y5 y6) (papermilllaw08_WireRoundTrip.j2 (k + 1) y0 y1 y2 y3 y4 y5 y6))
  | 0 => ⟨fun _ _ _ _ _ r h => by simp [papermilllaw08_WireRoundTrip.j0] at h, fun _ _ _ _ _ _ _ _ r h => by simp [papermilllaw08_WireRoundTrip.j1] at h, fun _ _ _ _ _ _ _ r h => by simp [papermilllaw08_WireRoundTrip.j2] at h⟩
  | k + 1 => by
    obtain ⟨ih0, ih1, ih2⟩ := papermilllaw08_WireRoundTrip.mono_l k
    refine ⟨?_, ?_, ?_⟩
    · intro y0 y1 y2 y3 y4
      unfold papermilllaw08_WireRoundTrip.j0
      repeat' first
      | (with_reducible exact ih0 _ _ _ _ _)
      | (with_reducible exact ih1 _ _ _ _ _ _ _ _)
      | (with_reducible exact ih2 _ _ _ _ _ _ _)
      | (with_reducible exact papermilllaw08_awake.mono _)
      | (with_reducible exact papermillref08_Ints.mono _ _ _)
      | (with_reducible exact wire_PutList.mono _ _ _)
      | (with_reducible exact wire_TakeInt.mono _ _)
      | (with_reducible exact wire_TakeList.mono _ _ _)
      | (with_reducible exact wire_TakeText.mono _ _ _)
      | (with_reducible exact LeO.refl _)
      | (with_reducible exact LeO.none _)
      | (with_reducible refine LeO.ite ?_ ?_)
      | (with_reducible refine LeO.bind ?_ (fun _ => ?_))
      | exact ih0 _ _ _ _ _
      | exact ih1 _ _ _ _ _ _ _ _
      | exact ih2 _ _ _ _ _ _ _
      | exact papermilllaw08_awake.mono _
      | exact papermillref08_Ints.mono _ _ _
      | exact wire_PutList.mono _ _ _
      | exact wire_TakeInt.mono _ _
      | exact wire_TakeList.mono _ _ _
      | exact wire_TakeText.mono _ _ _
      | exact LeO.none _
      | refine LeO.ite ?_ ?_
      | refine LeO.bind ?_ (fun _ => ?_)
    · intro y0 y1 y2 y3 y4 y5 y6 y7
      unfold papermilllaw08_WireRoundTrip.j1
      repeat' first
      | (with_reducible exact ih0 _ _ _ _ _)
      | (with_reducible exact ih1 _ _ _ _ _ _ _ _)
      | (with_reducible exact ih2 _ _ _ _ _ _ _)
      | (with_reducible exact papermilllaw08_awake.mono _)
      | (with_reducible exact papermillref08_Ints.mono _ _ _)
      | (with_reducible exact wire_PutList.mono _ _ _)
      | (with_reducible exact wire_TakeInt.mono _ _)
      | (with_reducible exact wire_TakeList.mono _ _ _)
      | (with_reducible exact wire_TakeText.mono _ _ _)
      | (with_reducible exact LeO.refl _)
      | (with_reducible exact LeO.none _)
      | (with_reducible refine LeO.ite ?_ ?_)
      | (with_reducible refine LeO.bind ?_ (fun _ => ?_))
      | exact ih0 _ _ _ _ _
      | exact ih1 _ _ _ _ _ _ _ _
      | exact ih2 _ _ _ _ _ _ _
      | exact papermilllaw08_awake.mono _
      | exact papermillref08_Ints.mono _ _ _
      | exact wire_PutList.mono _ _ _
      | exact wire_TakeInt.mono _ _
      | exact wire_TakeList.mono _ _ _
      | exact wire_TakeText.mono _ _ _
      | exact LeO.none _
      | refine LeO.ite ?_ ?_
      | refine LeO.bind ?_ (fun _ => ?_)
    · intro y0 y1 y2 y3 y4 y5 y6
      unfold papermilllaw08_WireRoundTrip.j2
      repeat' first
      | (with_reducible exact ih0 _ _ _ _ _)
      | (with_reducible exact ih1 _ _ _ _ _ _ _ _)
      | (with_reducible exact ih2 _ _ _ _ _ _ _)
      | (with_reducible exact papermilllaw08_awake.mono _)
      | (with_reducible exact papermillref08_Ints.mono _ _ _)
      | (with_reducible exact wire_PutList.mono _ _ _)
      | (with_reducible exact wire_TakeInt.mono _ _)
      | (with_reducible exact wire_TakeList.mono _ _ _)
      | (with_reducible exact wire_TakeText.mono _ _ _)
      | (with_reducible exact LeO.refl _)
      | (with_reducible exact LeO.none _)
      | (with_reducible refine LeO.ite ?_ ?_)
      | (with_reducible refine LeO.bind ?_ (fun _ => ?_))
      | exact ih0 _ _ _ _ _
      | exact ih1 _ _ _ _ _ _ _ _
      | exact ih2 _ _ _ _ _ _ _
      | exact papermilllaw08_awake.mono _
      | exact papermillref08_Ints.mono _ _ _
      | exact wire_PutList.mono _ _ _
      | exact wire_TakeInt.mono _ _
      | exact wire_TakeList.mono _ _ _
      | exact wire_TakeText.mono _ _ _
      | exact LeO.none _
      | refine LeO.ite ?_ ?_
      | refine LeO.bind ?_ (fun _ => ?_)
theorem papermilllaw08_WireRoundTrip.mono : ∀ a0 a1 a2 a3 k, LeO (papermilllaw08_WireRoundTrip.f k a0 a1 a2 a3) (papermilllaw08_WireRoundTrip.f (k + 1) a0 a1 a2 a3) := by
  intro a0 a1 a2 a3 k
  obtain ⟨ih0, ih1, ih2⟩ := papermilllaw08_WireRoundTrip.mono_l k
  unfold papermilllaw08_WireRoundTrip.f
  repeat' first
      | (with_reducible exact ih0 _ _ _ _ _)
      | (with_reducible exact ih1 _ _ _ _ _ _ _ _)
      | (with_reducible exact ih2 _ _ _ _ _ _ _)
      | (with_reducible exact papermilllaw08_awake.mono _)
      | (with_reducible exact papermillref08_Ints.mono _ _ _)
      | (with_reducible exact wire_PutList.mono _ _ _)
      | (with_reducible exact wire_TakeInt.mono _ _)
      | (with_reducible exact wire_TakeList.mono _ _ _)
      | (with_reducible exact wire_TakeText.mono _ _ _)
      | (with_reducible exact LeO.refl _)
      | (with_reducible exact LeO.none _)
      | (with_reducible refine LeO.ite ?_ ?_)
      | (with_reducible refine LeO.bind ?_ (fun _ => ?_))
      | exact ih0 _ _ _ _ _
      | exact ih1 _ _ _ _ _ _ _ _
      | exact ih2 _ _ _ _ _ _ _
      | exact papermilllaw08_awake.mono _
      | exact papermillref08_Ints.mono _ _ _
      | exact wire_PutList.mono _ _ _
      | exact wire_TakeInt.mono _ _
      | exact wire_TakeList.mono _ _ _
      | exact wire_TakeText.mono _ _ _
      | exact LeO.none _
      | refine LeO.ite ?_ ?_
      | refine LeO.bind ?_ (fun _ => ?_)
set_option maxHeartbeats 8000000 in
set_option maxRecDepth 100000 in
theorem papermilllaw08_WireRoundTrip.calls (k : Nat) (a0 : Int) (a1 : ByteArray) (A2 : Option Addr) (c2 : Nat) (l2 : List Int) (A3 : Option Addr) (c3 : Nat) (l3 : List Int) (r : Bool) (w : World) (hr2 : Kd.C (Kd.int .i64) w A2 l2.length l2) (hc2 : l2.length ≤ c2) (hr3 : Kd.C (Kd.int .u8) w A3 l3.length l3) (hc3 : l3.length ≤ c3) (h : papermilllaw08_WireRoundTrip.f k a0 a1 l2 l3 = some r) :
    Calls Try.prog 8 #[.int .i64 a0, .string a1, .slice A2 l2.length c2, .slice A3 l3.length c3] w fun e w' => e = .returned (.bool r) ∧ Below w.heap.size w w' := by
  have HR2 := Aside0.mk hr2
  have HC2 := Aside0.mk hc2
  clear hr2 hc2
  have HR3 := Aside0.mk hr3
  have HC3 := Aside0.mk hc3
  clear hr3 hc3
  have HB := Aside0.mk (Below.refl w.heap.size w)
  have H : (if (a1.size : Int) > 300 then (papermilllaw08_WireRoundTrip.j0 k a0 a1 l2 l3 true) else (if (l2.length : Int) > 300 then (papermilllaw08_WireRoundTrip.j0 k a0 a1 l2 l3 true) else (papermilllaw08_WireRoundTrip.j0 k a0 a1 l2 l3 (decide ((l3.length : Int) > 300))))) = some r := h
  clear h
  have HC5 := Aside0.mk H
  clear H
  go_enter Try.func8, Try.ntmps8
  go_upto_region 1 with (fail)
  go_cut [33] (fun v33 wc => ∃ (kq : Nat) (x33_4 : Bool), v33 = .bool x33_4 ∧ Aside0 (papermilllaw08_WireRoundTrip.j0 kq a0 a1 l2 l3 x33_4 = some r) ∧ Aside0 (kq ≤ k) ∧ Aside0 (Below w.heap.size w wc))
  case first =>
   have H := HC5.out
   clear HC5
   by_cases c6 : (a1.size : Int) > 300
   ·rw [if_pos c6] at H
    have c6b0 : decide (300 < (a1.size : Int)) = true := decide_eq_true c6
    have c6b1 : decide (300 < a1.size) = true := decide_eq_true (by omega)
    clear c6
    (first | rw [c6b0] | (simp only [i64_w, i32_w]; rw [c6b0]) | skip)
    have H' := Aside0.mk H
    clear H
    go_wp2
    go_meet
    case rel => exact ⟨_, (true), (by first | rfl | (simp; done) | (simp [*]; done)), H', ⟨by first | omega | exact Nat.le_refl _⟩, ⟨by repeat (first | (with_reducible first | exact HB.out | apply below_alloc | apply pw_below_drewN | apply below_drew1) | exact HB.out)⟩⟩
   ·rw [if_neg c6] at H
    have c6b0 : decide (300 < (a1.size : Int)) = false := decide_eq_false c6
    have c6b1 : decide (300 < a1.size) = false := decide_eq_false (by omega)
    clear c6
    (first | rw [c6b0] | (simp only [i64_w, i32_w]; rw [c6b0]) | skip)
    by_cases c7 : (l2.length : Int) > 300
    ·rw [if_pos c7] at H
     have c7b0 : decide (300 < (l2.length : Int)) = true := decide_eq_true c7
     have c7b1 : decide (300 < l2.length) = true := decide_eq_true (by omega)
     clear c7
     have H' := Aside0.mk H
     clear H
     go_wp2
     go_meet
     case rel => exact ⟨_, (true), (by first | rfl | (simp; done) | (simp [*]; done)), H', ⟨by first | omega | exact Nat.le_refl _⟩, ⟨by repeat (first | (with_reducible first | exact HB.out | apply below_alloc | apply pw_below_drewN | apply below_drew1) | exact HB.out)⟩⟩
    ·rw [if_neg c7] at H
     have c7b0 : decide (300 < (l2.length : Int)) = false := decide_eq_false c7
     have c7b1 : decide (300 < l2.length) = false := decide_eq_false (by omega)
     clear c7
     have H' := Aside0.mk H
     clear H
     go_wp2
     go_meet
     case rel => exact ⟨_, (decide ((l3.length : Int) > 300)), (by first | rfl | (simp; done) | (simp [*]; done)), H', ⟨by first | omega | exact Nat.le_refl _⟩, ⟨by repeat (first | (with_reducible first | exact HB.out | apply below_alloc | apply pw_below_drewN | apply below_drew1) | exact HB.out)⟩⟩
  case rest =>
   clear HC5
   try clear c2
   try clear p2
   try clear c3
   try clear c6
   try clear c6b0
   try clear c6b1
   try clear c7
   try clear c7b0
   try clear c7b1
   obtain ⟨kq, x33_4, rfl, HA, HJ4, HB⟩ := hcut
   cases kq with
   | zero => exact absurd HA.out (by simp [papermilllaw08_WireRoundTrip.j0])
   | succ kj4 =>
    have H := HA.out
    clear HA
    simp only [papermilllaw08_WireRoundTrip.j0] at H
    by_cases c8 : x33_4 = true
    ·subst c8
     have H1 : ((papermilllaw08_awake.f kj4).bind fun t331 => (some t331)) = some r := by rw [if_pos rfl] at H; exact H
     clear H
     have H := H1
     clear H1
     replace H := Option.bind_eq_some_iff.mp H
     obtain ⟨t331, A90, H⟩ := H
     replace H : (some t331) = some r := H
     have A9 := Aside0.mk A90
     clear A90
     obtain rfl := Option.some.inj H
     go_wp2_with (first | ((with_reducible refine gate_callee (f := 10) rfl ?_); refine goesL_ (some 34) rfl rfl Try.func10 (by kernel_rfl) rfl #[] rfl (by (try simp only [List.map_toArray, List.map_cons, List.map_nil]); first | done | rfl | (simp only [List.length_drop, List.length_take]; rfl)) ?_; (with_reducible refine (papermilllaw08_awake.calls kj4  t331 _ A9.out).mono ?_); rintro e w10 ⟨rfl, hb⟩; refine ⟨_, rfl, ?_⟩; have n0_ := Aside0.mk (below_step (by repeat (first | (with_reducible first | exact HB.out | apply below_alloc | apply pw_below_drewN | apply below_drew1) | exact HB.out)) hb); clear HB; have HB := n0_; clear n0_; (try clear hb); (try clear hb2); (try clear hk); (try clear hi)))
     go_ret
     exact ⟨by first | rfl | (simp [errW_none, errW_some] <;> rfl) | (simp [*, errW_none, errW_some] <;> rfl), by repeat (first | (with_reducible first | exact HB.out | apply below_alloc | apply pw_below_drewN | apply below_drew1) | exact HB.out)⟩
    ·replace c8 := Bool.eq_false_iff.mpr c8
     subst c8
     have H1 : ((wire_PutInt.f ([] : List Int) a0).bind fun t332 => ((wire_PutText.f ([] : List Int) a1).bind fun t335 => ((wire_PutList.f kj4 ([] : List Int) l2).bind fun t338 => (if (t332.length : Int) > 10 then (papermilllaw08_WireRoundTrip.j1 kj4 a0 a1 l2 l3 t332 t335 t338 true) else (if (t335.length : Int) > 310 then (papermilllaw08_WireRoundTrip.j1 kj4 a0 a1 l2 l3 t332 t335 t338 true) else (papermilllaw08_WireRoundTrip.j1 kj4 a0 a1 l2 l3 t332 t335 t338 (decide ((t338.length : Int) > 3010)))))))) = some r := by rw [if_neg (show ¬ (false = true) by decide)] at H; exact H
     clear H
     have H := H1
     clear H1
     replace H := Option.bind_eq_some_iff.mp H
     obtain ⟨t332, A110, H⟩ := H
     replace H : ((wire_PutText.f ([] : List Int) a1).bind fun t335 => ((wire_PutList.f kj4 ([] : List Int) l2).bind fun t338 => (if (t332.length : Int) > 10 then (papermilllaw08_WireRoundTrip.j1 kj4 a0 a1 l2 l3 t332 t335 t338 true) else (if (t335.length : Int) > 310 then (papermilllaw08_WireRoundTrip.j1 kj4 a0 a1 l2 l3 t332 t335 t338 true) else (papermilllaw08_WireRoundTrip.j1 kj4 a0 a1 l2 l3 t332 t335 t338 (decide ((t338.length : Int) > 3010))))))) = some r := H
     have A11 := Aside0.mk A110
     clear A110
     replace H := Option.bind_eq_some_iff.mp H
     obtain ⟨t335, A120, H⟩ := H
     replace H : ((wire_PutList.f kj4 ([] : List Int) l2).bind fun t338 => (if (t332.length : Int) > 10 then (papermilllaw08_WireRoundTrip.j1 kj4 a0 a1 l2 l3 t332 t335 t338 true) else (if (t335.length : Int) > 310 then (papermilllaw08_WireRoundTrip.j1 kj4 a0 a1 l2 l3 t332 t335 t338 true) else (papermilllaw08_WireRoundTrip.j1 kj4 a0 a1 l2 l3 t332 t335 t338 (decide ((t338.length : Int) > 3010)))))) = some r := H
     have A12 := Aside0.mk A120
     clear A120
     replace H := Option.bind_eq_some_iff.mp H
     obtain ⟨t338, A130, H⟩ := H
     replace H : (if (t332.length : Int) > 10 then (papermilllaw08_WireRoundTrip.j1 kj4 a0 a1 l2 l3 t332 t335 t338 true) else (if (t335.length : Int) > 310 then (papermilllaw08_WireRoundTrip.j1 kj4 a0 a1 l2 l3 t332 t335 t338 true) else (papermilllaw08_WireRoundTrip.j1 kj4 a0 a1 l2 l3 t332 t335 t338 (decide ((t338.length : Int) > 3010))))) = some r := H
     have A13 := Aside0.mk A130
     clear A130
     have HC14 := Aside0.mk H
     clear H
     go_upto_region 4 with (first | ((with_reducible refine gate_callee (f := 14) rfl ?_); refine goesL_ (some 36) rfl rfl Try.func14 (by kernel_rfl) rfl #[.slice none 0 0, .int .i64 a0] rfl (by (try simp only [List.map_toArray, List.map_cons, List.map_nil]); first | done | rfl | (simp only [List.length_drop, List.length_take]; rfl)) ?_; (refine (wire_PutInt.calls _ _ ([] : List Int) a0 t332 _ ?side1 ?side2 A11.out).mono ?_); (case side1 => exact Kd.C_nil _ _); (case side2 => exact Nat.le_refl _); rintro e w15 ⟨v333, rfl, ho0, hb⟩; refine ⟨_, rfl, ?_⟩; have n0_ := Aside0.mk (Kd.R_lower ho0 (below_size (by repeat (first | (with_reducible first | exact HB.out | apply below_alloc | apply pw_below_drewN | apply below_drew1) | exact HB.out)))); have n1_ := Aside0.mk (below_step (by repeat (first | (with_reducible first | exact HB.out | apply below_alloc | apply pw_below_drewN | apply below_drew1) | exact HB.out)) hb); clear HB; have HO334 := n0_; have HB := n1_; clear n0_ n1_; (try clear hb); (try clear hb2); (try clear hk); (try clear hi); (try clear ho0)) | ((with_reducible refine gate_callee (f := 16) rfl ?_); refine goesL_ (some 38) rfl rfl Try.func16 (by kernel_rfl) rfl #[.slice none 0 0, .string a1] rfl (by (try simp only [List.map_toArray, List.map_cons, List.map_nil]); first | done | rfl | (simp only [List.length_drop, List.length_take]; rfl)) ?_; (refine (wire_PutText.calls _ _ ([] : List Int) a1 t335 _ ?side1 ?side2 A12.out).mono ?_); (case side1 => exact Kd.C_nil _ _); (case side2 => exact Nat.le_refl _); rintro e w16 ⟨v336, rfl, ho0, hb⟩; refine ⟨_, rfl, ?_⟩; have n0_ := Aside0.mk (Kd.R_elder' (by (with_reducible repeat (first | apply Kd.R_alloc | apply Kd.R_drewN | apply Kd.R_drew)); exact HO334.out) (Kd.R_base ho0) hb); have n1_ := Aside0.mk (Kd.R_lower (Kd.R_new' ho0 (Kd.R_lt (by (with_reducible repeat (first | apply Kd.R_alloc | apply Kd.R_drewN | apply Kd.R_drew)); exact HO334.out))) (below_size (by repeat (first | (with_reducible first | exact HB.out | apply below_alloc | apply pw_below_drewN | apply below_drew1) | exact HB.out)))); have n2_ := Aside0.mk (below_step (by repeat (first | (with_reducible first | exact HB.out | apply below_alloc | apply pw_below_drewN | apply below_drew1) | exact HB.out)) hb); clear HO334; clear HB; have HO334 := n0_; have HO337 := n1_; have HB := n2_; clear n0_ n1_ n2_; (try clear hb); (try clear hb2); (try clear hk); (try clear hi); (try clear ho0)) | ((with_reducible refine gate_callee (f := 18) rfl ?_); refine goesL_ (some 40) rfl rfl Try.func18 (by kernel_rfl) rfl #[.slice none 0 0, .slice A2 l2.length c2] rfl (by (try simp only [List.map_toArray, List.map_cons, List.map_nil]); first | done | rfl | (simp only [List.length_drop, List.length_take]; rfl)) ?_; (refine (wire_PutList.calls kj4 _ _ ([] : List Int) _ _ l2 t338 _ ?side1 ?side2 ?side3 ?side4 A13.out).mono ?_); (case side1 => exact Kd.C_nil _ _); (case side2 => exact Nat.le_refl _); (case side3 => repeat (first | exact (Kd.C_below HR2.out HB.out) | (with_reducible refine Kd.C_alloc ?_ _) | (with_reducible refine Kd.C_drewN ?_ _) | (with_reducible refine Kd.C_drew ?_))); (case side4 => exact HC2.out); rintro e w17 ⟨v339, rfl, ho0, hb⟩; refine ⟨_, rfl, ?_⟩; have n0_ := Aside0.mk (Kd.R_elder' (by (with_reducible repeat (first | apply Kd.R_alloc | apply Kd.R_drewN | apply Kd.R_drew)); exact HO334.out) (Kd.R_base ho0) hb); have n1_ := Aside0.mk (Kd.R_elder' (by (with_reducible repeat (first | apply Kd.R_alloc | apply Kd.R_drewN | apply Kd.R_drew)); exact HO337.out) (Kd.R_base ho0) hb); have n2_ := Aside0.mk (Kd.R_lower (Kd.R_new' (Kd.R_new' ho0 (Kd.R_lt (by (with_reducible repeat (first | apply Kd.R_alloc | apply Kd.R_drewN | apply Kd.R_drew)); exact HO334.out))) (Kd.R_lt (by (with_reducible repeat (first | apply Kd.R_alloc | apply Kd.R_drewN | apply Kd.R_drew)); exact HO337.out))) (below_size (by repeat (first | (with_reducible first | exact HB.out | apply below_alloc | apply pw_below_drewN | apply below_drew1) | exact HB.out)))); have n3_ := Aside0.mk (below_step (by repeat (first | (with_reducible first | exact HB.out | apply below_alloc | apply pw_below_drewN | apply below_drew1) | exact HB.out)) hb); clear HO334; clear HO337; clear HB; have HO334 := n0_; have HO337 := n1_; have HO340 := n2_; have HB := n3_; clear n0_ n1_ n2_ n3_; (try clear hb); (try clear hb2); (try clear hk); (try clear hi); (try clear ho0)))
     (try simp only [Act.put, List.setIfInBounds_toArray, List.set_cons_zero, List.set_cons_succ])
     go_cut [53] (fun v53 wc => ∃ (kq : Nat) (x53_13 : Bool), v53 = .bool x53_13 ∧ Aside0 (papermilllaw08_WireRoundTrip.j1 kq a0 a1 l2 l3 t332 t335 t338 x53_13 = some r) ∧ Aside0 (kq ≤ kj4) ∧ Aside0 (Kd.R (Kd.int .u8) 5 wc w.heap.size (fun k_ => some k_ ≠ (v336 : Value).ownBlock ∧ some k_ ≠ (v339 : Value).ownBlock) v333 t332) ∧ Aside0 (Kd.R (Kd.int .u8) 5 wc w.heap.size (fun k_ => some k_ ≠ (v333 : Value).ownBlock ∧ some k_ ≠ (v339 : Value).ownBlock) v336 t335) ∧ Aside0 (Kd.R (Kd.int .u8) 5 wc w.heap.size (fun k_ => some k_ ≠ (v333 : Value).ownBlock ∧ some k_ ≠ (v336 : Value).ownBlock) v339 t338) ∧ Aside0 (Below w.heap.size w wc))
     case first =>
      have H := HC14.out
      clear HC14
      by_cases c18 : (t332.length : Int) > 10
      ·rw [if_pos c18] at H
       have c18b0 : decide (10 < (t332.length : Int)) = true := decide_eq_true c18
       have c18b1 : decide (10 < t332.length) = true := decide_eq_true (by omega)
       clear c18
       (first | rw [c18b0] | (simp only [i64_w, i32_w]; rw [c18b0]) | skip)
       have H' := Aside0.mk H
       clear H
       obtain ⟨Ao19, co19, eo19⟩ := Kd.R_slice HO334.out
       subst eo19
       go_wp2
       go_meet
       case rel => exact ⟨_, (true), (by first | rfl | (simp; done) | (simp [*]; done)), H', ⟨by have := HJ4.out; first | omega | exact Nat.le_refl _⟩, ⟨by (with_reducible repeat (first | apply Kd.R_alloc | apply Kd.R_drewN | apply Kd.R_drew)); exact Kd.R_mono HO334.out (fun _ hk => ⟨hk.1.2, hk.2⟩)⟩, ⟨by (with_reducible repeat (first | apply Kd.R_alloc | apply Kd.R_drewN | apply Kd.R_drew)); exact Kd.R_mono HO337.out (fun _ hk => ⟨hk.1.2, hk.2⟩)⟩, ⟨by (with_reducible repeat (first | apply Kd.R_alloc | apply Kd.R_drewN | apply Kd.R_drew)); exact Kd.R_mono HO340.out (fun _ hk => ⟨hk.1.2, hk.2⟩)⟩, ⟨by repeat (first | (with_reducible first | exact HB.out | apply below_alloc | apply pw_below_drewN | apply below_drew1) | exact HB.out)⟩⟩
      ·rw [if_neg c18] at H
       have c18b0 : decide (10 < (t332.length : Int)) = false := decide_eq_false c18
       have c18b1 : decide (10 < t332.length) = false := decide_eq_false (by omega)
       clear c18
       (first | rw [c18b0] | (simp only [i64_w, i32_w]; rw [c18b0]) | skip)
       by_cases c20 : (t335.length : Int) > 310
       ·rw [if_pos c20] at H
        have c20b0 : decide (310 < (t335.length : Int)) = true := decide_eq_true c20
        have c20b1 : decide (310 < t335.length) = true := decide_eq_true (by omega)
        clear c20
        have H' := Aside0.mk H
        clear H
        obtain ⟨Ao21, co21, eo21⟩ := Kd.R_slice HO334.out
        subst eo21
        obtain ⟨Ao22, co22, eo22⟩ := Kd.R_slice HO337.out
        subst eo22
        go_wp2
        go_meet
        case rel => exact ⟨_, (true), (by first | rfl | (simp; done) | (simp [*]; done)), H', ⟨by have := HJ4.out; first | omega | exact Nat.le_refl _⟩, ⟨by (with_reducible repeat (first | apply Kd.R_alloc | apply Kd.R_drewN | apply Kd.R_drew)); exact Kd.R_mono HO334.out (fun _ hk => ⟨hk.1.2, hk.2⟩)⟩, ⟨by (with_reducible repeat (first | apply Kd.R_alloc | apply Kd.R_drewN | apply Kd.R_drew)); exact Kd.R_mono HO337.out (fun _ hk => ⟨hk.1.2, hk.2⟩)⟩, ⟨by (with_reducible repeat (first | apply Kd.R_alloc | apply Kd.R_drewN | apply Kd.R_drew)); exact Kd.R_mono HO340.out (fun _ hk => ⟨hk.1.2, hk.2⟩)⟩, ⟨by repeat (first | (with_reducible first | exact HB.out | apply below_alloc | apply pw_below_drewN | apply below_drew1) | exact HB.out)⟩⟩
       ·rw [if_neg c20] at H
        have c20b0 : decide (310 < (t335.length : Int)) = false := decide_eq_false c20
        have c20b1 : decide (310 < t335.length) = false := decide_eq_false (by omega)
        clear c20
        have H' := Aside0.mk H
        clear H
        obtain ⟨Ao23, co23, eo23⟩ := Kd.R_slice HO334.out
        subst eo23
        obtain ⟨Ao24, co24, eo24⟩ := Kd.R_slice HO337.out
        subst eo24
        obtain ⟨Ao25, co25, eo25⟩ := Kd.R_slice HO340.out
        subst eo25
        go_wp2
        go_meet
        case rel => exact ⟨_, (decide ((t338.length : Int) > 3010)), (by first | rfl | (simp; done) | (simp [*]; done)), H', ⟨by have := HJ4.out; first | omega | exact Nat.le_refl _⟩, ⟨by (with_reducible repeat (first | apply Kd.R_alloc | apply Kd.R_drewN | apply Kd.R_drew)); exact Kd.R_mono HO334.out (fun _ hk => ⟨hk.1.2, hk.2⟩)⟩, ⟨by (with_reducible repeat (first | apply Kd.R_alloc | apply Kd.R_drewN | apply Kd.R_drew)); exact Kd.R_mono HO337.out (fun _ hk => ⟨hk.1.2, hk.2⟩)⟩, ⟨by (with_reducible repeat (first | apply Kd.R_alloc | apply Kd.R_drewN | apply Kd.R_drew)); exact Kd.R_mono HO340.out (fun _ hk => ⟨hk.1.2, hk.2⟩)⟩, ⟨by repeat (first | (with_reducible first | exact HB.out | apply below_alloc | apply pw_below_drewN | apply below_drew1) | exact HB.out)⟩⟩
     case rest =>
      clear HC14
      try clear c1
      try clear c2
      try clear p2
      try clear c3
      try clear c6
      try clear c6b0
      try clear c6b1
      try clear c7
      try clear c7b0
      try clear c7b1
      try clear c8
      try clear c10
      try clear c14
      try clear c16
      try clear c18
      try clear c18b0
      try clear c18b1
      try clear c20
      try clear c20b0
      try clear c20b1
      try clear p2
      obtain ⟨kq, x53_13, rfl, HA, HJ13, HO_9, HO_10, HO_11, HB⟩ := hcut
      cases kq with
      | zero => exact absurd HA.out (by simp [papermilllaw08_WireRoundTrip.j1])
      | succ kj13 =>
       have H := HA.out
       clear HA
       simp only [papermilllaw08_WireRoundTrip.j1] at H
       by_cases c26 : x53_13 = true
       ·subst c26
        have H1 : (some false) = some r := by rw [if_pos rfl] at H; exact H
        clear H
        have H := H1
        clear H1
        obtain rfl := Option.some.inj H
        go_wp2
        go_ret
        exact ⟨by first | rfl | (simp [errW_none, errW_some] <;> rfl) | (simp [*, errW_none, errW_some] <;> rfl), by repeat (first | (with_reducible first | exact HB.out | apply below_alloc | apply pw_below_drewN | apply below_drew1) | exact HB.out)⟩
       ·replace c26 := Bool.eq_false_iff.mpr c26
        subst c26
        have H1 : ((some (([] : List Int) : List Int)).bind fun y341 => (if y341.length + t332.length < 140737488355328 then ((some (y341 ++ t332 : List Int)).bind fun y344 => (if y344.length + l3.length < 140737488355328 then ((wire_TakeInt.f kj13 (y344 ++ l3)).bind fun bt350 => ((some (([] : List Int) : List Int)).bind fun y353 => (if y353.length + t335.length < 140737488355328 then ((some (y353 ++ t335 : List Int)).bind fun y356 => (if y356.length + l3.length < 140737488355328 then ((wire_TakeText.f kj13 (y356 ++ l3) (a1.size : Int)).bind fun bt362 => ((some (([] : List Int) : List Int)).bind fun y365 => (if y365.length + t338.length < 140737488355328 then ((some (y365 ++ t338 : List Int)).bind fun y368 => (if y368.length + l3.length < 140737488355328 then ((wire_TakeList.f kj13 (y368 ++ l3) (l2.length : Int)).bind fun bt374 => (if bt350.2.2 = 0 then (if bt362.2.2 = 0 then (if bt374.2.2 = 0 then (if bt350.2.1 = (t332.length : Int) then (if bt362.2.1 = (t335.length : Int) then (papermilllaw08_WireRoundTrip.j2 kj13 a0 a1 l2 bt350.1 bt362.1 bt374.1 (bt374.2.1 != (t338.length : Int))) else (papermilllaw08_WireRoundTrip.j2 kj13 a0 a1 l2 bt350.1 bt362.1 bt374.1 true)) else (papermilllaw08_WireRoundTrip.j2 kj13 a0 a1 l2 bt350.1 bt362.1 bt374.1 true)) else (papermilllaw08_WireRoundTrip.j2 kj13 a0 a1 l2 bt350.1 bt362.1 bt374.1 true)) else (papermilllaw08_WireRoundTrip.j2 kj13 a0 a1 l2 bt350.1 bt362.1 bt374.1 true)) else (papermilllaw08_WireRoundTrip.j2 kj13 a0 a1 l2 bt350.1 bt362.1 bt374.1 true))) else (none))) else (none)))) else (none))) else (none)))) else (none))) else (none))) = some r := by rw [if_neg (show ¬ (false = true) by decide)] at H; exact H
        clear H
        have H := H1
        clear H1
        obtain ⟨y341, hy341⟩ : ∃ y_ : List Int, y_ = (([] : List Int)) := ⟨_, rfl⟩
        replace H : (if y341.length + t332.length < 140737488355328 then ((some (y341 ++ t332 : List Int)).bind fun y344 => (if y344.length + l3.length < 140737488355328 then ((wire_TakeInt.f kj13 (y344 ++ l3)).bind fun bt350 => ((some (([] : List Int) : List Int)).bind fun y353 => (if y353.length + t335.length < 140737488355328 then ((some (y353 ++ t335 : List Int)).bind fun y356 => (if y356.length + l3.length < 140737488355328 then ((wire_TakeText.f kj13 (y356 ++ l3) (a1.size : Int)).bind fun bt362 => ((some (([] : List Int) : List Int)).bind fun y365 => (if y365.length + t338.length < 140737488355328 then ((some (y365 ++ t338 : List Int)).bind fun y368 => (if y368.length + l3.length < 140737488355328 then ((wire_TakeList.f kj13 (y368 ++ l3) (l2.length : Int)).bind fun bt374 => (if bt350.2.2 = 0 then (if bt362.2.2 = 0 then (if bt374.2.2 = 0 then (if bt350.2.1 = (t332.length : Int) then (if bt362.2.1 = (t335.length : Int) then (papermilllaw08_WireRoundTrip.j2 kj13 a0 a1 l2 bt350.1 bt362.1 bt374.1 (bt374.2.1 != (t338.length : Int))) else (papermilllaw08_WireRoundTrip.j2 kj13 a0 a1 l2 bt350.1 bt362.1 bt374.1 true)) else (papermilllaw08_WireRoundTrip.j2 kj13 a0 a1 l2 bt350.1 bt362.1 bt374.1 true)) else (papermilllaw08_WireRoundTrip.j2 kj13 a0 a1 l2 bt350.1 bt362.1 bt374.1 true)) else (papermilllaw08_WireRoundTrip.j2 kj13 a0 a1 l2 bt350.1 bt362.1 bt374.1 true)) else (papermilllaw08_WireRoundTrip.j2 kj13 a0 a1 l2 bt350.1 bt362.1 bt374.1 true))) else (none))) else (none)))) else (none))) else (none)))) else (none))) else (none)) = some r := by first | (rw [hy341]; with_reducible exact H) | (have H2_ := (Option.bind_some _ _).symm.trans H; rw [hy341]; with_reducible exact H2_) | (have H2_ := (Option.bind_some _ _).symm.trans H; with_reducible exact H2_) | with_reducible exact H | (rw [hy341]; exact H) | exact H
        have Ny341 := Aside0.mk hy341
        clear hy341
        by_cases c27 : y341.length + t332.length < 140737488355328
        ·rw [if_pos c27] at H
         have LMc27 := Aside0.mk c27
         clear c27
         obtain ⟨y344, hy344⟩ : ∃ y_ : List Int, y_ = (y341 ++ t332) := ⟨_, rfl⟩
         replace H : (if y344.length + l3.length < 140737488355328 then ((wire_TakeInt.f kj13 (y344 ++ l3)).bind fun bt350 => ((some (([] : List Int) : List Int)).bind fun y353 => (if y353.length + t335.length < 140737488355328 then ((some (y353 ++ t335 : List Int)).bind fun y356 => (if y356.length + l3.length < 140737488355328 then ((wire_TakeText.f kj13 (y356 ++ l3) (a1.size : Int)).bind fun bt362 => ((some (([] : List Int) : List Int)).bind fun y365 => (if y365.length + t338.length < 140737488355328 then ((some (y365 ++ t338 : List Int)).bind fun y368 => (if y368.length + l3.length < 140737488355328 then ((wire_TakeList.f kj13 (y368 ++ l3) (l2.length : Int)).bind fun bt374 => (if bt350.2.2 = 0 then (if bt362.2.2 = 0 then (if bt374.2.2 = 0 then (if bt350.2.1 = (t332.length : Int) then (if bt362.2.1 = (t335.length : Int) then (papermilllaw08_WireRoundTrip.j2 kj13 a0 a1 l2 bt350.1 bt362.1 bt374.1 (bt374.2.1 != (t338.length : Int))) else (papermilllaw08_WireRoundTrip.j2 kj13 a0 a1 l2 bt350.1 bt362.1 bt374.1 true)) else (papermilllaw08_WireRoundTrip.j2 kj13 a0 a1 l2 bt350.1 bt362.1 bt374.1 true)) else (papermilllaw08_WireRoundTrip.j2 kj13 a0 a1 l2 bt350.1 bt362.1 bt374.1 true)) else (papermilllaw08_WireRoundTrip.j2 kj13 a0 a1 l2 bt350.1 bt362.1 bt374.1 true)) else (papermilllaw08_WireRoundTrip.j2 kj13 a0 a1 l2 bt350.1 bt362.1 bt374.1 true))) else (none))) else (none)))) else (none))) else (none)))) else (none)) = some r := by first | (rw [hy344]; with_reducible exact H) | (have H2_ := (Option.bind_some _ _).symm.trans H; rw [hy344]; with_reducible exact H2_) | (have H2_ := (Option.bind_some _ _).symm.trans H; with_reducible exact H2_) | with_reducible exact H | (rw [hy344]; exact H) | exact H
         have Ny344 := Aside0.mk hy344
         clear hy344
         by_cases c28 : y344.length + l3.length < 140737488355328
         ·rw [if_pos c28] at H
          have LMc28 := Aside0.mk c28
          clear c28
          obtain ⟨y347, hy347⟩ : ∃ y_ : List Int, y_ = (y344 ++ l3) := ⟨_, rfl⟩
          replace H : ((wire_TakeInt.f kj13 y347).bind fun bt350 => ((some (([] : List Int) : List Int)).bind fun y353 => (if y353.length + t335.length < 140737488355328 then ((some (y353 ++ t335 : List Int)).bind fun y356 => (if y356.length + l3.length < 140737488355328 then ((wire_TakeText.f kj13 (y356 ++ l3) (a1.size : Int)).bind fun bt362 => ((some (([] : List Int) : List Int)).bind fun y365 => (if y365.length + t338.length < 140737488355328 then ((some (y365 ++ t338 : List Int)).bind fun y368 => (if y368.length + l3.length < 140737488355328 then ((wire_TakeList.f kj13 (y368 ++ l3) (l2.length : Int)).bind fun bt374 => (if bt350.2.2 = 0 then (if bt362.2.2 = 0 then (if bt374.2.2 = 0 then (if bt350.2.1 = (t332.length : Int) then (if bt362.2.1 = (t335.length : Int) then (papermilllaw08_WireRoundTrip.j2 kj13 a0 a1 l2 bt350.1 bt362.1 bt374.1 (bt374.2.1 != (t338.length : Int))) else (papermilllaw08_WireRoundTrip.j2 kj13 a0 a1 l2 bt350.1 bt362.1 bt374.1 true)) else (papermilllaw08_WireRoundTrip.j2 kj13 a0 a1 l2 bt350.1 bt362.1 bt374.1 true)) else (papermilllaw08_WireRoundTrip.j2 kj13 a0 a1 l2 bt350.1 bt362.1 bt374.1 true)) else (papermilllaw08_WireRoundTrip.j2 kj13 a0 a1 l2 bt350.1 bt362.1 bt374.1 true)) else (papermilllaw08_WireRoundTrip.j2 kj13 a0 a1 l2 bt350.1 bt362.1 bt374.1 true))) else (none))) else (none)))) else (none))) else (none)))) = some r := by first | (rw [hy347]; with_reducible exact H) | (have H2_ := (Option.bind_some _ _).symm.trans H; rw [hy347]; with_reducible exact H2_) | (have H2_ := (Option.bind_some _ _).symm.trans H; with_reducible exact H2_) | with_reducible exact H | (rw [hy347]; exact H) | exact H
          have Ny347 := Aside0.mk hy347
          clear hy347
          replace H := Option.bind_eq_some_iff.mp H
          obtain ⟨⟨t350, t351, t352⟩, A290, H⟩ := H
          replace H : ((some (([] : List Int) : List Int)).bind fun y353 => (if y353.length + t335.length < 140737488355328 then ((some (y353 ++ t335 : List Int)).bind fun y356 => (if y356.length + l3.length < 140737488355328 then ((wire_TakeText.f kj13 (y356 ++ l3) (a1.size : Int)).bind fun bt362 => ((some (([] : List Int) : List Int)).bind fun y365 => (if y365.length + t338.length < 140737488355328 then ((some (y365 ++ t338 : List Int)).bind fun y368 => (if y368.length + l3.length < 140737488355328 then ((wire_TakeList.f kj13 (y368 ++ l3) (l2.length : Int)).bind fun bt374 => (if t352 = 0 then (if bt362.2.2 = 0 then (if bt374.2.2 = 0 then (if t351 = (t332.length : Int) then (if bt362.2.1 = (t335.length : Int) then (papermilllaw08_WireRoundTrip.j2 kj13 a0 a1 l2 t350 bt362.1 bt374.1 (bt374.2.1 != (t338.length : Int))) else (papermilllaw08_WireRoundTrip.j2 kj13 a0 a1 l2 t350 bt362.1 bt374.1 true)) else (papermilllaw08_WireRoundTrip.j2 kj13 a0 a1 l2 t350 bt362.1 bt374.1 true)) else (papermilllaw08_WireRoundTrip.j2 kj13 a0 a1 l2 t350 bt362.1 bt374.1 true)) else (papermilllaw08_WireRoundTrip.j2 kj13 a0 a1 l2 t350 bt362.1 bt374.1 true)) else (papermilllaw08_WireRoundTrip.j2 kj13 a0 a1 l2 t350 bt362.1 bt374.1 true))) else (none))) else (none)))) else (none))) else (none))) = some r := H
          have A29 := Aside0.mk A290
          clear A290
          obtain ⟨y353, hy353⟩ : ∃ y_ : List Int, y_ = (([] : List Int)) := ⟨_, rfl⟩
          replace H : (if y353.length + t335.length < 140737488355328 then ((some (y353 ++ t335 : List Int)).bind fun y356 => (if y356.length + l3.length < 140737488355328 then ((wire_TakeText.f kj13 (y356 ++ l3) (a1.size : Int)).bind fun bt362 => ((some (([] : List Int) : List Int)).bind fun y365 => (if y365.length + t338.length < 140737488355328 then ((some (y365 ++ t338 : List Int)).bind fun y368 => (if y368.length + l3.length < 140737488355328 then ((wire_TakeList.f kj13 (y368 ++ l3) (l2.length : Int)).bind fun bt374 => (if t352 = 0 then (if bt362.2.2 = 0 then (if bt374.2.2 = 0 then (if t351 = (t332.length : Int) then (if bt362.2.1 = (t335.length : Int) then (papermilllaw08_WireRoundTrip.j2 kj13 a0 a1 l2 t350 bt362.1 bt374.1 (bt374.2.1 != (t338.length : Int))) else (papermilllaw08_WireRoundTrip.j2 kj13 a0 a1 l2 t350 bt362.1 bt374.1 true)) else (papermilllaw08_WireRoundTrip.j2 kj13 a0 a1 l2 t350 bt362.1 bt374.1 true)) else (papermilllaw08_WireRoundTrip.j2 kj13 a0 a1 l2 t350 bt362.1 bt374.1 true)) else (papermilllaw08_WireRoundTrip.j2 kj13 a0 a1 l2 t350 bt362.1 bt374.1 true)) else (papermilllaw08_WireRoundTrip.j2 kj13 a0 a1 l2 t350 bt362.1 bt374.1 true))) else (none))) else (none)))) else (none))) else (none)) = some r := by first | (rw [hy353]; with_reducible exact H) | (have H2_ := (Option.bind_some _ _).symm.trans H; rw [hy353]; with_reducible exact H2_) | (have H2_ := (Option.bind_some _ _).symm.trans H; with_reducible exact H2_) | with_reducible exact H | (rw [hy353]; exact H) | exact H
          have Ny353 := Aside0.mk hy353
          clear hy353
          by_cases c30 : y353.length + t335.length < 140737488355328
          ·rw [if_pos c30] at H
           have LMc30 := Aside0.mk c30
           clear c30
           obtain ⟨y356, hy356⟩ : ∃ y_ : List Int, y_ = (y353 ++ t335) := ⟨_, rfl⟩
           replace H : (if y356.length + l3.length < 140737488355328 then ((wire_TakeText.f kj13 (y356 ++ l3) (a1.size : Int)).bind fun bt362 => ((some (([] : List Int) : List Int)).bind fun y365 => (if y365.length + t338.length < 140737488355328 then ((some (y365 ++ t338 : List Int)).bind fun y368 => (if y368.length + l3.length < 140737488355328 then ((wire_TakeList.f kj13 (y368 ++ l3) (l2.length : Int)).bind fun bt374 => (if t352 = 0 then (if bt362.2.2 = 0 then (if bt374.2.2 = 0 then (if t351 = (t332.length : Int) then (if bt362.2.1 = (t335.length : Int) then (papermilllaw08_WireRoundTrip.j2 kj13 a0 a1 l2 t350 bt362.1 bt374.1 (bt374.2.1 != (t338.length : Int))) else (papermilllaw08_WireRoundTrip.j2 kj13 a0 a1 l2 t350 bt362.1 bt374.1 true)) else (papermilllaw08_WireRoundTrip.j2 kj13 a0 a1 l2 t350 bt362.1 bt374.1 true)) else (papermilllaw08_WireRoundTrip.j2 kj13 a0 a1 l2 t350 bt362.1 bt374.1 true)) else (papermilllaw08_WireRoundTrip.j2 kj13 a0 a1 l2 t350 bt362.1 bt374.1 true)) else (papermilllaw08_WireRoundTrip.j2 kj13 a0 a1 l2 t350 bt362.1 bt374.1 true))) else (none))) else (none)))) else (none)) = some r := by first | (rw [hy356]; with_reducible exact H) | (have H2_ := (Option.bind_some _ _).symm.trans H; rw [hy356]; with_reducible exact H2_) | (have H2_ := (Option.bind_some _ _).symm.trans H; with_reducible exact H2_) | with_reducible exact H | (rw [hy356]; exact H) | exact H
           have Ny356 := Aside0.mk hy356
           clear hy356
           by_cases c31 : y356.length + l3.length < 140737488355328
           ·rw [if_pos c31] at H
            have LMc31 := Aside0.mk c31
            clear c31
            obtain ⟨y359, hy359⟩ : ∃ y_ : List Int, y_ = (y356 ++ l3) := ⟨_, rfl⟩
            replace H : ((wire_TakeText.f kj13 y359 (a1.size : Int)).bind fun bt362 => ((some (([] : List Int) : List Int)).bind fun y365 => (if y365.length + t338.length < 140737488355328 then ((some (y365 ++ t338 : List Int)).bind fun y368 => (if y368.length + l3.length < 140737488355328 then ((wire_TakeList.f kj13 (y368 ++ l3) (l2.length : Int)).bind fun bt374 => (if t352 = 0 then (if bt362.2.2 = 0 then (if bt374.2.2 = 0 then (if t351 = (t332.length : Int) then (if bt362.2.1 = (t335.length : Int) then (papermilllaw08_WireRoundTrip.j2 kj13 a0 a1 l2 t350 bt362.1 bt374.1 (bt374.2.1 != (t338.length : Int))) else (papermilllaw08_WireRoundTrip.j2 kj13 a0 a1 l2 t350 bt362.1 bt374.1 true)) else (papermilllaw08_WireRoundTrip.j2 kj13 a0 a1 l2 t350 bt362.1 bt374.1 true)) else (papermilllaw08_WireRoundTrip.j2 kj13 a0 a1 l2 t350 bt362.1 bt374.1 true)) else (papermilllaw08_WireRoundTrip.j2 kj13 a0 a1 l2 t350 bt362.1 bt374.1 true)) else (papermilllaw08_WireRoundTrip.j2 kj13 a0 a1 l2 t350 bt362.1 bt374.1 true))) else (none))) else (none)))) = some r := by first | (rw [hy359]; with_reducible exact H) | (have H2_ := (Option.bind_some _ _).symm.trans H; rw [hy359]; with_reducible exact H2_) | (have H2_ := (Option.bind_some _ _).symm.trans H; with_reducible exact H2_) | with_reducible exact H | (rw [hy359]; exact H) | exact H
            have Ny359 := Aside0.mk hy359
            clear hy359
            replace H := Option.bind_eq_some_iff.mp H
            obtain ⟨⟨t362, t363, t364⟩, A320, H⟩ := H
            replace H : ((some (([] : List Int) : List Int)).bind fun y365 => (if y365.length + t338.length < 140737488355328 then ((some (y365 ++ t338 : List Int)).bind fun y368 => (if y368.length + l3.length < 140737488355328 then ((wire_TakeList.f kj13 (y368 ++ l3) (l2.length : Int)).bind fun bt374 => (if t352 = 0 then (if t364 = 0 then (if bt374.2.2 = 0 then (if t351 = (t332.length : Int) then (if t363 = (t335.length : Int) then (papermilllaw08_WireRoundTrip.j2 kj13 a0 a1 l2 t350 t362 bt374.1 (bt374.2.1 != (t338.length : Int))) else (papermilllaw08_WireRoundTrip.j2 kj13 a0 a1 l2 t350 t362 bt374.1 true)) else (papermilllaw08_WireRoundTrip.j2 kj13 a0 a1 l2 t350 t362 bt374.1 true)) else (papermilllaw08_WireRoundTrip.j2 kj13 a0 a1 l2 t350 t362 bt374.1 true)) else (papermilllaw08_WireRoundTrip.j2 kj13 a0 a1 l2 t350 t362 bt374.1 true)) else (papermilllaw08_WireRoundTrip.j2 kj13 a0 a1 l2 t350 t362 bt374.1 true))) else (none))) else (none))) = some r := H
            have A32 := Aside0.mk A320
            clear A320
            obtain ⟨y365, hy365⟩ : ∃ y_ : List Int, y_ = (([] : List Int)) := ⟨_, rfl⟩
            replace H : (if y365.length + t338.length < 140737488355328 then ((some (y365 ++ t338 : List Int)).bind fun y368 => (if y368.length + l3.length < 140737488355328 then ((wire_TakeList.f kj13 (y368 ++ l3) (l2.length : Int)).bind fun bt374 => (if t352 = 0 then (if t364 = 0 then (if bt374.2.2 = 0 then (if t351 = (t332.length : Int) then (if t363 = (t335.length : Int) then (papermilllaw08_WireRoundTrip.j2 kj13 a0 a1 l2 t350 t362 bt374.1 (bt374.2.1 != (t338.length : Int))) else (papermilllaw08_WireRoundTrip.j2 kj13 a0 a1 l2 t350 t362 bt374.1 true)) else (papermilllaw08_WireRoundTrip.j2 kj13 a0 a1 l2 t350 t362 bt374.1 true)) else (papermilllaw08_WireRoundTrip.j2 kj13 a0 a1 l2 t350 t362 bt374.1 true)) else (papermilllaw08_WireRoundTrip.j2 kj13 a0 a1 l2 t350 t362 bt374.1 true)) else (papermilllaw08_WireRoundTrip.j2 kj13 a0 a1 l2 t350 t362 bt374.1 true))) else (none))) else (none)) = some r := by first | (rw [hy365]; with_reducible exact H) | (have H2_ := (Option.bind_some _ _).symm.trans H; rw [hy365]; with_reducible exact H2_) | (have H2_ := (Option.bind_some _ _).symm.trans H; with_reducible exact H2_) | with_reducible exact H | (rw [hy365]; exact H) | exact H
            have Ny365 := Aside0.mk hy365
            clear hy365
            by_cases c33 : y365.length + t338.length < 140737488355328
            ·rw [if_pos c33] at H
             have LMc33 := Aside0.mk c33
             clear c33
             obtain ⟨y368, hy368⟩ : ∃ y_ : List Int, y_ = (y365 ++ t338) := ⟨_, rfl⟩
             replace H : (if y368.length + l3.length < 140737488355328 then ((wire_TakeList.f kj13 (y368 ++ l3) (l2.length : Int)).bind fun bt374 => (if t352 = 0 then (if t364 = 0 then (if bt374.2.2 = 0 then (if t351 = (t332.length : Int) then (if t363 = (t335.length : Int) then (papermilllaw08_WireRoundTrip.j2 kj13 a0 a1 l2 t350 t362 bt374.1 (bt374.2.1 != (t338.length : Int))) else (papermilllaw08_WireRoundTrip.j2 kj13 a0 a1 l2 t350 t362 bt374.1 true)) else (papermilllaw08_WireRoundTrip.j2 kj13 a0 a1 l2 t350 t362 bt374.1 true)) else (papermilllaw08_WireRoundTrip.j2 kj13 a0 a1 l2 t350 t362 bt374.1 true)) else (papermilllaw08_WireRoundTrip.j2 kj13 a0 a1 l2 t350 t362 bt374.1 true)) else (papermilllaw08_WireRoundTrip.j2 kj13 a0 a1 l2 t350 t362 bt374.1 true))) else (none)) = some r := by first | (rw [hy368]; with_reducible exact H) | (have H2_ := (Option.bind_some _ _).symm.trans H; rw [hy368]; with_reducible exact H2_) | (have H2_ := (Option.bind_some _ _).symm.trans H; with_reducible exact H2_) | with_reducible exact H | (rw [hy368]; exact H) | exact H
             have Ny368 := Aside0.mk hy368
             clear hy368
             by_cases c34 : y368.length + l3.length < 140737488355328
             ·rw [if_pos c34] at H
              have LMc34 := Aside0.mk c34
              clear c34
              obtain ⟨y371, hy371⟩ : ∃ y_ : List Int, y_ = (y368 ++ l3) := ⟨_, rfl⟩
              replace H : ((wire_TakeList.f kj13 y371 (l2.length : Int)).bind fun bt374 => (if t352 = 0 then (if t364 = 0 then (if bt374.2.2 = 0 then (if t351 = (t332.length : Int) then (if t363 = (t335.length : Int) then (papermilllaw08_WireRoundTrip.j2 kj13 a0 a1 l2 t350 t362 bt374.1 (bt374.2.1 != (t338.length : Int))) else (papermilllaw08_WireRoundTrip.j2 kj13 a0 a1 l2 t350 t362 bt374.1 true)) else (papermilllaw08_WireRoundTrip.j2 kj13 a0 a1 l2 t350 t362 bt374.1 true)) else (papermilllaw08_WireRoundTrip.j2 kj13 a0 a1 l2 t350 t362 bt374.1 true)) else (papermilllaw08_WireRoundTrip.j2 kj13 a0 a1 l2 t350 t362 bt374.1 true)) else (papermilllaw08_WireRoundTrip.j2 kj13 a0 a1 l2 t350 t362 bt374.1 true))) = some r := by first | (rw [hy371]; with_reducible exact H) | (have H2_ := (Option.bind_some _ _).symm.trans H; rw [hy371]; with_reducible exact H2_) | (have H2_ := (Option.bind_some _ _).symm.trans H; with_reducible exact H2_) | with_reducible exact H | (rw [hy371]; exact H) | exact H
              have Ny371 := Aside0.mk hy371
              clear hy371
              replace H := Option.bind_eq_some_iff.mp H
              obtain ⟨⟨t374, t375, t376⟩, A350, H⟩ := H
              replace H : (if t352 = 0 then (if t364 = 0 then (if t376 = 0 then (if t351 = (t332.length : Int) then (if t363 = (t335.length : Int) then (papermilllaw08_WireRoundTrip.j2 kj13 a0 a1 l2 t350 t362 t374 (t375 != (t338.length : Int))) else (papermilllaw08_WireRoundTrip.j2 kj13 a0 a1 l2 t350 t362 t374 true)) else (papermilllaw08_WireRoundTrip.j2 kj13 a0 a1 l2 t350 t362 t374 true)) else (papermilllaw08_WireRoundTrip.j2 kj13 a0 a1 l2 t350 t362 t374 true)) else (papermilllaw08_WireRoundTrip.j2 kj13 a0 a1 l2 t350 t362 t374 true)) else (papermilllaw08_WireRoundTrip.j2 kj13 a0 a1 l2 t350 t362 t374 true)) = some r := H
              have A35 := Aside0.mk A350
              clear A350
              have HC36 := Aside0.mk H
              clear H
              go_upto_region 9 with (first | ((with_reducible refine gate_dst (N := 55) rfl ?_); (try (refine gate_guard (by rfl) ?_; dsimp only)); refine Kd.R_lit (Kd.int .u8) _ 5 ?hg (N := 55) ?hd (xs := ([] : List Int)) (inner := []) (ok := fun _ => True) (okp := fun _ => True) ?hr ?hp (fun _ hk => hk) trivial (Below.refl _ _) (Nat.le_refl _) (by simp) ?_; (case hd => rfl); (case hg => rfl); (case hr => first | (go_simp; done) | (go_simp; rfl)); (case hp => exact (Reps.none _ _)); intro v342 w37 ho38 hb hg_ hnew_; clear hg_ hnew_; (first | rw [← Ny341.out] at ho38 | (simp only [Int.reduceToNat] at ho38; rw [← Ny341.out] at ho38)); have n0_ := Aside0.mk (Kd.R_elder' (by (with_reducible repeat (first | apply Kd.R_alloc | apply Kd.R_drewN | apply Kd.R_drew)); exact HO_9.out) (Kd.R_base ho38) hb); have n1_ := Aside0.mk (Kd.R_elder' (by (with_reducible repeat (first | apply Kd.R_alloc | apply Kd.R_drewN | apply Kd.R_drew)); exact HO_10.out) (Kd.R_base ho38) hb); have n2_ := Aside0.mk (Kd.R_elder' (by (with_reducible repeat (first | apply Kd.R_alloc | apply Kd.R_drewN | apply Kd.R_drew)); exact HO_11.out) (Kd.R_base ho38) hb); have n3_ := Aside0.mk (Kd.R_lower (Kd.R_new' (Kd.R_new' (Kd.R_new' ho38 (Kd.R_lt (by (with_reducible repeat (first | apply Kd.R_alloc | apply Kd.R_drewN | apply Kd.R_drew)); exact HO_9.out))) (Kd.R_lt (by (with_reducible repeat (first | apply Kd.R_alloc | apply Kd.R_drewN | apply Kd.R_drew)); exact HO_10.out))) (Kd.R_lt (by (with_reducible repeat (first | apply Kd.R_alloc | apply Kd.R_drewN | apply Kd.R_drew)); exact HO_11.out))) (below_size (by repeat (first | (with_reducible first | exact HB.out | apply below_alloc | apply pw_below_drewN | apply below_drew1) | exact HB.out)))); have n4_ := Aside0.mk (below_step (by repeat (first | (with_reducible first | exact HB.out | apply below_alloc | apply pw_below_drewN | apply below_drew1) | exact HB.out)) hb); clear HO_9; clear HO_10; clear HO_11; clear HB; have HO_9 := n0_; have HO_10 := n1_; have HO_11 := n2_; have HO343 := n3_; have HB := n4_; clear n0_ n1_ n2_ n3_ n4_; clear hb ho38; obtain ⟨Ao40, co40, eo40⟩ := Kd.R_slice HO_9.out; subst eo40) | ((with_reducible refine gate_builtin (b := .append) (xs := #[.tmp 55, .tmp 56]) rfl ?_); (try (refine gate_guard (by rfl) ?_; dsimp only)); at_builtin; refine Kd.R_append_rows (Kd.int .u8) (w0 := w) w.heap.size rfl (.tmp 55) (.tmp 56) 22 5 (.int .u8 0) 1 rfl Try.underlying22 info5 rfl (by decide) (by omega) v342 y341 t332 _ _ _ (fun k_ => some k_ ≠ (.slice Ao40 t332.length co40 : Value).ownBlock ∧ some k_ ≠ (v336 : Value).ownBlock ∧ some k_ ≠ (v339 : Value).ownBlock) (fun _ => False) rfl rfl ?aO ?aR (fun _ _ h => h) (fun _ h => h.elim) ?aF ?aB ?aS ?aL ?_; (case aR => repeat (first | exact (Kd.R_reads' HO_9.out).2.2 | (with_reducible refine Kd.C_alloc ?_ _) | (with_reducible refine Kd.C_drewN ?_ _) | (with_reducible refine Kd.C_drew ?_))); (case aB => exact (by repeat (first | (with_reducible first | exact HB.out | apply below_alloc | apply pw_below_drewN | apply below_drew1) | exact HB.out))); (case aF => exact (fun k_ hk => ⟨Kd.fresh' (Kd.R_lt (by (with_reducible repeat (first | apply Kd.R_alloc | apply Kd.R_drewN | apply Kd.R_drew)); exact HO_9.out)) k_ hk, Kd.fresh' (Kd.R_lt (by (with_reducible repeat (first | apply Kd.R_alloc | apply Kd.R_drewN | apply Kd.R_drew)); exact HO_10.out)) k_ hk, Kd.fresh' (Kd.R_lt (by (with_reducible repeat (first | apply Kd.R_alloc | apply Kd.R_drewN | apply Kd.R_drew)); exact HO_11.out)) k_ hk⟩)); (case aO => exact (by (with_reducible repeat (first | apply Kd.R_alloc | apply Kd.R_drewN | apply Kd.R_drew)); exact Kd.R_mono HO343.out (fun _ hk => ⟨hk.1.1.2, ⟨hk.1.2, hk.2⟩⟩))); (case aS => exact (below_size (by repeat (first | (with_reducible first | exact HB.out | apply below_alloc | apply pw_below_drewN | apply below_drew1) | exact HB.out)))); (case aL => have := LMc27.out; omega); intro v345 w39 ho hb hg hat; rw [← Ny344.out] at ho; have n0_ := Aside0.mk (Kd.R_after (ok := (fun k_ => some k_ ≠ (v336 : Value).ownBlock ∧ some k_ ≠ (v339 : Value).ownBlock)) (by (with_reducible repeat (first | apply Kd.R_alloc | apply Kd.R_drewN | apply Kd.R_drew)); exact HO_9.out) hg hat); have n1_ := Aside0.mk (Kd.R_after (ok := (fun k_ => some k_ ≠ (.slice Ao40 t332.length co40 : Value).ownBlock ∧ some k_ ≠ (v339 : Value).ownBlock)) (by (with_reducible repeat (first | apply Kd.R_alloc | apply Kd.R_drewN | apply Kd.R_drew)); exact HO_10.out) hg hat); have n2_ := Aside0.mk (Kd.R_after (ok := (fun k_ => some k_ ≠ (.slice Ao40 t332.length co40 : Value).ownBlock ∧ some k_ ≠ (v336 : Value).ownBlock)) (by (with_reducible repeat (first | apply Kd.R_alloc | apply Kd.R_drewN | apply Kd.R_drew)); exact HO_11.out) hg hat); have n3_ := Aside0.mk (hb); have n4_ := Aside0.mk (ho); clear HO_9; clear HO_10; clear HO_11; clear HB; clear HO343; have HO_9 := n0_; have HO_10 := n1_; have HO_11 := n2_; have HB := n3_; have HO346 := n4_; clear n0_ n1_ n2_ n3_ n4_; clear ho hb hg hat) | ((with_reducible refine gate_builtin (b := .append) (xs := #[.tmp 57, .tmp 58]) rfl ?_); (try (refine gate_guard (by rfl) ?_; dsimp only)); at_builtin; refine Kd.R_append_rows (Kd.int .u8) (w0 := w) w.heap.size rfl (.tmp 57) (.tmp 58) 22 5 (.int .u8 0) 1 rfl Try.underlying22 info5 rfl (by decide) (by omega) v345 y344 l3 _ _ _ (fun k_ => some k_ ≠ (.slice Ao40 t332.length co40 : Value).ownBlock ∧ some k_ ≠ (v336 : Value).ownBlock ∧ some k_ ≠ (v339 : Value).ownBlock) (fun _ => False) rfl rfl ?aO ?aR (fun _ _ h => h) (fun _ h => h.elim) ?aF ?aB ?aS ?aL ?_; (case aR => repeat (first | exact (Kd.C_below HR3.out HB.out) | (with_reducible refine Kd.C_alloc ?_ _) | (with_reducible refine Kd.C_drewN ?_ _) | (with_reducible refine Kd.C_drew ?_))); (case aB => exact (by repeat (first | (with_reducible first | exact HB.out | apply below_alloc | apply pw_below_drewN | apply below_drew1) | exact HB.out))); (case aF => exact (fun k_ hk => ⟨Kd.fresh' (Kd.R_lt (by (with_reducible repeat (first | apply Kd.R_alloc | apply Kd.R_drewN | apply Kd.R_drew)); exact HO_9.out)) k_ hk, Kd.fresh' (Kd.R_lt (by (with_reducible repeat (first | apply Kd.R_alloc | apply Kd.R_drewN | apply Kd.R_drew)); exact HO_10.out)) k_ hk, Kd.fresh' (Kd.R_lt (by (with_reducible repeat (first | apply Kd.R_alloc | apply Kd.R_drewN | apply Kd.R_drew)); exact HO_11.out)) k_ hk⟩)); (case aO => exact (by (with_reducible repeat (first | apply Kd.R_alloc | apply Kd.R_drewN | apply Kd.R_drew)); exact HO346.out)); (case aS => exact (below_size (by repeat (first | (with_reducible first | exact HB.out | apply below_alloc | apply pw_below_drewN | apply below_drew1) | exact HB.out)))); (case aL => have := LMc28.out; omega); intro v348 w41 ho hb hg hat; rw [← Ny347.out] at ho; have n0_ := Aside0.mk (Kd.R_after (ok := (fun k_ => some k_ ≠ (v336 : Value).ownBlock ∧ some k_ ≠ (v339 : Value).ownBlock)) (by (with_reducible repeat (first | apply Kd.R_alloc | apply Kd.R_drewN | apply Kd.R_drew)); exact HO_9.out) hg hat); have n1_ := Aside0.mk (Kd.R_after (ok := (fun k_ => some k_ ≠ (.slice Ao40 t332.length co40 : Value).ownBlock ∧ some k_ ≠ (v339 : Value).ownBlock)) (by (with_reducible repeat (first | apply Kd.R_alloc | apply Kd.R_drewN | apply Kd.R_drew)); exact HO_10.out) hg hat); have n2_ := Aside0.mk (Kd.R_after (ok := (fun k_ => some k_ ≠ (.slice Ao40 t332.length co40 : Value).ownBlock ∧ some k_ ≠ (v336 : Value).ownBlock)) (by (with_reducible repeat (first | apply Kd.R_alloc | apply Kd.R_drewN | apply Kd.R_drew)); exact HO_11.out) hg hat); have n3_ := Aside0.mk (hb); have n4_ := Aside0.mk (ho); clear HO_9; clear HO_10; clear HO_11; clear HB; clear HO346; have HO_9 := n0_; have HO_10 := n1_; have HO_11 := n2_; have HB := n3_; have HO349 := n4_; clear n0_ n1_ n2_ n3_ n4_; clear ho hb hg hat; obtain ⟨Ao42, co42, eo42⟩ := Kd.R_slice HO349.out; subst eo42) | ((with_reducible refine gate_callee (f := 11) rfl ?_); refine goesL_ (some 60) rfl rfl Try.func11 (by kernel_rfl) rfl #[.slice Ao42 y347.length co42] rfl (by (try simp only [List.map_toArray, List.map_cons, List.map_nil]); first | done | rfl | (simp only [List.length_drop, List.length_take]; rfl)) ?_; (with_reducible refine (wire_TakeInt.calls kj13 _ _ y347 t350 t351 t352 _ ?side1 ?side2 A29.out).mono ?_); (case side1 => repeat (first | exact (Kd.R_reads' HO349.out).2.2 | (with_reducible refine Kd.C_alloc ?_ _) | (with_reducible refine Kd.C_drewN ?_ _) | (with_reducible refine Kd.C_drew ?_))); (case side2 => exact (Kd.R_reads' HO349.out).2.1); rintro e w' ⟨rfl, ⟨nd, rfl⟩⟩; refine ⟨_, rfl, ?_⟩) | ((with_reducible refine gate_dst (N := 65) rfl ?_); (try (refine gate_guard (by rfl) ?_; dsimp only)); refine Kd.R_lit (Kd.int .u8) _ 5 ?hg (N := 65) ?hd (xs := ([] : List Int)) (inner := []) (ok := fun _ => True) (okp := fun _ => True) ?hr ?hp (fun _ hk => hk) trivial (Below.refl _ _) (Nat.le_refl _) (by simp) ?_; (case hd => rfl); (case hg => rfl); (case hr => first | (go_simp; done) | (go_simp; rfl)); (case hp => exact (Reps.none _ _)); intro v354 w43 ho44 hb hg_ hnew_; clear hg_ hnew_; (first | rw [← Ny353.out] at ho44 | (simp only [Int.reduceToNat] at ho44; rw [← Ny353.out] at ho44)); have n0_ := Aside0.mk (Kd.R_elder' (by (with_reducible repeat (first | apply Kd.R_alloc | apply Kd.R_drewN | apply Kd.R_drew)); exact HO_9.out) (Kd.R_base ho44) hb); have n1_ := Aside0.mk (Kd.R_elder' (by (with_reducible repeat (first | apply Kd.R_alloc | apply Kd.R_drewN | apply Kd.R_drew)); exact HO_10.out) (Kd.R_base ho44) hb); have n2_ := Aside0.mk (Kd.R_elder' (by (with_reducible repeat (first | apply Kd.R_alloc | apply Kd.R_drewN | apply Kd.R_drew)); exact HO_11.out) (Kd.R_base ho44) hb); have n3_ := Aside0.mk (Kd.R_elder' (by (with_reducible repeat (first | apply Kd.R_alloc | apply Kd.R_drewN | apply Kd.R_drew)); exact HO349.out) (Kd.R_base ho44) hb); have n4_ := Aside0.mk (Kd.R_lower (Kd.R_new' (Kd.R_new' (Kd.R_new' (Kd.R_new' ho44 (Kd.R_lt (by (with_reducible repeat (first | apply Kd.R_alloc | apply Kd.R_drewN | apply Kd.R_drew)); exact HO_9.out))) (Kd.R_lt (by (with_reducible repeat (first | apply Kd.R_alloc | apply Kd.R_drewN | apply Kd.R_drew)); exact HO_10.out))) (Kd.R_lt (by (with_reducible repeat (first | apply Kd.R_alloc | apply Kd.R_drewN | apply Kd.R_drew)); exact HO_11.out))) (Kd.R_lt (by (with_reducible repeat (first | apply Kd.R_alloc | apply Kd.R_drewN | apply Kd.R_drew)); exact HO349.out))) (below_size (by repeat (first | (with_reducible first | exact HB.out | apply below_alloc | apply pw_below_drewN | apply below_drew1) | exact HB.out)))); have n5_ := Aside0.mk (below_step (by repeat (first | (with_reducible first | exact HB.out | apply below_alloc | apply pw_below_drewN | apply below_drew1) | exact HB.out)) hb); clear HO_9; clear HO_10; clear HO_11; clear HO349; clear HB; have HO_9 := n0_; have HO_10 := n1_; have HO_11 := n2_; have HO349 := n3_; have HO355 := n4_; have HB := n5_; clear n0_ n1_ n2_ n3_ n4_ n5_; clear hb ho44; obtain ⟨Ao46, co46, eo46⟩ := Kd.R_slice HO_10.out; subst eo46) | ((with_reducible refine gate_builtin (b := .append) (xs := #[.tmp 65, .tmp 66]) rfl ?_); (try (refine gate_guard (by rfl) ?_; dsimp only)); at_builtin; refine Kd.R_append_rows (Kd.int .u8) (w0 := w) w.heap.size rfl (.tmp 65) (.tmp 66) 22 5 (.int .u8 0) 1 rfl Try.underlying22 info5 rfl (by decide) (by omega) v354 y353 t335 _ _ _ (fun k_ => some k_ ≠ (.slice Ao40 t332.length co40 : Value).ownBlock ∧ some k_ ≠ (.slice Ao46 t335.length co46 : Value).ownBlock ∧ some k_ ≠ (v339 : Value).ownBlock ∧ some k_ ≠ (.slice Ao42 y347.length co42 : Value).ownBlock) (fun _ => False) rfl rfl ?aO ?aR (fun _ _ h => h) (fun _ h => h.elim) ?aF ?aB ?aS ?aL ?_; (case aR => repeat (first | exact (Kd.R_reads' HO_10.out).2.2 | (with_reducible refine Kd.C_alloc ?_ _) | (with_reducible refine Kd.C_drewN ?_ _) | (with_reducible refine Kd.C_drew ?_))); (case aB => exact (by repeat (first | (with_reducible first | exact HB.out | apply below_alloc | apply pw_below_drewN | apply below_drew1) | exact HB.out))); (case aF => exact (fun k_ hk => ⟨Kd.fresh' (Kd.R_lt (by (with_reducible repeat (first | apply Kd.R_alloc | apply Kd.R_drewN | apply Kd.R_drew)); exact HO_9.out)) k_ hk, Kd.fresh' (Kd.R_lt (by (with_reducible repeat (first | apply Kd.R_alloc | apply Kd.R_drewN | apply Kd.R_drew)); exact HO_10.out)) k_ hk, Kd.fresh' (Kd.R_lt (by (with_reducible repeat (first | apply Kd.R_alloc | apply Kd.R_drewN | apply Kd.R_drew)); exact HO_11.out)) k_ hk, Kd.fresh' (Kd.R_lt (by (with_reducible repeat (first | apply Kd.R_alloc | apply Kd.R_drewN | apply Kd.R_drew)); exact HO349.out)) k_ hk⟩)); (case aO => exact (by (with_reducible repeat (first | apply Kd.R_alloc | apply Kd.R_drewN | apply Kd.R_drew)); exact Kd.R_mono HO355.out (fun _ hk => ⟨hk.1.1.1.2, ⟨hk.1.1.2, ⟨hk.1.2, hk.2⟩⟩⟩))); (case aS => exact (below_size (by repeat (first | (with_reducible first | exact HB.out | apply below_alloc | apply pw_below_drewN | apply below_drew1) | exact HB.out)))); (case aL => have := LMc30.out; omega); intro v357 w45 ho hb hg hat; rw [← Ny356.out] at ho; have n0_ := Aside0.mk (Kd.R_after (ok := (fun k_ => some k_ ≠ (.slice Ao46 t335.length co46 : Value).ownBlock ∧ some k_ ≠ (v339 : Value).ownBlock ∧ some k_ ≠ (.slice Ao42 y347.length co42 : Value).ownBlock)) (by (with_reducible repeat (first | apply Kd.R_alloc | apply Kd.R_drewN | apply Kd.R_drew)); exact Kd.R_mono HO_9.out (fun _ hk => ⟨⟨hk.1.1.1, ⟨hk.1.1.2, hk.1.2⟩⟩, hk.2⟩)) hg hat); have n1_ := Aside0.mk (Kd.R_after (ok := (fun k_ => some k_ ≠ (.slice Ao40 t332.length co40 : Value).ownBlock ∧ some k_ ≠ (v339 : Value).ownBlock ∧ some k_ ≠ (.slice Ao42 y347.length co42 : Value).ownBlock)) (by (with_reducible repeat (first | apply Kd.R_alloc | apply Kd.R_drewN | apply Kd.R_drew)); exact Kd.R_mono HO_10.out (fun _ hk => ⟨⟨hk.1.1.1, ⟨hk.1.1.2, hk.1.2⟩⟩, hk.2⟩)) hg hat); have n2_ := Aside0.mk (Kd.R_after (ok := (fun k_ => some k_ ≠ (.slice Ao40 t332.length co40 : Value).ownBlock ∧ some k_ ≠ (.slice Ao46 t335.length co46 : Value).ownBlock ∧ some k_ ≠ (.slice Ao42 y347.length co42 : Value).ownBlock)) (by (with_reducible repeat (first | apply Kd.R_alloc | apply Kd.R_drewN | apply Kd.R_drew)); exact Kd.R_mono HO_11.out (fun _ hk => ⟨⟨hk.1.1.1, ⟨hk.1.1.2, hk.1.2⟩⟩, hk.2⟩)) hg hat); have n3_ := Aside0.mk (Kd.R_after (ok := (fun k_ => some k_ ≠ (.slice Ao40 t332.length co40 : Value).ownBlock ∧ some k_ ≠ (.slice Ao46 t335.length co46 : Value).ownBlock ∧ some k_ ≠ (v339 : Value).ownBlock)) (by (with_reducible repeat (first | apply Kd.R_alloc | apply Kd.R_drewN | apply Kd.R_drew)); exact HO349.out) hg hat); have n4_ := Aside0.mk (hb); have n5_ := Aside0.mk (ho); clear HO_9; clear HO_10; clear HO_11; clear HO349; clear HB; clear HO355; have HO_9 := n0_; have HO_10 := n1_; have HO_11 := n2_; have HO349 := n3_; have HB := n4_; have HO358 := n5_; clear n0_ n1_ n2_ n3_ n4_ n5_; clear ho hb hg hat) | ((with_reducible refine gate_builtin (b := .append) (xs := #[.tmp 67, .tmp 68]) rfl ?_); (try (refine gate_guard (by rfl) ?_; dsimp only)); at_builtin; refine Kd.R_append_rows (Kd.int .u8) (w0 := w) w.heap.size rfl (.tmp 67) (.tmp 68) 22 5 (.int .u8 0) 1 rfl Try.underlying22 info5 rfl (by decide) (by omega) v357 y356 l3 _ _ _ (fun k_ => some k_ ≠ (.slice Ao40 t332.length co40 : Value).ownBlock ∧ some k_ ≠ (.slice Ao46 t335.length co46 : Value).ownBlock ∧ some k_ ≠ (v339 : Value).ownBlock ∧ some k_ ≠ (.slice Ao42 y347.length co42 : Value).ownBlock) (fun _ => False) rfl rfl ?aO ?aR (fun _ _ h => h) (fun _ h => h.elim) ?aF ?aB ?aS ?aL ?_; (case aR => repeat (first | exact (Kd.C_below HR3.out HB.out) | (with_reducible refine Kd.C_alloc ?_ _) | (with_reducible refine Kd.C_drewN ?_ _) | (with_reducible refine Kd.C_drew ?_))); (case aB => exact (by repeat (first | (with_reducible first | exact HB.out | apply below_alloc | apply pw_below_drewN | apply below_drew1) | exact HB.out))); (case aF => exact (fun k_ hk => ⟨Kd.fresh' (Kd.R_lt (by (with_reducible repeat (first | apply Kd.R_alloc | apply Kd.R_drewN | apply Kd.R_drew)); exact HO_9.out)) k_ hk, Kd.fresh' (Kd.R_lt (by (with_reducible repeat (first | apply Kd.R_alloc | apply Kd.R_drewN | apply Kd.R_drew)); exact HO_10.out)) k_ hk, Kd.fresh' (Kd.R_lt (by (with_reducible repeat (first | apply Kd.R_alloc | apply Kd.R_drewN | apply Kd.R_drew)); exact HO_11.out)) k_ hk, Kd.fresh' (Kd.R_lt (by (with_reducible repeat (first | apply Kd.R_alloc | apply Kd.R_drewN | apply Kd.R_drew)); exact HO349.out)) k_ hk⟩)); (case aO => exact (by (with_reducible repeat (first | apply Kd.R_alloc | apply Kd.R_drewN | apply Kd.R_drew)); exact HO358.out)); (case aS => exact (below_size (by repeat (first | (with_reducible first | exact HB.out | apply below_alloc | apply pw_below_drewN | apply below_drew1) | exact HB.out)))); (case aL => have := LMc31.out; omega); intro v360 w47 ho hb hg hat; rw [← Ny359.out] at ho; have n0_ := Aside0.mk (Kd.R_after (ok := (fun k_ => some k_ ≠ (.slice Ao46 t335.length co46 : Value).ownBlock ∧ some k_ ≠ (v339 : Value).ownBlock ∧ some k_ ≠ (.slice Ao42 y347.length co42 : Value).ownBlock)) (by (with_reducible repeat (first | apply Kd.R_alloc | apply Kd.R_drewN | apply Kd.R_drew)); exact HO_9.out) hg hat); have n1_ := Aside0.mk (Kd.R_after (ok := (fun k_ => some k_ ≠ (.slice Ao40 t332.length co40 : Value).ownBlock ∧ some k_ ≠ (v339 : Value).ownBlock ∧ some k_ ≠ (.slice Ao42 y347.length co42 : Value).ownBlock)) (by (with_reducible repeat (first | apply Kd.R_alloc | apply Kd.R_drewN | apply Kd.R_drew)); exact HO_10.out) hg hat); have n2_ := Aside0.mk (Kd.R_after (ok := (fun k_ => some k_ ≠ (.slice Ao40 t332.length co40 : Value).ownBlock ∧ some k_ ≠ (.slice Ao46 t335.length co46 : Value).ownBlock ∧ some k_ ≠ (.slice Ao42 y347.length co42 : Value).ownBlock)) (by (with_reducible repeat (first | apply Kd.R_alloc | apply Kd.R_drewN | apply Kd.R_drew)); exact HO_11.out) hg hat); have n3_ := Aside0.mk (Kd.R_after (ok := (fun k_ => some k_ ≠ (.slice Ao40 t332.length co40 : Value).ownBlock ∧ some k_ ≠ (.slice Ao46 t335.length co46 : Value).ownBlock ∧ some k_ ≠ (v339 : Value).ownBlock)) (by (with_reducible repeat (first | apply Kd.R_alloc | apply Kd.R_drewN | apply Kd.R_drew)); exact HO349.out) hg hat); have n4_ := Aside0.mk (hb); have n5_ := Aside0.mk (ho); clear HO_9; clear HO_10; clear HO_11; clear HO349; clear HB; clear HO358; have HO_9 := n0_; have HO_10 := n1_; have HO_11 := n2_; have HO349 := n3_; have HB := n4_; have HO361 := n5_; clear n0_ n1_ n2_ n3_ n4_ n5_; clear ho hb hg hat; obtain ⟨Ao48, co48, eo48⟩ := Kd.R_slice HO361.out; subst eo48) | ((with_reducible refine gate_callee (f := 20) rfl ?_); refine goesL_ (some 72) rfl rfl Try.func20 (by kernel_rfl) rfl #[.slice Ao48 y359.length co48, .int .i64 (a1.size : Int)] rfl (by (try simp only [List.map_toArray, List.map_cons, List.map_nil]); first | done | rfl | (simp only [List.length_drop, List.length_take]; rfl)) ?_; (with_reducible refine (wire_TakeText.calls kj13 _ _ y359 (a1.size : Int) t362 t363 t364 _ ?side1 ?side2 A32.out).mono ?_); (case side1 => repeat (first | exact (Kd.R_reads' HO361.out).2.2 | (with_reducible refine Kd.C_alloc ?_ _) | (with_reducible refine Kd.C_drewN ?_ _) | (with_reducible refine Kd.C_drew ?_))); (case side2 => exact (Kd.R_reads' HO361.out).2.1); rintro e w' ⟨rfl, ⟨nd, rfl⟩⟩; refine ⟨_, rfl, ?_⟩) | ((with_reducible refine gate_dst (N := 77) rfl ?_); (try (refine gate_guard (by rfl) ?_; dsimp only)); refine Kd.R_lit (Kd.int .u8) _ 5 ?hg (N := 77) ?hd (xs := ([] : List Int)) (inner := []) (ok := fun _ => True) (okp := fun _ => True) ?hr ?hp (fun _ hk => hk) trivial (Below.refl _ _) (Nat.le_refl _) (by simp) ?_; (case hd => rfl); (case hg => rfl); (case hr => first | (go_simp; done) | (go_simp; rfl)); (case hp => exact (Reps.none _ _)); intro v366 w49 ho50 hb hg_ hnew_; clear hg_ hnew_; (first | rw [← Ny365.out] at ho50 | (simp only [Int.reduceToNat] at ho50; rw [← Ny365.out] at ho50)); have n0_ := Aside0.mk (Kd.R_elder' (by (with_reducible repeat (first | apply Kd.R_alloc | apply Kd.R_drewN | apply Kd.R_drew)); exact HO_9.out) (Kd.R_base ho50) hb); have n1_ := Aside0.mk (Kd.R_elder' (by (with_reducible repeat (first | apply Kd.R_alloc | apply Kd.R_drewN | apply Kd.R_drew)); exact HO_10.out) (Kd.R_base ho50) hb); have n2_ := Aside0.mk (Kd.R_elder' (by (with_reducible repeat (first | apply Kd.R_alloc | apply Kd.R_drewN | apply Kd.R_drew)); exact HO_11.out) (Kd.R_base ho50) hb); have n3_ := Aside0.mk (Kd.R_elder' (by (with_reducible repeat (first | apply Kd.R_alloc | apply Kd.R_drewN | apply Kd.R_drew)); exact HO349.out) (Kd.R_base ho50) hb); have n4_ := Aside0.mk (Kd.R_elder' (by (with_reducible repeat (first | apply Kd.R_alloc | apply Kd.R_drewN | apply Kd.R_drew)); exact HO361.out) (Kd.R_base ho50) hb); have n5_ := Aside0.mk (Kd.R_lower (Kd.R_new' (Kd.R_new' (Kd.R_new' (Kd.R_new' (Kd.R_new' ho50 (Kd.R_lt (by (with_reducible repeat (first | apply Kd.R_alloc | apply Kd.R_drewN | apply Kd.R_drew)); exact HO_9.out))) (Kd.R_lt (by (with_reducible repeat (first | apply Kd.R_alloc | apply Kd.R_drewN | apply Kd.R_drew)); exact HO_10.out))) (Kd.R_lt (by (with_reducible repeat (first | apply Kd.R_alloc | apply Kd.R_drewN | apply Kd.R_drew)); exact HO_11.out))) (Kd.R_lt (by (with_reducible repeat (first | apply Kd.R_alloc | apply Kd.R_drewN | apply Kd.R_drew)); exact HO349.out))) (Kd.R_lt (by (with_reducible repeat (first | apply Kd.R_alloc | apply Kd.R_drewN | apply Kd.R_drew)); exact HO361.out))) (below_size (by repeat (first | (with_reducible first | exact HB.out | apply below_alloc | apply pw_below_drewN | apply below_drew1) | exact HB.out)))); have n6_ := Aside0.mk (below_step (by repeat (first | (with_reducible first | exact HB.out | apply below_alloc | apply pw_below_drewN | apply below_drew1) | exact HB.out)) hb); clear HO_9; clear HO_10; clear HO_11; clear HO349; clear HO361; clear HB; have HO_9 := n0_; have HO_10 := n1_; have HO_11 := n2_; have HO349 := n3_; have HO361 := n4_; have HO367 := n5_; have HB := n6_; clear n0_ n1_ n2_ n3_ n4_ n5_ n6_; clear hb ho50; obtain ⟨Ao52, co52, eo52⟩ := Kd.R_slice HO_11.out; subst eo52) | ((with_reducible refine gate_builtin (b := .append) (xs := #[.tmp 77, .tmp 78]) rfl ?_); (try (refine gate_guard (by rfl) ?_; dsimp only)); at_builtin; refine Kd.R_append_rows (Kd.int .u8) (w0 := w) w.heap.size rfl (.tmp 77) (.tmp 78) 22 5 (.int .u8 0) 1 rfl Try.underlying22 info5 rfl (by decide) (by omega) v366 y365 t338 _ _ _ (fun k_ => some k_ ≠ (.slice Ao40 t332.length co40 : Value).ownBlock ∧ some k_ ≠ (.slice Ao46 t335.length co46 : Value).ownBlock ∧ some k_ ≠ (.slice Ao52 t338.length co52 : Value).ownBlock ∧ some k_ ≠ (.slice Ao42 y347.length co42 : Value).ownBlock ∧ some k_ ≠ (.slice Ao48 y359.length co48 : Value).ownBlock) (fun _ => False) rfl rfl ?aO ?aR (fun _ _ h => h) (fun _ h => h.elim) ?aF ?aB ?aS ?aL ?_; (case aR => repeat (first | exact (Kd.R_reads' HO_11.out).2.2 | (with_reducible refine Kd.C_alloc ?_ _) | (with_reducible refine Kd.C_drewN ?_ _) | (with_reducible refine Kd.C_drew ?_))); (case aB => exact (by repeat (first | (with_reducible first | exact HB.out | apply below_alloc | apply pw_below_drewN | apply below_drew1) | exact HB.out))); (case aF => exact (fun k_ hk => ⟨Kd.fresh' (Kd.R_lt (by (with_reducible repeat (first | apply Kd.R_alloc | apply Kd.R_drewN | apply Kd.R_drew)); exact HO_9.out)) k_ hk, Kd.fresh' (Kd.R_lt (by (with_reducible repeat (first | apply Kd.R_alloc | apply Kd.R_drewN | apply Kd.R_drew)); exact HO_10.out)) k_ hk, Kd.fresh' (Kd.R_lt (by (with_reducible repeat (first | apply Kd.R_alloc | apply Kd.R_drewN | apply Kd.R_drew)); exact HO_11.out)) k_ hk, Kd.fresh' (Kd.R_lt (by (with_reducible repeat (first | apply Kd.R_alloc | apply Kd.R_drewN | apply Kd.R_drew)); exact HO349.out)) k_ hk, Kd.fresh' (Kd.R_lt (by (with_reducible repeat (first | apply Kd.R_alloc | apply Kd.R_drewN | apply Kd.R_drew)); exact HO361.out)) k_ hk⟩)); (case aO => exact (by (with_reducible repeat (first | apply Kd.R_alloc | apply Kd.R_drewN | apply Kd.R_drew)); exact Kd.R_mono HO367.out (fun _ hk => ⟨hk.1.1.1.1.2, ⟨hk.1.1.1.2, ⟨hk.1.1.2, ⟨hk.1.2, hk.2⟩⟩⟩⟩))); (case aS => exact (below_size (by repeat (first | (with_reducible first | exact HB.out | apply below_alloc | apply pw_below_drewN | apply below_drew1) | exact HB.out)))); (case aL => have := LMc33.out; omega); intro v369 w51 ho hb hg hat; rw [← Ny368.out] at ho; have n0_ := Aside0.mk (Kd.R_after (ok := (fun k_ => some k_ ≠ (.slice Ao46 t335.length co46 : Value).ownBlock ∧ some k_ ≠ (.slice Ao52 t338.length co52 : Value).ownBlock ∧ some k_ ≠ (.slice Ao42 y347.length co42 : Value).ownBlock ∧ some k_ ≠ (.slice Ao48 y359.length co48 : Value).ownBlock)) (by (with_reducible repeat (first | apply Kd.R_alloc | apply Kd.R_drewN | apply Kd.R_drew)); exact Kd.R_mono HO_9.out (fun _ hk => ⟨⟨hk.1.1.1, ⟨hk.1.1.2.1, ⟨hk.1.1.2.2, hk.1.2⟩⟩⟩, hk.2⟩)) hg hat); have n1_ := Aside0.mk (Kd.R_after (ok := (fun k_ => some k_ ≠ (.slice Ao40 t332.length co40 : Value).ownBlock ∧ some k_ ≠ (.slice Ao52 t338.length co52 : Value).ownBlock ∧ some k_ ≠ (.slice Ao42 y347.length co42 : Value).ownBlock ∧ some k_ ≠ (.slice Ao48 y359.length co48 : Value).ownBlock)) (by (with_reducible repeat (first | apply Kd.R_alloc | apply Kd.R_drewN | apply Kd.R_drew)); exact Kd.R_mono HO_10.out (fun _ hk => ⟨⟨hk.1.1.1, ⟨hk.1.1.2.1, ⟨hk.1.1.2.2, hk.1.2⟩⟩⟩, hk.2⟩)) hg hat); have n2_ := Aside0.mk (Kd.R_after (ok := (fun k_ => some k_ ≠ (.slice Ao40 t332.length co40 : Value).ownBlock ∧ some k_ ≠ (.slice Ao46 t335.length co46 : Value).ownBlock ∧ some k_ ≠ (.slice Ao42 y347.length co42 : Value).ownBlock ∧ some k_ ≠ (.slice Ao48 y359.length co48 : Value).ownBlock)) (by (with_reducible repeat (first | apply Kd.R_alloc | apply Kd.R_drewN | apply Kd.R_drew)); exact Kd.R_mono HO_11.out (fun _ hk => ⟨⟨hk.1.1.1, ⟨hk.1.1.2.1, ⟨hk.1.1.2.2, hk.1.2⟩⟩⟩, hk.2⟩)) hg hat); have n3_ := Aside0.mk (Kd.R_after (ok := (fun k_ => some k_ ≠ (.slice Ao40 t332.length co40 : Value).ownBlock ∧ some k_ ≠ (.slice Ao46 t335.length co46 : Value).ownBlock ∧ some k_ ≠ (.slice Ao52 t338.length co52 : Value).ownBlock ∧ some k_ ≠ (.slice Ao48 y359.length co48 : Value).ownBlock)) (by (with_reducible repeat (first | apply Kd.R_alloc | apply Kd.R_drewN | apply Kd.R_drew)); exact Kd.R_mono HO349.out (fun _ hk => ⟨⟨hk.1.1.1, ⟨hk.1.1.2.1, ⟨hk.1.1.2.2, hk.1.2⟩⟩⟩, hk.2⟩)) hg hat); have n4_ := Aside0.mk (Kd.R_after (ok := (fun k_ => some k_ ≠ (.slice Ao40 t332.length co40 : Value).ownBlock ∧ some k_ ≠ (.slice Ao46 t335.length co46 : Value).ownBlock ∧ some k_ ≠ (.slice Ao52 t338.length co52 : Value).ownBlock ∧ some k_ ≠ (.slice Ao42 y347.length co42 : Value).ownBlock)) (by (with_reducible repeat (first | apply Kd.R_alloc | apply Kd.R_drewN | apply Kd.R_drew)); exact HO361.out) hg hat); have n5_ := Aside0.mk (hb); have n6_ := Aside0.mk (ho); clear HO_9; clear HO_10; clear HO_11; clear HO349; clear HO361; clear HB; clear HO367; have HO_9 := n0_; have HO_10 := n1_; have HO_11 := n2_; have HO349 := n3_; have HO361 := n4_; have HB := n5_; have HO370 := n6_; clear n0_ n1_ n2_ n3_ n4_ n5_ n6_; clear ho hb hg hat) | ((with_reducible refine gate_builtin (b := .append) (xs := #[.tmp 79, .tmp 80]) rfl ?_); (try (refine gate_guard (by rfl) ?_; dsimp only)); at_builtin; refine Kd.R_append_rows (Kd.int .u8) (w0 := w) w.heap.size rfl (.tmp 79) (.tmp 80) 22 5 (.int .u8 0) 1 rfl Try.underlying22 info5 rfl (by decide) (by omega) v369 y368 l3 _ _ _ (fun k_ => some k_ ≠ (.slice Ao40 t332.length co40 : Value).ownBlock ∧ some k_ ≠ (.slice Ao46 t335.length co46 : Value).ownBlock ∧ some k_ ≠ (.slice Ao52 t338.length co52 : Value).ownBlock ∧ some k_ ≠ (.slice Ao42 y347.length co42 : Value).ownBlock ∧ some k_ ≠ (.slice Ao48 y359.length co48 : Value).ownBlock) (fun _ => False) rfl rfl ?aO ?aR (fun _ _ h => h) (fun _ h => h.elim) ?aF ?aB ?aS ?aL ?_; (case aR => repeat (first | exact (Kd.C_below HR3.out HB.out) | (with_reducible refine Kd.C_alloc ?_ _) | (with_reducible refine Kd.C_drewN ?_ _) | (with_reducible refine Kd.C_drew ?_))); (case aB => exact (by repeat (first | (with_reducible first | exact HB.out | apply below_alloc | apply pw_below_drewN | apply below_drew1) | exact HB.out))); (case aF => exact (fun k_ hk => ⟨Kd.fresh' (Kd.R_lt (by (with_reducible repeat (first | apply Kd.R_alloc | apply Kd.R_drewN | apply Kd.R_drew)); exact HO_9.out)) k_ hk, Kd.fresh' (Kd.R_lt (by (with_reducible repeat (first | apply Kd.R_alloc | apply Kd.R_drewN | apply Kd.R_drew)); exact HO_10.out)) k_ hk, Kd.fresh' (Kd.R_lt (by (with_reducible repeat (first | apply Kd.R_alloc | apply Kd.R_drewN | apply Kd.R_drew)); exact HO_11.out)) k_ hk, Kd.fresh' (Kd.R_lt (by (with_reducible repeat (first | apply Kd.R_alloc | apply Kd.R_drewN | apply Kd.R_drew)); exact HO349.out)) k_ hk, Kd.fresh' (Kd.R_lt (by (with_reducible repeat (first | apply Kd.R_alloc | apply Kd.R_drewN | apply Kd.R_drew)); exact HO361.out)) k_ hk⟩)); (case aO => exact (by (with_reducible repeat (first | apply Kd.R_alloc | apply Kd.R_drewN | apply Kd.R_drew)); exact HO370.out)); (case aS => exact (below_size (by repeat (first | (with_reducible first | exact HB.out | apply below_alloc | apply pw_below_drewN | apply below_drew1) | exact HB.out)))); (case aL => have := LMc34.out; omega); intro v372 w53 ho hb hg hat; rw [← Ny371.out] at ho; have n0_ := Aside0.mk (Kd.R_after (ok := (fun k_ => some k_ ≠ (.slice Ao46 t335.length co46 : Value).ownBlock ∧ some k_ ≠ (.slice Ao52 t338.length co52 : Value).ownBlock ∧ some k_ ≠ (.slice Ao42 y347.length co42 : Value).ownBlock ∧ some k_ ≠ (.slice Ao48 y359.length co48 : Value).ownBlock)) (by (with_reducible repeat (first | apply Kd.R_alloc | apply Kd.R_drewN | apply Kd.R_drew)); exact HO_9.out) hg hat); have n1_ := Aside0.mk (Kd.R_after (ok := (fun k_ => some k_ ≠ (.slice Ao40 t332.length co40 : Value).ownBlock ∧ some k_ ≠ (.slice Ao52 t338.length co52 : Value).ownBlock ∧ some k_ ≠ (.slice Ao42 y347.length co42 : Value).ownBlock ∧ some k_ ≠ (.slice Ao48 y359.length co48 : Value).ownBlock)) (by (with_reducible repeat (first | apply Kd.R_alloc | apply Kd.R_drewN | apply Kd.R_drew)); exact HO_10.out) hg hat); have n2_ := Aside0.mk (Kd.R_after (ok := (fun k_ => some k_ ≠ (.slice Ao40 t332.length co40 : Value).ownBlock ∧ some k_ ≠ (.slice Ao46 t335.length co46 : Value).ownBlock ∧ some k_ ≠ (.slice Ao42 y347.length co42 : Value).ownBlock ∧ some k_ ≠ (.slice Ao48 y359.length co48 : Value).ownBlock)) (by (with_reducible repeat (first | apply Kd.R_alloc | apply Kd.R_drewN | apply Kd.R_drew)); exact HO_11.out) hg hat); have n3_ := Aside0.mk (Kd.R_after (ok := (fun k_ => some k_ ≠ (.slice Ao40 t332.length co40 : Value).ownBlock ∧ some k_ ≠ (.slice Ao46 t335.length co46 : Value).ownBlock ∧ some k_ ≠ (.slice Ao52 t338.length co52 : Value).ownBlock ∧ some k_ ≠ (.slice Ao48 y359.length co48 : Value).ownBlock)) (by (with_reducible repeat (first | apply Kd.R_alloc | apply Kd.R_drewN | apply Kd.R_drew)); exact HO349.out) hg hat); have n4_ := Aside0.mk (Kd.R_after (ok := (fun k_ => some k_ ≠ (.slice Ao40 t332.length co40 : Value).ownBlock ∧ some k_ ≠ (.slice Ao46 t335.length co46 : Value).ownBlock ∧ some k_ ≠ (.slice Ao52 t338.length co52 : Value).ownBlock ∧ some k_ ≠ (.slice Ao42 y347.length co42 : Value).ownBlock)) (by (with_reducible repeat (first | apply Kd.R_alloc | apply Kd.R_drewN | apply Kd.R_drew)); exact HO361.out) hg hat); have n5_ := Aside0.mk (hb); have n6_ := Aside0.mk (ho); clear HO_9; clear HO_10; clear HO_11; clear HO349; clear HO361; clear HB; clear HO370; have HO_9 := n0_; have HO_10 := n1_; have HO_11 := n2_; have HO349 := n3_; have HO361 := n4_; have HB := n5_; have HO373 := n6_; clear n0_ n1_ n2_ n3_ n4_ n5_ n6_; clear ho hb hg hat; obtain ⟨Ao54, co54, eo54⟩ := Kd.R_slice HO373.out; subst eo54) | ((with_reducible refine gate_callee (f := 22) rfl ?_); refine goesL_ (some 84) rfl rfl Try.func22 (by kernel_rfl) rfl #[.slice Ao54 y371.length co54, .int .i64 (l2.length : Int)] rfl (by (try simp only [List.map_toArray, List.map_cons, List.map_nil]); first | done | rfl | (simp only [List.length_drop, List.length_take]; rfl)) ?_; (with_reducible refine (wire_TakeList.calls kj13 _ _ y371 (l2.length : Int) t374 t375 t376 _ ?side1 ?side2 A35.out).mono ?_); (case side1 => repeat (first | exact (Kd.R_reads' HO373.out).2.2 | (with_reducible refine Kd.C_alloc ?_ _) | (with_reducible refine Kd.C_drewN ?_ _) | (with_reducible refine Kd.C_drew ?_))); (case side2 => exact (Kd.R_reads' HO373.out).2.1); rintro e w55 ⟨v377, rfl, ho0, hb⟩; refine ⟨_, rfl, ?_⟩; have n0_ := Aside0.mk (Kd.R_below (by (with_reducible repeat (first | apply Kd.R_alloc | apply Kd.R_drewN | apply Kd.R_drew)); exact HO_9.out) hb); have n1_ := Aside0.mk (Kd.R_below (by (with_reducible repeat (first | apply Kd.R_alloc | apply Kd.R_drewN | apply Kd.R_drew)); exact HO_10.out) hb); have n2_ := Aside0.mk (Kd.R_below (by (with_reducible repeat (first | apply Kd.R_alloc | apply Kd.R_drewN | apply Kd.R_drew)); exact HO_11.out) hb); have n3_ := Aside0.mk (Kd.R_below (by (with_reducible repeat (first | apply Kd.R_alloc | apply Kd.R_drewN | apply Kd.R_drew)); exact HO349.out) hb); have n4_ := Aside0.mk (Kd.R_below (by (with_reducible repeat (first | apply Kd.R_alloc | apply Kd.R_drewN | apply Kd.R_drew)); exact HO361.out) hb); have n5_ := Aside0.mk (Kd.R_below (by (with_reducible repeat (first | apply Kd.R_alloc | apply Kd.R_drewN | apply Kd.R_drew)); exact HO373.out) hb); have n6_ := Aside0.mk (Kd.R_lower ho0 (below_size (by repeat (first | (with_reducible first | exact HB.out | apply below_alloc | apply pw_below_drewN | apply below_drew1) | exact HB.out)))); have n7_ := Aside0.mk (below_step (by repeat (first | (with_reducible first | exact HB.out | apply below_alloc | apply pw_below_drewN | apply below_drew1) | exact HB.out)) hb); clear HO_9; clear HO_10; clear HO_11; clear HO349; clear HO361; clear HO373; clear HB; have HO_9 := n0_; have HO_10 := n1_; have HO_11 := n2_; have HO349 := n3_; have HO361 := n4_; have HO373 := n5_; have HO378 := n6_; have HB := n7_; clear n0_ n1_ n2_ n3_ n4_ n5_ n6_ n7_; (try clear hb); (try clear hb2); (try clear hk); (try clear hi); (try clear ho0)))
              (try simp only [Act.put, List.setIfInBounds_toArray, List.set_cons_zero, List.set_cons_succ])
              go_cut [115] (fun v115 wc => ∃ (kq : Nat) (x115_35 : Bool), v115 = .bool x115_35 ∧ Aside0 (papermilllaw08_WireRoundTrip.j2 kq a0 a1 l2 t350 t362 t374 x115_35 = some r) ∧ Aside0 (kq ≤ kj13) ∧ Aside0 (Kd.R (Kd.int .i64) 3 wc w.heap.size (fun _ => True) v377 t374) ∧ Aside0 (Below w.heap.size w wc))
              case first =>
               have H := HC36.out
               clear HC36
               by_cases c56 : t352 = 0
               ·rw [if_pos c56] at H
                have c56b0 : (t352 == 0) = true := beq_iff_eq.mpr c56
                have c56b1 : (t352 != 0) = false := bne_eq_false_iff_eq.mpr c56
                clear c56
                (first | rw [c56b0] | (simp only [i64_w, i32_w]; rw [c56b0]) | skip)
                by_cases c57 : t364 = 0
                ·rw [if_pos c57] at H
                 have c57b0 : (t364 == 0) = true := beq_iff_eq.mpr c57
                 have c57b1 : (t364 != 0) = false := bne_eq_false_iff_eq.mpr c57
                 clear c57
                 by_cases c58 : t376 = 0
                 ·rw [if_pos c58] at H
                  have c58b0 : (t376 == 0) = true := beq_iff_eq.mpr c58
                  have c58b1 : (t376 != 0) = false := bne_eq_false_iff_eq.mpr c58
                  clear c58
                  by_cases c59 : t351 = (t332.length : Int)
                  ·rw [if_pos c59] at H
                   have c59b0 : (t351 == (t332.length : Int)) = true := beq_iff_eq.mpr c59
                   have c59b1 : (t351 != (t332.length : Int)) = false := bne_eq_false_iff_eq.mpr c59
                   clear c59
                   by_cases c60 : t363 = (t335.length : Int)
                   ·rw [if_pos c60] at H
                    have c60b0 : (t363 == (t335.length : Int)) = true := beq_iff_eq.mpr c60
                    have c60b1 : (t363 != (t335.length : Int)) = false := bne_eq_false_iff_eq.mpr c60
                    clear c60
                    have H' := Aside0.mk H
                    clear H
                    go_wp2
                    go_meet
                    case rel => exact ⟨_, ((t375 != (t338.length : Int))), (by first | rfl | (simp; done) | (simp [*]; done)), H', ⟨by have := HJ4.out; have := HJ13.out; first | omega | exact Nat.le_refl _⟩, ⟨by (with_reducible repeat (first | apply Kd.R_alloc | apply Kd.R_drewN | apply Kd.R_drew)); exact HO378.out⟩, ⟨by repeat (first | (with_reducible first | exact HB.out | apply below_alloc | apply pw_below_drewN | apply below_drew1) | exact HB.out)⟩⟩
                   ·rw [if_neg c60] at H
                    have c60b0 : (t363 == (t335.length : Int)) = false := beq_eq_false_iff_ne.mpr c60
                    have c60b1 : (t363 != (t335.length : Int)) = true := bne_iff_ne.mpr c60
                    have H' := Aside0.mk H
                    clear H
                    go_wp2
                    go_meet
                    case rel => exact ⟨_, (true), (by first | rfl | (simp; done) | (simp [*]; done)), H', ⟨by have := HJ4.out; have := HJ13.out; first | omega | exact Nat.le_refl _⟩, ⟨by (with_reducible repeat (first | apply Kd.R_alloc | apply Kd.R_drewN | apply Kd.R_drew)); exact HO378.out⟩, ⟨by repeat (first | (with_reducible first | exact HB.out | apply below_alloc | apply pw_below_drewN | apply below_drew1) | exact HB.out)⟩⟩
                  ·rw [if_neg c59] at H
                   have c59b0 : (t351 == (t332.length : Int)) = false := beq_eq_false_iff_ne.mpr c59
                   have c59b1 : (t351 != (t332.length : Int)) = true := bne_iff_ne.mpr c59
                   have H' := Aside0.mk H
                   clear H
                   go_wp2
                   go_meet
                   case rel => exact ⟨_, (true), (by first | rfl | (simp; done) | (simp [*]; done)), H', ⟨by have := HJ4.out; have := HJ13.out; first | omega | exact Nat.le_refl _⟩, ⟨by (with_reducible repeat (first | apply Kd.R_alloc | apply Kd.R_drewN | apply Kd.R_drew)); exact HO378.out⟩, ⟨by repeat (first | (with_reducible first | exact HB.out | apply below_alloc | apply pw_below_drewN | apply below_drew1) | exact HB.out)⟩⟩
                 ·rw [if_neg c58] at H
                  have c58b0 : (t376 == 0) = false := beq_eq_false_iff_ne.mpr c58
                  have c58b1 : (t376 != 0) = true := bne_iff_ne.mpr c58
                  have H' := Aside0.mk H
                  clear H
                  go_wp2
                  go_meet
                  case rel => exact ⟨_, (true), (by first | rfl | (simp; done) | (simp [*]; done)), H', ⟨by have := HJ4.out; have := HJ13.out; first | omega | exact Nat.le_refl _⟩, ⟨by (with_reducible repeat (first | apply Kd.R_alloc | apply Kd.R_drewN | apply Kd.R_drew)); exact HO378.out⟩, ⟨by repeat (first | (with_reducible first | exact HB.out | apply below_alloc | apply pw_below_drewN | apply below_drew1) | exact HB.out)⟩⟩
                ·rw [if_neg c57] at H
                 have c57b0 : (t364 == 0) = false := beq_eq_false_iff_ne.mpr c57
                 have c57b1 : (t364 != 0) = true := bne_iff_ne.mpr c57
                 have H' := Aside0.mk H
                 clear H
                 go_wp2
                 go_meet
                 case rel => exact ⟨_, (true), (by first | rfl | (simp; done) | (simp [*]; done)), H', ⟨by have := HJ4.out; have := HJ13.out; first | omega | exact Nat.le_refl _⟩, ⟨by (with_reducible repeat (first | apply Kd.R_alloc | apply Kd.R_drewN | apply Kd.R_drew)); exact HO378.out⟩, ⟨by repeat (first | (with_reducible first | exact HB.out | apply below_alloc | apply pw_below_drewN | apply below_drew1) | exact HB.out)⟩⟩
               ·rw [if_neg c56] at H
                have c56b0 : (t352 == 0) = false := beq_eq_false_iff_ne.mpr c56
                have c56b1 : (t352 != 0) = true := bne_iff_ne.mpr c56
                (first | rw [c56b0] | (simp only [i64_w, i32_w]; rw [c56b0]) | skip)
                have H' := Aside0.mk H
                clear H
                go_wp2
                go_meet
                case rel => exact ⟨_, (true), (by first | rfl | (simp; done) | (simp [*]; done)), H', ⟨by have := HJ4.out; have := HJ13.out; first | omega | exact Nat.le_refl _⟩, ⟨by (with_reducible repeat (first | apply Kd.R_alloc | apply Kd.R_drewN | apply Kd.R_drew)); exact HO378.out⟩, ⟨by repeat (first | (with_reducible first | exact HB.out | apply below_alloc | apply pw_below_drewN | apply below_drew1) | exact HB.out)⟩⟩
              case rest =>
               clear HC36
               try clear c1
               try clear c2
               try clear p2
               try clear c3
               try clear c5
               try clear c6
               try clear c6b0
               try clear c6b1
               try clear c7
               try clear c7b0
               try clear c7b1
               try clear c8
               try clear c10
               try clear c11
               try clear c14
               try clear c16
               try clear c18
               try clear c18b0
               try clear c18b1
               try clear c20
               try clear c20b0
               try clear c20b1
               try clear c22
               try clear c26
               try clear c27
               try clear c28
               try clear c30
               try clear c31
               try clear c33
               try clear c34
               try clear c56
               try clear c56b0
               try clear c56b1
               try clear c57
               try clear c57b0
               try clear c57b1
               try clear c58
               try clear c58b0
               try clear c58b1
               try clear c59
               try clear c59b0
               try clear c59b1
               try clear c60
               try clear c60b0
               try clear c60b1
               try clear p2
               obtain ⟨kq, x115_35, rfl, HA, HJ35, HO_18, HB⟩ := hcut
               cases kq with
               | zero => exact absurd HA.out (by simp [papermilllaw08_WireRoundTrip.j2])
               | succ kj35 =>
                have H := HA.out
                clear HA
                simp only [papermilllaw08_WireRoundTrip.j2] at H
                by_cases c61 : x115_35 = true
                ·subst c61
                 have H1 : (some false) = some r := by rw [if_pos rfl] at H; exact H
                 clear H
                 have H := H1
                 clear H1
                 obtain rfl := Option.some.inj H
                 go_wp2
                 go_ret
                 exact ⟨by first | rfl | (simp [errW_none, errW_some] <;> rfl) | (simp [*, errW_none, errW_some] <;> rfl), by repeat (first | (with_reducible first | exact HB.out | apply below_alloc | apply pw_below_drewN | apply below_drew1) | exact HB.out)⟩
                ·replace c61 := Bool.eq_false_iff.mpr c61
                 subst c61
                 have H1 : (if t350 = a0 then (if t362.toList = a1.toList then ((papermillref08_Ints.f kj35 t374 l2).bind fun t379 => (if t379 = true then ((papermilllaw08_awake.f kj35).bind fun t380 => (some t380)) else (some false))) else (some false)) else (some false)) = some r := by rw [if_neg (show ¬ (false = true) by decide)] at H; exact H
                 clear H
                 have H := H1
                 clear H1
                 by_cases c62 : t350 = a0
                 ·rw [if_pos c62] at H
                  have c62b0 : (t350 == a0) = true := beq_iff_eq.mpr c62
                  have c62b1 : (t350 != a0) = false := bne_eq_false_iff_eq.mpr c62
                  clear c62
                  by_cases c63 : t362.toList = a1.toList
                  ·rw [if_pos c63] at H
                   have c63b0 : (t362.toList == a1.toList) = true := beq_iff_eq.mpr c63
                   have c63b1 : (t362.toList != a1.toList) = false := bne_eq_false_iff_eq.mpr c63
                   clear c63
                   replace H := Option.bind_eq_some_iff.mp H
                   obtain ⟨t379, A640, H⟩ := H
                   replace H : (if t379 = true then ((papermilllaw08_awake.f kj35).bind fun t380 => (some t380)) else (some false)) = some r := H
                   have A64 := Aside0.mk A640
                   clear A640
                   by_cases c65 : t379 = true
                   ·subst c65
                    have H1 : ((papermilllaw08_awake.f kj35).bind fun t380 => (some t380)) = some r := by rw [if_pos rfl] at H; exact H
                    clear H
                    have H := H1
                    clear H1
                    replace H := Option.bind_eq_some_iff.mp H
                    obtain ⟨t380, A660, H⟩ := H
                    replace H : (some t380) = some r := H
                    have A66 := Aside0.mk A660
                    clear A660
                    obtain rfl := Option.some.inj H
                    obtain ⟨Ao67, co67, eo67⟩ := Kd.R_slice HO_18.out
                    subst eo67
                    go_wp2_with (first | (go_at_call 24; (with_reducible refine (papermillref08_Ints.calls kj35 _ _ t374 _ _ l2 true _ ?side1 ?side2 ?side3 ?side4 A64.out).mono ?_); (case side1 => repeat (first | exact (Kd.R_reads' HO_18.out).2.2 | (with_reducible refine Kd.C_alloc ?_ _) | (with_reducible refine Kd.C_drewN ?_ _) | (with_reducible refine Kd.C_drew ?_))); (case side2 => exact (Kd.R_reads' HO_18.out).2.1); (case side3 => repeat (first | exact (Kd.C_below HR2.out HB.out) | (with_reducible refine Kd.C_alloc ?_ _) | (with_reducible refine Kd.C_drewN ?_ _) | (with_reducible refine Kd.C_drew ?_))); (case side4 => exact HC2.out); rintro e w' ⟨rfl, ⟨nd, rfl⟩⟩) | (go_at_call 10; (with_reducible refine (papermilllaw08_awake.calls kj35  t380 _ A66.out).mono ?_); rintro e w68 ⟨rfl, hb⟩; have n0_ := Aside0.mk (Kd.R_below (by (with_reducible repeat (first | apply Kd.R_alloc | apply Kd.R_drewN | apply Kd.R_drew)); exact HO_18.out) hb); have n1_ := Aside0.mk (below_step (by repeat (first | (with_reducible first | exact HB.out | apply below_alloc | apply pw_below_drewN | apply below_drew1) | exact HB.out)) hb); clear HO_18; clear HB; have HO_18 := n0_; have HB := n1_; clear n0_ n1_; (try clear hb); (try clear hb2); (try clear hk); (try clear hi)))
                    go_ret
                    exact ⟨by first | rfl | (simp [errW_none, errW_some] <;> rfl) | (simp [*, errW_none, errW_some] <;> rfl), by repeat (first | (with_reducible first | exact HB.out | apply below_alloc | apply pw_below_drewN | apply below_drew1) | exact HB.out)⟩
                   ·replace c65 := Bool.eq_false_iff.mpr c65
                    subst c65
                    have H1 : (some false) = some r := by rw [if_neg (show ¬ (false = true) by decide)] at H; exact H
                    clear H
                    have H := H1
                    clear H1
                    obtain rfl := Option.some.inj H
                    obtain ⟨Ao69, co69, eo69⟩ := Kd.R_slice HO_18.out
                    subst eo69
                    go_wp2_with (first | (go_at_call 24; (with_reducible refine (papermillref08_Ints.calls kj35 _ _ t374 _ _ l2 false _ ?side1 ?side2 ?side3 ?side4 A64.out).mono ?_); (case side1 => repeat (first | exact (Kd.R_reads' HO_18.out).2.2 | (with_reducible refine Kd.C_alloc ?_ _) | (with_reducible refine Kd.C_drewN ?_ _) | (with_reducible refine Kd.C_drew ?_))); (case side2 => exact (Kd.R_reads' HO_18.out).2.1); (case side3 => repeat (first | exact (Kd.C_below HR2.out HB.out) | (with_reducible refine Kd.C_alloc ?_ _) | (with_reducible refine Kd.C_drewN ?_ _) | (with_reducible refine Kd.C_drew ?_))); (case side4 => exact HC2.out); rintro e w' ⟨rfl, ⟨nd, rfl⟩⟩))
                    go_ret
                    exact ⟨by first | rfl | (simp [errW_none, errW_some] <;> rfl) | (simp [*, errW_none, errW_some] <;> rfl), by repeat (first | (with_reducible first | exact HB.out | apply below_alloc | apply pw_below_drewN | apply below_drew1) | exact HB.out)⟩
                  ·rw [if_neg c63] at H
                   have c63b0 : (t362.toList == a1.toList) = false := beq_eq_false_iff_ne.mpr c63
                   have c63b1 : (t362.toList != a1.toList) = true := bne_iff_ne.mpr c63
                   obtain rfl := Option.some.inj H
                   go_wp2
                   go_ret
                   exact ⟨by first | rfl | (simp [errW_none, errW_some] <;> rfl) | (simp [*, errW_none, errW_some] <;> rfl), by repeat (first | (with_reducible first | exact HB.out | apply below_alloc | apply pw_below_drewN | apply below_drew1) | exact HB.out)⟩
                 ·rw [if_neg c62] at H
                  have c62b0 : (t350 == a0) = false := beq_eq_false_iff_ne.mpr c62
                  have c62b1 : (t350 != a0) = true := bne_iff_ne.mpr c62
                  obtain rfl := Option.some.inj H
                  go_wp2
                  go_ret
                  exact ⟨by first | rfl | (simp [errW_none, errW_some] <;> rfl) | (simp [*, errW_none, errW_some] <;> rfl), by repeat (first | (with_reducible first | exact HB.out | apply below_alloc | apply pw_below_drewN | apply below_drew1) | exact HB.out)⟩
             ·rw [if_neg c34] at H
              exact absurd H (by simp)
            ·rw [if_neg c33] at H
             exact absurd H (by simp)
           ·rw [if_neg c31] at H
            exact absurd H (by simp)
          ·rw [if_neg c30] at H
           exact absurd H (by simp)
         ·rw [if_neg c28] at H
          exact absurd H (by simp)
        ·rw [if_neg c27] at H
         exact absurd H (by simp)

/-- THE ONE PURE STATEMENT of papermilllaw08_WireRoundTrip: yours. -/
def papermilllaw08_WireRoundTrip.Pure : Prop := ∀ (a0 : Int) (a1 : ByteArray) (l2 : List Int) (l3 : List Int), (Lit.int .i64 a0).wf = true → a1.size ≤ 140737488351232 → l2.length ≤ maxLen → l2.length * 8 ≤ 140737488351232 → (∀ x ∈ l2, (Lit.int .i64 x).wf = true) → l3.length ≤ maxLen → l3.length * 1 ≤ 140737488351232 → (∀ x ∈ l3, (Lit.int .u8 x).wf = true) → ∃ k, papermilllaw08_WireRoundTrip.f k a0 a1 l2 l3 = some true
theorem papermilllaw08_WireRoundTrip.walk (P : papermilllaw08_WireRoundTrip.Pure) (a0 : Int) (a1 : ByteArray) (a2 : Option Addr) (len2 cap2 : Nat) (z2 : List Int) (a3 : Option Addr) (len3 cap3 : Nat) (z3 : List Int) (w : World) (w0 : (Lit.int .i64 a0).wf = true) (w1 : a1.size ≤ 140737488351232) (w2 : (a2 = none ∧ len2 = 0 ∧ cap2 = 0 ∧ z2 = []) ∨ ∃ x, a2 = some x ∧ len2 ≤ cap2 ∧ cap2 ≤ maxLen ∧ z2.length = cap2 ∧ (∀ i, i < z2.length → w.cell? (x.add i) = some (.int .i64 (z2.getD i 0))) ∧ ∀ n ∈ z2, (Lit.int .i64 n).wf = true) (y2 : len2 * 8 ≤ 140737488351232) (w3 : (a3 = none ∧ len3 = 0 ∧ cap3 = 0 ∧ z3 = []) ∨ ∃ x, a3 = some x ∧ len3 ≤ cap3 ∧ cap3 ≤ maxLen ∧ z3.length = cap3 ∧ (∀ i, i < z3.length → w.cell? (x.add i) = some (.int .u8 (z3.getD i 0))) ∧ ∀ n ∈ z3, (Lit.int .u8 n).wf = true) (y3 : len3 * 1 ≤ 140737488351232) :
    Calls Try.prog 8 #[.int .i64 a0, .string a1, .slice a2 len2 cap2, .slice a3 len3 cap3] w fun e w' => e = .returned (.bool true) ∧ Below w.heap.size w w' := by
  obtain ⟨l2, rfl, hr2, hm2, hw2, hc2⟩ := ReadsInt.ofRowC w2
  obtain ⟨l3, rfl, hr3, hm3, hw3, hc3⟩ := ReadsInt.ofRowC w3
  obtain ⟨k, h⟩ := P a0 a1 l2 l3 w0 w1 hm2 y2 hw2 hm3 y3 hw3
  refine (papermilllaw08_WireRoundTrip.calls k a0 a1 _ _ l2 _ _ l3 true w (Kd.C_of_reads (d := (0 : Int)) (h1 := fun _ => rfl) hr2) hc2 (Kd.C_of_reads (d := (0 : Int)) (h1 := fun _ => rfl) hr3) hc3 h).mono ?_
  rintro e w' ⟨rfl, hd⟩
  exact ⟨rfl, hd⟩

end Go.Proofs.Ytjbjmopagjjkaaa.PX
