-- Written by a program of this session (hyb.py), which runs the print over the translation with contracts of its own added; it is not the print itself. Lean checks it.
import Derived.Test.YtjbjmopagjjkaaaPKx0
import Derived.Test.YtjbjmopagjjkaaaPKx1
import Derived.Test.YtjbjmopagjjkaaaPKx2
namespace Go.Proofs.Ytjbjmopagjjkaaa.PK
open Go.RowKit Go.Proofs.YtjbjmopagjjkaaaW.PrintWords Go.Proofs.YtjbjmopagjjkaaaW.PrintLast Go.Proofs.YtjbjmopagjjkaaaW.PrintMore
attribute [local go_sem] max2_int min2_int max_two min_two max_three min_three max_four min_four   -- for this text's walks alone
set_option linter.unusedVariables false
set_option linter.unusedSimpArgs false

/-! ### papermilllaw08_WireKeeps: function 5 -/
def papermilllaw08_WireKeeps.j0 : Nat → List Int → Int → ByteArray → List Int → Bool → Option (Bool)
  | 0, _, _, _, _, _ => none
  | k + 1, x0, x1, x2, x3, x25 => if x25 = true then ((papermilllaw08_awake.f k).bind fun t160 => (some t160)) else ((some (([] : List Int) : List Int)).bind fun y161 => (if y161.length + x0.length < 140737488355328 then ((some (y161 ++ x0 : List Int)).bind fun y164 => ((some (([1, 2, 3, 4] : List Int) : List Int)).bind fun y167 => (if y164.length + y167.length < 140737488355328 then ((some (y164 ++ y167 : List Int)).bind fun y170 => (if 0 ≤ (x0.length : Int) then (if (x0.length : Int) ≤ (y170.length : Int) then ((wire_PutInt.f (y170.take ((x0.length : Int) : Int).toNat) x1).bind fun t177 => ((wire_PutText.f (y170.take ((x0.length : Int) : Int).toNat) x2).bind fun t184 => ((wire_PutList.f k (y170.take ((x0.length : Int) : Int).toNat) x3).bind fun t191 => ((some (([] : List Int) : List Int)).bind fun y194 => (if y194.length + x0.length < 140737488355328 then ((some (y194 ++ x0 : List Int)).bind fun y197 => ((some (([1, 2, 3, 4] : List Int) : List Int)).bind fun y200 => (if y197.length + y200.length < 140737488355328 then ((papermillref08_Same.f y170 (y197 ++ y200)).bind fun t206 => (if t206 = true then (if (t177.length : Int) > (x0.length : Int) then (if (t184.length : Int) > (x0.length : Int) then (if (t191.length : Int) > (x0.length : Int) then (if (x0.length : Int) ≤ (t177.length : Int) then ((papermillref08_Same.f (t177.take ((x0.length : Int) : Int).toNat) x0).bind fun t211 => (if t211 = true then ((papermilllaw08_awake.f k).bind fun t212 => (some t212)) else (some false))) else (none)) else (some false)) else (some false)) else (some false)) else (some false))) else (none)))) else (none)))))) else (none)) else (none))) else (none)))) else (none)))
def papermilllaw08_WireKeeps.f (k : Nat) (l0 : List Int) (a1 : Int) (a2 : ByteArray) (l3 : List Int) : Option (Bool) := if (l0.length : Int) > 300 then (papermilllaw08_WireKeeps.j0 k l0 a1 a2 l3 true) else (if (a2.size : Int) > 100 then (papermilllaw08_WireKeeps.j0 k l0 a1 a2 l3 true) else (papermilllaw08_WireKeeps.j0 k l0 a1 a2 l3 (decide ((l3.length : Int) > 100))))
theorem papermilllaw08_WireKeeps.mono_l : ∀ k, (∀ y0 y1 y2 y3 y4, LeO (papermilllaw08_WireKeeps.j0 k y0 y1 y2 y3 y4) (papermilllaw08_WireKeeps.j0 (k + 1) y0 y1 y2 y3 y4))
  | 0 => fun _ _ _ _ _ r h => by simp [papermilllaw08_WireKeeps.j0] at h
  | k + 1 => by
    have ih0 := papermilllaw08_WireKeeps.mono_l k
    · intro y0 y1 y2 y3 y4
      unfold papermilllaw08_WireKeeps.j0
      repeat' first
      | (with_reducible exact ih0 _ _ _ _ _)
      | (with_reducible exact papermilllaw08_awake.mono _)
      | (with_reducible exact wire_PutList.mono _ _ _)
      | (with_reducible exact LeO.refl _)
      | (with_reducible exact LeO.none _)
      | (with_reducible refine LeO.ite ?_ ?_)
      | (with_reducible refine LeO.bind ?_ (fun _ => ?_))
      | exact ih0 _ _ _ _ _
      | exact papermilllaw08_awake.mono _
      | exact wire_PutList.mono _ _ _
      | exact LeO.none _
      | refine LeO.ite ?_ ?_
      | refine LeO.bind ?_ (fun _ => ?_)
theorem papermilllaw08_WireKeeps.mono : ∀ a0 a1 a2 a3 k, LeO (papermilllaw08_WireKeeps.f k a0 a1 a2 a3) (papermilllaw08_WireKeeps.f (k + 1) a0 a1 a2 a3) := by
  intro a0 a1 a2 a3 k
  have ih0 := papermilllaw08_WireKeeps.mono_l k
  unfold papermilllaw08_WireKeeps.f
  repeat' first
      | (with_reducible exact ih0 _ _ _ _ _)
      | (with_reducible exact papermilllaw08_awake.mono _)
      | (with_reducible exact wire_PutList.mono _ _ _)
      | (with_reducible exact LeO.refl _)
      | (with_reducible exact LeO.none _)
      | (with_reducible refine LeO.ite ?_ ?_)
      | (with_reducible refine LeO.bind ?_ (fun _ => ?_))
      | exact ih0 _ _ _ _ _
      | exact papermilllaw08_awake.mono _
      | exact wire_PutList.mono _ _ _
      | exact LeO.none _
      | refine LeO.ite ?_ ?_
      | refine LeO.bind ?_ (fun _ => ?_)
def papermilllaw08_WireKeeps.T4 : Bool × List (List Nat × List Nat) := (true, [([], []), ([], []), ([1], [1]), ([0, 2], [0, 2]), ([], []), ([3, 4], [3, 4]), ([], []), ([], []), ([7], [7]), ([6, 8], [6, 8]), ([], []), ([9, 10, 5], [9, 10]), ([], []), ([], []), ([13], [13]), ([12, 14], [12, 14]), ([], []), ([15, 16, 11], [15, 16]), ([5, 17, 0, 1, 2, 3, 4, 5], [5]), ([11, 18, 0, 1, 2, 3, 4, 5, 6, 7, 8, 9, 10, 11, 18], [11]), ([17, 19, 0, 1, 2, 3, 4, 5, 6, 7, 8, 9, 10, 11, 12, 13, 14, 15, 16, 17, 18, 19], [17])])
def papermilllaw08_WireKeeps.B4 : List Nat := [0, 0, 2, 7, 0, 31, 0, 0, 128, 448, 0, 2047, 0, 0, 8192, 28672, 0, 131071, 262143, 524287, 1048575]
theorem papermilllaw08_WireKeeps.tab4 : rtab .any (opsOf Try.f5 4) = papermilllaw08_WireKeeps.T4 := by kernel_rfl
theorem papermilllaw08_WireKeeps.bits4 : waitsOk papermilllaw08_WireKeeps.T4.2 papermilllaw08_WireKeeps.B4 = true := by kernel_rfl
set_option maxHeartbeats 8000000 in
set_option maxRecDepth 100000 in
theorem papermilllaw08_WireKeeps.calls (k : Nat) (A0 : Option Addr) (c0 : Nat) (l0 : List Int) (a1 : Int) (a2 : ByteArray) (A3 : Option Addr) (c3 : Nat) (l3 : List Int) (w : World) (hr0 : Kd.C (Kd.int .u8) w A0 l0.length l0) (hc0 : l0.length ≤ c0) (hr3 : Kd.C (Kd.int .i64) w A3 l3.length l3) (hc3 : l3.length ≤ c3) (h : papermilllaw08_WireKeeps.f k l0 a1 a2 l3 = some true) :
    Calls Try.prog 5 #[.slice A0 l0.length c0, .int .i64 a1, .string a2, .slice A3 l3.length c3] w fun e w' => e = .returned (.bool true) ∧ Below w.heap.size w w' := by
  have HR0 := Aside0.mk hr0
  have HC0 := Aside0.mk hc0
  clear hr0 hc0
  have HR3 := Aside0.mk hr3
  have HC3 := Aside0.mk hc3
  clear hr3 hc3
  have HB := Aside0.mk (Below.refl w.heap.size w)
  have H : (if (l0.length : Int) > 300 then (papermilllaw08_WireKeeps.j0 k l0 a1 a2 l3 true) else (if (a2.size : Int) > 100 then (papermilllaw08_WireKeeps.j0 k l0 a1 a2 l3 true) else (papermilllaw08_WireKeeps.j0 k l0 a1 a2 l3 (decide ((l3.length : Int) > 100))))) = some true := h
  clear h
  have HC5 := Aside0.mk H
  clear H
  go_enter Try.func5, Try.ntmps5
  go_upto_region 1 with (fail)
  go_cut [25] (fun v25 wc => ∃ (kq : Nat) (x25_4 : Bool), v25 = .bool x25_4 ∧ Aside0 (papermilllaw08_WireKeeps.j0 kq l0 a1 a2 l3 x25_4 = some true) ∧ Aside0 (kq ≤ k) ∧ Aside0 (Below w.heap.size w wc))
  case first =>
   have H := HC5.out
   clear HC5
   by_cases c6 : (l0.length : Int) > 300
   ·rw [if_pos c6] at H
    have c6b0 : decide (300 < (l0.length : Int)) = true := decide_eq_true c6
    have c6b1 : decide (300 < l0.length) = true := decide_eq_true (by omega)
    clear c6
    (first | rw [c6b0] | (simp only [i64_w, i32_w]; rw [c6b0]) | skip)
    have H' := Aside0.mk H
    clear H
    go_wp2
    go_meet
    case rel => exact ⟨_, (true), (by first | rfl | (simp; done) | (simp [*]; done)), H', ⟨by first | omega | exact Nat.le_refl _⟩, ⟨by repeat (first | (with_reducible first | exact HB.out | apply below_alloc | apply pw_below_drewN | apply below_drew1) | exact HB.out)⟩⟩
   ·rw [if_neg c6] at H
    have c6b0 : decide (300 < (l0.length : Int)) = false := decide_eq_false c6
    have c6b1 : decide (300 < l0.length) = false := decide_eq_false (by omega)
    clear c6
    (first | rw [c6b0] | (simp only [i64_w, i32_w]; rw [c6b0]) | skip)
    by_cases c7 : (a2.size : Int) > 100
    ·rw [if_pos c7] at H
     have c7b0 : decide (100 < (a2.size : Int)) = true := decide_eq_true c7
     have c7b1 : decide (100 < a2.size) = true := decide_eq_true (by omega)
     clear c7
     have H' := Aside0.mk H
     clear H
     go_wp2
     go_meet
     case rel => exact ⟨_, (true), (by first | rfl | (simp; done) | (simp [*]; done)), H', ⟨by first | omega | exact Nat.le_refl _⟩, ⟨by repeat (first | (with_reducible first | exact HB.out | apply below_alloc | apply pw_below_drewN | apply below_drew1) | exact HB.out)⟩⟩
    ·rw [if_neg c7] at H
     have c7b0 : decide (100 < (a2.size : Int)) = false := decide_eq_false c7
     have c7b1 : decide (100 < a2.size) = false := decide_eq_false (by omega)
     clear c7
     have H' := Aside0.mk H
     clear H
     go_wp2
     go_meet
     case rel => exact ⟨_, (decide ((l3.length : Int) > 100)), (by first | rfl | (simp; done) | (simp [*]; done)), H', ⟨by first | omega | exact Nat.le_refl _⟩, ⟨by repeat (first | (with_reducible first | exact HB.out | apply below_alloc | apply pw_below_drewN | apply below_drew1) | exact HB.out)⟩⟩
  case rest =>
   clear HC5
   try clear p2
   try clear c3
   try clear c5
   try clear c6
   try clear c6b0
   try clear c6b1
   try clear c7
   try clear c7b0
   try clear c7b1
   obtain ⟨kq, x25_4, rfl, HA, HJ4, HB⟩ := hcut
   cases kq with
   | zero => exact absurd HA.out (by simp [papermilllaw08_WireKeeps.j0])
   | succ kj4 =>
    have H := HA.out
    clear HA
    simp only [papermilllaw08_WireKeeps.j0] at H
    by_cases c8 : x25_4 = true
    ·subst c8
     have H1 : ((papermilllaw08_awake.f kj4).bind fun t160 => (some t160)) = some true := by rw [if_pos rfl] at H; exact H
     clear H
     have H := H1
     clear H1
     replace H := Option.bind_eq_some_iff.mp H
     obtain ⟨t160, A90, H⟩ := H
     replace H : (some t160) = some true := H
     have A9 := Aside0.mk A90
     clear A90
     have Hl := Option.some.inj H
     go_wp2_with (first | ((with_reducible refine gate_callee (f := 10) rfl ?_); refine goesL_ (some 26) rfl rfl Try.func10 (by kernel_rfl) rfl #[] rfl (by (try simp only [List.map_toArray, List.map_cons, List.map_nil]); first | done | rfl | (simp only [List.length_drop, List.length_take]; rfl)) ?_; (with_reducible refine (papermilllaw08_awake.calls kj4  t160 _ A9.out).mono ?_); rintro e w10 ⟨rfl, hb⟩; refine ⟨_, rfl, ?_⟩; have n0_ := Aside0.mk (below_step (by repeat (first | (with_reducible first | exact HB.out | apply below_alloc | apply pw_below_drewN | apply below_drew1) | exact HB.out)) hb); clear HB; have HB := n0_; clear n0_; (try clear hb); (try clear hb2); (try clear hk); (try clear hi)))
     go_ret
     exact ⟨by first | rfl | (simp [errW_none, errW_some] <;> rfl) | (simp [*, errW_none, errW_some] <;> rfl), by repeat (first | (with_reducible first | exact HB.out | apply below_alloc | apply pw_below_drewN | apply below_drew1) | exact HB.out)⟩
    ·replace c8 := Bool.eq_false_iff.mpr c8
     subst c8
     have H1 : ((some (([] : List Int) : List Int)).bind fun y161 => (if y161.length + l0.length < 140737488355328 then ((some (y161 ++ l0 : List Int)).bind fun y164 => ((some (([1, 2, 3, 4] : List Int) : List Int)).bind fun y167 => (if y164.length + y167.length < 140737488355328 then ((some (y164 ++ y167 : List Int)).bind fun y170 => (if 0 ≤ (l0.length : Int) then (if (l0.length : Int) ≤ (y170.length : Int) then ((wire_PutInt.f (y170.take ((l0.length : Int) : Int).toNat) a1).bind fun t177 => ((wire_PutText.f (y170.take ((l0.length : Int) : Int).toNat) a2).bind fun t184 => ((wire_PutList.f kj4 (y170.take ((l0.length : Int) : Int).toNat) l3).bind fun t191 => ((some (([] : List Int) : List Int)).bind fun y194 => (if y194.length + l0.length < 140737488355328 then ((some (y194 ++ l0 : List Int)).bind fun y197 => ((some (([1, 2, 3, 4] : List Int) : List Int)).bind fun y200 => (if y197.length + y200.length < 140737488355328 then ((papermillref08_Same.f y170 (y197 ++ y200)).bind fun t206 => (if t206 = true then (if (t177.length : Int) > (l0.length : Int) then (if (t184.length : Int) > (l0.length : Int) then (if (t191.length : Int) > (l0.length : Int) then (if (l0.length : Int) ≤ (t177.length : Int) then ((papermillref08_Same.f (t177.take ((l0.length : Int) : Int).toNat) l0).bind fun t211 => (if t211 = true then ((papermilllaw08_awake.f kj4).bind fun t212 => (some t212)) else (some false))) else (none)) else (some false)) else (some false)) else (some false)) else (some false))) else (none)))) else (none)))))) else (none)) else (none))) else (none)))) else (none))) = some true := by rw [if_neg (show ¬ (false = true) by decide)] at H; exact H
     clear H
     have H := H1
     clear H1
     obtain ⟨y161, hy161⟩ : ∃ y_ : List Int, y_ = (([] : List Int)) := ⟨_, rfl⟩
     replace H : (if y161.length + l0.length < 140737488355328 then ((some (y161 ++ l0 : List Int)).bind fun y164 => ((some (([1, 2, 3, 4] : List Int) : List Int)).bind fun y167 => (if y164.length + y167.length < 140737488355328 then ((some (y164 ++ y167 : List Int)).bind fun y170 => (if 0 ≤ (l0.length : Int) then (if (l0.length : Int) ≤ (y170.length : Int) then ((wire_PutInt.f (y170.take ((l0.length : Int) : Int).toNat) a1).bind fun t177 => ((wire_PutText.f (y170.take ((l0.length : Int) : Int).toNat) a2).bind fun t184 => ((wire_PutList.f kj4 (y170.take ((l0.length : Int) : Int).toNat) l3).bind fun t191 => ((some (([] : List Int) : List Int)).bind fun y194 => (if y194.length + l0.length < 140737488355328 then ((some (y194 ++ l0 : List Int)).bind fun y197 => ((some (([1, 2, 3, 4] : List Int) : List Int)).bind fun y200 => (if y197.length + y200.length < 140737488355328 then ((papermillref08_Same.f y170 (y197 ++ y200)).bind fun t206 => (if t206 = true then (if (t177.length : Int) > (l0.length : Int) then (if (t184.length : Int) > (l0.length : Int) then (if (t191.length : Int) > (l0.length : Int) then (if (l0.length : Int) ≤ (t177.length : Int) then ((papermillref08_Same.f (t177.take ((l0.length : Int) : Int).toNat) l0).bind fun t211 => (if t211 = true then ((papermilllaw08_awake.f kj4).bind fun t212 => (some t212)) else (some false))) else (none)) else (some false)) else (some false)) else (some false)) else (some false))) else (none)))) else (none)))))) else (none)) else (none))) else (none)))) else (none)) = some true := by first | (rw [hy161]; with_reducible exact H) | (have H2_ := (Option.bind_some _ _).symm.trans H; rw [hy161]; with_reducible exact H2_) | (have H2_ := (Option.bind_some _ _).symm.trans H; with_reducible exact H2_) | with_reducible exact H | (rw [hy161]; exact H) | exact H
     have Ny161 := Aside0.mk hy161
     clear hy161
     by_cases c11 : y161.length + l0.length < 140737488355328
     ·rw [if_pos c11] at H
      have LMc11 := Aside0.mk c11
      clear c11
      obtain ⟨y164, hy164⟩ : ∃ y_ : List Int, y_ = (y161 ++ l0) := ⟨_, rfl⟩
      replace H : ((some (([1, 2, 3, 4] : List Int) : List Int)).bind fun y167 => (if y164.length + y167.length < 140737488355328 then ((some (y164 ++ y167 : List Int)).bind fun y170 => (if 0 ≤ (l0.length : Int) then (if (l0.length : Int) ≤ (y170.length : Int) then ((wire_PutInt.f (y170.take ((l0.length : Int) : Int).toNat) a1).bind fun t177 => ((wire_PutText.f (y170.take ((l0.length : Int) : Int).toNat) a2).bind fun t184 => ((wire_PutList.f kj4 (y170.take ((l0.length : Int) : Int).toNat) l3).bind fun t191 => ((some (([] : List Int) : List Int)).bind fun y194 => (if y194.length + l0.length < 140737488355328 then ((some (y194 ++ l0 : List Int)).bind fun y197 => ((some (([1, 2, 3, 4] : List Int) : List Int)).bind fun y200 => (if y197.length + y200.length < 140737488355328 then ((papermillref08_Same.f y170 (y197 ++ y200)).bind fun t206 => (if t206 = true then (if (t177.length : Int) > (l0.length : Int) then (if (t184.length : Int) > (l0.length : Int) then (if (t191.length : Int) > (l0.length : Int) then (if (l0.length : Int) ≤ (t177.length : Int) then ((papermillref08_Same.f (t177.take ((l0.length : Int) : Int).toNat) l0).bind fun t211 => (if t211 = true then ((papermilllaw08_awake.f kj4).bind fun t212 => (some t212)) else (some false))) else (none)) else (some false)) else (some false)) else (some false)) else (some false))) else (none)))) else (none)))))) else (none)) else (none))) else (none))) = some true := by first | (rw [hy164]; with_reducible exact H) | (have H2_ := (Option.bind_some _ _).symm.trans H; rw [hy164]; with_reducible exact H2_) | (have H2_ := (Option.bind_some _ _).symm.trans H; with_reducible exact H2_) | with_reducible exact H | (rw [hy164]; exact H) | exact H
      have Ny164 := Aside0.mk hy164
      clear hy164
      obtain ⟨y167, hy167⟩ : ∃ y_ : List Int, y_ = (([1, 2, 3, 4] : List Int)) := ⟨_, rfl⟩
      replace H : (if y164.length + y167.length < 140737488355328 then ((some (y164 ++ y167 : List Int)).bind fun y170 => (if 0 ≤ (l0.length : Int) then (if (l0.length : Int) ≤ (y170.length : Int) then ((wire_PutInt.f (y170.take ((l0.length : Int) : Int).toNat) a1).bind fun t177 => ((wire_PutText.f (y170.take ((l0.length : Int) : Int).toNat) a2).bind fun t184 => ((wire_PutList.f kj4 (y170.take ((l0.length : Int) : Int).toNat) l3).bind fun t191 => ((some (([] : List Int) : List Int)).bind fun y194 => (if y194.length + l0.length < 140737488355328 then ((some (y194 ++ l0 : List Int)).bind fun y197 => ((some (([1, 2, 3, 4] : List Int) : List Int)).bind fun y200 => (if y197.length + y200.length < 140737488355328 then ((papermillref08_Same.f y170 (y197 ++ y200)).bind fun t206 => (if t206 = true then (if (t177.length : Int) > (l0.length : Int) then (if (t184.length : Int) > (l0.length : Int) then (if (t191.length : Int) > (l0.length : Int) then (if (l0.length : Int) ≤ (t177.length : Int) then ((papermillref08_Same.f (t177.take ((l0.length : Int) : Int).toNat) l0).bind fun t211 => (if t211 = true then ((papermilllaw08_awake.f kj4).bind fun t212 => (some t212)) else (some false))) else (none)) else (some false)) else (some false)) else (some false)) else (some false))) else (none)))) else (none)))))) else (none)) else (none))) else (none)) = some true := by first | (rw [hy167]; with_reducible exact H) | (have H2_ := (Option.bind_some _ _).symm.trans H; rw [hy167]; with_reducible exact H2_) | (have H2_ := (Option.bind_some _ _).symm.trans H; with_reducible exact H2_) | with_reducible exact H | (rw [hy167]; exact H) | exact H
      have Ny167 := Aside0.mk hy167
      clear hy167
      by_cases c12 : y164.length + y167.length < 140737488355328
      ·rw [if_pos c12] at H
       have LMc12 := Aside0.mk c12
       clear c12
       obtain ⟨y170, hy170⟩ : ∃ y_ : List Int, y_ = (y164 ++ y167) := ⟨_, rfl⟩
       replace H : (if 0 ≤ (l0.length : Int) then (if (l0.length : Int) ≤ (y170.length : Int) then ((wire_PutInt.f (y170.take ((l0.length : Int) : Int).toNat) a1).bind fun t177 => ((wire_PutText.f (y170.take ((l0.length : Int) : Int).toNat) a2).bind fun t184 => ((wire_PutList.f kj4 (y170.take ((l0.length : Int) : Int).toNat) l3).bind fun t191 => ((some (([] : List Int) : List Int)).bind fun y194 => (if y194.length + l0.length < 140737488355328 then ((some (y194 ++ l0 : List Int)).bind fun y197 => ((some (([1, 2, 3, 4] : List Int) : List Int)).bind fun y200 => (if y197.length + y200.length < 140737488355328 then ((papermillref08_Same.f y170 (y197 ++ y200)).bind fun t206 => (if t206 = true then (if (t177.length : Int) > (l0.length : Int) then (if (t184.length : Int) > (l0.length : Int) then (if (t191.length : Int) > (l0.length : Int) then (if (l0.length : Int) ≤ (t177.length : Int) then ((papermillref08_Same.f (t177.take ((l0.length : Int) : Int).toNat) l0).bind fun t211 => (if t211 = true then ((papermilllaw08_awake.f kj4).bind fun t212 => (some t212)) else (some false))) else (none)) else (some false)) else (some false)) else (some false)) else (some false))) else (none)))) else (none)))))) else (none)) else (none)) = some true := by first | (rw [hy170]; with_reducible exact H) | (have H2_ := (Option.bind_some _ _).symm.trans H; rw [hy170]; with_reducible exact H2_) | (have H2_ := (Option.bind_some _ _).symm.trans H; with_reducible exact H2_) | with_reducible exact H | (rw [hy170]; exact H) | exact H
       have Ny170 := Aside0.mk hy170
       clear hy170
       by_cases c13 : 0 ≤ (l0.length : Int)
       ·rw [if_pos c13] at H
        have c13b0 := eq_true c13
        have c13b1 : decide (0 ≤ (l0.length : Int)) = true := decide_eq_true c13
        clear c13
        by_cases c14 : (l0.length : Int) ≤ (y170.length : Int)
        ·rw [if_pos c14] at H
         have c14b0 := eq_true c14
         have c14b1 : decide ((l0.length : Int) ≤ (y170.length : Int)) = true := decide_eq_true c14
         clear c14
         obtain ⟨y173, hy173⟩ : ∃ y_ : List Int, y_ = (y170.take ((l0.length : Int) : Int).toNat) := ⟨_, rfl⟩
         replace H : ((wire_PutInt.f y173 a1).bind fun t177 => ((wire_PutText.f (y170.take ((l0.length : Int) : Int).toNat) a2).bind fun t184 => ((wire_PutList.f kj4 (y170.take ((l0.length : Int) : Int).toNat) l3).bind fun t191 => ((some (([] : List Int) : List Int)).bind fun y194 => (if y194.length + l0.length < 140737488355328 then ((some (y194 ++ l0 : List Int)).bind fun y197 => ((some (([1, 2, 3, 4] : List Int) : List Int)).bind fun y200 => (if y197.length + y200.length < 140737488355328 then ((papermillref08_Same.f y170 (y197 ++ y200)).bind fun t206 => (if t206 = true then (if (t177.length : Int) > (l0.length : Int) then (if (t184.length : Int) > (l0.length : Int) then (if (t191.length : Int) > (l0.length : Int) then (if (l0.length : Int) ≤ (t177.length : Int) then ((papermillref08_Same.f (t177.take ((l0.length : Int) : Int).toNat) l0).bind fun t211 => (if t211 = true then ((papermilllaw08_awake.f kj4).bind fun t212 => (some t212)) else (some false))) else (none)) else (some false)) else (some false)) else (some false)) else (some false))) else (none)))) else (none)))))) = some true := by first | (rw [hy173]; with_reducible exact H) | (have H2_ := (Option.bind_some _ _).symm.trans H; rw [hy173]; with_reducible exact H2_) | (have H2_ := (Option.bind_some _ _).symm.trans H; with_reducible exact H2_) | with_reducible exact H | (rw [hy173]; exact H) | exact H
         have Ny173 := Aside0.mk hy173
         clear hy173
         replace H := Option.bind_eq_some_iff.mp H
         obtain ⟨t177, A150, H⟩ := H
         replace H : ((wire_PutText.f (y170.take ((l0.length : Int) : Int).toNat) a2).bind fun t184 => ((wire_PutList.f kj4 (y170.take ((l0.length : Int) : Int).toNat) l3).bind fun t191 => ((some (([] : List Int) : List Int)).bind fun y194 => (if y194.length + l0.length < 140737488355328 then ((some (y194 ++ l0 : List Int)).bind fun y197 => ((some (([1, 2, 3, 4] : List Int) : List Int)).bind fun y200 => (if y197.length + y200.length < 140737488355328 then ((papermillref08_Same.f y170 (y197 ++ y200)).bind fun t206 => (if t206 = true then (if (t177.length : Int) > (l0.length : Int) then (if (t184.length : Int) > (l0.length : Int) then (if (t191.length : Int) > (l0.length : Int) then (if (l0.length : Int) ≤ (t177.length : Int) then ((papermillref08_Same.f (t177.take ((l0.length : Int) : Int).toNat) l0).bind fun t211 => (if t211 = true then ((papermilllaw08_awake.f kj4).bind fun t212 => (some t212)) else (some false))) else (none)) else (some false)) else (some false)) else (some false)) else (some false))) else (none)))) else (none))))) = some true := H
         have A15 := Aside0.mk A150
         clear A150
         have c16b0 := eq_true (of_decide_eq_true (by first | (with_reducible assumption) | assumption) : 0 ≤ (l0.length : Int))
         have c17b0 := eq_true (of_decide_eq_true (by first | (with_reducible assumption) | assumption) : (l0.length : Int) ≤ (y170.length : Int))
         obtain ⟨y180, hy180⟩ : ∃ y_ : List Int, y_ = (y170.take ((l0.length : Int) : Int).toNat) := ⟨_, rfl⟩
         replace H : ((wire_PutText.f y180 a2).bind fun t184 => ((wire_PutList.f kj4 (y170.take ((l0.length : Int) : Int).toNat) l3).bind fun t191 => ((some (([] : List Int) : List Int)).bind fun y194 => (if y194.length + l0.length < 140737488355328 then ((some (y194 ++ l0 : List Int)).bind fun y197 => ((some (([1, 2, 3, 4] : List Int) : List Int)).bind fun y200 => (if y197.length + y200.length < 140737488355328 then ((papermillref08_Same.f y170 (y197 ++ y200)).bind fun t206 => (if t206 = true then (if (t177.length : Int) > (l0.length : Int) then (if (t184.length : Int) > (l0.length : Int) then (if (t191.length : Int) > (l0.length : Int) then (if (l0.length : Int) ≤ (t177.length : Int) then ((papermillref08_Same.f (t177.take ((l0.length : Int) : Int).toNat) l0).bind fun t211 => (if t211 = true then ((papermilllaw08_awake.f kj4).bind fun t212 => (some t212)) else (some false))) else (none)) else (some false)) else (some false)) else (some false)) else (some false))) else (none)))) else (none))))) = some true := by first | (rw [hy180]; with_reducible exact H) | (have H2_ := (Option.bind_some _ _).symm.trans H; rw [hy180]; with_reducible exact H2_) | (have H2_ := (Option.bind_some _ _).symm.trans H; with_reducible exact H2_) | with_reducible exact H | (rw [hy180]; exact H) | exact H
         have Ny180 := Aside0.mk hy180
         clear hy180
         replace H := Option.bind_eq_some_iff.mp H
         obtain ⟨t184, A180, H⟩ := H
         replace H : ((wire_PutList.f kj4 (y170.take ((l0.length : Int) : Int).toNat) l3).bind fun t191 => ((some (([] : List Int) : List Int)).bind fun y194 => (if y194.length + l0.length < 140737488355328 then ((some (y194 ++ l0 : List Int)).bind fun y197 => ((some (([1, 2, 3, 4] : List Int) : List Int)).bind fun y200 => (if y197.length + y200.length < 140737488355328 then ((papermillref08_Same.f y170 (y197 ++ y200)).bind fun t206 => (if t206 = true then (if (t177.length : Int) > (l0.length : Int) then (if (t184.length : Int) > (l0.length : Int) then (if (t191.length : Int) > (l0.length : Int) then (if (l0.length : Int) ≤ (t177.length : Int) then ((papermillref08_Same.f (t177.take ((l0.length : Int) : Int).toNat) l0).bind fun t211 => (if t211 = true then ((papermilllaw08_awake.f kj4).bind fun t212 => (some t212)) else (some false))) else (none)) else (some false)) else (some false)) else (some false)) else (some false))) else (none)))) else (none)))) = some true := H
         have A18 := Aside0.mk A180
         clear A180
         have c19b0 := eq_true (of_decide_eq_true (by first | (with_reducible assumption) | assumption) : 0 ≤ (l0.length : Int))
         have c20b0 := eq_true (of_decide_eq_true (by first | (with_reducible assumption) | assumption) : (l0.length : Int) ≤ (y170.length : Int))
         obtain ⟨y187, hy187⟩ : ∃ y_ : List Int, y_ = (y170.take ((l0.length : Int) : Int).toNat) := ⟨_, rfl⟩
         replace H : ((wire_PutList.f kj4 y187 l3).bind fun t191 => ((some (([] : List Int) : List Int)).bind fun y194 => (if y194.length + l0.length < 140737488355328 then ((some (y194 ++ l0 : List Int)).bind fun y197 => ((some (([1, 2, 3, 4] : List Int) : List Int)).bind fun y200 => (if y197.length + y200.length < 140737488355328 then ((papermillref08_Same.f y170 (y197 ++ y200)).bind fun t206 => (if t206 = true then (if (t177.length : Int) > (l0.length : Int) then (if (t184.length : Int) > (l0.length : Int) then (if (t191.length : Int) > (l0.length : Int) then (if (l0.length : Int) ≤ (t177.length : Int) then ((papermillref08_Same.f (t177.take ((l0.length : Int) : Int).toNat) l0).bind fun t211 => (if t211 = true then ((papermilllaw08_awake.f kj4).bind fun t212 => (some t212)) else (some false))) else (none)) else (some false)) else (some false)) else (some false)) else (some false))) else (none)))) else (none)))) = some true := by first | (rw [hy187]; with_reducible exact H) | (have H2_ := (Option.bind_some _ _).symm.trans H; rw [hy187]; with_reducible exact H2_) | (have H2_ := (Option.bind_some _ _).symm.trans H; with_reducible exact H2_) | with_reducible exact H | (rw [hy187]; exact H) | exact H
         have Ny187 := Aside0.mk hy187
         clear hy187
         replace H := Option.bind_eq_some_iff.mp H
         obtain ⟨t191, A210, H⟩ := H
         replace H : ((some (([] : List Int) : List Int)).bind fun y194 => (if y194.length + l0.length < 140737488355328 then ((some (y194 ++ l0 : List Int)).bind fun y197 => ((some (([1, 2, 3, 4] : List Int) : List Int)).bind fun y200 => (if y197.length + y200.length < 140737488355328 then ((papermillref08_Same.f y170 (y197 ++ y200)).bind fun t206 => (if t206 = true then (if (t177.length : Int) > (l0.length : Int) then (if (t184.length : Int) > (l0.length : Int) then (if (t191.length : Int) > (l0.length : Int) then (if (l0.length : Int) ≤ (t177.length : Int) then ((papermillref08_Same.f (t177.take ((l0.length : Int) : Int).toNat) l0).bind fun t211 => (if t211 = true then ((papermilllaw08_awake.f kj4).bind fun t212 => (some t212)) else (some false))) else (none)) else (some false)) else (some false)) else (some false)) else (some false))) else (none)))) else (none))) = some true := H
         have A21 := Aside0.mk A210
         clear A210
         obtain ⟨y194, hy194⟩ : ∃ y_ : List Int, y_ = (([] : List Int)) := ⟨_, rfl⟩
         replace H : (if y194.length + l0.length < 140737488355328 then ((some (y194 ++ l0 : List Int)).bind fun y197 => ((some (([1, 2, 3, 4] : List Int) : List Int)).bind fun y200 => (if y197.length + y200.length < 140737488355328 then ((papermillref08_Same.f y170 (y197 ++ y200)).bind fun t206 => (if t206 = true then (if (t177.length : Int) > (l0.length : Int) then (if (t184.length : Int) > (l0.length : Int) then (if (t191.length : Int) > (l0.length : Int) then (if (l0.length : Int) ≤ (t177.length : Int) then ((papermillref08_Same.f (t177.take ((l0.length : Int) : Int).toNat) l0).bind fun t211 => (if t211 = true then ((papermilllaw08_awake.f kj4).bind fun t212 => (some t212)) else (some false))) else (none)) else (some false)) else (some false)) else (some false)) else (some false))) else (none)))) else (none)) = some true := by first | (rw [hy194]; with_reducible exact H) | (have H2_ := (Option.bind_some _ _).symm.trans H; rw [hy194]; with_reducible exact H2_) | (have H2_ := (Option.bind_some _ _).symm.trans H; with_reducible exact H2_) | with_reducible exact H | (rw [hy194]; exact H) | exact H
         have Ny194 := Aside0.mk hy194
         clear hy194
         by_cases c22 : y194.length + l0.length < 140737488355328
         ·rw [if_pos c22] at H
          have LMc22 := Aside0.mk c22
          clear c22
          obtain ⟨y197, hy197⟩ : ∃ y_ : List Int, y_ = (y194 ++ l0) := ⟨_, rfl⟩
          replace H : ((some (([1, 2, 3, 4] : List Int) : List Int)).bind fun y200 => (if y197.length + y200.length < 140737488355328 then ((papermillref08_Same.f y170 (y197 ++ y200)).bind fun t206 => (if t206 = true then (if (t177.length : Int) > (l0.length : Int) then (if (t184.length : Int) > (l0.length : Int) then (if (t191.length : Int) > (l0.length : Int) then (if (l0.length : Int) ≤ (t177.length : Int) then ((papermillref08_Same.f (t177.take ((l0.length : Int) : Int).toNat) l0).bind fun t211 => (if t211 = true then ((papermilllaw08_awake.f kj4).bind fun t212 => (some t212)) else (some false))) else (none)) else (some false)) else (some false)) else (some false)) else (some false))) else (none))) = some true := by first | (rw [hy197]; with_reducible exact H) | (have H2_ := (Option.bind_some _ _).symm.trans H; rw [hy197]; with_reducible exact H2_) | (have H2_ := (Option.bind_some _ _).symm.trans H; with_reducible exact H2_) | with_reducible exact H | (rw [hy197]; exact H) | exact H
          have Ny197 := Aside0.mk hy197
          clear hy197
          obtain ⟨y200, hy200⟩ : ∃ y_ : List Int, y_ = (([1, 2, 3, 4] : List Int)) := ⟨_, rfl⟩
          replace H : (if y197.length + y200.length < 140737488355328 then ((papermillref08_Same.f y170 (y197 ++ y200)).bind fun t206 => (if t206 = true then (if (t177.length : Int) > (l0.length : Int) then (if (t184.length : Int) > (l0.length : Int) then (if (t191.length : Int) > (l0.length : Int) then (if (l0.length : Int) ≤ (t177.length : Int) then ((papermillref08_Same.f (t177.take ((l0.length : Int) : Int).toNat) l0).bind fun t211 => (if t211 = true then ((papermilllaw08_awake.f kj4).bind fun t212 => (some t212)) else (some false))) else (none)) else (some false)) else (some false)) else (some false)) else (some false))) else (none)) = some true := by first | (rw [hy200]; with_reducible exact H) | (have H2_ := (Option.bind_some _ _).symm.trans H; rw [hy200]; with_reducible exact H2_) | (have H2_ := (Option.bind_some _ _).symm.trans H; with_reducible exact H2_) | with_reducible exact H | (rw [hy200]; exact H) | exact H
          have Ny200 := Aside0.mk hy200
          clear hy200
          by_cases c23 : y197.length + y200.length < 140737488355328
          ·rw [if_pos c23] at H
           have LMc23 := Aside0.mk c23
           clear c23
           obtain ⟨y203, hy203⟩ : ∃ y_ : List Int, y_ = (y197 ++ y200) := ⟨_, rfl⟩
           replace H : ((papermillref08_Same.f y170 y203).bind fun t206 => (if t206 = true then (if (t177.length : Int) > (l0.length : Int) then (if (t184.length : Int) > (l0.length : Int) then (if (t191.length : Int) > (l0.length : Int) then (if (l0.length : Int) ≤ (t177.length : Int) then ((papermillref08_Same.f (t177.take ((l0.length : Int) : Int).toNat) l0).bind fun t211 => (if t211 = true then ((papermilllaw08_awake.f kj4).bind fun t212 => (some t212)) else (some false))) else (none)) else (some false)) else (some false)) else (some false)) else (some false))) = some true := by first | (rw [hy203]; with_reducible exact H) | (have H2_ := (Option.bind_some _ _).symm.trans H; rw [hy203]; with_reducible exact H2_) | (have H2_ := (Option.bind_some _ _).symm.trans H; with_reducible exact H2_) | with_reducible exact H | (rw [hy203]; exact H) | exact H
           have Ny203 := Aside0.mk hy203
           clear hy203
           replace H := Option.bind_eq_some_iff.mp H
           obtain ⟨t206, A240, H⟩ := H
           replace H : (if t206 = true then (if (t177.length : Int) > (l0.length : Int) then (if (t184.length : Int) > (l0.length : Int) then (if (t191.length : Int) > (l0.length : Int) then (if (l0.length : Int) ≤ (t177.length : Int) then ((papermillref08_Same.f (t177.take ((l0.length : Int) : Int).toNat) l0).bind fun t211 => (if t211 = true then ((papermilllaw08_awake.f kj4).bind fun t212 => (some t212)) else (some false))) else (none)) else (some false)) else (some false)) else (some false)) else (some false)) = some true := H
           have A24 := Aside0.mk A240
           clear A240
           by_cases c25 : t206 = true
           ·subst c25
            have H1 : (if (t177.length : Int) > (l0.length : Int) then (if (t184.length : Int) > (l0.length : Int) then (if (t191.length : Int) > (l0.length : Int) then (if (l0.length : Int) ≤ (t177.length : Int) then ((papermillref08_Same.f (t177.take ((l0.length : Int) : Int).toNat) l0).bind fun t211 => (if t211 = true then ((papermilllaw08_awake.f kj4).bind fun t212 => (some t212)) else (some false))) else (none)) else (some false)) else (some false)) else (some false)) = some true := by rw [if_pos rfl] at H; exact H
            clear H
            have H := H1
            clear H1
            by_cases c26 : (t177.length : Int) > (l0.length : Int)
            ·rw [if_pos c26] at H
             have c26b0 : decide ((l0.length : Int) < (t177.length : Int)) = true := decide_eq_true c26
             have c26b1 : decide (l0.length < t177.length) = true := decide_eq_true (Int.ofNat_lt.mp c26)
             clear c26
             by_cases c27 : (t184.length : Int) > (l0.length : Int)
             ·rw [if_pos c27] at H
              have c27b0 : decide ((l0.length : Int) < (t184.length : Int)) = true := decide_eq_true c27
              have c27b1 : decide (l0.length < t184.length) = true := decide_eq_true (Int.ofNat_lt.mp c27)
              clear c27
              by_cases c28 : (t191.length : Int) > (l0.length : Int)
              ·rw [if_pos c28] at H
               have c28b0 : decide ((l0.length : Int) < (t191.length : Int)) = true := decide_eq_true c28
               have c28b1 : decide (l0.length < t191.length) = true := decide_eq_true (Int.ofNat_lt.mp c28)
               clear c28
               have c29b0 := eq_true (of_decide_eq_true (by first | (with_reducible assumption) | assumption) : 0 ≤ (l0.length : Int))
               by_cases c30 : (l0.length : Int) ≤ (t177.length : Int)
               ·rw [if_pos c30] at H
                have c30b0 := eq_true c30
                have c30b1 : decide ((l0.length : Int) ≤ (t177.length : Int)) = true := decide_eq_true c30
                clear c30
                obtain ⟨y207, hy207⟩ : ∃ y_ : List Int, y_ = (t177.take ((l0.length : Int) : Int).toNat) := ⟨_, rfl⟩
                replace H : ((papermillref08_Same.f y207 l0).bind fun t211 => (if t211 = true then ((papermilllaw08_awake.f kj4).bind fun t212 => (some t212)) else (some false))) = some true := by first | (rw [hy207]; with_reducible exact H) | (have H2_ := (Option.bind_some _ _).symm.trans H; rw [hy207]; with_reducible exact H2_) | (have H2_ := (Option.bind_some _ _).symm.trans H; with_reducible exact H2_) | with_reducible exact H | (rw [hy207]; exact H) | exact H
                have Ny207 := Aside0.mk hy207
                clear hy207
                replace H := Option.bind_eq_some_iff.mp H
                obtain ⟨t211, A310, H⟩ := H
                replace H : (if t211 = true then ((papermilllaw08_awake.f kj4).bind fun t212 => (some t212)) else (some false)) = some true := H
                have A31 := Aside0.mk A310
                clear A310
                by_cases c32 : t211 = true
                ·subst c32
                 have H1 : ((papermilllaw08_awake.f kj4).bind fun t212 => (some t212)) = some true := by rw [if_pos rfl] at H; exact H
                 clear H
                 have H := H1
                 clear H1
                 replace H := Option.bind_eq_some_iff.mp H
                 obtain ⟨t212, A330, H⟩ := H
                 replace H : (some t212) = some true := H
                 have A33 := Aside0.mk A330
                 clear A330
                 have Hl := Option.some.inj H
                 try go_wp2_with (first | ((with_reducible refine gate_dst (N := 27) rfl ?_); (try (refine gate_guard (by rfl) ?_; dsimp only)); refine Kd.R_lit (Kd.int .u8) _ 5 ?hg (N := 27) ?hd (xs := ([] : List Int)) (inner := []) (ok := fun _ => True) (okp := fun _ => True) ?hr ?hp (fun _ hk => hk) trivial (Below.refl _ _) (Nat.le_refl _) (by simp) ?_; (case hd => rfl); (case hg => rfl); (case hr => first | (go_simp; done) | (go_simp; rfl)); (case hp => exact (Reps.none _ _)); intro v162 w34 ho35 hb hg_ hnew_; clear hg_ hnew_; (first | rw [← Ny161.out] at ho35 | (simp only [Int.reduceToNat] at ho35; rw [← Ny161.out] at ho35)); have n0_ := Aside0.mk (Kd.R_lower ho35 (below_size (by repeat (first | (with_reducible first | exact HB.out | apply below_alloc | apply pw_below_drewN | apply below_drew1) | exact HB.out)))); have n1_ := Aside0.mk (below_step (by repeat (first | (with_reducible first | exact HB.out | apply below_alloc | apply pw_below_drewN | apply below_drew1) | exact HB.out)) hb); clear HB; have HO163 := n0_; have HB := n1_; clear n0_ n1_; clear hb ho35) | ((with_reducible refine gate_builtin (b := .append) (xs := #[.tmp 27, .tmp 28]) rfl ?_); (try (refine gate_guard (by rfl) ?_; dsimp only)); at_builtin; refine Kd.R_append_rows (Kd.int .u8) (w0 := w) w.heap.size rfl (.tmp 27) (.tmp 28) 22 5 (.int .u8 0) 1 rfl Try.underlying22 info5 rfl (by decide) (by omega) v162 y161 l0 _ _ _ (fun _ => True) (fun _ => False) rfl rfl ?aO ?aR (fun _ _ h => h) (fun _ h => h.elim) ?aF ?aB ?aS ?aL ?_; (case aR => repeat (first | exact (Kd.C_below HR0.out HB.out) | (with_reducible refine Kd.C_alloc ?_ _) | (with_reducible refine Kd.C_drewN ?_ _) | (with_reducible refine Kd.C_drew ?_))); (case aB => exact (by repeat (first | (with_reducible first | exact HB.out | apply below_alloc | apply pw_below_drewN | apply below_drew1) | exact HB.out))); (case aF => exact (fun _ _ => trivial)); (case aO => exact (by (with_reducible repeat (first | apply Kd.R_alloc | apply Kd.R_drewN | apply Kd.R_drew)); exact HO163.out)); (case aS => exact (below_size (by repeat (first | (with_reducible first | exact HB.out | apply below_alloc | apply pw_below_drewN | apply below_drew1) | exact HB.out)))); (case aL => have := LMc11.out; omega); intro v165 w36 ho hb hg hat; rw [← Ny164.out] at ho; have n0_ := Aside0.mk (hb); have n1_ := Aside0.mk (ho); clear HB; clear HO163; have HB := n0_; have HO166 := n1_; clear n0_ n1_; clear ho hb hg hat) | ((with_reducible refine gate_dst (N := 30) rfl ?_); (try (refine gate_guard (by rfl) ?_; dsimp only)); refine Kd.R_lit (Kd.int .u8) _ 5 ?hg (N := 30) ?hd (xs := ([1, 2, 3, 4] : List Int)) (inner := [.int .u8 1, .int .u8 2, .int .u8 3, .int .u8 4]) (ok := fun _ => True) (okp := fun _ => True) ?hr ?hp (fun _ hk => hk) trivial (Below.refl _ _) (Nat.le_refl _) (by simp) ?_; (case hd => rfl); (case hg => rfl); (case hr => first | (go_simp; done) | (go_simp; rfl)); (case hp => exact (Reps.one (show Kd.M (Kd.int .u8) _ _ _ 1 [.int .u8 1] from rfl) (Reps.one (show Kd.M (Kd.int .u8) _ _ _ 2 [.int .u8 2] from rfl) (Reps.one (show Kd.M (Kd.int .u8) _ _ _ 3 [.int .u8 3] from rfl) (Reps.one (show Kd.M (Kd.int .u8) _ _ _ 4 [.int .u8 4] from rfl) (Reps.none _ _)))))); intro v168 w37 ho38 hb hg_ hnew_; clear hg_ hnew_; (first | rw [← Ny167.out] at ho38 | (simp only [Int.reduceToNat] at ho38; rw [← Ny167.out] at ho38)); have n0_ := Aside0.mk (Kd.R_elder' (by (with_reducible repeat (first | apply Kd.R_alloc | apply Kd.R_drewN | apply Kd.R_drew)); exact HO166.out) (Kd.R_base ho38) hb); have n1_ := Aside0.mk (Kd.R_lower (Kd.R_new' ho38 (Kd.R_lt (by (with_reducible repeat (first | apply Kd.R_alloc | apply Kd.R_drewN | apply Kd.R_drew)); exact HO166.out))) (below_size (by repeat (first | (with_reducible first | exact HB.out | apply below_alloc | apply pw_below_drewN | apply below_drew1) | exact HB.out)))); have n2_ := Aside0.mk (below_step (by repeat (first | (with_reducible first | exact HB.out | apply below_alloc | apply pw_below_drewN | apply below_drew1) | exact HB.out)) hb); clear HO166; clear HB; have HO166 := n0_; have HO169 := n1_; have HB := n2_; clear n0_ n1_ n2_; clear hb ho38; obtain ⟨Ao40, co40, eo40⟩ := Kd.R_slice HO169.out; subst eo40) | ((with_reducible refine gate_builtin (b := .append) (xs := #[.tmp 29, .tmp 30]) rfl ?_); (try (refine gate_guard (by rfl) ?_; dsimp only)); at_builtin; refine Kd.R_append_rows (Kd.int .u8) (w0 := w) w.heap.size rfl (.tmp 29) (.tmp 30) 22 5 (.int .u8 0) 1 rfl Try.underlying22 info5 rfl (by decide) (by omega) v165 y164 y167 _ _ _ (fun k_ => some k_ ≠ (.slice Ao40 y167.length co40 : Value).ownBlock) (fun _ => False) rfl rfl ?aO ?aR (fun _ _ h => h) (fun _ h => h.elim) ?aF ?aB ?aS ?aL ?_; (case aR => repeat (first | exact (Kd.R_reads' HO169.out).2.2 | (with_reducible refine Kd.C_alloc ?_ _) | (with_reducible refine Kd.C_drewN ?_ _) | (with_reducible refine Kd.C_drew ?_))); (case aB => exact (by repeat (first | (with_reducible first | exact HB.out | apply below_alloc | apply pw_below_drewN | apply below_drew1) | exact HB.out))); (case aF => exact (fun k_ hk => Kd.fresh' (Kd.R_lt (by (with_reducible repeat (first | apply Kd.R_alloc | apply Kd.R_drewN | apply Kd.R_drew)); exact HO169.out)) k_ hk)); (case aO => exact (by (with_reducible repeat (first | apply Kd.R_alloc | apply Kd.R_drewN | apply Kd.R_drew)); exact Kd.R_mono HO166.out (fun _ hk => hk.2))); (case aS => exact (below_size (by repeat (first | (with_reducible first | exact HB.out | apply below_alloc | apply pw_below_drewN | apply below_drew1) | exact HB.out)))); (case aL => have := LMc12.out; omega); intro v171 w39 ho hb hg hat; rw [← Ny170.out] at ho; have n0_ := Aside0.mk (Kd.R_after (ok := (fun _ => True)) (by (with_reducible repeat (first | apply Kd.R_alloc | apply Kd.R_drewN | apply Kd.R_drew)); exact HO169.out) hg hat); have n1_ := Aside0.mk (hb); have n2_ := Aside0.mk (ho); clear HO169; clear HB; clear HO166; have HO169 := n0_; have HB := n1_; have HO172 := n2_; clear n0_ n1_ n2_; clear ho hb hg hat))
                 have n0_ := Aside0.mk (Kd.R_drew HO169.out)
                 have n1_ := Aside0.mk (Kd.R_drew HO172.out)
                 have n2_ := Aside0.mk (below_drew1 HB.out)
                 clear HO169
                 clear HO172
                 clear HB
                 have HO169 := n0_
                 have HO172 := n1_
                 have HB := n2_
                 clear n0_ n1_ n2_
                 obtain ⟨Ao43, co43, eo43⟩ := Kd.R_slice HO172.out
                 (first | subst eo43 | (injection eo43 with f1_ f2_ f3_; have f4_ := f1_.symm; have f5_ := f3_.symm; clear f1_ f2_ f3_; subst f4_; subst f5_))
                 have q42 : ((l0.length : Int) : Int) ≤ ((y170.length : Int) : Int) := of_decide_eq_true (by first | (with_reducible assumption) | assumption)
                 obtain ⟨i042, hi042, _, hsz42, _⟩ := info_parts info5
                 have hroom42 : y170.length ≤ co43 := (Kd.R_reads' HO172.out).2.1
                 have hC42 : Kd.C (Kd.int .u8) _ Ao43 y170.length y170 := (Kd.R_reads' HO172.out).2.2
                 have hcut42 := cut_to (P := Try.prog) 22 5 .i64 Try.underlying22 hi042 Ao43 y170.length co43 (l0.length : Int) (of_decide_eq_true (by first | (with_reducible assumption) | assumption)) q42 hroom42
                 have hr42 := Kd.C_take (m := ((l0.length : Int) : Int).toNat) hC42 (by omega)
                 have hy42 : y173.length = ((l0.length : Int) : Int).toNat := (by rw [Ny173.out, List.length_take]; omega)
                 rw [← Ny173.out] at hr42
                 rw [← hy42] at hcut42
                 have HR176 := Aside0.mk hr42
                 have HC176 := Aside0.mk (show y173.length ≤ co43 from by omega)
                 clear hr42 hC42 hroom42 hi042 hsz42
                 have KY42 := Aside0.mk hy42
                 clear hy42
                 have KL42 := Aside0.mk (show ((l0.length : Int) : Int).toNat ≤ y170.length from by omega)
                 replace q42 := eq_true q42
                 have q44 : ((l0.length : Int) : Int) ≤ ((y170.length : Int) : Int) := of_decide_eq_true (by first | (with_reducible assumption) | assumption)
                 obtain ⟨i044, hi044, _, hsz44, _⟩ := info_parts info5
                 have hroom44 : y170.length ≤ co43 := (Kd.R_reads' HO172.out).2.1
                 have hC44 : Kd.C (Kd.int .u8) _ Ao43 y170.length y170 := (Kd.R_reads' HO172.out).2.2
                 have hcut44 := cut_to (P := Try.prog) 22 5 .i64 Try.underlying22 hi044 Ao43 y170.length co43 (l0.length : Int) (of_decide_eq_true (by first | (with_reducible assumption) | assumption)) q44 hroom44
                 have hr44 := Kd.C_take (m := ((l0.length : Int) : Int).toNat) hC44 (by omega)
                 have hy44 : y180.length = ((l0.length : Int) : Int).toNat := (by rw [Ny180.out, List.length_take]; omega)
                 rw [← Ny180.out] at hr44
                 rw [← hy44] at hcut44
                 have HR183 := Aside0.mk hr44
                 have HC183 := Aside0.mk (show y180.length ≤ co43 from by omega)
                 clear hr44 hC44 hroom44 hi044 hsz44
                 have KY44 := Aside0.mk hy44
                 clear hy44
                 have KL44 := Aside0.mk (show ((l0.length : Int) : Int).toNat ≤ y170.length from by omega)
                 replace q44 := eq_true q44
                 have q45 : ((l0.length : Int) : Int) ≤ ((y170.length : Int) : Int) := of_decide_eq_true (by first | (with_reducible assumption) | assumption)
                 obtain ⟨i045, hi045, _, hsz45, _⟩ := info_parts info5
                 have hroom45 : y170.length ≤ co43 := (Kd.R_reads' HO172.out).2.1
                 have hC45 : Kd.C (Kd.int .u8) _ Ao43 y170.length y170 := (Kd.R_reads' HO172.out).2.2
                 have hcut45 := cut_to (P := Try.prog) 22 5 .i64 Try.underlying22 hi045 Ao43 y170.length co43 (l0.length : Int) (of_decide_eq_true (by first | (with_reducible assumption) | assumption)) q45 hroom45
                 have hr45 := Kd.C_take (m := ((l0.length : Int) : Int).toNat) hC45 (by omega)
                 have hy45 : y187.length = ((l0.length : Int) : Int).toNat := (by rw [Ny187.out, List.length_take]; omega)
                 rw [← Ny187.out] at hr45
                 rw [← hy45] at hcut45
                 have HR190 := Aside0.mk hr45
                 have HC190 := Aside0.mk (show y187.length ≤ co43 from by omega)
                 clear hr45 hC45 hroom45 hi045 hsz45
                 have KY45 := Aside0.mk hy45
                 clear hy45
                 have KL45 := Aside0.mk (show ((l0.length : Int) : Int).toNat ≤ y170.length from by omega)
                 replace q45 := eq_true q45
                 refine start_ (n := 21) (S := fun w' => True) (ds := []) #[false, false, false, false, false, false, false, false, false, false, false, false, false, false, false, false, false, false, false, false, false] (by kernel_rfl) rfl rfl trivial (fun hHeld => ?_); refine with_tabW papermilllaw08_WireKeeps.tab4 papermilllaw08_WireKeeps.bits4 (fun HT_ HW_ => ?_)
                 generalize w39.drew = w41 at HO169 HO172 HB HR176 HR183 HR190 hHeld ⊢
                 refine pure_ (i := 0) (N := some 32) (v := ?_) (a' := ?_) #[true, false, false, false, false, false, false, false, false, false, false, false, false, false, false, false, false, false, false, false, false] rfl rfl (any_of HT_.out (by kernel_rfl)) (fun _ _ _ h => h) (Or.inl ⟨by rfl, ?_⟩) ?_ ?_
                 rotate_left
                 ·intro w'
                  go_simp
                  with_reducible rfl
                 rotate_left
                 ·simp only [Act.put, List.setIfInBounds_toArray, List.set_cons_zero, List.set_cons_succ, i64_w, i32_w]
                  rfl
                 refine pure_ (i := 1) (N := some 33) (v := ?_) (a' := ?_) #[true, true, false, false, false, false, false, false, false, false, false, false, false, false, false, false, false, false, false, false, false] rfl rfl (any_of HT_.out (by kernel_rfl)) (fun _ _ _ h => h) (Or.inl ⟨by rfl, ?_⟩) ?_ ?_
                 rotate_left
                 ·intro w'
                  go_simp
                  with_reducible rfl
                 rotate_left
                 ·simp only [Act.put, List.setIfInBounds_toArray, List.set_cons_zero, List.set_cons_succ, i64_w, i32_w]
                  rfl
                 refine pure_ (i := 2) (N := some 34) (v := ?_) (a' := ?_) #[true, true, true, false, false, false, false, false, false, false, false, false, false, false, false, false, false, false, false, false, false] rfl rfl (any_of HT_.out (by kernel_rfl)) (fun _ _ _ h => h) (Or.inl ⟨by rfl, ?_⟩) ?_ ?_
                 rotate_left
                 ·intro w'
                  go_simp
                  with_reducible rfl
                 rotate_left
                 ·simp only [Act.put, List.setIfInBounds_toArray, List.set_cons_zero, List.set_cons_succ, i64_w, i32_w]
                  rfl
                 refine pure_ (i := 3) (N := some 35) (v := ?_) (a' := ?_) #[true, true, true, true, false, false, false, false, false, false, false, false, false, false, false, false, false, false, false, false, false] rfl rfl (any_of HT_.out (by kernel_rfl)) (fun _ _ _ h => h) (Or.inl ⟨by rfl, ?_⟩) ?_ ?_
                 rotate_left
                 ·intro w'
                  go_simp
                  with_reducible rfl
                 rotate_left
                 ·simp only [Act.put, List.setIfInBounds_toArray, List.set_cons_zero, List.set_cons_succ, i64_w, i32_w]
                  rfl
                 refine pure_ (i := 4) (N := some 36) (v := ?_) (a' := ?_) #[true, true, true, true, true, false, false, false, false, false, false, false, false, false, false, false, false, false, false, false, false] rfl rfl (any_of HT_.out (by kernel_rfl)) (fun _ _ _ h => h) (Or.inl ⟨by rfl, ?_⟩) ?_ ?_
                 rotate_left
                 ·intro w'
                  go_simp
                  with_reducible rfl
                 rotate_left
                 ·simp only [Act.put, List.setIfInBounds_toArray, List.set_cons_zero, List.set_cons_succ, i64_w, i32_w]
                  rfl
                 refine pure_ (i := 6) (N := some 38) (v := ?_) (a' := ?_) #[true, true, true, true, true, false, true, false, false, false, false, false, false, false, false, false, false, false, false, false, false] rfl rfl (any_of HT_.out (by kernel_rfl)) (fun _ _ _ h => h) (Or.inl ⟨by rfl, ?_⟩) ?_ ?_
                 rotate_left
                 ·intro w'
                  go_simp
                  with_reducible rfl
                 rotate_left
                 ·simp only [Act.put, List.setIfInBounds_toArray, List.set_cons_zero, List.set_cons_succ, i64_w, i32_w]
                  rfl
                 refine pure_ (i := 7) (N := some 39) (v := ?_) (a' := ?_) #[true, true, true, true, true, false, true, true, false, false, false, false, false, false, false, false, false, false, false, false, false] rfl rfl (any_of HT_.out (by kernel_rfl)) (fun _ _ _ h => h) (Or.inl ⟨by rfl, ?_⟩) ?_ ?_
                 rotate_left
                 ·intro w'
                  go_simp
                  with_reducible rfl
                 rotate_left
                 ·simp only [Act.put, List.setIfInBounds_toArray, List.set_cons_zero, List.set_cons_succ, i64_w, i32_w]
                  rfl
                 refine pure_ (i := 8) (N := some 40) (v := ?_) (a' := ?_) #[true, true, true, true, true, false, true, true, true, false, false, false, false, false, false, false, false, false, false, false, false] rfl rfl (any_of HT_.out (by kernel_rfl)) (fun _ _ _ h => h) (Or.inl ⟨by rfl, ?_⟩) ?_ ?_
                 rotate_left
                 ·intro w'
                  go_simp
                  with_reducible rfl
                 rotate_left
                 ·simp only [Act.put, List.setIfInBounds_toArray, List.set_cons_zero, List.set_cons_succ, i64_w, i32_w]
                  rfl
                 refine pure_ (i := 9) (N := some 41) (v := ?_) (a' := ?_) #[true, true, true, true, true, false, true, true, true, true, false, false, false, false, false, false, false, false, false, false, false] rfl rfl (any_of HT_.out (by kernel_rfl)) (fun _ _ _ h => h) (Or.inl ⟨by rfl, ?_⟩) ?_ ?_
                 rotate_left
                 ·intro w'
                  go_simp
                  with_reducible rfl
                 rotate_left
                 ·simp only [Act.put, List.setIfInBounds_toArray, List.set_cons_zero, List.set_cons_succ, i64_w, i32_w]
                  rfl
                 refine pure_ (i := 10) (N := some 42) (v := ?_) (a' := ?_) #[true, true, true, true, true, false, true, true, true, true, true, false, false, false, false, false, false, false, false, false, false] rfl rfl (any_of HT_.out (by kernel_rfl)) (fun _ _ _ h => h) (Or.inl ⟨by rfl, ?_⟩) ?_ ?_
                 rotate_left
                 ·intro w'
                  go_simp
                  with_reducible rfl
                 rotate_left
                 ·simp only [Act.put, List.setIfInBounds_toArray, List.set_cons_zero, List.set_cons_succ, i64_w, i32_w]
                  rfl
                 refine pure_ (i := 12) (N := some 44) (v := ?_) (a' := ?_) #[true, true, true, true, true, false, true, true, true, true, true, false, true, false, false, false, false, false, false, false, false] rfl rfl (any_of HT_.out (by kernel_rfl)) (fun _ _ _ h => h) (Or.inl ⟨by rfl, ?_⟩) ?_ ?_
                 rotate_left
                 ·intro w'
                  go_simp
                  with_reducible rfl
                 rotate_left
                 ·simp only [Act.put, List.setIfInBounds_toArray, List.set_cons_zero, List.set_cons_succ, i64_w, i32_w]
                  rfl
                 refine pure_ (i := 13) (N := some 45) (v := ?_) (a' := ?_) #[true, true, true, true, true, false, true, true, true, true, true, false, true, true, false, false, false, false, false, false, false] rfl rfl (any_of HT_.out (by kernel_rfl)) (fun _ _ _ h => h) (Or.inl ⟨by rfl, ?_⟩) ?_ ?_
                 rotate_left
                 ·intro w'
                  go_simp
                  with_reducible rfl
                 rotate_left
                 ·simp only [Act.put, List.setIfInBounds_toArray, List.set_cons_zero, List.set_cons_succ, i64_w, i32_w]
                  rfl
                 refine pure_ (i := 14) (N := some 46) (v := ?_) (a' := ?_) #[true, true, true, true, true, false, true, true, true, true, true, false, true, true, true, false, false, false, false, false, false] rfl rfl (any_of HT_.out (by kernel_rfl)) (fun _ _ _ h => h) (Or.inl ⟨by rfl, ?_⟩) ?_ ?_
                 rotate_left
                 ·intro w'
                  go_simp
                  with_reducible rfl
                 rotate_left
                 ·simp only [Act.put, List.setIfInBounds_toArray, List.set_cons_zero, List.set_cons_succ, i64_w, i32_w]
                  rfl
                 refine pure_ (i := 15) (N := some 47) (v := ?_) (a' := ?_) #[true, true, true, true, true, false, true, true, true, true, true, false, true, true, true, true, false, false, false, false, false] rfl rfl (any_of HT_.out (by kernel_rfl)) (fun _ _ _ h => h) (Or.inl ⟨by rfl, ?_⟩) ?_ ?_
                 rotate_left
                 ·intro w'
                  go_simp
                  with_reducible rfl
                 rotate_left
                 ·simp only [Act.put, List.setIfInBounds_toArray, List.set_cons_zero, List.set_cons_succ, i64_w, i32_w]
                  rfl
                 refine pure_ (i := 16) (N := some 48) (v := ?_) (a' := ?_) #[true, true, true, true, true, false, true, true, true, true, true, false, true, true, true, true, true, false, false, false, false] rfl rfl (any_of HT_.out (by kernel_rfl)) (fun _ _ _ h => h) (Or.inl ⟨by rfl, ?_⟩) ?_ ?_
                 rotate_left
                 ·intro w'
                  go_simp
                  with_reducible rfl
                 rotate_left
                 ·simp only [Act.put, List.setIfInBounds_toArray, List.set_cons_zero, List.set_cons_succ, i64_w, i32_w]
                  rfl
                 refine one_ (i := 5) (N := some 37) #[true, true, true, true, true, true, true, true, true, true, true, false, true, true, true, true, true, false, false, false, false] rfl rfl (one_of HT_.out (by kernel_rfl)) (by decide) (fun K hK => ?_)
                 refine goes_ Try.func14 (by kernel_rfl) rfl #[.slice Ao43 y173.length co43, .int .i64 a1] (by rfl) rfl rfl (by (try simp only [List.map_toArray, List.map_cons, List.map_nil]); first | done | rfl | (simp only [List.length_drop, List.length_take]; rfl)) ?_
                 with_reducible refine (wire_PutInt.calls _ _ y173 a1 t177 _ ?side1 ?side2 A15.out).mono ?_
                 (case side1 => repeat (first | exact (by repeat (first | (with_reducible exact HR176.out) | (with_reducible refine Kd.C_alloc ?_ _) | (with_reducible refine Kd.C_drewN ?_ _) | (with_reducible refine Kd.C_drew ?_) | exact HR176.out)) | (with_reducible refine Kd.C_alloc ?_ _) | (with_reducible refine Kd.C_drewN ?_ _) | (with_reducible refine Kd.C_drew ?_)))
                 (case side2 => exact HC176.out)
                 rintro e w46 ⟨v178, rfl, ho0, hb⟩
                 refine ⟨_, rfl, ?_⟩
                 have n0_ := Aside0.mk (Kd.R_elder' (by (with_reducible repeat (first | apply Kd.R_alloc | apply Kd.R_drewN | apply Kd.R_drew)); exact HO169.out) (Kd.R_base ho0) hb)
                 have n1_ := Aside0.mk (Kd.R_elder' (by (with_reducible repeat (first | apply Kd.R_alloc | apply Kd.R_drewN | apply Kd.R_drew)); exact HO172.out) (Kd.R_base ho0) hb)
                 have n2_ := Aside0.mk (Kd.R_lower (Kd.R_new' (Kd.R_new' ho0 (Kd.R_lt (by (with_reducible repeat (first | apply Kd.R_alloc | apply Kd.R_drewN | apply Kd.R_drew)); exact HO169.out))) (Kd.R_lt (by (with_reducible repeat (first | apply Kd.R_alloc | apply Kd.R_drewN | apply Kd.R_drew)); exact HO172.out))) (below_size (by repeat (first | (with_reducible first | exact HB.out | apply below_alloc | apply pw_below_drewN | apply below_drew1) | exact HB.out))))
                 have n3_ := Aside0.mk (Kd.C_below (by repeat (first | (with_reducible exact HR176.out) | (with_reducible refine Kd.C_alloc ?_ _) | (with_reducible refine Kd.C_drewN ?_ _) | (with_reducible refine Kd.C_drew ?_) | exact HR176.out)) hb)
                 have n4_ := Aside0.mk (Kd.C_below (by repeat (first | (with_reducible exact HR183.out) | (with_reducible refine Kd.C_alloc ?_ _) | (with_reducible refine Kd.C_drewN ?_ _) | (with_reducible refine Kd.C_drew ?_) | exact HR183.out)) hb)
                 have n5_ := Aside0.mk (Kd.C_below (by repeat (first | (with_reducible exact HR190.out) | (with_reducible refine Kd.C_alloc ?_ _) | (with_reducible refine Kd.C_drewN ?_ _) | (with_reducible refine Kd.C_drew ?_) | exact HR190.out)) hb)
                 have n6_ := Aside0.mk (below_step (by repeat (first | (with_reducible first | exact HB.out | apply below_alloc | apply pw_below_drewN | apply below_drew1) | exact HB.out)) hb)
                 clear HO169
                 clear HO172
                 clear HR176
                 clear HR183
                 clear HR190
                 clear HB
                 have HO169 := n0_
                 have HO172 := n1_
                 have HO179 := n2_
                 have HR176 := n3_
                 have HR183 := n4_
                 have HR190 := n5_
                 have HB := n6_
                 clear n0_ n1_ n2_ n3_ n4_ n5_ n6_
                 (try clear hb)
                 (try clear hb2)
                 (try clear hk)
                 (try clear hi)
                 (try clear ho0)
                 refine hK.out _ _ trivial (fun hHeld => ?_)
                 clear hK K
                 refine norm_ (a' := ?_) ?_ ?_
                 rotate_left
                 ·show Act.put _ (some 37) _ = _
                  simp only [Act.put, List.setIfInBounds_toArray, List.set_cons_zero, List.set_cons_succ, i64_w, i32_w]
                  rfl
                 refine one_ (i := 11) (N := some 43) #[true, true, true, true, true, true, true, true, true, true, true, true, true, true, true, true, true, false, false, false, false] rfl rfl (one_of HT_.out (by kernel_rfl)) (by decide) (fun K hK => ?_)
                 refine goes_ Try.func16 (by kernel_rfl) rfl #[.slice Ao43 y180.length co43, .string a2] (by rfl) rfl rfl (by (try simp only [List.map_toArray, List.map_cons, List.map_nil]); first | done | rfl | (exact Eq.trans (show _ = #[Value.slice Ao43 y173.length co43, .string a2] from rfl) (by simp only [KY42.out, KY44.out, KY45.out])) | (exact Eq.trans (show _ = #[Value.slice Ao43 y180.length co43, .string a2] from rfl) (by simp only [KY42.out, KY44.out, KY45.out])) | (exact Eq.trans (show _ = #[Value.slice Ao43 y187.length co43, .string a2] from rfl) (by simp only [KY42.out, KY44.out, KY45.out])) | (exact Eq.trans (show _ = #[Value.slice Ao43 ((l0.length : Int) : Int).toNat co43, .string a2] from rfl) (by simp only [KY42.out, KY44.out, KY45.out])) | (simp only [List.length_drop, List.length_take]; rfl)) ?_
                 with_reducible refine (wire_PutText.calls _ _ y180 a2 t184 _ ?side1 ?side2 A18.out).mono ?_
                 (case side1 => repeat (first | exact (by repeat (first | (with_reducible exact HR183.out) | (with_reducible refine Kd.C_alloc ?_ _) | (with_reducible refine Kd.C_drewN ?_ _) | (with_reducible refine Kd.C_drew ?_) | exact HR183.out)) | (with_reducible refine Kd.C_alloc ?_ _) | (with_reducible refine Kd.C_drewN ?_ _) | (with_reducible refine Kd.C_drew ?_)))
                 (case side2 => exact HC183.out)
                 rintro e w47 ⟨v185, rfl, ho0, hb⟩
                 refine ⟨_, rfl, ?_⟩
                 have n0_ := Aside0.mk (Kd.R_elder' (by (with_reducible repeat (first | apply Kd.R_alloc | apply Kd.R_drewN | apply Kd.R_drew)); exact HO169.out) (Kd.R_base ho0) hb)
                 have n1_ := Aside0.mk (Kd.R_elder' (by (with_reducible repeat (first | apply Kd.R_alloc | apply Kd.R_drewN | apply Kd.R_drew)); exact HO172.out) (Kd.R_base ho0) hb)
                 have n2_ := Aside0.mk (Kd.R_elder' (by (with_reducible repeat (first | apply Kd.R_alloc | apply Kd.R_drewN | apply Kd.R_drew)); exact HO179.out) (Kd.R_base ho0) hb)
                 have n3_ := Aside0.mk (Kd.R_lower (Kd.R_new' (Kd.R_new' (Kd.R_new' ho0 (Kd.R_lt (by (with_reducible repeat (first | apply Kd.R_alloc | apply Kd.R_drewN | apply Kd.R_drew)); exact HO169.out))) (Kd.R_lt (by (with_reducible repeat (first | apply Kd.R_alloc | apply Kd.R_drewN | apply Kd.R_drew)); exact HO172.out))) (Kd.R_lt (by (with_reducible repeat (first | apply Kd.R_alloc | apply Kd.R_drewN | apply Kd.R_drew)); exact HO179.out))) (below_size (by repeat (first | (with_reducible first | exact HB.out | apply below_alloc | apply pw_below_drewN | apply below_drew1) | exact HB.out))))
                 have n4_ := Aside0.mk (Kd.C_below (by repeat (first | (with_reducible exact HR176.out) | (with_reducible refine Kd.C_alloc ?_ _) | (with_reducible refine Kd.C_drewN ?_ _) | (with_reducible refine Kd.C_drew ?_) | exact HR176.out)) hb)
                 have n5_ := Aside0.mk (Kd.C_below (by repeat (first | (with_reducible exact HR183.out) | (with_reducible refine Kd.C_alloc ?_ _) | (with_reducible refine Kd.C_drewN ?_ _) | (with_reducible refine Kd.C_drew ?_) | exact HR183.out)) hb)
                 have n6_ := Aside0.mk (Kd.C_below (by repeat (first | (with_reducible exact HR190.out) | (with_reducible refine Kd.C_alloc ?_ _) | (with_reducible refine Kd.C_drewN ?_ _) | (with_reducible refine Kd.C_drew ?_) | exact HR190.out)) hb)
                 have n7_ := Aside0.mk (below_step (by repeat (first | (with_reducible first | exact HB.out | apply below_alloc | apply pw_below_drewN | apply below_drew1) | exact HB.out)) hb)
                 clear HO169
                 clear HO172
                 clear HO179
                 clear HR176
                 clear HR183
                 clear HR190
                 clear HB
                 have HO169 := n0_
                 have HO172 := n1_
                 have HO179 := n2_
                 have HO186 := n3_
                 have HR176 := n4_
                 have HR183 := n5_
                 have HR190 := n6_
                 have HB := n7_
                 clear n0_ n1_ n2_ n3_ n4_ n5_ n6_ n7_
                 (try clear hb)
                 (try clear hb2)
                 (try clear hk)
                 (try clear hi)
                 (try clear ho0)
                 refine hK.out _ _ trivial (fun hHeld => ?_)
                 clear hK K
                 refine norm_ (a' := ?_) ?_ ?_
                 rotate_left
                 ·show Act.put _ (some 43) _ = _
                  simp only [Act.put, List.setIfInBounds_toArray, List.set_cons_zero, List.set_cons_succ, i64_w, i32_w]
                  rfl
                 refine one_ (i := 17) (N := some 49) #[true, true, true, true, true, true, true, true, true, true, true, true, true, true, true, true, true, true, false, false, false] rfl rfl (one_of HT_.out (by kernel_rfl)) (by decide) (fun K hK => ?_)
                 refine goes_ Try.func18 (by kernel_rfl) rfl #[.slice Ao43 y187.length co43, .slice A3 l3.length c3] (by rfl) rfl rfl (by (try simp only [List.map_toArray, List.map_cons, List.map_nil]); first | done | rfl | (exact Eq.trans (show _ = #[Value.slice Ao43 y173.length co43, .slice A3 l3.length c3] from rfl) (by simp only [KY42.out, KY44.out, KY45.out])) | (exact Eq.trans (show _ = #[Value.slice Ao43 y180.length co43, .slice A3 l3.length c3] from rfl) (by simp only [KY42.out, KY44.out, KY45.out])) | (exact Eq.trans (show _ = #[Value.slice Ao43 y187.length co43, .slice A3 l3.length c3] from rfl) (by simp only [KY42.out, KY44.out, KY45.out])) | (exact Eq.trans (show _ = #[Value.slice Ao43 ((l0.length : Int) : Int).toNat co43, .slice A3 l3.length c3] from rfl) (by simp only [KY42.out, KY44.out, KY45.out])) | (simp only [List.length_drop, List.length_take]; rfl)) ?_
                 with_reducible refine (wire_PutList.calls kj4 _ _ y187 _ _ l3 t191 _ ?side1 ?side2 ?side3 ?side4 A21.out).mono ?_
                 (case side1 => repeat (first | exact (by repeat (first | (with_reducible exact HR190.out) | (with_reducible refine Kd.C_alloc ?_ _) | (with_reducible refine Kd.C_drewN ?_ _) | (with_reducible refine Kd.C_drew ?_) | exact HR190.out)) | (with_reducible refine Kd.C_alloc ?_ _) | (with_reducible refine Kd.C_drewN ?_ _) | (with_reducible refine Kd.C_drew ?_)))
                 (case side2 => exact HC190.out)
                 (case side3 => repeat (first | exact (Kd.C_below HR3.out HB.out) | (with_reducible refine Kd.C_alloc ?_ _) | (with_reducible refine Kd.C_drewN ?_ _) | (with_reducible refine Kd.C_drew ?_)))
                 (case side4 => exact HC3.out)
                 rintro e w48 ⟨v192, rfl, ho0, hb⟩
                 refine ⟨_, rfl, ?_⟩
                 have n0_ := Aside0.mk (Kd.R_elder' (by (with_reducible repeat (first | apply Kd.R_alloc | apply Kd.R_drewN | apply Kd.R_drew)); exact HO169.out) (Kd.R_base ho0) hb)
                 have n1_ := Aside0.mk (Kd.R_elder' (by (with_reducible repeat (first | apply Kd.R_alloc | apply Kd.R_drewN | apply Kd.R_drew)); exact HO172.out) (Kd.R_base ho0) hb)
                 have n2_ := Aside0.mk (Kd.R_elder' (by (with_reducible repeat (first | apply Kd.R_alloc | apply Kd.R_drewN | apply Kd.R_drew)); exact HO179.out) (Kd.R_base ho0) hb)
                 have n3_ := Aside0.mk (Kd.R_elder' (by (with_reducible repeat (first | apply Kd.R_alloc | apply Kd.R_drewN | apply Kd.R_drew)); exact HO186.out) (Kd.R_base ho0) hb)
                 have n4_ := Aside0.mk (Kd.R_lower (Kd.R_new' (Kd.R_new' (Kd.R_new' (Kd.R_new' ho0 (Kd.R_lt (by (with_reducible repeat (first | apply Kd.R_alloc | apply Kd.R_drewN | apply Kd.R_drew)); exact HO169.out))) (Kd.R_lt (by (with_reducible repeat (first | apply Kd.R_alloc | apply Kd.R_drewN | apply Kd.R_drew)); exact HO172.out))) (Kd.R_lt (by (with_reducible repeat (first | apply Kd.R_alloc | apply Kd.R_drewN | apply Kd.R_drew)); exact HO179.out))) (Kd.R_lt (by (with_reducible repeat (first | apply Kd.R_alloc | apply Kd.R_drewN | apply Kd.R_drew)); exact HO186.out))) (below_size (by repeat (first | (with_reducible first | exact HB.out | apply below_alloc | apply pw_below_drewN | apply below_drew1) | exact HB.out))))
                 have n5_ := Aside0.mk (Kd.C_below (by repeat (first | (with_reducible exact HR176.out) | (with_reducible refine Kd.C_alloc ?_ _) | (with_reducible refine Kd.C_drewN ?_ _) | (with_reducible refine Kd.C_drew ?_) | exact HR176.out)) hb)
                 have n6_ := Aside0.mk (Kd.C_below (by repeat (first | (with_reducible exact HR183.out) | (with_reducible refine Kd.C_alloc ?_ _) | (with_reducible refine Kd.C_drewN ?_ _) | (with_reducible refine Kd.C_drew ?_) | exact HR183.out)) hb)
                 have n7_ := Aside0.mk (Kd.C_below (by repeat (first | (with_reducible exact HR190.out) | (with_reducible refine Kd.C_alloc ?_ _) | (with_reducible refine Kd.C_drewN ?_ _) | (with_reducible refine Kd.C_drew ?_) | exact HR190.out)) hb)
                 have n8_ := Aside0.mk (below_step (by repeat (first | (with_reducible first | exact HB.out | apply below_alloc | apply pw_below_drewN | apply below_drew1) | exact HB.out)) hb)
                 clear HO169
                 clear HO172
                 clear HO179
                 clear HO186
                 clear HR176
                 clear HR183
                 clear HR190
                 clear HB
                 have HO169 := n0_
                 have HO172 := n1_
                 have HO179 := n2_
                 have HO186 := n3_
                 have HO193 := n4_
                 have HR176 := n5_
                 have HR183 := n6_
                 have HR190 := n7_
                 have HB := n8_
                 clear n0_ n1_ n2_ n3_ n4_ n5_ n6_ n7_ n8_
                 (try clear hb)
                 (try clear hb2)
                 (try clear hk)
                 (try clear hi)
                 (try clear ho0)
                 refine hK.out _ _ trivial (fun hHeld => ?_)
                 clear hK K
                 refine norm_ (a' := ?_) ?_ ?_
                 rotate_left
                 ·show Act.put _ (some 49) _ = _
                  simp only [Act.put, List.setIfInBounds_toArray, List.set_cons_zero, List.set_cons_succ, i64_w, i32_w]
                  rfl
                 refine pure_ (i := 18) (N := some 10) (v := ?_) (a' := ?_) #[true, true, true, true, true, true, true, true, true, true, true, true, true, true, true, true, true, true, true, false, false] rfl rfl (any_of HT_.out (by kernel_rfl)) (fun _ _ _ h => h) (Or.inl ⟨by rfl, ?_⟩) ?_ ?_
                 rotate_left
                 ·intro w'
                  go_simp
                  with_reducible rfl
                 rotate_left
                 ·simp only [Act.put, List.setIfInBounds_toArray, List.set_cons_zero, List.set_cons_succ, i64_w, i32_w]
                  rfl
                 refine pure_ (i := 19) (N := some 11) (v := ?_) (a' := ?_) #[true, true, true, true, true, true, true, true, true, true, true, true, true, true, true, true, true, true, true, true, false] rfl rfl (any_of HT_.out (by kernel_rfl)) (fun _ _ _ h => h) (Or.inl ⟨by rfl, ?_⟩) ?_ ?_
                 rotate_left
                 ·intro w'
                  go_simp
                  with_reducible rfl
                 rotate_left
                 ·simp only [Act.put, List.setIfInBounds_toArray, List.set_cons_zero, List.set_cons_succ, i64_w, i32_w]
                  rfl
                 refine pure_ (i := 20) (N := some 12) (v := ?_) (a' := ?_) #[true, true, true, true, true, true, true, true, true, true, true, true, true, true, true, true, true, true, true, true, true] rfl rfl (any_of HT_.out (by kernel_rfl)) (fun _ _ _ h => h) (Or.inl ⟨by rfl, ?_⟩) ?_ ?_
                 rotate_left
                 ·intro w'
                  go_simp
                  with_reducible rfl
                 rotate_left
                 ·simp only [Act.put, List.setIfInBounds_toArray, List.set_cons_zero, List.set_cons_succ, i64_w, i32_w]
                  rfl
                 refine done_ (done_of HT_.out (by kernel_rfl)) ?_
                 try go_wp2_with (first | ((with_reducible refine gate_dst (N := 51) rfl ?_); (try (refine gate_guard (by rfl) ?_; dsimp only)); refine Kd.R_lit (Kd.int .u8) _ 5 ?hg (N := 51) ?hd (xs := ([] : List Int)) (inner := []) (ok := fun _ => True) (okp := fun _ => True) ?hr ?hp (fun _ hk => hk) trivial (Below.refl _ _) (Nat.le_refl _) (by simp) ?_; (case hd => rfl); (case hg => rfl); (case hr => first | (go_simp; done) | (go_simp; rfl)); (case hp => exact (Reps.none _ _)); intro v195 w49 ho50 hb hg_ hnew_; clear hg_ hnew_; (first | rw [← Ny194.out] at ho50 | (simp only [Int.reduceToNat] at ho50; rw [← Ny194.out] at ho50)); have n0_ := Aside0.mk (Kd.R_elder' (by (with_reducible repeat (first | apply Kd.R_alloc | apply Kd.R_drewN | apply Kd.R_drew)); exact HO169.out) (Kd.R_base ho50) hb); have n1_ := Aside0.mk (Kd.R_elder' (by (with_reducible repeat (first | apply Kd.R_alloc | apply Kd.R_drewN | apply Kd.R_drew)); exact HO172.out) (Kd.R_base ho50) hb); have n2_ := Aside0.mk (Kd.R_elder' (by (with_reducible repeat (first | apply Kd.R_alloc | apply Kd.R_drewN | apply Kd.R_drew)); exact HO179.out) (Kd.R_base ho50) hb); have n3_ := Aside0.mk (Kd.R_elder' (by (with_reducible repeat (first | apply Kd.R_alloc | apply Kd.R_drewN | apply Kd.R_drew)); exact HO186.out) (Kd.R_base ho50) hb); have n4_ := Aside0.mk (Kd.R_elder' (by (with_reducible repeat (first | apply Kd.R_alloc | apply Kd.R_drewN | apply Kd.R_drew)); exact HO193.out) (Kd.R_base ho50) hb); have n5_ := Aside0.mk (Kd.R_lower (Kd.R_new' (Kd.R_new' (Kd.R_new' (Kd.R_new' (Kd.R_new' ho50 (Kd.R_lt (by (with_reducible repeat (first | apply Kd.R_alloc | apply Kd.R_drewN | apply Kd.R_drew)); exact HO169.out))) (Kd.R_lt (by (with_reducible repeat (first | apply Kd.R_alloc | apply Kd.R_drewN | apply Kd.R_drew)); exact HO172.out))) (Kd.R_lt (by (with_reducible repeat (first | apply Kd.R_alloc | apply Kd.R_drewN | apply Kd.R_drew)); exact HO179.out))) (Kd.R_lt (by (with_reducible repeat (first | apply Kd.R_alloc | apply Kd.R_drewN | apply Kd.R_drew)); exact HO186.out))) (Kd.R_lt (by (with_reducible repeat (first | apply Kd.R_alloc | apply Kd.R_drewN | apply Kd.R_drew)); exact HO193.out))) (below_size (by repeat (first | (with_reducible first | exact HB.out | apply below_alloc | apply pw_below_drewN | apply below_drew1) | exact HB.out)))); have n6_ := Aside0.mk (Kd.C_below (by repeat (first | (with_reducible exact HR176.out) | (with_reducible refine Kd.C_alloc ?_ _) | (with_reducible refine Kd.C_drewN ?_ _) | (with_reducible refine Kd.C_drew ?_) | exact HR176.out)) hb); have n7_ := Aside0.mk (Kd.C_below (by repeat (first | (with_reducible exact HR183.out) | (with_reducible refine Kd.C_alloc ?_ _) | (with_reducible refine Kd.C_drewN ?_ _) | (with_reducible refine Kd.C_drew ?_) | exact HR183.out)) hb); have n8_ := Aside0.mk (Kd.C_below (by repeat (first | (with_reducible exact HR190.out) | (with_reducible refine Kd.C_alloc ?_ _) | (with_reducible refine Kd.C_drewN ?_ _) | (with_reducible refine Kd.C_drew ?_) | exact HR190.out)) hb); have n9_ := Aside0.mk (below_step (by repeat (first | (with_reducible first | exact HB.out | apply below_alloc | apply pw_below_drewN | apply below_drew1) | exact HB.out)) hb); clear HO169; clear HO172; clear HO179; clear HO186; clear HO193; clear HR176; clear HR183; clear HR190; clear HB; have HO169 := n0_; have HO172 := n1_; have HO179 := n2_; have HO186 := n3_; have HO193 := n4_; have HO196 := n5_; have HR176 := n6_; have HR183 := n7_; have HR190 := n8_; have HB := n9_; clear n0_ n1_ n2_ n3_ n4_ n5_ n6_ n7_ n8_ n9_; clear hb ho50) | ((with_reducible refine gate_builtin (b := .append) (xs := #[.tmp 51, .tmp 52]) rfl ?_); (try (refine gate_guard (by rfl) ?_; dsimp only)); at_builtin; refine Kd.R_append_rows (Kd.int .u8) (w0 := w) w.heap.size rfl (.tmp 51) (.tmp 52) 22 5 (.int .u8 0) 1 rfl Try.underlying22 info5 rfl (by decide) (by omega) v195 y194 l0 _ _ _ (fun k_ => some k_ ≠ (.slice Ao40 y167.length co40 : Value).ownBlock ∧ some k_ ≠ (.slice Ao43 y170.length co43 : Value).ownBlock ∧ some k_ ≠ (v178 : Value).ownBlock ∧ some k_ ≠ (v185 : Value).ownBlock ∧ some k_ ≠ (v192 : Value).ownBlock) (fun _ => False) rfl rfl ?aO ?aR (fun _ _ h => h) (fun _ h => h.elim) ?aF ?aB ?aS ?aL ?_; (case aR => repeat (first | exact (Kd.C_below HR0.out HB.out) | (with_reducible refine Kd.C_alloc ?_ _) | (with_reducible refine Kd.C_drewN ?_ _) | (with_reducible refine Kd.C_drew ?_))); (case aB => exact (by repeat (first | (with_reducible first | exact HB.out | apply below_alloc | apply pw_below_drewN | apply below_drew1) | exact HB.out))); (case aF => exact (fun k_ hk => ⟨Kd.fresh' (Kd.R_lt (by (with_reducible repeat (first | apply Kd.R_alloc | apply Kd.R_drewN | apply Kd.R_drew)); exact HO169.out)) k_ hk, Kd.fresh' (Kd.R_lt (by (with_reducible repeat (first | apply Kd.R_alloc | apply Kd.R_drewN | apply Kd.R_drew)); exact HO172.out)) k_ hk, Kd.fresh' (Kd.R_lt (by (with_reducible repeat (first | apply Kd.R_alloc | apply Kd.R_drewN | apply Kd.R_drew)); exact HO179.out)) k_ hk, Kd.fresh' (Kd.R_lt (by (with_reducible repeat (first | apply Kd.R_alloc | apply Kd.R_drewN | apply Kd.R_drew)); exact HO186.out)) k_ hk, Kd.fresh' (Kd.R_lt (by (with_reducible repeat (first | apply Kd.R_alloc | apply Kd.R_drewN | apply Kd.R_drew)); exact HO193.out)) k_ hk⟩)); (case aO => exact (by (with_reducible repeat (first | apply Kd.R_alloc | apply Kd.R_drewN | apply Kd.R_drew)); exact Kd.R_mono HO196.out (fun _ hk => ⟨hk.1.1.1.1.2, ⟨hk.1.1.1.2, ⟨hk.1.1.2, ⟨hk.1.2, hk.2⟩⟩⟩⟩))); (case aS => exact (below_size (by repeat (first | (with_reducible first | exact HB.out | apply below_alloc | apply pw_below_drewN | apply below_drew1) | exact HB.out)))); (case aL => have := LMc22.out; omega); intro v198 w51 ho hb hg hat; rw [← Ny197.out] at ho; have n0_ := Aside0.mk (Kd.R_after (ok := (fun k_ => some k_ ≠ (.slice Ao43 y170.length co43 : Value).ownBlock ∧ some k_ ≠ (v178 : Value).ownBlock ∧ some k_ ≠ (v185 : Value).ownBlock ∧ some k_ ≠ (v192 : Value).ownBlock)) (by (with_reducible repeat (first | apply Kd.R_alloc | apply Kd.R_drewN | apply Kd.R_drew)); exact Kd.R_mono HO169.out (fun _ hk => ⟨⟨hk.1.1.1.1.2, ⟨hk.1.1.1.2, ⟨hk.1.1.2, hk.1.2⟩⟩⟩, hk.2⟩)) hg hat); have n1_ := Aside0.mk (Kd.R_after (ok := (fun k_ => some k_ ≠ (.slice Ao40 y167.length co40 : Value).ownBlock ∧ some k_ ≠ (v178 : Value).ownBlock ∧ some k_ ≠ (v185 : Value).ownBlock ∧ some k_ ≠ (v192 : Value).ownBlock)) (by (with_reducible repeat (first | apply Kd.R_alloc | apply Kd.R_drewN | apply Kd.R_drew)); exact Kd.R_mono HO172.out (fun _ hk => ⟨⟨hk.1.1.1.1, ⟨hk.1.1.1.2, ⟨hk.1.1.2, hk.1.2⟩⟩⟩, hk.2⟩)) hg hat); have n2_ := Aside0.mk (Kd.R_after (ok := (fun k_ => some k_ ≠ (.slice Ao40 y167.length co40 : Value).ownBlock ∧ some k_ ≠ (.slice Ao43 y170.length co43 : Value).ownBlock ∧ some k_ ≠ (v185 : Value).ownBlock ∧ some k_ ≠ (v192 : Value).ownBlock)) (by (with_reducible repeat (first | apply Kd.R_alloc | apply Kd.R_drewN | apply Kd.R_drew)); exact Kd.R_mono HO179.out (fun _ hk => ⟨⟨hk.1.1.1.1.2, ⟨hk.1.1.1.2, ⟨hk.1.1.2, hk.1.2⟩⟩⟩, hk.2⟩)) hg hat); have n3_ := Aside0.mk (Kd.R_after (ok := (fun k_ => some k_ ≠ (.slice Ao40 y167.length co40 : Value).ownBlock ∧ some k_ ≠ (.slice Ao43 y170.length co43 : Value).ownBlock ∧ some k_ ≠ (v178 : Value).ownBlock ∧ some k_ ≠ (v192 : Value).ownBlock)) (by (with_reducible repeat (first | apply Kd.R_alloc | apply Kd.R_drewN | apply Kd.R_drew)); exact Kd.R_mono HO186.out (fun _ hk => ⟨⟨hk.1.1.1.1.2, ⟨hk.1.1.1.2, ⟨hk.1.1.2, hk.1.2⟩⟩⟩, hk.2⟩)) hg hat); have n4_ := Aside0.mk (Kd.R_after (ok := (fun k_ => some k_ ≠ (.slice Ao40 y167.length co40 : Value).ownBlock ∧ some k_ ≠ (.slice Ao43 y170.length co43 : Value).ownBlock ∧ some k_ ≠ (v178 : Value).ownBlock ∧ some k_ ≠ (v185 : Value).ownBlock)) (by (with_reducible repeat (first | apply Kd.R_alloc | apply Kd.R_drewN | apply Kd.R_drew)); exact Kd.R_mono HO193.out (fun _ hk => ⟨⟨hk.1.1.1.1.2, ⟨hk.1.1.1.2, ⟨hk.1.1.2, hk.1.2⟩⟩⟩, hk.2⟩)) hg hat); have n5_ := Aside0.mk (hb); have n6_ := Aside0.mk ((show Kd.C (Kd.int .u8) w51 Ao43 y173.length y173 from by rw [Ny173.out]; exact Kd.C_take (m := ((l0.length : Int) : Int).toNat) ((Kd.R_reads' (Kd.R_after (ok := (fun k_ => some k_ ≠ (.slice Ao40 y167.length co40 : Value).ownBlock ∧ some k_ ≠ (v178 : Value).ownBlock ∧ some k_ ≠ (v185 : Value).ownBlock ∧ some k_ ≠ (v192 : Value).ownBlock)) (by (with_reducible repeat (first | apply Kd.R_alloc | apply Kd.R_drewN | apply Kd.R_drew)); exact Kd.R_mono HO172.out (fun _ hk => ⟨⟨hk.1.1.1.1, ⟨hk.1.1.1.2, ⟨hk.1.1.2, hk.1.2⟩⟩⟩, hk.2⟩)) hg hat)).2.2) KL42.out)); have n7_ := Aside0.mk ((show Kd.C (Kd.int .u8) w51 Ao43 y180.length y180 from by rw [Ny180.out]; exact Kd.C_take (m := ((l0.length : Int) : Int).toNat) ((Kd.R_reads' (Kd.R_after (ok := (fun k_ => some k_ ≠ (.slice Ao40 y167.length co40 : Value).ownBlock ∧ some k_ ≠ (v178 : Value).ownBlock ∧ some k_ ≠ (v185 : Value).ownBlock ∧ some k_ ≠ (v192 : Value).ownBlock)) (by (with_reducible repeat (first | apply Kd.R_alloc | apply Kd.R_drewN | apply Kd.R_drew)); exact Kd.R_mono HO172.out (fun _ hk => ⟨⟨hk.1.1.1.1, ⟨hk.1.1.1.2, ⟨hk.1.1.2, hk.1.2⟩⟩⟩, hk.2⟩)) hg hat)).2.2) KL44.out)); have n8_ := Aside0.mk ((show Kd.C (Kd.int .u8) w51 Ao43 y187.length y187 from by rw [Ny187.out]; exact Kd.C_take (m := ((l0.length : Int) : Int).toNat) ((Kd.R_reads' (Kd.R_after (ok := (fun k_ => some k_ ≠ (.slice Ao40 y167.length co40 : Value).ownBlock ∧ some k_ ≠ (v178 : Value).ownBlock ∧ some k_ ≠ (v185 : Value).ownBlock ∧ some k_ ≠ (v192 : Value).ownBlock)) (by (with_reducible repeat (first | apply Kd.R_alloc | apply Kd.R_drewN | apply Kd.R_drew)); exact Kd.R_mono HO172.out (fun _ hk => ⟨⟨hk.1.1.1.1, ⟨hk.1.1.1.2, ⟨hk.1.1.2, hk.1.2⟩⟩⟩, hk.2⟩)) hg hat)).2.2) KL45.out)); have n9_ := Aside0.mk (ho); clear HO169; clear HO172; clear HO179; clear HO186; clear HO193; clear HB; clear HR176; clear HR183; clear HR190; clear HO196; have HO169 := n0_; have HO172 := n1_; have HO179 := n2_; have HO186 := n3_; have HO193 := n4_; have HB := n5_; have HR176 := n6_; have HR183 := n7_; have HR190 := n8_; have HO199 := n9_; clear n0_ n1_ n2_ n3_ n4_ n5_ n6_ n7_ n8_ n9_; clear ho hb hg hat) | ((with_reducible refine gate_dst (N := 54) rfl ?_); (try (refine gate_guard (by rfl) ?_; dsimp only)); refine Kd.R_lit (Kd.int .u8) _ 5 ?hg (N := 54) ?hd (xs := ([1, 2, 3, 4] : List Int)) (inner := [.int .u8 1, .int .u8 2, .int .u8 3, .int .u8 4]) (ok := fun _ => True) (okp := fun _ => True) ?hr ?hp (fun _ hk => hk) trivial (Below.refl _ _) (Nat.le_refl _) (by simp) ?_; (case hd => rfl); (case hg => rfl); (case hr => first | (go_simp; done) | (go_simp; rfl)); (case hp => exact (Reps.one (show Kd.M (Kd.int .u8) _ _ _ 1 [.int .u8 1] from rfl) (Reps.one (show Kd.M (Kd.int .u8) _ _ _ 2 [.int .u8 2] from rfl) (Reps.one (show Kd.M (Kd.int .u8) _ _ _ 3 [.int .u8 3] from rfl) (Reps.one (show Kd.M (Kd.int .u8) _ _ _ 4 [.int .u8 4] from rfl) (Reps.none _ _)))))); intro v201 w52 ho53 hb hg_ hnew_; clear hg_ hnew_; (first | rw [← Ny200.out] at ho53 | (simp only [Int.reduceToNat] at ho53; rw [← Ny200.out] at ho53)); have n0_ := Aside0.mk (Kd.R_elder' (by (with_reducible repeat (first | apply Kd.R_alloc | apply Kd.R_drewN | apply Kd.R_drew)); exact HO169.out) (Kd.R_base ho53) hb); have n1_ := Aside0.mk (Kd.R_elder' (by (with_reducible repeat (first | apply Kd.R_alloc | apply Kd.R_drewN | apply Kd.R_drew)); exact HO172.out) (Kd.R_base ho53) hb); have n2_ := Aside0.mk (Kd.R_elder' (by (with_reducible repeat (first | apply Kd.R_alloc | apply Kd.R_drewN | apply Kd.R_drew)); exact HO179.out) (Kd.R_base ho53) hb); have n3_ := Aside0.mk (Kd.R_elder' (by (with_reducible repeat (first | apply Kd.R_alloc | apply Kd.R_drewN | apply Kd.R_drew)); exact HO186.out) (Kd.R_base ho53) hb); have n4_ := Aside0.mk (Kd.R_elder' (by (with_reducible repeat (first | apply Kd.R_alloc | apply Kd.R_drewN | apply Kd.R_drew)); exact HO193.out) (Kd.R_base ho53) hb); have n5_ := Aside0.mk (Kd.R_elder' (by (with_reducible repeat (first | apply Kd.R_alloc | apply Kd.R_drewN | apply Kd.R_drew)); exact HO199.out) (Kd.R_base ho53) hb); have n6_ := Aside0.mk (Kd.R_lower (Kd.R_new' (Kd.R_new' (Kd.R_new' (Kd.R_new' (Kd.R_new' (Kd.R_new' ho53 (Kd.R_lt (by (with_reducible repeat (first | apply Kd.R_alloc | apply Kd.R_drewN | apply Kd.R_drew)); exact HO169.out))) (Kd.R_lt (by (with_reducible repeat (first | apply Kd.R_alloc | apply Kd.R_drewN | apply Kd.R_drew)); exact HO172.out))) (Kd.R_lt (by (with_reducible repeat (first | apply Kd.R_alloc | apply Kd.R_drewN | apply Kd.R_drew)); exact HO179.out))) (Kd.R_lt (by (with_reducible repeat (first | apply Kd.R_alloc | apply Kd.R_drewN | apply Kd.R_drew)); exact HO186.out))) (Kd.R_lt (by (with_reducible repeat (first | apply Kd.R_alloc | apply Kd.R_drewN | apply Kd.R_drew)); exact HO193.out))) (Kd.R_lt (by (with_reducible repeat (first | apply Kd.R_alloc | apply Kd.R_drewN | apply Kd.R_drew)); exact HO199.out))) (below_size (by repeat (first | (with_reducible first | exact HB.out | apply below_alloc | apply pw_below_drewN | apply below_drew1) | exact HB.out)))); have n7_ := Aside0.mk (Kd.C_below (by repeat (first | (with_reducible exact HR176.out) | (with_reducible refine Kd.C_alloc ?_ _) | (with_reducible refine Kd.C_drewN ?_ _) | (with_reducible refine Kd.C_drew ?_) | exact HR176.out)) hb); have n8_ := Aside0.mk (Kd.C_below (by repeat (first | (with_reducible exact HR183.out) | (with_reducible refine Kd.C_alloc ?_ _) | (with_reducible refine Kd.C_drewN ?_ _) | (with_reducible refine Kd.C_drew ?_) | exact HR183.out)) hb); have n9_ := Aside0.mk (Kd.C_below (by repeat (first | (with_reducible exact HR190.out) | (with_reducible refine Kd.C_alloc ?_ _) | (with_reducible refine Kd.C_drewN ?_ _) | (with_reducible refine Kd.C_drew ?_) | exact HR190.out)) hb); have n10_ := Aside0.mk (below_step (by repeat (first | (with_reducible first | exact HB.out | apply below_alloc | apply pw_below_drewN | apply below_drew1) | exact HB.out)) hb); clear HO169; clear HO172; clear HO179; clear HO186; clear HO193; clear HO199; clear HR176; clear HR183; clear HR190; clear HB; have HO169 := n0_; have HO172 := n1_; have HO179 := n2_; have HO186 := n3_; have HO193 := n4_; have HO199 := n5_; have HO202 := n6_; have HR176 := n7_; have HR183 := n8_; have HR190 := n9_; have HB := n10_; clear n0_ n1_ n2_ n3_ n4_ n5_ n6_ n7_ n8_ n9_ n10_; clear hb ho53; obtain ⟨Ao55, co55, eo55⟩ := Kd.R_slice HO202.out; subst eo55) | ((with_reducible refine gate_builtin (b := .append) (xs := #[.tmp 53, .tmp 54]) rfl ?_); (try (refine gate_guard (by rfl) ?_; dsimp only)); at_builtin; refine Kd.R_append_rows (Kd.int .u8) (w0 := w) w.heap.size rfl (.tmp 53) (.tmp 54) 22 5 (.int .u8 0) 1 rfl Try.underlying22 info5 rfl (by decide) (by omega) v198 y197 y200 _ _ _ (fun k_ => some k_ ≠ (.slice Ao40 y167.length co40 : Value).ownBlock ∧ some k_ ≠ (.slice Ao43 y170.length co43 : Value).ownBlock ∧ some k_ ≠ (v178 : Value).ownBlock ∧ some k_ ≠ (v185 : Value).ownBlock ∧ some k_ ≠ (v192 : Value).ownBlock ∧ some k_ ≠ (.slice Ao55 y200.length co55 : Value).ownBlock) (fun _ => False) rfl rfl ?aO ?aR (fun _ _ h => h) (fun _ h => h.elim) ?aF ?aB ?aS ?aL ?_; (case aR => repeat (first | exact (Kd.R_reads' HO202.out).2.2 | (with_reducible refine Kd.C_alloc ?_ _) | (with_reducible refine Kd.C_drewN ?_ _) | (with_reducible refine Kd.C_drew ?_))); (case aB => exact (by repeat (first | (with_reducible first | exact HB.out | apply below_alloc | apply pw_below_drewN | apply below_drew1) | exact HB.out))); (case aF => exact (fun k_ hk => ⟨Kd.fresh' (Kd.R_lt (by (with_reducible repeat (first | apply Kd.R_alloc | apply Kd.R_drewN | apply Kd.R_drew)); exact HO169.out)) k_ hk, Kd.fresh' (Kd.R_lt (by (with_reducible repeat (first | apply Kd.R_alloc | apply Kd.R_drewN | apply Kd.R_drew)); exact HO172.out)) k_ hk, Kd.fresh' (Kd.R_lt (by (with_reducible repeat (first | apply Kd.R_alloc | apply Kd.R_drewN | apply Kd.R_drew)); exact HO179.out)) k_ hk, Kd.fresh' (Kd.R_lt (by (with_reducible repeat (first | apply Kd.R_alloc | apply Kd.R_drewN | apply Kd.R_drew)); exact HO186.out)) k_ hk, Kd.fresh' (Kd.R_lt (by (with_reducible repeat (first | apply Kd.R_alloc | apply Kd.R_drewN | apply Kd.R_drew)); exact HO193.out)) k_ hk, Kd.fresh' (Kd.R_lt (by (with_reducible repeat (first | apply Kd.R_alloc | apply Kd.R_drewN | apply Kd.R_drew)); exact HO202.out)) k_ hk⟩)); (case aO => exact (by (with_reducible repeat (first | apply Kd.R_alloc | apply Kd.R_drewN | apply Kd.R_drew)); exact Kd.R_mono HO199.out (fun _ hk => ⟨hk.1.1, ⟨hk.1.2.1, ⟨hk.1.2.2.1, ⟨hk.1.2.2.2.1, ⟨hk.1.2.2.2.2, hk.2⟩⟩⟩⟩⟩))); (case aS => exact (below_size (by repeat (first | (with_reducible first | exact HB.out | apply below_alloc | apply pw_below_drewN | apply below_drew1) | exact HB.out)))); (case aL => have := LMc23.out; omega); intro v204 w54 ho hb hg hat; rw [← Ny203.out] at ho; have n0_ := Aside0.mk (Kd.R_after (ok := (fun k_ => some k_ ≠ (.slice Ao43 y170.length co43 : Value).ownBlock ∧ some k_ ≠ (v178 : Value).ownBlock ∧ some k_ ≠ (v185 : Value).ownBlock ∧ some k_ ≠ (v192 : Value).ownBlock ∧ some k_ ≠ (.slice Ao55 y200.length co55 : Value).ownBlock)) (by (with_reducible repeat (first | apply Kd.R_alloc | apply Kd.R_drewN | apply Kd.R_drew)); exact Kd.R_mono HO169.out (fun _ hk => ⟨⟨hk.1.1.1, ⟨hk.1.1.2.1, ⟨hk.1.1.2.2.1, ⟨hk.1.1.2.2.2, hk.2⟩⟩⟩⟩, hk.1.2⟩)) hg hat); have n1_ := Aside0.mk (Kd.R_after (ok := (fun k_ => some k_ ≠ (.slice Ao40 y167.length co40 : Value).ownBlock ∧ some k_ ≠ (v178 : Value).ownBlock ∧ some k_ ≠ (v185 : Value).ownBlock ∧ some k_ ≠ (v192 : Value).ownBlock ∧ some k_ ≠ (.slice Ao55 y200.length co55 : Value).ownBlock)) (by (with_reducible repeat (first | apply Kd.R_alloc | apply Kd.R_drewN | apply Kd.R_drew)); exact Kd.R_mono HO172.out (fun _ hk => ⟨⟨hk.1.1.1, ⟨hk.1.1.2.1, ⟨hk.1.1.2.2.1, ⟨hk.1.1.2.2.2, hk.2⟩⟩⟩⟩, hk.1.2⟩)) hg hat); have n2_ := Aside0.mk (Kd.R_after (ok := (fun k_ => some k_ ≠ (.slice Ao40 y167.length co40 : Value).ownBlock ∧ some k_ ≠ (.slice Ao43 y170.length co43 : Value).ownBlock ∧ some k_ ≠ (v185 : Value).ownBlock ∧ some k_ ≠ (v192 : Value).ownBlock ∧ some k_ ≠ (.slice Ao55 y200.length co55 : Value).ownBlock)) (by (with_reducible repeat (first | apply Kd.R_alloc | apply Kd.R_drewN | apply Kd.R_drew)); exact Kd.R_mono HO179.out (fun _ hk => ⟨⟨hk.1.1.1, ⟨hk.1.1.2.1, ⟨hk.1.1.2.2.1, ⟨hk.1.1.2.2.2, hk.2⟩⟩⟩⟩, hk.1.2⟩)) hg hat); have n3_ := Aside0.mk (Kd.R_after (ok := (fun k_ => some k_ ≠ (.slice Ao40 y167.length co40 : Value).ownBlock ∧ some k_ ≠ (.slice Ao43 y170.length co43 : Value).ownBlock ∧ some k_ ≠ (v178 : Value).ownBlock ∧ some k_ ≠ (v192 : Value).ownBlock ∧ some k_ ≠ (.slice Ao55 y200.length co55 : Value).ownBlock)) (by (with_reducible repeat (first | apply Kd.R_alloc | apply Kd.R_drewN | apply Kd.R_drew)); exact Kd.R_mono HO186.out (fun _ hk => ⟨⟨hk.1.1.1, ⟨hk.1.1.2.1, ⟨hk.1.1.2.2.1, ⟨hk.1.1.2.2.2, hk.2⟩⟩⟩⟩, hk.1.2⟩)) hg hat); have n4_ := Aside0.mk (Kd.R_after (ok := (fun k_ => some k_ ≠ (.slice Ao40 y167.length co40 : Value).ownBlock ∧ some k_ ≠ (.slice Ao43 y170.length co43 : Value).ownBlock ∧ some k_ ≠ (v178 : Value).ownBlock ∧ some k_ ≠ (v185 : Value).ownBlock ∧ some k_ ≠ (.slice Ao55 y200.length co55 : Value).ownBlock)) (by (with_reducible repeat (first | apply Kd.R_alloc | apply Kd.R_drewN | apply Kd.R_drew)); exact Kd.R_mono HO193.out (fun _ hk => ⟨⟨hk.1.1.1, ⟨hk.1.1.2.1, ⟨hk.1.1.2.2.1, ⟨hk.1.1.2.2.2, hk.2⟩⟩⟩⟩, hk.1.2⟩)) hg hat); have n5_ := Aside0.mk (Kd.R_after (ok := (fun k_ => some k_ ≠ (.slice Ao40 y167.length co40 : Value).ownBlock ∧ some k_ ≠ (.slice Ao43 y170.length co43 : Value).ownBlock ∧ some k_ ≠ (v178 : Value).ownBlock ∧ some k_ ≠ (v185 : Value).ownBlock ∧ some k_ ≠ (v192 : Value).ownBlock)) (by (with_reducible repeat (first | apply Kd.R_alloc | apply Kd.R_drewN | apply Kd.R_drew)); exact Kd.R_mono HO202.out (fun _ hk => ⟨⟨hk.1.1.1.1.1.2, ⟨hk.1.1.1.1.2, ⟨hk.1.1.1.2, ⟨hk.1.1.2, hk.1.2⟩⟩⟩⟩, hk.2⟩)) hg hat); have n6_ := Aside0.mk (hb); have n7_ := Aside0.mk ((show Kd.C (Kd.int .u8) w54 Ao43 y173.length y173 from by rw [Ny173.out]; exact Kd.C_take (m := ((l0.length : Int) : Int).toNat) ((Kd.R_reads' (Kd.R_after (ok := (fun k_ => some k_ ≠ (.slice Ao40 y167.length co40 : Value).ownBlock ∧ some k_ ≠ (v178 : Value).ownBlock ∧ some k_ ≠ (v185 : Value).ownBlock ∧ some k_ ≠ (v192 : Value).ownBlock ∧ some k_ ≠ (.slice Ao55 y200.length co55 : Value).ownBlock)) (by (with_reducible repeat (first | apply Kd.R_alloc | apply Kd.R_drewN | apply Kd.R_drew)); exact Kd.R_mono HO172.out (fun _ hk => ⟨⟨hk.1.1.1, ⟨hk.1.1.2.1, ⟨hk.1.1.2.2.1, ⟨hk.1.1.2.2.2, hk.2⟩⟩⟩⟩, hk.1.2⟩)) hg hat)).2.2) KL42.out)); have n8_ := Aside0.mk ((show Kd.C (Kd.int .u8) w54 Ao43 y180.length y180 from by rw [Ny180.out]; exact Kd.C_take (m := ((l0.length : Int) : Int).toNat) ((Kd.R_reads' (Kd.R_after (ok := (fun k_ => some k_ ≠ (.slice Ao40 y167.length co40 : Value).ownBlock ∧ some k_ ≠ (v178 : Value).ownBlock ∧ some k_ ≠ (v185 : Value).ownBlock ∧ some k_ ≠ (v192 : Value).ownBlock ∧ some k_ ≠ (.slice Ao55 y200.length co55 : Value).ownBlock)) (by (with_reducible repeat (first | apply Kd.R_alloc | apply Kd.R_drewN | apply Kd.R_drew)); exact Kd.R_mono HO172.out (fun _ hk => ⟨⟨hk.1.1.1, ⟨hk.1.1.2.1, ⟨hk.1.1.2.2.1, ⟨hk.1.1.2.2.2, hk.2⟩⟩⟩⟩, hk.1.2⟩)) hg hat)).2.2) KL44.out)); have n9_ := Aside0.mk ((show Kd.C (Kd.int .u8) w54 Ao43 y187.length y187 from by rw [Ny187.out]; exact Kd.C_take (m := ((l0.length : Int) : Int).toNat) ((Kd.R_reads' (Kd.R_after (ok := (fun k_ => some k_ ≠ (.slice Ao40 y167.length co40 : Value).ownBlock ∧ some k_ ≠ (v178 : Value).ownBlock ∧ some k_ ≠ (v185 : Value).ownBlock ∧ some k_ ≠ (v192 : Value).ownBlock ∧ some k_ ≠ (.slice Ao55 y200.length co55 : Value).ownBlock)) (by (with_reducible repeat (first | apply Kd.R_alloc | apply Kd.R_drewN | apply Kd.R_drew)); exact Kd.R_mono HO172.out (fun _ hk => ⟨⟨hk.1.1.1, ⟨hk.1.1.2.1, ⟨hk.1.1.2.2.1, ⟨hk.1.1.2.2.2, hk.2⟩⟩⟩⟩, hk.1.2⟩)) hg hat)).2.2) KL45.out)); have n10_ := Aside0.mk (ho); clear HO169; clear HO172; clear HO179; clear HO186; clear HO193; clear HO202; clear HB; clear HR176; clear HR183; clear HR190; clear HO199; have HO169 := n0_; have HO172 := n1_; have HO179 := n2_; have HO186 := n3_; have HO193 := n4_; have HO202 := n5_; have HB := n6_; have HR176 := n7_; have HR183 := n8_; have HR190 := n9_; have HO205 := n10_; clear n0_ n1_ n2_ n3_ n4_ n5_ n6_ n7_ n8_ n9_ n10_; clear ho hb hg hat; obtain ⟨Ao56, co56, eo56⟩ := Kd.R_slice HO205.out; subst eo56) | ((with_reducible refine gate_callee (f := 13) rfl ?_); refine goesL_ (some 56) rfl rfl Try.func13 (by kernel_rfl) rfl #[.slice Ao43 y170.length co43, .slice Ao56 y203.length co56] rfl (by (try simp only [List.map_toArray, List.map_cons, List.map_nil]); first | done | rfl | (simp only [List.length_drop, List.length_take]; rfl)) ?_; (with_reducible refine (papermillref08_Same.calls _ _ y170 _ _ y203 true _ ?side1 ?side2 ?side3 ?side4 A24.out).mono ?_); (case side1 => repeat (first | exact (Kd.R_reads' HO172.out).2.2 | (with_reducible refine Kd.C_alloc ?_ _) | (with_reducible refine Kd.C_drewN ?_ _) | (with_reducible refine Kd.C_drew ?_))); (case side2 => exact (Kd.R_reads' HO172.out).2.1); (case side3 => repeat (first | exact (Kd.R_reads' HO205.out).2.2 | (with_reducible refine Kd.C_alloc ?_ _) | (with_reducible refine Kd.C_drewN ?_ _) | (with_reducible refine Kd.C_drew ?_))); (case side4 => exact (Kd.R_reads' HO205.out).2.1); rintro e w' ⟨rfl, ⟨nd, rfl⟩⟩; refine ⟨_, rfl, ?_⟩; obtain ⟨Ao57, co57, eo57⟩ := Kd.R_slice HO179.out; subst eo57; obtain ⟨Ao58, co58, eo58⟩ := Kd.R_slice HO186.out; subst eo58; obtain ⟨Ao59, co59, eo59⟩ := Kd.R_slice HO193.out; subst eo59; have q60 : ((l0.length : Int) : Int) ≤ ((t177.length : Int) : Int) := of_decide_eq_true (by first | (with_reducible assumption) | assumption); obtain ⟨i060, hi060, _, hsz60, _⟩ := info_parts info5; have hroom60 : t177.length ≤ co57 := (Kd.R_reads' HO179.out).2.1; have hC60 : Kd.C (Kd.int .u8) _ Ao57 t177.length t177 := (Kd.R_reads' HO179.out).2.2; have hcut60 := cut_to (P := Try.prog) 22 5 .i64 Try.underlying22 hi060 Ao57 t177.length co57 (l0.length : Int) (of_decide_eq_true (by first | (with_reducible assumption) | assumption)) q60 hroom60; have hr60 := Kd.C_take (m := ((l0.length : Int) : Int).toNat) hC60 (by omega); have hy60 : y207.length = ((l0.length : Int) : Int).toNat := (by rw [Ny207.out, List.length_take]; omega); rw [← Ny207.out] at hr60; rw [← hy60] at hcut60; have HR210 := Aside0.mk hr60; have HC210 := Aside0.mk (show y207.length ≤ co57 from by omega); clear hr60 hC60 hroom60 hi060 hsz60; have KY60 := Aside0.mk hy60; clear hy60; have KL60 := Aside0.mk (show ((l0.length : Int) : Int).toNat ≤ t177.length from by omega); replace q60 := eq_true q60) | (go_at_call 13; (with_reducible refine (papermillref08_Same.calls _ _ y207 _ _ l0 true _ ?side1 ?side2 ?side3 ?side4 A31.out).mono ?_); (case side1 => repeat (first | exact (by repeat (first | (with_reducible exact HR210.out) | (with_reducible refine Kd.C_alloc ?_ _) | (with_reducible refine Kd.C_drewN ?_ _) | (with_reducible refine Kd.C_drew ?_) | exact HR210.out)) | (with_reducible refine Kd.C_alloc ?_ _) | (with_reducible refine Kd.C_drewN ?_ _) | (with_reducible refine Kd.C_drew ?_))); (case side2 => exact HC210.out); (case side3 => repeat (first | exact (Kd.C_below HR0.out (by repeat (first | (with_reducible first | exact HB.out | apply below_alloc | apply pw_below_drewN | apply below_drew1) | exact HB.out))) | (with_reducible refine Kd.C_alloc ?_ _) | (with_reducible refine Kd.C_drewN ?_ _) | (with_reducible refine Kd.C_drew ?_))); (case side4 => exact HC0.out); rintro e w' ⟨rfl, ⟨nd, rfl⟩⟩) | (go_at_call 10; (with_reducible refine (papermilllaw08_awake.calls kj4  t212 _ A33.out).mono ?_); rintro e w61 ⟨rfl, hb⟩; have n0_ := Aside0.mk (Kd.R_below (by (with_reducible repeat (first | apply Kd.R_alloc | apply Kd.R_drewN | apply Kd.R_drew)); exact HO169.out) hb); have n1_ := Aside0.mk (Kd.R_below (by (with_reducible repeat (first | apply Kd.R_alloc | apply Kd.R_drewN | apply Kd.R_drew)); exact HO172.out) hb); have n2_ := Aside0.mk (Kd.R_below (by (with_reducible repeat (first | apply Kd.R_alloc | apply Kd.R_drewN | apply Kd.R_drew)); exact HO179.out) hb); have n3_ := Aside0.mk (Kd.R_below (by (with_reducible repeat (first | apply Kd.R_alloc | apply Kd.R_drewN | apply Kd.R_drew)); exact HO186.out) hb); have n4_ := Aside0.mk (Kd.R_below (by (with_reducible repeat (first | apply Kd.R_alloc | apply Kd.R_drewN | apply Kd.R_drew)); exact HO193.out) hb); have n5_ := Aside0.mk (Kd.R_below (by (with_reducible repeat (first | apply Kd.R_alloc | apply Kd.R_drewN | apply Kd.R_drew)); exact HO202.out) hb); have n6_ := Aside0.mk (Kd.R_below (by (with_reducible repeat (first | apply Kd.R_alloc | apply Kd.R_drewN | apply Kd.R_drew)); exact HO205.out) hb); have n7_ := Aside0.mk (Kd.C_below (by repeat (first | (with_reducible exact HR176.out) | (with_reducible refine Kd.C_alloc ?_ _) | (with_reducible refine Kd.C_drewN ?_ _) | (with_reducible refine Kd.C_drew ?_) | exact HR176.out)) hb); have n8_ := Aside0.mk (Kd.C_below (by repeat (first | (with_reducible exact HR183.out) | (with_reducible refine Kd.C_alloc ?_ _) | (with_reducible refine Kd.C_drewN ?_ _) | (with_reducible refine Kd.C_drew ?_) | exact HR183.out)) hb); have n9_ := Aside0.mk (Kd.C_below (by repeat (first | (with_reducible exact HR190.out) | (with_reducible refine Kd.C_alloc ?_ _) | (with_reducible refine Kd.C_drewN ?_ _) | (with_reducible refine Kd.C_drew ?_) | exact HR190.out)) hb); have n10_ := Aside0.mk (Kd.C_below (by repeat (first | (with_reducible exact HR210.out) | (with_reducible refine Kd.C_alloc ?_ _) | (with_reducible refine Kd.C_drewN ?_ _) | (with_reducible refine Kd.C_drew ?_) | exact HR210.out)) hb); have n11_ := Aside0.mk (below_step (by repeat (first | (with_reducible first | exact HB.out | apply below_alloc | apply pw_below_drewN | apply below_drew1) | exact HB.out)) hb); clear HO169; clear HO172; clear HO179; clear HO186; clear HO193; clear HO202; clear HO205; clear HR176; clear HR183; clear HR190; clear HR210; clear HB; have HO169 := n0_; have HO172 := n1_; have HO179 := n2_; have HO186 := n3_; have HO193 := n4_; have HO202 := n5_; have HO205 := n6_; have HR176 := n7_; have HR183 := n8_; have HR190 := n9_; have HR210 := n10_; have HB := n11_; clear n0_ n1_ n2_ n3_ n4_ n5_ n6_ n7_ n8_ n9_ n10_ n11_; (try clear hb); (try clear hb2); (try clear hk); (try clear hi)))
                 go_ret
                 exact ⟨by first | rfl | (simp [errW_none, errW_some] <;> rfl) | (simp [*, errW_none, errW_some] <;> rfl), by repeat (first | (with_reducible first | exact HB.out | apply below_alloc | apply pw_below_drewN | apply below_drew1) | exact HB.out)⟩
                ·exact absurd H (by rw [if_neg c32]; simp)
               ·rw [if_neg c30] at H
                exact absurd H (by simp)
              ·rw [if_neg c28] at H
               exact absurd H (by simp)
             ·rw [if_neg c27] at H
              exact absurd H (by simp)
            ·rw [if_neg c26] at H
             exact absurd H (by simp)
           ·exact absurd H (by rw [if_neg c25]; simp)
          ·rw [if_neg c23] at H
           exact absurd H (by simp)
         ·rw [if_neg c22] at H
          exact absurd H (by simp)
        ·rw [if_neg c14] at H
         exact absurd H (by simp)
       ·rw [if_neg c13] at H
        exact absurd H (by simp)
      ·rw [if_neg c12] at H
       exact absurd H (by simp)
     ·rw [if_neg c11] at H
      exact absurd H (by simp)

/-- THE ONE PURE STATEMENT of papermilllaw08_WireKeeps: yours. -/
def papermilllaw08_WireKeeps.Pure : Prop := ∀ (l0 : List Int) (a1 : Int) (a2 : ByteArray) (l3 : List Int), l0.length ≤ maxLen → l0.length * 1 ≤ 140737488351232 → (∀ x ∈ l0, (Lit.int .u8 x).wf = true) → (Lit.int .i64 a1).wf = true → a2.size ≤ 140737488351232 → l3.length ≤ maxLen → l3.length * 8 ≤ 140737488351232 → (∀ x ∈ l3, (Lit.int .i64 x).wf = true) → ∃ k, papermilllaw08_WireKeeps.f k l0 a1 a2 l3 = some true
theorem papermilllaw08_WireKeeps.walk (P : papermilllaw08_WireKeeps.Pure) (a0 : Option Addr) (len0 cap0 : Nat) (z0 : List Int) (a1 : Int) (a2 : ByteArray) (a3 : Option Addr) (len3 cap3 : Nat) (z3 : List Int) (w : World) (w0 : (a0 = none ∧ len0 = 0 ∧ cap0 = 0 ∧ z0 = []) ∨ ∃ x, a0 = some x ∧ len0 ≤ cap0 ∧ cap0 ≤ maxLen ∧ z0.length = cap0 ∧ (∀ i, i < z0.length → w.cell? (x.add i) = some (.int .u8 (z0.getD i 0))) ∧ ∀ n ∈ z0, (Lit.int .u8 n).wf = true) (y0 : len0 * 1 ≤ 140737488351232) (w1 : (Lit.int .i64 a1).wf = true) (w2 : a2.size ≤ 140737488351232) (w3 : (a3 = none ∧ len3 = 0 ∧ cap3 = 0 ∧ z3 = []) ∨ ∃ x, a3 = some x ∧ len3 ≤ cap3 ∧ cap3 ≤ maxLen ∧ z3.length = cap3 ∧ (∀ i, i < z3.length → w.cell? (x.add i) = some (.int .i64 (z3.getD i 0))) ∧ ∀ n ∈ z3, (Lit.int .i64 n).wf = true) (y3 : len3 * 8 ≤ 140737488351232) :
    Calls Try.prog 5 #[.slice a0 len0 cap0, .int .i64 a1, .string a2, .slice a3 len3 cap3] w fun e w' => e = .returned (.bool true) ∧ Below w.heap.size w w' := by
  obtain ⟨l0, rfl, hr0, hm0, hw0, hc0⟩ := ReadsInt.ofRowC w0
  obtain ⟨l3, rfl, hr3, hm3, hw3, hc3⟩ := ReadsInt.ofRowC w3
  obtain ⟨k, h⟩ := P l0 a1 a2 l3 hm0 y0 hw0 w1 w2 hm3 y3 hw3
  refine (papermilllaw08_WireKeeps.calls k _ _ l0 a1 a2 _ _ l3 w (Kd.C_of_reads (d := (0 : Int)) (h1 := fun _ => rfl) hr0) hc0 (Kd.C_of_reads (d := (0 : Int)) (h1 := fun _ => rfl) hr3) hc3 h).mono ?_
  rintro e w' ⟨rfl, hd⟩
  exact ⟨rfl, hd⟩

end Go.Proofs.Ytjbjmopagjjkaaa.PK
