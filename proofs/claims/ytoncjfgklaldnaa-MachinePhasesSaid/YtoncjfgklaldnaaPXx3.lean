-- Written by a program of this session (hyb.py), which runs the print over the translation with contracts of its own added; it is not the print itself. Lean checks it.
import Derived.Test.YtoncjfgklaldnaaPXx0
namespace Go.Proofs.Ytoncjfgklaldnaa.PX
open Go.RowKit Go.Proofs.YtoncjfgklaldnaaW.PrintWords Go.Proofs.YtoncjfgklaldnaaW.PrintLast Go.Proofs.YtoncjfgklaldnaaW.PrintMore
attribute [local go_sem] max2_int min2_int max_two min_two max_three min_three max_four min_four   -- for this text's walks alone
set_option linter.unusedVariables false
set_option linter.unusedSimpArgs false

/-! ### given -/

/-! ### machine_Next: function 11 -/
def machine_Next.j0 : Nat → Int → Int → Bool → Option (Int × Int)
  | 0, _, _, _ => none
  | k + 1, x0, x1, x11 => if x11 = true then (some (0, 1)) else (if x1 = 1 then (if x0 = 0 then (some (1, 0)) else (some (0, 13))) else (if x1 = 2 then (if x0 = 1 then (some (2, 0)) else (some (0, 13))) else (if x1 = 3 then (if x0 = 1 then (some (3, 0)) else (if x0 = 2 then (some (3, 0)) else (some (0, 13)))) else (if x1 = 4 then (if x0 = 3 then (some (0, 0)) else (some (0, 13))) else (if x1 = 5 then (if x0 = 4 then (some (0, 13)) else (some (4, 0))) else (if x1 = 6 then (if x0 = 4 then (some (0, 0)) else (some (0, 13))) else (some (0, 17))))))))
def machine_Next.f (k : Nat) (a0 : Int) (a1 : Int) : Option (Int × Int) := if a0 < 0 then (machine_Next.j0 k a0 a1 true) else (machine_Next.j0 k a0 a1 (decide (a0 > 4)))
theorem machine_Next.mono_l : ∀ k, (∀ y0 y1 y2, LeO (machine_Next.j0 k y0 y1 y2) (machine_Next.j0 (k + 1) y0 y1 y2))
  | 0 => fun _ _ _ r h => by simp [machine_Next.j0] at h
  | k + 1 => by
    have ih0 := machine_Next.mono_l k
    · intro y0 y1 y2
      unfold machine_Next.j0
      repeat' first
      | (with_reducible exact ih0 _ _ _)
      | (with_reducible exact LeO.refl _)
      | (with_reducible exact LeO.none _)
      | (with_reducible refine LeO.ite ?_ ?_)
      | (with_reducible refine LeO.bind ?_ (fun _ => ?_))
      | exact ih0 _ _ _
      | exact LeO.none _
      | refine LeO.ite ?_ ?_
      | refine LeO.bind ?_ (fun _ => ?_)
theorem machine_Next.mono : ∀ a0 a1 k, LeO (machine_Next.f k a0 a1) (machine_Next.f (k + 1) a0 a1) := by
  intro a0 a1 k
  have ih0 := machine_Next.mono_l k
  unfold machine_Next.f
  repeat' first
      | (with_reducible exact ih0 _ _ _)
      | (with_reducible exact LeO.refl _)
      | (with_reducible exact LeO.none _)
      | (with_reducible refine LeO.ite ?_ ?_)
      | (with_reducible refine LeO.bind ?_ (fun _ => ?_))
      | exact ih0 _ _ _
      | exact LeO.none _
      | refine LeO.ite ?_ ?_
      | refine LeO.bind ?_ (fun _ => ?_)
set_option maxHeartbeats 8000000 in
set_option maxRecDepth 100000 in
theorem machine_Next.calls (k : Nat) (a0 : Int) (a1 : Int) (r1 : Int) (r2 : Int) (w : World) (h : machine_Next.f k a0 a1 = some (r1, r2)) :
    Calls Try.prog 11 #[.int .i64 a0, .int .i64 a1] w fun e w' => e = .returned (.tuple #[.int .i64 r1, .int .i64 r2]) ∧ Drawn0 w w' := by
  have H : (if a0 < 0 then (machine_Next.j0 k a0 a1 true) else (machine_Next.j0 k a0 a1 (decide (a0 > 4)))) = some (r1, r2) := h
  clear h
  have HC3 := Aside0.mk H
  clear H
  go_enter Try.func11, Try.ntmps11
  go_upto_region 1 with (fail)
  go_cut [11] (fun v11 wc => ∃ (kq : Nat) (x11_2 : Bool), v11 = .bool x11_2 ∧ Aside0 (machine_Next.j0 kq a0 a1 x11_2 = some (r1, r2)) ∧ Aside0 (kq ≤ k) ∧ Drawn0 w wc)
  case first =>
   have H := HC3.out
   clear HC3
   by_cases c4 : a0 < 0
   ·rw [if_pos c4] at H
    have c4b0 : decide (a0 < 0) = true := decide_eq_true c4
    clear c4
    (first | rw [c4b0] | (simp only [i64_w, i32_w]; rw [c4b0]) | skip)
    have H' := Aside0.mk H
    clear H
    go_wp2
    go_meet
    case rel => exact ⟨_, (true), (by first | rfl | (simp; done) | (simp [*]; done)), H', ⟨by first | omega | exact Nat.le_refl _⟩, by repeat (first | exact Drawn0.refl _ | apply Drawn0.step)⟩
   ·rw [if_neg c4] at H
    have c4b0 : decide (a0 < 0) = false := decide_eq_false c4
    clear c4
    (first | rw [c4b0] | (simp only [i64_w, i32_w]; rw [c4b0]) | skip)
    have H' := Aside0.mk H
    clear H
    go_wp2
    go_meet
    case rel => exact ⟨_, (decide (a0 > 4)), (by first | rfl | (simp; done) | (simp [*]; done)), H', ⟨by first | omega | exact Nat.le_refl _⟩, by repeat (first | exact Drawn0.refl _ | apply Drawn0.step)⟩
  case rest =>
   clear HC3
   try clear c1
   try clear p2
   try clear c4
   try clear c4b0
   obtain ⟨kq, x11_2, rfl, HA, HJ2, ⟨mc2, rfl⟩⟩ := hcut
   cases kq with
   | zero => exact absurd HA.out (by simp [machine_Next.j0])
   | succ kj2 =>
    have H := HA.out
    clear HA
    simp only [machine_Next.j0] at H
    by_cases c5 : x11_2 = true
    ·subst c5
     have H1 : (some (0, 1)) = some (r1, r2) := by rw [if_pos rfl] at H; exact H
     clear H
     have H := H1
     clear H1
     simp only [Option.some.injEq, Prod.mk.injEq] at H
     obtain ⟨rfl, rfl⟩ := H
     go_wp2
     go_ret2
     exact ⟨by first | rfl | (simp; done) | (simp [*]; done), by repeat (first | exact Drawn0.refl _ | apply Drawn0.step)⟩
    ·replace c5 := Bool.eq_false_iff.mpr c5
     subst c5
     have H1 : (if a1 = 1 then (if a0 = 0 then (some (1, 0)) else (some (0, 13))) else (if a1 = 2 then (if a0 = 1 then (some (2, 0)) else (some (0, 13))) else (if a1 = 3 then (if a0 = 1 then (some (3, 0)) else (if a0 = 2 then (some (3, 0)) else (some (0, 13)))) else (if a1 = 4 then (if a0 = 3 then (some (0, 0)) else (some (0, 13))) else (if a1 = 5 then (if a0 = 4 then (some (0, 13)) else (some (4, 0))) else (if a1 = 6 then (if a0 = 4 then (some (0, 0)) else (some (0, 13))) else (some (0, 17)))))))) = some (r1, r2) := by rw [if_neg (show ¬ (false = true) by decide)] at H; exact H
     clear H
     have H := H1
     clear H1
     by_cases c6 : a1 = 1
     ·rw [if_pos c6] at H
      have c6b0 : (a1 == 1) = true := beq_iff_eq.mpr c6
      have c6b1 : (a1 != 1) = false := bne_eq_false_iff_eq.mpr c6
      clear c6
      by_cases c7 : a0 = 0
      ·rw [if_pos c7] at H
       have c7b0 : (a0 == 0) = true := beq_iff_eq.mpr c7
       have c7b1 : (a0 != 0) = false := bne_eq_false_iff_eq.mpr c7
       clear c7
       simp only [Option.some.injEq, Prod.mk.injEq] at H
       obtain ⟨rfl, rfl⟩ := H
       go_wp2
       go_ret2
       exact ⟨by first | rfl | (simp; done) | (simp [*]; done), by repeat (first | exact Drawn0.refl _ | apply Drawn0.step)⟩
      ·rw [if_neg c7] at H
       have c7b0 : (a0 == 0) = false := beq_eq_false_iff_ne.mpr c7
       have c7b1 : (a0 != 0) = true := bne_iff_ne.mpr c7
       simp only [Option.some.injEq, Prod.mk.injEq] at H
       obtain ⟨rfl, rfl⟩ := H
       go_wp2
       go_ret2
       exact ⟨by first | rfl | (simp; done) | (simp [*]; done), by repeat (first | exact Drawn0.refl _ | apply Drawn0.step)⟩
     ·rw [if_neg c6] at H
      have c6b0 : (a1 == 1) = false := beq_eq_false_iff_ne.mpr c6
      have c6b1 : (a1 != 1) = true := bne_iff_ne.mpr c6
      by_cases c8 : a1 = 2
      ·rw [if_pos c8] at H
       have c8b0 : (a1 == 2) = true := beq_iff_eq.mpr c8
       have c8b1 : (a1 != 2) = false := bne_eq_false_iff_eq.mpr c8
       clear c8
       by_cases c9 : a0 = 1
       ·rw [if_pos c9] at H
        have c9b0 : (a0 == 1) = true := beq_iff_eq.mpr c9
        have c9b1 : (a0 != 1) = false := bne_eq_false_iff_eq.mpr c9
        clear c9
        simp only [Option.some.injEq, Prod.mk.injEq] at H
        obtain ⟨rfl, rfl⟩ := H
        go_wp2
        go_ret2
        exact ⟨by first | rfl | (simp; done) | (simp [*]; done), by repeat (first | exact Drawn0.refl _ | apply Drawn0.step)⟩
       ·rw [if_neg c9] at H
        have c9b0 : (a0 == 1) = false := beq_eq_false_iff_ne.mpr c9
        have c9b1 : (a0 != 1) = true := bne_iff_ne.mpr c9
        simp only [Option.some.injEq, Prod.mk.injEq] at H
        obtain ⟨rfl, rfl⟩ := H
        go_wp2
        go_ret2
        exact ⟨by first | rfl | (simp; done) | (simp [*]; done), by repeat (first | exact Drawn0.refl _ | apply Drawn0.step)⟩
      ·rw [if_neg c8] at H
       have c8b0 : (a1 == 2) = false := beq_eq_false_iff_ne.mpr c8
       have c8b1 : (a1 != 2) = true := bne_iff_ne.mpr c8
       by_cases c10 : a1 = 3
       ·rw [if_pos c10] at H
        have c10b0 : (a1 == 3) = true := beq_iff_eq.mpr c10
        have c10b1 : (a1 != 3) = false := bne_eq_false_iff_eq.mpr c10
        clear c10
        by_cases c11 : a0 = 1
        ·rw [if_pos c11] at H
         have c11b0 : (a0 == 1) = true := beq_iff_eq.mpr c11
         have c11b1 : (a0 != 1) = false := bne_eq_false_iff_eq.mpr c11
         clear c11
         simp only [Option.some.injEq, Prod.mk.injEq] at H
         obtain ⟨rfl, rfl⟩ := H
         go_wp2
         go_ret2
         exact ⟨by first | rfl | (simp; done) | (simp [*]; done), by repeat (first | exact Drawn0.refl _ | apply Drawn0.step)⟩
        ·rw [if_neg c11] at H
         have c11b0 : (a0 == 1) = false := beq_eq_false_iff_ne.mpr c11
         have c11b1 : (a0 != 1) = true := bne_iff_ne.mpr c11
         by_cases c12 : a0 = 2
         ·rw [if_pos c12] at H
          have c12b0 : (a0 == 2) = true := beq_iff_eq.mpr c12
          have c12b1 : (a0 != 2) = false := bne_eq_false_iff_eq.mpr c12
          clear c12
          simp only [Option.some.injEq, Prod.mk.injEq] at H
          obtain ⟨rfl, rfl⟩ := H
          go_wp2
          go_ret2
          exact ⟨by first | rfl | (simp; done) | (simp [*]; done), by repeat (first | exact Drawn0.refl _ | apply Drawn0.step)⟩
         ·rw [if_neg c12] at H
          have c12b0 : (a0 == 2) = false := beq_eq_false_iff_ne.mpr c12
          have c12b1 : (a0 != 2) = true := bne_iff_ne.mpr c12
          simp only [Option.some.injEq, Prod.mk.injEq] at H
          obtain ⟨rfl, rfl⟩ := H
          go_wp2
          go_ret2
          exact ⟨by first | rfl | (simp; done) | (simp [*]; done), by repeat (first | exact Drawn0.refl _ | apply Drawn0.step)⟩
       ·rw [if_neg c10] at H
        have c10b0 : (a1 == 3) = false := beq_eq_false_iff_ne.mpr c10
        have c10b1 : (a1 != 3) = true := bne_iff_ne.mpr c10
        by_cases c13 : a1 = 4
        ·rw [if_pos c13] at H
         have c13b0 : (a1 == 4) = true := beq_iff_eq.mpr c13
         have c13b1 : (a1 != 4) = false := bne_eq_false_iff_eq.mpr c13
         clear c13
         by_cases c14 : a0 = 3
         ·rw [if_pos c14] at H
          have c14b0 : (a0 == 3) = true := beq_iff_eq.mpr c14
          have c14b1 : (a0 != 3) = false := bne_eq_false_iff_eq.mpr c14
          clear c14
          simp only [Option.some.injEq, Prod.mk.injEq] at H
          obtain ⟨rfl, rfl⟩ := H
          go_wp2
          go_ret2
          exact ⟨by first | rfl | (simp; done) | (simp [*]; done), by repeat (first | exact Drawn0.refl _ | apply Drawn0.step)⟩
         ·rw [if_neg c14] at H
          have c14b0 : (a0 == 3) = false := beq_eq_false_iff_ne.mpr c14
          have c14b1 : (a0 != 3) = true := bne_iff_ne.mpr c14
          simp only [Option.some.injEq, Prod.mk.injEq] at H
          obtain ⟨rfl, rfl⟩ := H
          go_wp2
          go_ret2
          exact ⟨by first | rfl | (simp; done) | (simp [*]; done), by repeat (first | exact Drawn0.refl _ | apply Drawn0.step)⟩
        ·rw [if_neg c13] at H
         have c13b0 : (a1 == 4) = false := beq_eq_false_iff_ne.mpr c13
         have c13b1 : (a1 != 4) = true := bne_iff_ne.mpr c13
         by_cases c15 : a1 = 5
         ·rw [if_pos c15] at H
          have c15b0 : (a1 == 5) = true := beq_iff_eq.mpr c15
          have c15b1 : (a1 != 5) = false := bne_eq_false_iff_eq.mpr c15
          clear c15
          by_cases c16 : a0 = 4
          ·rw [if_pos c16] at H
           have c16b0 : (a0 == 4) = true := beq_iff_eq.mpr c16
           have c16b1 : (a0 != 4) = false := bne_eq_false_iff_eq.mpr c16
           clear c16
           simp only [Option.some.injEq, Prod.mk.injEq] at H
           obtain ⟨rfl, rfl⟩ := H
           go_wp2
           go_ret2
           exact ⟨by first | rfl | (simp; done) | (simp [*]; done), by repeat (first | exact Drawn0.refl _ | apply Drawn0.step)⟩
          ·rw [if_neg c16] at H
           have c16b0 : (a0 == 4) = false := beq_eq_false_iff_ne.mpr c16
           have c16b1 : (a0 != 4) = true := bne_iff_ne.mpr c16
           simp only [Option.some.injEq, Prod.mk.injEq] at H
           obtain ⟨rfl, rfl⟩ := H
           go_wp2
           go_ret2
           exact ⟨by first | rfl | (simp; done) | (simp [*]; done), by repeat (first | exact Drawn0.refl _ | apply Drawn0.step)⟩
         ·rw [if_neg c15] at H
          have c15b0 : (a1 == 5) = false := beq_eq_false_iff_ne.mpr c15
          have c15b1 : (a1 != 5) = true := bne_iff_ne.mpr c15
          by_cases c17 : a1 = 6
          ·rw [if_pos c17] at H
           have c17b0 : (a1 == 6) = true := beq_iff_eq.mpr c17
           have c17b1 : (a1 != 6) = false := bne_eq_false_iff_eq.mpr c17
           clear c17
           by_cases c18 : a0 = 4
           ·rw [if_pos c18] at H
            have c18b0 : (a0 == 4) = true := beq_iff_eq.mpr c18
            have c18b1 : (a0 != 4) = false := bne_eq_false_iff_eq.mpr c18
            clear c18
            simp only [Option.some.injEq, Prod.mk.injEq] at H
            obtain ⟨rfl, rfl⟩ := H
            go_wp2
            go_ret2
            exact ⟨by first | rfl | (simp; done) | (simp [*]; done), by repeat (first | exact Drawn0.refl _ | apply Drawn0.step)⟩
           ·rw [if_neg c18] at H
            have c18b0 : (a0 == 4) = false := beq_eq_false_iff_ne.mpr c18
            have c18b1 : (a0 != 4) = true := bne_iff_ne.mpr c18
            simp only [Option.some.injEq, Prod.mk.injEq] at H
            obtain ⟨rfl, rfl⟩ := H
            go_wp2
            go_ret2
            exact ⟨by first | rfl | (simp; done) | (simp [*]; done), by repeat (first | exact Drawn0.refl _ | apply Drawn0.step)⟩
          ·rw [if_neg c17] at H
           have c17b0 : (a1 == 6) = false := beq_eq_false_iff_ne.mpr c17
           have c17b1 : (a1 != 6) = true := bne_iff_ne.mpr c17
           simp only [Option.some.injEq, Prod.mk.injEq] at H
           obtain ⟨rfl, rfl⟩ := H
           go_wp2
           go_ret2
           exact ⟨by first | rfl | (simp; done) | (simp [*]; done), by repeat (first | exact Drawn0.refl _ | apply Drawn0.step)⟩

end Go.Proofs.Ytoncjfgklaldnaa.PX
