-- Written by a program of this session (hyb.py), which runs the print over the translation with contracts of its own added; it is not the print itself. Lean checks it.
import Derived.Test.YtdnjbakhnnckbaaDoorPBx0
namespace Go.Proofs.YtdnjbakhnnckbaaDoor.PB
open Go.RowKit Go.Proofs.YtdnjbakhnnckbaaDoorW.PrintWords Go.Proofs.YtdnjbakhnnckbaaDoorW.PrintLast Go.Proofs.YtdnjbakhnnckbaaDoorW.PrintMore
attribute [local go_sem] max2_int min2_int max_two min_two max_three min_three max_four min_four   -- for this text's walks alone
set_option linter.unusedVariables false
set_option linter.unusedSimpArgs false

/-! ### wire_TakeInt: function 24 -/
mutual
def wire_TakeInt.l0 : Nat → List Int → Int → Int → Option (Int × Int × Int)
  | 0, _, _, _ => none
  | k + 1, x0, x5, x9 => if x9 < 10 then (if x9 ≥ (x0.length : Int) then (some (0, 0, 4)) else (if 0 ≤ x9 then (if x9 < (x0.length : Int) then (if x9 = 9 then (wire_TakeInt.j1 k x0 x5 x9 (rd x0 x9) x9 (decide ((rd x0 x9) > 1))) else (wire_TakeInt.j1 k x0 x5 x9 (rd x0 x9) x9 false)) else (none)) else (none))) else (some (0, 0, 2))
def wire_TakeInt.j1 : Nat → List Int → Int → Int → Int → Int → Bool → Option (Int × Int × Int)
  | 0, _, _, _, _, _, _ => none
  | k + 1, x0, x5, x6, x7, x9, x25 => if x25 = true then (some (0, 0, 2)) else (if 0 ≤ (wrap64 (7 * x6)) then (if x7 ≥ 128 then (wire_TakeInt.l0 k x0 (Go.bits .or .u64 x5 (shl .u64 (IntKind.u64.wrap (Int.tmod x7 128)) (wrap64 (7 * x6)))) (wrap64 (x9 + 1))) else (if x7 = 0 then (wire_TakeInt.j2 k (Go.bits .or .u64 x5 (shl .u64 (IntKind.u64.wrap (Int.tmod x7 128)) (wrap64 (7 * x6)))) x6 (decide (x6 > 0))) else (wire_TakeInt.j2 k (Go.bits .or .u64 x5 (shl .u64 (IntKind.u64.wrap (Int.tmod x7 128)) (wrap64 (7 * x6)))) x6 false))) else (none))
def wire_TakeInt.j2 : Nat → Int → Int → Bool → Option (Int × Int × Int)
  | 0, _, _, _ => none
  | k + 1, x5, x6, x41 => if x41 = true then (some (0, 0, 3)) else (if (Go.bits .and .u64 x5 1) = 1 then (some (wrap64 ((wrap64 (-(wrap64 (x5 / 2)))) - 1), wrap64 (x6 + 1), 0)) else (some (wrap64 (x5 / 2), wrap64 (x6 + 1), 0)))
end
def wire_TakeInt.f (k : Nat) (l0 : List Int) : Option (Int × Int × Int) := wire_TakeInt.l0 k l0 0 0
theorem wire_TakeInt.mono_l : ∀ k, (∀ y0 y1 y2, LeO (wire_TakeInt.l0 k y0 y1 y2) (wire_TakeInt.l0 (k + 1) y0 y1 y2)) ∧ (∀ y0 y1 y2 y3 y4 y5, LeO (wire_TakeInt.j1 k y0 y1 y2 y3 y4 y5) (wire_TakeInt.j1 (k + 1) y0 y1 y2 y3 y4 y5)) ∧ (∀ y0 y1 y2, LeO (wire_TakeInt.j2 k y0 y1 y2) (wire_TakeInt.j2 (k + 1) y0 y1 y2))
  | 0 => ⟨fun _ _ _ r h => by simp [wire_TakeInt.l0] at h, fun _ _ _ _ _ _ r h => by simp [wire_TakeInt.j1] at h, fun _ _ _ r h => by simp [wire_TakeInt.j2] at h⟩
  | k + 1 => by
    obtain ⟨ih0, ih1, ih2⟩ := wire_TakeInt.mono_l k
    refine ⟨?_, ?_, ?_⟩
    · intro y0 y1 y2
      unfold wire_TakeInt.l0
      repeat' first
      | (with_reducible exact ih0 _ _ _)
      | (with_reducible exact ih1 _ _ _ _ _ _)
      | (with_reducible exact ih2 _ _ _)
      | (with_reducible exact LeO.refl _)
      | (with_reducible exact LeO.none _)
      | (with_reducible refine LeO.ite ?_ ?_)
      | (with_reducible refine LeO.bind ?_ (fun _ => ?_))
      | exact ih0 _ _ _
      | exact ih1 _ _ _ _ _ _
      | exact ih2 _ _ _
      | exact LeO.none _
      | refine LeO.ite ?_ ?_
      | refine LeO.bind ?_ (fun _ => ?_)
    · intro y0 y1 y2 y3 y4 y5
      unfold wire_TakeInt.j1
      repeat' first
      | (with_reducible exact ih0 _ _ _)
      | (with_reducible exact ih1 _ _ _ _ _ _)
      | (with_reducible exact ih2 _ _ _)
      | (with_reducible exact LeO.refl _)
      | (with_reducible exact LeO.none _)
      | (with_reducible refine LeO.ite ?_ ?_)
      | (with_reducible refine LeO.bind ?_ (fun _ => ?_))
      | exact ih0 _ _ _
      | exact ih1 _ _ _ _ _ _
      | exact ih2 _ _ _
      | exact LeO.none _
      | refine LeO.ite ?_ ?_
      | refine LeO.bind ?_ (fun _ => ?_)
    · intro y0 y1 y2
      unfold wire_TakeInt.j2
      repeat' first
      | (with_reducible exact ih0 _ _ _)
      | (with_reducible exact ih1 _ _ _ _ _ _)
      | (with_reducible exact ih2 _ _ _)
      | (with_reducible exact LeO.refl _)
      | (with_reducible exact LeO.none _)
      | (with_reducible refine LeO.ite ?_ ?_)
      | (with_reducible refine LeO.bind ?_ (fun _ => ?_))
      | exact ih0 _ _ _
      | exact ih1 _ _ _ _ _ _
      | exact ih2 _ _ _
      | exact LeO.none _
      | refine LeO.ite ?_ ?_
      | refine LeO.bind ?_ (fun _ => ?_)
theorem wire_TakeInt.mono : ∀ a0 k, LeO (wire_TakeInt.f k a0) (wire_TakeInt.f (k + 1) a0) := by
  intro a0 k
  obtain ⟨ih0, ih1, ih2⟩ := wire_TakeInt.mono_l k
  unfold wire_TakeInt.f
  repeat' first
      | (with_reducible exact ih0 _ _ _)
      | (with_reducible exact ih1 _ _ _ _ _ _)
      | (with_reducible exact ih2 _ _ _)
      | (with_reducible exact LeO.refl _)
      | (with_reducible exact LeO.none _)
      | (with_reducible refine LeO.ite ?_ ?_)
      | (with_reducible refine LeO.bind ?_ (fun _ => ?_))
      | exact ih0 _ _ _
      | exact ih1 _ _ _ _ _ _
      | exact ih2 _ _ _
      | exact LeO.none _
      | refine LeO.ite ?_ ?_
      | refine LeO.bind ?_ (fun _ => ?_)
set_option maxHeartbeats 8000000 in
set_option maxRecDepth 100000 in
theorem wire_TakeInt.calls (k : Nat) (A0 : Option Addr) (c0 : Nat) (l0 : List Int) (r1 : Int) (r2 : Int) (r3 : Int) (w : World) (hr0 : Kd.C (Kd.int .u8) w A0 l0.length l0) (hc0 : l0.length ≤ c0) (h : wire_TakeInt.f k l0 = some (r1, r2, r3)) :
    Calls Tryd.prog 24 #[.slice A0 l0.length c0] w fun e w' => e = .returned (.tuple #[.int .i64 r1, .int .i64 r2, .int .i64 r3]) ∧ Drawn0 w w' := by
  have HR0 := Aside0.mk hr0
  have HC0 := Aside0.mk hc0
  clear hr0 hc0
  have H : (wire_TakeInt.l0 k l0 0 0) = some (r1, r2, r3) := h
  clear h
  have H' := Aside0.mk H
  clear H
  go_enter Tryd.func24, Tryd.ntmps24
  go_wp2
  go_loopg [5, 9] k (fun kq v5 v9 w' => ∃ (x5_1 : Int) (x9_1 : Int), v5 = .int .u64 x5_1 ∧ v9 = .int .i64 x9_1 ∧ Aside0 (wire_TakeInt.l0 kq l0 x5_1 x9_1 = some (r1, r2, r3)) ∧ Aside0 (kq ≤ k) ∧ Drawn0 w w')
  case atStart => exact ⟨(0), (0), (by first | rfl | (simp; done) | (simp [*]; done)), (by first | rfl | (simp; done) | (simp [*]; done)), H', ⟨Nat.le_refl _⟩, by repeat (first | exact Drawn0.refl _ | apply Drawn0.step)⟩
  case round =>
   clear H'
   obtain ⟨x5_1, x9_1, rfl, rfl, HA, HK1, ⟨m1, rfl⟩⟩ := hrel
   cases gk with
   | zero => exact absurd HA.out (by simp [wire_TakeInt.l0])
   | succ k1 =>
    have H := HA.out
    clear HA
    simp only [wire_TakeInt.l0] at H
    by_cases c2 : x9_1 < 10
    ·rw [if_pos c2] at H
     have c2b0 : decide (x9_1 < 10) = true := decide_eq_true c2
     clear c2
     by_cases c3 : x9_1 ≥ (l0.length : Int)
     ·rw [if_pos c3] at H
      have c3b0 : decide ((l0.length : Int) ≤ x9_1) = true := decide_eq_true c3
      clear c3
      simp only [Option.some.injEq, Prod.mk.injEq] at H
      obtain ⟨rfl, rfl, rfl⟩ := H
      go_wp2
      go_ret3
      exact ⟨by first | rfl | (simp; done) | (simp [*]; done), by repeat (first | exact Drawn0.refl _ | apply Drawn0.step)⟩
     ·rw [if_neg c3] at H
      have c3b0 : decide ((l0.length : Int) ≤ x9_1) = false := decide_eq_false c3
      clear c3
      by_cases c4 : 0 ≤ x9_1
      ·rw [if_pos c4] at H
       have c4b0 : decide (0 ≤ x9_1) = true := decide_eq_true c4
       clear c4
       by_cases c5 : x9_1 < (l0.length : Int)
       ·rw [if_pos c5] at H
        have c5b0 : decide (x9_1 < (l0.length : Int)) = true := decide_eq_true c5
        clear c5
        have HC6 := Aside0.mk H
        clear H
        have p120 : 0 ≤ (x9_1 : Int) := of_decide_eq_true (by first | (with_reducible assumption) | assumption)
        have q120 : x9_1 < (l0.length : Int) := of_decide_eq_true (by first | (with_reducible assumption) | assumption)
        obtain ⟨ad120, e120, hx120_0⟩ := Kd.at_int HR0.out x9_1 p120 q120
        cases e120
        replace p120 := eq_true p120
        replace q120 := eq_true q120
        go_upto_region 8 with (fail)
        go_cut [25] (fun v25 wc => ∃ (kq : Nat) (x25_5 : Bool), v25 = .bool x25_5 ∧ Aside0 (wire_TakeInt.j1 kq l0 x5_1 x9_1 (rd l0 x9_1) x9_1 x25_5 = some (r1, r2, r3)) ∧ Aside0 (kq ≤ k1) ∧ Drawn0 w wc)
        case first =>
         have H := HC6.out
         clear HC6
         by_cases c7 : x9_1 = 9
         ·rw [if_pos c7] at H
          have c7b0 : (x9_1 == 9) = true := beq_iff_eq.mpr c7
          have c7b1 : (x9_1 != 9) = false := bne_eq_false_iff_eq.mpr c7
          clear c7
          (first | rw [c7b0] | (simp only [i64_w, i32_w]; rw [c7b0]) | skip)
          have H' := Aside0.mk H
          clear H
          go_wp2
          go_meet
          case rel => exact ⟨_, (decide ((rd l0 x9_1) > 1)), (by first | rfl | (simp; done) | (simp [*]; done)), H', ⟨by have := HK1.out; first | omega | exact Nat.le_refl _⟩, by repeat (first | exact Drawn0.refl _ | apply Drawn0.step)⟩
         ·rw [if_neg c7] at H
          have c7b0 : (x9_1 == 9) = false := beq_eq_false_iff_ne.mpr c7
          have c7b1 : (x9_1 != 9) = true := bne_iff_ne.mpr c7
          (first | rw [c7b0] | (simp only [i64_w, i32_w]; rw [c7b0]) | skip)
          have H' := Aside0.mk H
          clear H
          go_wp2
          go_meet
          case rel => exact ⟨_, (false), (by first | rfl | (simp; done) | (simp [*]; done)), H', ⟨by have := HK1.out; first | omega | exact Nat.le_refl _⟩, by repeat (first | exact Drawn0.refl _ | apply Drawn0.step)⟩
        case rest =>
         clear HC6
         try clear p1
         try clear q1
         try clear hx1
         try clear c2
         try clear c2b0
         try clear p2
         try clear c3
         try clear c3b0
         try clear c4
         try clear c4b0
         try clear c5
         try clear c5b0
         try clear c7
         try clear c7b0
         try clear c7b1
         try clear hx120_0
         try clear p120
         try clear q120
         obtain ⟨kq, x25_5, rfl, HA, HJ5, ⟨mc5, rfl⟩⟩ := hcut
         cases kq with
         | zero => exact absurd HA.out (by simp [wire_TakeInt.j1])
         | succ kj5 =>
          have H := HA.out
          clear HA
          simp only [wire_TakeInt.j1] at H
          by_cases c8 : x25_5 = true
          ·subst c8
           have H1 : (some (0, 0, 2)) = some (r1, r2, r3) := by rw [if_pos rfl] at H; exact H
           clear H
           have H := H1
           clear H1
           simp only [Option.some.injEq, Prod.mk.injEq] at H
           obtain ⟨rfl, rfl, rfl⟩ := H
           go_wp2
           go_ret3
           exact ⟨by first | rfl | (simp; done) | (simp [*]; done), by repeat (first | exact Drawn0.refl _ | apply Drawn0.step)⟩
          ·replace c8 := Bool.eq_false_iff.mpr c8
           subst c8
           have H1 : (if 0 ≤ (wrap64 (7 * x9_1)) then (if (rd l0 x9_1) ≥ 128 then (wire_TakeInt.l0 kj5 l0 (Go.bits .or .u64 x5_1 (shl .u64 (IntKind.u64.wrap (Int.tmod (rd l0 x9_1) 128)) (wrap64 (7 * x9_1)))) (wrap64 (x9_1 + 1))) else (if (rd l0 x9_1) = 0 then (wire_TakeInt.j2 kj5 (Go.bits .or .u64 x5_1 (shl .u64 (IntKind.u64.wrap (Int.tmod (rd l0 x9_1) 128)) (wrap64 (7 * x9_1)))) x9_1 (decide (x9_1 > 0))) else (wire_TakeInt.j2 kj5 (Go.bits .or .u64 x5_1 (shl .u64 (IntKind.u64.wrap (Int.tmod (rd l0 x9_1) 128)) (wrap64 (7 * x9_1)))) x9_1 false))) else (none)) = some (r1, r2, r3) := by rw [if_neg (show ¬ (false = true) by decide)] at H; exact H
           clear H
           have H := H1
           clear H1
           obtain ⟨ji9, hji9⟩ : ∃ j_ : Int, (wrap64 (7 * x9_1)) = j_ := ⟨_, rfl⟩
           replace H : (if 0 ≤ (ji9) then (if (rd l0 x9_1) ≥ 128 then (wire_TakeInt.l0 kj5 l0 (Go.bits .or .u64 x5_1 (shl .u64 (IntKind.u64.wrap (Int.tmod (rd l0 x9_1) 128)) (ji9))) (wrap64 (x9_1 + 1))) else (if (rd l0 x9_1) = 0 then (wire_TakeInt.j2 kj5 (Go.bits .or .u64 x5_1 (shl .u64 (IntKind.u64.wrap (Int.tmod (rd l0 x9_1) 128)) (ji9))) x9_1 (decide (x9_1 > 0))) else (wire_TakeInt.j2 kj5 (Go.bits .or .u64 x5_1 (shl .u64 (IntKind.u64.wrap (Int.tmod (rd l0 x9_1) 128)) (ji9))) x9_1 false))) else (none)) = some (r1, r2, r3) := by first | (rw [hji9] at H; exact H) | (simp only [hji9] at H ⊢; exact H)
           have hji9w : (IntKind.i64.wrap (7 * x9_1)) = ji9 := (i64_w _).trans hji9
           by_cases c10 : 0 ≤ (ji9)
           ·rw [if_pos c10] at H
            have c10b0 := eq_true c10
            have c10b1 : decide (0 ≤ (ji9)) = true := decide_eq_true c10
            clear c10
            obtain ⟨ji11, hji11⟩ : ∃ j_ : Int, (shl .u64 (IntKind.u64.wrap (Int.tmod (rd l0 x9_1) 128)) (ji9)) = j_ := ⟨_, rfl⟩
            replace H : (if (rd l0 x9_1) ≥ 128 then (wire_TakeInt.l0 kj5 l0 (Go.bits .or .u64 x5_1 (ji11)) (wrap64 (x9_1 + 1))) else (if (rd l0 x9_1) = 0 then (wire_TakeInt.j2 kj5 (Go.bits .or .u64 x5_1 (ji11)) x9_1 (decide (x9_1 > 0))) else (wire_TakeInt.j2 kj5 (Go.bits .or .u64 x5_1 (ji11)) x9_1 false))) = some (r1, r2, r3) := by first | (rw [hji11] at H; exact H) | (simp only [hji11] at H ⊢; exact H)
            have hji11_ : (IntKind.u64.wrap ((IntKind.u64.wrap (Int.tmod (rd l0 x9_1) 128)) * 2 ^ min (ji9).toNat 64)) = ji11 := hji11
            have hji11z : (ji9) ≤ 64 → (IntKind.u64.wrap ((IntKind.u64.wrap (Int.tmod (rd l0 x9_1) 128)) * 2 ^ (ji9).toNat)) = ji11 := shl_small hji11
            by_cases c12 : (rd l0 x9_1) ≥ 128
            ·rw [if_pos c12] at H
             have c12b0 : decide (128 ≤ (rd l0 x9_1)) = true := decide_eq_true c12
             clear c12
             have H' := Aside0.mk H
             clear H
             go_wp2
             go_roundg kj5
             case measure => have := HK1.out; have := HJ5.out; omega
             case rel => exact ⟨(Go.bits .or .u64 x5_1 (ji11)), (wrap64 (x9_1 + 1)), (by first | rfl | (simp; done) | (simp only [← hji11] <;> (first | rfl | simp)) | (simp [*]; done)), (by first | rfl | (simp; done) | (simp [*]; done)), H', ⟨by have := HK1.out; have := HJ5.out; omega⟩, by repeat (first | exact Drawn0.refl _ | apply Drawn0.step)⟩
            ·rw [if_neg c12] at H
             have c12b0 : decide (128 ≤ (rd l0 x9_1)) = false := decide_eq_false c12
             clear c12
             have HC13 := Aside0.mk H
             clear H
             go_upto_region 12 with (fail)
             go_cut [41] (fun v41 wc => ∃ (kq : Nat) (x41_12 : Bool), v41 = .bool x41_12 ∧ Aside0 (wire_TakeInt.j2 kq (Go.bits .or .u64 x5_1 (ji11)) x9_1 x41_12 = some (r1, r2, r3)) ∧ Aside0 (kq ≤ kj5) ∧ Drawn0 w wc)
             case first =>
              have H := HC13.out
              clear HC13
              by_cases c14 : (rd l0 x9_1) = 0
              ·rw [if_pos c14] at H
               have c14b0 : ((rd l0 x9_1) == 0) = true := beq_iff_eq.mpr c14
               have c14b1 : ((rd l0 x9_1) != 0) = false := bne_eq_false_iff_eq.mpr c14
               clear c14
               (first | rw [c14b0] | (simp only [i64_w, i32_w]; rw [c14b0]) | skip)
               have H' := Aside0.mk H
               clear H
               go_wp2
               go_meet
               case rel => exact ⟨_, (decide (x9_1 > 0)), (by first | rfl | (simp; done) | (simp [*]; done)), H', ⟨by have := HK1.out; have := HJ5.out; first | omega | exact Nat.le_refl _⟩, by repeat (first | exact Drawn0.refl _ | apply Drawn0.step)⟩
              ·rw [if_neg c14] at H
               have c14b0 : ((rd l0 x9_1) == 0) = false := beq_eq_false_iff_ne.mpr c14
               have c14b1 : ((rd l0 x9_1) != 0) = true := bne_iff_ne.mpr c14
               (first | rw [c14b0] | (simp only [i64_w, i32_w]; rw [c14b0]) | skip)
               have H' := Aside0.mk H
               clear H
               go_wp2
               go_meet
               case rel => exact ⟨_, (false), (by first | rfl | (simp; done) | (simp [*]; done)), H', ⟨by have := HK1.out; have := HJ5.out; first | omega | exact Nat.le_refl _⟩, by repeat (first | exact Drawn0.refl _ | apply Drawn0.step)⟩
             case rest =>
              clear HC13
              try clear c1
              try clear p1
              try clear q1
              try clear hx1
              try clear c2
              try clear c2b0
              try clear p2
              try clear c3
              try clear c3b0
              try clear c4
              try clear c4b0
              try clear c5
              try clear c5b0
              try clear p6
              try clear c7
              try clear c7b0
              try clear c7b1
              try clear c8
              try clear c10
              try clear c10b0
              try clear c10b1
              try clear c12
              try clear c12b0
              try clear p12
              try clear q12
              try clear hx12
              try clear c14
              try clear c14b0
              try clear c14b1
              try clear hx120_0
              try clear p1
              try clear p120
              try clear p2
              try clear q1
              try clear q120
              obtain ⟨kq, x41_12, rfl, HA, HJ12, ⟨mc12, rfl⟩⟩ := hcut
              cases kq with
              | zero => exact absurd HA.out (by simp [wire_TakeInt.j2])
              | succ kj12 =>
               have H := HA.out
               clear HA
               simp only [wire_TakeInt.j2] at H
               by_cases c15 : x41_12 = true
               ·subst c15
                have H1 : (some (0, 0, 3)) = some (r1, r2, r3) := by rw [if_pos rfl] at H; exact H
                clear H
                have H := H1
                clear H1
                simp only [Option.some.injEq, Prod.mk.injEq] at H
                obtain ⟨rfl, rfl, rfl⟩ := H
                go_wp2
                go_ret3
                exact ⟨by first | rfl | (simp; done) | (simp only [← hji9, ← hji11] <;> (first | rfl | simp)) | (simp [*]; done), by repeat (first | exact Drawn0.refl _ | apply Drawn0.step)⟩
               ·replace c15 := Bool.eq_false_iff.mpr c15
                subst c15
                have H1 : (if (Go.bits .and .u64 (Go.bits .or .u64 x5_1 (ji11)) 1) = 1 then (some (wrap64 ((wrap64 (-(wrap64 ((Go.bits .or .u64 x5_1 (ji11)) / 2)))) - 1), wrap64 (x9_1 + 1), 0)) else (some (wrap64 ((Go.bits .or .u64 x5_1 (ji11)) / 2), wrap64 (x9_1 + 1), 0))) = some (r1, r2, r3) := by rw [if_neg (show ¬ (false = true) by decide)] at H; exact H
                clear H
                have H := H1
                clear H1
                by_cases c16 : (Go.bits .and .u64 (Go.bits .or .u64 x5_1 (ji11)) 1) = 1
                ·rw [if_pos c16] at H
                 have c16b0 : ((Go.bits .and .u64 (Go.bits .or .u64 x5_1 (ji11)) 1) == 1) = true := beq_iff_eq.mpr c16
                 have c16b1 : ((Go.bits .and .u64 (Go.bits .or .u64 x5_1 (ji11)) 1) != 1) = false := bne_eq_false_iff_eq.mpr c16
                 clear c16
                 simp only [Option.some.injEq, Prod.mk.injEq] at H
                 obtain ⟨rfl, rfl, rfl⟩ := H
                 go_wp2
                 go_ret3
                 exact ⟨by first | rfl | (simp; done) | (simp only [← hji9, ← hji11] <;> (first | rfl | simp)) | (simp [*]; done), by repeat (first | exact Drawn0.refl _ | apply Drawn0.step)⟩
                ·rw [if_neg c16] at H
                 have c16b0 : ((Go.bits .and .u64 (Go.bits .or .u64 x5_1 (ji11)) 1) == 1) = false := beq_eq_false_iff_ne.mpr c16
                 have c16b1 : ((Go.bits .and .u64 (Go.bits .or .u64 x5_1 (ji11)) 1) != 1) = true := bne_iff_ne.mpr c16
                 simp only [Option.some.injEq, Prod.mk.injEq] at H
                 obtain ⟨rfl, rfl, rfl⟩ := H
                 go_wp2
                 go_ret3
                 exact ⟨by first | rfl | (simp; done) | (simp only [← hji9, ← hji11] <;> (first | rfl | simp)) | (simp [*]; done), by repeat (first | exact Drawn0.refl _ | apply Drawn0.step)⟩
           ·rw [if_neg c10] at H
            exact absurd H (by simp)
       ·rw [if_neg c5] at H
        exact absurd H (by simp)
      ·rw [if_neg c4] at H
       exact absurd H (by simp)
    ·rw [if_neg c2] at H
     have c2b0 : decide (x9_1 < 10) = false := decide_eq_false c2
     clear c2
     simp only [Option.some.injEq, Prod.mk.injEq] at H
     obtain ⟨rfl, rfl, rfl⟩ := H
     go_wp2
     go_ret3
     exact ⟨by first | rfl | (simp; done) | (simp [*]; done), by repeat (first | exact Drawn0.refl _ | apply Drawn0.step)⟩

end Go.Proofs.YtdnjbakhnnckbaaDoor.PB
