-- Written by a program of this session (hyb.py), which runs the print over the translation with contracts of its own added; it is not the print itself. Lean checks it.
import Derived.Test.YtpcicooogiialaaDoorPRx0
import Derived.Test.YtpcicooogiialaaDoorPRx1
import Derived.Test.YtpcicooogiialaaDoorPRx5
import Derived.Test.YtpcicooogiialaaDoorPRx7
import Derived.Test.YtpcicooogiialaaDoorPRx8
import Derived.Test.YtpcicooogiialaaDoorPRx9
namespace Go.Proofs.YtpcicooogiialaaDoor.PR
open Go.RowKit Go.Proofs.YtpcicooogiialaaDoorW.PrintWords Go.Proofs.YtpcicooogiialaaDoorW.PrintLast Go.Proofs.YtpcicooogiialaaDoorW.PrintMore
attribute [local go_sem] max2_int min2_int max_two min_two max_three min_three max_four min_four   -- for this text's walks alone
set_option linter.unusedVariables false
set_option linter.unusedSimpArgs false

/-! ### papermillref08_TakeList: function 37 -/
def papermillref08_TakeList.l0 : Nat → List Int → Int → Int → List Int → Int → Option (List Int × Int × Int)
  | 0, _, _, _, _, _ => none
  | k + 1, x0, x7, x8, x10, x11 => if x11 < x7 then (if 0 ≤ x8 then (if x8 ≤ (x0.length : Int) then ((papermillref08_TakeInt.f k (x0.drop (x8 : Int).toNat)).bind fun bt286 => (if bt286.2.2 = 0 then (if x10.length < 17592186044416 then (papermillref08_TakeList.l0 k x0 x7 (wrap64 (x8 + bt286.2.1)) (x10 ++ [bt286.1]) (wrap64 (x11 + 1))) else (none)) else (some (([] : List Int), 0, bt286.2.2)))) else (none)) else (none)) else (some (x10, x8, 0))
def papermillref08_TakeList.f (k : Nat) (l0 : List Int) (a1 : Int) : Option (List Int × Int × Int) := (papermillref08_length.f k l0 a1).bind fun bt282 => (if bt282.2.2 = 0 then (papermillref08_TakeList.l0 k l0 bt282.1 bt282.2.1 ([] : List Int) 0) else (some (([] : List Int), 0, bt282.2.2)))
theorem papermillref08_TakeList.mono_l : ∀ k, (∀ y0 y1 y2 y3 y4, LeO (papermillref08_TakeList.l0 k y0 y1 y2 y3 y4) (papermillref08_TakeList.l0 (k + 1) y0 y1 y2 y3 y4))
  | 0 => fun _ _ _ _ _ r h => by simp [papermillref08_TakeList.l0] at h
  | k + 1 => by
    have ih0 := papermillref08_TakeList.mono_l k
    · intro y0 y1 y2 y3 y4
      unfold papermillref08_TakeList.l0
      repeat' first
      | (with_reducible exact ih0 _ _ _ _ _)
      | (with_reducible exact papermillref08_TakeInt.mono _ _)
      | (with_reducible exact papermillref08_length.mono _ _ _)
      | (with_reducible exact LeO.refl _)
      | (with_reducible exact LeO.none _)
      | (with_reducible refine LeO.ite ?_ ?_)
      | (with_reducible refine LeO.bind ?_ (fun _ => ?_))
      | exact ih0 _ _ _ _ _
      | exact papermillref08_TakeInt.mono _ _
      | exact papermillref08_length.mono _ _ _
      | exact LeO.none _
      | refine LeO.ite ?_ ?_
      | refine LeO.bind ?_ (fun _ => ?_)
theorem papermillref08_TakeList.mono : ∀ a0 a1 k, LeO (papermillref08_TakeList.f k a0 a1) (papermillref08_TakeList.f (k + 1) a0 a1) := by
  intro a0 a1 k
  have ih0 := papermillref08_TakeList.mono_l k
  unfold papermillref08_TakeList.f
  repeat' first
      | (with_reducible exact ih0 _ _ _ _ _)
      | (with_reducible exact papermillref08_TakeInt.mono _ _)
      | (with_reducible exact papermillref08_length.mono _ _ _)
      | (with_reducible exact LeO.refl _)
      | (with_reducible exact LeO.none _)
      | (with_reducible refine LeO.ite ?_ ?_)
      | (with_reducible refine LeO.bind ?_ (fun _ => ?_))
      | exact ih0 _ _ _ _ _
      | exact papermillref08_TakeInt.mono _ _
      | exact papermillref08_length.mono _ _ _
      | exact LeO.none _
      | refine LeO.ite ?_ ?_
      | refine LeO.bind ?_ (fun _ => ?_)
set_option maxHeartbeats 8000000 in
set_option maxRecDepth 100000 in
theorem papermillref08_TakeList.calls (k : Nat) (A0 : Option Addr) (c0 : Nat) (l0 : List Int) (a1 : Int) (r1 : List Int) (r2 : Int) (r3 : Int) (w : World) (hr0 : Kd.C (Kd.int .u8) w A0 l0.length l0) (hc0 : l0.length ≤ c0) (h : papermillref08_TakeList.f k l0 a1 = some (r1, r2, r3)) :
    Calls Tryd.prog 37 #[.slice A0 l0.length c0, .int .i64 a1] w fun e w' => ∃ v0_ : Value, e = .returned (.tuple #[v0_, .int .i64 r2, .int .i64 r3]) ∧ Kd.R (Kd.int .i64) 3 w' w.heap.size (fun _ => True) v0_ r1 ∧ Below w.heap.size w w' := by
  have HR0 := Aside0.mk hr0
  have HC0 := Aside0.mk hc0
  clear hr0 hc0
  have HB := Aside0.mk (Below.refl w.heap.size w)
  have H : ((papermillref08_length.f k l0 a1).bind fun bt282 => (if bt282.2.2 = 0 then (papermillref08_TakeList.l0 k l0 bt282.1 bt282.2.1 ([] : List Int) 0) else (some (([] : List Int), 0, bt282.2.2)))) = some (r1, r2, r3) := h
  clear h
  replace H := Option.bind_eq_some_iff.mp H
  obtain ⟨⟨t282, t283, t284⟩, A30, H⟩ := H
  replace H : (if t284 = 0 then (papermillref08_TakeList.l0 k l0 t282 t283 ([] : List Int) 0) else (some (([] : List Int), 0, t284))) = some (r1, r2, r3) := H
  have A3 := Aside0.mk A30
  clear A30
  by_cases c4 : t284 = 0
  ·rw [if_pos c4] at H
   have c4b0 : (t284 == 0) = true := beq_iff_eq.mpr c4
   have c4b1 : (t284 != 0) = false := bne_eq_false_iff_eq.mpr c4
   clear c4
   have H' := Aside0.mk H
   clear H
   go_enter Tryd.func37, Tryd.ntmps37
   go_wp2_with (first | ((with_reducible refine gate_callee (f := 45) rfl ?_); refine goesL_ (some 18) rfl rfl Tryd.func45 (by kernel_rfl) rfl #[.slice A0 l0.length c0, .int .i64 a1] rfl (by (try simp only [List.map_toArray, List.map_cons, List.map_nil]); first | done | rfl | (simp only [List.length_drop, List.length_take]; rfl)) ?_; (with_reducible refine (papermillref08_length.calls k _ _ l0 a1 t282 t283 t284 _ ?side1 ?side2 A3.out).mono ?_); (case side1 => repeat (first | exact HR0.out | (with_reducible refine Kd.C_alloc ?_ _) | (with_reducible refine Kd.C_drewN ?_ _) | (with_reducible refine Kd.C_drew ?_))); (case side2 => exact HC0.out); rintro e w' ⟨rfl, ⟨nd, rfl⟩⟩; refine ⟨_, rfl, ?_⟩))
   go_loopg [8, 10, 11] k (fun kq v8 v10 v11 w' => ∃ (x8_1 : Int) (x10_1 : List Int) (x11_1 : Int), v8 = .int .i64 x8_1 ∧ v11 = .int .i64 x11_1 ∧ Aside0 (papermillref08_TakeList.l0 kq l0 t282 x8_1 x10_1 x11_1 = some (r1, r2, r3)) ∧ Aside0 (kq ≤ k) ∧ Aside0 (Kd.R (Kd.int .i64) 3 w' w.heap.size (fun _ => True) v10 x10_1) ∧ Aside0 (Below w.heap.size w w'))
   case atStart => exact ⟨(t283), (([] : List Int)), (0), (by first | rfl | (simp; done) | (simp [*]; done)), (by first | rfl | (simp; done) | (simp [*]; done)), H', ⟨Nat.le_refl _⟩, ⟨by first | exact Kd.R_nil _ _ _ _ _ | exact Kd.N_nil _ _ _ _ _ | exact Kd.V_nil _ _ _ _ _ | exact Kd.Q_nil _ _ _ _ _ | exact Kd.S_nil _ _ _ _ _⟩, ⟨by repeat (first | (with_reducible first | exact HB.out | apply below_alloc | apply pw_below_drewN | apply below_drew1) | exact HB.out)⟩⟩
   case round =>
    clear H'
    try clear p2
    try clear c3
    try clear c4
    try clear c4b0
    try clear c4b1
    obtain ⟨x8_1, x10_1, x11_1, rfl, rfl, HA, HK1, HO_10, HB⟩ := hrel
    cases gk with
    | zero => exact absurd HA.out (by simp [papermillref08_TakeList.l0])
    | succ k1 =>
     have H := HA.out
     clear HA
     simp only [papermillref08_TakeList.l0] at H
     by_cases c5 : x11_1 < t282
     ·rw [if_pos c5] at H
      have c5b0 : decide (x11_1 < t282) = true := decide_eq_true c5
      clear c5
      by_cases c6 : 0 ≤ x8_1
      ·rw [if_pos c6] at H
       have c6b0 := eq_true c6
       have c6b1 : decide (0 ≤ x8_1) = true := decide_eq_true c6
       clear c6
       by_cases c7 : x8_1 ≤ (l0.length : Int)
       ·rw [if_pos c7] at H
        have c7b0 := eq_true c7
        have c7b1 : decide (x8_1 ≤ (l0.length : Int)) = true := decide_eq_true c7
        clear c7
        replace H := Option.bind_eq_some_iff.mp H
        obtain ⟨⟨t286, t287, t288⟩, A80, H⟩ := H
        replace H : (if t288 = 0 then (if x10_1.length < 17592186044416 then (papermillref08_TakeList.l0 k1 l0 t282 (wrap64 (x8_1 + t287)) (x10_1 ++ [t286]) (wrap64 (x11_1 + 1))) else (none)) else (some (([] : List Int), 0, t288))) = some (r1, r2, r3) := H
        have A8 := Aside0.mk A80
        clear A80
        by_cases c9 : t288 = 0
        ·rw [if_pos c9] at H
         have c9b0 : (t288 == 0) = true := beq_iff_eq.mpr c9
         have c9b1 : (t288 != 0) = false := bne_eq_false_iff_eq.mpr c9
         clear c9
         by_cases c10 : x10_1.length < 17592186044416
         ·rw [if_pos c10] at H
          have LMc10 := Aside0.mk c10
          clear c10
          obtain ⟨y289, hy289⟩ : ∃ y_ : List Int, y_ = (x10_1 ++ [t286]) := ⟨_, rfl⟩
          replace H : (papermillref08_TakeList.l0 k1 l0 t282 (wrap64 (x8_1 + t287)) y289 (wrap64 (x11_1 + 1))) = some (r1, r2, r3) := by first | (rw [hy289]; with_reducible exact H) | (have H2_ := (Option.bind_some _ _).symm.trans H; rw [hy289]; with_reducible exact H2_) | (have H2_ := (Option.bind_some _ _).symm.trans H; with_reducible exact H2_) | with_reducible exact H | (rw [hy289]; exact H) | exact H
          have Ny289 := Aside0.mk hy289
          clear hy289
          have H' := Aside0.mk H
          clear H
          obtain ⟨i011, hi011, _, hsz11, _⟩ := info_parts info5
          obtain ⟨A11, hcut11, hA11, hC11⟩ := print_drop_of (P := Tryd.prog) (Value.int .u8) 0 28 5 .i64 Tryd.underlying28 hi011 hsz11 A0 c0 l0 x8_1 (of_decide_eq_true (by first | (with_reducible assumption) | assumption)) (of_decide_eq_true (by first | (with_reducible assumption) | assumption)) HC0.out
          have HR285 := Aside0.mk (Kd.C_of_reads (h1 := fun _ => rfl) (hA11 _ (Kd.reads_of_C HR0.out)))
          have HC285 := Aside0.mk hC11
          clear hA11 hC11 hi011 hsz11
          go_wp2_with (first | ((with_reducible refine gate_callee (f := 36) rfl ?_); refine goesL_ (some 34) rfl rfl Tryd.func36 (by kernel_rfl) rfl #[.slice A11 (l0.drop (x8_1 : Int).toNat).length (c0 - x8_1.toNat)] rfl (by (try simp only [List.map_toArray, List.map_cons, List.map_nil]); first | done | (rw [show (l0.drop (x8_1 : Int).toNat).length = (l0.length - x8_1.toNat) from List.length_drop] <;> rfl) | rfl | (simp only [List.length_drop, List.length_take]; rfl)) ?_; (with_reducible refine (papermillref08_TakeInt.calls k1 _ _ (l0.drop (x8_1 : Int).toNat) t286 t287 t288 _ ?side1 ?side2 A8.out).mono ?_); (case side1 => repeat (first | exact (Kd.C_below HR285.out HB.out) | (with_reducible refine Kd.C_alloc ?_ _) | (with_reducible refine Kd.C_drewN ?_ _) | (with_reducible refine Kd.C_drew ?_))); (case side2 => exact HC285.out); rintro e w' ⟨rfl, ⟨nd, rfl⟩⟩; refine ⟨_, rfl, ?_⟩) | ((with_reducible refine gate_builtin (b := .append) (xs := #[.tmp 41, .tmp 43]) rfl ?_); at_builtin; refine Kd.R_append (Kd.int .i64) (w0 := w) w.heap.size rfl (.tmp 41) (.tmp 43) 22 3 (.int .i64 0) 8 rfl Tryd.underlying22 info3 rfl (by decide) (by omega) u10 x10_1 t286 [.int .i64 t286] (fun _ => True) (fun _ => False) rfl rfl ?aP (fun _ hk => hk.elim) ?aF ?aO ?aB ?aS ?aL ?_; (case aP => exact rfl); (case aB => exact (by repeat (first | (with_reducible first | exact HB.out | apply below_alloc | apply pw_below_drewN | apply below_drew1) | exact HB.out))); (case aF => exact (fun _ _ => trivial)); (case aO => exact (by (with_reducible repeat (first | apply Kd.R_alloc | apply Kd.R_drewN | apply Kd.R_drew)); exact HO_10.out)); (case aS => exact (below_size (by repeat (first | (with_reducible first | exact HB.out | apply below_alloc | apply pw_below_drewN | apply below_drew1) | exact HB.out)))); (case aL => have := LMc10.out; omega); intro v290 w12 ho hb hg hat; rw [← Ny289.out] at ho; have n0_ := Aside0.mk (hb); have n1_ := Aside0.mk (ho); clear HB; clear HO_10; have HB := n0_; have HO291 := n1_; clear n0_ n1_; clear ho hb hg hat))
          go_roundg k1
          case measure => have := HK1.out; omega
          case rel => exact ⟨(wrap64 (x8_1 + t287)), (y289), (wrap64 (x11_1 + 1)), (by first | rfl | (simp; done) | (simp [*]; done)), (by first | rfl | (simp; done) | (simp [*]; done)), H', ⟨by have := HK1.out; omega⟩, ⟨by (with_reducible repeat (first | apply Kd.R_alloc | apply Kd.R_drewN | apply Kd.R_drew)); exact HO291.out⟩, ⟨by repeat (first | (with_reducible first | exact HB.out | apply below_alloc | apply pw_below_drewN | apply below_drew1) | exact HB.out)⟩⟩
         ·rw [if_neg c10] at H
          exact absurd H (by simp)
        ·rw [if_neg c9] at H
         have c9b0 : (t288 == 0) = false := beq_eq_false_iff_ne.mpr c9
         have c9b1 : (t288 != 0) = true := bne_iff_ne.mpr c9
         simp only [Option.some.injEq, Prod.mk.injEq] at H
         obtain ⟨rfl, rfl, rfl⟩ := H
         obtain ⟨i013, hi013, _, hsz13, _⟩ := info_parts info5
         obtain ⟨A13, hcut13, hA13, hC13⟩ := print_drop_of (P := Tryd.prog) (Value.int .u8) 0 28 5 .i64 Tryd.underlying28 hi013 hsz13 A0 c0 l0 x8_1 (of_decide_eq_true (by first | (with_reducible assumption) | assumption)) (of_decide_eq_true (by first | (with_reducible assumption) | assumption)) HC0.out
         have HR285 := Aside0.mk (Kd.C_of_reads (h1 := fun _ => rfl) (hA13 _ (Kd.reads_of_C HR0.out)))
         have HC285 := Aside0.mk hC13
         clear hA13 hC13 hi013 hsz13
         go_wp2_with (first | ((with_reducible refine gate_callee (f := 36) rfl ?_); refine goesL_ (some 34) rfl rfl Tryd.func36 (by kernel_rfl) rfl #[.slice A13 (l0.drop (x8_1 : Int).toNat).length (c0 - x8_1.toNat)] rfl (by (try simp only [List.map_toArray, List.map_cons, List.map_nil]); first | done | (rw [show (l0.drop (x8_1 : Int).toNat).length = (l0.length - x8_1.toNat) from List.length_drop] <;> rfl) | rfl | (simp only [List.length_drop, List.length_take]; rfl)) ?_; (with_reducible refine (papermillref08_TakeInt.calls k1 _ _ (l0.drop (x8_1 : Int).toNat) t286 t287 t288 _ ?side1 ?side2 A8.out).mono ?_); (case side1 => repeat (first | exact (Kd.C_below HR285.out HB.out) | (with_reducible refine Kd.C_alloc ?_ _) | (with_reducible refine Kd.C_drewN ?_ _) | (with_reducible refine Kd.C_drew ?_))); (case side2 => exact HC285.out); rintro e w' ⟨rfl, ⟨nd, rfl⟩⟩; refine ⟨_, rfl, ?_⟩))
         go_ret3
         exact ⟨_, by first | rfl | (simp [errW_none, errW_some] <;> rfl) | (simp [*, errW_none, errW_some] <;> rfl), by first | exact Kd.R_nil _ _ _ _ _ | exact Kd.N_nil _ _ _ _ _ | exact Kd.V_nil _ _ _ _ _ | exact Kd.Q_nil _ _ _ _ _ | exact Kd.S_nil _ _ _ _ _, by repeat (first | (with_reducible first | exact HB.out | apply below_alloc | apply pw_below_drewN | apply below_drew1) | exact HB.out)⟩
       ·rw [if_neg c7] at H
        exact absurd H (by simp)
      ·rw [if_neg c6] at H
       exact absurd H (by simp)
     ·rw [if_neg c5] at H
      have c5b0 : decide (x11_1 < t282) = false := decide_eq_false c5
      clear c5
      simp only [Option.some.injEq, Prod.mk.injEq] at H
      obtain ⟨rfl, rfl, rfl⟩ := H
      go_wp2
      go_ret3
      exact ⟨_, by first | rfl | (simp [errW_none, errW_some] <;> rfl) | (simp [*, errW_none, errW_some] <;> rfl), by (with_reducible repeat (first | apply Kd.R_alloc | apply Kd.R_drewN | apply Kd.R_drew)); exact HO_10.out, by repeat (first | (with_reducible first | exact HB.out | apply below_alloc | apply pw_below_drewN | apply below_drew1) | exact HB.out)⟩
  ·rw [if_neg c4] at H
   have c4b0 : (t284 == 0) = false := beq_eq_false_iff_ne.mpr c4
   have c4b1 : (t284 != 0) = true := bne_iff_ne.mpr c4
   simp only [Option.some.injEq, Prod.mk.injEq] at H
   obtain ⟨rfl, rfl, rfl⟩ := H
   go_enter Tryd.func37, Tryd.ntmps37
   go_wp2_with (first | ((with_reducible refine gate_callee (f := 45) rfl ?_); refine goesL_ (some 18) rfl rfl Tryd.func45 (by kernel_rfl) rfl #[.slice A0 l0.length c0, .int .i64 a1] rfl (by (try simp only [List.map_toArray, List.map_cons, List.map_nil]); first | done | rfl | (simp only [List.length_drop, List.length_take]; rfl)) ?_; (with_reducible refine (papermillref08_length.calls k _ _ l0 a1 t282 t283 t284 _ ?side1 ?side2 A3.out).mono ?_); (case side1 => repeat (first | exact HR0.out | (with_reducible refine Kd.C_alloc ?_ _) | (with_reducible refine Kd.C_drewN ?_ _) | (with_reducible refine Kd.C_drew ?_))); (case side2 => exact HC0.out); rintro e w' ⟨rfl, ⟨nd, rfl⟩⟩; refine ⟨_, rfl, ?_⟩))
   go_ret3
   exact ⟨_, by first | rfl | (simp [errW_none, errW_some] <;> rfl) | (simp [*, errW_none, errW_some] <;> rfl), by first | exact Kd.R_nil _ _ _ _ _ | exact Kd.N_nil _ _ _ _ _ | exact Kd.V_nil _ _ _ _ _ | exact Kd.Q_nil _ _ _ _ _ | exact Kd.S_nil _ _ _ _ _, by repeat (first | (with_reducible first | exact HB.out | apply below_alloc | apply pw_below_drewN | apply below_drew1) | exact HB.out)⟩

/-! ### papermillref61_Get: function 19 -/
def papermillref61_Get.l0 (k : Nat) (l0 : List Int) : Nat → Int → List Int → Option (Int × Int × Int × Int × Int × Int × List Int × Int)
  | 0, at_, xs => if 0 ≤ at_ ∧ at_ ≤ (l0.length : Int) ∧ l0.length ≤ 1000000 then (papermillref08_TakeList.f k (l0.drop at_.toNat) 32).bind fun t => if t.2.2 = 0 then (if 0 ≤ t.2.1 ∧ t.2.1 ≤ (l0.length : Int) then (if at_ + t.2.1 = (l0.length : Int) then (papermillref61_Check.f k (rd xs 0) (rd xs 1) (rd xs 2) (rd xs 3) (rd xs 4) (rd xs 5) t.1).bind fun f => if f = 0 then some (rd xs 0, rd xs 1, rd xs 2, rd xs 3, rd xs 4, rd xs 5, t.1, 0) else some (0, 0, 0, 0, 0, 0, [], f) else some (0, 0, 0, 0, 0, 0, [], 3)) else none) else some (0, 0, 0, 0, 0, 0, [], t.2.2) else none
  | m + 1, at_, xs => if 0 ≤ at_ ∧ at_ ≤ (l0.length : Int) ∧ l0.length ≤ 1000000 then (papermillref08_TakeInt.f k (l0.drop at_.toNat)).bind fun t => if t.2.2 = 0 then (if 0 ≤ t.2.1 ∧ t.2.1 ≤ (l0.length : Int) then papermillref61_Get.l0 k l0 m (at_ + t.2.1) (xs.set (5 - m) t.1) else none) else some (0, 0, 0, 0, 0, 0, [], t.2.2) else none
def papermillref61_Get.f (k : Nat) (l0 : List Int) : Option (Int × Int × Int × Int × Int × Int × List Int × Int) := papermillref61_Get.l0 k l0 6 0 [0, 0, 0, 0, 0, 0]
theorem papermillref61_Get.mono_l (k : Nat) (l0 : List Int) : ∀ m a xs, LeO (papermillref61_Get.l0 k l0 m a xs) (papermillref61_Get.l0 (k + 1) l0 m a xs)
  | 0, a, xs => by
    unfold papermillref61_Get.l0
    repeat' first
      | (with_reducible exact LeO.refl _)
      | (with_reducible exact LeO.none _)
      | exact papermillref61_Check.mono _ _ _ _ _ _ _ _
      | exact papermillref08_TakeList.mono _ _ _
      | (with_reducible refine LeO.ite ?_ ?_)
      | (with_reducible refine LeO.bind ?_ (fun _ => ?_))
  | m + 1, a, xs => by
    unfold papermillref61_Get.l0
    repeat' first
      | (with_reducible exact LeO.refl _)
      | (with_reducible exact LeO.none _)
      | exact papermillref61_Get.mono_l k l0 m _ _
      | exact papermillref08_TakeInt.mono _ _
      | (with_reducible refine LeO.ite ?_ ?_)
      | (with_reducible refine LeO.bind ?_ (fun _ => ?_))
theorem papermillref61_Get.mono : ∀ a0 k, LeO (papermillref61_Get.f k a0) (papermillref61_Get.f (k + 1) a0) := fun a0 k => papermillref61_Get.mono_l k a0 6 0 _
theorem ref_n_index (g i : Nat) (h : i < 6) (W : World) : Sem.run Tryd.prog (Instr.indexAt 22 (.slice (some ⟨g, 0, none⟩) 6 6) (.int .i64 (i : Int))) W = .ok (.pointer (some ⟨g, i, none⟩)) W := by
  have hu22 := Tryd.underlying22
  rcases (by omega : i = 0 ∨ i = 1 ∨ i = 2 ∨ i = 3 ∨ i = 4 ∨ i = 5) with rfl | rfl | rfl | rfl | rfl | rfl
  all_goals first | rfl | kernel_rfl
section
variable {ops : Array Oper} {rest : List Oper} {o : Oper} {a : Act} {Q : Exit → Act → World → Prop}
theorem make_event {W : World} (hgd : o.guard = none) {N : Tmp} (_hd : o.dst = some N) {cs : Array Value} {t : TypeId} {n c : Nat}
    (hrun : (execOp a.eval o).run Tryd.prog W = .ok (.value (.slice (some ⟨W.heap.size, 0, none⟩) n c)) (W.alloc (.cells cs t (0, 0))))
    (h : ∀ g, g = W.heap.size → ∀ w1, w1.heap[g]? = some (.cells cs t (0, 0)) → Below W.heap.size W w1 → wpList Tryd.prog ops Q rest (a.put o.dst (.slice (some ⟨g, 0, none⟩) n c)) w1) : wpList Tryd.prog ops Q (o :: rest) a W :=
  Kd.event_run hgd hrun (h _ rfl _ (blk_new W _) (below_alloc (Below.refl _ _) _))
end
set_option maxHeartbeats 4000000 in
set_option maxRecDepth 100000 in
theorem papermillref61_Get.calls (k : Nat) (A0 : Option Addr) (c0 : Nat) (l0 : List Int) (r1 : Int) (r2 : Int) (r3 : Int) (r4 : Int) (r5 : Int) (r6 : Int) (r7 : List Int) (r8 : Int) (w : World) (hr0 : Kd.C (Kd.int .u8) w A0 l0.length l0) (hc0 : l0.length ≤ c0) (h : papermillref61_Get.f k l0 = some (r1, r2, r3, r4, r5, r6, r7, r8)) :
    Calls Tryd.prog 19 #[.slice A0 l0.length c0] w fun e w' => ∃ v6_ : Value, e = .returned (.tuple #[.agg #[.int .i64 r1, .int .i64 r2, .int .i64 r3, .int .i64 r4, .int .i64 r5, .int .i64 r6, v6_], .int .i64 r8]) ∧ Kd.R (Kd.int .i64) 3 w' w.heap.size (fun _ => True) v6_ r7 ∧ Below w.heap.size w w' := by
  have hu24 := Tryd.underlying24
  have HR := Aside0.mk hr0
  have HC := Aside0.mk hc0
  have H := Aside0.mk h
  have HB := Aside0.mk (Below.refl w.heap.size w)
  clear hr0 hc0 h
  go_enter Tryd.func19, Tryd.ntmps19
  go_wp2_with (first
    | ((with_reducible refine gate_dst (N := 2) rfl ?_); (go_must (refine box_event ?hg (N := 2) ?hd (cs := #[.int .i64 0, .int .i64 0, .int .i64 0, .int .i64 0, .int .i64 0, .int .i64 0, .slice none 0 0]) (t := 24) ?hr ?_)); (case hd => rfl); (case hg => rfl); (case hr => first | (go_simp; done) | (go_simp; rfl)); intro gr hg w1 hbox hb; have BR1 := Aside0.mk hbox; have HB1 := Aside0.mk hb; have GR := Aside0.mk (Nat.le_of_eq hg.symm); clear hbox hb hg HB)
    | ((with_reducible refine gate_dst (N := 15) rfl ?_); (go_must (refine make_event ?hg (N := 15) ?hd (cs := #[.int .i64 0, .int .i64 0, .int .i64 0, .int .i64 0, .int .i64 0, .int .i64 0]) (t := 3) (n := 6) (c := 6) ?hr ?_)); (case hd => rfl); (case hg => rfl); (case hr => first | kernel_rfl | (go_simp; done) | (go_simp; rfl)); intro gn hg w2 hbox hb; have BR2 := Aside0.mk (blk_below BR1.out hb); have BN2 := Aside0.mk hbox; have HB2 := Aside0.mk (below_step HB1.out hb); have GN := Aside0.mk (Nat.le_trans (below_size HB1.out) (Nat.le_of_eq hg.symm)); have NE := Aside0.mk (show gr ≠ gn from fun e => absurd (blk_lt BR1.out) (by rw [e, hg]; exact Nat.lt_irrefl _)); clear hbox hb hg BR1 HB1))
  go_loopg [5, 6] 6 (fun kq v5 v6 w' => ∃ (at_ : Int) (i : Nat) (x0 x1 x2 x3 x4 x5 : Int), v5 = .int .i64 at_ ∧ v6 = .int .i64 (i : Int) ∧ Aside0 (kq = 6 - i ∧ i ≤ 6) ∧ Aside0 (papermillref61_Get.l0 k l0 (6 - i) at_ [x0, x1, x2, x3, x4, x5] = some (r1, r2, r3, r4, r5, r6, r7, r8)) ∧ Aside0 (w'.heap[gr]? = some (.cells #[.int .i64 0, .int .i64 0, .int .i64 0, .int .i64 0, .int .i64 0, .int .i64 0, .slice none 0 0] 24 (0, 0))) ∧ Aside0 (w'.heap[gn]? = some (.cells #[(.int .i64 x0), (.int .i64 x1), (.int .i64 x2), (.int .i64 x3), (.int .i64 x4), (.int .i64 x5)] 3 (0, 0))) ∧ Aside0 (Below w.heap.size w w'))
  case atStart => exact ⟨0, 0, 0, 0, 0, 0, 0, 0, rfl, rfl, ⟨by omega⟩, H, BR2, BN2, HB2⟩
  case round =>
    obtain ⟨at_, i, x0, x1, x2, x3, x4, x5, rfl, rfl, HI, HQ, BR3, BN3, HB3⟩ := hrel
    clear H BR2 BN2 HB2
    by_cases c4 : i < 6
    · have c4b : decide ((i : Int) < 6) = true := decide_eq_true (by omega)
      obtain ⟨y, hy⟩ : ∃ y, wr.cell? ⟨gn, i, none⟩ = some (.int .i64 y) := by
        have hc0 := (blk_cell BN3.out 0).trans rfl
        have hc1 := (blk_cell BN3.out 1).trans rfl
        have hc2 := (blk_cell BN3.out 2).trans rfl
        have hc3 := (blk_cell BN3.out 3).trans rfl
        have hc4 := (blk_cell BN3.out 4).trans rfl
        have hc5 := (blk_cell BN3.out 5).trans rfl
        rcases (by omega : i = 0 ∨ i = 1 ∨ i = 2 ∨ i = 3 ∨ i = 4 ∨ i = 5) with rfl | rfl | rfl | rfl | rfl | rfl
        · exact ⟨_, hc0⟩
        · exact ⟨_, hc1⟩
        · exact ⟨_, hc2⟩
        · exact ⟨_, hc3⟩
        · exact ⟨_, hc4⟩
        · exact ⟨_, hc5⟩
      have hyf := blk_frozen BN3.out i
      have hq : (if 0 ≤ at_ ∧ at_ ≤ (l0.length : Int) ∧ l0.length ≤ 1000000 then (papermillref08_TakeInt.f k (l0.drop at_.toNat)).bind fun t => if t.2.2 = 0 then (if 0 ≤ t.2.1 ∧ t.2.1 ≤ (l0.length : Int) then papermillref61_Get.l0 k l0 (5 - i) (at_ + t.2.1) ([x0, x1, x2, x3, x4, x5].set (5 - (5 - i)) t.1) else none) else some (0, 0, 0, 0, 0, 0, [], t.2.2) else none) = some (r1, r2, r3, r4, r5, r6, r7, r8) := by
        have hq := HQ.out
        rw [show 6 - i = (5 - i) + 1 by omega] at hq
        exact hq
      by_cases ca : 0 ≤ at_ ∧ at_ ≤ (l0.length : Int) ∧ l0.length ≤ 1000000
      case neg => rw [if_neg ca] at hq; cases hq
      rw [if_pos ca] at hq
      obtain ⟨⟨v, n, f⟩, hcs, hcr⟩ := Option.bind_eq_some_iff.mp hq
      have HCS := Aside0.mk hcs
      have hidx := ref_n_index gn i c4
      obtain ⟨i0_, hi0_, _, hsz0_, _⟩ := info_parts info5
      obtain ⟨A5, hcut5, hA5, hC5⟩ := print_drop_of (P := Tryd.prog) (Value.int .u8) 0 28 5 .i64 Tryd.underlying28 hi0_ hsz0_ A0 c0 l0 at_ ca.1 ca.2.1 HC.out
      have HX5 := Aside0.mk (show Kd.C (Kd.int .u8) w A5 (l0.drop at_.toNat).length (l0.drop at_.toNat) ∧ _ from ⟨Kd.C_of_reads (h1 := fun _ => rfl) (hA5 _ (Kd.reads_of_C HR.out)), hC5⟩)
      clear hA5 hC5 hi0_ hsz0_
      obtain ⟨ca1, ca2, ca3⟩ := ca
      have ca4 : decide (0 ≤ at_) = true := decide_eq_true ca1
      have ca5 : decide (at_ ≤ (l0.length : Int)) = true := decide_eq_true ca2
      by_cases cf : f = 0
      · subst cf
        simp only [if_true] at hcr
        by_cases cn : 0 ≤ n ∧ n ≤ (l0.length : Int)
        · rw [if_pos cn] at hcr
          have HCR := Aside0.mk hcr
          obtain ⟨cn1, cn2⟩ := cn
          clear hcs hcr hq
          go_wp2_with (first | (go_at_call 36; (go_must (refine calls_of_args (args' := #[.slice A5 (l0.drop at_.toNat).length (c0 - at_.toNat)]) (by first | (rw [show (l0.drop at_.toNat).length = (l0.length - at_.toNat) from List.length_drop] <;> rfl) | rfl) ?_)); (go_must (refine (papermillref08_TakeInt.calls k _ _ (l0.drop at_.toNat) v n 0 _ (Kd.C_below HX5.out.1 HB3.out) HX5.out.2 HCS.out).mono ?_)); rintro e w5 ⟨rfl, ⟨nd, rfl⟩⟩))
          go_roundg (6 - (i + 1))
          case measure => have := HI.out; omega
          case rel =>
            obtain ⟨y0, y1, y2, y3, y4, y5, hy1, hy2⟩ : ∃ y0 y1 y2 y3 y4 y5, [x0, x1, x2, x3, x4, x5].set (5 - (5 - i)) v = [y0, y1, y2, y3, y4, y5] ∧ ((wr.drewN nd).setCell ⟨gn, i, none⟩ (.int .i64 v)).heap[gn]? = some (.cells #[(.int .i64 y0), (.int .i64 y1), (.int .i64 y2), (.int .i64 y3), (.int .i64 y4), (.int .i64 y5)] 3 (0, 0)) := by
              rcases (by omega : i = 0 ∨ i = 1 ∨ i = 2 ∨ i = 3 ∨ i = 4 ∨ i = 5) with rfl | rfl | rfl | rfl | rfl | rfl
              · exact ⟨v, x1, x2, x3, x4, x5, rfl, blk_put (blk_drewN BN3.out nd) 0 _ rfl⟩
              · exact ⟨x0, v, x2, x3, x4, x5, rfl, blk_put (blk_drewN BN3.out nd) 1 _ rfl⟩
              · exact ⟨x0, x1, v, x3, x4, x5, rfl, blk_put (blk_drewN BN3.out nd) 2 _ rfl⟩
              · exact ⟨x0, x1, x2, v, x4, x5, rfl, blk_put (blk_drewN BN3.out nd) 3 _ rfl⟩
              · exact ⟨x0, x1, x2, x3, v, x5, rfl, blk_put (blk_drewN BN3.out nd) 4 _ rfl⟩
              · exact ⟨x0, x1, x2, x3, x4, v, rfl, blk_put (blk_drewN BN3.out nd) 5 _ rfl⟩
            refine ⟨at_ + n, i + 1, y0, y1, y2, y3, y4, y5, rfl, rfl, ⟨by omega⟩, ⟨?_⟩, ⟨?_⟩, ⟨hy2⟩, ⟨below_set (pw_below_drewN HB3.out nd) GN.out⟩⟩
            · rw [← hy1, show 6 - (i + 1) = 5 - i by omega]
              exact HCR.out
            · exact blk_far (blk_drewN BR3.out nd) NE.out _
        · rw [if_neg cn] at hcr
          cases hcr
      · simp only [if_neg cf] at hcr
        injection hcr with hcr
        injection hcr with e1 hcr
        injection hcr with e2 hcr
        injection hcr with e3 hcr
        injection hcr with e4 hcr
        injection hcr with e5 hcr
        injection hcr with e6 hcr
        injection hcr with e7 e8
        subst e1 e2 e3 e4 e5 e6 e7 e8
        have cfb : (f != 0) = true := bne_iff_ne.mpr cf
        clear hcs cf hq
        have hr0 : wr.cell? ⟨gr, 0, none⟩ = some (.int .i64 0) := (blk_cell BR3.out 0).trans rfl
        have hr1 : wr.cell? ⟨gr, 1, none⟩ = some (.int .i64 0) := (blk_cell BR3.out 1).trans rfl
        have hr2 : wr.cell? ⟨gr, 2, none⟩ = some (.int .i64 0) := (blk_cell BR3.out 2).trans rfl
        have hr3 : wr.cell? ⟨gr, 3, none⟩ = some (.int .i64 0) := (blk_cell BR3.out 3).trans rfl
        have hr4 : wr.cell? ⟨gr, 4, none⟩ = some (.int .i64 0) := (blk_cell BR3.out 4).trans rfl
        have hr5 : wr.cell? ⟨gr, 5, none⟩ = some (.int .i64 0) := (blk_cell BR3.out 5).trans rfl
        have hr6 : wr.cell? ⟨gr, 6, none⟩ = some (.slice none 0 0) := (blk_cell BR3.out 6).trans rfl
        have hg0 := blk_frozen BR3.out 0
        have hg1 := blk_frozen BR3.out 1
        have hg2 := blk_frozen BR3.out 2
        have hg3 := blk_frozen BR3.out 3
        have hg4 := blk_frozen BR3.out 4
        have hg5 := blk_frozen BR3.out 5
        have hg6 := blk_frozen BR3.out 6
        go_wp2_with (first | (go_at_call 36; (go_must (refine calls_of_args (args' := #[.slice A5 (l0.drop at_.toNat).length (c0 - at_.toNat)]) (by first | (rw [show (l0.drop at_.toNat).length = (l0.length - at_.toNat) from List.length_drop] <;> rfl) | rfl) ?_)); (go_must (refine (papermillref08_TakeInt.calls k _ _ (l0.drop at_.toNat) v n f _ (Kd.C_below HX5.out.1 HB3.out) HX5.out.2 HCS.out).mono ?_)); rintro e w5 ⟨rfl, ⟨nd, rfl⟩⟩))
        refine bodyPost_ret (results_ct rfl _ _ gr 24 #[.int .i64 0, .int .i64 0, .int .i64 0, .int .i64 0, .int .i64 0, .int .i64 0, .slice none 0 0] (0, 0) _ rfl (blk_put (blk_put (blk_put (blk_put (blk_put (blk_put (blk_put (blk_drewN BR3.out nd) 0 _ rfl) 1 _ rfl) 2 _ rfl) 3 _ rfl) 4 _ rfl) 5 _ rfl) 6 _ rfl) hu24 rfl (by kernel_rfl)) rfl ?_
        exact ⟨_, rfl, Kd.R_nil _ _ _ _ _, (below_set (below_set (below_set (below_set (below_set (below_set (below_set (pw_below_drewN HB3.out nd) GR.out) GR.out) GR.out) GR.out) GR.out) GR.out) GR.out)⟩
    · have c4b : decide ((i : Int) < 6) = false := decide_eq_false (by omega)
      have hq : (if 0 ≤ at_ ∧ at_ ≤ (l0.length : Int) ∧ l0.length ≤ 1000000 then (papermillref08_TakeList.f k (l0.drop at_.toNat) 32).bind fun t => if t.2.2 = 0 then (if 0 ≤ t.2.1 ∧ t.2.1 ≤ (l0.length : Int) then (if at_ + t.2.1 = (l0.length : Int) then (papermillref61_Check.f k x0 x1 x2 x3 x4 x5 t.1).bind fun f => if f = 0 then some (x0, x1, x2, x3, x4, x5, t.1, 0) else some (0, 0, 0, 0, 0, 0, [], f) else some (0, 0, 0, 0, 0, 0, [], 3)) else none) else some (0, 0, 0, 0, 0, 0, [], t.2.2) else none) = some (r1, r2, r3, r4, r5, r6, r7, r8) := by
        have hq := HQ.out
        rw [show 6 - i = 0 by omega] at hq
        exact hq
      by_cases ca : 0 ≤ at_ ∧ at_ ≤ (l0.length : Int) ∧ l0.length ≤ 1000000
      case neg => rw [if_neg ca] at hq; cases hq
      rw [if_pos ca] at hq
      obtain ⟨⟨ls, n, f⟩, hcs, hcr⟩ := Option.bind_eq_some_iff.mp hq
      have HCS := Aside0.mk hcs
      obtain ⟨i0_, hi0_, _, hsz0_, _⟩ := info_parts info5
      obtain ⟨A5, hcut5, hA5, hC5⟩ := print_drop_of (P := Tryd.prog) (Value.int .u8) 0 28 5 .i64 Tryd.underlying28 hi0_ hsz0_ A0 c0 l0 at_ ca.1 ca.2.1 HC.out
      have HX5 := Aside0.mk (show Kd.C (Kd.int .u8) w A5 (l0.drop at_.toNat).length (l0.drop at_.toNat) ∧ _ from ⟨Kd.C_of_reads (h1 := fun _ => rfl) (hA5 _ (Kd.reads_of_C HR.out)), hC5⟩)
      clear hA5 hC5 hi0_ hsz0_
      obtain ⟨ca1, ca2, ca3⟩ := ca
      have ca4 : decide (0 ≤ at_) = true := decide_eq_true ca1
      have ca5 : decide (at_ ≤ (l0.length : Int)) = true := decide_eq_true ca2
      by_cases cf : f = 0
      · subst cf
        simp only [if_true] at hcr
        by_cases cn : 0 ≤ n ∧ n ≤ (l0.length : Int)
        case neg => rw [if_neg cn] at hcr; cases hcr
        rw [if_pos cn] at hcr
        obtain ⟨cn1, cn2⟩ := cn
        by_cases ce : at_ + n = (l0.length : Int)
        case neg =>
          rw [if_neg ce] at hcr
          injection hcr with hcr
          injection hcr with e1 hcr
          injection hcr with e2 hcr
          injection hcr with e3 hcr
          injection hcr with e4 hcr
          injection hcr with e5 hcr
          injection hcr with e6 hcr
          injection hcr with e7 e8
          subst e1 e2 e3 e4 e5 e6 e7 e8
          have ceb : (at_ + n != (l0.length : Int)) = true := bne_iff_ne.mpr ce
          clear hcs hq ce
          go_wp2_with (first | (go_at_call 37; (go_must (refine calls_of_args (args' := #[.slice A5 (l0.drop at_.toNat).length (c0 - at_.toNat), .int .i64 32]) (by first | (rw [show (l0.drop at_.toNat).length = (l0.length - at_.toNat) from List.length_drop] <;> rfl) | rfl) ?_)); (go_must (refine (papermillref08_TakeList.calls k _ _ (l0.drop at_.toNat) 32 ls n 0 _ (Kd.C_below HX5.out.1 HB3.out) HX5.out.2 HCS.out).mono ?_)); rintro e w5 ⟨v5, rfl, ho, hb⟩; obtain ⟨Ao, co, eo⟩ := Kd.R_slice ho; subst eo; have HO5 := Aside0.mk (Kd.R_lower (Kd.R_mono (ok' := fun k => k ≠ gr ∧ k ≠ gn) (Kd.R_bound ho) (fun k hk => ⟨fun e => (by have h1 := blk_lt BR3.out; have h2 := hk.2.1; omega), fun e => (by have h1 := blk_lt BN3.out; have h2 := hk.2.1; omega)⟩)) (below_size HB3.out)); have BR5 := Aside0.mk (blk_below BR3.out hb); have BN5 := Aside0.mk (blk_below BN3.out hb); have HB5 := Aside0.mk (below_step HB3.out hb); clear hb ho; have hr0 : w5.cell? ⟨gr, 0, none⟩ = some (.int .i64 0) := (blk_cell BR5.out 0).trans rfl; have hr1 : w5.cell? ⟨gr, 1, none⟩ = some (.int .i64 0) := (blk_cell BR5.out 1).trans rfl; have hr2 : w5.cell? ⟨gr, 2, none⟩ = some (.int .i64 0) := (blk_cell BR5.out 2).trans rfl; have hr3 : w5.cell? ⟨gr, 3, none⟩ = some (.int .i64 0) := (blk_cell BR5.out 3).trans rfl; have hr4 : w5.cell? ⟨gr, 4, none⟩ = some (.int .i64 0) := (blk_cell BR5.out 4).trans rfl; have hr5 : w5.cell? ⟨gr, 5, none⟩ = some (.int .i64 0) := (blk_cell BR5.out 5).trans rfl; have hr6 : w5.cell? ⟨gr, 6, none⟩ = some (.slice none 0 0) := (blk_cell BR5.out 6).trans rfl; have hg0 := blk_frozen BR5.out 0; have hg1 := blk_frozen BR5.out 1; have hg2 := blk_frozen BR5.out 2; have hg3 := blk_frozen BR5.out 3; have hg4 := blk_frozen BR5.out 4; have hg5 := blk_frozen BR5.out 5; have hg6 := blk_frozen BR5.out 6))
          refine bodyPost_ret (results_ct rfl _ _ gr 24 #[.int .i64 0, .int .i64 0, .int .i64 0, .int .i64 0, .int .i64 0, .int .i64 0, .slice none 0 0] (0, 0) _ rfl (blk_put (blk_put (blk_put (blk_put (blk_put (blk_put (blk_put BR5.out 0 _ rfl) 1 _ rfl) 2 _ rfl) 3 _ rfl) 4 _ rfl) 5 _ rfl) 6 _ rfl) hu24 rfl (by kernel_rfl)) rfl ?_
          exact ⟨_, rfl, Kd.R_nil _ _ _ _ _, (below_set (below_set (below_set (below_set (below_set (below_set (below_set HB5.out GR.out) GR.out) GR.out) GR.out) GR.out) GR.out) GR.out)⟩
        rw [if_pos ce] at hcr
        obtain ⟨f1, hk, hcr⟩ := Option.bind_eq_some_iff.mp hcr
        have HK := Aside0.mk hk
        have ceb : (at_ + n != (l0.length : Int)) = false := bne_eq_false_iff_eq.mpr ce
        clear hcs hk hq ce
        by_cases cg : f1 = 0
        · subst cg
          simp only [if_true] at hcr
          injection hcr with hcr
          injection hcr with e1 hcr
          injection hcr with e2 hcr
          injection hcr with e3 hcr
          injection hcr with e4 hcr
          injection hcr with e5 hcr
          injection hcr with e6 hcr
          injection hcr with e7 e8
          subst e1 e2 e3 e4 e5 e6 e7 e8
          go_wp2_with (first | (go_at_call 37; (go_must (refine calls_of_args (args' := #[.slice A5 (l0.drop at_.toNat).length (c0 - at_.toNat), .int .i64 32]) (by first | (rw [show (l0.drop at_.toNat).length = (l0.length - at_.toNat) from List.length_drop] <;> rfl) | rfl) ?_)); (go_must (refine (papermillref08_TakeList.calls k _ _ (l0.drop at_.toNat) 32 ls n 0 _ (Kd.C_below HX5.out.1 HB3.out) HX5.out.2 HCS.out).mono ?_)); rintro e w5 ⟨v5, rfl, ho, hb⟩; obtain ⟨Ao, co, eo⟩ := Kd.R_slice ho; subst eo; have HO5 := Aside0.mk (Kd.R_lower (Kd.R_mono (ok' := fun k => k ≠ gr ∧ k ≠ gn) (Kd.R_bound ho) (fun k hk => ⟨fun e => (by have h1 := blk_lt BR3.out; have h2 := hk.2.1; omega), fun e => (by have h1 := blk_lt BN3.out; have h2 := hk.2.1; omega)⟩)) (below_size HB3.out)); have BR5 := Aside0.mk (blk_below BR3.out hb); have BN5 := Aside0.mk (blk_below BN3.out hb); have HB5 := Aside0.mk (below_step HB3.out hb); clear hb ho; have hn0 : w5.cell? ⟨gn, 0, none⟩ = some (.int .i64 x0) := (blk_cell BN5.out 0).trans rfl; have hn1 : w5.cell? ⟨gn, 1, none⟩ = some (.int .i64 x1) := (blk_cell BN5.out 1).trans rfl; have hn2 : w5.cell? ⟨gn, 2, none⟩ = some (.int .i64 x2) := (blk_cell BN5.out 2).trans rfl; have hn3 : w5.cell? ⟨gn, 3, none⟩ = some (.int .i64 x3) := (blk_cell BN5.out 3).trans rfl; have hn4 : w5.cell? ⟨gn, 4, none⟩ = some (.int .i64 x4) := (blk_cell BN5.out 4).trans rfl; have hn5 : w5.cell? ⟨gn, 5, none⟩ = some (.int .i64 x5) := (blk_cell BN5.out 5).trans rfl))
          go_region_held3 (fun w' => w'.cell? ⟨gn, 0, none⟩ = some (.int .i64 x0) ∧ w'.cell? ⟨gn, 1, none⟩ = some (.int .i64 x1) ∧ w'.cell? ⟨gn, 2, none⟩ = some (.int .i64 x2) ∧ w'.cell? ⟨gn, 3, none⟩ = some (.int .i64 x3) ∧ w'.cell? ⟨gn, 4, none⟩ = some (.int .i64 x4) ∧ w'.cell? ⟨gn, 5, none⟩ = some (.int .i64 x5)) (first | go_keep) (fail)
          have BX7 := Aside0.mk (blk_drew (blk_new w5 (Obj.cells #[(.int .i64 x0), (.int .i64 x1), (.int .i64 x2), (.int .i64 x3), (.int .i64 x4), (.int .i64 x5), (.slice Ao ls.length co)] 24)))
          have BR7 := Aside0.mk (blk_drew (blk_alloc BR5.out (Obj.cells #[(.int .i64 x0), (.int .i64 x1), (.int .i64 x2), (.int .i64 x3), (.int .i64 x4), (.int .i64 x5), (.slice Ao ls.length co)] 24)))
          have HB7 := Aside0.mk (below_drew (below_alloc HB5.out (Obj.cells #[(.int .i64 x0), (.int .i64 x1), (.int .i64 x2), (.int .i64 x3), (.int .i64 x4), (.int .i64 x5), (.slice Ao ls.length co)] 24)))
          have HO7 := Aside0.mk (Kd.R_drew (Kd.R_alloc HO5.out (Obj.cells #[(.int .i64 x0), (.int .i64 x1), (.int .i64 x2), (.int .i64 x3), (.int .i64 x4), (.int .i64 x5), (.slice Ao ls.length co)] 24)))
          generalize hW7 : (World.alloc w5 _).drew = w7 at BX7 BR7 HB7 HO7 ⊢
          generalize hgx : w5.heap.size = gx at BX7 ⊢
          clear hW7 BR5 HB5 HO5 hn0 hn1 hn2 hn3 hn4 hn5
          have hx0 : w7.cell? ⟨gx, 0, none⟩ = some (.int .i64 x0) := (blk_cell BX7.out 0).trans rfl
          have hx1 : w7.cell? ⟨gx, 1, none⟩ = some (.int .i64 x1) := (blk_cell BX7.out 1).trans rfl
          have hx2 : w7.cell? ⟨gx, 2, none⟩ = some (.int .i64 x2) := (blk_cell BX7.out 2).trans rfl
          have hx3 : w7.cell? ⟨gx, 3, none⟩ = some (.int .i64 x3) := (blk_cell BX7.out 3).trans rfl
          have hx4 : w7.cell? ⟨gx, 4, none⟩ = some (.int .i64 x4) := (blk_cell BX7.out 4).trans rfl
          have hx5 : w7.cell? ⟨gx, 5, none⟩ = some (.int .i64 x5) := (blk_cell BX7.out 5).trans rfl
          have hx6 : w7.cell? ⟨gx, 6, none⟩ = some (.slice Ao ls.length co) := (blk_cell BX7.out 6).trans rfl
          go_wp2_with (first | (go_at_call 16; (go_must (refine (papermillref61_Check.calls k x0 x1 x2 x3 x4 x5 _ _ ls 0 _ (Kd.R_reads' HO7.out).2.2 (Kd.R_reads' HO7.out).2.1 HK.out).mono ?_)); rintro e w8 ⟨rfl, hb⟩; have HO8 := Aside0.mk (Kd.R_below HO7.out hb); have BR8 := Aside0.mk (blk_below BR7.out hb); have BX8 := Aside0.mk (blk_below BX7.out hb); have HB8 := Aside0.mk (below_step HB7.out hb); clear hb hx0 hx1 hx2 hx3 hx4 hx5 hx6; have hr0 : w8.cell? ⟨gr, 0, none⟩ = some (.int .i64 0) := (blk_cell BR8.out 0).trans rfl; have hr1 : w8.cell? ⟨gr, 1, none⟩ = some (.int .i64 0) := (blk_cell BR8.out 1).trans rfl; have hr2 : w8.cell? ⟨gr, 2, none⟩ = some (.int .i64 0) := (blk_cell BR8.out 2).trans rfl; have hr3 : w8.cell? ⟨gr, 3, none⟩ = some (.int .i64 0) := (blk_cell BR8.out 3).trans rfl; have hr4 : w8.cell? ⟨gr, 4, none⟩ = some (.int .i64 0) := (blk_cell BR8.out 4).trans rfl; have hr5 : w8.cell? ⟨gr, 5, none⟩ = some (.int .i64 0) := (blk_cell BR8.out 5).trans rfl; have hr6 : w8.cell? ⟨gr, 6, none⟩ = some (.slice none 0 0) := (blk_cell BR8.out 6).trans rfl; have hg0 := blk_frozen BR8.out 0; have hg1 := blk_frozen BR8.out 1; have hg2 := blk_frozen BR8.out 2; have hg3 := blk_frozen BR8.out 3; have hg4 := blk_frozen BR8.out 4; have hg5 := blk_frozen BR8.out 5; have hg6 := blk_frozen BR8.out 6; have hx0 : w8.cell? ⟨gx, 0, none⟩ = some (.int .i64 x0) := (blk_cell BX8.out 0).trans rfl; have hx1 : w8.cell? ⟨gx, 1, none⟩ = some (.int .i64 x1) := (blk_cell BX8.out 1).trans rfl; have hx2 : w8.cell? ⟨gx, 2, none⟩ = some (.int .i64 x2) := (blk_cell BX8.out 2).trans rfl; have hx3 : w8.cell? ⟨gx, 3, none⟩ = some (.int .i64 x3) := (blk_cell BX8.out 3).trans rfl; have hx4 : w8.cell? ⟨gx, 4, none⟩ = some (.int .i64 x4) := (blk_cell BX8.out 4).trans rfl; have hx5 : w8.cell? ⟨gx, 5, none⟩ = some (.int .i64 x5) := (blk_cell BX8.out 5).trans rfl; have hx6 : w8.cell? ⟨gx, 6, none⟩ = some (.slice Ao ls.length co) := (blk_cell BX8.out 6).trans rfl))
          refine bodyPost_ret (results_ct rfl _ _ gr 24 #[(.int .i64 x0), (.int .i64 x1), (.int .i64 x2), (.int .i64 x3), (.int .i64 x4), (.int .i64 x5), (.slice Ao ls.length co)] (0, 0) _ rfl (blk_put (blk_put (blk_put (blk_put (blk_put (blk_put (blk_put BR8.out 0 _ rfl) 1 _ rfl) 2 _ rfl) 3 _ rfl) 4 _ rfl) 5 _ rfl) 6 _ rfl) hu24 rfl (by kernel_rfl)) rfl ?_
          exact ⟨_, rfl, Kd.R_mono (Kd.R_far (Kd.R_far (Kd.R_far (Kd.R_far (Kd.R_far (Kd.R_far (Kd.R_far HO8.out (fun k hk => hk.1) _) (fun k hk => hk.1) _) (fun k hk => hk.1) _) (fun k hk => hk.1) _) (fun k hk => hk.1) _) (fun k hk => hk.1) _) (fun k hk => hk.1) _) (fun _ _ => trivial), (below_set (below_set (below_set (below_set (below_set (below_set (below_set HB8.out GR.out) GR.out) GR.out) GR.out) GR.out) GR.out) GR.out)⟩
        · simp only [if_neg cg] at hcr
          injection hcr with hcr
          injection hcr with e1 hcr
          injection hcr with e2 hcr
          injection hcr with e3 hcr
          injection hcr with e4 hcr
          injection hcr with e5 hcr
          injection hcr with e6 hcr
          injection hcr with e7 e8
          subst e1 e2 e3 e4 e5 e6 e7 e8
          have cgb : (f1 != 0) = true := bne_iff_ne.mpr cg
          clear cg
          go_wp2_with (first | (go_at_call 37; (go_must (refine calls_of_args (args' := #[.slice A5 (l0.drop at_.toNat).length (c0 - at_.toNat), .int .i64 32]) (by first | (rw [show (l0.drop at_.toNat).length = (l0.length - at_.toNat) from List.length_drop] <;> rfl) | rfl) ?_)); (go_must (refine (papermillref08_TakeList.calls k _ _ (l0.drop at_.toNat) 32 ls n 0 _ (Kd.C_below HX5.out.1 HB3.out) HX5.out.2 HCS.out).mono ?_)); rintro e w5 ⟨v5, rfl, ho, hb⟩; obtain ⟨Ao, co, eo⟩ := Kd.R_slice ho; subst eo; have HO5 := Aside0.mk (Kd.R_lower (Kd.R_mono (ok' := fun k => k ≠ gr ∧ k ≠ gn) (Kd.R_bound ho) (fun k hk => ⟨fun e => (by have h1 := blk_lt BR3.out; have h2 := hk.2.1; omega), fun e => (by have h1 := blk_lt BN3.out; have h2 := hk.2.1; omega)⟩)) (below_size HB3.out)); have BR5 := Aside0.mk (blk_below BR3.out hb); have BN5 := Aside0.mk (blk_below BN3.out hb); have HB5 := Aside0.mk (below_step HB3.out hb); clear hb ho; have hn0 : w5.cell? ⟨gn, 0, none⟩ = some (.int .i64 x0) := (blk_cell BN5.out 0).trans rfl; have hn1 : w5.cell? ⟨gn, 1, none⟩ = some (.int .i64 x1) := (blk_cell BN5.out 1).trans rfl; have hn2 : w5.cell? ⟨gn, 2, none⟩ = some (.int .i64 x2) := (blk_cell BN5.out 2).trans rfl; have hn3 : w5.cell? ⟨gn, 3, none⟩ = some (.int .i64 x3) := (blk_cell BN5.out 3).trans rfl; have hn4 : w5.cell? ⟨gn, 4, none⟩ = some (.int .i64 x4) := (blk_cell BN5.out 4).trans rfl; have hn5 : w5.cell? ⟨gn, 5, none⟩ = some (.int .i64 x5) := (blk_cell BN5.out 5).trans rfl))
          go_region_held3 (fun w' => w'.cell? ⟨gn, 0, none⟩ = some (.int .i64 x0) ∧ w'.cell? ⟨gn, 1, none⟩ = some (.int .i64 x1) ∧ w'.cell? ⟨gn, 2, none⟩ = some (.int .i64 x2) ∧ w'.cell? ⟨gn, 3, none⟩ = some (.int .i64 x3) ∧ w'.cell? ⟨gn, 4, none⟩ = some (.int .i64 x4) ∧ w'.cell? ⟨gn, 5, none⟩ = some (.int .i64 x5)) (first | go_keep) (fail)
          have BX7 := Aside0.mk (blk_drew (blk_new w5 (Obj.cells #[(.int .i64 x0), (.int .i64 x1), (.int .i64 x2), (.int .i64 x3), (.int .i64 x4), (.int .i64 x5), (.slice Ao ls.length co)] 24)))
          have BR7 := Aside0.mk (blk_drew (blk_alloc BR5.out (Obj.cells #[(.int .i64 x0), (.int .i64 x1), (.int .i64 x2), (.int .i64 x3), (.int .i64 x4), (.int .i64 x5), (.slice Ao ls.length co)] 24)))
          have HB7 := Aside0.mk (below_drew (below_alloc HB5.out (Obj.cells #[(.int .i64 x0), (.int .i64 x1), (.int .i64 x2), (.int .i64 x3), (.int .i64 x4), (.int .i64 x5), (.slice Ao ls.length co)] 24)))
          have HO7 := Aside0.mk (Kd.R_drew (Kd.R_alloc HO5.out (Obj.cells #[(.int .i64 x0), (.int .i64 x1), (.int .i64 x2), (.int .i64 x3), (.int .i64 x4), (.int .i64 x5), (.slice Ao ls.length co)] 24)))
          generalize hW7 : (World.alloc w5 _).drew = w7 at BX7 BR7 HB7 HO7 ⊢
          generalize hgx : w5.heap.size = gx at BX7 ⊢
          clear hW7 BR5 HB5 HO5 hn0 hn1 hn2 hn3 hn4 hn5
          have hx0 : w7.cell? ⟨gx, 0, none⟩ = some (.int .i64 x0) := (blk_cell BX7.out 0).trans rfl
          have hx1 : w7.cell? ⟨gx, 1, none⟩ = some (.int .i64 x1) := (blk_cell BX7.out 1).trans rfl
          have hx2 : w7.cell? ⟨gx, 2, none⟩ = some (.int .i64 x2) := (blk_cell BX7.out 2).trans rfl
          have hx3 : w7.cell? ⟨gx, 3, none⟩ = some (.int .i64 x3) := (blk_cell BX7.out 3).trans rfl
          have hx4 : w7.cell? ⟨gx, 4, none⟩ = some (.int .i64 x4) := (blk_cell BX7.out 4).trans rfl
          have hx5 : w7.cell? ⟨gx, 5, none⟩ = some (.int .i64 x5) := (blk_cell BX7.out 5).trans rfl
          have hx6 : w7.cell? ⟨gx, 6, none⟩ = some (.slice Ao ls.length co) := (blk_cell BX7.out 6).trans rfl
          go_wp2_with (first | (go_at_call 16; (go_must (refine (papermillref61_Check.calls k x0 x1 x2 x3 x4 x5 _ _ ls f1 _ (Kd.R_reads' HO7.out).2.2 (Kd.R_reads' HO7.out).2.1 HK.out).mono ?_)); rintro e w8 ⟨rfl, hb⟩; have HO8 := Aside0.mk (Kd.R_below HO7.out hb); have BR8 := Aside0.mk (blk_below BR7.out hb); have BX8 := Aside0.mk (blk_below BX7.out hb); have HB8 := Aside0.mk (below_step HB7.out hb); clear hb hx0 hx1 hx2 hx3 hx4 hx5 hx6; have hr0 : w8.cell? ⟨gr, 0, none⟩ = some (.int .i64 0) := (blk_cell BR8.out 0).trans rfl; have hr1 : w8.cell? ⟨gr, 1, none⟩ = some (.int .i64 0) := (blk_cell BR8.out 1).trans rfl; have hr2 : w8.cell? ⟨gr, 2, none⟩ = some (.int .i64 0) := (blk_cell BR8.out 2).trans rfl; have hr3 : w8.cell? ⟨gr, 3, none⟩ = some (.int .i64 0) := (blk_cell BR8.out 3).trans rfl; have hr4 : w8.cell? ⟨gr, 4, none⟩ = some (.int .i64 0) := (blk_cell BR8.out 4).trans rfl; have hr5 : w8.cell? ⟨gr, 5, none⟩ = some (.int .i64 0) := (blk_cell BR8.out 5).trans rfl; have hr6 : w8.cell? ⟨gr, 6, none⟩ = some (.slice none 0 0) := (blk_cell BR8.out 6).trans rfl; have hg0 := blk_frozen BR8.out 0; have hg1 := blk_frozen BR8.out 1; have hg2 := blk_frozen BR8.out 2; have hg3 := blk_frozen BR8.out 3; have hg4 := blk_frozen BR8.out 4; have hg5 := blk_frozen BR8.out 5; have hg6 := blk_frozen BR8.out 6; have hx0 : w8.cell? ⟨gx, 0, none⟩ = some (.int .i64 x0) := (blk_cell BX8.out 0).trans rfl; have hx1 : w8.cell? ⟨gx, 1, none⟩ = some (.int .i64 x1) := (blk_cell BX8.out 1).trans rfl; have hx2 : w8.cell? ⟨gx, 2, none⟩ = some (.int .i64 x2) := (blk_cell BX8.out 2).trans rfl; have hx3 : w8.cell? ⟨gx, 3, none⟩ = some (.int .i64 x3) := (blk_cell BX8.out 3).trans rfl; have hx4 : w8.cell? ⟨gx, 4, none⟩ = some (.int .i64 x4) := (blk_cell BX8.out 4).trans rfl; have hx5 : w8.cell? ⟨gx, 5, none⟩ = some (.int .i64 x5) := (blk_cell BX8.out 5).trans rfl; have hx6 : w8.cell? ⟨gx, 6, none⟩ = some (.slice Ao ls.length co) := (blk_cell BX8.out 6).trans rfl))
          refine bodyPost_ret (results_ct rfl _ _ gr 24 #[.int .i64 0, .int .i64 0, .int .i64 0, .int .i64 0, .int .i64 0, .int .i64 0, .slice none 0 0] (0, 0) _ rfl (blk_put (blk_put (blk_put (blk_put (blk_put (blk_put (blk_put BR8.out 0 _ rfl) 1 _ rfl) 2 _ rfl) 3 _ rfl) 4 _ rfl) 5 _ rfl) 6 _ rfl) hu24 rfl (by kernel_rfl)) rfl ?_
          exact ⟨_, rfl, Kd.R_nil _ _ _ _ _, (below_set (below_set (below_set (below_set (below_set (below_set (below_set HB8.out GR.out) GR.out) GR.out) GR.out) GR.out) GR.out) GR.out)⟩
      · simp only [if_neg cf] at hcr
        injection hcr with hcr
        injection hcr with e1 hcr
        injection hcr with e2 hcr
        injection hcr with e3 hcr
        injection hcr with e4 hcr
        injection hcr with e5 hcr
        injection hcr with e6 hcr
        injection hcr with e7 e8
        subst e1 e2 e3 e4 e5 e6 e7 e8
        have cfb : (f != 0) = true := bne_iff_ne.mpr cf
        clear hcs cf hq
        go_wp2_with (first | (go_at_call 37; (go_must (refine calls_of_args (args' := #[.slice A5 (l0.drop at_.toNat).length (c0 - at_.toNat), .int .i64 32]) (by first | (rw [show (l0.drop at_.toNat).length = (l0.length - at_.toNat) from List.length_drop] <;> rfl) | rfl) ?_)); (go_must (refine (papermillref08_TakeList.calls k _ _ (l0.drop at_.toNat) 32 ls n f _ (Kd.C_below HX5.out.1 HB3.out) HX5.out.2 HCS.out).mono ?_)); rintro e w5 ⟨v5, rfl, ho, hb⟩; obtain ⟨Ao, co, eo⟩ := Kd.R_slice ho; subst eo; have HO5 := Aside0.mk (Kd.R_lower (Kd.R_mono (ok' := fun k => k ≠ gr ∧ k ≠ gn) (Kd.R_bound ho) (fun k hk => ⟨fun e => (by have h1 := blk_lt BR3.out; have h2 := hk.2.1; omega), fun e => (by have h1 := blk_lt BN3.out; have h2 := hk.2.1; omega)⟩)) (below_size HB3.out)); have BR5 := Aside0.mk (blk_below BR3.out hb); have BN5 := Aside0.mk (blk_below BN3.out hb); have HB5 := Aside0.mk (below_step HB3.out hb); clear hb ho; have hr0 : w5.cell? ⟨gr, 0, none⟩ = some (.int .i64 0) := (blk_cell BR5.out 0).trans rfl; have hr1 : w5.cell? ⟨gr, 1, none⟩ = some (.int .i64 0) := (blk_cell BR5.out 1).trans rfl; have hr2 : w5.cell? ⟨gr, 2, none⟩ = some (.int .i64 0) := (blk_cell BR5.out 2).trans rfl; have hr3 : w5.cell? ⟨gr, 3, none⟩ = some (.int .i64 0) := (blk_cell BR5.out 3).trans rfl; have hr4 : w5.cell? ⟨gr, 4, none⟩ = some (.int .i64 0) := (blk_cell BR5.out 4).trans rfl; have hr5 : w5.cell? ⟨gr, 5, none⟩ = some (.int .i64 0) := (blk_cell BR5.out 5).trans rfl; have hr6 : w5.cell? ⟨gr, 6, none⟩ = some (.slice none 0 0) := (blk_cell BR5.out 6).trans rfl; have hg0 := blk_frozen BR5.out 0; have hg1 := blk_frozen BR5.out 1; have hg2 := blk_frozen BR5.out 2; have hg3 := blk_frozen BR5.out 3; have hg4 := blk_frozen BR5.out 4; have hg5 := blk_frozen BR5.out 5; have hg6 := blk_frozen BR5.out 6))
        refine bodyPost_ret (results_ct rfl _ _ gr 24 #[.int .i64 0, .int .i64 0, .int .i64 0, .int .i64 0, .int .i64 0, .int .i64 0, .slice none 0 0] (0, 0) _ rfl (blk_put (blk_put (blk_put (blk_put (blk_put (blk_put (blk_put BR5.out 0 _ rfl) 1 _ rfl) 2 _ rfl) 3 _ rfl) 4 _ rfl) 5 _ rfl) 6 _ rfl) hu24 rfl (by kernel_rfl)) rfl ?_
        exact ⟨_, rfl, Kd.R_nil _ _ _ _ _, (below_set (below_set (below_set (below_set (below_set (below_set (below_set HB5.out GR.out) GR.out) GR.out) GR.out) GR.out) GR.out) GR.out)⟩

/-! ### papermilllaw61_JournalGets: function 4 -/
def papermilllaw61_JournalGets.f (k : Nat) (l0 : List Int) : Option (Bool) := if (l0.length : Int) > 600 then ((papermilllaw61_awake.f k).bind fun t292 => (some t292)) else ((journal_Get.f k l0).bind fun bt293 => ((papermillref61_Get.f k l0).bind fun bt304 => ((papermillref61_SameOne.f k bt293.1 bt293.2.1 bt293.2.2.1 bt293.2.2.2.1 bt293.2.2.2.2.1 bt293.2.2.2.2.2.1 bt293.2.2.2.2.2.2.1 bt304.1 bt304.2.1 bt304.2.2.1 bt304.2.2.2.1 bt304.2.2.2.2.1 bt304.2.2.2.2.2.1 bt304.2.2.2.2.2.2.1).bind fun t315 => (if t315 = true then (if bt293.2.2.2.2.2.2.2 = bt304.2.2.2.2.2.2.2 then ((papermilllaw61_awake.f k).bind fun t316 => (some t316)) else (some false)) else (some false)))))
theorem papermilllaw61_JournalGets.mono : ∀ a0 k, LeO (papermilllaw61_JournalGets.f k a0) (papermilllaw61_JournalGets.f (k + 1) a0) := by
  intro a0 k
  unfold papermilllaw61_JournalGets.f
  repeat' first
      | (with_reducible exact journal_Get.mono _ _)
      | (with_reducible exact papermilllaw61_awake.mono _)
      | (with_reducible exact papermillref61_Get.mono _ _)
      | (with_reducible exact papermillref61_SameOne.mono _ _ _ _ _ _ _ _ _ _ _ _ _ _ _)
      | (with_reducible exact LeO.refl _)
      | (with_reducible exact LeO.none _)
      | (with_reducible refine LeO.ite ?_ ?_)
      | (with_reducible refine LeO.bind ?_ (fun _ => ?_))
      | exact journal_Get.mono _ _
      | exact papermilllaw61_awake.mono _
      | exact papermillref61_Get.mono _ _
      | exact papermillref61_SameOne.mono _ _ _ _ _ _ _ _ _ _ _ _ _ _ _
      | exact LeO.none _
      | refine LeO.ite ?_ ?_
      | refine LeO.bind ?_ (fun _ => ?_)
set_option maxHeartbeats 8000000 in
set_option maxRecDepth 100000 in
theorem papermilllaw61_JournalGets.calls (k : Nat) (A0 : Option Addr) (c0 : Nat) (l0 : List Int) (w : World) (hr0 : Kd.C (Kd.int .u8) w A0 l0.length l0) (hc0 : l0.length ≤ c0) (hT : Kd.C (Kd.int .u32) w TabA crcTab.length crcTab) (h : papermilllaw61_JournalGets.f k l0 = some true) :
    Calls Tryd.prog 4 #[.slice A0 l0.length c0] w fun e w' => e = .returned (.bool true) ∧ Below w.heap.size w w' := by
  have HT := Aside0.mk hT
  clear hT
  have hu24 := Tryd.underlying24
  have HR0 := Aside0.mk hr0
  have HC0 := Aside0.mk hc0
  clear hr0 hc0
  have HB := Aside0.mk (Below.refl w.heap.size w)
  have H : (if (l0.length : Int) > 600 then ((papermilllaw61_awake.f k).bind fun t292 => (some t292)) else ((journal_Get.f k l0).bind fun bt293 => ((papermillref61_Get.f k l0).bind fun bt304 => ((papermillref61_SameOne.f k bt293.1 bt293.2.1 bt293.2.2.1 bt293.2.2.2.1 bt293.2.2.2.2.1 bt293.2.2.2.2.2.1 bt293.2.2.2.2.2.2.1 bt304.1 bt304.2.1 bt304.2.2.1 bt304.2.2.2.1 bt304.2.2.2.2.1 bt304.2.2.2.2.2.1 bt304.2.2.2.2.2.2.1).bind fun t315 => (if t315 = true then (if bt293.2.2.2.2.2.2.2 = bt304.2.2.2.2.2.2.2 then ((papermilllaw61_awake.f k).bind fun t316 => (some t316)) else (some false)) else (some false)))))) = some true := h
  clear h
  by_cases c2 : (l0.length : Int) > 600
  ·rw [if_pos c2] at H
   have c2b0 : decide (600 < (l0.length : Int)) = true := decide_eq_true c2
   have c2b1 : decide (600 < l0.length) = true := decide_eq_true (by omega)
   clear c2
   replace H := Option.bind_eq_some_iff.mp H
   obtain ⟨t292, A30, H⟩ := H
   replace H : (some t292) = some true := H
   have A3 := Aside0.mk A30
   clear A30
   have Hl := Option.some.inj H
   go_enter Tryd.func4, Tryd.ntmps4
   go_wp2_with (first | ((with_reducible refine gate_callee (f := 12) rfl ?_); refine goesL_ (some 10) rfl rfl Tryd.func12 (by kernel_rfl) rfl #[] rfl (by (try simp only [List.map_toArray, List.map_cons, List.map_nil]); first | done | rfl | (simp only [List.length_drop, List.length_take]; rfl)) ?_; (with_reducible refine (papermilllaw61_awake.calls k  t292 _ ?sideT A3.out).mono ?_); (case sideT => repeat (first | exact HT.out | exact (Kd.C_below HT.out HB.out) | (with_reducible refine Kd.C_alloc ?_ _) | (with_reducible refine Kd.C_drewN ?_ _) | (with_reducible refine Kd.C_drew ?_))); rintro e w4 ⟨rfl, hb⟩; refine ⟨_, rfl, ?_⟩; have n0_ := Aside0.mk (below_step (by repeat (first | (with_reducible first | exact HB.out | apply below_alloc | apply pw_below_drewN | apply below_drew1) | exact HB.out)) hb); clear HB; have HB := n0_; clear n0_; (try clear hb); (try clear hb2); (try clear hk); (try clear hi)))
   go_ret
   exact ⟨by first | rfl | (simp [errW_none, errW_some] <;> rfl) | (simp [*, errW_none, errW_some] <;> rfl), by repeat (first | (with_reducible first | exact HB.out | apply below_alloc | apply pw_below_drewN | apply below_drew1) | exact HB.out)⟩
  ·rw [if_neg c2] at H
   have c2b0 : decide (600 < (l0.length : Int)) = false := decide_eq_false c2
   have c2b1 : decide (600 < l0.length) = false := decide_eq_false (by omega)
   clear c2
   replace H := Option.bind_eq_some_iff.mp H
   obtain ⟨⟨t293, t294, t295, t296, t297, t298, t299, t302⟩, A50, H⟩ := H
   replace H : ((papermillref61_Get.f k l0).bind fun bt304 => ((papermillref61_SameOne.f k t293 t294 t295 t296 t297 t298 t299 bt304.1 bt304.2.1 bt304.2.2.1 bt304.2.2.2.1 bt304.2.2.2.2.1 bt304.2.2.2.2.2.1 bt304.2.2.2.2.2.2.1).bind fun t315 => (if t315 = true then (if t302 = bt304.2.2.2.2.2.2.2 then ((papermilllaw61_awake.f k).bind fun t316 => (some t316)) else (some false)) else (some false)))) = some true := H
   have A5 := Aside0.mk A50
   clear A50
   replace H := Option.bind_eq_some_iff.mp H
   obtain ⟨⟨t304, t305, t306, t307, t308, t309, t310, t313⟩, A60, H⟩ := H
   replace H : ((papermillref61_SameOne.f k t293 t294 t295 t296 t297 t298 t299 t304 t305 t306 t307 t308 t309 t310).bind fun t315 => (if t315 = true then (if t302 = t313 then ((papermilllaw61_awake.f k).bind fun t316 => (some t316)) else (some false)) else (some false))) = some true := H
   have A6 := Aside0.mk A60
   clear A60
   replace H := Option.bind_eq_some_iff.mp H
   obtain ⟨t315, A70, H⟩ := H
   replace H : (if t315 = true then (if t302 = t313 then ((papermilllaw61_awake.f k).bind fun t316 => (some t316)) else (some false)) else (some false)) = some true := H
   have A7 := Aside0.mk A70
   clear A70
   by_cases c8 : t315 = true
   ·subst c8
    have H1 : (if t302 = t313 then ((papermilllaw61_awake.f k).bind fun t316 => (some t316)) else (some false)) = some true := by rw [if_pos rfl] at H; exact H
    clear H
    have H := H1
    clear H1
    by_cases c9 : t302 = t313
    ·rw [if_pos c9] at H
     have c9b0 : (t302 == t313) = true := beq_iff_eq.mpr c9
     have c9b1 : (t302 != t313) = false := bne_eq_false_iff_eq.mpr c9
     clear c9
     replace H := Option.bind_eq_some_iff.mp H
     obtain ⟨t316, A100, H⟩ := H
     replace H : (some t316) = some true := H
     have A10 := Aside0.mk A100
     clear A100
     have Hl := Option.some.inj H
     go_enter Tryd.func4, Tryd.ntmps4
     go_wp2_with (first | ((with_reducible refine gate_callee (f := 18) rfl ?_); refine goesL_ (some 13) rfl rfl Tryd.func18 (by kernel_rfl) rfl #[.slice A0 l0.length c0] rfl (by (try simp only [List.map_toArray, List.map_cons, List.map_nil]); first | done | rfl | (simp only [List.length_drop, List.length_take]; rfl)) ?_; (with_reducible refine (journal_Get.calls k _ _ l0 t293 t294 t295 t296 t297 t298 t299 t302 _ ?side1 ?side2 A5.out).mono ?_); (case side1 => repeat (first | exact HR0.out | (with_reducible refine Kd.C_alloc ?_ _) | (with_reducible refine Kd.C_drewN ?_ _) | (with_reducible refine Kd.C_drew ?_))); (case side2 => exact HC0.out); rintro e w11 ⟨v300, rfl, ho0, hb⟩; refine ⟨_, rfl, ?_⟩; have n0_ := Aside0.mk (Kd.R_lower ho0 (below_size (by repeat (first | (with_reducible first | exact HB.out | apply below_alloc | apply pw_below_drewN | apply below_drew1) | exact HB.out)))); have n1_ := Aside0.mk (below_step (by repeat (first | (with_reducible first | exact HB.out | apply below_alloc | apply pw_below_drewN | apply below_drew1) | exact HB.out)) hb); clear HB; have HO301 := n0_; have HB := n1_; clear n0_ n1_; (try clear hb); (try clear hb2); (try clear hk); (try clear hi); (try clear ho0)) | ((with_reducible refine gate_dst (N := 3) rfl ?_); refine box_event ?hg (N := 3) ?hd (cs := #[.int .i64 0, .int .i64 0, .int .i64 0, .int .i64 0, .int .i64 0, .int .i64 0, .slice none 0 0]) (t := 24) ?hr ?_; (case hd => rfl); (case hg => rfl); (case hr => first | (go_simp; done) | (go_simp; rfl)); intro gb303 hg w12 hbox hb; have n0_ := Aside0.mk (Kd.R_below (by (with_reducible repeat (first | apply Kd.R_alloc | apply Kd.R_drewN | apply Kd.R_drew)); exact HO301.out) hb); have n1_ := Aside0.mk (below_step (by repeat (first | (with_reducible first | exact HB.out | apply below_alloc | apply pw_below_drewN | apply below_drew1) | exact HB.out)) hb); have n2_ := Aside0.mk (hbox); have n3_ := Aside0.mk ((by rw [hg]; exact (below_size (by repeat (first | (with_reducible first | exact HB.out | apply below_alloc | apply pw_below_drewN | apply below_drew1) | exact HB.out))) : w.heap.size ≤ gb303)); have n4_ := Aside0.mk ((by rw [hg]; exact (below_size (by repeat (first | (with_reducible first | exact HB.out | apply below_alloc | apply pw_below_drewN | apply below_drew1) | exact HB.out))) : w.heap.size ≤ gb303)); clear HO301; clear HB; have HO301 := n0_; have HB := n1_; have BK303 := n2_; have GW303 := n3_; have GE303 := n4_; clear n0_ n1_ n2_ n3_ n4_; clear hb hbox hg; have hcz13_0 : w12.cell? ⟨gb303, 0, none⟩ = some (.int .i64 0) := (blk_cell BK303.out 0).trans rfl; have hcz13_1 : w12.cell? ⟨gb303, 1, none⟩ = some (.int .i64 0) := (blk_cell BK303.out 1).trans rfl; have hcz13_2 : w12.cell? ⟨gb303, 2, none⟩ = some (.int .i64 0) := (blk_cell BK303.out 2).trans rfl; have hcz13_3 : w12.cell? ⟨gb303, 3, none⟩ = some (.int .i64 0) := (blk_cell BK303.out 3).trans rfl; have hcz13_4 : w12.cell? ⟨gb303, 4, none⟩ = some (.int .i64 0) := (blk_cell BK303.out 4).trans rfl; have hcz13_5 : w12.cell? ⟨gb303, 5, none⟩ = some (.int .i64 0) := (blk_cell BK303.out 5).trans rfl; have hcz13_6 : w12.cell? ⟨gb303, 6, none⟩ = some (.slice none 0 0) := (blk_cell BK303.out 6).trans rfl; have hfz13_0 := blk_frozen BK303.out 0; have hfz13_1 := blk_frozen BK303.out 1; have hfz13_2 := blk_frozen BK303.out 2; have hfz13_3 := blk_frozen BK303.out 3; have hfz13_4 := blk_frozen BK303.out 4; have hfz13_5 := blk_frozen BK303.out 5; have hfz13_6 := blk_frozen BK303.out 6; obtain ⟨Ao14, co14, eo14⟩ := Kd.R_slice HO301.out; subst eo14) | ((with_reducible refine gate_callee (f := 19) rfl ?_); refine goesL_ (some 18) rfl rfl Tryd.func19 (by kernel_rfl) rfl #[.slice A0 l0.length c0] rfl (by (try simp only [List.map_toArray, List.map_cons, List.map_nil]); first | done | rfl | (simp only [List.length_drop, List.length_take]; rfl)) ?_; (with_reducible refine (papermillref61_Get.calls k _ _ l0 t304 t305 t306 t307 t308 t309 t310 t313 _ ?side1 ?side2 A6.out).mono ?_); (case side1 => exact Kd.C_below HR0.out (by repeat (first | (with_reducible first | exact HB.out | apply below_alloc | apply pw_below_drewN | apply below_drew1 | refine below_set ?_ GE303.out) | exact HB.out))); (case side2 => exact HC0.out); rintro e w15 ⟨v311, rfl, ho0, hb⟩; refine ⟨_, rfl, ?_⟩; have n0_ := Aside0.mk (Kd.R_elder' (by (with_reducible repeat (first | apply Kd.R_alloc | apply Kd.R_drewN | apply Kd.R_drew)); exact (Kd.R_mono (Kd.R_far (p := ⟨gb303, 6, none⟩) (Kd.R_far (p := ⟨gb303, 5, none⟩) (Kd.R_far (p := ⟨gb303, 4, none⟩) (Kd.R_far (p := ⟨gb303, 3, none⟩) (Kd.R_far (p := ⟨gb303, 2, none⟩) (Kd.R_far (p := ⟨gb303, 1, none⟩) (Kd.R_far (p := ⟨gb303, 0, none⟩) (Kd.R_types HO301.out BK303.out (by decide)) (fun _ hk => hk.2) (.int .i64 t293)) (fun _ hk => hk.2) (.int .i64 t294)) (fun _ hk => hk.2) (.int .i64 t295)) (fun _ hk => hk.2) (.int .i64 t296)) (fun _ hk => hk.2) (.int .i64 t297)) (fun _ hk => hk.2) (.int .i64 t298)) (fun _ hk => hk.2) (.slice Ao14 t299.length co14)) (fun _ h_ => h_.1))) (Kd.R_base ho0) hb); have n1_ := Aside0.mk (Kd.R_lower (Kd.R_new' ho0 (Kd.R_lt (by (with_reducible repeat (first | apply Kd.R_alloc | apply Kd.R_drewN | apply Kd.R_drew)); exact (Kd.R_mono (Kd.R_far (p := ⟨gb303, 6, none⟩) (Kd.R_far (p := ⟨gb303, 5, none⟩) (Kd.R_far (p := ⟨gb303, 4, none⟩) (Kd.R_far (p := ⟨gb303, 3, none⟩) (Kd.R_far (p := ⟨gb303, 2, none⟩) (Kd.R_far (p := ⟨gb303, 1, none⟩) (Kd.R_far (p := ⟨gb303, 0, none⟩) (Kd.R_types HO301.out BK303.out (by decide)) (fun _ hk => hk.2) (.int .i64 t293)) (fun _ hk => hk.2) (.int .i64 t294)) (fun _ hk => hk.2) (.int .i64 t295)) (fun _ hk => hk.2) (.int .i64 t296)) (fun _ hk => hk.2) (.int .i64 t297)) (fun _ hk => hk.2) (.int .i64 t298)) (fun _ hk => hk.2) (.slice Ao14 t299.length co14)) (fun _ h_ => h_.1))))) (below_size (by repeat (first | (with_reducible first | exact HB.out | apply below_alloc | apply pw_below_drewN | apply below_drew1 | refine below_set ?_ GE303.out) | exact HB.out)))); have n2_ := Aside0.mk (blk_below (g := gb303) (o := .cells #[.int .i64 t293, .int .i64 t294, .int .i64 t295, .int .i64 t296, .int .i64 t297, .int .i64 t298, .slice Ao14 t299.length co14] 24 (0, 0)) (by (with_reducible repeat (first | refine blk_drewN ?_ _ | refine blk_drew ?_ | refine blk_alloc ?_ _)); refine blk_put (cs := #[.int .i64 t293, .int .i64 t294, .int .i64 t295, .int .i64 t296, .int .i64 t297, .int .i64 t298, .slice none 0 0]) ?_ 6 _ rfl; (with_reducible repeat (first | refine blk_drewN ?_ _ | refine blk_drew ?_ | refine blk_alloc ?_ _)); refine blk_put (cs := #[.int .i64 t293, .int .i64 t294, .int .i64 t295, .int .i64 t296, .int .i64 t297, .int .i64 0, .slice none 0 0]) ?_ 5 _ rfl; (with_reducible repeat (first | refine blk_drewN ?_ _ | refine blk_drew ?_ | refine blk_alloc ?_ _)); refine blk_put (cs := #[.int .i64 t293, .int .i64 t294, .int .i64 t295, .int .i64 t296, .int .i64 0, .int .i64 0, .slice none 0 0]) ?_ 4 _ rfl; (with_reducible repeat (first | refine blk_drewN ?_ _ | refine blk_drew ?_ | refine blk_alloc ?_ _)); refine blk_put (cs := #[.int .i64 t293, .int .i64 t294, .int .i64 t295, .int .i64 0, .int .i64 0, .int .i64 0, .slice none 0 0]) ?_ 3 _ rfl; (with_reducible repeat (first | refine blk_drewN ?_ _ | refine blk_drew ?_ | refine blk_alloc ?_ _)); refine blk_put (cs := #[.int .i64 t293, .int .i64 t294, .int .i64 0, .int .i64 0, .int .i64 0, .int .i64 0, .slice none 0 0]) ?_ 2 _ rfl; (with_reducible repeat (first | refine blk_drewN ?_ _ | refine blk_drew ?_ | refine blk_alloc ?_ _)); refine blk_put (cs := #[.int .i64 t293, .int .i64 0, .int .i64 0, .int .i64 0, .int .i64 0, .int .i64 0, .slice none 0 0]) ?_ 1 _ rfl; (with_reducible repeat (first | refine blk_drewN ?_ _ | refine blk_drew ?_ | refine blk_alloc ?_ _)); refine blk_put (cs := #[.int .i64 0, .int .i64 0, .int .i64 0, .int .i64 0, .int .i64 0, .int .i64 0, .slice none 0 0]) ?_ 0 _ rfl; (with_reducible repeat (first | refine blk_drewN ?_ _ | refine blk_drew ?_ | refine blk_alloc ?_ _)); exact BK303.out) hb); have n3_ := Aside0.mk (below_step (by repeat (first | (with_reducible first | exact HB.out | apply below_alloc | apply pw_below_drewN | apply below_drew1 | refine below_set ?_ GE303.out) | exact HB.out)) hb); clear HO301; clear BK303; clear HB; have HO301 := n0_; have HO312 := n1_; have BK303 := n2_; have HB := n3_; clear n0_ n1_ n2_ n3_; (try clear hb); (try clear hb2); (try clear hk); (try clear hi); (try clear ho0)) | ((with_reducible refine gate_dst (N := 5) rfl ?_); refine box_event ?hg (N := 5) ?hd (cs := #[.int .i64 0, .int .i64 0, .int .i64 0, .int .i64 0, .int .i64 0, .int .i64 0, .slice none 0 0]) (t := 24) ?hr ?_; (case hd => rfl); (case hg => rfl); (case hr => first | (go_simp; done) | (go_simp; rfl)); intro gb314 hg w16 hbox hb; have n0_ := Aside0.mk (Kd.R_below (by (with_reducible repeat (first | apply Kd.R_alloc | apply Kd.R_drewN | apply Kd.R_drew)); exact HO301.out) hb); have n1_ := Aside0.mk (Kd.R_below (by (with_reducible repeat (first | apply Kd.R_alloc | apply Kd.R_drewN | apply Kd.R_drew)); exact HO312.out) hb); have n2_ := Aside0.mk (blk_below (g := gb303) (o := .cells #[.int .i64 t293, .int .i64 t294, .int .i64 t295, .int .i64 t296, .int .i64 t297, .int .i64 t298, .slice Ao14 t299.length co14] 24 (0, 0)) (by (with_reducible repeat (first | refine blk_drewN ?_ _ | refine blk_drew ?_ | refine blk_alloc ?_ _)); exact BK303.out) hb); have n3_ := Aside0.mk (below_step (by repeat (first | (with_reducible first | exact HB.out | apply below_alloc | apply pw_below_drewN | apply below_drew1 | refine below_set ?_ GE303.out) | exact HB.out)) hb); have n4_ := Aside0.mk (hbox); have n5_ := Aside0.mk ((by rw [hg]; exact (below_size (by repeat (first | (with_reducible first | exact HB.out | apply below_alloc | apply pw_below_drewN | apply below_drew1 | refine below_set ?_ GE303.out) | exact HB.out))) : w.heap.size ≤ gb314)); have n6_ := Aside0.mk ((by rw [hg]; exact (below_size (by repeat (first | (with_reducible first | exact HB.out | apply below_alloc | apply pw_below_drewN | apply below_drew1 | refine below_set ?_ GE303.out) | exact HB.out))) : w.heap.size ≤ gb314)); have n7_ := Aside0.mk ((by rw [hg]; exact Nat.ne_of_lt (blk_lt (g := gb303) (o := .cells #[.int .i64 t293, .int .i64 t294, .int .i64 t295, .int .i64 t296, .int .i64 t297, .int .i64 t298, .slice Ao14 t299.length co14] 24 (0, 0)) (by (with_reducible repeat (first | refine blk_drewN ?_ _ | refine blk_drew ?_ | refine blk_alloc ?_ _)); exact BK303.out)) : gb303 ≠ gb314)); have n8_ := Aside0.mk ((by rw [hg]; exact Nat.ne_of_gt (blk_lt (g := gb303) (o := .cells #[.int .i64 t293, .int .i64 t294, .int .i64 t295, .int .i64 t296, .int .i64 t297, .int .i64 t298, .slice Ao14 t299.length co14] 24 (0, 0)) (by (with_reducible repeat (first | refine blk_drewN ?_ _ | refine blk_drew ?_ | refine blk_alloc ?_ _)); exact BK303.out)) : gb314 ≠ gb303)); clear HO301; clear HO312; clear BK303; clear HB; have HO301 := n0_; have HO312 := n1_; have BK303 := n2_; have HB := n3_; have BK314 := n4_; have GW314 := n5_; have GE314 := n6_; have NB303_314 := n7_; have NB314_303 := n8_; clear n0_ n1_ n2_ n3_ n4_ n5_ n6_ n7_ n8_; clear hb hbox hg; have hnb17 := NB314_303.out; have hnc17 := NB303_314.out; have hcz18_0 : w16.cell? ⟨gb314, 0, none⟩ = some (.int .i64 0) := (blk_cell BK314.out 0).trans rfl; have hcz18_1 : w16.cell? ⟨gb314, 1, none⟩ = some (.int .i64 0) := (blk_cell BK314.out 1).trans rfl; have hcz18_2 : w16.cell? ⟨gb314, 2, none⟩ = some (.int .i64 0) := (blk_cell BK314.out 2).trans rfl; have hcz18_3 : w16.cell? ⟨gb314, 3, none⟩ = some (.int .i64 0) := (blk_cell BK314.out 3).trans rfl; have hcz18_4 : w16.cell? ⟨gb314, 4, none⟩ = some (.int .i64 0) := (blk_cell BK314.out 4).trans rfl; have hcz18_5 : w16.cell? ⟨gb314, 5, none⟩ = some (.int .i64 0) := (blk_cell BK314.out 5).trans rfl; have hcz18_6 : w16.cell? ⟨gb314, 6, none⟩ = some (.slice none 0 0) := (blk_cell BK314.out 6).trans rfl; have hfz18_0 := blk_frozen BK314.out 0; have hfz18_1 := blk_frozen BK314.out 1; have hfz18_2 := blk_frozen BK314.out 2; have hfz18_3 := blk_frozen BK314.out 3; have hfz18_4 := blk_frozen BK314.out 4; have hfz18_5 := blk_frozen BK314.out 5; have hfz18_6 := blk_frozen BK314.out 6; obtain ⟨Ao19, co19, eo19⟩ := Kd.R_slice HO312.out; subst eo19; have hcz20_0 : w16.cell? ⟨gb303, 0, none⟩ = some (.int .i64 t293) := (blk_cell BK303.out 0).trans rfl; have hcz20_1 : w16.cell? ⟨gb303, 1, none⟩ = some (.int .i64 t294) := (blk_cell BK303.out 1).trans rfl; have hcz20_2 : w16.cell? ⟨gb303, 2, none⟩ = some (.int .i64 t295) := (blk_cell BK303.out 2).trans rfl; have hcz20_3 : w16.cell? ⟨gb303, 3, none⟩ = some (.int .i64 t296) := (blk_cell BK303.out 3).trans rfl; have hcz20_4 : w16.cell? ⟨gb303, 4, none⟩ = some (.int .i64 t297) := (blk_cell BK303.out 4).trans rfl; have hcz20_5 : w16.cell? ⟨gb303, 5, none⟩ = some (.int .i64 t298) := (blk_cell BK303.out 5).trans rfl; have hcz20_6 : w16.cell? ⟨gb303, 6, none⟩ = some (.slice Ao14 t299.length co14) := (blk_cell BK303.out 6).trans rfl; have hfz20_0 := blk_frozen BK303.out 0; have hfz20_1 := blk_frozen BK303.out 1; have hfz20_2 := blk_frozen BK303.out 2; have hfz20_3 := blk_frozen BK303.out 3; have hfz20_4 := blk_frozen BK303.out 4; have hfz20_5 := blk_frozen BK303.out 5; have hfz20_6 := blk_frozen BK303.out 6) | ((with_reducible refine gate_callee (f := 20) rfl ?_); refine goesL_ (some 23) rfl rfl Tryd.func20 (by kernel_rfl) rfl #[.agg #[.int .i64 t293, .int .i64 t294, .int .i64 t295, .int .i64 t296, .int .i64 t297, .int .i64 t298, .slice Ao14 t299.length co14], .agg #[.int .i64 t304, .int .i64 t305, .int .i64 t306, .int .i64 t307, .int .i64 t308, .int .i64 t309, .slice Ao19 t310.length co19]] rfl (by (try simp only [List.map_toArray, List.map_cons, List.map_nil]); first | done | rfl | (simp only [List.length_drop, List.length_take]; rfl)) ?_; (with_reducible refine (papermillref61_SameOne.calls k t293 t294 t295 t296 t297 t298 _ _ t299 t304 t305 t306 t307 t308 t309 _ _ t310 true _ ?side1 ?side2 ?side3 ?side4 A7.out).mono ?_); (case side1 => refine (Kd.R_reads' (e := 3) (base := w.heap.size) (ok := fun k_ => (True ∧ some k_ ≠ (.slice Ao19 t310.length co19 : Value).ownBlock)) (n := t299.length) (c := co14) ?_).2.2; exact (by (with_reducible repeat (first | apply Kd.R_alloc | apply Kd.R_drewN | apply Kd.R_drew)); exact (Kd.R_mono (Kd.R_far (p := ⟨gb314, 6, none⟩) (Kd.R_far (p := ⟨gb314, 5, none⟩) (Kd.R_far (p := ⟨gb314, 4, none⟩) (Kd.R_far (p := ⟨gb314, 3, none⟩) (Kd.R_far (p := ⟨gb314, 2, none⟩) (Kd.R_far (p := ⟨gb314, 1, none⟩) (Kd.R_far (p := ⟨gb314, 0, none⟩) (Kd.R_types HO301.out BK314.out (by decide)) (fun _ hk => hk.2) (.int .i64 t304)) (fun _ hk => hk.2) (.int .i64 t305)) (fun _ hk => hk.2) (.int .i64 t306)) (fun _ hk => hk.2) (.int .i64 t307)) (fun _ hk => hk.2) (.int .i64 t308)) (fun _ hk => hk.2) (.int .i64 t309)) (fun _ hk => hk.2) (.slice Ao19 t310.length co19)) (fun _ h_ => h_.1)))); (case side2 => exact (Kd.R_reads' HO301.out).2.1); (case side3 => refine (Kd.R_reads' (e := 3) (base := w.heap.size) (ok := fun k_ => (True ∧ some k_ ≠ (.slice Ao14 t299.length co14 : Value).ownBlock)) (n := t310.length) (c := co19) ?_).2.2; exact (by (with_reducible repeat (first | apply Kd.R_alloc | apply Kd.R_drewN | apply Kd.R_drew)); exact (Kd.R_mono (Kd.R_far (p := ⟨gb314, 6, none⟩) (Kd.R_far (p := ⟨gb314, 5, none⟩) (Kd.R_far (p := ⟨gb314, 4, none⟩) (Kd.R_far (p := ⟨gb314, 3, none⟩) (Kd.R_far (p := ⟨gb314, 2, none⟩) (Kd.R_far (p := ⟨gb314, 1, none⟩) (Kd.R_far (p := ⟨gb314, 0, none⟩) (Kd.R_types HO312.out BK314.out (by decide)) (fun _ hk => hk.2) (.int .i64 t304)) (fun _ hk => hk.2) (.int .i64 t305)) (fun _ hk => hk.2) (.int .i64 t306)) (fun _ hk => hk.2) (.int .i64 t307)) (fun _ hk => hk.2) (.int .i64 t308)) (fun _ hk => hk.2) (.int .i64 t309)) (fun _ hk => hk.2) (.slice Ao19 t310.length co19)) (fun _ h_ => h_.1)))); (case side4 => exact (Kd.R_reads' HO312.out).2.1); rintro e w21 ⟨rfl, hb⟩; refine ⟨_, rfl, ?_⟩; have n0_ := Aside0.mk (Kd.R_below (by (with_reducible repeat (first | apply Kd.R_alloc | apply Kd.R_drewN | apply Kd.R_drew)); exact (Kd.R_mono (Kd.R_far (p := ⟨gb314, 6, none⟩) (Kd.R_far (p := ⟨gb314, 5, none⟩) (Kd.R_far (p := ⟨gb314, 4, none⟩) (Kd.R_far (p := ⟨gb314, 3, none⟩) (Kd.R_far (p := ⟨gb314, 2, none⟩) (Kd.R_far (p := ⟨gb314, 1, none⟩) (Kd.R_far (p := ⟨gb314, 0, none⟩) (Kd.R_types HO301.out BK314.out (by decide)) (fun _ hk => hk.2) (.int .i64 t304)) (fun _ hk => hk.2) (.int .i64 t305)) (fun _ hk => hk.2) (.int .i64 t306)) (fun _ hk => hk.2) (.int .i64 t307)) (fun _ hk => hk.2) (.int .i64 t308)) (fun _ hk => hk.2) (.int .i64 t309)) (fun _ hk => hk.2) (.slice Ao19 t310.length co19)) (fun _ h_ => h_.1))) hb); have n1_ := Aside0.mk (Kd.R_below (by (with_reducible repeat (first | apply Kd.R_alloc | apply Kd.R_drewN | apply Kd.R_drew)); exact (Kd.R_mono (Kd.R_far (p := ⟨gb314, 6, none⟩) (Kd.R_far (p := ⟨gb314, 5, none⟩) (Kd.R_far (p := ⟨gb314, 4, none⟩) (Kd.R_far (p := ⟨gb314, 3, none⟩) (Kd.R_far (p := ⟨gb314, 2, none⟩) (Kd.R_far (p := ⟨gb314, 1, none⟩) (Kd.R_far (p := ⟨gb314, 0, none⟩) (Kd.R_types HO312.out BK314.out (by decide)) (fun _ hk => hk.2) (.int .i64 t304)) (fun _ hk => hk.2) (.int .i64 t305)) (fun _ hk => hk.2) (.int .i64 t306)) (fun _ hk => hk.2) (.int .i64 t307)) (fun _ hk => hk.2) (.int .i64 t308)) (fun _ hk => hk.2) (.int .i64 t309)) (fun _ hk => hk.2) (.slice Ao19 t310.length co19)) (fun _ h_ => h_.1))) hb); have n2_ := Aside0.mk (blk_below (g := gb303) (o := .cells #[.int .i64 t293, .int .i64 t294, .int .i64 t295, .int .i64 t296, .int .i64 t297, .int .i64 t298, .slice Ao14 t299.length co14] 24 (0, 0)) (by (with_reducible repeat (first | refine blk_drewN ?_ _ | refine blk_drew ?_ | refine blk_alloc ?_ _)); refine blk_far ?_ NB303_314.out _; (with_reducible repeat (first | refine blk_drewN ?_ _ | refine blk_drew ?_ | refine blk_alloc ?_ _)); refine blk_far ?_ NB303_314.out _; (with_reducible repeat (first | refine blk_drewN ?_ _ | refine blk_drew ?_ | refine blk_alloc ?_ _)); refine blk_far ?_ NB303_314.out _; (with_reducible repeat (first | refine blk_drewN ?_ _ | refine blk_drew ?_ | refine blk_alloc ?_ _)); refine blk_far ?_ NB303_314.out _; (with_reducible repeat (first | refine blk_drewN ?_ _ | refine blk_drew ?_ | refine blk_alloc ?_ _)); refine blk_far ?_ NB303_314.out _; (with_reducible repeat (first | refine blk_drewN ?_ _ | refine blk_drew ?_ | refine blk_alloc ?_ _)); refine blk_far ?_ NB303_314.out _; (with_reducible repeat (first | refine blk_drewN ?_ _ | refine blk_drew ?_ | refine blk_alloc ?_ _)); refine blk_far ?_ NB303_314.out _; (with_reducible repeat (first | refine blk_drewN ?_ _ | refine blk_drew ?_ | refine blk_alloc ?_ _)); exact BK303.out) hb); have n3_ := Aside0.mk (blk_below (g := gb314) (o := .cells #[.int .i64 t304, .int .i64 t305, .int .i64 t306, .int .i64 t307, .int .i64 t308, .int .i64 t309, .slice Ao19 t310.length co19] 24 (0, 0)) (by (with_reducible repeat (first | refine blk_drewN ?_ _ | refine blk_drew ?_ | refine blk_alloc ?_ _)); refine blk_put (cs := #[.int .i64 t304, .int .i64 t305, .int .i64 t306, .int .i64 t307, .int .i64 t308, .int .i64 t309, .slice none 0 0]) ?_ 6 _ rfl; (with_reducible repeat (first | refine blk_drewN ?_ _ | refine blk_drew ?_ | refine blk_alloc ?_ _)); refine blk_put (cs := #[.int .i64 t304, .int .i64 t305, .int .i64 t306, .int .i64 t307, .int .i64 t308, .int .i64 0, .slice none 0 0]) ?_ 5 _ rfl; (with_reducible repeat (first | refine blk_drewN ?_ _ | refine blk_drew ?_ | refine blk_alloc ?_ _)); refine blk_put (cs := #[.int .i64 t304, .int .i64 t305, .int .i64 t306, .int .i64 t307, .int .i64 0, .int .i64 0, .slice none 0 0]) ?_ 4 _ rfl; (with_reducible repeat (first | refine blk_drewN ?_ _ | refine blk_drew ?_ | refine blk_alloc ?_ _)); refine blk_put (cs := #[.int .i64 t304, .int .i64 t305, .int .i64 t306, .int .i64 0, .int .i64 0, .int .i64 0, .slice none 0 0]) ?_ 3 _ rfl; (with_reducible repeat (first | refine blk_drewN ?_ _ | refine blk_drew ?_ | refine blk_alloc ?_ _)); refine blk_put (cs := #[.int .i64 t304, .int .i64 t305, .int .i64 0, .int .i64 0, .int .i64 0, .int .i64 0, .slice none 0 0]) ?_ 2 _ rfl; (with_reducible repeat (first | refine blk_drewN ?_ _ | refine blk_drew ?_ | refine blk_alloc ?_ _)); refine blk_put (cs := #[.int .i64 t304, .int .i64 0, .int .i64 0, .int .i64 0, .int .i64 0, .int .i64 0, .slice none 0 0]) ?_ 1 _ rfl; (with_reducible repeat (first | refine blk_drewN ?_ _ | refine blk_drew ?_ | refine blk_alloc ?_ _)); refine blk_put (cs := #[.int .i64 0, .int .i64 0, .int .i64 0, .int .i64 0, .int .i64 0, .int .i64 0, .slice none 0 0]) ?_ 0 _ rfl; (with_reducible repeat (first | refine blk_drewN ?_ _ | refine blk_drew ?_ | refine blk_alloc ?_ _)); exact BK314.out) hb); have n4_ := Aside0.mk (below_step (by repeat (first | (with_reducible first | exact HB.out | apply below_alloc | apply pw_below_drewN | apply below_drew1 | refine below_set ?_ GE303.out | refine below_set ?_ GE314.out) | exact HB.out)) hb); clear HO301; clear HO312; clear BK303; clear BK314; clear HB; have HO301 := n0_; have HO312 := n1_; have BK303 := n2_; have BK314 := n3_; have HB := n4_; clear n0_ n1_ n2_ n3_ n4_; (try clear hb); (try clear hb2); (try clear hk); (try clear hi)) | (go_at_call 12; (with_reducible refine (papermilllaw61_awake.calls k  t316 _ ?sideT A10.out).mono ?_); (case sideT => repeat (first | exact HT.out | exact (Kd.C_below HT.out HB.out) | (with_reducible refine Kd.C_alloc ?_ _) | (with_reducible refine Kd.C_drewN ?_ _) | (with_reducible refine Kd.C_drew ?_))); rintro e w22 ⟨rfl, hb⟩; have n0_ := Aside0.mk (Kd.R_below (by (with_reducible repeat (first | apply Kd.R_alloc | apply Kd.R_drewN | apply Kd.R_drew)); exact HO301.out) hb); have n1_ := Aside0.mk (Kd.R_below (by (with_reducible repeat (first | apply Kd.R_alloc | apply Kd.R_drewN | apply Kd.R_drew)); exact HO312.out) hb); have n2_ := Aside0.mk (blk_below (g := gb303) (o := .cells #[.int .i64 t293, .int .i64 t294, .int .i64 t295, .int .i64 t296, .int .i64 t297, .int .i64 t298, .slice Ao14 t299.length co14] 24 (0, 0)) (by (with_reducible repeat (first | refine blk_drewN ?_ _ | refine blk_drew ?_ | refine blk_alloc ?_ _)); exact BK303.out) hb); have n3_ := Aside0.mk (blk_below (g := gb314) (o := .cells #[.int .i64 t304, .int .i64 t305, .int .i64 t306, .int .i64 t307, .int .i64 t308, .int .i64 t309, .slice Ao19 t310.length co19] 24 (0, 0)) (by (with_reducible repeat (first | refine blk_drewN ?_ _ | refine blk_drew ?_ | refine blk_alloc ?_ _)); exact BK314.out) hb); have n4_ := Aside0.mk (below_step (by repeat (first | (with_reducible first | exact HB.out | apply below_alloc | apply pw_below_drewN | apply below_drew1 | refine below_set ?_ GE303.out | refine below_set ?_ GE314.out) | exact HB.out)) hb); clear HO301; clear HO312; clear BK303; clear BK314; clear HB; have HO301 := n0_; have HO312 := n1_; have BK303 := n2_; have BK314 := n3_; have HB := n4_; clear n0_ n1_ n2_ n3_ n4_; (try clear hb); (try clear hb2); (try clear hk); (try clear hi)))
     go_ret
     exact ⟨by first | rfl | (simp [errW_none, errW_some] <;> rfl) | (simp [*, errW_none, errW_some] <;> rfl), by repeat (first | (with_reducible first | exact HB.out | apply below_alloc | apply pw_below_drewN | apply below_drew1 | refine below_set ?_ GE303.out | refine below_set ?_ GE314.out) | exact HB.out)⟩
    ·rw [if_neg c9] at H
     exact absurd H (by simp)
   ·exact absurd H (by rw [if_neg c8]; simp)/-- THE ONE PURE STATEMENT of papermilllaw61_JournalGets: yours. -/
def papermilllaw61_JournalGets.Pure : Prop := ∀ (l0 : List Int), l0.length ≤ maxLen → l0.length * 1 ≤ 140737488351232 → (∀ x ∈ l0, (Lit.int .u8 x).wf = true) → ∃ k, papermilllaw61_JournalGets.f k l0 = some true
theorem papermilllaw61_JournalGets.walk (P : papermilllaw61_JournalGets.Pure) (a0 : Option Addr) (len0 cap0 : Nat) (z0 : List Int) (w : World) (hT : Kd.C (Kd.int .u32) w TabA crcTab.length crcTab) (w0 : (a0 = none ∧ len0 = 0 ∧ cap0 = 0 ∧ z0 = []) ∨ ∃ x, a0 = some x ∧ len0 ≤ cap0 ∧ cap0 ≤ maxLen ∧ z0.length = cap0 ∧ (∀ i, i < z0.length → w.cell? (x.add i) = some (.int .u8 (z0.getD i 0))) ∧ ∀ n ∈ z0, (Lit.int .u8 n).wf = true) (y0 : len0 * 1 ≤ 140737488351232) :
    Calls Tryd.prog 4 #[.slice a0 len0 cap0] w fun e w' => e = .returned (.bool true) ∧ Below w.heap.size w w' := by
  obtain ⟨l0, rfl, hr0, hm0, hw0, hc0⟩ := ReadsInt.ofRowC w0
  obtain ⟨k, h⟩ := P l0 hm0 y0 hw0
  refine (papermilllaw61_JournalGets.calls k _ _ l0 w (Kd.C_of_reads (d := (0 : Int)) (h1 := fun _ => rfl) hr0) hc0 hT h).mono ?_
  rintro e w' ⟨rfl, hd⟩
  exact ⟨rfl, hd⟩

end Go.Proofs.YtpcicooogiialaaDoor.PR
