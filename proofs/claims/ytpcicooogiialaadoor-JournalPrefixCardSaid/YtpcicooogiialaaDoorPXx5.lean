-- Written by a program of this session (hyb.py), which runs the print over the translation with contracts of its own added; it is not the print itself. Lean checks it.
import Derived.Test.YtpcicooogiialaaDoorPXx0
import Derived.Test.YtpcicooogiialaaDoorPXx1
import Derived.Test.YtpcicooogiialaaDoorPXx2
import Derived.Test.YtpcicooogiialaaDoorPXx3
import Derived.Test.YtpcicooogiialaaDoorPXx4
namespace Go.Proofs.YtpcicooogiialaaDoor.PX
open Go.RowKit Go.Proofs.YtpcicooogiialaaDoorW.PrintWords Go.Proofs.YtpcicooogiialaaDoorW.PrintLast Go.Proofs.YtpcicooogiialaaDoorW.PrintMore
attribute [local go_sem] max2_int min2_int max_two min_two max_three min_three max_four min_four   -- for this text's walks alone
set_option linter.unusedVariables false
set_option linter.unusedSimpArgs false

/-! ### wire_TakeList: function 35 -/
def wire_TakeList.l0 : Nat → List Int → Int → Int → List Int → Option (List Int × Int × Int)
  | 0, _, _, _, _ => none
  | k + 1, x0, x7, x8, x10 => if (x10.length : Int) < x7 then (if 0 ≤ x8 then (if x8 ≤ (x0.length : Int) then ((wire_TakeInt.f k (x0.drop (x8 : Int).toNat)).bind fun bt127 => (if bt127.2.2 = 0 then (if x10.length < 17592186044416 then (wire_TakeList.l0 k x0 x7 (wrap64 (x8 + bt127.2.1)) (x10 ++ [bt127.1])) else (none)) else (some (([] : List Int), 0, bt127.2.2)))) else (none)) else (none)) else (some (x10, x8, 0))
def wire_TakeList.f (k : Nat) (l0 : List Int) (a1 : Int) : Option (List Int × Int × Int) := (wire_length.f k l0 a1).bind fun bt123 => (if bt123.2.2 = 0 then (wire_TakeList.l0 k l0 bt123.1 bt123.2.1 ([] : List Int)) else (some (([] : List Int), 0, bt123.2.2)))
theorem wire_TakeList.mono_l : ∀ k, (∀ y0 y1 y2 y3, LeO (wire_TakeList.l0 k y0 y1 y2 y3) (wire_TakeList.l0 (k + 1) y0 y1 y2 y3))
  | 0 => fun _ _ _ _ r h => by simp [wire_TakeList.l0] at h
  | k + 1 => by
    have ih0 := wire_TakeList.mono_l k
    · intro y0 y1 y2 y3
      unfold wire_TakeList.l0
      repeat' first
      | (with_reducible exact ih0 _ _ _ _)
      | (with_reducible exact wire_TakeInt.mono _ _)
      | (with_reducible exact wire_length.mono _ _ _)
      | (with_reducible exact LeO.refl _)
      | (with_reducible exact LeO.none _)
      | (with_reducible refine LeO.ite ?_ ?_)
      | (with_reducible refine LeO.bind ?_ (fun _ => ?_))
      | exact ih0 _ _ _ _
      | exact wire_TakeInt.mono _ _
      | exact wire_length.mono _ _ _
      | exact LeO.none _
      | refine LeO.ite ?_ ?_
      | refine LeO.bind ?_ (fun _ => ?_)
theorem wire_TakeList.mono : ∀ a0 a1 k, LeO (wire_TakeList.f k a0 a1) (wire_TakeList.f (k + 1) a0 a1) := by
  intro a0 a1 k
  have ih0 := wire_TakeList.mono_l k
  unfold wire_TakeList.f
  repeat' first
      | (with_reducible exact ih0 _ _ _ _)
      | (with_reducible exact wire_TakeInt.mono _ _)
      | (with_reducible exact wire_length.mono _ _ _)
      | (with_reducible exact LeO.refl _)
      | (with_reducible exact LeO.none _)
      | (with_reducible refine LeO.ite ?_ ?_)
      | (with_reducible refine LeO.bind ?_ (fun _ => ?_))
      | exact ih0 _ _ _ _
      | exact wire_TakeInt.mono _ _
      | exact wire_length.mono _ _ _
      | exact LeO.none _
      | refine LeO.ite ?_ ?_
      | refine LeO.bind ?_ (fun _ => ?_)
set_option maxHeartbeats 8000000 in
set_option maxRecDepth 100000 in
theorem wire_TakeList.calls (k : Nat) (A0 : Option Addr) (c0 : Nat) (l0 : List Int) (a1 : Int) (r1 : List Int) (r2 : Int) (r3 : Int) (w : World) (hr0 : Kd.C (Kd.int .u8) w A0 l0.length l0) (hc0 : l0.length ≤ c0) (h : wire_TakeList.f k l0 a1 = some (r1, r2, r3)) :
    Calls Tryd.prog 35 #[.slice A0 l0.length c0, .int .i64 a1] w fun e w' => ∃ v0_ : Value, e = .returned (.tuple #[v0_, .int .i64 r2, .int .i64 r3]) ∧ Kd.R (Kd.int .i64) 3 w' w.heap.size (fun _ => True) v0_ r1 ∧ Below w.heap.size w w' := by
  have HR0 := Aside0.mk hr0
  have HC0 := Aside0.mk hc0
  clear hr0 hc0
  have HB := Aside0.mk (Below.refl w.heap.size w)
  have H : ((wire_length.f k l0 a1).bind fun bt123 => (if bt123.2.2 = 0 then (wire_TakeList.l0 k l0 bt123.1 bt123.2.1 ([] : List Int)) else (some (([] : List Int), 0, bt123.2.2)))) = some (r1, r2, r3) := h
  clear h
  replace H := Option.bind_eq_some_iff.mp H
  obtain ⟨⟨t123, t124, t125⟩, A30, H⟩ := H
  replace H : (if t125 = 0 then (wire_TakeList.l0 k l0 t123 t124 ([] : List Int)) else (some (([] : List Int), 0, t125))) = some (r1, r2, r3) := H
  have A3 := Aside0.mk A30
  clear A30
  by_cases c4 : t125 = 0
  ·rw [if_pos c4] at H
   have c4b0 : (t125 == 0) = true := beq_iff_eq.mpr c4
   have c4b1 : (t125 != 0) = false := bne_eq_false_iff_eq.mpr c4
   clear c4
   have H' := Aside0.mk H
   clear H
   go_enter Tryd.func35, Tryd.ntmps35
   go_wp2_with (first | ((with_reducible refine gate_callee (f := 44) rfl ?_); refine goesL_ (some 17) rfl rfl Tryd.func44 (by kernel_rfl) rfl #[.slice A0 l0.length c0, .int .i64 a1] rfl (by (try simp only [List.map_toArray, List.map_cons, List.map_nil]); first | done | rfl | (simp only [List.length_drop, List.length_take]; rfl)) ?_; (with_reducible refine (wire_length.calls k _ _ l0 a1 t123 t124 t125 _ ?side1 ?side2 A3.out).mono ?_); (case side1 => repeat (first | exact HR0.out | (with_reducible refine Kd.C_alloc ?_ _) | (with_reducible refine Kd.C_drewN ?_ _) | (with_reducible refine Kd.C_drew ?_))); (case side2 => exact HC0.out); rintro e w' ⟨rfl, ⟨nd, rfl⟩⟩; refine ⟨_, rfl, ?_⟩))
   go_loopg [8, 10] k (fun kq v8 v10 w' => ∃ (x8_1 : Int) (x10_1 : List Int), v8 = .int .i64 x8_1 ∧ Aside0 (wire_TakeList.l0 kq l0 t123 x8_1 x10_1 = some (r1, r2, r3)) ∧ Aside0 (kq ≤ k) ∧ Aside0 (Kd.R (Kd.int .i64) 3 w' w.heap.size (fun _ => True) v10 x10_1) ∧ Aside0 (Below w.heap.size w w'))
   case atStart => exact ⟨(t124), (([] : List Int)), (by first | rfl | (simp; done) | (simp [*]; done)), H', ⟨Nat.le_refl _⟩, ⟨by first | exact Kd.R_nil _ _ _ _ _ | exact Kd.N_nil _ _ _ _ _ | exact Kd.V_nil _ _ _ _ _ | exact Kd.Q_nil _ _ _ _ _ | exact Kd.S_nil _ _ _ _ _⟩, ⟨by repeat (first | (with_reducible first | exact HB.out | apply below_alloc | apply pw_below_drewN | apply below_drew1) | exact HB.out)⟩⟩
   case round =>
    clear H'
    try clear p2
    try clear c3
    try clear c4
    try clear c4b0
    try clear c4b1
    obtain ⟨x8_1, x10_1, rfl, HA, HK1, HO_10, HB⟩ := hrel
    cases gk with
    | zero => exact absurd HA.out (by simp [wire_TakeList.l0])
    | succ k1 =>
     have H := HA.out
     clear HA
     simp only [wire_TakeList.l0] at H
     by_cases c5 : (x10_1.length : Int) < t123
     ·rw [if_pos c5] at H
      have c5b0 : decide ((x10_1.length : Int) < t123) = true := decide_eq_true c5
      clear c5
      by_cases c6 : 0 ≤ x8_1
      ·rw [if_pos c6] at H
       have c6b0 := eq_true c6
       have c6b1 : decide (0 ≤ x8_1) = true := decide_eq_true c6
       clear c6
       by_cases c7 : x8_1 ≤ (l0.length : Int)
       ·rw [if_pos c7] at H
        have c7b0 := eq_true c7
        have c7b1 : decide (x8_1 ≤ (l0.length : Int)) = true := decide_eq_true c7
        clear c7
        replace H := Option.bind_eq_some_iff.mp H
        obtain ⟨⟨t127, t128, t129⟩, A80, H⟩ := H
        replace H : (if t129 = 0 then (if x10_1.length < 17592186044416 then (wire_TakeList.l0 k1 l0 t123 (wrap64 (x8_1 + t128)) (x10_1 ++ [t127])) else (none)) else (some (([] : List Int), 0, t129))) = some (r1, r2, r3) := H
        have A8 := Aside0.mk A80
        clear A80
        by_cases c9 : t129 = 0
        ·rw [if_pos c9] at H
         have c9b0 : (t129 == 0) = true := beq_iff_eq.mpr c9
         have c9b1 : (t129 != 0) = false := bne_eq_false_iff_eq.mpr c9
         clear c9
         by_cases c10 : x10_1.length < 17592186044416
         ·rw [if_pos c10] at H
          have LMc10 := Aside0.mk c10
          clear c10
          obtain ⟨y130, hy130⟩ : ∃ y_ : List Int, y_ = (x10_1 ++ [t127]) := ⟨_, rfl⟩
          replace H : (wire_TakeList.l0 k1 l0 t123 (wrap64 (x8_1 + t128)) y130) = some (r1, r2, r3) := by first | (rw [hy130]; with_reducible exact H) | (have H2_ := (Option.bind_some _ _).symm.trans H; rw [hy130]; with_reducible exact H2_) | (have H2_ := (Option.bind_some _ _).symm.trans H; with_reducible exact H2_) | with_reducible exact H | (rw [hy130]; exact H) | exact H
          have Ny130 := Aside0.mk hy130
          clear hy130
          have H' := Aside0.mk H
          clear H
          obtain ⟨Ao11, co11, eo11⟩ := Kd.R_slice HO_10.out
          subst eo11
          obtain ⟨i012, hi012, _, hsz12, _⟩ := info_parts info5
          obtain ⟨A12, hcut12, hA12, hC12⟩ := print_drop_of (P := Tryd.prog) (Value.int .u8) 0 28 5 .i64 Tryd.underlying28 hi012 hsz12 A0 c0 l0 x8_1 (of_decide_eq_true (by first | (with_reducible assumption) | assumption)) (of_decide_eq_true (by first | (with_reducible assumption) | assumption)) HC0.out
          have HR126 := Aside0.mk (Kd.C_of_reads (h1 := fun _ => rfl) (hA12 _ (Kd.reads_of_C HR0.out)))
          have HC126 := Aside0.mk hC12
          clear hA12 hC12 hi012 hsz12
          go_wp2_with (first | ((with_reducible refine gate_callee (f := 34) rfl ?_); refine goesL_ (some 32) rfl rfl Tryd.func34 (by kernel_rfl) rfl #[.slice A12 (l0.drop (x8_1 : Int).toNat).length (c0 - x8_1.toNat)] rfl (by (try simp only [List.map_toArray, List.map_cons, List.map_nil]); first | done | (rw [show (l0.drop (x8_1 : Int).toNat).length = (l0.length - x8_1.toNat) from List.length_drop] <;> rfl) | rfl | (simp only [List.length_drop, List.length_take]; rfl)) ?_; (with_reducible refine (wire_TakeInt.calls k1 _ _ (l0.drop (x8_1 : Int).toNat) t127 t128 t129 _ ?side1 ?side2 A8.out).mono ?_); (case side1 => repeat (first | exact (Kd.C_below HR126.out HB.out) | (with_reducible refine Kd.C_alloc ?_ _) | (with_reducible refine Kd.C_drewN ?_ _) | (with_reducible refine Kd.C_drew ?_))); (case side2 => exact HC126.out); rintro e w' ⟨rfl, ⟨nd, rfl⟩⟩; refine ⟨_, rfl, ?_⟩) | ((with_reducible refine gate_builtin (b := .append) (xs := #[.tmp 39, .tmp 41]) rfl ?_); at_builtin; refine Kd.R_append (Kd.int .i64) (w0 := w) w.heap.size rfl (.tmp 39) (.tmp 41) 22 3 (.int .i64 0) 8 rfl Tryd.underlying22 info3 rfl (by decide) (by omega) (.slice Ao11 x10_1.length co11) x10_1 t127 [.int .i64 t127] (fun _ => True) (fun _ => False) rfl rfl ?aP (fun _ hk => hk.elim) ?aF ?aO ?aB ?aS ?aL ?_; (case aP => exact rfl); (case aB => exact (by repeat (first | (with_reducible first | exact HB.out | apply below_alloc | apply pw_below_drewN | apply below_drew1) | exact HB.out))); (case aF => exact (fun _ _ => trivial)); (case aO => exact (by (with_reducible repeat (first | apply Kd.R_alloc | apply Kd.R_drewN | apply Kd.R_drew)); exact HO_10.out)); (case aS => exact (below_size (by repeat (first | (with_reducible first | exact HB.out | apply below_alloc | apply pw_below_drewN | apply below_drew1) | exact HB.out)))); (case aL => have := LMc10.out; omega); intro v131 w13 ho hb hg hat; rw [← Ny130.out] at ho; have n0_ := Aside0.mk (hb); have n1_ := Aside0.mk (ho); clear HB; clear HO_10; have HB := n0_; have HO132 := n1_; clear n0_ n1_; clear ho hb hg hat))
          go_roundg k1
          case measure => have := HK1.out; omega
          case rel => exact ⟨(wrap64 (x8_1 + t128)), (y130), (by first | rfl | (simp; done) | (simp [*]; done)), H', ⟨by have := HK1.out; omega⟩, ⟨by (with_reducible repeat (first | apply Kd.R_alloc | apply Kd.R_drewN | apply Kd.R_drew)); exact HO132.out⟩, ⟨by repeat (first | (with_reducible first | exact HB.out | apply below_alloc | apply pw_below_drewN | apply below_drew1) | exact HB.out)⟩⟩
         ·rw [if_neg c10] at H
          exact absurd H (by simp)
        ·rw [if_neg c9] at H
         have c9b0 : (t129 == 0) = false := beq_eq_false_iff_ne.mpr c9
         have c9b1 : (t129 != 0) = true := bne_iff_ne.mpr c9
         simp only [Option.some.injEq, Prod.mk.injEq] at H
         obtain ⟨rfl, rfl, rfl⟩ := H
         obtain ⟨Ao14, co14, eo14⟩ := Kd.R_slice HO_10.out
         subst eo14
         obtain ⟨i015, hi015, _, hsz15, _⟩ := info_parts info5
         obtain ⟨A15, hcut15, hA15, hC15⟩ := print_drop_of (P := Tryd.prog) (Value.int .u8) 0 28 5 .i64 Tryd.underlying28 hi015 hsz15 A0 c0 l0 x8_1 (of_decide_eq_true (by first | (with_reducible assumption) | assumption)) (of_decide_eq_true (by first | (with_reducible assumption) | assumption)) HC0.out
         have HR126 := Aside0.mk (Kd.C_of_reads (h1 := fun _ => rfl) (hA15 _ (Kd.reads_of_C HR0.out)))
         have HC126 := Aside0.mk hC15
         clear hA15 hC15 hi015 hsz15
         go_wp2_with (first | ((with_reducible refine gate_callee (f := 34) rfl ?_); refine goesL_ (some 32) rfl rfl Tryd.func34 (by kernel_rfl) rfl #[.slice A15 (l0.drop (x8_1 : Int).toNat).length (c0 - x8_1.toNat)] rfl (by (try simp only [List.map_toArray, List.map_cons, List.map_nil]); first | done | (rw [show (l0.drop (x8_1 : Int).toNat).length = (l0.length - x8_1.toNat) from List.length_drop] <;> rfl) | rfl | (simp only [List.length_drop, List.length_take]; rfl)) ?_; (with_reducible refine (wire_TakeInt.calls k1 _ _ (l0.drop (x8_1 : Int).toNat) t127 t128 t129 _ ?side1 ?side2 A8.out).mono ?_); (case side1 => repeat (first | exact (Kd.C_below HR126.out HB.out) | (with_reducible refine Kd.C_alloc ?_ _) | (with_reducible refine Kd.C_drewN ?_ _) | (with_reducible refine Kd.C_drew ?_))); (case side2 => exact HC126.out); rintro e w' ⟨rfl, ⟨nd, rfl⟩⟩; refine ⟨_, rfl, ?_⟩))
         go_ret3
         exact ⟨_, by first | rfl | (simp [errW_none, errW_some] <;> rfl) | (simp [*, errW_none, errW_some] <;> rfl), by first | exact Kd.R_nil _ _ _ _ _ | exact Kd.N_nil _ _ _ _ _ | exact Kd.V_nil _ _ _ _ _ | exact Kd.Q_nil _ _ _ _ _ | exact Kd.S_nil _ _ _ _ _, by repeat (first | (with_reducible first | exact HB.out | apply below_alloc | apply pw_below_drewN | apply below_drew1) | exact HB.out)⟩
       ·rw [if_neg c7] at H
        exact absurd H (by simp)
      ·rw [if_neg c6] at H
       exact absurd H (by simp)
     ·rw [if_neg c5] at H
      have c5b0 : decide ((x10_1.length : Int) < t123) = false := decide_eq_false c5
      clear c5
      simp only [Option.some.injEq, Prod.mk.injEq] at H
      obtain ⟨rfl, rfl, rfl⟩ := H
      obtain ⟨Ao16, co16, eo16⟩ := Kd.R_slice HO_10.out
      subst eo16
      go_wp2
      go_ret3
      exact ⟨_, by first | rfl | (simp [errW_none, errW_some] <;> rfl) | (simp [*, errW_none, errW_some] <;> rfl), by (with_reducible repeat (first | apply Kd.R_alloc | apply Kd.R_drewN | apply Kd.R_drew)); exact HO_10.out, by repeat (first | (with_reducible first | exact HB.out | apply below_alloc | apply pw_below_drewN | apply below_drew1) | exact HB.out)⟩
  ·rw [if_neg c4] at H
   have c4b0 : (t125 == 0) = false := beq_eq_false_iff_ne.mpr c4
   have c4b1 : (t125 != 0) = true := bne_iff_ne.mpr c4
   simp only [Option.some.injEq, Prod.mk.injEq] at H
   obtain ⟨rfl, rfl, rfl⟩ := H
   go_enter Tryd.func35, Tryd.ntmps35
   go_wp2_with (first | ((with_reducible refine gate_callee (f := 44) rfl ?_); refine goesL_ (some 17) rfl rfl Tryd.func44 (by kernel_rfl) rfl #[.slice A0 l0.length c0, .int .i64 a1] rfl (by (try simp only [List.map_toArray, List.map_cons, List.map_nil]); first | done | rfl | (simp only [List.length_drop, List.length_take]; rfl)) ?_; (with_reducible refine (wire_length.calls k _ _ l0 a1 t123 t124 t125 _ ?side1 ?side2 A3.out).mono ?_); (case side1 => repeat (first | exact HR0.out | (with_reducible refine Kd.C_alloc ?_ _) | (with_reducible refine Kd.C_drewN ?_ _) | (with_reducible refine Kd.C_drew ?_))); (case side2 => exact HC0.out); rintro e w' ⟨rfl, ⟨nd, rfl⟩⟩; refine ⟨_, rfl, ?_⟩))
   go_ret3
   exact ⟨_, by first | rfl | (simp [errW_none, errW_some] <;> rfl) | (simp [*, errW_none, errW_some] <;> rfl), by first | exact Kd.R_nil _ _ _ _ _ | exact Kd.N_nil _ _ _ _ _ | exact Kd.V_nil _ _ _ _ _ | exact Kd.Q_nil _ _ _ _ _ | exact Kd.S_nil _ _ _ _ _, by repeat (first | (with_reducible first | exact HB.out | apply below_alloc | apply pw_below_drewN | apply below_drew1) | exact HB.out)⟩

/-! ### journal_Get: function 18 -/
def journal_Get.l0 (k : Nat) : Nat → List Int → List Int → Option (Int × Int × Int × Int × Int × Int × List Int × Int)
  | 0, b, xs => (wire_TakeList.f k b 32).bind fun t => if t.2.2 = 0 then (if t.2.1 < (b.length : Int) then some (0, 0, 0, 0, 0, 0, [], 3) else (journal_Check.f k (rd xs 0) (rd xs 1) (rd xs 2) (rd xs 3) (rd xs 4) (rd xs 5) t.1).bind fun f => if f = 0 then some (rd xs 0, rd xs 1, rd xs 2, rd xs 3, rd xs 4, rd xs 5, t.1, 0) else some (0, 0, 0, 0, 0, 0, [], f)) else some (0, 0, 0, 0, 0, 0, [], t.2.2)
  | m + 1, b, xs => (wire_TakeInt.f k b).bind fun t => if t.2.2 = 0 then (if 0 ≤ t.2.1 ∧ t.2.1 ≤ (b.length : Int) then journal_Get.l0 k m (b.drop t.2.1.toNat) (xs.set (5 - m) t.1) else none) else some (0, 0, 0, 0, 0, 0, [], t.2.2)
def journal_Get.f (k : Nat) (l0 : List Int) : Option (Int × Int × Int × Int × Int × Int × List Int × Int) := journal_Get.l0 k 6 l0 [0, 0, 0, 0, 0, 0]
theorem journal_Get.mono_l (k : Nat) : ∀ m b xs, LeO (journal_Get.l0 k m b xs) (journal_Get.l0 (k + 1) m b xs)
  | 0, b, xs => by
    unfold journal_Get.l0
    repeat' first
      | (with_reducible exact LeO.refl _)
      | (with_reducible exact LeO.none _)
      | exact journal_Check.mono _ _ _ _ _ _ _ _
      | exact wire_TakeList.mono _ _ _
      | (with_reducible refine LeO.ite ?_ ?_)
      | (with_reducible refine LeO.bind ?_ (fun _ => ?_))
  | m + 1, b, xs => by
    unfold journal_Get.l0
    repeat' first
      | (with_reducible exact LeO.refl _)
      | (with_reducible exact LeO.none _)
      | exact journal_Get.mono_l k m _ _
      | exact wire_TakeInt.mono _ _
      | (with_reducible refine LeO.ite ?_ ?_)
      | (with_reducible refine LeO.bind ?_ (fun _ => ?_))
theorem journal_Get.mono : ∀ a0 k, LeO (journal_Get.f k a0) (journal_Get.f (k + 1) a0) := fun a0 k => journal_Get.mono_l k 6 a0 _
set_option maxHeartbeats 4000000 in
set_option maxRecDepth 100000 in
theorem journal_Get.calls (k : Nat) (A0 : Option Addr) (c0 : Nat) (l0 : List Int) (r1 : Int) (r2 : Int) (r3 : Int) (r4 : Int) (r5 : Int) (r6 : Int) (r7 : List Int) (r8 : Int) (w : World) (hr0 : Kd.C (Kd.int .u8) w A0 l0.length l0) (hc0 : l0.length ≤ c0) (h : journal_Get.f k l0 = some (r1, r2, r3, r4, r5, r6, r7, r8)) :
    Calls Tryd.prog 18 #[.slice A0 l0.length c0] w fun e w' => ∃ v6_ : Value, e = .returned (.tuple #[.agg #[.int .i64 r1, .int .i64 r2, .int .i64 r3, .int .i64 r4, .int .i64 r5, .int .i64 r6, v6_], .int .i64 r8]) ∧ Kd.R (Kd.int .i64) 3 w' w.heap.size (fun _ => True) v6_ r7 ∧ Below w.heap.size w w' := by
  have hu24 := Tryd.underlying24
  have HR := Aside0.mk hr0
  have HC := Aside0.mk hc0
  have H := Aside0.mk h
  have HB := Aside0.mk (Below.refl w.heap.size w)
  clear hr0 hc0 h
  go_enter Tryd.func18, Tryd.ntmps18
  go_wp2_with (first
    | ((with_reducible refine gate_dst (N := 2) rfl ?_); (go_must (refine box_event ?hg (N := 2) ?hd (cs := #[.int .i64 0, .int .i64 0, .int .i64 0, .int .i64 0, .int .i64 0, .int .i64 0, .slice none 0 0]) (t := 24) ?hr ?_)); (case hd => rfl); (case hg => rfl); (case hr => first | (go_simp; done) | (go_simp; rfl)); intro gr hg w1 hbox hb; have BR1 := Aside0.mk hbox; have HB1 := Aside0.mk hb; have GR := Aside0.mk (Nat.le_of_eq hg.symm); clear hbox hb hg HB)
    | ((with_reducible refine gate_dst (N := 4) rfl ?_); (go_must (refine box_event ?hg (N := 4) ?hd (cs := #[.int .i64 0, .int .i64 0, .int .i64 0, .int .i64 0, .int .i64 0, .int .i64 0, .slice none 0 0]) (t := 24) ?hr ?_)); (case hd => rfl); (case hg => rfl); (case hr => first | (go_simp; done) | (go_simp; rfl)); intro ge hg w2 hbox hb; have BR2 := Aside0.mk (blk_below BR1.out hb); have BE2 := Aside0.mk hbox; have HB2 := Aside0.mk (below_step HB1.out hb); have GE := Aside0.mk (Nat.le_trans (below_size HB1.out) (Nat.le_of_eq hg.symm)); have NE := Aside0.mk (show gr ≠ ge from fun e => absurd (blk_lt BR1.out) (by rw [e, hg]; exact Nat.lt_irrefl _)); clear hbox hb hg BR1 HB1)
    | (go_at_call 27; (go_must (refine (fields_calls ge _).mono ?_)); rintro e w3 ⟨rfl, hb⟩; have BR3 := Aside0.mk (blk_below BR2.out hb); have BE3 := Aside0.mk (blk_below BE2.out hb); have HB3 := Aside0.mk (below_step HB2.out hb); clear BR2 BE2 HB2 hb))
  go_loopg [0, 15] 6 (fun kq v0 v15 w' => ∃ (bs : List Int) (A : Option Addr) (c : Nat) (i : Nat) (x0 x1 x2 x3 x4 x5 : Int), v0 = .slice A bs.length c ∧ v15 = .int .i64 (i : Int) ∧ Aside0 (kq = 6 - i ∧ i ≤ 6) ∧ Aside0 (journal_Get.l0 k (6 - i) bs [x0, x1, x2, x3, x4, x5] = some (r1, r2, r3, r4, r5, r6, r7, r8)) ∧ Aside0 (Kd.C (Kd.int .u8) w A bs.length bs ∧ bs.length ≤ c) ∧ Aside0 (w'.heap[gr]? = some (.cells #[.int .i64 0, .int .i64 0, .int .i64 0, .int .i64 0, .int .i64 0, .int .i64 0, .slice none 0 0] 24 (0, 0))) ∧ Aside0 (w'.heap[ge]? = some (.cells #[.int .i64 x0, .int .i64 x1, .int .i64 x2, .int .i64 x3, .int .i64 x4, .int .i64 x5, .slice none 0 0] 24 (0, 0))) ∧ Aside0 (Below w.heap.size w w'))
  case atStart => exact ⟨l0, A0, c0, 0, 0, 0, 0, 0, 0, 0, rfl, rfl, ⟨by omega⟩, H, ⟨HR.out, HC.out⟩, BR3, BE3, HB3⟩
  case round =>
    obtain ⟨bs, A, c, i, x0, x1, x2, x3, x4, x5, rfl, rfl, HI, HQ, HX, BR3, BE3, HB3⟩ := hrel
    clear H HR HC
    by_cases c4 : i < 6
    · have c4b : decide ((i : Int) < 6) = true := decide_eq_true (by omega)
      obtain ⟨y, hy⟩ : ∃ y, wr.cell? ⟨ge, i, none⟩ = some (.int .i64 y) := by
        have hc0 := (blk_cell BE3.out 0).trans rfl
        have hc1 := (blk_cell BE3.out 1).trans rfl
        have hc2 := (blk_cell BE3.out 2).trans rfl
        have hc3 := (blk_cell BE3.out 3).trans rfl
        have hc4 := (blk_cell BE3.out 4).trans rfl
        have hc5 := (blk_cell BE3.out 5).trans rfl
        rcases (by omega : i = 0 ∨ i = 1 ∨ i = 2 ∨ i = 3 ∨ i = 4 ∨ i = 5) with rfl | rfl | rfl | rfl | rfl | rfl
        · exact ⟨_, hc0⟩
        · exact ⟨_, hc1⟩
        · exact ⟨_, hc2⟩
        · exact ⟨_, hc3⟩
        · exact ⟨_, hc4⟩
        · exact ⟨_, hc5⟩
      have hyf := blk_frozen BE3.out i
      obtain ⟨⟨v, n, f⟩, hcs, hcr⟩ := Option.bind_eq_some_iff.mp (show (wire_TakeInt.f k bs).bind (fun t => if t.2.2 = 0 then (if 0 ≤ t.2.1 ∧ t.2.1 ≤ (bs.length : Int) then journal_Get.l0 k (5 - i) (bs.drop t.2.1.toNat) ([x0, x1, x2, x3, x4, x5].set (5 - (5 - i)) t.1) else none) else some (0, 0, 0, 0, 0, 0, [], t.2.2)) = some (r1, r2, r3, r4, r5, r6, r7, r8) by
        have hq := HQ.out
        rw [show 6 - i = (5 - i) + 1 by omega] at hq
        exact hq)
      have HCS := Aside0.mk hcs
      have hidx := fld_index ge i c4
      by_cases cf : f = 0
      · subst cf
        simp only [if_true] at hcr
        by_cases cn : 0 ≤ n ∧ n ≤ (bs.length : Int)
        · rw [if_pos cn] at hcr
          have HCR := Aside0.mk hcr
          obtain ⟨i0_, hi0_, _, hsz0_, _⟩ := info_parts info5
          obtain ⟨A5, hcut5, hA5, hC5⟩ := print_drop_of (P := Tryd.prog) (Value.int .u8) 0 28 5 .i64 Tryd.underlying28 hi0_ hsz0_ A c bs n cn.1 cn.2 HX.out.2
          have HX5 := Aside0.mk (show Kd.C (Kd.int .u8) w A5 (bs.drop n.toNat).length (bs.drop n.toNat) ∧ _ from ⟨Kd.C_of_reads (h1 := fun _ => rfl) (hA5 _ (Kd.reads_of_C HX.out.1)), hC5⟩)
          clear hcs hcr hA5 hC5 hi0_ hsz0_
          go_wp2_with (first | (go_at_call 34; (go_must (refine (wire_TakeInt.calls k _ _ bs v n 0 _ (Kd.C_below HX.out.1 HB3.out) HX.out.2 HCS.out).mono ?_)); rintro e w5 ⟨rfl, ⟨nd, rfl⟩⟩))
          go_roundg (6 - (i + 1))
          case measure => have := HI.out; omega
          case rel =>
            obtain ⟨y0, y1, y2, y3, y4, y5, hy1, hy2⟩ : ∃ y0 y1 y2 y3 y4 y5, [x0, x1, x2, x3, x4, x5].set (5 - (5 - i)) v = [y0, y1, y2, y3, y4, y5] ∧ ((wr.drewN nd).setCell ⟨ge, i, none⟩ (.int .i64 v)).heap[ge]? = some (.cells #[.int .i64 y0, .int .i64 y1, .int .i64 y2, .int .i64 y3, .int .i64 y4, .int .i64 y5, .slice none 0 0] 24 (0, 0)) := by
              rcases (by omega : i = 0 ∨ i = 1 ∨ i = 2 ∨ i = 3 ∨ i = 4 ∨ i = 5) with rfl | rfl | rfl | rfl | rfl | rfl
              · exact ⟨v, x1, x2, x3, x4, x5, rfl, blk_put (blk_drewN BE3.out nd) 0 _ rfl⟩
              · exact ⟨x0, v, x2, x3, x4, x5, rfl, blk_put (blk_drewN BE3.out nd) 1 _ rfl⟩
              · exact ⟨x0, x1, v, x3, x4, x5, rfl, blk_put (blk_drewN BE3.out nd) 2 _ rfl⟩
              · exact ⟨x0, x1, x2, v, x4, x5, rfl, blk_put (blk_drewN BE3.out nd) 3 _ rfl⟩
              · exact ⟨x0, x1, x2, x3, v, x5, rfl, blk_put (blk_drewN BE3.out nd) 4 _ rfl⟩
              · exact ⟨x0, x1, x2, x3, x4, v, rfl, blk_put (blk_drewN BE3.out nd) 5 _ rfl⟩
            refine ⟨bs.drop n.toNat, A5, c - n.toNat, i + 1, y0, y1, y2, y3, y4, y5, by rw [List.length_drop], rfl, ⟨by omega⟩, ⟨?_⟩, HX5, ⟨?_⟩, ⟨hy2⟩, ⟨below_set (pw_below_drewN HB3.out nd) GE.out⟩⟩
            · rw [← hy1, show 6 - (i + 1) = 5 - i by omega]
              exact HCR.out
            · exact blk_far (blk_drewN BR3.out nd) NE.out _
        · rw [if_neg cn] at hcr
          cases hcr
      · simp only [if_neg cf] at hcr
        injection hcr with hcr
        injection hcr with e1 hcr
        injection hcr with e2 hcr
        injection hcr with e3 hcr
        injection hcr with e4 hcr
        injection hcr with e5 hcr
        injection hcr with e6 hcr
        injection hcr with e7 e8
        subst e1 e2 e3 e4 e5 e6 e7 e8
        have cfb : (f != 0) = true := bne_iff_ne.mpr cf
        clear hcs cf
        have hr0 : wr.cell? ⟨gr, 0, none⟩ = some (.int .i64 0) := (blk_cell BR3.out 0).trans rfl
        have hr1 : wr.cell? ⟨gr, 1, none⟩ = some (.int .i64 0) := (blk_cell BR3.out 1).trans rfl
        have hr2 : wr.cell? ⟨gr, 2, none⟩ = some (.int .i64 0) := (blk_cell BR3.out 2).trans rfl
        have hr3 : wr.cell? ⟨gr, 3, none⟩ = some (.int .i64 0) := (blk_cell BR3.out 3).trans rfl
        have hr4 : wr.cell? ⟨gr, 4, none⟩ = some (.int .i64 0) := (blk_cell BR3.out 4).trans rfl
        have hr5 : wr.cell? ⟨gr, 5, none⟩ = some (.int .i64 0) := (blk_cell BR3.out 5).trans rfl
        have hr6 : wr.cell? ⟨gr, 6, none⟩ = some (.slice none 0 0) := (blk_cell BR3.out 6).trans rfl
        have hg0 := blk_frozen BR3.out 0
        have hg1 := blk_frozen BR3.out 1
        have hg2 := blk_frozen BR3.out 2
        have hg3 := blk_frozen BR3.out 3
        have hg4 := blk_frozen BR3.out 4
        have hg5 := blk_frozen BR3.out 5
        have hg6 := blk_frozen BR3.out 6
        go_wp2_with (first | (go_at_call 34; (go_must (refine (wire_TakeInt.calls k _ _ bs v n f _ (Kd.C_below HX.out.1 HB3.out) HX.out.2 HCS.out).mono ?_)); rintro e w5 ⟨rfl, ⟨nd, rfl⟩⟩))
        refine bodyPost_ret (results_ct rfl _ _ gr 24 #[.int .i64 0, .int .i64 0, .int .i64 0, .int .i64 0, .int .i64 0, .int .i64 0, .slice none 0 0] (0, 0) _ rfl (blk_put (blk_put (blk_put (blk_put (blk_put (blk_put (blk_put (blk_drewN BR3.out nd) 0 _ rfl) 1 _ rfl) 2 _ rfl) 3 _ rfl) 4 _ rfl) 5 _ rfl) 6 _ rfl) hu24 rfl (by kernel_rfl)) rfl ?_
        exact ⟨_, rfl, Kd.R_nil _ _ _ _ _, (below_set (below_set (below_set (below_set (below_set (below_set (below_set (pw_below_drewN HB3.out nd) GR.out) GR.out) GR.out) GR.out) GR.out) GR.out) GR.out)⟩
    · have c4b : decide ((i : Int) < 6) = false := decide_eq_false (by omega)
      obtain ⟨⟨ls, n, f⟩, hcs, hcr⟩ := Option.bind_eq_some_iff.mp (show (wire_TakeList.f k bs 32).bind (fun t => if t.2.2 = 0 then (if t.2.1 < (bs.length : Int) then some (0, 0, 0, 0, 0, 0, [], 3) else (journal_Check.f k x0 x1 x2 x3 x4 x5 t.1).bind fun f => if f = 0 then some (x0, x1, x2, x3, x4, x5, t.1, 0) else some (0, 0, 0, 0, 0, 0, [], f)) else some (0, 0, 0, 0, 0, 0, [], t.2.2)) = some (r1, r2, r3, r4, r5, r6, r7, r8) by
        have hq := HQ.out
        rw [show 6 - i = 0 by omega] at hq
        exact hq)
      have HCS := Aside0.mk hcs
      by_cases cf : f = 0
      · subst cf
        simp only [if_true] at hcr
        by_cases cn : n < (bs.length : Int)
        · rw [if_pos cn] at hcr
          injection hcr with hcr
          injection hcr with e1 hcr
          injection hcr with e2 hcr
          injection hcr with e3 hcr
          injection hcr with e4 hcr
          injection hcr with e5 hcr
          injection hcr with e6 hcr
          injection hcr with e7 e8
          subst e1 e2 e3 e4 e5 e6 e7 e8
          have cnb : decide (n < (bs.length : Int)) = true := decide_eq_true cn
          clear hcs cn
          go_wp2_with (first | (go_at_call 35; (go_must (refine (wire_TakeList.calls k _ _ bs 32 ls n 0 _ (Kd.C_below HX.out.1 HB3.out) HX.out.2 HCS.out).mono ?_)); rintro e w5 ⟨v5, rfl, ho, hb⟩; obtain ⟨Ao, co, eo⟩ := Kd.R_slice ho; subst eo; have HO5 := Aside0.mk (Kd.R_lower (Kd.R_mono (ok' := fun k => k ≠ gr ∧ k ≠ ge) (Kd.R_bound ho) (fun k hk => ⟨fun e => (by have h1 := blk_lt BR3.out; have h2 := hk.2.1; omega), fun e => (by have h1 := blk_lt BE3.out; have h2 := hk.2.1; omega)⟩)) (below_size HB3.out)); have BR5 := Aside0.mk (blk_below BR3.out hb); have BE5 := Aside0.mk (blk_below BE3.out hb); have HB5 := Aside0.mk (below_step HB3.out hb); clear hb ho; have hr0 : w5.cell? ⟨gr, 0, none⟩ = some (.int .i64 0) := (blk_cell BR5.out 0).trans rfl; have hr1 : w5.cell? ⟨gr, 1, none⟩ = some (.int .i64 0) := (blk_cell BR5.out 1).trans rfl; have hr2 : w5.cell? ⟨gr, 2, none⟩ = some (.int .i64 0) := (blk_cell BR5.out 2).trans rfl; have hr3 : w5.cell? ⟨gr, 3, none⟩ = some (.int .i64 0) := (blk_cell BR5.out 3).trans rfl; have hr4 : w5.cell? ⟨gr, 4, none⟩ = some (.int .i64 0) := (blk_cell BR5.out 4).trans rfl; have hr5 : w5.cell? ⟨gr, 5, none⟩ = some (.int .i64 0) := (blk_cell BR5.out 5).trans rfl; have hr6 : w5.cell? ⟨gr, 6, none⟩ = some (.slice none 0 0) := (blk_cell BR5.out 6).trans rfl; have hg0 := blk_frozen BR5.out 0; have hg1 := blk_frozen BR5.out 1; have hg2 := blk_frozen BR5.out 2; have hg3 := blk_frozen BR5.out 3; have hg4 := blk_frozen BR5.out 4; have hg5 := blk_frozen BR5.out 5; have hg6 := blk_frozen BR5.out 6))
          refine bodyPost_ret (results_ct rfl _ _ gr 24 #[.int .i64 0, .int .i64 0, .int .i64 0, .int .i64 0, .int .i64 0, .int .i64 0, .slice none 0 0] (0, 0) _ rfl (blk_put (blk_put (blk_put (blk_put (blk_put (blk_put (blk_put BR5.out 0 _ rfl) 1 _ rfl) 2 _ rfl) 3 _ rfl) 4 _ rfl) 5 _ rfl) 6 _ rfl) hu24 rfl (by kernel_rfl)) rfl ?_
          exact ⟨_, rfl, Kd.R_nil _ _ _ _ _, (below_set (below_set (below_set (below_set (below_set (below_set (below_set HB5.out GR.out) GR.out) GR.out) GR.out) GR.out) GR.out) GR.out)⟩
        · rw [if_neg cn] at hcr
          have cnb : decide (n < (bs.length : Int)) = false := decide_eq_false cn
          obtain ⟨f1, hk, hcr⟩ := Option.bind_eq_some_iff.mp hcr
          have HK := Aside0.mk hk
          clear hcs cn hk
          by_cases cg : f1 = 0
          · subst cg
            simp only [if_true] at hcr
            injection hcr with hcr
            injection hcr with e1 hcr
            injection hcr with e2 hcr
            injection hcr with e3 hcr
            injection hcr with e4 hcr
            injection hcr with e5 hcr
            injection hcr with e6 hcr
            injection hcr with e7 e8
            subst e1 e2 e3 e4 e5 e6 e7 e8
            go_wp2_with (first | (go_at_call 35; (go_must (refine (wire_TakeList.calls k _ _ bs 32 ls n 0 _ (Kd.C_below HX.out.1 HB3.out) HX.out.2 HCS.out).mono ?_)); rintro e w5 ⟨v5, rfl, ho, hb⟩; obtain ⟨Ao, co, eo⟩ := Kd.R_slice ho; subst eo; have HO5 := Aside0.mk (Kd.R_lower (Kd.R_mono (ok' := fun k => k ≠ gr ∧ k ≠ ge) (Kd.R_bound ho) (fun k hk => ⟨fun e => (by have h1 := blk_lt BR3.out; have h2 := hk.2.1; omega), fun e => (by have h1 := blk_lt BE3.out; have h2 := hk.2.1; omega)⟩)) (below_size HB3.out)); have BR5 := Aside0.mk (blk_below BR3.out hb); have BE5 := Aside0.mk (blk_below BE3.out hb); have HB5 := Aside0.mk (below_step HB3.out hb); clear hb ho; have he0 := (blk_cell BE5.out 0).trans rfl; have he1 := (blk_cell BE5.out 1).trans rfl; have he2 := (blk_cell BE5.out 2).trans rfl; have he3 := (blk_cell BE5.out 3).trans rfl; have he4 := (blk_cell BE5.out 4).trans rfl; have he5 := (blk_cell BE5.out 5).trans rfl; have he6 := (blk_cell BE5.out 6).trans rfl; have hf0 := blk_frozen BE5.out 0; have hf1 := blk_frozen BE5.out 1; have hf2 := blk_frozen BE5.out 2; have hf3 := blk_frozen BE5.out 3; have hf4 := blk_frozen BE5.out 4; have hf5 := blk_frozen BE5.out 5; have hf6 := blk_frozen BE5.out 6) | (go_at_call 15; (go_must (refine (journal_Check.calls k x0 x1 x2 x3 x4 x5 _ _ ls 0 _ (Kd.R_reads' (Kd.R_far HO5.out (p := ⟨ge, 6, none⟩) (fun k hk => hk.2) _)).2.2 (Kd.R_reads' HO5.out).2.1 HK.out).mono ?_)); rintro e w6 ⟨rfl, hb⟩; have HO6 := Aside0.mk (Kd.R_below (Kd.R_far HO5.out (p := ⟨ge, 6, none⟩) (fun k hk => hk.2) _) hb); have BR6 := Aside0.mk (blk_below (blk_far BR5.out NE.out _) hb); have BE6 := Aside0.mk (blk_below (blk_put BE5.out 6 _ rfl) hb); have HB6 := Aside0.mk (below_step (below_set HB5.out GE.out) hb); clear hb he0 he1 he2 he3 he4 he5 he6 hf0 hf1 hf2 hf3 hf4 hf5 hf6; have hr0 : w6.cell? ⟨gr, 0, none⟩ = some (.int .i64 0) := (blk_cell BR6.out 0).trans rfl; have hr1 : w6.cell? ⟨gr, 1, none⟩ = some (.int .i64 0) := (blk_cell BR6.out 1).trans rfl; have hr2 : w6.cell? ⟨gr, 2, none⟩ = some (.int .i64 0) := (blk_cell BR6.out 2).trans rfl; have hr3 : w6.cell? ⟨gr, 3, none⟩ = some (.int .i64 0) := (blk_cell BR6.out 3).trans rfl; have hr4 : w6.cell? ⟨gr, 4, none⟩ = some (.int .i64 0) := (blk_cell BR6.out 4).trans rfl; have hr5 : w6.cell? ⟨gr, 5, none⟩ = some (.int .i64 0) := (blk_cell BR6.out 5).trans rfl; have hr6 : w6.cell? ⟨gr, 6, none⟩ = some (.slice none 0 0) := (blk_cell BR6.out 6).trans rfl; have hg0 := blk_frozen BR6.out 0; have hg1 := blk_frozen BR6.out 1; have hg2 := blk_frozen BR6.out 2; have hg3 := blk_frozen BR6.out 3; have hg4 := blk_frozen BR6.out 4; have hg5 := blk_frozen BR6.out 5; have hg6 := blk_frozen BR6.out 6; have he0 : w6.cell? ⟨ge, 0, none⟩ = some (.int .i64 x0) := (blk_cell BE6.out 0).trans rfl; have he1 : w6.cell? ⟨ge, 1, none⟩ = some (.int .i64 x1) := (blk_cell BE6.out 1).trans rfl; have he2 : w6.cell? ⟨ge, 2, none⟩ = some (.int .i64 x2) := (blk_cell BE6.out 2).trans rfl; have he3 : w6.cell? ⟨ge, 3, none⟩ = some (.int .i64 x3) := (blk_cell BE6.out 3).trans rfl; have he4 : w6.cell? ⟨ge, 4, none⟩ = some (.int .i64 x4) := (blk_cell BE6.out 4).trans rfl; have he5 : w6.cell? ⟨ge, 5, none⟩ = some (.int .i64 x5) := (blk_cell BE6.out 5).trans rfl; have he6 : w6.cell? ⟨ge, 6, none⟩ = some (.slice Ao ls.length co) := (blk_cell BE6.out 6).trans rfl))
            refine bodyPost_ret (results_ct rfl _ _ gr 24 #[.int .i64 x0, .int .i64 x1, .int .i64 x2, .int .i64 x3, .int .i64 x4, .int .i64 x5, .slice Ao ls.length co] (0, 0) _ rfl (blk_put (blk_put (blk_put (blk_put (blk_put (blk_put (blk_put BR6.out 0 _ rfl) 1 _ rfl) 2 _ rfl) 3 _ rfl) 4 _ rfl) 5 _ rfl) 6 _ rfl) hu24 rfl (by kernel_rfl)) rfl ?_
            exact ⟨_, rfl, Kd.R_mono (Kd.R_far (Kd.R_far (Kd.R_far (Kd.R_far (Kd.R_far (Kd.R_far (Kd.R_far HO6.out (fun k hk => hk.1) _) (fun k hk => hk.1) _) (fun k hk => hk.1) _) (fun k hk => hk.1) _) (fun k hk => hk.1) _) (fun k hk => hk.1) _) (fun k hk => hk.1) _) (fun _ _ => trivial), (below_set (below_set (below_set (below_set (below_set (below_set (below_set HB6.out GR.out) GR.out) GR.out) GR.out) GR.out) GR.out) GR.out)⟩
          · simp only [if_neg cg] at hcr
            injection hcr with hcr
            injection hcr with e1 hcr
            injection hcr with e2 hcr
            injection hcr with e3 hcr
            injection hcr with e4 hcr
            injection hcr with e5 hcr
            injection hcr with e6 hcr
            injection hcr with e7 e8
            subst e1 e2 e3 e4 e5 e6 e7 e8
            have cgb : (f1 != 0) = true := bne_iff_ne.mpr cg
            clear cg
            go_wp2_with (first | (go_at_call 35; (go_must (refine (wire_TakeList.calls k _ _ bs 32 ls n 0 _ (Kd.C_below HX.out.1 HB3.out) HX.out.2 HCS.out).mono ?_)); rintro e w5 ⟨v5, rfl, ho, hb⟩; obtain ⟨Ao, co, eo⟩ := Kd.R_slice ho; subst eo; have HO5 := Aside0.mk (Kd.R_lower (Kd.R_mono (ok' := fun k => k ≠ gr ∧ k ≠ ge) (Kd.R_bound ho) (fun k hk => ⟨fun e => (by have h1 := blk_lt BR3.out; have h2 := hk.2.1; omega), fun e => (by have h1 := blk_lt BE3.out; have h2 := hk.2.1; omega)⟩)) (below_size HB3.out)); have BR5 := Aside0.mk (blk_below BR3.out hb); have BE5 := Aside0.mk (blk_below BE3.out hb); have HB5 := Aside0.mk (below_step HB3.out hb); clear hb ho; have he0 := (blk_cell BE5.out 0).trans rfl; have he1 := (blk_cell BE5.out 1).trans rfl; have he2 := (blk_cell BE5.out 2).trans rfl; have he3 := (blk_cell BE5.out 3).trans rfl; have he4 := (blk_cell BE5.out 4).trans rfl; have he5 := (blk_cell BE5.out 5).trans rfl; have he6 := (blk_cell BE5.out 6).trans rfl; have hf0 := blk_frozen BE5.out 0; have hf1 := blk_frozen BE5.out 1; have hf2 := blk_frozen BE5.out 2; have hf3 := blk_frozen BE5.out 3; have hf4 := blk_frozen BE5.out 4; have hf5 := blk_frozen BE5.out 5; have hf6 := blk_frozen BE5.out 6) | (go_at_call 15; (go_must (refine (journal_Check.calls k x0 x1 x2 x3 x4 x5 _ _ ls f1 _ (Kd.R_reads' (Kd.R_far HO5.out (p := ⟨ge, 6, none⟩) (fun k hk => hk.2) _)).2.2 (Kd.R_reads' HO5.out).2.1 HK.out).mono ?_)); rintro e w6 ⟨rfl, hb⟩; have HO6 := Aside0.mk (Kd.R_below (Kd.R_far HO5.out (p := ⟨ge, 6, none⟩) (fun k hk => hk.2) _) hb); have BR6 := Aside0.mk (blk_below (blk_far BR5.out NE.out _) hb); have BE6 := Aside0.mk (blk_below (blk_put BE5.out 6 _ rfl) hb); have HB6 := Aside0.mk (below_step (below_set HB5.out GE.out) hb); clear hb he0 he1 he2 he3 he4 he5 he6 hf0 hf1 hf2 hf3 hf4 hf5 hf6; have hr0 : w6.cell? ⟨gr, 0, none⟩ = some (.int .i64 0) := (blk_cell BR6.out 0).trans rfl; have hr1 : w6.cell? ⟨gr, 1, none⟩ = some (.int .i64 0) := (blk_cell BR6.out 1).trans rfl; have hr2 : w6.cell? ⟨gr, 2, none⟩ = some (.int .i64 0) := (blk_cell BR6.out 2).trans rfl; have hr3 : w6.cell? ⟨gr, 3, none⟩ = some (.int .i64 0) := (blk_cell BR6.out 3).trans rfl; have hr4 : w6.cell? ⟨gr, 4, none⟩ = some (.int .i64 0) := (blk_cell BR6.out 4).trans rfl; have hr5 : w6.cell? ⟨gr, 5, none⟩ = some (.int .i64 0) := (blk_cell BR6.out 5).trans rfl; have hr6 : w6.cell? ⟨gr, 6, none⟩ = some (.slice none 0 0) := (blk_cell BR6.out 6).trans rfl; have hg0 := blk_frozen BR6.out 0; have hg1 := blk_frozen BR6.out 1; have hg2 := blk_frozen BR6.out 2; have hg3 := blk_frozen BR6.out 3; have hg4 := blk_frozen BR6.out 4; have hg5 := blk_frozen BR6.out 5; have hg6 := blk_frozen BR6.out 6))
            refine bodyPost_ret (results_ct rfl _ _ gr 24 #[.int .i64 0, .int .i64 0, .int .i64 0, .int .i64 0, .int .i64 0, .int .i64 0, .slice none 0 0] (0, 0) _ rfl (blk_put (blk_put (blk_put (blk_put (blk_put (blk_put (blk_put BR6.out 0 _ rfl) 1 _ rfl) 2 _ rfl) 3 _ rfl) 4 _ rfl) 5 _ rfl) 6 _ rfl) hu24 rfl (by kernel_rfl)) rfl ?_
            exact ⟨_, rfl, Kd.R_nil _ _ _ _ _, (below_set (below_set (below_set (below_set (below_set (below_set (below_set HB6.out GR.out) GR.out) GR.out) GR.out) GR.out) GR.out) GR.out)⟩
      · simp only [if_neg cf] at hcr
        injection hcr with hcr
        injection hcr with e1 hcr
        injection hcr with e2 hcr
        injection hcr with e3 hcr
        injection hcr with e4 hcr
        injection hcr with e5 hcr
        injection hcr with e6 hcr
        injection hcr with e7 e8
        subst e1 e2 e3 e4 e5 e6 e7 e8
        have cfb : (f != 0) = true := bne_iff_ne.mpr cf
        clear hcs cf
        go_wp2_with (first | (go_at_call 35; (go_must (refine (wire_TakeList.calls k _ _ bs 32 ls n f _ (Kd.C_below HX.out.1 HB3.out) HX.out.2 HCS.out).mono ?_)); rintro e w5 ⟨v5, rfl, ho, hb⟩; obtain ⟨Ao, co, eo⟩ := Kd.R_slice ho; subst eo; have HO5 := Aside0.mk (Kd.R_lower (Kd.R_mono (ok' := fun k => k ≠ gr ∧ k ≠ ge) (Kd.R_bound ho) (fun k hk => ⟨fun e => (by have h1 := blk_lt BR3.out; have h2 := hk.2.1; omega), fun e => (by have h1 := blk_lt BE3.out; have h2 := hk.2.1; omega)⟩)) (below_size HB3.out)); have BR5 := Aside0.mk (blk_below BR3.out hb); have BE5 := Aside0.mk (blk_below BE3.out hb); have HB5 := Aside0.mk (below_step HB3.out hb); clear hb ho; have hr0 : w5.cell? ⟨gr, 0, none⟩ = some (.int .i64 0) := (blk_cell BR5.out 0).trans rfl; have hr1 : w5.cell? ⟨gr, 1, none⟩ = some (.int .i64 0) := (blk_cell BR5.out 1).trans rfl; have hr2 : w5.cell? ⟨gr, 2, none⟩ = some (.int .i64 0) := (blk_cell BR5.out 2).trans rfl; have hr3 : w5.cell? ⟨gr, 3, none⟩ = some (.int .i64 0) := (blk_cell BR5.out 3).trans rfl; have hr4 : w5.cell? ⟨gr, 4, none⟩ = some (.int .i64 0) := (blk_cell BR5.out 4).trans rfl; have hr5 : w5.cell? ⟨gr, 5, none⟩ = some (.int .i64 0) := (blk_cell BR5.out 5).trans rfl; have hr6 : w5.cell? ⟨gr, 6, none⟩ = some (.slice none 0 0) := (blk_cell BR5.out 6).trans rfl; have hg0 := blk_frozen BR5.out 0; have hg1 := blk_frozen BR5.out 1; have hg2 := blk_frozen BR5.out 2; have hg3 := blk_frozen BR5.out 3; have hg4 := blk_frozen BR5.out 4; have hg5 := blk_frozen BR5.out 5; have hg6 := blk_frozen BR5.out 6))
        refine bodyPost_ret (results_ct rfl _ _ gr 24 #[.int .i64 0, .int .i64 0, .int .i64 0, .int .i64 0, .int .i64 0, .int .i64 0, .slice none 0 0] (0, 0) _ rfl (blk_put (blk_put (blk_put (blk_put (blk_put (blk_put (blk_put BR5.out 0 _ rfl) 1 _ rfl) 2 _ rfl) 3 _ rfl) 4 _ rfl) 5 _ rfl) 6 _ rfl) hu24 rfl (by kernel_rfl)) rfl ?_
        exact ⟨_, rfl, Kd.R_nil _ _ _ _ _, (below_set (below_set (below_set (below_set (below_set (below_set (below_set HB5.out GR.out) GR.out) GR.out) GR.out) GR.out) GR.out) GR.out)⟩

/-! ### papermillref61_SameOne: function 20 -/
def papermillref61_SameOne.f (k : Nat) (x0 x1 x2 x3 x4 x5 : Int) (l : List Int) (y0 y1 y2 y3 y4 y5 : Int) (m : List Int) : Option Bool := if x0 = y0 ∧ x1 = y1 ∧ x2 = y2 ∧ x3 = y3 ∧ x4 = y4 ∧ x5 = y5 ∧ l = m ∧ l.length ≤ 1000000 then some true else none
theorem papermillref61_SameOne.mono (x0 x1 x2 x3 x4 x5 : Int) (l : List Int) (y0 y1 y2 y3 y4 y5 : Int) (m : List Int) (k : Nat) : LeO (papermillref61_SameOne.f k x0 x1 x2 x3 x4 x5 l y0 y1 y2 y3 y4 y5 m) (papermillref61_SameOne.f (k + 1) x0 x1 x2 x3 x4 x5 l y0 y1 y2 y3 y4 y5 m) := LeO.refl _
set_option maxHeartbeats 4000000 in
set_option maxRecDepth 100000 in
theorem papermillref61_SameOne.equal (x0 x1 x2 x3 x4 x5 : Int) (A0 : Option Addr) (c0 : Nat) (l : List Int) (A1 : Option Addr) (c1 : Nat) (w : World) (hr0 : Kd.C (Kd.int .i64) w A0 l.length l) (hr1 : Kd.C (Kd.int .i64) w A1 l.length l) (hl : l.length ≤ 1000000) :
    Calls Tryd.prog 20 #[.agg #[.int .i64 x0, .int .i64 x1, .int .i64 x2, .int .i64 x3, .int .i64 x4, .int .i64 x5, .slice A0 l.length c0], .agg #[.int .i64 x0, .int .i64 x1, .int .i64 x2, .int .i64 x3, .int .i64 x4, .int .i64 x5, .slice A1 l.length c1]] w fun e w' => e = .returned (.bool true) ∧ Below w.heap.size w w' := by
  have hu24 := Tryd.underlying24
  have HR0 := Aside0.mk hr0
  have HR1 := Aside0.mk hr1
  clear hr0 hr1
  go_enter Tryd.func20, Tryd.ntmps20
  go_wp2_with (first
    | ((with_reducible refine gate_dst (N := 2) rfl ?_); (go_must (refine box_event ?hg (N := 2) ?hd (cs := #[.int .i64 x0, .int .i64 x1, .int .i64 x2, .int .i64 x3, .int .i64 x4, .int .i64 x5, .slice A0 l.length c0]) (t := 24) ?hr ?_)); (case hd => rfl); (case hg => rfl); (case hr => first | (go_simp; done) | (go_simp; rfl)); intro ga hg w2 hbox hb; have BA := Aside0.mk hbox; have HB1 := Aside0.mk hb; clear hbox hb hg)
    | ((with_reducible refine gate_dst (N := 3) rfl ?_); (go_must (refine box_event ?hg (N := 3) ?hd (cs := #[.int .i64 x0, .int .i64 x1, .int .i64 x2, .int .i64 x3, .int .i64 x4, .int .i64 x5, .slice A1 l.length c1]) (t := 24) ?hr ?_)); (case hd => rfl); (case hg => rfl); (case hr => first | (go_simp; done) | (go_simp; rfl)); intro gb hg w3 hbox hb; have BA3 := Aside0.mk (blk_below BA.out hb); have BB3 := Aside0.mk hbox; have HB3 := Aside0.mk (below_step HB1.out hb); clear BA HB1; have ha0 : w3.cell? ⟨ga, 0, none⟩ = some (.int .i64 x0) := (blk_cell BA3.out 0).trans rfl; have hb0 : w3.cell? ⟨gb, 0, none⟩ = some (.int .i64 x0) := (blk_cell BB3.out 0).trans rfl; have ha1 : w3.cell? ⟨ga, 1, none⟩ = some (.int .i64 x1) := (blk_cell BA3.out 1).trans rfl; have hb1 : w3.cell? ⟨gb, 1, none⟩ = some (.int .i64 x1) := (blk_cell BB3.out 1).trans rfl; have ha2 : w3.cell? ⟨ga, 2, none⟩ = some (.int .i64 x2) := (blk_cell BA3.out 2).trans rfl; have hb2 : w3.cell? ⟨gb, 2, none⟩ = some (.int .i64 x2) := (blk_cell BB3.out 2).trans rfl; have ha3 : w3.cell? ⟨ga, 3, none⟩ = some (.int .i64 x3) := (blk_cell BA3.out 3).trans rfl; have hb3 : w3.cell? ⟨gb, 3, none⟩ = some (.int .i64 x3) := (blk_cell BB3.out 3).trans rfl; have ha4 : w3.cell? ⟨ga, 4, none⟩ = some (.int .i64 x4) := (blk_cell BA3.out 4).trans rfl; have hb4 : w3.cell? ⟨gb, 4, none⟩ = some (.int .i64 x4) := (blk_cell BB3.out 4).trans rfl; have ha5 : w3.cell? ⟨ga, 5, none⟩ = some (.int .i64 x5) := (blk_cell BA3.out 5).trans rfl; have hb5 : w3.cell? ⟨gb, 5, none⟩ = some (.int .i64 x5) := (blk_cell BB3.out 5).trans rfl; have ha6 : w3.cell? ⟨ga, 6, none⟩ = some (.slice A0 l.length c0) := (blk_cell BA3.out 6).trans rfl; have hb6 : w3.cell? ⟨gb, 6, none⟩ = some (.slice A1 l.length c1) := (blk_cell BB3.out 6).trans rfl; clear hbox hb hg))
  go_loopg [5] l.length (fun kq v5 w' => ∃ i : Nat, v5 = .int .i64 (i : Int) ∧ Aside0 (kq + i = l.length) ∧ Aside0 (∃ n, w' = w3.drewN n))
  case atStart => exact ⟨0, rfl, ⟨rfl⟩, ⟨0, rfl⟩⟩
  case round =>
    obtain ⟨i, rfl, HI, HW⟩ := hrel
    obtain ⟨n, rfl⟩ := HW.out
    clear HW
    by_cases c4 : i < l.length
    · have c4b : decide ((i : Int) < (l.length : Int)) = true := decide_eq_true (by omega)
      have c4c : decide (i < l.length) = true := decide_eq_true c4
      obtain ⟨ad, e1, hx⟩ := Kd.at_int HR0.out (i : Int) (by omega) (by omega)
      obtain ⟨ae, e2, hy⟩ := Kd.at_int HR1.out (i : Int) (by omega) (by omega)
      subst e1 e2
      rw [Int.toNat_natCast] at hx hy
      replace hx := (HB3.out.cell (World.block_lt_of_cell? w _ hx)).trans hx
      replace hy := (HB3.out.cell (World.block_lt_of_cell? w _ hy)).trans hy
      generalize rd l (i : Int) = v at *
      have p1 : 0 ≤ (i : Int) := by omega
      have p2 : (i : Int) < (l.length : Int) := by omega
      go_wp2
      go_quiet (fail)
      go_wp2
      go_roundg (l.length - (i + 1))
      case measure => have := HI.out; omega
      case rel => exact ⟨i + 1, rfl, ⟨by have := HI.out; omega⟩, ⟨_, rfl⟩⟩
    · have c4b : decide ((i : Int) < (l.length : Int)) = false := decide_eq_false (by omega)
      have c4c : decide (i < l.length) = false := decide_eq_false c4
      go_wp2
      go_ret
      exact ⟨rfl, pw_below_drewN HB3.out _⟩
theorem papermillref61_SameOne.calls (k : Nat) (x0 x1 x2 x3 x4 x5 : Int) (A0 : Option Addr) (c0 : Nat) (l : List Int) (y0 y1 y2 y3 y4 y5 : Int) (A1 : Option Addr) (c1 : Nat) (m : List Int) (r : Bool) (w : World) (hr0 : Kd.C (Kd.int .i64) w A0 l.length l) (hc0 : l.length ≤ c0) (hr1 : Kd.C (Kd.int .i64) w A1 m.length m) (hc1 : m.length ≤ c1) (h : papermillref61_SameOne.f k x0 x1 x2 x3 x4 x5 l y0 y1 y2 y3 y4 y5 m = some r) :
    Calls Tryd.prog 20 #[.agg #[.int .i64 x0, .int .i64 x1, .int .i64 x2, .int .i64 x3, .int .i64 x4, .int .i64 x5, .slice A0 l.length c0], .agg #[.int .i64 y0, .int .i64 y1, .int .i64 y2, .int .i64 y3, .int .i64 y4, .int .i64 y5, .slice A1 m.length c1]] w fun e w' => e = .returned (.bool r) ∧ Below w.heap.size w w' := by
  unfold papermillref61_SameOne.f at h
  split at h
  · rename_i hc
    obtain ⟨rfl, rfl, rfl, rfl, rfl, rfl, rfl, hl⟩ := hc
    injection h with h
    subst h
    exact papermillref61_SameOne.equal x0 x1 x2 x3 x4 x5 A0 c0 l A1 c1 w hr0 hr1 hl
  · cases h

/-! ### crc_Extend: function 50 -/
def crc_Extend.f (sum : Int) (l1 : List Int) : Option Int := if l1.length ≤ 17592186044416 then some (Go.bits .xor .u32 IntKind.u32.max (crcRun (Go.bits .xor .u32 IntKind.u32.max sum) l1)) else none
set_option maxHeartbeats 4000000 in
theorem crc_Extend.calls (a0 : Int) (A1 : Option Addr) (c1 : Nat) (l1 : List Int) (r : Int) (w : World) (hr1 : Kd.C (Kd.int .u8) w A1 l1.length l1) (hc1 : l1.length ≤ c1) (hT : Kd.C (Kd.int .u32) w TabA crcTab.length crcTab) (h : crc_Extend.f a0 l1 = some r) :
    Calls Tryd.prog 50 #[.int .u32 a0, .slice A1 l1.length c1] w fun e w' => e = .returned (.int .u32 r) ∧ Drawn0 w w' := by
  have HR1 := Aside0.mk hr1
  have HC1 := Aside0.mk hc1
  have HT := Aside0.mk hT
  clear hr1 hc1 hT
  unfold crc_Extend.f at h
  split at h
  case isFalse => cases h
  rename_i hlen
  injection h with h
  have HLEN := Aside0.mk hlen
  have H := Aside0.mk h
  clear h hlen
  have hs32 : IntKind.u32.signed = false := rfl
  go_enter Tryd.func50, Tryd.ntmps50
  go_wp2
  repeat (go_quiet (fail); try go_wp2)
  go_loopg [5, 12] l1.length (fun kq v5 v12 w' => ∃ (X : Int) (k : Int), v5 = .int .u32 X ∧ v12 = .int .i64 k ∧ Aside0 (0 ≤ k ∧ k ≤ l1.length) ∧ Aside0 (kq = l1.length - k.toNat) ∧ Aside0 (crcRun (Go.bits .xor .u32 IntKind.u32.max a0) l1 = crcRun X (l1.drop k.toNat)) ∧ Drawn0 w w')
  case atStart => exact ⟨_, 0, rfl, rfl, ⟨by omega⟩, ⟨by simp⟩, ⟨by simp⟩, Drawn0.refl _⟩
  case round =>
    obtain ⟨X, k, rfl, rfl, HK, HG, HX, ⟨m1, rfl⟩⟩ := hrel
    by_cases c4 : k < (l1.length : Int)
    · have c4b0 : decide (k < (l1.length : Int)) = true := decide_eq_true c4
      have p138 : 0 ≤ k := HK.out.1
      obtain ⟨ad138, e138, hx138_0⟩ := Kd.at_int HR1.out k p138 c4
      cases e138
      replace p138 := eq_true p138
      replace c4 := eq_true c4
      have t1 := crcAnd15 (Go.bits .xor .u32 X (rd l1 k % 4294967296))
      have t2 := crcAnd15 (crcNib (Go.bits .xor .u32 X (rd l1 k % 4294967296)))
      obtain ⟨ad1, e1, hx1⟩ := Kd.at_int HT.out _ t1.1 t1.2
      obtain ⟨ad2, e2, hx2⟩ := Kd.at_int HT.out _ t2.1 t2.2
      obtain rfl : ad1 = ⟨0, 0, none⟩ := (Option.some.inj e1).symm
      obtain rfl : ad2 = ⟨0, 0, none⟩ := (Option.some.inj e2).symm
      clear e1 e2
      obtain ⟨t1a, t1b⟩ := t1
      obtain ⟨t2a, t2b⟩ := t2
      unfold crcNib at hx2 t2a t2b
      replace t1a := eq_true t1a
      replace t1b := eq_true t1b
      replace t2a := eq_true t2a
      replace t2b := eq_true t2b
      rw [add_zero_] at hx1 hx2
      go_wp2
      have hk0 := HK.out
      have hl0 := HLEN.out
      have c4' : k < (l1.length : Int) := of_eq_true c4
      have hgk := HG.out
      go_roundg (l1.length - (k.toNat + 1))
      case measure => omega
      case rel =>
        refine ⟨_, wrap64 (k + 1), rfl, rfl, ⟨by unfold wrap64; omega⟩, ⟨by unfold wrap64; omega⟩, ⟨?_⟩, by repeat (first | exact Drawn0.refl _ | apply Drawn0.step)⟩
        rw [HX.out, show (wrap64 (k + 1)).toNat = k.toNat + 1 by unfold wrap64; omega, crcDrop l1 k hk0.1 c4']
        simp only [crcRun, List.foldl_cons, crcByte, crcNib]
    · have c4b0 : decide (k < (l1.length : Int)) = false := decide_eq_false c4
      have hk0 := HK.out
      have hX := HX.out
      rw [List.drop_eq_nil_of_le (by omega)] at hX
      have HX' : Aside0 (Go.bits .xor .u32 IntKind.u32.max X = r) := ⟨by rw [← H.out, hX]; simp [crcRun]⟩
      clear hX
      go_wp2
      repeat (go_quiet (fail); try go_wp2)
      go_ret
      exact ⟨by simp; exact HX'.out, by repeat (first | exact Drawn0.refl _ | apply Drawn0.step)⟩

end Go.Proofs.YtpcicooogiialaaDoor.PX
