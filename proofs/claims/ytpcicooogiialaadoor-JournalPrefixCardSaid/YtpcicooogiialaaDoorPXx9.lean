-- Written by a program of this session (hyb.py), which runs the print over the translation with contracts of its own added; it is not the print itself. Lean checks it.
import Derived.Test.YtpcicooogiialaaDoorPXx0
import Derived.Test.YtpcicooogiialaaDoorPXx1
import Derived.Test.YtpcicooogiialaaDoorPXx7
import Derived.Test.YtpcicooogiialaaDoorPXx8
namespace Go.Proofs.YtpcicooogiialaaDoor.PX
open Go.RowKit Go.Proofs.YtpcicooogiialaaDoorW.PrintWords Go.Proofs.YtpcicooogiialaaDoorW.PrintLast Go.Proofs.YtpcicooogiialaaDoorW.PrintMore
attribute [local go_sem] max2_int min2_int max_two min_two max_three min_three max_four min_four   -- for this text's walks alone
set_option linter.unusedVariables false
set_option linter.unusedSimpArgs false

/-! ### papermilllaw61_JournalPrefix: function 7 -/
def papermilllaw61_JournalPrefix.l0 : Nat → List Int → List (S24) → List Int → Int → Int → Int → Option (Bool)
  | 0, _, _, _, _, _, _ => none
  | k + 1, x5, x6, x7, x8, x9, x10 => if x9 < (x7.length : Int) then (if 0 ≤ x9 then (if (rd x7 x9) ≤ x8 then (papermilllaw61_JournalPrefix.l0 k x5 x6 x7 x8 (wrap64 (x9 + 1)) (rd x7 x9)) else (if 0 ≤ x8 then (if x8 ≤ (x5.length : Int) then ((journal_Recover.f k (x5.take (x8 : Int).toNat)).bind fun bt300 => (if x9 ≤ (x6.length : Int) then ((papermillref61_Same.f k bt300.1 (x6.take (x9 : Int).toNat)).bind fun t309 => (if t309 = true then (if bt300.2 = x10 then ((papermilllaw61_awake.f k).bind fun t310 => (some t310)) else (some false)) else (some false))) else (none))) else (none)) else (none))) else (none)) else (if 0 ≤ x8 then (if x8 ≤ (x5.length : Int) then ((journal_Recover.f k (x5.take (x8 : Int).toNat)).bind fun bt316 => (if 0 ≤ x9 then (if x9 ≤ (x6.length : Int) then ((papermillref61_Same.f k bt316.1 (x6.take (x9 : Int).toNat)).bind fun t325 => (if t325 = true then (if bt316.2 = x10 then ((papermilllaw61_awake.f k).bind fun t326 => (some t326)) else (some false)) else (some false))) else (none)) else (none))) else (none)) else (none))
def papermilllaw61_JournalPrefix.f (k : Nat) (l0 : List (S24)) (a1 : Int) : Option (Bool) := (papermilllaw61_great.f k l0).bind fun t282 => (if t282 = true then ((papermilllaw61_awake.f k).bind fun t283 => (some t283)) else ((papermilllaw61_appended.f k l0).bind fun bt284 => (if (wrap64 ((bt284.1.length : Int) + 1)) = 0 then (none) else (papermilllaw61_JournalPrefix.l0 k bt284.1 bt284.2.1 bt284.2.2 (Int.tmod (wrap64 (a1)) (wrap64 ((bt284.1.length : Int) + 1))) 0 0))))
theorem papermilllaw61_JournalPrefix.mono_l : ∀ k, (∀ y0 y1 y2 y3 y4 y5, LeO (papermilllaw61_JournalPrefix.l0 k y0 y1 y2 y3 y4 y5) (papermilllaw61_JournalPrefix.l0 (k + 1) y0 y1 y2 y3 y4 y5))
  | 0 => fun _ _ _ _ _ _ r h => by simp [papermilllaw61_JournalPrefix.l0] at h
  | k + 1 => by
    have ih0 := papermilllaw61_JournalPrefix.mono_l k
    · intro y0 y1 y2 y3 y4 y5
      unfold papermilllaw61_JournalPrefix.l0
      repeat' first
      | (with_reducible exact ih0 _ _ _ _ _ _)
      | (with_reducible exact journal_Recover.mono _ _)
      | (with_reducible exact papermilllaw61_appended.mono _ _)
      | (with_reducible exact papermilllaw61_awake.mono _)
      | (with_reducible exact papermilllaw61_great.mono _ _)
      | (with_reducible exact papermillref61_Same.mono _ _ _)
      | (with_reducible exact LeO.refl _)
      | (with_reducible exact LeO.none _)
      | (with_reducible refine LeO.ite ?_ ?_)
      | (with_reducible refine LeO.bind ?_ (fun _ => ?_))
      | exact ih0 _ _ _ _ _ _
      | exact journal_Recover.mono _ _
      | exact papermilllaw61_appended.mono _ _
      | exact papermilllaw61_awake.mono _
      | exact papermilllaw61_great.mono _ _
      | exact papermillref61_Same.mono _ _ _
      | exact LeO.none _
      | refine LeO.ite ?_ ?_
      | refine LeO.bind ?_ (fun _ => ?_)
theorem papermilllaw61_JournalPrefix.mono : ∀ a0 a1 k, LeO (papermilllaw61_JournalPrefix.f k a0 a1) (papermilllaw61_JournalPrefix.f (k + 1) a0 a1) := by
  intro a0 a1 k
  have ih0 := papermilllaw61_JournalPrefix.mono_l k
  unfold papermilllaw61_JournalPrefix.f
  repeat' first
      | (with_reducible exact ih0 _ _ _ _ _ _)
      | (with_reducible exact journal_Recover.mono _ _)
      | (with_reducible exact papermilllaw61_appended.mono _ _)
      | (with_reducible exact papermilllaw61_awake.mono _)
      | (with_reducible exact papermilllaw61_great.mono _ _)
      | (with_reducible exact papermillref61_Same.mono _ _ _)
      | (with_reducible exact LeO.refl _)
      | (with_reducible exact LeO.none _)
      | (with_reducible refine LeO.ite ?_ ?_)
      | (with_reducible refine LeO.bind ?_ (fun _ => ?_))
      | exact ih0 _ _ _ _ _ _
      | exact journal_Recover.mono _ _
      | exact papermilllaw61_appended.mono _ _
      | exact papermilllaw61_awake.mono _
      | exact papermilllaw61_great.mono _ _
      | exact papermillref61_Same.mono _ _ _
      | exact LeO.none _
      | refine LeO.ite ?_ ?_
      | refine LeO.bind ?_ (fun _ => ?_)
set_option maxHeartbeats 8000000 in
set_option maxRecDepth 100000 in
theorem papermilllaw61_JournalPrefix.calls (k : Nat) (A0 : Option Addr) (c0 : Nat) (l0 : List (S24)) (a1 : Int) (w : World) (hr0 : Kd.C k24 w A0 l0.length l0) (hc0 : l0.length ≤ c0) (hT : Kd.C (Kd.int .u32) w TabA crcTab.length crcTab) (h : papermilllaw61_JournalPrefix.f k l0 a1 = some true) :
    Calls Tryd.prog 7 #[.slice A0 l0.length c0, .int .u16 a1] w fun e w' => e = .returned (.bool true) ∧ Below w.heap.size w w' := by
  have HT := Aside0.mk hT
  clear hT
  have HR0 := Aside0.mk hr0
  have HC0 := Aside0.mk hc0
  clear hr0 hc0
  have HB := Aside0.mk (Below.refl w.heap.size w)
  have H : ((papermilllaw61_great.f k l0).bind fun t282 => (if t282 = true then ((papermilllaw61_awake.f k).bind fun t283 => (some t283)) else ((papermilllaw61_appended.f k l0).bind fun bt284 => (if (wrap64 ((bt284.1.length : Int) + 1)) = 0 then (none) else (papermilllaw61_JournalPrefix.l0 k bt284.1 bt284.2.1 bt284.2.2 (Int.tmod (wrap64 (a1)) (wrap64 ((bt284.1.length : Int) + 1))) 0 0))))) = some true := h
  clear h
  replace H := Option.bind_eq_some_iff.mp H
  obtain ⟨t282, A30, H⟩ := H
  replace H : (if t282 = true then ((papermilllaw61_awake.f k).bind fun t283 => (some t283)) else ((papermilllaw61_appended.f k l0).bind fun bt284 => (if (wrap64 ((bt284.1.length : Int) + 1)) = 0 then (none) else (papermilllaw61_JournalPrefix.l0 k bt284.1 bt284.2.1 bt284.2.2 (Int.tmod (wrap64 (a1)) (wrap64 ((bt284.1.length : Int) + 1))) 0 0)))) = some true := H
  have A3 := Aside0.mk A30
  clear A30
  by_cases c4 : t282 = true
  ·subst c4
   have H1 : ((papermilllaw61_awake.f k).bind fun t283 => (some t283)) = some true := by rw [if_pos rfl] at H; exact H
   clear H
   have H := H1
   clear H1
   replace H := Option.bind_eq_some_iff.mp H
   obtain ⟨t283, A50, H⟩ := H
   replace H : (some t283) = some true := H
   have A5 := Aside0.mk A50
   clear A50
   have Hl := Option.some.inj H
   go_enter Tryd.func7, Tryd.ntmps7
   go_wp2_with (first | ((with_reducible refine gate_callee (f := 11) rfl ?_); refine goesL_ (some 14) rfl rfl Tryd.func11 (by kernel_rfl) rfl #[.slice A0 l0.length c0] rfl (by (try simp only [List.map_toArray, List.map_cons, List.map_nil]); first | done | rfl | (simp only [List.length_drop, List.length_take]; rfl)) ?_; (with_reducible refine (papermilllaw61_great.calls k _ _ l0 true _ ?side1 ?side2 A3.out).mono ?_); (case side1 => repeat (first | exact HR0.out | (with_reducible refine Kd.C_alloc ?_ _) | (with_reducible refine Kd.C_drewN ?_ _) | (with_reducible refine Kd.C_drew ?_))); (case side2 => exact HC0.out); rintro e w' ⟨rfl, ⟨nd, rfl⟩⟩; refine ⟨_, rfl, ?_⟩) | ((with_reducible refine gate_callee (f := 12) rfl ?_); refine goesL_ (some 15) rfl rfl Tryd.func12 (by kernel_rfl) rfl #[] rfl (by (try simp only [List.map_toArray, List.map_cons, List.map_nil]); first | done | rfl | (simp only [List.length_drop, List.length_take]; rfl)) ?_; (with_reducible refine (papermilllaw61_awake.calls k  t283 _ ?sideT A5.out).mono ?_); (case sideT => repeat (first | exact HT.out | exact (Kd.C_below HT.out HB.out) | (with_reducible refine Kd.C_alloc ?_ _) | (with_reducible refine Kd.C_drewN ?_ _) | (with_reducible refine Kd.C_drew ?_))); rintro e w6 ⟨rfl, hb⟩; refine ⟨_, rfl, ?_⟩; have n0_ := Aside0.mk (below_step (by repeat (first | (with_reducible first | exact HB.out | apply below_alloc | apply pw_below_drewN | apply below_drew1) | exact HB.out)) hb); clear HB; have HB := n0_; clear n0_; (try clear hb); (try clear hb2); (try clear hk); (try clear hi)))
   go_ret
   exact ⟨by first | rfl | (simp [errW_none, errW_some] <;> rfl) | (simp [*, errW_none, errW_some] <;> rfl), by repeat (first | (with_reducible first | exact HB.out | apply below_alloc | apply pw_below_drewN | apply below_drew1) | exact HB.out)⟩
  ·replace c4 := Bool.eq_false_iff.mpr c4
   subst c4
   have H1 : ((papermilllaw61_appended.f k l0).bind fun bt284 => (if (wrap64 ((bt284.1.length : Int) + 1)) = 0 then (none) else (papermilllaw61_JournalPrefix.l0 k bt284.1 bt284.2.1 bt284.2.2 (Int.tmod (wrap64 (a1)) (wrap64 ((bt284.1.length : Int) + 1))) 0 0))) = some true := by rw [if_neg (show ¬ (false = true) by decide)] at H; exact H
   clear H
   have H := H1
   clear H1
   replace H := Option.bind_eq_some_iff.mp H
   obtain ⟨⟨t284, t287, t290⟩, A70, H⟩ := H
   replace H : (if (wrap64 ((t284.length : Int) + 1)) = 0 then (none) else (papermilllaw61_JournalPrefix.l0 k t284 t287 t290 (Int.tmod (wrap64 (a1)) (wrap64 ((t284.length : Int) + 1))) 0 0)) = some true := H
   have A7 := Aside0.mk A70
   clear A70
   by_cases c8 : (wrap64 ((t284.length : Int) + 1)) = 0
   ·rw [if_pos c8] at H
    exact absurd H (by simp)
   ·rw [if_neg c8] at H
    have c8b0 : ((wrap64 ((t284.length : Int) + 1)) == 0) = false := beq_eq_false_iff_ne.mpr c8
    have c8b1 : ((wrap64 ((t284.length : Int) + 1)) != 0) = true := bne_iff_ne.mpr c8
    have H' := Aside0.mk H
    clear H
    go_enter Tryd.func7, Tryd.ntmps7
    go_wp2_with (first | ((with_reducible refine gate_callee (f := 11) rfl ?_); refine goesL_ (some 14) rfl rfl Tryd.func11 (by kernel_rfl) rfl #[.slice A0 l0.length c0] rfl (by (try simp only [List.map_toArray, List.map_cons, List.map_nil]); first | done | rfl | (simp only [List.length_drop, List.length_take]; rfl)) ?_; (with_reducible refine (papermilllaw61_great.calls k _ _ l0 false _ ?side1 ?side2 A3.out).mono ?_); (case side1 => repeat (first | exact HR0.out | (with_reducible refine Kd.C_alloc ?_ _) | (with_reducible refine Kd.C_drewN ?_ _) | (with_reducible refine Kd.C_drew ?_))); (case side2 => exact HC0.out); rintro e w' ⟨rfl, ⟨nd, rfl⟩⟩; refine ⟨_, rfl, ?_⟩) | ((with_reducible refine gate_callee (f := 26) rfl ?_); refine goesL_ (some 18) rfl rfl Tryd.func26 (by kernel_rfl) rfl #[.slice A0 l0.length c0] rfl (by (try simp only [List.map_toArray, List.map_cons, List.map_nil]); first | done | rfl | (simp only [List.length_drop, List.length_take]; rfl)) ?_; (with_reducible refine (papermilllaw61_appended.calls k (fun k_ => k_ < w.heap.size) _ _ l0 t284 t287 t290 _ ?side1 ?sideT A7.out).mono ?_); (case sideT => repeat (first | exact HT.out | exact (Kd.C_below HT.out HB.out) | (with_reducible refine Kd.C_alloc ?_ _) | (with_reducible refine Kd.C_drewN ?_ _) | (with_reducible refine Kd.C_drew ?_))); (case side1 => exact Kd.V_mk HC0.out (Kd.F_below (Kd.C_F k24_heap HR0.out) (by repeat (first | (with_reducible first | exact HB.out | apply below_alloc | apply pw_below_drewN | apply below_drew1) | exact HB.out)))); rintro e w9 ⟨v285, v288, v291, rfl, ho0, ho1, ho2, hb⟩; refine ⟨_, rfl, ?_⟩; have n0_ := Aside0.mk (Kd.R_lower (Kd.R_mono (ok' := fun k_ => True) ho0 (fun _ hk_ => trivial)) (below_size (by repeat (first | (with_reducible first | exact HB.out | apply below_alloc | apply pw_below_drewN | apply below_drew1) | exact HB.out)))); have n1_ := Aside0.mk (Kd.N_lower (Kd.N_mono (ok' := fun k_ => some k_ ≠ (v285 : Value).ownBlock ∧ some k_ ≠ (v291 : Value).ownBlock) ho1 (fun k_ hk_ => ⟨hk_.2.1, hk_.2.2⟩)) (below_size (by repeat (first | (with_reducible first | exact HB.out | apply below_alloc | apply pw_below_drewN | apply below_drew1) | exact HB.out)))); have n2_ := Aside0.mk (Kd.R_lower (Kd.R_mono (ok' := fun k_ => True) ho2 (fun _ hk_ => trivial)) (below_size (by repeat (first | (with_reducible first | exact HB.out | apply below_alloc | apply pw_below_drewN | apply below_drew1) | exact HB.out)))); have n3_ := Aside0.mk (below_step (by repeat (first | (with_reducible first | exact HB.out | apply below_alloc | apply pw_below_drewN | apply below_drew1) | exact HB.out)) hb); clear HB; have HO286 := n0_; have HO289 := n1_; have HO292 := n2_; have HB := n3_; clear n0_ n1_ n2_ n3_; (try clear hb); (try clear hb2); (try clear hk); (try clear hi); (try clear ho0); (try clear ho1); (try clear ho2); obtain ⟨Ao10, co10, eo10⟩ := Kd.R_slice HO286.out; subst eo10))
    go_loopg [9, 10] k (fun kq v9 v10 w' => ∃ (x9_1 : Int) (x10_1 : Int), v9 = .int .i64 x9_1 ∧ v10 = .int .i64 x10_1 ∧ Aside0 (papermilllaw61_JournalPrefix.l0 kq t284 t287 t290 (Int.tmod (wrap64 (a1)) (wrap64 ((t284.length : Int) + 1))) x9_1 x10_1 = some true) ∧ Aside0 (kq ≤ k) ∧ Aside0 (Kd.R (Kd.int .u8) 5 w' w.heap.size (fun _ => True) (.slice Ao10 t284.length co10) t284) ∧ Aside0 (Kd.N k24 24 w' w.heap.size (fun k_ => some k_ ≠ ((.slice Ao10 t284.length co10) : Value).ownBlock ∧ some k_ ≠ (v291 : Value).ownBlock) v288 t287) ∧ Aside0 (Kd.R (Kd.int .i64) 3 w' w.heap.size (fun _ => True) v291 t290) ∧ Aside0 (Below w.heap.size w w'))
    case atStart => exact ⟨(0), (0), (by first | rfl | (simp; done) | (simp [*]; done)), (by first | rfl | (simp; done) | (simp [*]; done)), H', ⟨Nat.le_refl _⟩, ⟨by (with_reducible repeat (first | apply Kd.R_alloc | apply Kd.R_drewN | apply Kd.R_drew)); exact HO286.out⟩, ⟨by (with_reducible repeat (first | apply Kd.N_alloc | apply Kd.N_drewN | apply Kd.N_drew)); exact HO289.out⟩, ⟨by (with_reducible repeat (first | apply Kd.R_alloc | apply Kd.R_drewN | apply Kd.R_drew)); exact HO292.out⟩, ⟨by repeat (first | (with_reducible first | exact HB.out | apply below_alloc | apply pw_below_drewN | apply below_drew1) | exact HB.out)⟩⟩
    case round =>
     clear H'
     try clear c1
     try clear c2
     try clear p2
     try clear c4
     try clear p6
     try clear c7
     try clear c8
     try clear c8b0
     try clear c8b1
     obtain ⟨x9_1, x10_1, rfl, rfl, HA, HK1, HO_5, HO_6, HO_7, HB⟩ := hrel
     cases gk with
     | zero => exact absurd HA.out (by simp [papermilllaw61_JournalPrefix.l0])
     | succ k1 =>
      have H := HA.out
      clear HA
      simp only [papermilllaw61_JournalPrefix.l0] at H
      by_cases c11 : x9_1 < (t290.length : Int)
      ·rw [if_pos c11] at H
       have c11b0 : decide (x9_1 < (t290.length : Int)) = true := decide_eq_true c11
       clear c11
       by_cases c12 : 0 ≤ x9_1
       ·rw [if_pos c12] at H
        have c12b0 : decide (0 ≤ x9_1) = true := decide_eq_true c12
        clear c12
        by_cases c13 : (rd t290 x9_1) ≤ (Int.tmod (wrap64 (a1)) (wrap64 ((t284.length : Int) + 1)))
        ·rw [if_pos c13] at H
         have c13b0 : decide ((rd t290 x9_1) ≤ (Int.tmod (wrap64 (a1)) (wrap64 ((t284.length : Int) + 1)))) = true := decide_eq_true c13
         clear c13
         have H' := Aside0.mk H
         clear H
         obtain ⟨Ao14, co14, eo14⟩ := Kd.R_slice HO_7.out
         subst eo14
         have p293 : 0 ≤ (x9_1 : Int) := of_decide_eq_true (by first | (with_reducible assumption) | assumption)
         have q293 : x9_1 < (t290.length : Int) := of_decide_eq_true (by first | (with_reducible assumption) | assumption)
         obtain ⟨ad293, e293, hx293_0⟩ := Kd.at_int (Kd.R_reads' HO_7.out).2.2 x9_1 p293 q293
         cases e293
         replace p293 := eq_true p293
         replace q293 := eq_true q293
         have p294 : 0 ≤ (x9_1 : Int) := of_decide_eq_true (by first | (with_reducible assumption) | assumption)
         have q294 : x9_1 < (t290.length : Int) := of_decide_eq_true (by first | (with_reducible assumption) | assumption)
         obtain ⟨ad294, e294, hx294_0⟩ := Kd.at_int (Kd.R_reads' HO_7.out).2.2 x9_1 p294 q294
         obtain rfl : ad293 = ad294 := (by injection e294)
         replace p294 := eq_true p294
         replace q294 := eq_true q294
         go_wp2
         go_roundg k1
         case measure => have := HK1.out; omega
         case rel => exact ⟨(wrap64 (x9_1 + 1)), (rd t290 x9_1), (by first | rfl | (simp; done) | (simp [*]; done)), (by first | rfl | (simp; done) | (simp [*]; done)), H', ⟨by have := HK1.out; omega⟩, ⟨by (with_reducible repeat (first | apply Kd.R_alloc | apply Kd.R_drewN | apply Kd.R_drew)); exact HO_5.out⟩, ⟨by (with_reducible repeat (first | apply Kd.N_alloc | apply Kd.N_drewN | apply Kd.N_drew)); exact HO_6.out⟩, ⟨by (with_reducible repeat (first | apply Kd.R_alloc | apply Kd.R_drewN | apply Kd.R_drew)); exact HO_7.out⟩, ⟨by repeat (first | (with_reducible first | exact HB.out | apply below_alloc | apply pw_below_drewN | apply below_drew1) | exact HB.out)⟩⟩
        ·rw [if_neg c13] at H
         have c13b0 : decide ((rd t290 x9_1) ≤ (Int.tmod (wrap64 (a1)) (wrap64 ((t284.length : Int) + 1)))) = false := decide_eq_false c13
         clear c13
         obtain ⟨ji15, hji15⟩ : ∃ j_ : Int, (Int.tmod (wrap64 (a1)) (wrap64 ((t284.length : Int) + 1))) = j_ := ⟨_, rfl⟩
         replace H : (if 0 ≤ (ji15) then (if (ji15) ≤ (t284.length : Int) then ((journal_Recover.f k1 (t284.take ((ji15) : Int).toNat)).bind fun bt300 => (if x9_1 ≤ (t287.length : Int) then ((papermillref61_Same.f k1 bt300.1 (t287.take (x9_1 : Int).toNat)).bind fun t309 => (if t309 = true then (if bt300.2 = x10_1 then ((papermilllaw61_awake.f k1).bind fun t310 => (some t310)) else (some false)) else (some false))) else (none))) else (none)) else (none)) = some true := by first | (rw [hji15] at H; exact H) | (simp only [hji15] at H ⊢; exact H)
         (try rw [hji15] at c13b0)
         by_cases c16 : 0 ≤ (ji15)
         ·rw [if_pos c16] at H
          have c16b0 := eq_true c16
          have c16b1 : decide (0 ≤ (ji15)) = true := decide_eq_true c16
          clear c16
          by_cases c17 : (ji15) ≤ (t284.length : Int)
          ·rw [if_pos c17] at H
           have c17b0 := eq_true c17
           have c17b1 : decide ((ji15) ≤ (t284.length : Int)) = true := decide_eq_true c17
           clear c17
           obtain ⟨y295, hy295⟩ : ∃ y_ : List Int, y_ = (t284.take ((ji15) : Int).toNat) := ⟨_, rfl⟩
           replace H : ((journal_Recover.f k1 y295).bind fun bt300 => (if x9_1 ≤ (t287.length : Int) then ((papermillref61_Same.f k1 bt300.1 (t287.take (x9_1 : Int).toNat)).bind fun t309 => (if t309 = true then (if bt300.2 = x10_1 then ((papermilllaw61_awake.f k1).bind fun t310 => (some t310)) else (some false)) else (some false))) else (none))) = some true := by first | (rw [hy295]; with_reducible exact H) | (have H2_ := (Option.bind_some _ _).symm.trans H; rw [hy295]; with_reducible exact H2_) | (have H2_ := (Option.bind_some _ _).symm.trans H; with_reducible exact H2_) | with_reducible exact H | (rw [hy295]; exact H) | exact H
           have Ny295 := Aside0.mk hy295
           clear hy295
           replace H := Option.bind_eq_some_iff.mp H
           obtain ⟨⟨t300, t301⟩, A180, H⟩ := H
           replace H : (if x9_1 ≤ (t287.length : Int) then ((papermillref61_Same.f k1 t300 (t287.take (x9_1 : Int).toNat)).bind fun t309 => (if t309 = true then (if t301 = x10_1 then ((papermilllaw61_awake.f k1).bind fun t310 => (some t310)) else (some false)) else (some false))) else (none)) = some true := H
           have A18 := Aside0.mk A180
           clear A180
           have c19b0 := eq_true (of_decide_eq_true (by first | (with_reducible assumption) | assumption) : 0 ≤ x9_1)
           by_cases c20 : x9_1 ≤ (t287.length : Int)
           ·rw [if_pos c20] at H
            have c20b0 := eq_true c20
            have c20b1 : decide (x9_1 ≤ (t287.length : Int)) = true := decide_eq_true c20
            clear c20
            obtain ⟨y304, hy304⟩ : ∃ y_ : List (S24), y_ = (t287.take (x9_1 : Int).toNat) := ⟨_, rfl⟩
            replace H : ((papermillref61_Same.f k1 t300 y304).bind fun t309 => (if t309 = true then (if t301 = x10_1 then ((papermilllaw61_awake.f k1).bind fun t310 => (some t310)) else (some false)) else (some false))) = some true := by first | (rw [hy304]; with_reducible exact H) | (have H2_ := (Option.bind_some _ _).symm.trans H; rw [hy304]; with_reducible exact H2_) | (have H2_ := (Option.bind_some _ _).symm.trans H; with_reducible exact H2_) | with_reducible exact H | (rw [hy304]; exact H) | exact H
            have Ny304 := Aside0.mk hy304
            clear hy304
            replace H := Option.bind_eq_some_iff.mp H
            obtain ⟨t309, A210, H⟩ := H
            replace H : (if t309 = true then (if t301 = x10_1 then ((papermilllaw61_awake.f k1).bind fun t310 => (some t310)) else (some false)) else (some false)) = some true := H
            have A21 := Aside0.mk A210
            clear A210
            by_cases c22 : t309 = true
            ·subst c22
             have H1 : (if t301 = x10_1 then ((papermilllaw61_awake.f k1).bind fun t310 => (some t310)) else (some false)) = some true := by rw [if_pos rfl] at H; exact H
             clear H
             have H := H1
             clear H1
             by_cases c23 : t301 = x10_1
             ·rw [if_pos c23] at H
              have c23b0 : (t301 == x10_1) = true := beq_iff_eq.mpr c23
              have c23b1 : (t301 != x10_1) = false := bne_eq_false_iff_eq.mpr c23
              clear c23
              replace H := Option.bind_eq_some_iff.mp H
              obtain ⟨t310, A240, H⟩ := H
              replace H : (some t310) = some true := H
              have A24 := Aside0.mk A240
              clear A240
              have Hl := Option.some.inj H
              obtain ⟨Ao25, co25, eo25⟩ := Kd.R_slice HO_7.out
              subst eo25
              have p293 : 0 ≤ (x9_1 : Int) := of_decide_eq_true (by first | (with_reducible assumption) | assumption)
              have q293 : x9_1 < (t290.length : Int) := of_decide_eq_true (by first | (with_reducible assumption) | assumption)
              obtain ⟨ad293, e293, hx293_0⟩ := Kd.at_int (Kd.R_reads' HO_7.out).2.2 x9_1 p293 q293
              cases e293
              replace p293 := eq_true p293
              replace q293 := eq_true q293
              have q26 : ((ji15) : Int) ≤ ((t284.length : Int) : Int) := of_decide_eq_true (by first | (with_reducible assumption) | assumption)
              obtain ⟨i026, hi026, _, hsz26, _⟩ := info_parts info5
              have hroom26 : t284.length ≤ co10 := (Kd.R_reads' HO_5.out).2.1
              have hC26 : Kd.F (Kd.int .u8) _ _ Ao10 t284.length t284 := (Kd.V_at (base := w.heap.size) (Kd.R_V (Kd.R_apart' (Kd.R_apart' (HO_5.out) (Kd.N_typed HO_6.out) (by decide)) (Kd.R_typed HO_7.out) (by decide)))).2.2
              have hcut26 := cut_to (P := Tryd.prog) 28 5 .i64 Tryd.underlying28 hi026 Ao10 t284.length co10 (ji15) (of_decide_eq_true (by first | (with_reducible assumption) | assumption)) q26 hroom26
              have hr26 := Kd.F_take (m := ((ji15) : Int).toNat) hC26 (by omega)
              have hy26 : y295.length = ((ji15) : Int).toNat := (by rw [Ny295.out, List.length_take]; omega)
              rw [← Ny295.out] at hr26
              rw [← hy26] at hcut26
              have HO299 := Aside0.mk (show Kd.V (Kd.int .u8) 5 _ w.heap.size _ (.slice Ao10 y295.length co10) y295 from Kd.V_mk (by omega) hr26)
              have HC299 := Aside0.mk (show y295.length ≤ co10 from by omega)
              clear hr26 hC26 hroom26 hi026 hsz26
              have KY26 := Aside0.mk hy26
              clear hy26
              replace q26 := eq_true q26
              go_wp2_with (first | ((with_reducible refine gate_callee (f := 23) rfl ?_); refine goesL_ (some 50) rfl rfl Tryd.func23 (by kernel_rfl) rfl #[.slice Ao10 y295.length co10] rfl (by (try simp only [List.map_toArray, List.map_cons, List.map_nil]); first | done | rfl | (simp only [List.length_drop, List.length_take]; rfl)) ?_; (with_reducible refine (journal_Recover.calls k1 _ _ y295 t300 t301 _ ?side1 ?side2 ?sideT A18.out).mono ?_); (case sideT => repeat (first | exact HT.out | exact (Kd.C_below HT.out HB.out) | (with_reducible refine Kd.C_alloc ?_ _) | (with_reducible refine Kd.C_drewN ?_ _) | (with_reducible refine Kd.C_drew ?_))); (case side1 => repeat (first | exact (Kd.V_reads' HO299.out).2.2 | (with_reducible refine Kd.C_alloc ?_ _) | (with_reducible refine Kd.C_drewN ?_ _) | (with_reducible refine Kd.C_drew ?_))); (case side2 => exact (Kd.V_reads' HO299.out).2.1); rintro e w27 ⟨v302, rfl, ho0, hb⟩; refine ⟨_, rfl, ?_⟩; have n0_ := Aside0.mk (Kd.R_below (by (with_reducible repeat (first | apply Kd.R_alloc | apply Kd.R_drewN | apply Kd.R_drew)); exact HO_5.out) hb); have n1_ := Aside0.mk (Kd.N_elder' (by (with_reducible repeat (first | apply Kd.N_alloc | apply Kd.N_drewN | apply Kd.N_drew)); exact HO_6.out) (Kd.N_base (Kd.S_N ho0)) hb); have n2_ := Aside0.mk (Kd.R_below (by (with_reducible repeat (first | apply Kd.R_alloc | apply Kd.R_drewN | apply Kd.R_drew)); exact HO_7.out) hb); have n3_ := Aside0.mk (Kd.V_elder' (by (with_reducible repeat (first | apply Kd.V_alloc | apply Kd.V_drewN | apply Kd.V_drew)); exact HO299.out) (Kd.N_base (Kd.S_N ho0)) hb); have n4_ := Aside0.mk (Kd.N_lower (Kd.N_mono (ok' := fun k_ => some k_ ≠ (.slice Ao10 t284.length co10 : Value).ownBlock ∧ some k_ ≠ (v288 : Value).ownBlock ∧ some k_ ≠ (.slice (some ad293) t290.length co25 : Value).ownBlock) (Kd.S_N (Kd.S_bound ho0)) (fun k_ hk_ => ⟨(Kd.fresh' (Kd.R_lt (by (with_reducible repeat (first | apply Kd.R_alloc | apply Kd.R_drewN | apply Kd.R_drew)); exact HO_5.out)) k_ hk_.2.1), (Kd.fresh' (Kd.N_lt (by (with_reducible repeat (first | apply Kd.N_alloc | apply Kd.N_drewN | apply Kd.N_drew)); exact HO_6.out)) k_ hk_.2.1), (Kd.fresh' (Kd.R_lt (by (with_reducible repeat (first | apply Kd.R_alloc | apply Kd.R_drewN | apply Kd.R_drew)); exact HO_7.out)) k_ hk_.2.1)⟩)) (below_size (by repeat (first | (with_reducible first | exact HB.out | apply below_alloc | apply pw_below_drewN | apply below_drew1) | exact HB.out)))); have n5_ := Aside0.mk (below_step (by repeat (first | (with_reducible first | exact HB.out | apply below_alloc | apply pw_below_drewN | apply below_drew1) | exact HB.out)) hb); clear HO_5; clear HO_6; clear HO_7; clear HO299; clear HB; have HO_5 := n0_; have HO_6 := n1_; have HO_7 := n2_; have HO299 := n3_; have HO303 := n4_; have HB := n5_; clear n0_ n1_ n2_ n3_ n4_ n5_; (try clear hb); (try clear hb2); (try clear hk); (try clear hi); (try clear ho0); obtain ⟨Ao29, co29, eo29⟩ := Kd.N_slice HO_6.out; subst eo29; have q28 : (x9_1 : Int) ≤ ((t287.length : Int) : Int) := of_decide_eq_true (by first | (with_reducible assumption) | assumption); obtain ⟨i028, hi028, _, hsz28, _⟩ := info_parts info24; have hroom28 : t287.length ≤ co29 := (Kd.N_reads' HO_6.out).2.1; have hC28 : Kd.F k24 _ _ Ao29 t287.length t287 := (Kd.V_at (base := w.heap.size) (Kd.N_V HO_6.out)).2.2; have hcut28 := cut_to (P := Tryd.prog) 26 24 .i64 Tryd.underlying26 hi028 Ao29 t287.length co29 x9_1 (of_decide_eq_true (by first | (with_reducible assumption) | assumption)) q28 hroom28; have hr28 := Kd.F_take (m := (x9_1 : Int).toNat) hC28 (by omega); have hy28 : y304.length = (x9_1 : Int).toNat := (by rw [Ny304.out, List.length_take]; omega); rw [← Ny304.out] at hr28; rw [← hy28] at hcut28; have HO308 := Aside0.mk (show Kd.V k24 24 _ w.heap.size _ (.slice Ao29 y304.length co29) y304 from Kd.V_mk (by omega) hr28); have HC308 := Aside0.mk (show y304.length ≤ co29 from by omega); clear hr28 hC28 hroom28 hi028 hsz28; have KY28 := Aside0.mk hy28; clear hy28; replace q28 := eq_true q28; obtain ⟨Ao30, co30, eo30⟩ := Kd.N_slice HO303.out; subst eo30) | ((with_reducible refine gate_callee (f := 25) rfl ?_); refine goesL_ (some 57) rfl rfl Tryd.func25 (by kernel_rfl) rfl #[.slice Ao30 t300.length co30, .slice Ao29 y304.length co29] rfl (by (try simp only [List.map_toArray, List.map_cons, List.map_nil]); first | done | rfl | (simp only [List.length_drop, List.length_take]; rfl)) ?_; (with_reducible refine (papermillref61_Same.calls k1 _ _ t300 _ _ y304 true _ ?side1 ?side2 ?side3 ?side4 A21.out).mono ?_); (case side1 => repeat (first | exact (Kd.N_reads' HO303.out).2.2 | (with_reducible refine Kd.C_alloc ?_ _) | (with_reducible refine Kd.C_drewN ?_ _) | (with_reducible refine Kd.C_drew ?_))); (case side2 => exact (Kd.N_reads' HO303.out).2.1); (case side3 => repeat (first | exact (Kd.V_reads' HO308.out).2.2 | (with_reducible refine Kd.C_alloc ?_ _) | (with_reducible refine Kd.C_drewN ?_ _) | (with_reducible refine Kd.C_drew ?_))); (case side4 => exact (Kd.V_reads' HO308.out).2.1); rintro e w31 ⟨rfl, hb⟩; refine ⟨_, rfl, ?_⟩; have n0_ := Aside0.mk (Kd.R_below (by (with_reducible repeat (first | apply Kd.R_alloc | apply Kd.R_drewN | apply Kd.R_drew)); exact HO_5.out) hb); have n1_ := Aside0.mk (Kd.N_below (by (with_reducible repeat (first | apply Kd.N_alloc | apply Kd.N_drewN | apply Kd.N_drew)); exact HO_6.out) hb); have n2_ := Aside0.mk (Kd.R_below (by (with_reducible repeat (first | apply Kd.R_alloc | apply Kd.R_drewN | apply Kd.R_drew)); exact HO_7.out) hb); have n3_ := Aside0.mk (Kd.V_below (by (with_reducible repeat (first | apply Kd.V_alloc | apply Kd.V_drewN | apply Kd.V_drew)); exact HO299.out) hb); have n4_ := Aside0.mk (Kd.N_below (by (with_reducible repeat (first | apply Kd.N_alloc | apply Kd.N_drewN | apply Kd.N_drew)); exact HO303.out) hb); have n5_ := Aside0.mk (Kd.V_below (by (with_reducible repeat (first | apply Kd.V_alloc | apply Kd.V_drewN | apply Kd.V_drew)); exact HO308.out) hb); have n6_ := Aside0.mk (below_step (by repeat (first | (with_reducible first | exact HB.out | apply below_alloc | apply pw_below_drewN | apply below_drew1) | exact HB.out)) hb); clear HO_5; clear HO_6; clear HO_7; clear HO299; clear HO303; clear HO308; clear HB; have HO_5 := n0_; have HO_6 := n1_; have HO_7 := n2_; have HO299 := n3_; have HO303 := n4_; have HO308 := n5_; have HB := n6_; clear n0_ n1_ n2_ n3_ n4_ n5_ n6_; (try clear hb); (try clear hb2); (try clear hk); (try clear hi)) | (go_at_call 12; (with_reducible refine (papermilllaw61_awake.calls k1  t310 _ ?sideT A24.out).mono ?_); (case sideT => repeat (first | exact HT.out | exact (Kd.C_below HT.out HB.out) | (with_reducible refine Kd.C_alloc ?_ _) | (with_reducible refine Kd.C_drewN ?_ _) | (with_reducible refine Kd.C_drew ?_))); rintro e w32 ⟨rfl, hb⟩; have n0_ := Aside0.mk (Kd.R_below (by (with_reducible repeat (first | apply Kd.R_alloc | apply Kd.R_drewN | apply Kd.R_drew)); exact HO_5.out) hb); have n1_ := Aside0.mk (Kd.N_below (by (with_reducible repeat (first | apply Kd.N_alloc | apply Kd.N_drewN | apply Kd.N_drew)); exact HO_6.out) hb); have n2_ := Aside0.mk (Kd.R_below (by (with_reducible repeat (first | apply Kd.R_alloc | apply Kd.R_drewN | apply Kd.R_drew)); exact HO_7.out) hb); have n3_ := Aside0.mk (Kd.V_below (by (with_reducible repeat (first | apply Kd.V_alloc | apply Kd.V_drewN | apply Kd.V_drew)); exact HO299.out) hb); have n4_ := Aside0.mk (Kd.N_below (by (with_reducible repeat (first | apply Kd.N_alloc | apply Kd.N_drewN | apply Kd.N_drew)); exact HO303.out) hb); have n5_ := Aside0.mk (Kd.V_below (by (with_reducible repeat (first | apply Kd.V_alloc | apply Kd.V_drewN | apply Kd.V_drew)); exact HO308.out) hb); have n6_ := Aside0.mk (below_step (by repeat (first | (with_reducible first | exact HB.out | apply below_alloc | apply pw_below_drewN | apply below_drew1) | exact HB.out)) hb); clear HO_5; clear HO_6; clear HO_7; clear HO299; clear HO303; clear HO308; clear HB; have HO_5 := n0_; have HO_6 := n1_; have HO_7 := n2_; have HO299 := n3_; have HO303 := n4_; have HO308 := n5_; have HB := n6_; clear n0_ n1_ n2_ n3_ n4_ n5_ n6_; (try clear hb); (try clear hb2); (try clear hk); (try clear hi)))
              go_ret
              exact ⟨by first | rfl | (simp [errW_none, errW_some] <;> rfl) | (simp only [← hji15]; first | rfl | (simp [errW_none, errW_some] <;> rfl)) | (simp [*, errW_none, errW_some] <;> rfl), by repeat (first | (with_reducible first | exact HB.out | apply below_alloc | apply pw_below_drewN | apply below_drew1) | exact HB.out)⟩
             ·rw [if_neg c23] at H
              exact absurd H (by simp)
            ·exact absurd H (by rw [if_neg c22]; simp)
           ·rw [if_neg c20] at H
            exact absurd H (by simp)
          ·rw [if_neg c17] at H
           exact absurd H (by simp)
         ·rw [if_neg c16] at H
          exact absurd H (by simp)
       ·rw [if_neg c12] at H
        exact absurd H (by simp)
      ·rw [if_neg c11] at H
       have c11b0 : decide (x9_1 < (t290.length : Int)) = false := decide_eq_false c11
       clear c11
       obtain ⟨ji47, hji47⟩ : ∃ j_ : Int, (Int.tmod (wrap64 (a1)) (wrap64 ((t284.length : Int) + 1))) = j_ := ⟨_, rfl⟩
       replace H : (if 0 ≤ (ji47) then (if (ji47) ≤ (t284.length : Int) then ((journal_Recover.f k1 (t284.take ((ji47) : Int).toNat)).bind fun bt316 => (if 0 ≤ x9_1 then (if x9_1 ≤ (t287.length : Int) then ((papermillref61_Same.f k1 bt316.1 (t287.take (x9_1 : Int).toNat)).bind fun t325 => (if t325 = true then (if bt316.2 = x10_1 then ((papermilllaw61_awake.f k1).bind fun t326 => (some t326)) else (some false)) else (some false))) else (none)) else (none))) else (none)) else (none)) = some true := by first | (rw [hji47] at H; exact H) | (simp only [hji47] at H ⊢; exact H)
       by_cases c48 : 0 ≤ (ji47)
       ·rw [if_pos c48] at H
        have c48b0 := eq_true c48
        have c48b1 : decide (0 ≤ (ji47)) = true := decide_eq_true c48
        clear c48
        by_cases c49 : (ji47) ≤ (t284.length : Int)
        ·rw [if_pos c49] at H
         have c49b0 := eq_true c49
         have c49b1 : decide ((ji47) ≤ (t284.length : Int)) = true := decide_eq_true c49
         clear c49
         obtain ⟨y311, hy311⟩ : ∃ y_ : List Int, y_ = (t284.take ((ji47) : Int).toNat) := ⟨_, rfl⟩
         replace H : ((journal_Recover.f k1 y311).bind fun bt316 => (if 0 ≤ x9_1 then (if x9_1 ≤ (t287.length : Int) then ((papermillref61_Same.f k1 bt316.1 (t287.take (x9_1 : Int).toNat)).bind fun t325 => (if t325 = true then (if bt316.2 = x10_1 then ((papermilllaw61_awake.f k1).bind fun t326 => (some t326)) else (some false)) else (some false))) else (none)) else (none))) = some true := by first | (rw [hy311]; with_reducible exact H) | (have H2_ := (Option.bind_some _ _).symm.trans H; rw [hy311]; with_reducible exact H2_) | (have H2_ := (Option.bind_some _ _).symm.trans H; with_reducible exact H2_) | with_reducible exact H | (rw [hy311]; exact H) | exact H
         have Ny311 := Aside0.mk hy311
         clear hy311
         replace H := Option.bind_eq_some_iff.mp H
         obtain ⟨⟨t316, t317⟩, A500, H⟩ := H
         replace H : (if 0 ≤ x9_1 then (if x9_1 ≤ (t287.length : Int) then ((papermillref61_Same.f k1 t316 (t287.take (x9_1 : Int).toNat)).bind fun t325 => (if t325 = true then (if t317 = x10_1 then ((papermilllaw61_awake.f k1).bind fun t326 => (some t326)) else (some false)) else (some false))) else (none)) else (none)) = some true := H
         have A50 := Aside0.mk A500
         clear A500
         by_cases c51 : 0 ≤ x9_1
         ·rw [if_pos c51] at H
          have c51b0 := eq_true c51
          have c51b1 : decide (0 ≤ x9_1) = true := decide_eq_true c51
          clear c51
          by_cases c52 : x9_1 ≤ (t287.length : Int)
          ·rw [if_pos c52] at H
           have c52b0 := eq_true c52
           have c52b1 : decide (x9_1 ≤ (t287.length : Int)) = true := decide_eq_true c52
           clear c52
           obtain ⟨y320, hy320⟩ : ∃ y_ : List (S24), y_ = (t287.take (x9_1 : Int).toNat) := ⟨_, rfl⟩
           replace H : ((papermillref61_Same.f k1 t316 y320).bind fun t325 => (if t325 = true then (if t317 = x10_1 then ((papermilllaw61_awake.f k1).bind fun t326 => (some t326)) else (some false)) else (some false))) = some true := by first | (rw [hy320]; with_reducible exact H) | (have H2_ := (Option.bind_some _ _).symm.trans H; rw [hy320]; with_reducible exact H2_) | (have H2_ := (Option.bind_some _ _).symm.trans H; with_reducible exact H2_) | with_reducible exact H | (rw [hy320]; exact H) | exact H
           have Ny320 := Aside0.mk hy320
           clear hy320
           replace H := Option.bind_eq_some_iff.mp H
           obtain ⟨t325, A530, H⟩ := H
           replace H : (if t325 = true then (if t317 = x10_1 then ((papermilllaw61_awake.f k1).bind fun t326 => (some t326)) else (some false)) else (some false)) = some true := H
           have A53 := Aside0.mk A530
           clear A530
           by_cases c54 : t325 = true
           ·subst c54
            have H1 : (if t317 = x10_1 then ((papermilllaw61_awake.f k1).bind fun t326 => (some t326)) else (some false)) = some true := by rw [if_pos rfl] at H; exact H
            clear H
            have H := H1
            clear H1
            by_cases c55 : t317 = x10_1
            ·rw [if_pos c55] at H
             have c55b0 : (t317 == x10_1) = true := beq_iff_eq.mpr c55
             have c55b1 : (t317 != x10_1) = false := bne_eq_false_iff_eq.mpr c55
             clear c55
             replace H := Option.bind_eq_some_iff.mp H
             obtain ⟨t326, A560, H⟩ := H
             replace H : (some t326) = some true := H
             have A56 := Aside0.mk A560
             clear A560
             have Hl := Option.some.inj H
             obtain ⟨Ao57, co57, eo57⟩ := Kd.R_slice HO_7.out
             subst eo57
             have q58 : ((ji47) : Int) ≤ ((t284.length : Int) : Int) := of_decide_eq_true (by first | (with_reducible assumption) | assumption)
             obtain ⟨i058, hi058, _, hsz58, _⟩ := info_parts info5
             have hroom58 : t284.length ≤ co10 := (Kd.R_reads' HO_5.out).2.1
             have hC58 : Kd.F (Kd.int .u8) _ _ Ao10 t284.length t284 := (Kd.V_at (base := w.heap.size) (Kd.R_V (Kd.R_apart' (Kd.R_apart' (HO_5.out) (Kd.N_typed HO_6.out) (by decide)) (Kd.R_typed HO_7.out) (by decide)))).2.2
             have hcut58 := cut_to (P := Tryd.prog) 28 5 .i64 Tryd.underlying28 hi058 Ao10 t284.length co10 (ji47) (of_decide_eq_true (by first | (with_reducible assumption) | assumption)) q58 hroom58
             have hr58 := Kd.F_take (m := ((ji47) : Int).toNat) hC58 (by omega)
             have hy58 : y311.length = ((ji47) : Int).toNat := (by rw [Ny311.out, List.length_take]; omega)
             rw [← Ny311.out] at hr58
             rw [← hy58] at hcut58
             have HO315 := Aside0.mk (show Kd.V (Kd.int .u8) 5 _ w.heap.size _ (.slice Ao10 y311.length co10) y311 from Kd.V_mk (by omega) hr58)
             have HC315 := Aside0.mk (show y311.length ≤ co10 from by omega)
             clear hr58 hC58 hroom58 hi058 hsz58
             have KY58 := Aside0.mk hy58
             clear hy58
             replace q58 := eq_true q58
             go_wp2_with (first | ((with_reducible refine gate_callee (f := 23) rfl ?_); refine goesL_ (some 50) rfl rfl Tryd.func23 (by kernel_rfl) rfl #[.slice Ao10 y311.length co10] rfl (by (try simp only [List.map_toArray, List.map_cons, List.map_nil]); first | done | rfl | (simp only [List.length_drop, List.length_take]; rfl)) ?_; (with_reducible refine (journal_Recover.calls k1 _ _ y311 t316 t317 _ ?side1 ?side2 ?sideT A50.out).mono ?_); (case sideT => repeat (first | exact HT.out | exact (Kd.C_below HT.out HB.out) | (with_reducible refine Kd.C_alloc ?_ _) | (with_reducible refine Kd.C_drewN ?_ _) | (with_reducible refine Kd.C_drew ?_))); (case side1 => repeat (first | exact (Kd.V_reads' HO315.out).2.2 | (with_reducible refine Kd.C_alloc ?_ _) | (with_reducible refine Kd.C_drewN ?_ _) | (with_reducible refine Kd.C_drew ?_))); (case side2 => exact (Kd.V_reads' HO315.out).2.1); rintro e w59 ⟨v318, rfl, ho0, hb⟩; refine ⟨_, rfl, ?_⟩; have n0_ := Aside0.mk (Kd.R_below (by (with_reducible repeat (first | apply Kd.R_alloc | apply Kd.R_drewN | apply Kd.R_drew)); exact HO_5.out) hb); have n1_ := Aside0.mk (Kd.N_elder' (by (with_reducible repeat (first | apply Kd.N_alloc | apply Kd.N_drewN | apply Kd.N_drew)); exact HO_6.out) (Kd.N_base (Kd.S_N ho0)) hb); have n2_ := Aside0.mk (Kd.R_below (by (with_reducible repeat (first | apply Kd.R_alloc | apply Kd.R_drewN | apply Kd.R_drew)); exact HO_7.out) hb); have n3_ := Aside0.mk (Kd.V_elder' (by (with_reducible repeat (first | apply Kd.V_alloc | apply Kd.V_drewN | apply Kd.V_drew)); exact HO315.out) (Kd.N_base (Kd.S_N ho0)) hb); have n4_ := Aside0.mk (Kd.N_lower (Kd.N_mono (ok' := fun k_ => some k_ ≠ (.slice Ao10 t284.length co10 : Value).ownBlock ∧ some k_ ≠ (v288 : Value).ownBlock ∧ some k_ ≠ (.slice Ao57 t290.length co57 : Value).ownBlock) (Kd.S_N (Kd.S_bound ho0)) (fun k_ hk_ => ⟨(Kd.fresh' (Kd.R_lt (by (with_reducible repeat (first | apply Kd.R_alloc | apply Kd.R_drewN | apply Kd.R_drew)); exact HO_5.out)) k_ hk_.2.1), (Kd.fresh' (Kd.N_lt (by (with_reducible repeat (first | apply Kd.N_alloc | apply Kd.N_drewN | apply Kd.N_drew)); exact HO_6.out)) k_ hk_.2.1), (Kd.fresh' (Kd.R_lt (by (with_reducible repeat (first | apply Kd.R_alloc | apply Kd.R_drewN | apply Kd.R_drew)); exact HO_7.out)) k_ hk_.2.1)⟩)) (below_size (by repeat (first | (with_reducible first | exact HB.out | apply below_alloc | apply pw_below_drewN | apply below_drew1) | exact HB.out)))); have n5_ := Aside0.mk (below_step (by repeat (first | (with_reducible first | exact HB.out | apply below_alloc | apply pw_below_drewN | apply below_drew1) | exact HB.out)) hb); clear HO_5; clear HO_6; clear HO_7; clear HO315; clear HB; have HO_5 := n0_; have HO_6 := n1_; have HO_7 := n2_; have HO315 := n3_; have HO319 := n4_; have HB := n5_; clear n0_ n1_ n2_ n3_ n4_ n5_; (try clear hb); (try clear hb2); (try clear hk); (try clear hi); (try clear ho0); obtain ⟨Ao61, co61, eo61⟩ := Kd.N_slice HO_6.out; subst eo61; have q60 : (x9_1 : Int) ≤ ((t287.length : Int) : Int) := of_decide_eq_true (by first | (with_reducible assumption) | assumption); obtain ⟨i060, hi060, _, hsz60, _⟩ := info_parts info24; have hroom60 : t287.length ≤ co61 := (Kd.N_reads' HO_6.out).2.1; have hC60 : Kd.F k24 _ _ Ao61 t287.length t287 := (Kd.V_at (base := w.heap.size) (Kd.N_V HO_6.out)).2.2; have hcut60 := cut_to (P := Tryd.prog) 26 24 .i64 Tryd.underlying26 hi060 Ao61 t287.length co61 x9_1 (of_decide_eq_true (by first | (with_reducible assumption) | assumption)) q60 hroom60; have hr60 := Kd.F_take (m := (x9_1 : Int).toNat) hC60 (by omega); have hy60 : y320.length = (x9_1 : Int).toNat := (by rw [Ny320.out, List.length_take]; omega); rw [← Ny320.out] at hr60; rw [← hy60] at hcut60; have HO324 := Aside0.mk (show Kd.V k24 24 _ w.heap.size _ (.slice Ao61 y320.length co61) y320 from Kd.V_mk (by omega) hr60); have HC324 := Aside0.mk (show y320.length ≤ co61 from by omega); clear hr60 hC60 hroom60 hi060 hsz60; have KY60 := Aside0.mk hy60; clear hy60; replace q60 := eq_true q60; obtain ⟨Ao62, co62, eo62⟩ := Kd.N_slice HO319.out; subst eo62) | ((with_reducible refine gate_callee (f := 25) rfl ?_); refine goesL_ (some 57) rfl rfl Tryd.func25 (by kernel_rfl) rfl #[.slice Ao62 t316.length co62, .slice Ao61 y320.length co61] rfl (by (try simp only [List.map_toArray, List.map_cons, List.map_nil]); first | done | rfl | (simp only [List.length_drop, List.length_take]; rfl)) ?_; (with_reducible refine (papermillref61_Same.calls k1 _ _ t316 _ _ y320 true _ ?side1 ?side2 ?side3 ?side4 A53.out).mono ?_); (case side1 => repeat (first | exact (Kd.N_reads' HO319.out).2.2 | (with_reducible refine Kd.C_alloc ?_ _) | (with_reducible refine Kd.C_drewN ?_ _) | (with_reducible refine Kd.C_drew ?_))); (case side2 => exact (Kd.N_reads' HO319.out).2.1); (case side3 => repeat (first | exact (Kd.V_reads' HO324.out).2.2 | (with_reducible refine Kd.C_alloc ?_ _) | (with_reducible refine Kd.C_drewN ?_ _) | (with_reducible refine Kd.C_drew ?_))); (case side4 => exact (Kd.V_reads' HO324.out).2.1); rintro e w63 ⟨rfl, hb⟩; refine ⟨_, rfl, ?_⟩; have n0_ := Aside0.mk (Kd.R_below (by (with_reducible repeat (first | apply Kd.R_alloc | apply Kd.R_drewN | apply Kd.R_drew)); exact HO_5.out) hb); have n1_ := Aside0.mk (Kd.N_below (by (with_reducible repeat (first | apply Kd.N_alloc | apply Kd.N_drewN | apply Kd.N_drew)); exact HO_6.out) hb); have n2_ := Aside0.mk (Kd.R_below (by (with_reducible repeat (first | apply Kd.R_alloc | apply Kd.R_drewN | apply Kd.R_drew)); exact HO_7.out) hb); have n3_ := Aside0.mk (Kd.V_below (by (with_reducible repeat (first | apply Kd.V_alloc | apply Kd.V_drewN | apply Kd.V_drew)); exact HO315.out) hb); have n4_ := Aside0.mk (Kd.N_below (by (with_reducible repeat (first | apply Kd.N_alloc | apply Kd.N_drewN | apply Kd.N_drew)); exact HO319.out) hb); have n5_ := Aside0.mk (Kd.V_below (by (with_reducible repeat (first | apply Kd.V_alloc | apply Kd.V_drewN | apply Kd.V_drew)); exact HO324.out) hb); have n6_ := Aside0.mk (below_step (by repeat (first | (with_reducible first | exact HB.out | apply below_alloc | apply pw_below_drewN | apply below_drew1) | exact HB.out)) hb); clear HO_5; clear HO_6; clear HO_7; clear HO315; clear HO319; clear HO324; clear HB; have HO_5 := n0_; have HO_6 := n1_; have HO_7 := n2_; have HO315 := n3_; have HO319 := n4_; have HO324 := n5_; have HB := n6_; clear n0_ n1_ n2_ n3_ n4_ n5_ n6_; (try clear hb); (try clear hb2); (try clear hk); (try clear hi)) | (go_at_call 12; (with_reducible refine (papermilllaw61_awake.calls k1  t326 _ ?sideT A56.out).mono ?_); (case sideT => repeat (first | exact HT.out | exact (Kd.C_below HT.out HB.out) | (with_reducible refine Kd.C_alloc ?_ _) | (with_reducible refine Kd.C_drewN ?_ _) | (with_reducible refine Kd.C_drew ?_))); rintro e w64 ⟨rfl, hb⟩; have n0_ := Aside0.mk (Kd.R_below (by (with_reducible repeat (first | apply Kd.R_alloc | apply Kd.R_drewN | apply Kd.R_drew)); exact HO_5.out) hb); have n1_ := Aside0.mk (Kd.N_below (by (with_reducible repeat (first | apply Kd.N_alloc | apply Kd.N_drewN | apply Kd.N_drew)); exact HO_6.out) hb); have n2_ := Aside0.mk (Kd.R_below (by (with_reducible repeat (first | apply Kd.R_alloc | apply Kd.R_drewN | apply Kd.R_drew)); exact HO_7.out) hb); have n3_ := Aside0.mk (Kd.V_below (by (with_reducible repeat (first | apply Kd.V_alloc | apply Kd.V_drewN | apply Kd.V_drew)); exact HO315.out) hb); have n4_ := Aside0.mk (Kd.N_below (by (with_reducible repeat (first | apply Kd.N_alloc | apply Kd.N_drewN | apply Kd.N_drew)); exact HO319.out) hb); have n5_ := Aside0.mk (Kd.V_below (by (with_reducible repeat (first | apply Kd.V_alloc | apply Kd.V_drewN | apply Kd.V_drew)); exact HO324.out) hb); have n6_ := Aside0.mk (below_step (by repeat (first | (with_reducible first | exact HB.out | apply below_alloc | apply pw_below_drewN | apply below_drew1) | exact HB.out)) hb); clear HO_5; clear HO_6; clear HO_7; clear HO315; clear HO319; clear HO324; clear HB; have HO_5 := n0_; have HO_6 := n1_; have HO_7 := n2_; have HO315 := n3_; have HO319 := n4_; have HO324 := n5_; have HB := n6_; clear n0_ n1_ n2_ n3_ n4_ n5_ n6_; (try clear hb); (try clear hb2); (try clear hk); (try clear hi)))
             go_ret
             exact ⟨by first | rfl | (simp [errW_none, errW_some] <;> rfl) | (simp only [← hji47]; first | rfl | (simp [errW_none, errW_some] <;> rfl)) | (simp [*, errW_none, errW_some] <;> rfl), by repeat (first | (with_reducible first | exact HB.out | apply below_alloc | apply pw_below_drewN | apply below_drew1) | exact HB.out)⟩
            ·rw [if_neg c55] at H
             exact absurd H (by simp)
           ·exact absurd H (by rw [if_neg c54]; simp)
          ·rw [if_neg c52] at H
           exact absurd H (by simp)
         ·rw [if_neg c51] at H
          exact absurd H (by simp)
        ·rw [if_neg c49] at H
         exact absurd H (by simp)
       ·rw [if_neg c48] at H
        exact absurd H (by simp)

/-- THE ONE PURE STATEMENT of papermilllaw61_JournalPrefix. -/
def papermilllaw61_JournalPrefix.Pure : Prop := ∀ (l0 : List (S24)) (a1 : Int), (l0.length ≤ maxLen ∧ ∀ z1_ ∈ l0, ((Lit.int .i64 z1_.f0).wf = true ∧ ((Lit.int .i64 z1_.f1).wf = true ∧ ((Lit.int .i64 z1_.f2).wf = true ∧ ((Lit.int .i64 z1_.f3).wf = true ∧ ((Lit.int .i64 z1_.f4).wf = true ∧ ((Lit.int .i64 z1_.f5).wf = true ∧ ((z1_.f6.length ≤ maxLen ∧ ∀ z2_ ∈ z1_.f6, (Lit.int .i64 z2_).wf = true))))))))) → (Lit.int .u16 a1).wf = true → ∃ k, papermilllaw61_JournalPrefix.f k l0 a1 = some true
theorem papermilllaw61_JournalPrefix.walk (P : papermilllaw61_JournalPrefix.Pure) (A0 : Option Addr) (c0 : Nat) (l0 : List (S24)) (a1 : Int) (w : World) (hT : Kd.C (Kd.int .u32) w TabA crcTab.length crcTab) (hr0 : Kd.C k24 w A0 l0.length l0) (hc0 : l0.length ≤ c0) (q0 : (l0.length ≤ maxLen ∧ ∀ z3_ ∈ l0, ((Lit.int .i64 z3_.f0).wf = true ∧ ((Lit.int .i64 z3_.f1).wf = true ∧ ((Lit.int .i64 z3_.f2).wf = true ∧ ((Lit.int .i64 z3_.f3).wf = true ∧ ((Lit.int .i64 z3_.f4).wf = true ∧ ((Lit.int .i64 z3_.f5).wf = true ∧ ((z3_.f6.length ≤ maxLen ∧ ∀ z4_ ∈ z3_.f6, (Lit.int .i64 z4_).wf = true)))))))))) (q1 : (Lit.int .u16 a1).wf = true) :
    Calls Tryd.prog 7 #[.slice A0 l0.length c0, .int .u16 a1] w fun e w' => e = .returned (.bool true) ∧ Below w.heap.size w w' := by
  obtain ⟨k, h⟩ := P l0 a1 q0 q1
  refine (papermilllaw61_JournalPrefix.calls k _ _ l0 a1 w hr0 hc0 hT h).mono ?_
  rintro e w' ⟨rfl, hd⟩
  exact ⟨rfl, hd⟩

end Go.Proofs.YtpcicooogiialaaDoor.PX
