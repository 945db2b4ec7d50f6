-- Written by a program of this session (hyb.py), which runs the print over the translation with contracts of its own added; it is not the print itself. Lean checks it.
import Derived.Test.YtpcicooogiialaaDoorPXx0
import Derived.Test.YtpcicooogiialaaDoorPXx1
import Derived.Test.YtpcicooogiialaaDoorPXx7
import Derived.Test.YtpcicooogiialaaDoorPXx8
namespace Go.Proofs.YtpcicooogiialaaDoor.PX
open Go.RowKit Go.Proofs.YtpcicooogiialaaDoorW.PrintWords Go.Proofs.YtpcicooogiialaaDoorW.PrintLast Go.Proofs.YtpcicooogiialaaDoorW.PrintMore
attribute [local go_sem] max2_int min2_int max_two min_two max_three min_three max_four min_four   -- for this text's walks alone
set_option linter.unusedVariables false
set_option linter.unusedSimpArgs false

/-! ### papermilllaw61_JournalTail: function 9 -/
mutual
def papermilllaw61_JournalTail.j0 : Nat → List (S24) → List Int → Bool → Option (Bool)
  | 0, _, _, _ => none
  | k + 1, x0, x1, x18 => if x18 = true then ((papermilllaw61_awake.f k).bind fun t328 => (some t328)) else ((papermilllaw61_appended.f k x0).bind fun bt329 => ((some (([] : List Int) : List Int)).bind fun y338 => (if y338.length + bt329.1.length < 140737488355328 then ((some (y338 ++ bt329.1 : List Int)).bind fun y341 => (if y341.length + x1.length < 140737488355328 then ((journal_Recover.f k (y341 ++ x1)).bind fun bt347 => (if (bt347.1.length : Int) < (bt329.2.1.length : Int) then (papermilllaw61_JournalTail.j1 k bt329.1 bt329.2.1 true) else (if bt347.2 < (bt329.1.length : Int) then (papermilllaw61_JournalTail.j1 k bt329.1 bt329.2.1 true) else (if bt347.2 > (wrap64 ((bt329.1.length : Int) + (x1.length : Int))) then (papermilllaw61_JournalTail.j1 k bt329.1 bt329.2.1 true) else (if 0 ≤ (bt329.2.1.length : Int) then (if (bt329.2.1.length : Int) ≤ (bt347.1.length : Int) then ((papermillref61_Same.f k (bt347.1.take ((bt329.2.1.length : Int) : Int).toNat) bt329.2.1).bind fun t356 => (papermilllaw61_JournalTail.j1 k bt329.1 bt329.2.1 (!t356))) else (none)) else (none)))))) else (none))) else (none))))
def papermilllaw61_JournalTail.j1 : Nat → List Int → List (S24) → Bool → Option (Bool)
  | 0, _, _, _ => none
  | k + 1, x5, x6, x63 => if x63 = true then (some false) else ((journal_Recover.f k x5).bind fun bt357 => ((papermillref61_Same.f k bt357.1 x6).bind fun t361 => (if t361 = true then (if bt357.2 = (x5.length : Int) then ((papermilllaw61_awake.f k).bind fun t362 => (some t362)) else (some false)) else (some false))))
end
def papermilllaw61_JournalTail.f (k : Nat) (l0 : List (S24)) (l1 : List Int) : Option (Bool) := (papermilllaw61_great.f k l0).bind fun t327 => (if t327 = true then (papermilllaw61_JournalTail.j0 k l0 l1 true) else (papermilllaw61_JournalTail.j0 k l0 l1 (decide ((l1.length : Int) > 600))))
theorem papermilllaw61_JournalTail.mono_l : ∀ k, (∀ y0 y1 y2, LeO (papermilllaw61_JournalTail.j0 k y0 y1 y2) (papermilllaw61_JournalTail.j0 (k + 1) y0 y1 y2)) ∧ (∀ y0 y1 y2, LeO (papermilllaw61_JournalTail.j1 k y0 y1 y2) (papermilllaw61_JournalTail.j1 (k + 1) y0 y1 y2))
  | 0 => ⟨fun _ _ _ r h => by simp [papermilllaw61_JournalTail.j0] at h, fun _ _ _ r h => by simp [papermilllaw61_JournalTail.j1] at h⟩
  | k + 1 => by
    obtain ⟨ih0, ih1⟩ := papermilllaw61_JournalTail.mono_l k
    refine ⟨?_, ?_⟩
    · intro y0 y1 y2
      unfold papermilllaw61_JournalTail.j0
      repeat' first
      | (with_reducible exact ih0 _ _ _)
      | (with_reducible exact ih1 _ _ _)
      | (with_reducible exact journal_Recover.mono _ _)
      | (with_reducible exact papermilllaw61_appended.mono _ _)
      | (with_reducible exact papermilllaw61_awake.mono _)
      | (with_reducible exact papermilllaw61_great.mono _ _)
      | (with_reducible exact papermillref61_Same.mono _ _ _)
      | (with_reducible exact LeO.refl _)
      | (with_reducible exact LeO.none _)
      | (with_reducible refine LeO.ite ?_ ?_)
      | (with_reducible refine LeO.bind ?_ (fun _ => ?_))
      | exact ih0 _ _ _
      | exact ih1 _ _ _
      | exact journal_Recover.mono _ _
      | exact papermilllaw61_appended.mono _ _
      | exact papermilllaw61_awake.mono _
      | exact papermilllaw61_great.mono _ _
      | exact papermillref61_Same.mono _ _ _
      | exact LeO.none _
      | refine LeO.ite ?_ ?_
      | refine LeO.bind ?_ (fun _ => ?_)
    · intro y0 y1 y2
      unfold papermilllaw61_JournalTail.j1
      repeat' first
      | (with_reducible exact ih0 _ _ _)
      | (with_reducible exact ih1 _ _ _)
      | (with_reducible exact journal_Recover.mono _ _)
      | (with_reducible exact papermilllaw61_appended.mono _ _)
      | (with_reducible exact papermilllaw61_awake.mono _)
      | (with_reducible exact papermilllaw61_great.mono _ _)
      | (with_reducible exact papermillref61_Same.mono _ _ _)
      | (with_reducible exact LeO.refl _)
      | (with_reducible exact LeO.none _)
      | (with_reducible refine LeO.ite ?_ ?_)
      | (with_reducible refine LeO.bind ?_ (fun _ => ?_))
      | exact ih0 _ _ _
      | exact ih1 _ _ _
      | exact journal_Recover.mono _ _
      | exact papermilllaw61_appended.mono _ _
      | exact papermilllaw61_awake.mono _
      | exact papermilllaw61_great.mono _ _
      | exact papermillref61_Same.mono _ _ _
      | exact LeO.none _
      | refine LeO.ite ?_ ?_
      | refine LeO.bind ?_ (fun _ => ?_)
theorem papermilllaw61_JournalTail.mono : ∀ a0 a1 k, LeO (papermilllaw61_JournalTail.f k a0 a1) (papermilllaw61_JournalTail.f (k + 1) a0 a1) := by
  intro a0 a1 k
  obtain ⟨ih0, ih1⟩ := papermilllaw61_JournalTail.mono_l k
  unfold papermilllaw61_JournalTail.f
  repeat' first
      | (with_reducible exact ih0 _ _ _)
      | (with_reducible exact ih1 _ _ _)
      | (with_reducible exact journal_Recover.mono _ _)
      | (with_reducible exact papermilllaw61_appended.mono _ _)
      | (with_reducible exact papermilllaw61_awake.mono _)
      | (with_reducible exact papermilllaw61_great.mono _ _)
      | (with_reducible exact papermillref61_Same.mono _ _ _)
      | (with_reducible exact LeO.refl _)
      | (with_reducible exact LeO.none _)
      | (with_reducible refine LeO.ite ?_ ?_)
      | (with_reducible refine LeO.bind ?_ (fun _ => ?_))
      | exact ih0 _ _ _
      | exact ih1 _ _ _
      | exact journal_Recover.mono _ _
      | exact papermilllaw61_appended.mono _ _
      | exact papermilllaw61_awake.mono _
      | exact papermilllaw61_great.mono _ _
      | exact papermillref61_Same.mono _ _ _
      | exact LeO.none _
      | refine LeO.ite ?_ ?_
      | refine LeO.bind ?_ (fun _ => ?_)
set_option maxHeartbeats 8000000 in
set_option maxRecDepth 100000 in
theorem papermilllaw61_JournalTail.calls (k : Nat) (A0 : Option Addr) (c0 : Nat) (l0 : List (S24)) (A1 : Option Addr) (c1 : Nat) (l1 : List Int) (w : World) (hr0 : Kd.C k24 w A0 l0.length l0) (hc0 : l0.length ≤ c0) (hr1 : Kd.C (Kd.int .u8) w A1 l1.length l1) (hc1 : l1.length ≤ c1) (hT : Kd.C (Kd.int .u32) w TabA crcTab.length crcTab) (h : papermilllaw61_JournalTail.f k l0 l1 = some true) :
    Calls Tryd.prog 9 #[.slice A0 l0.length c0, .slice A1 l1.length c1] w fun e w' => e = .returned (.bool true) ∧ Below w.heap.size w w' := by
  have HT := Aside0.mk hT
  clear hT
  have HR0 := Aside0.mk hr0
  have HC0 := Aside0.mk hc0
  clear hr0 hc0
  have HR1 := Aside0.mk hr1
  have HC1 := Aside0.mk hc1
  clear hr1 hc1
  have HB := Aside0.mk (Below.refl w.heap.size w)
  have H : ((papermilllaw61_great.f k l0).bind fun t327 => (if t327 = true then (papermilllaw61_JournalTail.j0 k l0 l1 true) else (papermilllaw61_JournalTail.j0 k l0 l1 (decide ((l1.length : Int) > 600))))) = some true := h
  clear h
  have HC3 := Aside0.mk H
  clear H
  go_enter Tryd.func9, Tryd.ntmps9
  go_upto_region 1 with (fail)
  go_cut [18] (fun v18 wc => ∃ (kq : Nat) (x18_2 : Bool), v18 = .bool x18_2 ∧ Aside0 (papermilllaw61_JournalTail.j0 kq l0 l1 x18_2 = some true) ∧ Aside0 (kq ≤ k) ∧ Aside0 (Below w.heap.size w wc))
  case first =>
   have H := HC3.out
   clear HC3
   replace H := Option.bind_eq_some_iff.mp H
   obtain ⟨t327, A40, H⟩ := H
   replace H : (if t327 = true then (papermilllaw61_JournalTail.j0 k l0 l1 true) else (papermilllaw61_JournalTail.j0 k l0 l1 (decide ((l1.length : Int) > 600)))) = some true := H
   have A4 := Aside0.mk A40
   clear A40
   by_cases c5 : t327 = true
   ·subst c5
    have H1 : (papermilllaw61_JournalTail.j0 k l0 l1 true) = some true := by rw [if_pos rfl] at H; exact H
    clear H
    have H := H1
    clear H1
    have H' := Aside0.mk H
    clear H
    go_wp2_with (first | ((with_reducible refine gate_callee (f := 11) rfl ?_); refine goesL_ (some 13) rfl rfl Tryd.func11 (by kernel_rfl) rfl #[.slice A0 l0.length c0] rfl (by (try simp only [List.map_toArray, List.map_cons, List.map_nil]); first | done | rfl | (simp only [List.length_drop, List.length_take]; rfl)) ?_; (with_reducible refine (papermilllaw61_great.calls k _ _ l0 true _ ?side1 ?side2 A4.out).mono ?_); (case side1 => repeat (first | exact (Kd.C_below HR0.out HB.out) | (with_reducible refine Kd.C_alloc ?_ _) | (with_reducible refine Kd.C_drewN ?_ _) | (with_reducible refine Kd.C_drew ?_))); (case side2 => exact HC0.out); rintro e w' ⟨rfl, ⟨nd, rfl⟩⟩; refine ⟨_, rfl, ?_⟩))
    go_meet
    case rel => exact ⟨_, (true), (by first | rfl | (simp; done) | (simp [*]; done)), H', ⟨by first | omega | exact Nat.le_refl _⟩, ⟨by repeat (first | (with_reducible first | exact HB.out | apply below_alloc | apply pw_below_drewN | apply below_drew1) | exact HB.out)⟩⟩
   ·replace c5 := Bool.eq_false_iff.mpr c5
    subst c5
    have H1 : (papermilllaw61_JournalTail.j0 k l0 l1 (decide ((l1.length : Int) > 600))) = some true := by rw [if_neg (show ¬ (false = true) by decide)] at H; exact H
    clear H
    have H := H1
    clear H1
    have H' := Aside0.mk H
    clear H
    go_wp2_with (first | ((with_reducible refine gate_callee (f := 11) rfl ?_); refine goesL_ (some 13) rfl rfl Tryd.func11 (by kernel_rfl) rfl #[.slice A0 l0.length c0] rfl (by (try simp only [List.map_toArray, List.map_cons, List.map_nil]); first | done | rfl | (simp only [List.length_drop, List.length_take]; rfl)) ?_; (with_reducible refine (papermilllaw61_great.calls k _ _ l0 false _ ?side1 ?side2 A4.out).mono ?_); (case side1 => repeat (first | exact (Kd.C_below HR0.out HB.out) | (with_reducible refine Kd.C_alloc ?_ _) | (with_reducible refine Kd.C_drewN ?_ _) | (with_reducible refine Kd.C_drew ?_))); (case side2 => exact HC0.out); rintro e w' ⟨rfl, ⟨nd, rfl⟩⟩; refine ⟨_, rfl, ?_⟩))
    go_meet
    case rel => exact ⟨_, (decide ((l1.length : Int) > 600)), (by first | rfl | (simp; done) | (simp [*]; done)), H', ⟨by first | omega | exact Nat.le_refl _⟩, ⟨by repeat (first | (with_reducible first | exact HB.out | apply below_alloc | apply pw_below_drewN | apply below_drew1) | exact HB.out)⟩⟩
  case rest =>
   clear HC3
   try clear c1
   try clear p2
   try clear c5
   obtain ⟨kq, x18_2, rfl, HA, HJ2, HB⟩ := hcut
   cases kq with
   | zero => exact absurd HA.out (by simp [papermilllaw61_JournalTail.j0])
   | succ kj2 =>
    have H := HA.out
    clear HA
    simp only [papermilllaw61_JournalTail.j0] at H
    by_cases c6 : x18_2 = true
    ·subst c6
     have H1 : ((papermilllaw61_awake.f kj2).bind fun t328 => (some t328)) = some true := by rw [if_pos rfl] at H; exact H
     clear H
     have H := H1
     clear H1
     replace H := Option.bind_eq_some_iff.mp H
     obtain ⟨t328, A70, H⟩ := H
     replace H : (some t328) = some true := H
     have A7 := Aside0.mk A70
     clear A70
     have Hl := Option.some.inj H
     go_wp2_with (first | ((with_reducible refine gate_callee (f := 12) rfl ?_); refine goesL_ (some 19) rfl rfl Tryd.func12 (by kernel_rfl) rfl #[] rfl (by (try simp only [List.map_toArray, List.map_cons, List.map_nil]); first | done | rfl | (simp only [List.length_drop, List.length_take]; rfl)) ?_; (with_reducible refine (papermilllaw61_awake.calls kj2  t328 _ ?sideT A7.out).mono ?_); (case sideT => repeat (first | exact HT.out | exact (Kd.C_below HT.out HB.out) | (with_reducible refine Kd.C_alloc ?_ _) | (with_reducible refine Kd.C_drewN ?_ _) | (with_reducible refine Kd.C_drew ?_))); rintro e w8 ⟨rfl, hb⟩; refine ⟨_, rfl, ?_⟩; have n0_ := Aside0.mk (below_step (by repeat (first | (with_reducible first | exact HB.out | apply below_alloc | apply pw_below_drewN | apply below_drew1) | exact HB.out)) hb); clear HB; have HB := n0_; clear n0_; (try clear hb); (try clear hb2); (try clear hk); (try clear hi)))
     go_ret
     exact ⟨by first | rfl | (simp [errW_none, errW_some] <;> rfl) | (simp [*, errW_none, errW_some] <;> rfl), by repeat (first | (with_reducible first | exact HB.out | apply below_alloc | apply pw_below_drewN | apply below_drew1) | exact HB.out)⟩
    ·replace c6 := Bool.eq_false_iff.mpr c6
     subst c6
     have H1 : ((papermilllaw61_appended.f kj2 l0).bind fun bt329 => ((some (([] : List Int) : List Int)).bind fun y338 => (if y338.length + bt329.1.length < 140737488355328 then ((some (y338 ++ bt329.1 : List Int)).bind fun y341 => (if y341.length + l1.length < 140737488355328 then ((journal_Recover.f kj2 (y341 ++ l1)).bind fun bt347 => (if (bt347.1.length : Int) < (bt329.2.1.length : Int) then (papermilllaw61_JournalTail.j1 kj2 bt329.1 bt329.2.1 true) else (if bt347.2 < (bt329.1.length : Int) then (papermilllaw61_JournalTail.j1 kj2 bt329.1 bt329.2.1 true) else (if bt347.2 > (wrap64 ((bt329.1.length : Int) + (l1.length : Int))) then (papermilllaw61_JournalTail.j1 kj2 bt329.1 bt329.2.1 true) else (if 0 ≤ (bt329.2.1.length : Int) then (if (bt329.2.1.length : Int) ≤ (bt347.1.length : Int) then ((papermillref61_Same.f kj2 (bt347.1.take ((bt329.2.1.length : Int) : Int).toNat) bt329.2.1).bind fun t356 => (papermilllaw61_JournalTail.j1 kj2 bt329.1 bt329.2.1 (!t356))) else (none)) else (none)))))) else (none))) else (none)))) = some true := by rw [if_neg (show ¬ (false = true) by decide)] at H; exact H
     clear H
     have H := H1
     clear H1
     replace H := Option.bind_eq_some_iff.mp H
     obtain ⟨⟨t329, t332, t335⟩, A90, H⟩ := H
     replace H : ((some (([] : List Int) : List Int)).bind fun y338 => (if y338.length + t329.length < 140737488355328 then ((some (y338 ++ t329 : List Int)).bind fun y341 => (if y341.length + l1.length < 140737488355328 then ((journal_Recover.f kj2 (y341 ++ l1)).bind fun bt347 => (if (bt347.1.length : Int) < (t332.length : Int) then (papermilllaw61_JournalTail.j1 kj2 t329 t332 true) else (if bt347.2 < (t329.length : Int) then (papermilllaw61_JournalTail.j1 kj2 t329 t332 true) else (if bt347.2 > (wrap64 ((t329.length : Int) + (l1.length : Int))) then (papermilllaw61_JournalTail.j1 kj2 t329 t332 true) else (if 0 ≤ (t332.length : Int) then (if (t332.length : Int) ≤ (bt347.1.length : Int) then ((papermillref61_Same.f kj2 (bt347.1.take ((t332.length : Int) : Int).toNat) t332).bind fun t356 => (papermilllaw61_JournalTail.j1 kj2 t329 t332 (!t356))) else (none)) else (none)))))) else (none))) else (none))) = some true := H
     have A9 := Aside0.mk A90
     clear A90
     obtain ⟨y338, hy338⟩ : ∃ y_ : List Int, y_ = (([] : List Int)) := ⟨_, rfl⟩
     replace H : (if y338.length + t329.length < 140737488355328 then ((some (y338 ++ t329 : List Int)).bind fun y341 => (if y341.length + l1.length < 140737488355328 then ((journal_Recover.f kj2 (y341 ++ l1)).bind fun bt347 => (if (bt347.1.length : Int) < (t332.length : Int) then (papermilllaw61_JournalTail.j1 kj2 t329 t332 true) else (if bt347.2 < (t329.length : Int) then (papermilllaw61_JournalTail.j1 kj2 t329 t332 true) else (if bt347.2 > (wrap64 ((t329.length : Int) + (l1.length : Int))) then (papermilllaw61_JournalTail.j1 kj2 t329 t332 true) else (if 0 ≤ (t332.length : Int) then (if (t332.length : Int) ≤ (bt347.1.length : Int) then ((papermillref61_Same.f kj2 (bt347.1.take ((t332.length : Int) : Int).toNat) t332).bind fun t356 => (papermilllaw61_JournalTail.j1 kj2 t329 t332 (!t356))) else (none)) else (none)))))) else (none))) else (none)) = some true := by first | (rw [hy338]; with_reducible exact H) | (have H2_ := (Option.bind_some _ _).symm.trans H; rw [hy338]; with_reducible exact H2_) | (have H2_ := (Option.bind_some _ _).symm.trans H; with_reducible exact H2_) | with_reducible exact H | (rw [hy338]; exact H) | exact H
     have Ny338 := Aside0.mk hy338
     clear hy338
     by_cases c10 : y338.length + t329.length < 140737488355328
     ·rw [if_pos c10] at H
      have LMc10 := Aside0.mk c10
      clear c10
      obtain ⟨y341, hy341⟩ : ∃ y_ : List Int, y_ = (y338 ++ t329) := ⟨_, rfl⟩
      replace H : (if y341.length + l1.length < 140737488355328 then ((journal_Recover.f kj2 (y341 ++ l1)).bind fun bt347 => (if (bt347.1.length : Int) < (t332.length : Int) then (papermilllaw61_JournalTail.j1 kj2 t329 t332 true) else (if bt347.2 < (t329.length : Int) then (papermilllaw61_JournalTail.j1 kj2 t329 t332 true) else (if bt347.2 > (wrap64 ((t329.length : Int) + (l1.length : Int))) then (papermilllaw61_JournalTail.j1 kj2 t329 t332 true) else (if 0 ≤ (t332.length : Int) then (if (t332.length : Int) ≤ (bt347.1.length : Int) then ((papermillref61_Same.f kj2 (bt347.1.take ((t332.length : Int) : Int).toNat) t332).bind fun t356 => (papermilllaw61_JournalTail.j1 kj2 t329 t332 (!t356))) else (none)) else (none)))))) else (none)) = some true := by first | (rw [hy341]; with_reducible exact H) | (have H2_ := (Option.bind_some _ _).symm.trans H; rw [hy341]; with_reducible exact H2_) | (have H2_ := (Option.bind_some _ _).symm.trans H; with_reducible exact H2_) | with_reducible exact H | (rw [hy341]; exact H) | exact H
      have Ny341 := Aside0.mk hy341
      clear hy341
      by_cases c11 : y341.length + l1.length < 140737488355328
      ·rw [if_pos c11] at H
       have LMc11 := Aside0.mk c11
       clear c11
       obtain ⟨y344, hy344⟩ : ∃ y_ : List Int, y_ = (y341 ++ l1) := ⟨_, rfl⟩
       replace H : ((journal_Recover.f kj2 y344).bind fun bt347 => (if (bt347.1.length : Int) < (t332.length : Int) then (papermilllaw61_JournalTail.j1 kj2 t329 t332 true) else (if bt347.2 < (t329.length : Int) then (papermilllaw61_JournalTail.j1 kj2 t329 t332 true) else (if bt347.2 > (wrap64 ((t329.length : Int) + (l1.length : Int))) then (papermilllaw61_JournalTail.j1 kj2 t329 t332 true) else (if 0 ≤ (t332.length : Int) then (if (t332.length : Int) ≤ (bt347.1.length : Int) then ((papermillref61_Same.f kj2 (bt347.1.take ((t332.length : Int) : Int).toNat) t332).bind fun t356 => (papermilllaw61_JournalTail.j1 kj2 t329 t332 (!t356))) else (none)) else (none)))))) = some true := by first | (rw [hy344]; with_reducible exact H) | (have H2_ := (Option.bind_some _ _).symm.trans H; rw [hy344]; with_reducible exact H2_) | (have H2_ := (Option.bind_some _ _).symm.trans H; with_reducible exact H2_) | with_reducible exact H | (rw [hy344]; exact H) | exact H
       have Ny344 := Aside0.mk hy344
       clear hy344
       replace H := Option.bind_eq_some_iff.mp H
       obtain ⟨⟨t347, t348⟩, A120, H⟩ := H
       replace H : (if (t347.length : Int) < (t332.length : Int) then (papermilllaw61_JournalTail.j1 kj2 t329 t332 true) else (if t348 < (t329.length : Int) then (papermilllaw61_JournalTail.j1 kj2 t329 t332 true) else (if t348 > (wrap64 ((t329.length : Int) + (l1.length : Int))) then (papermilllaw61_JournalTail.j1 kj2 t329 t332 true) else (if 0 ≤ (t332.length : Int) then (if (t332.length : Int) ≤ (t347.length : Int) then ((papermillref61_Same.f kj2 (t347.take ((t332.length : Int) : Int).toNat) t332).bind fun t356 => (papermilllaw61_JournalTail.j1 kj2 t329 t332 (!t356))) else (none)) else (none))))) = some true := H
       have A12 := Aside0.mk A120
       clear A120
       have HC13 := Aside0.mk H
       clear H
       go_upto_region 5 with (first | ((with_reducible refine gate_callee (f := 26) rfl ?_); refine goesL_ (some 22) rfl rfl Tryd.func26 (by kernel_rfl) rfl #[.slice A0 l0.length c0] rfl (by (try simp only [List.map_toArray, List.map_cons, List.map_nil]); first | done | rfl | (simp only [List.length_drop, List.length_take]; rfl)) ?_; (with_reducible refine (papermilllaw61_appended.calls kj2 (fun k_ => k_ < w.heap.size) _ _ l0 t329 t332 t335 _ ?side1 ?sideT A9.out).mono ?_); (case sideT => repeat (first | exact HT.out | exact (Kd.C_below HT.out HB.out) | (with_reducible refine Kd.C_alloc ?_ _) | (with_reducible refine Kd.C_drewN ?_ _) | (with_reducible refine Kd.C_drew ?_))); (case side1 => exact Kd.V_mk HC0.out (Kd.F_below (Kd.C_F k24_heap HR0.out) (by repeat (first | (with_reducible first | exact HB.out | apply below_alloc | apply pw_below_drewN | apply below_drew1) | exact HB.out)))); rintro e w14 ⟨v330, v333, v336, rfl, ho0, ho1, ho2, hb⟩; refine ⟨_, rfl, ?_⟩; have n0_ := Aside0.mk (Kd.R_lower (Kd.R_mono (ok' := fun k_ => True) ho0 (fun _ hk_ => trivial)) (below_size (by repeat (first | (with_reducible first | exact HB.out | apply below_alloc | apply pw_below_drewN | apply below_drew1) | exact HB.out)))); have n1_ := Aside0.mk (Kd.N_lower (Kd.N_mono (ok' := fun k_ => some k_ ≠ (v330 : Value).ownBlock ∧ some k_ ≠ (v336 : Value).ownBlock) ho1 (fun k_ hk_ => ⟨hk_.2.1, hk_.2.2⟩)) (below_size (by repeat (first | (with_reducible first | exact HB.out | apply below_alloc | apply pw_below_drewN | apply below_drew1) | exact HB.out)))); have n2_ := Aside0.mk (Kd.R_lower (Kd.R_mono (ok' := fun k_ => True) ho2 (fun _ hk_ => trivial)) (below_size (by repeat (first | (with_reducible first | exact HB.out | apply below_alloc | apply pw_below_drewN | apply below_drew1) | exact HB.out)))); have n3_ := Aside0.mk (below_step (by repeat (first | (with_reducible first | exact HB.out | apply below_alloc | apply pw_below_drewN | apply below_drew1) | exact HB.out)) hb); clear HB; have HO331 := n0_; have HO334 := n1_; have HO337 := n2_; have HB := n3_; clear n0_ n1_ n2_ n3_; (try clear hb); (try clear hb2); (try clear hk); (try clear hi); (try clear ho0); (try clear ho1); (try clear ho2)) | ((with_reducible refine gate_dst (N := 27) rfl ?_); (try (refine gate_guard (by rfl) ?_; dsimp only)); refine Kd.R_lit (Kd.int .u8) _ 5 ?hg (N := 27) ?hd (xs := ([] : List Int)) (inner := []) (ok := fun _ => True) (okp := fun _ => True) ?hr ?hp (fun _ hk => hk) trivial (Below.refl _ _) (Nat.le_refl _) (by simp) ?_; (case hd => rfl); (case hg => rfl); (case hr => first | (go_simp; done) | (go_simp; rfl)); (case hp => exact (Reps.none _ _)); intro v339 w15 ho16 hb hg_ hnew_; clear hg_ hnew_; (first | rw [← Ny338.out] at ho16 | (simp only [Int.reduceToNat] at ho16; rw [← Ny338.out] at ho16)); have n0_ := Aside0.mk (Kd.R_elder' (by (with_reducible repeat (first | apply Kd.R_alloc | apply Kd.R_drewN | apply Kd.R_drew)); exact HO331.out) (Kd.R_base ho16) hb); have n1_ := Aside0.mk (Kd.N_elder' (by (with_reducible repeat (first | apply Kd.N_alloc | apply Kd.N_drewN | apply Kd.N_drew)); exact HO334.out) (Kd.R_base ho16) hb); have n2_ := Aside0.mk (Kd.R_below (by (with_reducible repeat (first | apply Kd.R_alloc | apply Kd.R_drewN | apply Kd.R_drew)); exact HO337.out) hb); have n3_ := Aside0.mk (Kd.R_lower (Kd.R_new' ho16 (Kd.R_lt (by (with_reducible repeat (first | apply Kd.R_alloc | apply Kd.R_drewN | apply Kd.R_drew)); exact HO331.out))) (below_size (by repeat (first | (with_reducible first | exact HB.out | apply below_alloc | apply pw_below_drewN | apply below_drew1) | exact HB.out)))); have n4_ := Aside0.mk (below_step (by repeat (first | (with_reducible first | exact HB.out | apply below_alloc | apply pw_below_drewN | apply below_drew1) | exact HB.out)) hb); clear HO331; clear HO334; clear HO337; clear HB; have HO331 := n0_; have HO334 := n1_; have HO337 := n2_; have HO340 := n3_; have HB := n4_; clear n0_ n1_ n2_ n3_ n4_; clear hb ho16; obtain ⟨Ao18, co18, eo18⟩ := Kd.R_slice HO331.out; subst eo18) | ((with_reducible refine gate_builtin (b := .append) (xs := #[.tmp 27, .tmp 28]) rfl ?_); (try (refine gate_guard (by rfl) ?_; dsimp only)); at_builtin; refine Kd.R_append_rows (Kd.int .u8) (w0 := w) w.heap.size rfl (.tmp 27) (.tmp 28) 28 5 (.int .u8 0) 1 rfl Tryd.underlying28 info5 rfl (by decide) (by omega) v339 y338 t329 _ _ _ (fun k_ => some k_ ≠ (.slice Ao18 t329.length co18 : Value).ownBlock) (fun _ => False) rfl rfl ?aO ?aR (fun _ _ h => h) (fun _ h => h.elim) ?aF ?aB ?aS ?aL ?_; (case aR => repeat (first | exact (Kd.R_reads' HO331.out).2.2 | (with_reducible refine Kd.C_alloc ?_ _) | (with_reducible refine Kd.C_drewN ?_ _) | (with_reducible refine Kd.C_drew ?_))); (case aB => exact (by repeat (first | (with_reducible first | exact HB.out | apply below_alloc | apply pw_below_drewN | apply below_drew1) | exact HB.out))); (case aF => exact (fun k_ hk => Kd.fresh' (Kd.R_lt (by (with_reducible repeat (first | apply Kd.R_alloc | apply Kd.R_drewN | apply Kd.R_drew)); exact HO331.out)) k_ hk)); (case aO => exact (by (with_reducible repeat (first | apply Kd.R_alloc | apply Kd.R_drewN | apply Kd.R_drew)); exact Kd.R_mono HO340.out (fun _ hk => hk.2))); (case aS => exact (below_size (by repeat (first | (with_reducible first | exact HB.out | apply below_alloc | apply pw_below_drewN | apply below_drew1) | exact HB.out)))); (case aL => have := LMc10.out; omega); intro v342 w17 ho hb hg hat; rw [← Ny341.out] at ho; have n0_ := Aside0.mk (Kd.R_after (ok := (fun _ => True)) (by (with_reducible repeat (first | apply Kd.R_alloc | apply Kd.R_drewN | apply Kd.R_drew)); exact HO331.out) hg hat); have n1_ := Aside0.mk (Kd.N_afterv (ok := (fun k_ => some k_ ≠ (.slice Ao18 t329.length co18 : Value).ownBlock ∧ some k_ ≠ (v336 : Value).ownBlock)) (by (with_reducible repeat (first | apply Kd.N_alloc | apply Kd.N_drewN | apply Kd.N_drew)); exact HO334.out) hg hat); have n2_ := Aside0.mk (Kd.R_over' (by (with_reducible repeat (first | apply Kd.R_alloc | apply Kd.R_drewN | apply Kd.R_drew)); exact HO337.out) (Kd.R_typed (by (with_reducible repeat (first | apply Kd.R_alloc | apply Kd.R_drewN | apply Kd.R_drew)); exact HO340.out)) (by decide) hg); have n3_ := Aside0.mk (hb); have n4_ := Aside0.mk (ho); clear HO331; clear HO334; clear HO337; clear HB; clear HO340; have HO331 := n0_; have HO334 := n1_; have HO337 := n2_; have HB := n3_; have HO343 := n4_; clear n0_ n1_ n2_ n3_ n4_; clear ho hb hg hat) | ((with_reducible refine gate_builtin (b := .append) (xs := #[.tmp 29, .tmp 30]) rfl ?_); (try (refine gate_guard (by rfl) ?_; dsimp only)); at_builtin; refine Kd.R_append_rows (Kd.int .u8) (w0 := w) w.heap.size rfl (.tmp 29) (.tmp 30) 28 5 (.int .u8 0) 1 rfl Tryd.underlying28 info5 rfl (by decide) (by omega) v342 y341 l1 _ _ _ (fun k_ => some k_ ≠ (.slice Ao18 t329.length co18 : Value).ownBlock) (fun _ => False) rfl rfl ?aO ?aR (fun _ _ h => h) (fun _ h => h.elim) ?aF ?aB ?aS ?aL ?_; (case aR => repeat (first | exact (Kd.C_below HR1.out HB.out) | (with_reducible refine Kd.C_alloc ?_ _) | (with_reducible refine Kd.C_drewN ?_ _) | (with_reducible refine Kd.C_drew ?_))); (case aB => exact (by repeat (first | (with_reducible first | exact HB.out | apply below_alloc | apply pw_below_drewN | apply below_drew1) | exact HB.out))); (case aF => exact (fun k_ hk => Kd.fresh' (Kd.R_lt (by (with_reducible repeat (first | apply Kd.R_alloc | apply Kd.R_drewN | apply Kd.R_drew)); exact HO331.out)) k_ hk)); (case aO => exact (by (with_reducible repeat (first | apply Kd.R_alloc | apply Kd.R_drewN | apply Kd.R_drew)); exact HO343.out)); (case aS => exact (below_size (by repeat (first | (with_reducible first | exact HB.out | apply below_alloc | apply pw_below_drewN | apply below_drew1) | exact HB.out)))); (case aL => have := LMc11.out; omega); intro v345 w19 ho hb hg hat; rw [← Ny344.out] at ho; have n0_ := Aside0.mk (Kd.R_after (ok := (fun _ => True)) (by (with_reducible repeat (first | apply Kd.R_alloc | apply Kd.R_drewN | apply Kd.R_drew)); exact HO331.out) hg hat); have n1_ := Aside0.mk (Kd.N_afterv (ok := (fun k_ => some k_ ≠ (.slice Ao18 t329.length co18 : Value).ownBlock ∧ some k_ ≠ (v336 : Value).ownBlock)) (by (with_reducible repeat (first | apply Kd.N_alloc | apply Kd.N_drewN | apply Kd.N_drew)); exact HO334.out) hg hat); have n2_ := Aside0.mk (Kd.R_over' (by (with_reducible repeat (first | apply Kd.R_alloc | apply Kd.R_drewN | apply Kd.R_drew)); exact HO337.out) (Kd.R_typed (by (with_reducible repeat (first | apply Kd.R_alloc | apply Kd.R_drewN | apply Kd.R_drew)); exact HO343.out)) (by decide) hg); have n3_ := Aside0.mk (hb); have n4_ := Aside0.mk (ho); clear HO331; clear HO334; clear HO337; clear HB; clear HO343; have HO331 := n0_; have HO334 := n1_; have HO337 := n2_; have HB := n3_; have HO346 := n4_; clear n0_ n1_ n2_ n3_ n4_; clear ho hb hg hat; obtain ⟨Ao20, co20, eo20⟩ := Kd.R_slice HO346.out; subst eo20) | ((with_reducible refine gate_callee (f := 23) rfl ?_); refine goesL_ (some 32) rfl rfl Tryd.func23 (by kernel_rfl) rfl #[.slice Ao20 y344.length co20] rfl (by (try simp only [List.map_toArray, List.map_cons, List.map_nil]); first | done | rfl | (simp only [List.length_drop, List.length_take]; rfl)) ?_; (with_reducible refine (journal_Recover.calls kj2 _ _ y344 t347 t348 _ ?side1 ?side2 ?sideT A12.out).mono ?_); (case sideT => repeat (first | exact HT.out | exact (Kd.C_below HT.out HB.out) | (with_reducible refine Kd.C_alloc ?_ _) | (with_reducible refine Kd.C_drewN ?_ _) | (with_reducible refine Kd.C_drew ?_))); (case side1 => repeat (first | exact (Kd.R_reads' HO346.out).2.2 | (with_reducible refine Kd.C_alloc ?_ _) | (with_reducible refine Kd.C_drewN ?_ _) | (with_reducible refine Kd.C_drew ?_))); (case side2 => exact (Kd.R_reads' HO346.out).2.1); rintro e w21 ⟨v349, rfl, ho0, hb⟩; refine ⟨_, rfl, ?_⟩; have n0_ := Aside0.mk (Kd.R_below (by (with_reducible repeat (first | apply Kd.R_alloc | apply Kd.R_drewN | apply Kd.R_drew)); exact HO331.out) hb); have n1_ := Aside0.mk (Kd.N_elder' (by (with_reducible repeat (first | apply Kd.N_alloc | apply Kd.N_drewN | apply Kd.N_drew)); exact HO334.out) (Kd.N_base (Kd.S_N ho0)) hb); have n2_ := Aside0.mk (Kd.R_below (by (with_reducible repeat (first | apply Kd.R_alloc | apply Kd.R_drewN | apply Kd.R_drew)); exact HO337.out) hb); have n3_ := Aside0.mk (Kd.R_below (by (with_reducible repeat (first | apply Kd.R_alloc | apply Kd.R_drewN | apply Kd.R_drew)); exact HO346.out) hb); have n4_ := Aside0.mk (Kd.N_lower (Kd.N_mono (ok' := fun k_ => some k_ ≠ (.slice Ao18 t329.length co18 : Value).ownBlock ∧ some k_ ≠ (v333 : Value).ownBlock ∧ some k_ ≠ (v336 : Value).ownBlock ∧ some k_ ≠ (.slice Ao20 y344.length co20 : Value).ownBlock) (Kd.S_N (Kd.S_bound ho0)) (fun k_ hk_ => ⟨(Kd.fresh' (Kd.R_lt (by (with_reducible repeat (first | apply Kd.R_alloc | apply Kd.R_drewN | apply Kd.R_drew)); exact HO331.out)) k_ hk_.2.1), (Kd.fresh' (Kd.N_lt (by (with_reducible repeat (first | apply Kd.N_alloc | apply Kd.N_drewN | apply Kd.N_drew)); exact HO334.out)) k_ hk_.2.1), (Kd.fresh' (Kd.R_lt (by (with_reducible repeat (first | apply Kd.R_alloc | apply Kd.R_drewN | apply Kd.R_drew)); exact HO337.out)) k_ hk_.2.1), (Kd.fresh' (Kd.R_lt (by (with_reducible repeat (first | apply Kd.R_alloc | apply Kd.R_drewN | apply Kd.R_drew)); exact HO346.out)) k_ hk_.2.1)⟩)) (below_size (by repeat (first | (with_reducible first | exact HB.out | apply below_alloc | apply pw_below_drewN | apply below_drew1) | exact HB.out)))); have n5_ := Aside0.mk (below_step (by repeat (first | (with_reducible first | exact HB.out | apply below_alloc | apply pw_below_drewN | apply below_drew1) | exact HB.out)) hb); clear HO331; clear HO334; clear HO337; clear HO346; clear HB; have HO331 := n0_; have HO334 := n1_; have HO337 := n2_; have HO346 := n3_; have HO350 := n4_; have HB := n5_; clear n0_ n1_ n2_ n3_ n4_ n5_; (try clear hb); (try clear hb2); (try clear hk); (try clear hi); (try clear ho0)))
       (try simp only [Act.put, List.setIfInBounds_toArray, List.set_cons_zero, List.set_cons_succ])
       go_cut [63] (fun v63 wc => ∃ (kq : Nat) (x63_12 : Bool), v63 = .bool x63_12 ∧ Aside0 (papermilllaw61_JournalTail.j1 kq t329 t332 x63_12 = some true) ∧ Aside0 (kq ≤ kj2) ∧ Aside0 (Kd.R (Kd.int .u8) 5 wc w.heap.size (fun _ => True) (.slice Ao18 t329.length co18) t329) ∧ Aside0 (Kd.N k24 24 wc w.heap.size (fun k_ => some k_ ≠ ((.slice Ao18 t329.length co18) : Value).ownBlock) v333 t332) ∧ Aside0 (Below w.heap.size w wc))
       case first =>
        have H := HC13.out
        clear HC13
        by_cases c22 : (t347.length : Int) < (t332.length : Int)
        ·rw [if_pos c22] at H
         have c22b0 : decide ((t347.length : Int) < (t332.length : Int)) = true := decide_eq_true c22
         have c22b1 : decide (t347.length < t332.length) = true := decide_eq_true (Int.ofNat_lt.mp c22)
         clear c22
         (first | rw [c22b0] | (simp only [i64_w, i32_w]; rw [c22b0]) | skip)
         have H' := Aside0.mk H
         clear H
         obtain ⟨Ao23, co23, eo23⟩ := Kd.N_slice HO350.out
         subst eo23
         obtain ⟨Ao24, co24, eo24⟩ := Kd.N_slice HO334.out
         subst eo24
         go_wp2
         go_meet
         case rel => exact ⟨_, (true), (by first | rfl | (simp; done) | (simp [*]; done)), H', ⟨by have := HJ2.out; first | omega | exact Nat.le_refl _⟩, ⟨by (with_reducible repeat (first | apply Kd.R_alloc | apply Kd.R_drewN | apply Kd.R_drew)); exact Kd.R_mono HO331.out (fun _ hk => trivial)⟩, ⟨by (with_reducible repeat (first | apply Kd.N_alloc | apply Kd.N_drewN | apply Kd.N_drew)); exact Kd.N_mono HO334.out (fun _ hk => hk.1.1.1)⟩, ⟨by repeat (first | (with_reducible first | exact HB.out | apply below_alloc | apply pw_below_drewN | apply below_drew1) | exact HB.out)⟩⟩
        ·rw [if_neg c22] at H
         have c22b0 : decide ((t347.length : Int) < (t332.length : Int)) = false := decide_eq_false c22
         have c22b1 : decide (t347.length < t332.length) = false := decide_eq_false (fun h => c22 (Int.ofNat_lt.mpr h))
         clear c22
         (first | rw [c22b0] | (simp only [i64_w, i32_w]; rw [c22b0]) | skip)
         by_cases c25 : t348 < (t329.length : Int)
         ·rw [if_pos c25] at H
          have c25b0 : decide (t348 < (t329.length : Int)) = true := decide_eq_true c25
          clear c25
          have H' := Aside0.mk H
          clear H
          obtain ⟨Ao26, co26, eo26⟩ := Kd.N_slice HO350.out
          subst eo26
          obtain ⟨Ao27, co27, eo27⟩ := Kd.N_slice HO334.out
          subst eo27
          go_wp2
          go_meet
          case rel => exact ⟨_, (true), (by first | rfl | (simp; done) | (simp [*]; done)), H', ⟨by have := HJ2.out; first | omega | exact Nat.le_refl _⟩, ⟨by (with_reducible repeat (first | apply Kd.R_alloc | apply Kd.R_drewN | apply Kd.R_drew)); exact Kd.R_mono HO331.out (fun _ hk => trivial)⟩, ⟨by (with_reducible repeat (first | apply Kd.N_alloc | apply Kd.N_drewN | apply Kd.N_drew)); exact Kd.N_mono HO334.out (fun _ hk => hk.1.1.1)⟩, ⟨by repeat (first | (with_reducible first | exact HB.out | apply below_alloc | apply pw_below_drewN | apply below_drew1) | exact HB.out)⟩⟩
         ·rw [if_neg c25] at H
          have c25b0 : decide (t348 < (t329.length : Int)) = false := decide_eq_false c25
          clear c25
          by_cases c28 : t348 > (wrap64 ((t329.length : Int) + (l1.length : Int)))
          ·rw [if_pos c28] at H
           have c28b0 : decide ((wrap64 ((t329.length : Int) + (l1.length : Int))) < t348) = true := decide_eq_true c28
           clear c28
           have H' := Aside0.mk H
           clear H
           obtain ⟨Ao29, co29, eo29⟩ := Kd.N_slice HO350.out
           subst eo29
           obtain ⟨Ao30, co30, eo30⟩ := Kd.N_slice HO334.out
           subst eo30
           go_wp2
           go_meet
           case rel => exact ⟨_, (true), (by first | rfl | (simp; done) | (simp [*]; done)), H', ⟨by have := HJ2.out; first | omega | exact Nat.le_refl _⟩, ⟨by (with_reducible repeat (first | apply Kd.R_alloc | apply Kd.R_drewN | apply Kd.R_drew)); exact Kd.R_mono HO331.out (fun _ hk => trivial)⟩, ⟨by (with_reducible repeat (first | apply Kd.N_alloc | apply Kd.N_drewN | apply Kd.N_drew)); exact Kd.N_mono HO334.out (fun _ hk => hk.1.1.1)⟩, ⟨by repeat (first | (with_reducible first | exact HB.out | apply below_alloc | apply pw_below_drewN | apply below_drew1) | exact HB.out)⟩⟩
          ·rw [if_neg c28] at H
           have c28b0 : decide ((wrap64 ((t329.length : Int) + (l1.length : Int))) < t348) = false := decide_eq_false c28
           clear c28
           by_cases c31 : 0 ≤ (t332.length : Int)
           ·rw [if_pos c31] at H
            have c31b0 := eq_true c31
            have c31b1 : decide (0 ≤ (t332.length : Int)) = true := decide_eq_true c31
            clear c31
            by_cases c32 : (t332.length : Int) ≤ (t347.length : Int)
            ·rw [if_pos c32] at H
             have c32b0 := eq_true c32
             have c32b1 : decide ((t332.length : Int) ≤ (t347.length : Int)) = true := decide_eq_true c32
             clear c32
             obtain ⟨y351, hy351⟩ : ∃ y_ : List (S24), y_ = (t347.take ((t332.length : Int) : Int).toNat) := ⟨_, rfl⟩
             replace H : ((papermillref61_Same.f kj2 y351 t332).bind fun t356 => (papermilllaw61_JournalTail.j1 kj2 t329 t332 (!t356))) = some true := by first | (rw [hy351]; with_reducible exact H) | (have H2_ := (Option.bind_some _ _).symm.trans H; rw [hy351]; with_reducible exact H2_) | (have H2_ := (Option.bind_some _ _).symm.trans H; with_reducible exact H2_) | with_reducible exact H | (rw [hy351]; exact H) | exact H
             have Ny351 := Aside0.mk hy351
             clear hy351
             replace H := Option.bind_eq_some_iff.mp H
             obtain ⟨t356, A330, H⟩ := H
             replace H : (papermilllaw61_JournalTail.j1 kj2 t329 t332 (!t356)) = some true := H
             have A33 := Aside0.mk A330
             clear A330
             have H' := Aside0.mk H
             clear H
             obtain ⟨Ao34, co34, eo34⟩ := Kd.N_slice HO350.out
             subst eo34
             obtain ⟨Ao35, co35, eo35⟩ := Kd.N_slice HO334.out
             subst eo35
             have q36 : ((t332.length : Int) : Int) ≤ ((t347.length : Int) : Int) := of_decide_eq_true (by first | (with_reducible assumption) | assumption)
             obtain ⟨i036, hi036, _, hsz36, _⟩ := info_parts info24
             have hroom36 : t347.length ≤ co34 := (Kd.N_reads' HO350.out).2.1
             have hC36 : Kd.F k24 _ _ Ao34 t347.length t347 := (Kd.V_at (base := w.heap.size) (Kd.N_V HO350.out)).2.2
             have hcut36 := cut_to (P := Tryd.prog) 26 24 .i64 Tryd.underlying26 hi036 Ao34 t347.length co34 (t332.length : Int) (of_decide_eq_true (by first | (with_reducible assumption) | assumption)) q36 hroom36
             have hr36 := Kd.F_take (m := ((t332.length : Int) : Int).toNat) hC36 (by omega)
             have hy36 : y351.length = ((t332.length : Int) : Int).toNat := (by rw [Ny351.out, List.length_take]; omega)
             rw [← Ny351.out] at hr36
             rw [← hy36] at hcut36
             have HO355 := Aside0.mk (show Kd.V k24 24 _ w.heap.size _ (.slice Ao34 y351.length co34) y351 from Kd.V_mk (by omega) hr36)
             have HC355 := Aside0.mk (show y351.length ≤ co34 from by omega)
             clear hr36 hC36 hroom36 hi036 hsz36
             have KY36 := Aside0.mk hy36
             clear hy36
             replace q36 := eq_true q36
             go_wp2_with (first | (go_at_call 25; (with_reducible refine (papermillref61_Same.calls kj2 _ _ y351 _ _ t332 t356 _ ?side1 ?side2 ?side3 ?side4 A33.out).mono ?_); (case side1 => repeat (first | exact (Kd.V_reads' HO355.out).2.2 | (with_reducible refine Kd.C_alloc ?_ _) | (with_reducible refine Kd.C_drewN ?_ _) | (with_reducible refine Kd.C_drew ?_))); (case side2 => exact (Kd.V_reads' HO355.out).2.1); (case side3 => repeat (first | exact (Kd.N_reads' HO334.out).2.2 | (with_reducible refine Kd.C_alloc ?_ _) | (with_reducible refine Kd.C_drewN ?_ _) | (with_reducible refine Kd.C_drew ?_))); (case side4 => exact (Kd.N_reads' HO334.out).2.1); rintro e w37 ⟨rfl, hb⟩; have n0_ := Aside0.mk (Kd.R_below (by (with_reducible repeat (first | apply Kd.R_alloc | apply Kd.R_drewN | apply Kd.R_drew)); exact HO331.out) hb); have n1_ := Aside0.mk (Kd.N_below (by (with_reducible repeat (first | apply Kd.N_alloc | apply Kd.N_drewN | apply Kd.N_drew)); exact HO334.out) hb); have n2_ := Aside0.mk (Kd.R_below (by (with_reducible repeat (first | apply Kd.R_alloc | apply Kd.R_drewN | apply Kd.R_drew)); exact HO337.out) hb); have n3_ := Aside0.mk (Kd.R_below (by (with_reducible repeat (first | apply Kd.R_alloc | apply Kd.R_drewN | apply Kd.R_drew)); exact HO346.out) hb); have n4_ := Aside0.mk (Kd.N_below (by (with_reducible repeat (first | apply Kd.N_alloc | apply Kd.N_drewN | apply Kd.N_drew)); exact HO350.out) hb); have n5_ := Aside0.mk (Kd.V_below (by (with_reducible repeat (first | apply Kd.V_alloc | apply Kd.V_drewN | apply Kd.V_drew)); exact HO355.out) hb); have n6_ := Aside0.mk (below_step (by repeat (first | (with_reducible first | exact HB.out | apply below_alloc | apply pw_below_drewN | apply below_drew1) | exact HB.out)) hb); clear HO331; clear HO334; clear HO337; clear HO346; clear HO350; clear HO355; clear HB; have HO331 := n0_; have HO334 := n1_; have HO337 := n2_; have HO346 := n3_; have HO350 := n4_; have HO355 := n5_; have HB := n6_; clear n0_ n1_ n2_ n3_ n4_ n5_ n6_; (try clear hb); (try clear hb2); (try clear hk); (try clear hi)))
             go_meet
             case rel => exact ⟨_, (!t356), (by first | rfl | (simp; done) | (simp [*]; done)), H', ⟨by have := HJ2.out; first | omega | exact Nat.le_refl _⟩, ⟨by (with_reducible repeat (first | apply Kd.R_alloc | apply Kd.R_drewN | apply Kd.R_drew)); exact Kd.R_mono HO331.out (fun _ hk => trivial)⟩, ⟨by (with_reducible repeat (first | apply Kd.N_alloc | apply Kd.N_drewN | apply Kd.N_drew)); exact Kd.N_mono HO334.out (fun _ hk => hk.1.1.1)⟩, ⟨by repeat (first | (with_reducible first | exact HB.out | apply below_alloc | apply pw_below_drewN | apply below_drew1) | exact HB.out)⟩⟩
            ·rw [if_neg c32] at H
             exact absurd H (by simp)
           ·rw [if_neg c31] at H
            exact absurd H (by simp)
       case rest =>
        clear HC13
        try clear c1
        try clear c2
        try clear p2
        try clear c3
        try clear q3
        try clear c5
        try clear c6
        try clear p6
        try clear c9
        try clear c10
        try clear c11
        try clear c12
        try clear c22
        try clear c22b0
        try clear c22b1
        try clear c23
        try clear c25
        try clear c25b0
        try clear c26
        try clear c28
        try clear c28b0
        try clear c31
        try clear c31b0
        try clear c31b1
        try clear c32
        try clear c32b0
        try clear c32b1
        try clear q36
        try clear p2
        try clear q36
        obtain ⟨kq, x63_12, rfl, HA, HJ12, HO_5, HO_6, HB⟩ := hcut
        cases kq with
        | zero => exact absurd HA.out (by simp [papermilllaw61_JournalTail.j1])
        | succ kj12 =>
         have H := HA.out
         clear HA
         simp only [papermilllaw61_JournalTail.j1] at H
         by_cases c38 : x63_12 = true
         ·subst c38
          have H1 : (some false) = some true := by rw [if_pos rfl] at H; exact H
          clear H
          have H := H1
          clear H1
          have Hl := Option.some.inj H
          go_wp2
          go_ret
          exact ⟨by first | rfl | (simp [errW_none, errW_some] <;> rfl) | (simp [*, errW_none, errW_some] <;> rfl), by repeat (first | (with_reducible first | exact HB.out | apply below_alloc | apply pw_below_drewN | apply below_drew1) | exact HB.out)⟩
         ·replace c38 := Bool.eq_false_iff.mpr c38
          subst c38
          have H1 : ((journal_Recover.f kj12 t329).bind fun bt357 => ((papermillref61_Same.f kj12 bt357.1 t332).bind fun t361 => (if t361 = true then (if bt357.2 = (t329.length : Int) then ((papermilllaw61_awake.f kj12).bind fun t362 => (some t362)) else (some false)) else (some false)))) = some true := by rw [if_neg (show ¬ (false = true) by decide)] at H; exact H
          clear H
          have H := H1
          clear H1
          replace H := Option.bind_eq_some_iff.mp H
          obtain ⟨⟨t357, t358⟩, A390, H⟩ := H
          replace H : ((papermillref61_Same.f kj12 t357 t332).bind fun t361 => (if t361 = true then (if t358 = (t329.length : Int) then ((papermilllaw61_awake.f kj12).bind fun t362 => (some t362)) else (some false)) else (some false))) = some true := H
          have A39 := Aside0.mk A390
          clear A390
          replace H := Option.bind_eq_some_iff.mp H
          obtain ⟨t361, A400, H⟩ := H
          replace H : (if t361 = true then (if t358 = (t329.length : Int) then ((papermilllaw61_awake.f kj12).bind fun t362 => (some t362)) else (some false)) else (some false)) = some true := H
          have A40 := Aside0.mk A400
          clear A400
          by_cases c41 : t361 = true
          ·subst c41
           have H1 : (if t358 = (t329.length : Int) then ((papermilllaw61_awake.f kj12).bind fun t362 => (some t362)) else (some false)) = some true := by rw [if_pos rfl] at H; exact H
           clear H
           have H := H1
           clear H1
           by_cases c42 : t358 = (t329.length : Int)
           ·rw [if_pos c42] at H
            have c42b0 : (t358 == (t329.length : Int)) = true := beq_iff_eq.mpr c42
            have c42b1 : (t358 != (t329.length : Int)) = false := bne_eq_false_iff_eq.mpr c42
            clear c42
            replace H := Option.bind_eq_some_iff.mp H
            obtain ⟨t362, A430, H⟩ := H
            replace H : (some t362) = some true := H
            have A43 := Aside0.mk A430
            clear A430
            have Hl := Option.some.inj H
            go_wp2_with (first | ((with_reducible refine gate_callee (f := 23) rfl ?_); refine goesL_ (some 66) rfl rfl Tryd.func23 (by kernel_rfl) rfl #[.slice Ao18 t329.length co18] rfl (by (try simp only [List.map_toArray, List.map_cons, List.map_nil]); first | done | rfl | (simp only [List.length_drop, List.length_take]; rfl)) ?_; (with_reducible refine (journal_Recover.calls kj12 _ _ t329 t357 t358 _ ?side1 ?side2 ?sideT A39.out).mono ?_); (case sideT => repeat (first | exact HT.out | exact (Kd.C_below HT.out HB.out) | (with_reducible refine Kd.C_alloc ?_ _) | (with_reducible refine Kd.C_drewN ?_ _) | (with_reducible refine Kd.C_drew ?_))); (case side1 => repeat (first | exact (Kd.R_reads' HO_5.out).2.2 | (with_reducible refine Kd.C_alloc ?_ _) | (with_reducible refine Kd.C_drewN ?_ _) | (with_reducible refine Kd.C_drew ?_))); (case side2 => exact (Kd.R_reads' HO_5.out).2.1); rintro e w44 ⟨v359, rfl, ho0, hb⟩; refine ⟨_, rfl, ?_⟩; have n0_ := Aside0.mk (Kd.R_below (by (with_reducible repeat (first | apply Kd.R_alloc | apply Kd.R_drewN | apply Kd.R_drew)); exact HO_5.out) hb); have n1_ := Aside0.mk (Kd.N_elder' (by (with_reducible repeat (first | apply Kd.N_alloc | apply Kd.N_drewN | apply Kd.N_drew)); exact HO_6.out) (Kd.N_base (Kd.S_N ho0)) hb); have n2_ := Aside0.mk (Kd.N_lower (Kd.N_mono (ok' := fun k_ => some k_ ≠ (.slice Ao18 t329.length co18 : Value).ownBlock ∧ some k_ ≠ (v333 : Value).ownBlock) (Kd.S_N (Kd.S_bound ho0)) (fun k_ hk_ => ⟨(Kd.fresh' (Kd.R_lt (by (with_reducible repeat (first | apply Kd.R_alloc | apply Kd.R_drewN | apply Kd.R_drew)); exact HO_5.out)) k_ hk_.2.1), (Kd.fresh' (Kd.N_lt (by (with_reducible repeat (first | apply Kd.N_alloc | apply Kd.N_drewN | apply Kd.N_drew)); exact HO_6.out)) k_ hk_.2.1)⟩)) (below_size (by repeat (first | (with_reducible first | exact HB.out | apply below_alloc | apply pw_below_drewN | apply below_drew1) | exact HB.out)))); have n3_ := Aside0.mk (below_step (by repeat (first | (with_reducible first | exact HB.out | apply below_alloc | apply pw_below_drewN | apply below_drew1) | exact HB.out)) hb); clear HO_5; clear HO_6; clear HB; have HO_5 := n0_; have HO_6 := n1_; have HO360 := n2_; have HB := n3_; clear n0_ n1_ n2_ n3_; (try clear hb); (try clear hb2); (try clear hk); (try clear hi); (try clear ho0); obtain ⟨Ao45, co45, eo45⟩ := Kd.N_slice HO360.out; subst eo45; obtain ⟨Ao46, co46, eo46⟩ := Kd.N_slice HO_6.out; subst eo46) | ((with_reducible refine gate_callee (f := 25) rfl ?_); refine goesL_ (some 71) rfl rfl Tryd.func25 (by kernel_rfl) rfl #[.slice Ao45 t357.length co45, .slice Ao46 t332.length co46] rfl (by (try simp only [List.map_toArray, List.map_cons, List.map_nil]); first | done | rfl | (simp only [List.length_drop, List.length_take]; rfl)) ?_; (with_reducible refine (papermillref61_Same.calls kj12 _ _ t357 _ _ t332 true _ ?side1 ?side2 ?side3 ?side4 A40.out).mono ?_); (case side1 => repeat (first | exact (Kd.N_reads' HO360.out).2.2 | (with_reducible refine Kd.C_alloc ?_ _) | (with_reducible refine Kd.C_drewN ?_ _) | (with_reducible refine Kd.C_drew ?_))); (case side2 => exact (Kd.N_reads' HO360.out).2.1); (case side3 => repeat (first | exact (Kd.N_reads' HO_6.out).2.2 | (with_reducible refine Kd.C_alloc ?_ _) | (with_reducible refine Kd.C_drewN ?_ _) | (with_reducible refine Kd.C_drew ?_))); (case side4 => exact (Kd.N_reads' HO_6.out).2.1); rintro e w47 ⟨rfl, hb⟩; refine ⟨_, rfl, ?_⟩; have n0_ := Aside0.mk (Kd.R_below (by (with_reducible repeat (first | apply Kd.R_alloc | apply Kd.R_drewN | apply Kd.R_drew)); exact HO_5.out) hb); have n1_ := Aside0.mk (Kd.N_below (by (with_reducible repeat (first | apply Kd.N_alloc | apply Kd.N_drewN | apply Kd.N_drew)); exact HO_6.out) hb); have n2_ := Aside0.mk (Kd.N_below (by (with_reducible repeat (first | apply Kd.N_alloc | apply Kd.N_drewN | apply Kd.N_drew)); exact HO360.out) hb); have n3_ := Aside0.mk (below_step (by repeat (first | (with_reducible first | exact HB.out | apply below_alloc | apply pw_below_drewN | apply below_drew1) | exact HB.out)) hb); clear HO_5; clear HO_6; clear HO360; clear HB; have HO_5 := n0_; have HO_6 := n1_; have HO360 := n2_; have HB := n3_; clear n0_ n1_ n2_ n3_; (try clear hb); (try clear hb2); (try clear hk); (try clear hi)) | (go_at_call 12; (with_reducible refine (papermilllaw61_awake.calls kj12  t362 _ ?sideT A43.out).mono ?_); (case sideT => repeat (first | exact HT.out | exact (Kd.C_below HT.out HB.out) | (with_reducible refine Kd.C_alloc ?_ _) | (with_reducible refine Kd.C_drewN ?_ _) | (with_reducible refine Kd.C_drew ?_))); rintro e w48 ⟨rfl, hb⟩; have n0_ := Aside0.mk (Kd.R_below (by (with_reducible repeat (first | apply Kd.R_alloc | apply Kd.R_drewN | apply Kd.R_drew)); exact HO_5.out) hb); have n1_ := Aside0.mk (Kd.N_below (by (with_reducible repeat (first | apply Kd.N_alloc | apply Kd.N_drewN | apply Kd.N_drew)); exact HO_6.out) hb); have n2_ := Aside0.mk (Kd.N_below (by (with_reducible repeat (first | apply Kd.N_alloc | apply Kd.N_drewN | apply Kd.N_drew)); exact HO360.out) hb); have n3_ := Aside0.mk (below_step (by repeat (first | (with_reducible first | exact HB.out | apply below_alloc | apply pw_below_drewN | apply below_drew1) | exact HB.out)) hb); clear HO_5; clear HO_6; clear HO360; clear HB; have HO_5 := n0_; have HO_6 := n1_; have HO360 := n2_; have HB := n3_; clear n0_ n1_ n2_ n3_; (try clear hb); (try clear hb2); (try clear hk); (try clear hi)))
            go_ret
            exact ⟨by first | rfl | (simp [errW_none, errW_some] <;> rfl) | (simp [*, errW_none, errW_some] <;> rfl), by repeat (first | (with_reducible first | exact HB.out | apply below_alloc | apply pw_below_drewN | apply below_drew1) | exact HB.out)⟩
           ·rw [if_neg c42] at H
            exact absurd H (by simp)
          ·exact absurd H (by rw [if_neg c41]; simp)
      ·rw [if_neg c11] at H
       exact absurd H (by simp)
     ·rw [if_neg c10] at H
      exact absurd H (by simp)

/-- THE ONE PURE STATEMENT of papermilllaw61_JournalTail. -/
def papermilllaw61_JournalTail.Pure : Prop := ∀ (l0 : List (S24)) (l1 : List Int), (l0.length ≤ maxLen ∧ ∀ z5_ ∈ l0, ((Lit.int .i64 z5_.f0).wf = true ∧ ((Lit.int .i64 z5_.f1).wf = true ∧ ((Lit.int .i64 z5_.f2).wf = true ∧ ((Lit.int .i64 z5_.f3).wf = true ∧ ((Lit.int .i64 z5_.f4).wf = true ∧ ((Lit.int .i64 z5_.f5).wf = true ∧ ((z5_.f6.length ≤ maxLen ∧ ∀ z6_ ∈ z5_.f6, (Lit.int .i64 z6_).wf = true))))))))) → (l1.length ≤ maxLen ∧ ∀ z7_ ∈ l1, (Lit.int .u8 z7_).wf = true) → ∃ k, papermilllaw61_JournalTail.f k l0 l1 = some true
theorem papermilllaw61_JournalTail.walk (P : papermilllaw61_JournalTail.Pure) (A0 : Option Addr) (c0 : Nat) (l0 : List (S24)) (A1 : Option Addr) (c1 : Nat) (l1 : List Int) (w : World) (hT : Kd.C (Kd.int .u32) w TabA crcTab.length crcTab) (hr0 : Kd.C k24 w A0 l0.length l0) (hc0 : l0.length ≤ c0) (hr1 : Kd.C (Kd.int .u8) w A1 l1.length l1) (hc1 : l1.length ≤ c1) (q0 : (l0.length ≤ maxLen ∧ ∀ z8_ ∈ l0, ((Lit.int .i64 z8_.f0).wf = true ∧ ((Lit.int .i64 z8_.f1).wf = true ∧ ((Lit.int .i64 z8_.f2).wf = true ∧ ((Lit.int .i64 z8_.f3).wf = true ∧ ((Lit.int .i64 z8_.f4).wf = true ∧ ((Lit.int .i64 z8_.f5).wf = true ∧ ((z8_.f6.length ≤ maxLen ∧ ∀ z9_ ∈ z8_.f6, (Lit.int .i64 z9_).wf = true)))))))))) (q1 : (l1.length ≤ maxLen ∧ ∀ z10_ ∈ l1, (Lit.int .u8 z10_).wf = true)) :
    Calls Tryd.prog 9 #[.slice A0 l0.length c0, .slice A1 l1.length c1] w fun e w' => e = .returned (.bool true) ∧ Below w.heap.size w w' := by
  obtain ⟨k, h⟩ := P l0 l1 q0 q1
  refine (papermilllaw61_JournalTail.calls k _ _ l0 _ _ l1 w hr0 hc0 hr1 hc1 hT h).mono ?_
  rintro e w' ⟨rfl, hd⟩
  exact ⟨rfl, hd⟩

/-! ### papermillref61_money: function 33 -/
def papermillref61_money.f (a0 : Int) : Option (Bool) := if a0 ≥ (-1000000000000) then (some (decide (a0 ≤ 1000000000000))) else (some false)
set_option maxHeartbeats 8000000 in
set_option maxRecDepth 100000 in
theorem papermillref61_money.calls (a0 : Int) (r : Bool) (w : World) (h : papermillref61_money.f a0 = some r) :
    Calls Tryd.prog 33 #[.int .i64 a0] w fun e w' => e = .returned (.bool r) ∧ Drawn0 w w' := by
  have H : (if a0 ≥ (-1000000000000) then (some (decide (a0 ≤ 1000000000000))) else (some false)) = some r := h
  clear h
  by_cases c2 : a0 ≥ (-1000000000000)
  ·rw [if_pos c2] at H
   have c2b0 : decide ((-1000000000000) ≤ a0) = true := decide_eq_true c2
   clear c2
   obtain rfl := Option.some.inj H
   go_enter Tryd.func33, Tryd.ntmps33
   go_wp2
   go_ret
   exact ⟨by first | rfl | (simp; done) | (simp [*]; done), by repeat (first | exact Drawn0.refl _ | apply Drawn0.step)⟩
  ·rw [if_neg c2] at H
   have c2b0 : decide ((-1000000000000) ≤ a0) = false := decide_eq_false c2
   clear c2
   obtain rfl := Option.some.inj H
   go_enter Tryd.func33, Tryd.ntmps33
   go_wp2
   go_ret
   exact ⟨by first | rfl | (simp; done) | (simp [*]; done), by repeat (first | exact Drawn0.refl _ | apply Drawn0.step)⟩

end Go.Proofs.YtpcicooogiialaaDoor.PX
