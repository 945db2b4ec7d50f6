-- Written by a program of this session (hyb.py), which runs the print over the translation with contracts of its own added; it is not the print itself. Lean checks it.
import Derived.Test.YtpcicooogiialaaDoorPGx0
import Derived.Test.YtpcicooogiialaaDoorPGx1
import Derived.Test.YtpcicooogiialaaDoorPGx2
import Derived.Test.YtpcicooogiialaaDoorPGx3
import Derived.Test.YtpcicooogiialaaDoorPGx4
namespace Go.Proofs.YtpcicooogiialaaDoor.PG
open Go.RowKit Go.Proofs.YtpcicooogiialaaDoorW.PrintWords Go.Proofs.YtpcicooogiialaaDoorW.PrintLast Go.Proofs.YtpcicooogiialaaDoorW.PrintMore
attribute [local go_sem] max2_int min2_int max_two min_two max_three min_three max_four min_four   -- for this text's walks alone
set_option linter.unusedVariables false
set_option linter.unusedSimpArgs false

/-! ### journal_Get: function 18 -/
def journal_Get.l0 (k : Nat) : Nat → List Int → List Int → Option (Int × Int × Int × Int × Int × Int × List Int × Int)
  | 0, b, xs => (wire_TakeList.f k b 32).bind fun t => if t.2.2 = 0 then (if t.2.1 < (b.length : Int) then some (0, 0, 0, 0, 0, 0, [], 3) else (journal_Check.f k (rd xs 0) (rd xs 1) (rd xs 2) (rd xs 3) (rd xs 4) (rd xs 5) t.1).bind fun f => if f = 0 then some (rd xs 0, rd xs 1, rd xs 2, rd xs 3, rd xs 4, rd xs 5, t.1, 0) else some (0, 0, 0, 0, 0, 0, [], f)) else some (0, 0, 0, 0, 0, 0, [], t.2.2)
  | m + 1, b, xs => (wire_TakeInt.f k b).bind fun t => if t.2.2 = 0 then (if 0 ≤ t.2.1 ∧ t.2.1 ≤ (b.length : Int) then journal_Get.l0 k m (b.drop t.2.1.toNat) (xs.set (5 - m) t.1) else none) else some (0, 0, 0, 0, 0, 0, [], t.2.2)
def journal_Get.f (k : Nat) (l0 : List Int) : Option (Int × Int × Int × Int × Int × Int × List Int × Int) := journal_Get.l0 k 6 l0 [0, 0, 0, 0, 0, 0]
theorem journal_Get.mono_l (k : Nat) : ∀ m b xs, LeO (journal_Get.l0 k m b xs) (journal_Get.l0 (k + 1) m b xs)
  | 0, b, xs => by
    unfold journal_Get.l0
    repeat' first
      | (with_reducible exact LeO.refl _)
      | (with_reducible exact LeO.none _)
      | exact journal_Check.mono _ _ _ _ _ _ _ _
      | exact wire_TakeList.mono _ _ _
      | (with_reducible refine LeO.ite ?_ ?_)
      | (with_reducible refine LeO.bind ?_ (fun _ => ?_))
  | m + 1, b, xs => by
    unfold journal_Get.l0
    repeat' first
      | (with_reducible exact LeO.refl _)
      | (with_reducible exact LeO.none _)
      | exact journal_Get.mono_l k m _ _
      | exact wire_TakeInt.mono _ _
      | (with_reducible refine LeO.ite ?_ ?_)
      | (with_reducible refine LeO.bind ?_ (fun _ => ?_))
theorem journal_Get.mono : ∀ a0 k, LeO (journal_Get.f k a0) (journal_Get.f (k + 1) a0) := fun a0 k => journal_Get.mono_l k 6 a0 _
set_option maxHeartbeats 4000000 in
set_option maxRecDepth 100000 in
theorem journal_Get.calls (k : Nat) (A0 : Option Addr) (c0 : Nat) (l0 : List Int) (r1 : Int) (r2 : Int) (r3 : Int) (r4 : Int) (r5 : Int) (r6 : Int) (r7 : List Int) (r8 : Int) (w : World) (hr0 : Kd.C (Kd.int .u8) w A0 l0.length l0) (hc0 : l0.length ≤ c0) (h : journal_Get.f k l0 = some (r1, r2, r3, r4, r5, r6, r7, r8)) :
    Calls Tryd.prog 18 #[.slice A0 l0.length c0] w fun e w' => ∃ v6_ : Value, e = .returned (.tuple #[.agg #[.int .i64 r1, .int .i64 r2, .int .i64 r3, .int .i64 r4, .int .i64 r5, .int .i64 r6, v6_], .int .i64 r8]) ∧ Kd.R (Kd.int .i64) 3 w' w.heap.size (fun _ => True) v6_ r7 ∧ Below w.heap.size w w' := by
  have hu24 := Tryd.underlying24
  have HR := Aside0.mk hr0
  have HC := Aside0.mk hc0
  have H := Aside0.mk h
  have HB := Aside0.mk (Below.refl w.heap.size w)
  clear hr0 hc0 h
  go_enter Tryd.func18, Tryd.ntmps18
  go_wp2_with (first
    | ((with_reducible refine gate_dst (N := 2) rfl ?_); (go_must (refine box_event ?hg (N := 2) ?hd (cs := #[.int .i64 0, .int .i64 0, .int .i64 0, .int .i64 0, .int .i64 0, .int .i64 0, .slice none 0 0]) (t := 24) ?hr ?_)); (case hd => rfl); (case hg => rfl); (case hr => first | (go_simp; done) | (go_simp; rfl)); intro gr hg w1 hbox hb; have BR1 := Aside0.mk hbox; have HB1 := Aside0.mk hb; have GR := Aside0.mk (Nat.le_of_eq hg.symm); clear hbox hb hg HB)
    | ((with_reducible refine gate_dst (N := 4) rfl ?_); (go_must (refine box_event ?hg (N := 4) ?hd (cs := #[.int .i64 0, .int .i64 0, .int .i64 0, .int .i64 0, .int .i64 0, .int .i64 0, .slice none 0 0]) (t := 24) ?hr ?_)); (case hd => rfl); (case hg => rfl); (case hr => first | (go_simp; done) | (go_simp; rfl)); intro ge hg w2 hbox hb; have BR2 := Aside0.mk (blk_below BR1.out hb); have BE2 := Aside0.mk hbox; have HB2 := Aside0.mk (below_step HB1.out hb); have GE := Aside0.mk (Nat.le_trans (below_size HB1.out) (Nat.le_of_eq hg.symm)); have NE := Aside0.mk (show gr ≠ ge from fun e => absurd (blk_lt BR1.out) (by rw [e, hg]; exact Nat.lt_irrefl _)); clear hbox hb hg BR1 HB1)
    | (go_at_call 27; (go_must (refine (fields_calls ge _).mono ?_)); rintro e w3 ⟨rfl, hb⟩; have BR3 := Aside0.mk (blk_below BR2.out hb); have BE3 := Aside0.mk (blk_below BE2.out hb); have HB3 := Aside0.mk (below_step HB2.out hb); clear BR2 BE2 HB2 hb))
  go_loopg [0, 15] 6 (fun kq v0 v15 w' => ∃ (bs : List Int) (A : Option Addr) (c : Nat) (i : Nat) (x0 x1 x2 x3 x4 x5 : Int), v0 = .slice A bs.length c ∧ v15 = .int .i64 (i : Int) ∧ Aside0 (kq = 6 - i ∧ i ≤ 6) ∧ Aside0 (journal_Get.l0 k (6 - i) bs [x0, x1, x2, x3, x4, x5] = some (r1, r2, r3, r4, r5, r6, r7, r8)) ∧ Aside0 (Kd.C (Kd.int .u8) w A bs.length bs ∧ bs.length ≤ c) ∧ Aside0 (w'.heap[gr]? = some (.cells #[.int .i64 0, .int .i64 0, .int .i64 0, .int .i64 0, .int .i64 0, .int .i64 0, .slice none 0 0] 24 (0, 0))) ∧ Aside0 (w'.heap[ge]? = some (.cells #[.int .i64 x0, .int .i64 x1, .int .i64 x2, .int .i64 x3, .int .i64 x4, .int .i64 x5, .slice none 0 0] 24 (0, 0))) ∧ Aside0 (Below w.heap.size w w'))
  case atStart => exact ⟨l0, A0, c0, 0, 0, 0, 0, 0, 0, 0, rfl, rfl, ⟨by omega⟩, H, ⟨HR.out, HC.out⟩, BR3, BE3, HB3⟩
  case round =>
    obtain ⟨bs, A, c, i, x0, x1, x2, x3, x4, x5, rfl, rfl, HI, HQ, HX, BR3, BE3, HB3⟩ := hrel
    clear H HR HC
    by_cases c4 : i < 6
    · have c4b : decide ((i : Int) < 6) = true := decide_eq_true (by omega)
      obtain ⟨y, hy⟩ : ∃ y, wr.cell? ⟨ge, i, none⟩ = some (.int .i64 y) := by
        have hc0 := (blk_cell BE3.out 0).trans rfl
        have hc1 := (blk_cell BE3.out 1).trans rfl
        have hc2 := (blk_cell BE3.out 2).trans rfl
        have hc3 := (blk_cell BE3.out 3).trans rfl
        have hc4 := (blk_cell BE3.out 4).trans rfl
        have hc5 := (blk_cell BE3.out 5).trans rfl
        rcases (by omega : i = 0 ∨ i = 1 ∨ i = 2 ∨ i = 3 ∨ i = 4 ∨ i = 5) with rfl | rfl | rfl | rfl | rfl | rfl
        · exact ⟨_, hc0⟩
        · exact ⟨_, hc1⟩
        · exact ⟨_, hc2⟩
        · exact ⟨_, hc3⟩
        · exact ⟨_, hc4⟩
        · exact ⟨_, hc5⟩
      have hyf := blk_frozen BE3.out i
      obtain ⟨⟨v, n, f⟩, hcs, hcr⟩ := Option.bind_eq_some_iff.mp (show (wire_TakeInt.f k bs).bind (fun t => if t.2.2 = 0 then (if 0 ≤ t.2.1 ∧ t.2.1 ≤ (bs.length : Int) then journal_Get.l0 k (5 - i) (bs.drop t.2.1.toNat) ([x0, x1, x2, x3, x4, x5].set (5 - (5 - i)) t.1) else none) else some (0, 0, 0, 0, 0, 0, [], t.2.2)) = some (r1, r2, r3, r4, r5, r6, r7, r8) by
        have hq := HQ.out
        rw [show 6 - i = (5 - i) + 1 by omega] at hq
        exact hq)
      have HCS := Aside0.mk hcs
      have hidx := fld_index ge i c4
      by_cases cf : f = 0
      · subst cf
        simp only [if_true] at hcr
        by_cases cn : 0 ≤ n ∧ n ≤ (bs.length : Int)
        · rw [if_pos cn] at hcr
          have HCR := Aside0.mk hcr
          obtain ⟨i0_, hi0_, _, hsz0_, _⟩ := info_parts info5
          obtain ⟨A5, hcut5, hA5, hC5⟩ := print_drop_of (P := Tryd.prog) (Value.int .u8) 0 28 5 .i64 Tryd.underlying28 hi0_ hsz0_ A c bs n cn.1 cn.2 HX.out.2
          have HX5 := Aside0.mk (show Kd.C (Kd.int .u8) w A5 (bs.drop n.toNat).length (bs.drop n.toNat) ∧ _ from ⟨Kd.C_of_reads (h1 := fun _ => rfl) (hA5 _ (Kd.reads_of_C HX.out.1)), hC5⟩)
          clear hcs hcr hA5 hC5 hi0_ hsz0_
          go_wp2_with (first | (go_at_call 34; (go_must (refine (wire_TakeInt.calls k _ _ bs v n 0 _ (Kd.C_below HX.out.1 HB3.out) HX.out.2 HCS.out).mono ?_)); rintro e w5 ⟨rfl, ⟨nd, rfl⟩⟩))
          go_roundg (6 - (i + 1))
          case measure => have := HI.out; omega
          case rel =>
            obtain ⟨y0, y1, y2, y3, y4, y5, hy1, hy2⟩ : ∃ y0 y1 y2 y3 y4 y5, [x0, x1, x2, x3, x4, x5].set (5 - (5 - i)) v = [y0, y1, y2, y3, y4, y5] ∧ ((wr.drewN nd).setCell ⟨ge, i, none⟩ (.int .i64 v)).heap[ge]? = some (.cells #[.int .i64 y0, .int .i64 y1, .int .i64 y2, .int .i64 y3, .int .i64 y4, .int .i64 y5, .slice none 0 0] 24 (0, 0)) := by
              rcases (by omega : i = 0 ∨ i = 1 ∨ i = 2 ∨ i = 3 ∨ i = 4 ∨ i = 5) with rfl | rfl | rfl | rfl | rfl | rfl
              · exact ⟨v, x1, x2, x3, x4, x5, rfl, blk_put (blk_drewN BE3.out nd) 0 _ rfl⟩
              · exact ⟨x0, v, x2, x3, x4, x5, rfl, blk_put (blk_drewN BE3.out nd) 1 _ rfl⟩
              · exact ⟨x0, x1, v, x3, x4, x5, rfl, blk_put (blk_drewN BE3.out nd) 2 _ rfl⟩
              · exact ⟨x0, x1, x2, v, x4, x5, rfl, blk_put (blk_drewN BE3.out nd) 3 _ rfl⟩
              · exact ⟨x0, x1, x2, x3, v, x5, rfl, blk_put (blk_drewN BE3.out nd) 4 _ rfl⟩
              · exact ⟨x0, x1, x2, x3, x4, v, rfl, blk_put (blk_drewN BE3.out nd) 5 _ rfl⟩
            refine ⟨bs.drop n.toNat, A5, c - n.toNat, i + 1, y0, y1, y2, y3, y4, y5, by rw [List.length_drop], rfl, ⟨by omega⟩, ⟨?_⟩, HX5, ⟨?_⟩, ⟨hy2⟩, ⟨below_set (pw_below_drewN HB3.out nd) GE.out⟩⟩
            · rw [← hy1, show 6 - (i + 1) = 5 - i by omega]
              exact HCR.out
            · exact blk_far (blk_drewN BR3.out nd) NE.out _
        · rw [if_neg cn] at hcr
          cases hcr
      · simp only [if_neg cf] at hcr
        injection hcr with hcr
        injection hcr with e1 hcr
        injection hcr with e2 hcr
        injection hcr with e3 hcr
        injection hcr with e4 hcr
        injection hcr with e5 hcr
        injection hcr with e6 hcr
        injection hcr with e7 e8
        subst e1 e2 e3 e4 e5 e6 e7 e8
        have cfb : (f != 0) = true := bne_iff_ne.mpr cf
        clear hcs cf
        have hr0 : wr.cell? ⟨gr, 0, none⟩ = some (.int .i64 0) := (blk_cell BR3.out 0).trans rfl
        have hr1 : wr.cell? ⟨gr, 1, none⟩ = some (.int .i64 0) := (blk_cell BR3.out 1).trans rfl
        have hr2 : wr.cell? ⟨gr, 2, none⟩ = some (.int .i64 0) := (blk_cell BR3.out 2).trans rfl
        have hr3 : wr.cell? ⟨gr, 3, none⟩ = some (.int .i64 0) := (blk_cell BR3.out 3).trans rfl
        have hr4 : wr.cell? ⟨gr, 4, none⟩ = some (.int .i64 0) := (blk_cell BR3.out 4).trans rfl
        have hr5 : wr.cell? ⟨gr, 5, none⟩ = some (.int .i64 0) := (blk_cell BR3.out 5).trans rfl
        have hr6 : wr.cell? ⟨gr, 6, none⟩ = some (.slice none 0 0) := (blk_cell BR3.out 6).trans rfl
        have hg0 := blk_frozen BR3.out 0
        have hg1 := blk_frozen BR3.out 1
        have hg2 := blk_frozen BR3.out 2
        have hg3 := blk_frozen BR3.out 3
        have hg4 := blk_frozen BR3.out 4
        have hg5 := blk_frozen BR3.out 5
        have hg6 := blk_frozen BR3.out 6
        go_wp2_with (first | (go_at_call 34; (go_must (refine (wire_TakeInt.calls k _ _ bs v n f _ (Kd.C_below HX.out.1 HB3.out) HX.out.2 HCS.out).mono ?_)); rintro e w5 ⟨rfl, ⟨nd, rfl⟩⟩))
        refine bodyPost_ret (results_ct rfl _ _ gr 24 #[.int .i64 0, .int .i64 0, .int .i64 0, .int .i64 0, .int .i64 0, .int .i64 0, .slice none 0 0] (0, 0) _ rfl (blk_put (blk_put (blk_put (blk_put (blk_put (blk_put (blk_put (blk_drewN BR3.out nd) 0 _ rfl) 1 _ rfl) 2 _ rfl) 3 _ rfl) 4 _ rfl) 5 _ rfl) 6 _ rfl) hu24 rfl (by kernel_rfl)) rfl ?_
        exact ⟨_, rfl, Kd.R_nil _ _ _ _ _, (below_set (below_set (below_set (below_set (below_set (below_set (below_set (pw_below_drewN HB3.out nd) GR.out) GR.out) GR.out) GR.out) GR.out) GR.out) GR.out)⟩
    · have c4b : decide ((i : Int) < 6) = false := decide_eq_false (by omega)
      obtain ⟨⟨ls, n, f⟩, hcs, hcr⟩ := Option.bind_eq_some_iff.mp (show (wire_TakeList.f k bs 32).bind (fun t => if t.2.2 = 0 then (if t.2.1 < (bs.length : Int) then some (0, 0, 0, 0, 0, 0, [], 3) else (journal_Check.f k x0 x1 x2 x3 x4 x5 t.1).bind fun f => if f = 0 then some (x0, x1, x2, x3, x4, x5, t.1, 0) else some (0, 0, 0, 0, 0, 0, [], f)) else some (0, 0, 0, 0, 0, 0, [], t.2.2)) = some (r1, r2, r3, r4, r5, r6, r7, r8) by
        have hq := HQ.out
        rw [show 6 - i = 0 by omega] at hq
        exact hq)
      have HCS := Aside0.mk hcs
      by_cases cf : f = 0
      · subst cf
        simp only [if_true] at hcr
        by_cases cn : n < (bs.length : Int)
        · rw [if_pos cn] at hcr
          injection hcr with hcr
          injection hcr with e1 hcr
          injection hcr with e2 hcr
          injection hcr with e3 hcr
          injection hcr with e4 hcr
          injection hcr with e5 hcr
          injection hcr with e6 hcr
          injection hcr with e7 e8
          subst e1 e2 e3 e4 e5 e6 e7 e8
          have cnb : decide (n < (bs.length : Int)) = true := decide_eq_true cn
          clear hcs cn
          go_wp2_with (first | (go_at_call 35; (go_must (refine (wire_TakeList.calls k _ _ bs 32 ls n 0 _ (Kd.C_below HX.out.1 HB3.out) HX.out.2 HCS.out).mono ?_)); rintro e w5 ⟨v5, rfl, ho, hb⟩; obtain ⟨Ao, co, eo⟩ := Kd.R_slice ho; subst eo; have HO5 := Aside0.mk (Kd.R_lower (Kd.R_mono (ok' := fun k => k ≠ gr ∧ k ≠ ge) (Kd.R_bound ho) (fun k hk => ⟨fun e => (by have h1 := blk_lt BR3.out; have h2 := hk.2.1; omega), fun e => (by have h1 := blk_lt BE3.out; have h2 := hk.2.1; omega)⟩)) (below_size HB3.out)); have BR5 := Aside0.mk (blk_below BR3.out hb); have BE5 := Aside0.mk (blk_below BE3.out hb); have HB5 := Aside0.mk (below_step HB3.out hb); clear hb ho; have hr0 : w5.cell? ⟨gr, 0, none⟩ = some (.int .i64 0) := (blk_cell BR5.out 0).trans rfl; have hr1 : w5.cell? ⟨gr, 1, none⟩ = some (.int .i64 0) := (blk_cell BR5.out 1).trans rfl; have hr2 : w5.cell? ⟨gr, 2, none⟩ = some (.int .i64 0) := (blk_cell BR5.out 2).trans rfl; have hr3 : w5.cell? ⟨gr, 3, none⟩ = some (.int .i64 0) := (blk_cell BR5.out 3).trans rfl; have hr4 : w5.cell? ⟨gr, 4, none⟩ = some (.int .i64 0) := (blk_cell BR5.out 4).trans rfl; have hr5 : w5.cell? ⟨gr, 5, none⟩ = some (.int .i64 0) := (blk_cell BR5.out 5).trans rfl; have hr6 : w5.cell? ⟨gr, 6, none⟩ = some (.slice none 0 0) := (blk_cell BR5.out 6).trans rfl; have hg0 := blk_frozen BR5.out 0; have hg1 := blk_frozen BR5.out 1; have hg2 := blk_frozen BR5.out 2; have hg3 := blk_frozen BR5.out 3; have hg4 := blk_frozen BR5.out 4; have hg5 := blk_frozen BR5.out 5; have hg6 := blk_frozen BR5.out 6))
          refine bodyPost_ret (results_ct rfl _ _ gr 24 #[.int .i64 0, .int .i64 0, .int .i64 0, .int .i64 0, .int .i64 0, .int .i64 0, .slice none 0 0] (0, 0) _ rfl (blk_put (blk_put (blk_put (blk_put (blk_put (blk_put (blk_put BR5.out 0 _ rfl) 1 _ rfl) 2 _ rfl) 3 _ rfl) 4 _ rfl) 5 _ rfl) 6 _ rfl) hu24 rfl (by kernel_rfl)) rfl ?_
          exact ⟨_, rfl, Kd.R_nil _ _ _ _ _, (below_set (below_set (below_set (below_set (below_set (below_set (below_set HB5.out GR.out) GR.out) GR.out) GR.out) GR.out) GR.out) GR.out)⟩
        · rw [if_neg cn] at hcr
          have cnb : decide (n < (bs.length : Int)) = false := decide_eq_false cn
          obtain ⟨f1, hk, hcr⟩ := Option.bind_eq_some_iff.mp hcr
          have HK := Aside0.mk hk
          clear hcs cn hk
          by_cases cg : f1 = 0
          · subst cg
            simp only [if_true] at hcr
            injection hcr with hcr
            injection hcr with e1 hcr
            injection hcr with e2 hcr
            injection hcr with e3 hcr
            injection hcr with e4 hcr
            injection hcr with e5 hcr
            injection hcr with e6 hcr
            injection hcr with e7 e8
            subst e1 e2 e3 e4 e5 e6 e7 e8
            go_wp2_with (first | (go_at_call 35; (go_must (refine (wire_TakeList.calls k _ _ bs 32 ls n 0 _ (Kd.C_below HX.out.1 HB3.out) HX.out.2 HCS.out).mono ?_)); rintro e w5 ⟨v5, rfl, ho, hb⟩; obtain ⟨Ao, co, eo⟩ := Kd.R_slice ho; subst eo; have HO5 := Aside0.mk (Kd.R_lower (Kd.R_mono (ok' := fun k => k ≠ gr ∧ k ≠ ge) (Kd.R_bound ho) (fun k hk => ⟨fun e => (by have h1 := blk_lt BR3.out; have h2 := hk.2.1; omega), fun e => (by have h1 := blk_lt BE3.out; have h2 := hk.2.1; omega)⟩)) (below_size HB3.out)); have BR5 := Aside0.mk (blk_below BR3.out hb); have BE5 := Aside0.mk (blk_below BE3.out hb); have HB5 := Aside0.mk (below_step HB3.out hb); clear hb ho; have he0 := (blk_cell BE5.out 0).trans rfl; have he1 := (blk_cell BE5.out 1).trans rfl; have he2 := (blk_cell BE5.out 2).trans rfl; have he3 := (blk_cell BE5.out 3).trans rfl; have he4 := (blk_cell BE5.out 4).trans rfl; have he5 := (blk_cell BE5.out 5).trans rfl; have he6 := (blk_cell BE5.out 6).trans rfl; have hf0 := blk_frozen BE5.out 0; have hf1 := blk_frozen BE5.out 1; have hf2 := blk_frozen BE5.out 2; have hf3 := blk_frozen BE5.out 3; have hf4 := blk_frozen BE5.out 4; have hf5 := blk_frozen BE5.out 5; have hf6 := blk_frozen BE5.out 6) | (go_at_call 15; (go_must (refine (journal_Check.calls k x0 x1 x2 x3 x4 x5 _ _ ls 0 _ (Kd.R_reads' (Kd.R_far HO5.out (p := ⟨ge, 6, none⟩) (fun k hk => hk.2) _)).2.2 (Kd.R_reads' HO5.out).2.1 HK.out).mono ?_)); rintro e w6 ⟨rfl, hb⟩; have HO6 := Aside0.mk (Kd.R_below (Kd.R_far HO5.out (p := ⟨ge, 6, none⟩) (fun k hk => hk.2) _) hb); have BR6 := Aside0.mk (blk_below (blk_far BR5.out NE.out _) hb); have BE6 := Aside0.mk (blk_below (blk_put BE5.out 6 _ rfl) hb); have HB6 := Aside0.mk (below_step (below_set HB5.out GE.out) hb); clear hb he0 he1 he2 he3 he4 he5 he6 hf0 hf1 hf2 hf3 hf4 hf5 hf6; have hr0 : w6.cell? ⟨gr, 0, none⟩ = some (.int .i64 0) := (blk_cell BR6.out 0).trans rfl; have hr1 : w6.cell? ⟨gr, 1, none⟩ = some (.int .i64 0) := (blk_cell BR6.out 1).trans rfl; have hr2 : w6.cell? ⟨gr, 2, none⟩ = some (.int .i64 0) := (blk_cell BR6.out 2).trans rfl; have hr3 : w6.cell? ⟨gr, 3, none⟩ = some (.int .i64 0) := (blk_cell BR6.out 3).trans rfl; have hr4 : w6.cell? ⟨gr, 4, none⟩ = some (.int .i64 0) := (blk_cell BR6.out 4).trans rfl; have hr5 : w6.cell? ⟨gr, 5, none⟩ = some (.int .i64 0) := (blk_cell BR6.out 5).trans rfl; have hr6 : w6.cell? ⟨gr, 6, none⟩ = some (.slice none 0 0) := (blk_cell BR6.out 6).trans rfl; have hg0 := blk_frozen BR6.out 0; have hg1 := blk_frozen BR6.out 1; have hg2 := blk_frozen BR6.out 2; have hg3 := blk_frozen BR6.out 3; have hg4 := blk_frozen BR6.out 4; have hg5 := blk_frozen BR6.out 5; have hg6 := blk_frozen BR6.out 6; have he0 : w6.cell? ⟨ge, 0, none⟩ = some (.int .i64 x0) := (blk_cell BE6.out 0).trans rfl; have he1 : w6.cell? ⟨ge, 1, none⟩ = some (.int .i64 x1) := (blk_cell BE6.out 1).trans rfl; have he2 : w6.cell? ⟨ge, 2, none⟩ = some (.int .i64 x2) := (blk_cell BE6.out 2).trans rfl; have he3 : w6.cell? ⟨ge, 3, none⟩ = some (.int .i64 x3) := (blk_cell BE6.out 3).trans rfl; have he4 : w6.cell? ⟨ge, 4, none⟩ = some (.int .i64 x4) := (blk_cell BE6.out 4).trans rfl; have he5 : w6.cell? ⟨ge, 5, none⟩ = some (.int .i64 x5) := (blk_cell BE6.out 5).trans rfl; have he6 : w6.cell? ⟨ge, 6, none⟩ = some (.slice Ao ls.length co) := (blk_cell BE6.out 6).trans rfl))
            refine bodyPost_ret (results_ct rfl _ _ gr 24 #[.int .i64 x0, .int .i64 x1, .int .i64 x2, .int .i64 x3, .int .i64 x4, .int .i64 x5, .slice Ao ls.length co] (0, 0) _ rfl (blk_put (blk_put (blk_put (blk_put (blk_put (blk_put (blk_put BR6.out 0 _ rfl) 1 _ rfl) 2 _ rfl) 3 _ rfl) 4 _ rfl) 5 _ rfl) 6 _ rfl) hu24 rfl (by kernel_rfl)) rfl ?_
            exact ⟨_, rfl, Kd.R_mono (Kd.R_far (Kd.R_far (Kd.R_far (Kd.R_far (Kd.R_far (Kd.R_far (Kd.R_far HO6.out (fun k hk => hk.1) _) (fun k hk => hk.1) _) (fun k hk => hk.1) _) (fun k hk => hk.1) _) (fun k hk => hk.1) _) (fun k hk => hk.1) _) (fun k hk => hk.1) _) (fun _ _ => trivial), (below_set (below_set (below_set (below_set (below_set (below_set (below_set HB6.out GR.out) GR.out) GR.out) GR.out) GR.out) GR.out) GR.out)⟩
          · simp only [if_neg cg] at hcr
            injection hcr with hcr
            injection hcr with e1 hcr
            injection hcr with e2 hcr
            injection hcr with e3 hcr
            injection hcr with e4 hcr
            injection hcr with e5 hcr
            injection hcr with e6 hcr
            injection hcr with e7 e8
            subst e1 e2 e3 e4 e5 e6 e7 e8
            have cgb : (f1 != 0) = true := bne_iff_ne.mpr cg
            clear cg
            go_wp2_with (first | (go_at_call 35; (go_must (refine (wire_TakeList.calls k _ _ bs 32 ls n 0 _ (Kd.C_below HX.out.1 HB3.out) HX.out.2 HCS.out).mono ?_)); rintro e w5 ⟨v5, rfl, ho, hb⟩; obtain ⟨Ao, co, eo⟩ := Kd.R_slice ho; subst eo; have HO5 := Aside0.mk (Kd.R_lower (Kd.R_mono (ok' := fun k => k ≠ gr ∧ k ≠ ge) (Kd.R_bound ho) (fun k hk => ⟨fun e => (by have h1 := blk_lt BR3.out; have h2 := hk.2.1; omega), fun e => (by have h1 := blk_lt BE3.out; have h2 := hk.2.1; omega)⟩)) (below_size HB3.out)); have BR5 := Aside0.mk (blk_below BR3.out hb); have BE5 := Aside0.mk (blk_below BE3.out hb); have HB5 := Aside0.mk (below_step HB3.out hb); clear hb ho; have he0 := (blk_cell BE5.out 0).trans rfl; have he1 := (blk_cell BE5.out 1).trans rfl; have he2 := (blk_cell BE5.out 2).trans rfl; have he3 := (blk_cell BE5.out 3).trans rfl; have he4 := (blk_cell BE5.out 4).trans rfl; have he5 := (blk_cell BE5.out 5).trans rfl; have he6 := (blk_cell BE5.out 6).trans rfl; have hf0 := blk_frozen BE5.out 0; have hf1 := blk_frozen BE5.out 1; have hf2 := blk_frozen BE5.out 2; have hf3 := blk_frozen BE5.out 3; have hf4 := blk_frozen BE5.out 4; have hf5 := blk_frozen BE5.out 5; have hf6 := blk_frozen BE5.out 6) | (go_at_call 15; (go_must (refine (journal_Check.calls k x0 x1 x2 x3 x4 x5 _ _ ls f1 _ (Kd.R_reads' (Kd.R_far HO5.out (p := ⟨ge, 6, none⟩) (fun k hk => hk.2) _)).2.2 (Kd.R_reads' HO5.out).2.1 HK.out).mono ?_)); rintro e w6 ⟨rfl, hb⟩; have HO6 := Aside0.mk (Kd.R_below (Kd.R_far HO5.out (p := ⟨ge, 6, none⟩) (fun k hk => hk.2) _) hb); have BR6 := Aside0.mk (blk_below (blk_far BR5.out NE.out _) hb); have BE6 := Aside0.mk (blk_below (blk_put BE5.out 6 _ rfl) hb); have HB6 := Aside0.mk (below_step (below_set HB5.out GE.out) hb); clear hb he0 he1 he2 he3 he4 he5 he6 hf0 hf1 hf2 hf3 hf4 hf5 hf6; have hr0 : w6.cell? ⟨gr, 0, none⟩ = some (.int .i64 0) := (blk_cell BR6.out 0).trans rfl; have hr1 : w6.cell? ⟨gr, 1, none⟩ = some (.int .i64 0) := (blk_cell BR6.out 1).trans rfl; have hr2 : w6.cell? ⟨gr, 2, none⟩ = some (.int .i64 0) := (blk_cell BR6.out 2).trans rfl; have hr3 : w6.cell? ⟨gr, 3, none⟩ = some (.int .i64 0) := (blk_cell BR6.out 3).trans rfl; have hr4 : w6.cell? ⟨gr, 4, none⟩ = some (.int .i64 0) := (blk_cell BR6.out 4).trans rfl; have hr5 : w6.cell? ⟨gr, 5, none⟩ = some (.int .i64 0) := (blk_cell BR6.out 5).trans rfl; have hr6 : w6.cell? ⟨gr, 6, none⟩ = some (.slice none 0 0) := (blk_cell BR6.out 6).trans rfl; have hg0 := blk_frozen BR6.out 0; have hg1 := blk_frozen BR6.out 1; have hg2 := blk_frozen BR6.out 2; have hg3 := blk_frozen BR6.out 3; have hg4 := blk_frozen BR6.out 4; have hg5 := blk_frozen BR6.out 5; have hg6 := blk_frozen BR6.out 6))
            refine bodyPost_ret (results_ct rfl _ _ gr 24 #[.int .i64 0, .int .i64 0, .int .i64 0, .int .i64 0, .int .i64 0, .int .i64 0, .slice none 0 0] (0, 0) _ rfl (blk_put (blk_put (blk_put (blk_put (blk_put (blk_put (blk_put BR6.out 0 _ rfl) 1 _ rfl) 2 _ rfl) 3 _ rfl) 4 _ rfl) 5 _ rfl) 6 _ rfl) hu24 rfl (by kernel_rfl)) rfl ?_
            exact ⟨_, rfl, Kd.R_nil _ _ _ _ _, (below_set (below_set (below_set (below_set (below_set (below_set (below_set HB6.out GR.out) GR.out) GR.out) GR.out) GR.out) GR.out) GR.out)⟩
      · simp only [if_neg cf] at hcr
        injection hcr with hcr
        injection hcr with e1 hcr
        injection hcr with e2 hcr
        injection hcr with e3 hcr
        injection hcr with e4 hcr
        injection hcr with e5 hcr
        injection hcr with e6 hcr
        injection hcr with e7 e8
        subst e1 e2 e3 e4 e5 e6 e7 e8
        have cfb : (f != 0) = true := bne_iff_ne.mpr cf
        clear hcs cf
        go_wp2_with (first | (go_at_call 35; (go_must (refine (wire_TakeList.calls k _ _ bs 32 ls n f _ (Kd.C_below HX.out.1 HB3.out) HX.out.2 HCS.out).mono ?_)); rintro e w5 ⟨v5, rfl, ho, hb⟩; obtain ⟨Ao, co, eo⟩ := Kd.R_slice ho; subst eo; have HO5 := Aside0.mk (Kd.R_lower (Kd.R_mono (ok' := fun k => k ≠ gr ∧ k ≠ ge) (Kd.R_bound ho) (fun k hk => ⟨fun e => (by have h1 := blk_lt BR3.out; have h2 := hk.2.1; omega), fun e => (by have h1 := blk_lt BE3.out; have h2 := hk.2.1; omega)⟩)) (below_size HB3.out)); have BR5 := Aside0.mk (blk_below BR3.out hb); have BE5 := Aside0.mk (blk_below BE3.out hb); have HB5 := Aside0.mk (below_step HB3.out hb); clear hb ho; have hr0 : w5.cell? ⟨gr, 0, none⟩ = some (.int .i64 0) := (blk_cell BR5.out 0).trans rfl; have hr1 : w5.cell? ⟨gr, 1, none⟩ = some (.int .i64 0) := (blk_cell BR5.out 1).trans rfl; have hr2 : w5.cell? ⟨gr, 2, none⟩ = some (.int .i64 0) := (blk_cell BR5.out 2).trans rfl; have hr3 : w5.cell? ⟨gr, 3, none⟩ = some (.int .i64 0) := (blk_cell BR5.out 3).trans rfl; have hr4 : w5.cell? ⟨gr, 4, none⟩ = some (.int .i64 0) := (blk_cell BR5.out 4).trans rfl; have hr5 : w5.cell? ⟨gr, 5, none⟩ = some (.int .i64 0) := (blk_cell BR5.out 5).trans rfl; have hr6 : w5.cell? ⟨gr, 6, none⟩ = some (.slice none 0 0) := (blk_cell BR5.out 6).trans rfl; have hg0 := blk_frozen BR5.out 0; have hg1 := blk_frozen BR5.out 1; have hg2 := blk_frozen BR5.out 2; have hg3 := blk_frozen BR5.out 3; have hg4 := blk_frozen BR5.out 4; have hg5 := blk_frozen BR5.out 5; have hg6 := blk_frozen BR5.out 6))
        refine bodyPost_ret (results_ct rfl _ _ gr 24 #[.int .i64 0, .int .i64 0, .int .i64 0, .int .i64 0, .int .i64 0, .int .i64 0, .slice none 0 0] (0, 0) _ rfl (blk_put (blk_put (blk_put (blk_put (blk_put (blk_put (blk_put BR5.out 0 _ rfl) 1 _ rfl) 2 _ rfl) 3 _ rfl) 4 _ rfl) 5 _ rfl) 6 _ rfl) hu24 rfl (by kernel_rfl)) rfl ?_
        exact ⟨_, rfl, Kd.R_nil _ _ _ _ _, (below_set (below_set (below_set (below_set (below_set (below_set (below_set HB5.out GR.out) GR.out) GR.out) GR.out) GR.out) GR.out) GR.out)⟩

/-! ### papermillref61_SameOne: function 20 -/
def papermillref61_SameOne.f (k : Nat) (x0 x1 x2 x3 x4 x5 : Int) (l : List Int) (y0 y1 y2 y3 y4 y5 : Int) (m : List Int) : Option Bool := if x0 = y0 ∧ x1 = y1 ∧ x2 = y2 ∧ x3 = y3 ∧ x4 = y4 ∧ x5 = y5 ∧ l = m ∧ l.length ≤ 1000000 then some true else none
theorem papermillref61_SameOne.mono (x0 x1 x2 x3 x4 x5 : Int) (l : List Int) (y0 y1 y2 y3 y4 y5 : Int) (m : List Int) (k : Nat) : LeO (papermillref61_SameOne.f k x0 x1 x2 x3 x4 x5 l y0 y1 y2 y3 y4 y5 m) (papermillref61_SameOne.f (k + 1) x0 x1 x2 x3 x4 x5 l y0 y1 y2 y3 y4 y5 m) := LeO.refl _
set_option maxHeartbeats 4000000 in
set_option maxRecDepth 100000 in
theorem papermillref61_SameOne.equal (x0 x1 x2 x3 x4 x5 : Int) (A0 : Option Addr) (c0 : Nat) (l : List Int) (A1 : Option Addr) (c1 : Nat) (w : World) (hr0 : Kd.C (Kd.int .i64) w A0 l.length l) (hr1 : Kd.C (Kd.int .i64) w A1 l.length l) (hl : l.length ≤ 1000000) :
    Calls Tryd.prog 20 #[.agg #[.int .i64 x0, .int .i64 x1, .int .i64 x2, .int .i64 x3, .int .i64 x4, .int .i64 x5, .slice A0 l.length c0], .agg #[.int .i64 x0, .int .i64 x1, .int .i64 x2, .int .i64 x3, .int .i64 x4, .int .i64 x5, .slice A1 l.length c1]] w fun e w' => e = .returned (.bool true) ∧ Below w.heap.size w w' := by
  have hu24 := Tryd.underlying24
  have HR0 := Aside0.mk hr0
  have HR1 := Aside0.mk hr1
  clear hr0 hr1
  go_enter Tryd.func20, Tryd.ntmps20
  go_wp2_with (first
    | ((with_reducible refine gate_dst (N := 2) rfl ?_); (go_must (refine box_event ?hg (N := 2) ?hd (cs := #[.int .i64 x0, .int .i64 x1, .int .i64 x2, .int .i64 x3, .int .i64 x4, .int .i64 x5, .slice A0 l.length c0]) (t := 24) ?hr ?_)); (case hd => rfl); (case hg => rfl); (case hr => first | (go_simp; done) | (go_simp; rfl)); intro ga hg w2 hbox hb; have BA := Aside0.mk hbox; have HB1 := Aside0.mk hb; clear hbox hb hg)
    | ((with_reducible refine gate_dst (N := 3) rfl ?_); (go_must (refine box_event ?hg (N := 3) ?hd (cs := #[.int .i64 x0, .int .i64 x1, .int .i64 x2, .int .i64 x3, .int .i64 x4, .int .i64 x5, .slice A1 l.length c1]) (t := 24) ?hr ?_)); (case hd => rfl); (case hg => rfl); (case hr => first | (go_simp; done) | (go_simp; rfl)); intro gb hg w3 hbox hb; have BA3 := Aside0.mk (blk_below BA.out hb); have BB3 := Aside0.mk hbox; have HB3 := Aside0.mk (below_step HB1.out hb); clear BA HB1; have ha0 : w3.cell? ⟨ga, 0, none⟩ = some (.int .i64 x0) := (blk_cell BA3.out 0).trans rfl; have hb0 : w3.cell? ⟨gb, 0, none⟩ = some (.int .i64 x0) := (blk_cell BB3.out 0).trans rfl; have ha1 : w3.cell? ⟨ga, 1, none⟩ = some (.int .i64 x1) := (blk_cell BA3.out 1).trans rfl; have hb1 : w3.cell? ⟨gb, 1, none⟩ = some (.int .i64 x1) := (blk_cell BB3.out 1).trans rfl; have ha2 : w3.cell? ⟨ga, 2, none⟩ = some (.int .i64 x2) := (blk_cell BA3.out 2).trans rfl; have hb2 : w3.cell? ⟨gb, 2, none⟩ = some (.int .i64 x2) := (blk_cell BB3.out 2).trans rfl; have ha3 : w3.cell? ⟨ga, 3, none⟩ = some (.int .i64 x3) := (blk_cell BA3.out 3).trans rfl; have hb3 : w3.cell? ⟨gb, 3, none⟩ = some (.int .i64 x3) := (blk_cell BB3.out 3).trans rfl; have ha4 : w3.cell? ⟨ga, 4, none⟩ = some (.int .i64 x4) := (blk_cell BA3.out 4).trans rfl; have hb4 : w3.cell? ⟨gb, 4, none⟩ = some (.int .i64 x4) := (blk_cell BB3.out 4).trans rfl; have ha5 : w3.cell? ⟨ga, 5, none⟩ = some (.int .i64 x5) := (blk_cell BA3.out 5).trans rfl; have hb5 : w3.cell? ⟨gb, 5, none⟩ = some (.int .i64 x5) := (blk_cell BB3.out 5).trans rfl; have ha6 : w3.cell? ⟨ga, 6, none⟩ = some (.slice A0 l.length c0) := (blk_cell BA3.out 6).trans rfl; have hb6 : w3.cell? ⟨gb, 6, none⟩ = some (.slice A1 l.length c1) := (blk_cell BB3.out 6).trans rfl; clear hbox hb hg))
  go_loopg [5] l.length (fun kq v5 w' => ∃ i : Nat, v5 = .int .i64 (i : Int) ∧ Aside0 (kq + i = l.length) ∧ Aside0 (∃ n, w' = w3.drewN n))
  case atStart => exact ⟨0, rfl, ⟨rfl⟩, ⟨0, rfl⟩⟩
  case round =>
    obtain ⟨i, rfl, HI, HW⟩ := hrel
    obtain ⟨n, rfl⟩ := HW.out
    clear HW
    by_cases c4 : i < l.length
    · have c4b : decide ((i : Int) < (l.length : Int)) = true := decide_eq_true (by omega)
      have c4c : decide (i < l.length) = true := decide_eq_true c4
      obtain ⟨ad, e1, hx⟩ := Kd.at_int HR0.out (i : Int) (by omega) (by omega)
      obtain ⟨ae, e2, hy⟩ := Kd.at_int HR1.out (i : Int) (by omega) (by omega)
      subst e1 e2
      rw [Int.toNat_natCast] at hx hy
      replace hx := (HB3.out.cell (World.block_lt_of_cell? w _ hx)).trans hx
      replace hy := (HB3.out.cell (World.block_lt_of_cell? w _ hy)).trans hy
      generalize rd l (i : Int) = v at *
      have p1 : 0 ≤ (i : Int) := by omega
      have p2 : (i : Int) < (l.length : Int) := by omega
      go_wp2
      go_quiet (fail)
      go_wp2
      go_roundg (l.length - (i + 1))
      case measure => have := HI.out; omega
      case rel => exact ⟨i + 1, rfl, ⟨by have := HI.out; omega⟩, ⟨_, rfl⟩⟩
    · have c4b : decide ((i : Int) < (l.length : Int)) = false := decide_eq_false (by omega)
      have c4c : decide (i < l.length) = false := decide_eq_false c4
      go_wp2
      go_ret
      exact ⟨rfl, pw_below_drewN HB3.out _⟩
theorem papermillref61_SameOne.calls (k : Nat) (x0 x1 x2 x3 x4 x5 : Int) (A0 : Option Addr) (c0 : Nat) (l : List Int) (y0 y1 y2 y3 y4 y5 : Int) (A1 : Option Addr) (c1 : Nat) (m : List Int) (r : Bool) (w : World) (hr0 : Kd.C (Kd.int .i64) w A0 l.length l) (hc0 : l.length ≤ c0) (hr1 : Kd.C (Kd.int .i64) w A1 m.length m) (hc1 : m.length ≤ c1) (h : papermillref61_SameOne.f k x0 x1 x2 x3 x4 x5 l y0 y1 y2 y3 y4 y5 m = some r) :
    Calls Tryd.prog 20 #[.agg #[.int .i64 x0, .int .i64 x1, .int .i64 x2, .int .i64 x3, .int .i64 x4, .int .i64 x5, .slice A0 l.length c0], .agg #[.int .i64 y0, .int .i64 y1, .int .i64 y2, .int .i64 y3, .int .i64 y4, .int .i64 y5, .slice A1 m.length c1]] w fun e w' => e = .returned (.bool r) ∧ Below w.heap.size w w' := by
  unfold papermillref61_SameOne.f at h
  split at h
  · rename_i hc
    obtain ⟨rfl, rfl, rfl, rfl, rfl, rfl, rfl, hl⟩ := hc
    injection h with h
    subst h
    exact papermillref61_SameOne.equal x0 x1 x2 x3 x4 x5 A0 c0 l A1 c1 w hr0 hr1 hl
  · cases h

/-! ### crc_Extend: function 50 -/
def crc_Extend.f (sum : Int) (l1 : List Int) : Option Int := if l1.length ≤ 17592186044416 then some (Go.bits .xor .u32 IntKind.u32.max (crcRun (Go.bits .xor .u32 IntKind.u32.max sum) l1)) else none
set_option maxHeartbeats 4000000 in
theorem crc_Extend.calls (a0 : Int) (A1 : Option Addr) (c1 : Nat) (l1 : List Int) (r : Int) (w : World) (hr1 : Kd.C (Kd.int .u8) w A1 l1.length l1) (hc1 : l1.length ≤ c1) (hT : Kd.C (Kd.int .u32) w TabA crcTab.length crcTab) (h : crc_Extend.f a0 l1 = some r) :
    Calls Tryd.prog 50 #[.int .u32 a0, .slice A1 l1.length c1] w fun e w' => e = .returned (.int .u32 r) ∧ Drawn0 w w' := by
  have HR1 := Aside0.mk hr1
  have HC1 := Aside0.mk hc1
  have HT := Aside0.mk hT
  clear hr1 hc1 hT
  unfold crc_Extend.f at h
  split at h
  case isFalse => cases h
  rename_i hlen
  injection h with h
  have HLEN := Aside0.mk hlen
  have H := Aside0.mk h
  clear h hlen
  have hs32 : IntKind.u32.signed = false := rfl
  go_enter Tryd.func50, Tryd.ntmps50
  go_wp2
  repeat (go_quiet (fail); try go_wp2)
  go_loopg [5, 12] l1.length (fun kq v5 v12 w' => ∃ (X : Int) (k : Int), v5 = .int .u32 X ∧ v12 = .int .i64 k ∧ Aside0 (0 ≤ k ∧ k ≤ l1.length) ∧ Aside0 (kq = l1.length - k.toNat) ∧ Aside0 (crcRun (Go.bits .xor .u32 IntKind.u32.max a0) l1 = crcRun X (l1.drop k.toNat)) ∧ Drawn0 w w')
  case atStart => exact ⟨_, 0, rfl, rfl, ⟨by omega⟩, ⟨by simp⟩, ⟨by simp⟩, Drawn0.refl _⟩
  case round =>
    obtain ⟨X, k, rfl, rfl, HK, HG, HX, ⟨m1, rfl⟩⟩ := hrel
    by_cases c4 : k < (l1.length : Int)
    · have c4b0 : decide (k < (l1.length : Int)) = true := decide_eq_true c4
      have p138 : 0 ≤ k := HK.out.1
      obtain ⟨ad138, e138, hx138_0⟩ := Kd.at_int HR1.out k p138 c4
      cases e138
      replace p138 := eq_true p138
      replace c4 := eq_true c4
      have t1 := crcAnd15 (Go.bits .xor .u32 X (rd l1 k % 4294967296))
      have t2 := crcAnd15 (crcNib (Go.bits .xor .u32 X (rd l1 k % 4294967296)))
      obtain ⟨ad1, e1, hx1⟩ := Kd.at_int HT.out _ t1.1 t1.2
      obtain ⟨ad2, e2, hx2⟩ := Kd.at_int HT.out _ t2.1 t2.2
      obtain rfl : ad1 = ⟨0, 0, none⟩ := (Option.some.inj e1).symm
      obtain rfl : ad2 = ⟨0, 0, none⟩ := (Option.some.inj e2).symm
      clear e1 e2
      obtain ⟨t1a, t1b⟩ := t1
      obtain ⟨t2a, t2b⟩ := t2
      unfold crcNib at hx2 t2a t2b
      replace t1a := eq_true t1a
      replace t1b := eq_true t1b
      replace t2a := eq_true t2a
      replace t2b := eq_true t2b
      rw [add_zero_] at hx1 hx2
      go_wp2
      have hk0 := HK.out
      have hl0 := HLEN.out
      have c4' : k < (l1.length : Int) := of_eq_true c4
      have hgk := HG.out
      go_roundg (l1.length - (k.toNat + 1))
      case measure => omega
      case rel =>
        refine ⟨_, wrap64 (k + 1), rfl, rfl, ⟨by unfold wrap64; omega⟩, ⟨by unfold wrap64; omega⟩, ⟨?_⟩, by repeat (first | exact Drawn0.refl _ | apply Drawn0.step)⟩
        rw [HX.out, show (wrap64 (k + 1)).toNat = k.toNat + 1 by unfold wrap64; omega, crcDrop l1 k hk0.1 c4']
        simp only [crcRun, List.foldl_cons, crcByte, crcNib]
    · have c4b0 : decide (k < (l1.length : Int)) = false := decide_eq_false c4
      have hk0 := HK.out
      have hX := HX.out
      rw [List.drop_eq_nil_of_le (by omega)] at hX
      have HX' : Aside0 (Go.bits .xor .u32 IntKind.u32.max X = r) := ⟨by rw [← H.out, hX]; simp [crcRun]⟩
      clear hX
      go_wp2
      repeat (go_quiet (fail); try go_wp2)
      go_ret
      exact ⟨by simp; exact HX'.out, by repeat (first | exact Drawn0.refl _ | apply Drawn0.step)⟩

/-! ### crc_Sum: function 46 -/
def crc_Sum.f (l0 : List Int) : Option (Int) := (crc_Extend.f 0 l0).bind fun t133 => (some t133)
set_option maxHeartbeats 8000000 in
set_option maxRecDepth 100000 in
theorem crc_Sum.calls (A0 : Option Addr) (c0 : Nat) (l0 : List Int) (r : Int) (w : World) (hr0 : Kd.C (Kd.int .u8) w A0 l0.length l0) (hc0 : l0.length ≤ c0) (hT : Kd.C (Kd.int .u32) w TabA crcTab.length crcTab) (h : crc_Sum.f l0 = some r) :
    Calls Tryd.prog 46 #[.slice A0 l0.length c0] w fun e w' => e = .returned (.int .u32 r) ∧ Drawn0 w w' := by
  have HT := Aside0.mk hT
  clear hT
  have HR0 := Aside0.mk hr0
  have HC0 := Aside0.mk hc0
  clear hr0 hc0
  have H : ((crc_Extend.f 0 l0).bind fun t133 => (some t133)) = some r := h
  clear h
  replace H := Option.bind_eq_some_iff.mp H
  obtain ⟨t133, A20, H⟩ := H
  replace H : (some t133) = some r := H
  have A2 := Aside0.mk A20
  clear A20
  obtain rfl := Option.some.inj H
  go_enter Tryd.func46, Tryd.ntmps46
  go_wp2_with (first | ((with_reducible refine gate_callee (f := 50) rfl ?_); refine goesL_ (some 4) rfl rfl Tryd.func50 (by kernel_rfl) rfl #[.int .u32 0, .slice A0 l0.length c0] rfl (by (try simp only [List.map_toArray, List.map_cons, List.map_nil]); first | done | rfl | (simp only [List.length_drop, List.length_take]; rfl)) ?_; (with_reducible refine (crc_Extend.calls 0 _ _ l0 t133 _ ?side1 ?side2 ?sideT A2.out).mono ?_); (case sideT => repeat (first | exact HT.out | exact (Kd.C_below HT.out HB.out) | (with_reducible refine Kd.C_alloc ?_ _) | (with_reducible refine Kd.C_drewN ?_ _) | (with_reducible refine Kd.C_drew ?_))); (case side1 => repeat (first | exact HR0.out | (with_reducible refine Kd.C_alloc ?_ _) | (with_reducible refine Kd.C_drewN ?_ _) | (with_reducible refine Kd.C_drew ?_))); (case side2 => exact HC0.out); rintro e w' ⟨rfl, ⟨nd, rfl⟩⟩; refine ⟨_, rfl, ?_⟩))
  go_ret
  exact ⟨by first | rfl | (simp; done) | (simp [*]; done), by repeat (first | exact Drawn0.refl _ | apply Drawn0.step)⟩

/-! ### crc_Frame: function 38 -/
def crc_Frame.f (l0 : List Int) : Option (List Int × Int) := if (l0.length : Int) > 65536 then (some (([] : List Int), 8)) else ((crc_Sum.f l0).bind fun t134 => ((wire_PutInt.f ([] : List Int) (l0.length : Int)).bind fun t135 => (if t135.length + l0.length < 140737488355328 then ((some (t135 ++ l0 : List Int)).bind fun y138 => ((some (([(t134 / 16777216) % 256, (t134 / 65536) % 256, (t134 / 256) % 256, (t134) % 256] : List Int) : List Int)).bind fun y141 => (if y138.length + y141.length < 140737488355328 then (some ((y138 ++ y141), 0)) else (none)))) else (none))))
set_option maxHeartbeats 8000000 in
set_option maxRecDepth 100000 in
theorem crc_Frame.calls (A0 : Option Addr) (c0 : Nat) (l0 : List Int) (r1 : List Int) (r2 : Int) (w : World) (hr0 : Kd.C (Kd.int .u8) w A0 l0.length l0) (hc0 : l0.length ≤ c0) (hT : Kd.C (Kd.int .u32) w TabA crcTab.length crcTab) (h : crc_Frame.f l0 = some (r1, r2)) :
    Calls Tryd.prog 38 #[.slice A0 l0.length c0] w fun e w' => ∃ v0_ : Value, e = .returned (.tuple #[v0_, .int .i64 r2]) ∧ Kd.R (Kd.int .u8) 5 w' w.heap.size (fun _ => True) v0_ r1 ∧ Below w.heap.size w w' := by
  have HT := Aside0.mk hT
  clear hT
  have HR0 := Aside0.mk hr0
  have HC0 := Aside0.mk hc0
  clear hr0 hc0
  have HB := Aside0.mk (Below.refl w.heap.size w)
  have H : (if (l0.length : Int) > 65536 then (some (([] : List Int), 8)) else ((crc_Sum.f l0).bind fun t134 => ((wire_PutInt.f ([] : List Int) (l0.length : Int)).bind fun t135 => (if t135.length + l0.length < 140737488355328 then ((some (t135 ++ l0 : List Int)).bind fun y138 => ((some (([(t134 / 16777216) % 256, (t134 / 65536) % 256, (t134 / 256) % 256, (t134) % 256] : List Int) : List Int)).bind fun y141 => (if y138.length + y141.length < 140737488355328 then (some ((y138 ++ y141), 0)) else (none)))) else (none))))) = some (r1, r2) := h
  clear h
  by_cases c2 : (l0.length : Int) > 65536
  ·rw [if_pos c2] at H
   have c2b0 : decide (65536 < (l0.length : Int)) = true := decide_eq_true c2
   have c2b1 : decide (65536 < l0.length) = true := decide_eq_true (by omega)
   clear c2
   simp only [Option.some.injEq, Prod.mk.injEq] at H
   obtain ⟨rfl, rfl⟩ := H
   go_enter Tryd.func38, Tryd.ntmps38
   go_wp2
   go_ret2
   exact ⟨_, by first | rfl | (simp [errW_none, errW_some] <;> rfl) | (simp [*, errW_none, errW_some] <;> rfl), by first | exact Kd.R_nil _ _ _ _ _ | exact Kd.N_nil _ _ _ _ _ | exact Kd.V_nil _ _ _ _ _ | exact Kd.Q_nil _ _ _ _ _ | exact Kd.S_nil _ _ _ _ _, by repeat (first | (with_reducible first | exact HB.out | apply below_alloc | apply pw_below_drewN | apply below_drew1) | exact HB.out)⟩
  ·rw [if_neg c2] at H
   have c2b0 : decide (65536 < (l0.length : Int)) = false := decide_eq_false c2
   have c2b1 : decide (65536 < l0.length) = false := decide_eq_false (by omega)
   clear c2
   replace H := Option.bind_eq_some_iff.mp H
   obtain ⟨t134, A30, H⟩ := H
   replace H : ((wire_PutInt.f ([] : List Int) (l0.length : Int)).bind fun t135 => (if t135.length + l0.length < 140737488355328 then ((some (t135 ++ l0 : List Int)).bind fun y138 => ((some (([(t134 / 16777216) % 256, (t134 / 65536) % 256, (t134 / 256) % 256, (t134) % 256] : List Int) : List Int)).bind fun y141 => (if y138.length + y141.length < 140737488355328 then (some ((y138 ++ y141), 0)) else (none)))) else (none))) = some (r1, r2) := H
   have A3 := Aside0.mk A30
   clear A30
   replace H := Option.bind_eq_some_iff.mp H
   obtain ⟨t135, A40, H⟩ := H
   replace H : (if t135.length + l0.length < 140737488355328 then ((some (t135 ++ l0 : List Int)).bind fun y138 => ((some (([(t134 / 16777216) % 256, (t134 / 65536) % 256, (t134 / 256) % 256, (t134) % 256] : List Int) : List Int)).bind fun y141 => (if y138.length + y141.length < 140737488355328 then (some ((y138 ++ y141), 0)) else (none)))) else (none)) = some (r1, r2) := H
   have A4 := Aside0.mk A40
   clear A40
   by_cases c5 : t135.length + l0.length < 140737488355328
   ·rw [if_pos c5] at H
    have LMc5 := Aside0.mk c5
    clear c5
    obtain ⟨y138, hy138⟩ : ∃ y_ : List Int, y_ = (t135 ++ l0) := ⟨_, rfl⟩
    replace H : ((some (([(t134 / 16777216) % 256, (t134 / 65536) % 256, (t134 / 256) % 256, (t134) % 256] : List Int) : List Int)).bind fun y141 => (if y138.length + y141.length < 140737488355328 then (some ((y138 ++ y141), 0)) else (none))) = some (r1, r2) := by first | (rw [hy138]; with_reducible exact H) | (have H2_ := (Option.bind_some _ _).symm.trans H; rw [hy138]; with_reducible exact H2_) | (have H2_ := (Option.bind_some _ _).symm.trans H; with_reducible exact H2_) | with_reducible exact H | (rw [hy138]; exact H) | exact H
    have Ny138 := Aside0.mk hy138
    clear hy138
    obtain ⟨y141, hy141⟩ : ∃ y_ : List Int, y_ = (([(t134 / 16777216) % 256, (t134 / 65536) % 256, (t134 / 256) % 256, (t134) % 256] : List Int)) := ⟨_, rfl⟩
    replace H : (if y138.length + y141.length < 140737488355328 then (some ((y138 ++ y141), 0)) else (none)) = some (r1, r2) := by first | (rw [hy141]; with_reducible exact H) | (have H2_ := (Option.bind_some _ _).symm.trans H; rw [hy141]; with_reducible exact H2_) | (have H2_ := (Option.bind_some _ _).symm.trans H; with_reducible exact H2_) | with_reducible exact H | (rw [hy141]; exact H) | exact H
    have Ny141 := Aside0.mk hy141
    clear hy141
    by_cases c6 : y138.length + y141.length < 140737488355328
    ·rw [if_pos c6] at H
     have LMc6 := Aside0.mk c6
     clear c6
     obtain ⟨y144, hy144⟩ : ∃ y_ : List Int, y_ = (y138 ++ y141) := ⟨_, rfl⟩
     replace H : (some (y144, 0)) = some (r1, r2) := by first | (rw [hy144]; with_reducible exact H) | (have H2_ := (Option.bind_some _ _).symm.trans H; rw [hy144]; with_reducible exact H2_) | (have H2_ := (Option.bind_some _ _).symm.trans H; with_reducible exact H2_) | with_reducible exact H | (rw [hy144]; exact H) | exact H
     have Ny144 := Aside0.mk hy144
     clear hy144
     simp only [Option.some.injEq, Prod.mk.injEq] at H
     obtain ⟨rfl, rfl⟩ := H
     go_enter Tryd.func38, Tryd.ntmps38
     go_wp2_with (first | ((with_reducible refine gate_callee (f := 46) rfl ?_); refine goesL_ (some 10) rfl rfl Tryd.func46 (by kernel_rfl) rfl #[.slice A0 l0.length c0] rfl (by (try simp only [List.map_toArray, List.map_cons, List.map_nil]); first | done | rfl | (simp only [List.length_drop, List.length_take]; rfl)) ?_; (with_reducible refine (crc_Sum.calls _ _ l0 t134 _ ?side1 ?side2 ?sideT A3.out).mono ?_); (case sideT => repeat (first | exact HT.out | exact (Kd.C_below HT.out HB.out) | (with_reducible refine Kd.C_alloc ?_ _) | (with_reducible refine Kd.C_drewN ?_ _) | (with_reducible refine Kd.C_drew ?_))); (case side1 => repeat (first | exact HR0.out | (with_reducible refine Kd.C_alloc ?_ _) | (with_reducible refine Kd.C_drewN ?_ _) | (with_reducible refine Kd.C_drew ?_))); (case side2 => exact HC0.out); rintro e w' ⟨rfl, ⟨nd, rfl⟩⟩; refine ⟨_, rfl, ?_⟩) | ((with_reducible refine gate_callee (f := 28) rfl ?_); refine goesL_ (some 13) rfl rfl Tryd.func28 (by kernel_rfl) rfl #[.slice none 0 0, .int .i64 (l0.length : Int)] rfl (by (try simp only [List.map_toArray, List.map_cons, List.map_nil]); first | done | rfl | (simp only [List.length_drop, List.length_take]; rfl)) ?_; (refine (wire_PutInt.calls _ _ ([] : List Int) (l0.length : Int) t135 _ ?side1 ?side2 A4.out).mono ?_); (case side1 => exact Kd.C_nil _ _); (case side2 => exact Nat.le_refl _); rintro e w7 ⟨v136, rfl, ho0, hb⟩; refine ⟨_, rfl, ?_⟩; have n0_ := Aside0.mk (Kd.R_lower ho0 (below_size (by repeat (first | (with_reducible first | exact HB.out | apply below_alloc | apply pw_below_drewN | apply below_drew1) | exact HB.out)))); have n1_ := Aside0.mk (below_step (by repeat (first | (with_reducible first | exact HB.out | apply below_alloc | apply pw_below_drewN | apply below_drew1) | exact HB.out)) hb); clear HB; have HO137 := n0_; have HB := n1_; clear n0_ n1_; (try clear hb); (try clear hb2); (try clear hk); (try clear hi); (try clear ho0)) | ((with_reducible refine gate_builtin (b := .append) (xs := #[.tmp 13, .tmp 14]) rfl ?_); at_builtin; refine Kd.R_append_rows (Kd.int .u8) (w0 := w) w.heap.size rfl (.tmp 13) (.tmp 14) 28 5 (.int .u8 0) 1 rfl Tryd.underlying28 info5 rfl (by decide) (by omega) v136 t135 l0 _ _ _ (fun _ => True) (fun _ => False) rfl rfl ?aO ?aR (fun _ _ h => h) (fun _ h => h.elim) ?aF ?aB ?aS ?aL ?_; (case aR => repeat (first | exact (Kd.C_below HR0.out HB.out) | (with_reducible refine Kd.C_alloc ?_ _) | (with_reducible refine Kd.C_drewN ?_ _) | (with_reducible refine Kd.C_drew ?_))); (case aB => exact (by repeat (first | (with_reducible first | exact HB.out | apply below_alloc | apply pw_below_drewN | apply below_drew1) | exact HB.out))); (case aF => exact (fun _ _ => trivial)); (case aO => exact (by (with_reducible repeat (first | apply Kd.R_alloc | apply Kd.R_drewN | apply Kd.R_drew)); exact HO137.out)); (case aS => exact (below_size (by repeat (first | (with_reducible first | exact HB.out | apply below_alloc | apply pw_below_drewN | apply below_drew1) | exact HB.out)))); (case aL => have := LMc5.out; omega); intro v139 w8 ho hb hg hat; rw [← Ny138.out] at ho; have n0_ := Aside0.mk (hb); have n1_ := Aside0.mk (ho); clear HB; clear HO137; have HB := n0_; have HO140 := n1_; clear n0_ n1_; clear ho hb hg hat) | ((with_reducible refine gate_dst (N := 28) rfl ?_); refine Kd.R_lit (Kd.int .u8) _ 5 ?hg (N := 28) ?hd (xs := ([(t134 / 16777216) % 256, (t134 / 65536) % 256, (t134 / 256) % 256, (t134) % 256] : List Int)) (inner := [.int .u8 ((t134 / 16777216) % 256), .int .u8 ((t134 / 65536) % 256), .int .u8 ((t134 / 256) % 256), .int .u8 ((t134) % 256)]) (ok := fun _ => True) (okp := fun _ => True) ?hr ?hp (fun _ hk => hk) trivial (Below.refl _ _) (Nat.le_refl _) (by simp) ?_; (case hd => rfl); (case hg => rfl); (case hr => first | (go_simp; done) | (go_simp; rfl)); (case hp => exact (Reps.one (show Kd.M (Kd.int .u8) _ _ _ ((t134 / 16777216) % 256) [.int .u8 ((t134 / 16777216) % 256)] from rfl) (Reps.one (show Kd.M (Kd.int .u8) _ _ _ ((t134 / 65536) % 256) [.int .u8 ((t134 / 65536) % 256)] from rfl) (Reps.one (show Kd.M (Kd.int .u8) _ _ _ ((t134 / 256) % 256) [.int .u8 ((t134 / 256) % 256)] from rfl) (Reps.one (show Kd.M (Kd.int .u8) _ _ _ ((t134) % 256) [.int .u8 ((t134) % 256)] from rfl) (Reps.none _ _)))))); intro v142 w9 ho10 hb hg_ hnew_; clear hg_ hnew_; (first | rw [← Ny141.out] at ho10 | (simp only [Int.reduceToNat] at ho10; rw [← Ny141.out] at ho10)); have n0_ := Aside0.mk (Kd.R_elder' (by (with_reducible repeat (first | apply Kd.R_alloc | apply Kd.R_drewN | apply Kd.R_drew)); exact HO140.out) (Kd.R_base ho10) hb); have n1_ := Aside0.mk (Kd.R_lower (Kd.R_new' ho10 (Kd.R_lt (by (with_reducible repeat (first | apply Kd.R_alloc | apply Kd.R_drewN | apply Kd.R_drew)); exact HO140.out))) (below_size (by repeat (first | (with_reducible first | exact HB.out | apply below_alloc | apply pw_below_drewN | apply below_drew1) | exact HB.out)))); have n2_ := Aside0.mk (below_step (by repeat (first | (with_reducible first | exact HB.out | apply below_alloc | apply pw_below_drewN | apply below_drew1) | exact HB.out)) hb); clear HO140; clear HB; have HO140 := n0_; have HO143 := n1_; have HB := n2_; clear n0_ n1_ n2_; clear hb ho10; obtain ⟨Ao12, co12, eo12⟩ := Kd.R_slice HO143.out; subst eo12) | ((with_reducible refine gate_builtin (b := .append) (xs := #[.tmp 16, .tmp 28]) rfl ?_); at_builtin; refine Kd.R_append_rows (Kd.int .u8) (w0 := w) w.heap.size rfl (.tmp 16) (.tmp 28) 28 5 (.int .u8 0) 1 rfl Tryd.underlying28 info5 rfl (by decide) (by omega) v139 y138 y141 _ _ _ (fun k_ => some k_ ≠ (.slice Ao12 y141.length co12 : Value).ownBlock) (fun _ => False) rfl rfl ?aO ?aR (fun _ _ h => h) (fun _ h => h.elim) ?aF ?aB ?aS ?aL ?_; (case aR => repeat (first | exact (Kd.R_reads' HO143.out).2.2 | (with_reducible refine Kd.C_alloc ?_ _) | (with_reducible refine Kd.C_drewN ?_ _) | (with_reducible refine Kd.C_drew ?_))); (case aB => exact (by repeat (first | (with_reducible first | exact HB.out | apply below_alloc | apply pw_below_drewN | apply below_drew1) | exact HB.out))); (case aF => exact (fun k_ hk => Kd.fresh' (Kd.R_lt (by (with_reducible repeat (first | apply Kd.R_alloc | apply Kd.R_drewN | apply Kd.R_drew)); exact HO143.out)) k_ hk)); (case aO => exact (by (with_reducible repeat (first | apply Kd.R_alloc | apply Kd.R_drewN | apply Kd.R_drew)); exact Kd.R_mono HO140.out (fun _ hk => hk.2))); (case aS => exact (below_size (by repeat (first | (with_reducible first | exact HB.out | apply below_alloc | apply pw_below_drewN | apply below_drew1) | exact HB.out)))); (case aL => have := LMc6.out; omega); intro v145 w11 ho hb hg hat; rw [← Ny144.out] at ho; have n0_ := Aside0.mk (Kd.R_after (ok := (fun _ => True)) (by (with_reducible repeat (first | apply Kd.R_alloc | apply Kd.R_drewN | apply Kd.R_drew)); exact HO143.out) hg hat); have n1_ := Aside0.mk (hb); have n2_ := Aside0.mk (ho); clear HO143; clear HB; clear HO140; have HO143 := n0_; have HB := n1_; have HO146 := n2_; clear n0_ n1_ n2_; clear ho hb hg hat))
     go_ret2
     exact ⟨_, by first | rfl | (simp [errW_none, errW_some] <;> rfl) | (simp [*, errW_none, errW_some] <;> rfl), by (with_reducible repeat (first | apply Kd.R_alloc | apply Kd.R_drewN | apply Kd.R_drew)); exact Kd.R_mono HO146.out (fun _ hk => trivial), by repeat (first | (with_reducible first | exact HB.out | apply below_alloc | apply pw_below_drewN | apply below_drew1) | exact HB.out)⟩
    ·rw [if_neg c6] at H
     exact absurd H (by simp)
   ·rw [if_neg c5] at H
    exact absurd H (by simp)

/-! ### journal_Append: function 21 -/
def journal_Append.f (k : Nat) (l0 : List Int) (a1_0 : Int) (a1_1 : Int) (a1_2 : Int) (a1_3 : Int) (a1_4 : Int) (a1_5 : Int) (l1_6 : List Int) : Option (List Int × Int) := (journal_Put.f k a1_0 a1_1 a1_2 a1_3 a1_4 a1_5 l1_6).bind fun bt148 => (if bt148.2 = 0 then ((crc_Frame.f bt148.1).bind fun bt152 => (if bt152.2 = 0 then ((some (([] : List Int) : List Int)).bind fun y156 => (if y156.length + l0.length < 140737488355328 then ((some (y156 ++ l0 : List Int)).bind fun y159 => (if y159.length + bt152.1.length < 140737488355328 then (some ((y159 ++ bt152.1), 0)) else (none))) else (none))) else (some (([] : List Int), bt152.2)))) else (some (([] : List Int), bt148.2)))
theorem journal_Append.mono : ∀ a0 a1 a2 a3 a4 a5 a6 a7 k, LeO (journal_Append.f k a0 a1 a2 a3 a4 a5 a6 a7) (journal_Append.f (k + 1) a0 a1 a2 a3 a4 a5 a6 a7) := by
  intro a0 a1 a2 a3 a4 a5 a6 a7 k
  unfold journal_Append.f
  repeat' first
      | (with_reducible exact journal_Put.mono _ _ _ _ _ _ _ _)
      | (with_reducible exact LeO.refl _)
      | (with_reducible exact LeO.none _)
      | (with_reducible refine LeO.ite ?_ ?_)
      | (with_reducible refine LeO.bind ?_ (fun _ => ?_))
      | exact journal_Put.mono _ _ _ _ _ _ _ _
      | exact LeO.none _
      | refine LeO.ite ?_ ?_
      | refine LeO.bind ?_ (fun _ => ?_)
set_option maxHeartbeats 8000000 in
set_option maxRecDepth 100000 in
theorem journal_Append.calls (k : Nat) (A0 : Option Addr) (c0 : Nat) (l0 : List Int) (a1_0 : Int) (a1_1 : Int) (a1_2 : Int) (a1_3 : Int) (a1_4 : Int) (a1_5 : Int) (A1_6 : Option Addr) (c1_6 : Nat) (l1_6 : List Int) (r1 : List Int) (r2 : Int) (w : World) (hr0 : Kd.C (Kd.int .u8) w A0 l0.length l0) (hc0 : l0.length ≤ c0) (hr1_6 : Kd.C (Kd.int .i64) w A1_6 l1_6.length l1_6) (hc1_6 : l1_6.length ≤ c1_6) (hT : Kd.C (Kd.int .u32) w TabA crcTab.length crcTab) (h : journal_Append.f k l0 a1_0 a1_1 a1_2 a1_3 a1_4 a1_5 l1_6 = some (r1, r2)) :
    Calls Tryd.prog 21 #[.slice A0 l0.length c0, .agg #[.int .i64 a1_0, .int .i64 a1_1, .int .i64 a1_2, .int .i64 a1_3, .int .i64 a1_4, .int .i64 a1_5, .slice A1_6 l1_6.length c1_6]] w fun e w' => ∃ v0_ : Value, e = .returned (.tuple #[v0_, .int .i64 r2]) ∧ Kd.R (Kd.int .u8) 5 w' w.heap.size (fun _ => True) v0_ r1 ∧ Below w.heap.size w w' := by
  have HT := Aside0.mk hT
  clear hT
  have hu24 := Tryd.underlying24
  have HR0 := Aside0.mk hr0
  have HC0 := Aside0.mk hc0
  clear hr0 hc0
  have HR1_6 := Aside0.mk hr1_6
  have HC1_6 := Aside0.mk hc1_6
  clear hr1_6 hc1_6
  have HB := Aside0.mk (Below.refl w.heap.size w)
  have H : ((journal_Put.f k a1_0 a1_1 a1_2 a1_3 a1_4 a1_5 l1_6).bind fun bt148 => (if bt148.2 = 0 then ((crc_Frame.f bt148.1).bind fun bt152 => (if bt152.2 = 0 then ((some (([] : List Int) : List Int)).bind fun y156 => (if y156.length + l0.length < 140737488355328 then ((some (y156 ++ l0 : List Int)).bind fun y159 => (if y159.length + bt152.1.length < 140737488355328 then (some ((y159 ++ bt152.1), 0)) else (none))) else (none))) else (some (([] : List Int), bt152.2)))) else (some (([] : List Int), bt148.2)))) = some (r1, r2) := h
  clear h
  replace H := Option.bind_eq_some_iff.mp H
  obtain ⟨⟨t148, t151⟩, A30, H⟩ := H
  replace H : (if t151 = 0 then ((crc_Frame.f t148).bind fun bt152 => (if bt152.2 = 0 then ((some (([] : List Int) : List Int)).bind fun y156 => (if y156.length + l0.length < 140737488355328 then ((some (y156 ++ l0 : List Int)).bind fun y159 => (if y159.length + bt152.1.length < 140737488355328 then (some ((y159 ++ bt152.1), 0)) else (none))) else (none))) else (some (([] : List Int), bt152.2)))) else (some (([] : List Int), t151))) = some (r1, r2) := H
  have A3 := Aside0.mk A30
  clear A30
  by_cases c4 : t151 = 0
  ·rw [if_pos c4] at H
   have c4b0 : (t151 == 0) = true := beq_iff_eq.mpr c4
   have c4b1 : (t151 != 0) = false := bne_eq_false_iff_eq.mpr c4
   clear c4
   replace H := Option.bind_eq_some_iff.mp H
   obtain ⟨⟨t152, t153⟩, A50, H⟩ := H
   replace H : (if t153 = 0 then ((some (([] : List Int) : List Int)).bind fun y156 => (if y156.length + l0.length < 140737488355328 then ((some (y156 ++ l0 : List Int)).bind fun y159 => (if y159.length + t152.length < 140737488355328 then (some ((y159 ++ t152), 0)) else (none))) else (none))) else (some (([] : List Int), t153))) = some (r1, r2) := H
   have A5 := Aside0.mk A50
   clear A50
   by_cases c6 : t153 = 0
   ·rw [if_pos c6] at H
    have c6b0 : (t153 == 0) = true := beq_iff_eq.mpr c6
    have c6b1 : (t153 != 0) = false := bne_eq_false_iff_eq.mpr c6
    clear c6
    obtain ⟨y156, hy156⟩ : ∃ y_ : List Int, y_ = (([] : List Int)) := ⟨_, rfl⟩
    replace H : (if y156.length + l0.length < 140737488355328 then ((some (y156 ++ l0 : List Int)).bind fun y159 => (if y159.length + t152.length < 140737488355328 then (some ((y159 ++ t152), 0)) else (none))) else (none)) = some (r1, r2) := by first | (rw [hy156]; with_reducible exact H) | (have H2_ := (Option.bind_some _ _).symm.trans H; rw [hy156]; with_reducible exact H2_) | (have H2_ := (Option.bind_some _ _).symm.trans H; with_reducible exact H2_) | with_reducible exact H | (rw [hy156]; exact H) | exact H
    have Ny156 := Aside0.mk hy156
    clear hy156
    by_cases c7 : y156.length + l0.length < 140737488355328
    ·rw [if_pos c7] at H
     have LMc7 := Aside0.mk c7
     clear c7
     obtain ⟨y159, hy159⟩ : ∃ y_ : List Int, y_ = (y156 ++ l0) := ⟨_, rfl⟩
     replace H : (if y159.length + t152.length < 140737488355328 then (some ((y159 ++ t152), 0)) else (none)) = some (r1, r2) := by first | (rw [hy159]; with_reducible exact H) | (have H2_ := (Option.bind_some _ _).symm.trans H; rw [hy159]; with_reducible exact H2_) | (have H2_ := (Option.bind_some _ _).symm.trans H; with_reducible exact H2_) | with_reducible exact H | (rw [hy159]; exact H) | exact H
     have Ny159 := Aside0.mk hy159
     clear hy159
     by_cases c8 : y159.length + t152.length < 140737488355328
     ·rw [if_pos c8] at H
      have LMc8 := Aside0.mk c8
      clear c8
      obtain ⟨y162, hy162⟩ : ∃ y_ : List Int, y_ = (y159 ++ t152) := ⟨_, rfl⟩
      replace H : (some (y162, 0)) = some (r1, r2) := by first | (rw [hy162]; with_reducible exact H) | (have H2_ := (Option.bind_some _ _).symm.trans H; rw [hy162]; with_reducible exact H2_) | (have H2_ := (Option.bind_some _ _).symm.trans H; with_reducible exact H2_) | with_reducible exact H | (rw [hy162]; exact H) | exact H
      have Ny162 := Aside0.mk hy162
      clear hy162
      simp only [Option.some.injEq, Prod.mk.injEq] at H
      obtain ⟨rfl, rfl⟩ := H
      go_enter Tryd.func21, Tryd.ntmps21
      go_wp2_with (first | ((with_reducible refine gate_dst (N := 3) rfl ?_); refine box_event ?hg (N := 3) ?hd (cs := #[.int .i64 a1_0, .int .i64 a1_1, .int .i64 a1_2, .int .i64 a1_3, .int .i64 a1_4, .int .i64 a1_5, .slice A1_6 l1_6.length c1_6]) (t := 24) ?hr ?_; (case hd => rfl); (case hg => rfl); (case hr => first | (go_simp; done) | (go_simp; rfl)); intro gb147 hg w9 hbox hb; have n0_ := Aside0.mk (below_step (by repeat (first | (with_reducible first | exact HB.out | apply below_alloc | apply pw_below_drewN | apply below_drew1) | exact HB.out)) hb); have n1_ := Aside0.mk (hbox); have n2_ := Aside0.mk ((by rw [hg]; exact (below_size (by repeat (first | (with_reducible first | exact HB.out | apply below_alloc | apply pw_below_drewN | apply below_drew1) | exact HB.out))) : w.heap.size ≤ gb147)); have n3_ := Aside0.mk ((by rw [hg]; exact (below_size (by repeat (first | (with_reducible first | exact HB.out | apply below_alloc | apply pw_below_drewN | apply below_drew1) | exact HB.out))) : w.heap.size ≤ gb147)); clear HB; have HB := n0_; have BK147 := n1_; have GW147 := n2_; have GE147 := n3_; clear n0_ n1_ n2_ n3_; clear hb hbox hg; have hcz10_0 : w9.cell? ⟨gb147, 0, none⟩ = some (.int .i64 a1_0) := (blk_cell BK147.out 0).trans rfl; have hcz10_1 : w9.cell? ⟨gb147, 1, none⟩ = some (.int .i64 a1_1) := (blk_cell BK147.out 1).trans rfl; have hcz10_2 : w9.cell? ⟨gb147, 2, none⟩ = some (.int .i64 a1_2) := (blk_cell BK147.out 2).trans rfl; have hcz10_3 : w9.cell? ⟨gb147, 3, none⟩ = some (.int .i64 a1_3) := (blk_cell BK147.out 3).trans rfl; have hcz10_4 : w9.cell? ⟨gb147, 4, none⟩ = some (.int .i64 a1_4) := (blk_cell BK147.out 4).trans rfl; have hcz10_5 : w9.cell? ⟨gb147, 5, none⟩ = some (.int .i64 a1_5) := (blk_cell BK147.out 5).trans rfl; have hcz10_6 : w9.cell? ⟨gb147, 6, none⟩ = some (.slice A1_6 l1_6.length c1_6) := (blk_cell BK147.out 6).trans rfl; have hfz10_0 := blk_frozen BK147.out 0; have hfz10_1 := blk_frozen BK147.out 1; have hfz10_2 := blk_frozen BK147.out 2; have hfz10_3 := blk_frozen BK147.out 3; have hfz10_4 := blk_frozen BK147.out 4; have hfz10_5 := blk_frozen BK147.out 5; have hfz10_6 := blk_frozen BK147.out 6) | ((with_reducible refine gate_callee (f := 13) rfl ?_); refine goesL_ (some 11) rfl rfl Tryd.func13 (by kernel_rfl) rfl #[.agg #[.int .i64 a1_0, .int .i64 a1_1, .int .i64 a1_2, .int .i64 a1_3, .int .i64 a1_4, .int .i64 a1_5, .slice A1_6 l1_6.length c1_6]] rfl (by (try simp only [List.map_toArray, List.map_cons, List.map_nil]); first | done | rfl | (simp only [List.length_drop, List.length_take]; rfl)) ?_; (with_reducible refine (journal_Put.calls k a1_0 a1_1 a1_2 a1_3 a1_4 a1_5 _ _ l1_6 t148 t151 _ ?side1 ?side2 A3.out).mono ?_); (case side1 => repeat (first | exact (Kd.C_below HR1_6.out HB.out) | (with_reducible refine Kd.C_alloc ?_ _) | (with_reducible refine Kd.C_drewN ?_ _) | (with_reducible refine Kd.C_drew ?_))); (case side2 => exact HC1_6.out); rintro e w11 ⟨v149, rfl, ho0, hb⟩; refine ⟨_, rfl, ?_⟩; have n0_ := Aside0.mk (Kd.R_lower ho0 (below_size (by repeat (first | (with_reducible first | exact HB.out | apply below_alloc | apply pw_below_drewN | apply below_drew1 | refine below_set ?_ GE147.out) | exact HB.out)))); have n1_ := Aside0.mk (blk_below (g := gb147) (o := .cells #[.int .i64 a1_0, .int .i64 a1_1, .int .i64 a1_2, .int .i64 a1_3, .int .i64 a1_4, .int .i64 a1_5, .slice A1_6 l1_6.length c1_6] 24 (0, 0)) (by (with_reducible repeat (first | refine blk_drewN ?_ _ | refine blk_drew ?_ | refine blk_alloc ?_ _)); exact BK147.out) hb); have n2_ := Aside0.mk (below_step (by repeat (first | (with_reducible first | exact HB.out | apply below_alloc | apply pw_below_drewN | apply below_drew1 | refine below_set ?_ GE147.out) | exact HB.out)) hb); clear BK147; clear HB; have HO150 := n0_; have BK147 := n1_; have HB := n2_; clear n0_ n1_ n2_; (try clear hb); (try clear hb2); (try clear hk); (try clear hi); (try clear ho0); obtain ⟨Ao12, co12, eo12⟩ := Kd.R_slice HO150.out; subst eo12) | ((with_reducible refine gate_callee (f := 38) rfl ?_); refine goesL_ (some 19) rfl rfl Tryd.func38 (by kernel_rfl) rfl #[.slice Ao12 t148.length co12] rfl (by (try simp only [List.map_toArray, List.map_cons, List.map_nil]); first | done | rfl | (simp only [List.length_drop, List.length_take]; rfl)) ?_; (with_reducible refine (crc_Frame.calls _ _ t148 t152 t153 _ ?side1 ?side2 ?sideT A5.out).mono ?_); (case sideT => repeat (first | exact HT.out | exact (Kd.C_below HT.out HB.out) | (with_reducible refine Kd.C_alloc ?_ _) | (with_reducible refine Kd.C_drewN ?_ _) | (with_reducible refine Kd.C_drew ?_))); (case side1 => repeat (first | exact (Kd.R_reads' HO150.out).2.2 | (with_reducible refine Kd.C_alloc ?_ _) | (with_reducible refine Kd.C_drewN ?_ _) | (with_reducible refine Kd.C_drew ?_))); (case side2 => exact (Kd.R_reads' HO150.out).2.1); rintro e w13 ⟨v154, rfl, ho0, hb⟩; refine ⟨_, rfl, ?_⟩; have n0_ := Aside0.mk (Kd.R_elder' (by (with_reducible repeat (first | apply Kd.R_alloc | apply Kd.R_drewN | apply Kd.R_drew)); exact HO150.out) (Kd.R_base ho0) hb); have n1_ := Aside0.mk (Kd.R_lower (Kd.R_new' ho0 (Kd.R_lt (by (with_reducible repeat (first | apply Kd.R_alloc | apply Kd.R_drewN | apply Kd.R_drew)); exact HO150.out))) (below_size (by repeat (first | (with_reducible first | exact HB.out | apply below_alloc | apply pw_below_drewN | apply below_drew1 | refine below_set ?_ GE147.out) | exact HB.out)))); have n2_ := Aside0.mk (blk_below (g := gb147) (o := .cells #[.int .i64 a1_0, .int .i64 a1_1, .int .i64 a1_2, .int .i64 a1_3, .int .i64 a1_4, .int .i64 a1_5, .slice A1_6 l1_6.length c1_6] 24 (0, 0)) (by (with_reducible repeat (first | refine blk_drewN ?_ _ | refine blk_drew ?_ | refine blk_alloc ?_ _)); exact BK147.out) hb); have n3_ := Aside0.mk (below_step (by repeat (first | (with_reducible first | exact HB.out | apply below_alloc | apply pw_below_drewN | apply below_drew1 | refine below_set ?_ GE147.out) | exact HB.out)) hb); clear HO150; clear BK147; clear HB; have HO150 := n0_; have HO155 := n1_; have BK147 := n2_; have HB := n3_; clear n0_ n1_ n2_ n3_; (try clear hb); (try clear hb2); (try clear hk); (try clear hi); (try clear ho0)) | ((with_reducible refine gate_dst (N := 25) rfl ?_); refine Kd.R_lit (Kd.int .u8) _ 5 ?hg (N := 25) ?hd (xs := ([] : List Int)) (inner := []) (ok := fun _ => True) (okp := fun _ => True) ?hr ?hp (fun _ hk => hk) trivial (Below.refl _ _) (Nat.le_refl _) (by simp) ?_; (case hd => rfl); (case hg => rfl); (case hr => first | (go_simp; done) | (go_simp; rfl)); (case hp => exact (Reps.none _ _)); intro v157 w14 ho15 hb hg_ hnew_; clear hg_ hnew_; (first | rw [← Ny156.out] at ho15 | (simp only [Int.reduceToNat] at ho15; rw [← Ny156.out] at ho15)); have n0_ := Aside0.mk (Kd.R_elder' (by (with_reducible repeat (first | apply Kd.R_alloc | apply Kd.R_drewN | apply Kd.R_drew)); exact HO150.out) (Kd.R_base ho15) hb); have n1_ := Aside0.mk (Kd.R_elder' (by (with_reducible repeat (first | apply Kd.R_alloc | apply Kd.R_drewN | apply Kd.R_drew)); exact HO155.out) (Kd.R_base ho15) hb); have n2_ := Aside0.mk (Kd.R_lower (Kd.R_new' (Kd.R_new' ho15 (Kd.R_lt (by (with_reducible repeat (first | apply Kd.R_alloc | apply Kd.R_drewN | apply Kd.R_drew)); exact HO150.out))) (Kd.R_lt (by (with_reducible repeat (first | apply Kd.R_alloc | apply Kd.R_drewN | apply Kd.R_drew)); exact HO155.out))) (below_size (by repeat (first | (with_reducible first | exact HB.out | apply below_alloc | apply pw_below_drewN | apply below_drew1 | refine below_set ?_ GE147.out) | exact HB.out)))); have n3_ := Aside0.mk (blk_below (g := gb147) (o := .cells #[.int .i64 a1_0, .int .i64 a1_1, .int .i64 a1_2, .int .i64 a1_3, .int .i64 a1_4, .int .i64 a1_5, .slice A1_6 l1_6.length c1_6] 24 (0, 0)) (by (with_reducible repeat (first | refine blk_drewN ?_ _ | refine blk_drew ?_ | refine blk_alloc ?_ _)); exact BK147.out) hb); have n4_ := Aside0.mk (below_step (by repeat (first | (with_reducible first | exact HB.out | apply below_alloc | apply pw_below_drewN | apply below_drew1 | refine below_set ?_ GE147.out) | exact HB.out)) hb); clear HO150; clear HO155; clear BK147; clear HB; have HO150 := n0_; have HO155 := n1_; have HO158 := n2_; have BK147 := n3_; have HB := n4_; clear n0_ n1_ n2_ n3_ n4_; clear hb ho15) | ((with_reducible refine gate_builtin (b := .append) (xs := #[.tmp 25, .tmp 26]) rfl ?_); at_builtin; refine Kd.R_append_rows (Kd.int .u8) (w0 := w) w.heap.size rfl (.tmp 25) (.tmp 26) 28 5 (.int .u8 0) 1 rfl Tryd.underlying28 info5 rfl (by decide) (by omega) v157 y156 l0 _ _ _ (fun k_ => some k_ ≠ (.slice Ao12 t148.length co12 : Value).ownBlock ∧ some k_ ≠ (v154 : Value).ownBlock) (fun _ => False) rfl rfl ?aO ?aR (fun _ _ h => h) (fun _ h => h.elim) ?aF ?aB ?aS ?aL ?_; (case aR => repeat (first | exact (Kd.C_below HR0.out HB.out) | (with_reducible refine Kd.C_alloc ?_ _) | (with_reducible refine Kd.C_drewN ?_ _) | (with_reducible refine Kd.C_drew ?_))); (case aB => exact (by repeat (first | (with_reducible first | exact HB.out | apply below_alloc | apply pw_below_drewN | apply below_drew1 | refine below_set ?_ GE147.out) | exact HB.out))); (case aF => exact (fun k_ hk => ⟨Kd.fresh' (Kd.R_lt (by (with_reducible repeat (first | apply Kd.R_alloc | apply Kd.R_drewN | apply Kd.R_drew)); exact HO150.out)) k_ hk, Kd.fresh' (Kd.R_lt (by (with_reducible repeat (first | apply Kd.R_alloc | apply Kd.R_drewN | apply Kd.R_drew)); exact HO155.out)) k_ hk⟩)); (case aO => exact (by (with_reducible repeat (first | apply Kd.R_alloc | apply Kd.R_drewN | apply Kd.R_drew)); exact Kd.R_mono HO158.out (fun _ hk => ⟨hk.1.2, hk.2⟩))); (case aS => exact (below_size (by repeat (first | (with_reducible first | exact HB.out | apply below_alloc | apply pw_below_drewN | apply below_drew1 | refine below_set ?_ GE147.out) | exact HB.out)))); (case aL => have := LMc7.out; omega); intro v160 w16 ho hb hg hat; rw [← Ny159.out] at ho; have n0_ := Aside0.mk (blk_grown (g := gb147) (o := .cells #[.int .i64 a1_0, .int .i64 a1_1, .int .i64 a1_2, .int .i64 a1_3, .int .i64 a1_4, .int .i64 a1_5, .slice A1_6 l1_6.length c1_6] 24 (0, 0)) (by (with_reducible repeat (first | refine blk_drewN ?_ _ | refine blk_drew ?_ | refine blk_alloc ?_ _)); exact BK147.out) hg (Kd.R_ne HO158.out BK147.out (by decide))); have n1_ := Aside0.mk (Kd.R_after (ok := (fun k_ => some k_ ≠ (v154 : Value).ownBlock)) (by (with_reducible repeat (first | apply Kd.R_alloc | apply Kd.R_drewN | apply Kd.R_drew)); exact Kd.R_mono HO150.out (fun _ hk => ⟨hk.1.2, hk.2⟩)) hg hat); have n2_ := Aside0.mk (Kd.R_after (ok := (fun k_ => some k_ ≠ (.slice Ao12 t148.length co12 : Value).ownBlock)) (by (with_reducible repeat (first | apply Kd.R_alloc | apply Kd.R_drewN | apply Kd.R_drew)); exact Kd.R_mono HO155.out (fun _ hk => ⟨hk.1.2, hk.2⟩)) hg hat); have n3_ := Aside0.mk (hb); have n4_ := Aside0.mk (ho); clear BK147; clear HO150; clear HO155; clear HB; clear HO158; have BK147 := n0_; have HO150 := n1_; have HO155 := n2_; have HB := n3_; have HO161 := n4_; clear n0_ n1_ n2_ n3_ n4_; clear ho hb hg hat; obtain ⟨Ao18, co18, eo18⟩ := Kd.R_slice HO155.out; subst eo18) | ((with_reducible refine gate_builtin (b := .append) (xs := #[.tmp 27, .tmp 28]) rfl ?_); at_builtin; refine Kd.R_append_rows (Kd.int .u8) (w0 := w) w.heap.size rfl (.tmp 27) (.tmp 28) 28 5 (.int .u8 0) 1 rfl Tryd.underlying28 info5 rfl (by decide) (by omega) v160 y159 t152 _ _ _ (fun k_ => some k_ ≠ (.slice Ao12 t148.length co12 : Value).ownBlock ∧ some k_ ≠ (.slice Ao18 t152.length co18 : Value).ownBlock) (fun _ => False) rfl rfl ?aO ?aR (fun _ _ h => h) (fun _ h => h.elim) ?aF ?aB ?aS ?aL ?_; (case aR => repeat (first | exact (Kd.R_reads' HO155.out).2.2 | (with_reducible refine Kd.C_alloc ?_ _) | (with_reducible refine Kd.C_drewN ?_ _) | (with_reducible refine Kd.C_drew ?_))); (case aB => exact (by repeat (first | (with_reducible first | exact HB.out | apply below_alloc | apply pw_below_drewN | apply below_drew1 | refine below_set ?_ GE147.out) | exact HB.out))); (case aF => exact (fun k_ hk => ⟨Kd.fresh' (Kd.R_lt (by (with_reducible repeat (first | apply Kd.R_alloc | apply Kd.R_drewN | apply Kd.R_drew)); exact HO150.out)) k_ hk, Kd.fresh' (Kd.R_lt (by (with_reducible repeat (first | apply Kd.R_alloc | apply Kd.R_drewN | apply Kd.R_drew)); exact HO155.out)) k_ hk⟩)); (case aO => exact (by (with_reducible repeat (first | apply Kd.R_alloc | apply Kd.R_drewN | apply Kd.R_drew)); exact HO161.out)); (case aS => exact (below_size (by repeat (first | (with_reducible first | exact HB.out | apply below_alloc | apply pw_below_drewN | apply below_drew1 | refine below_set ?_ GE147.out) | exact HB.out)))); (case aL => have := LMc8.out; omega); intro v163 w17 ho hb hg hat; rw [← Ny162.out] at ho; have n0_ := Aside0.mk (blk_grown (g := gb147) (o := .cells #[.int .i64 a1_0, .int .i64 a1_1, .int .i64 a1_2, .int .i64 a1_3, .int .i64 a1_4, .int .i64 a1_5, .slice A1_6 l1_6.length c1_6] 24 (0, 0)) (by (with_reducible repeat (first | refine blk_drewN ?_ _ | refine blk_drew ?_ | refine blk_alloc ?_ _)); exact BK147.out) hg (Kd.R_ne HO161.out BK147.out (by decide))); have n1_ := Aside0.mk (Kd.R_after (ok := (fun k_ => some k_ ≠ (.slice Ao18 t152.length co18 : Value).ownBlock)) (by (with_reducible repeat (first | apply Kd.R_alloc | apply Kd.R_drewN | apply Kd.R_drew)); exact HO150.out) hg hat); have n2_ := Aside0.mk (Kd.R_after (ok := (fun k_ => some k_ ≠ (.slice Ao12 t148.length co12 : Value).ownBlock)) (by (with_reducible repeat (first | apply Kd.R_alloc | apply Kd.R_drewN | apply Kd.R_drew)); exact HO155.out) hg hat); have n3_ := Aside0.mk (hb); have n4_ := Aside0.mk (ho); clear BK147; clear HO150; clear HO155; clear HB; clear HO161; have BK147 := n0_; have HO150 := n1_; have HO155 := n2_; have HB := n3_; have HO164 := n4_; clear n0_ n1_ n2_ n3_ n4_; clear ho hb hg hat))
      go_ret2
      exact ⟨_, by first | rfl | (simp [errW_none, errW_some] <;> rfl) | (simp [*, errW_none, errW_some] <;> rfl), by (with_reducible repeat (first | apply Kd.R_alloc | apply Kd.R_drewN | apply Kd.R_drew)); exact Kd.R_mono HO164.out (fun _ hk => trivial), by repeat (first | (with_reducible first | exact HB.out | apply below_alloc | apply pw_below_drewN | apply below_drew1 | refine below_set ?_ GE147.out) | exact HB.out)⟩
     ·rw [if_neg c8] at H
      exact absurd H (by simp)
    ·rw [if_neg c7] at H
     exact absurd H (by simp)
   ·rw [if_neg c6] at H
    have c6b0 : (t153 == 0) = false := beq_eq_false_iff_ne.mpr c6
    have c6b1 : (t153 != 0) = true := bne_iff_ne.mpr c6
    simp only [Option.some.injEq, Prod.mk.injEq] at H
    obtain ⟨rfl, rfl⟩ := H
    go_enter Tryd.func21, Tryd.ntmps21
    go_wp2_with (first | ((with_reducible refine gate_dst (N := 3) rfl ?_); refine box_event ?hg (N := 3) ?hd (cs := #[.int .i64 a1_0, .int .i64 a1_1, .int .i64 a1_2, .int .i64 a1_3, .int .i64 a1_4, .int .i64 a1_5, .slice A1_6 l1_6.length c1_6]) (t := 24) ?hr ?_; (case hd => rfl); (case hg => rfl); (case hr => first | (go_simp; done) | (go_simp; rfl)); intro gb147 hg w19 hbox hb; have n0_ := Aside0.mk (below_step (by repeat (first | (with_reducible first | exact HB.out | apply below_alloc | apply pw_below_drewN | apply below_drew1) | exact HB.out)) hb); have n1_ := Aside0.mk (hbox); have n2_ := Aside0.mk ((by rw [hg]; exact (below_size (by repeat (first | (with_reducible first | exact HB.out | apply below_alloc | apply pw_below_drewN | apply below_drew1) | exact HB.out))) : w.heap.size ≤ gb147)); have n3_ := Aside0.mk ((by rw [hg]; exact (below_size (by repeat (first | (with_reducible first | exact HB.out | apply below_alloc | apply pw_below_drewN | apply below_drew1) | exact HB.out))) : w.heap.size ≤ gb147)); clear HB; have HB := n0_; have BK147 := n1_; have GW147 := n2_; have GE147 := n3_; clear n0_ n1_ n2_ n3_; clear hb hbox hg; have hcz20_0 : w19.cell? ⟨gb147, 0, none⟩ = some (.int .i64 a1_0) := (blk_cell BK147.out 0).trans rfl; have hcz20_1 : w19.cell? ⟨gb147, 1, none⟩ = some (.int .i64 a1_1) := (blk_cell BK147.out 1).trans rfl; have hcz20_2 : w19.cell? ⟨gb147, 2, none⟩ = some (.int .i64 a1_2) := (blk_cell BK147.out 2).trans rfl; have hcz20_3 : w19.cell? ⟨gb147, 3, none⟩ = some (.int .i64 a1_3) := (blk_cell BK147.out 3).trans rfl; have hcz20_4 : w19.cell? ⟨gb147, 4, none⟩ = some (.int .i64 a1_4) := (blk_cell BK147.out 4).trans rfl; have hcz20_5 : w19.cell? ⟨gb147, 5, none⟩ = some (.int .i64 a1_5) := (blk_cell BK147.out 5).trans rfl; have hcz20_6 : w19.cell? ⟨gb147, 6, none⟩ = some (.slice A1_6 l1_6.length c1_6) := (blk_cell BK147.out 6).trans rfl; have hfz20_0 := blk_frozen BK147.out 0; have hfz20_1 := blk_frozen BK147.out 1; have hfz20_2 := blk_frozen BK147.out 2; have hfz20_3 := blk_frozen BK147.out 3; have hfz20_4 := blk_frozen BK147.out 4; have hfz20_5 := blk_frozen BK147.out 5; have hfz20_6 := blk_frozen BK147.out 6) | ((with_reducible refine gate_callee (f := 13) rfl ?_); refine goesL_ (some 11) rfl rfl Tryd.func13 (by kernel_rfl) rfl #[.agg #[.int .i64 a1_0, .int .i64 a1_1, .int .i64 a1_2, .int .i64 a1_3, .int .i64 a1_4, .int .i64 a1_5, .slice A1_6 l1_6.length c1_6]] rfl (by (try simp only [List.map_toArray, List.map_cons, List.map_nil]); first | done | rfl | (simp only [List.length_drop, List.length_take]; rfl)) ?_; (with_reducible refine (journal_Put.calls k a1_0 a1_1 a1_2 a1_3 a1_4 a1_5 _ _ l1_6 t148 t151 _ ?side1 ?side2 A3.out).mono ?_); (case side1 => repeat (first | exact (Kd.C_below HR1_6.out HB.out) | (with_reducible refine Kd.C_alloc ?_ _) | (with_reducible refine Kd.C_drewN ?_ _) | (with_reducible refine Kd.C_drew ?_))); (case side2 => exact HC1_6.out); rintro e w21 ⟨v149, rfl, ho0, hb⟩; refine ⟨_, rfl, ?_⟩; have n0_ := Aside0.mk (Kd.R_lower ho0 (below_size (by repeat (first | (with_reducible first | exact HB.out | apply below_alloc | apply pw_below_drewN | apply below_drew1 | refine below_set ?_ GE147.out) | exact HB.out)))); have n1_ := Aside0.mk (blk_below (g := gb147) (o := .cells #[.int .i64 a1_0, .int .i64 a1_1, .int .i64 a1_2, .int .i64 a1_3, .int .i64 a1_4, .int .i64 a1_5, .slice A1_6 l1_6.length c1_6] 24 (0, 0)) (by (with_reducible repeat (first | refine blk_drewN ?_ _ | refine blk_drew ?_ | refine blk_alloc ?_ _)); exact BK147.out) hb); have n2_ := Aside0.mk (below_step (by repeat (first | (with_reducible first | exact HB.out | apply below_alloc | apply pw_below_drewN | apply below_drew1 | refine below_set ?_ GE147.out) | exact HB.out)) hb); clear BK147; clear HB; have HO150 := n0_; have BK147 := n1_; have HB := n2_; clear n0_ n1_ n2_; (try clear hb); (try clear hb2); (try clear hk); (try clear hi); (try clear ho0); obtain ⟨Ao22, co22, eo22⟩ := Kd.R_slice HO150.out; subst eo22) | ((with_reducible refine gate_callee (f := 38) rfl ?_); refine goesL_ (some 19) rfl rfl Tryd.func38 (by kernel_rfl) rfl #[.slice Ao22 t148.length co22] rfl (by (try simp only [List.map_toArray, List.map_cons, List.map_nil]); first | done | rfl | (simp only [List.length_drop, List.length_take]; rfl)) ?_; (with_reducible refine (crc_Frame.calls _ _ t148 t152 t153 _ ?side1 ?side2 ?sideT A5.out).mono ?_); (case sideT => repeat (first | exact HT.out | exact (Kd.C_below HT.out HB.out) | (with_reducible refine Kd.C_alloc ?_ _) | (with_reducible refine Kd.C_drewN ?_ _) | (with_reducible refine Kd.C_drew ?_))); (case side1 => repeat (first | exact (Kd.R_reads' HO150.out).2.2 | (with_reducible refine Kd.C_alloc ?_ _) | (with_reducible refine Kd.C_drewN ?_ _) | (with_reducible refine Kd.C_drew ?_))); (case side2 => exact (Kd.R_reads' HO150.out).2.1); rintro e w23 ⟨v154, rfl, ho0, hb⟩; refine ⟨_, rfl, ?_⟩; have n0_ := Aside0.mk (Kd.R_elder' (by (with_reducible repeat (first | apply Kd.R_alloc | apply Kd.R_drewN | apply Kd.R_drew)); exact HO150.out) (Kd.R_base ho0) hb); have n1_ := Aside0.mk (Kd.R_lower (Kd.R_new' ho0 (Kd.R_lt (by (with_reducible repeat (first | apply Kd.R_alloc | apply Kd.R_drewN | apply Kd.R_drew)); exact HO150.out))) (below_size (by repeat (first | (with_reducible first | exact HB.out | apply below_alloc | apply pw_below_drewN | apply below_drew1 | refine below_set ?_ GE147.out) | exact HB.out)))); have n2_ := Aside0.mk (blk_below (g := gb147) (o := .cells #[.int .i64 a1_0, .int .i64 a1_1, .int .i64 a1_2, .int .i64 a1_3, .int .i64 a1_4, .int .i64 a1_5, .slice A1_6 l1_6.length c1_6] 24 (0, 0)) (by (with_reducible repeat (first | refine blk_drewN ?_ _ | refine blk_drew ?_ | refine blk_alloc ?_ _)); exact BK147.out) hb); have n3_ := Aside0.mk (below_step (by repeat (first | (with_reducible first | exact HB.out | apply below_alloc | apply pw_below_drewN | apply below_drew1 | refine below_set ?_ GE147.out) | exact HB.out)) hb); clear HO150; clear BK147; clear HB; have HO150 := n0_; have HO155 := n1_; have BK147 := n2_; have HB := n3_; clear n0_ n1_ n2_ n3_; (try clear hb); (try clear hb2); (try clear hk); (try clear hi); (try clear ho0)))
    go_ret2
    exact ⟨_, by first | rfl | (simp [errW_none, errW_some] <;> rfl) | (simp [*, errW_none, errW_some] <;> rfl), by first | exact Kd.R_nil _ _ _ _ _ | exact Kd.N_nil _ _ _ _ _ | exact Kd.V_nil _ _ _ _ _ | exact Kd.Q_nil _ _ _ _ _ | exact Kd.S_nil _ _ _ _ _, by repeat (first | (with_reducible first | exact HB.out | apply below_alloc | apply pw_below_drewN | apply below_drew1 | refine below_set ?_ GE147.out) | exact HB.out)⟩
  ·rw [if_neg c4] at H
   have c4b0 : (t151 == 0) = false := beq_eq_false_iff_ne.mpr c4
   have c4b1 : (t151 != 0) = true := bne_iff_ne.mpr c4
   simp only [Option.some.injEq, Prod.mk.injEq] at H
   obtain ⟨rfl, rfl⟩ := H
   go_enter Tryd.func21, Tryd.ntmps21
   go_wp2_with (first | ((with_reducible refine gate_dst (N := 3) rfl ?_); refine box_event ?hg (N := 3) ?hd (cs := #[.int .i64 a1_0, .int .i64 a1_1, .int .i64 a1_2, .int .i64 a1_3, .int .i64 a1_4, .int .i64 a1_5, .slice A1_6 l1_6.length c1_6]) (t := 24) ?hr ?_; (case hd => rfl); (case hg => rfl); (case hr => first | (go_simp; done) | (go_simp; rfl)); intro gb147 hg w24 hbox hb; have n0_ := Aside0.mk (below_step (by repeat (first | (with_reducible first | exact HB.out | apply below_alloc | apply pw_below_drewN | apply below_drew1) | exact HB.out)) hb); have n1_ := Aside0.mk (hbox); have n2_ := Aside0.mk ((by rw [hg]; exact (below_size (by repeat (first | (with_reducible first | exact HB.out | apply below_alloc | apply pw_below_drewN | apply below_drew1) | exact HB.out))) : w.heap.size ≤ gb147)); have n3_ := Aside0.mk ((by rw [hg]; exact (below_size (by repeat (first | (with_reducible first | exact HB.out | apply below_alloc | apply pw_below_drewN | apply below_drew1) | exact HB.out))) : w.heap.size ≤ gb147)); clear HB; have HB := n0_; have BK147 := n1_; have GW147 := n2_; have GE147 := n3_; clear n0_ n1_ n2_ n3_; clear hb hbox hg; have hcz25_0 : w24.cell? ⟨gb147, 0, none⟩ = some (.int .i64 a1_0) := (blk_cell BK147.out 0).trans rfl; have hcz25_1 : w24.cell? ⟨gb147, 1, none⟩ = some (.int .i64 a1_1) := (blk_cell BK147.out 1).trans rfl; have hcz25_2 : w24.cell? ⟨gb147, 2, none⟩ = some (.int .i64 a1_2) := (blk_cell BK147.out 2).trans rfl; have hcz25_3 : w24.cell? ⟨gb147, 3, none⟩ = some (.int .i64 a1_3) := (blk_cell BK147.out 3).trans rfl; have hcz25_4 : w24.cell? ⟨gb147, 4, none⟩ = some (.int .i64 a1_4) := (blk_cell BK147.out 4).trans rfl; have hcz25_5 : w24.cell? ⟨gb147, 5, none⟩ = some (.int .i64 a1_5) := (blk_cell BK147.out 5).trans rfl; have hcz25_6 : w24.cell? ⟨gb147, 6, none⟩ = some (.slice A1_6 l1_6.length c1_6) := (blk_cell BK147.out 6).trans rfl; have hfz25_0 := blk_frozen BK147.out 0; have hfz25_1 := blk_frozen BK147.out 1; have hfz25_2 := blk_frozen BK147.out 2; have hfz25_3 := blk_frozen BK147.out 3; have hfz25_4 := blk_frozen BK147.out 4; have hfz25_5 := blk_frozen BK147.out 5; have hfz25_6 := blk_frozen BK147.out 6) | ((with_reducible refine gate_callee (f := 13) rfl ?_); refine goesL_ (some 11) rfl rfl Tryd.func13 (by kernel_rfl) rfl #[.agg #[.int .i64 a1_0, .int .i64 a1_1, .int .i64 a1_2, .int .i64 a1_3, .int .i64 a1_4, .int .i64 a1_5, .slice A1_6 l1_6.length c1_6]] rfl (by (try simp only [List.map_toArray, List.map_cons, List.map_nil]); first | done | rfl | (simp only [List.length_drop, List.length_take]; rfl)) ?_; (with_reducible refine (journal_Put.calls k a1_0 a1_1 a1_2 a1_3 a1_4 a1_5 _ _ l1_6 t148 t151 _ ?side1 ?side2 A3.out).mono ?_); (case side1 => repeat (first | exact (Kd.C_below HR1_6.out HB.out) | (with_reducible refine Kd.C_alloc ?_ _) | (with_reducible refine Kd.C_drewN ?_ _) | (with_reducible refine Kd.C_drew ?_))); (case side2 => exact HC1_6.out); rintro e w26 ⟨v149, rfl, ho0, hb⟩; refine ⟨_, rfl, ?_⟩; have n0_ := Aside0.mk (Kd.R_lower ho0 (below_size (by repeat (first | (with_reducible first | exact HB.out | apply below_alloc | apply pw_below_drewN | apply below_drew1 | refine below_set ?_ GE147.out) | exact HB.out)))); have n1_ := Aside0.mk (blk_below (g := gb147) (o := .cells #[.int .i64 a1_0, .int .i64 a1_1, .int .i64 a1_2, .int .i64 a1_3, .int .i64 a1_4, .int .i64 a1_5, .slice A1_6 l1_6.length c1_6] 24 (0, 0)) (by (with_reducible repeat (first | refine blk_drewN ?_ _ | refine blk_drew ?_ | refine blk_alloc ?_ _)); exact BK147.out) hb); have n2_ := Aside0.mk (below_step (by repeat (first | (with_reducible first | exact HB.out | apply below_alloc | apply pw_below_drewN | apply below_drew1 | refine below_set ?_ GE147.out) | exact HB.out)) hb); clear BK147; clear HB; have HO150 := n0_; have BK147 := n1_; have HB := n2_; clear n0_ n1_ n2_; (try clear hb); (try clear hb2); (try clear hk); (try clear hi); (try clear ho0)))
   go_ret2
   exact ⟨_, by first | rfl | (simp [errW_none, errW_some] <;> rfl) | (simp [*, errW_none, errW_some] <;> rfl), by first | exact Kd.R_nil _ _ _ _ _ | exact Kd.N_nil _ _ _ _ _ | exact Kd.V_nil _ _ _ _ _ | exact Kd.Q_nil _ _ _ _ _ | exact Kd.S_nil _ _ _ _ _, by repeat (first | (with_reducible first | exact HB.out | apply below_alloc | apply pw_below_drewN | apply below_drew1 | refine below_set ?_ GE147.out) | exact HB.out)⟩

end Go.Proofs.YtpcicooogiialaaDoor.PG
