/- The walk of TopReels. No condition. -/
import Derived.Test.YtebifddfgimnlaaWEqStruct
import Derived.Test.YtebifddfgimnlaaU3
import Derived.Test.YtebifddfgimnlaaU2
import Derived.Deep.CutBlock
import Derived.Test.YtebifddfgimnlaaOpens
section
/- The small case. -/
namespace Go.Proofs.Ytebifddfgimnlaa.Rl
open Go.RowKit Go.Proofs.Ytebifddfgimnlaa.PX Go.Proofs.Ytebifddfgimnlaa.Rd Go.Proofs.YtebifddfgimnlaaW.PrintWords Go.Proofs.YtebifddfgimnlaaW.PrintLast
set_option linter.unusedVariables false
set_option linter.unusedSimpArgs false
def c0 : Cs := ⟨0, 0, [⟨1, 0⟩, ⟨2, 0⟩], [⟨0, 1000⟩], [⟨0, 0, 0⟩], 20⟩
def P0 : List S77 := [⟨2, 0, 20⟩]
def L0 : List S45 := [⟨0, 20000, 1, 0, 0⟩]
theorem ph0 : phF c0 = (P0, 0) := by kernel_rfl
theorem ms0 : [0, 20, 0, 0, 0, 0].mergeSort (fun (x y : Int) => decide (x ≤ y)) = [0, 0, 0, 0, 0, 20] := by simp [List.mergeSort]
theorem ch0 : chL c0 P0 = [0, 20] := by
  unfold chL chZ
  rw [show chR c0 P0 = [0, 20, 0, 0, 0, 0] by kernel_rfl, ms0]
  kernel_rfl
theorem us0 : US c0 P0 = [⟨0, 20, ⟨0, 0, 1, 0, 0⟩, 1000⟩] := by
  unfold US
  rw [ch0]
  kernel_rfl
theorem sec0 : secF c0 P0 = (L0, 0) := by
  unfold secF
  rw [us0]
  kernel_rfl
theorem cut0 : cutF L0 [4000, 19500] 1000 = ([⟨0, 4000⟩, ⟨4000, 19500⟩], [⟨19500, 20000⟩]) := by kernel_rfl
theorem rchk0 : ∀ k, reel_Check.f (k + 2 * L0.length + 4) L0 = some 0 := by intro k; kernel_rfl
theorem rtur0 : ∃ k, reel_checkTurns.f k [4000, 19500] = some 0 := ⟨6, by kernel_rfl⟩
theorem eqA43 (d : Nat) (w : World) (x0 y0 : Int) (x1 y1 : Int) :
    (Op.equalIn (d + 2) 43 (.agg #[.int .i64 x0, .int .i64 x1]) (.agg #[.int .i64 y0, .int .i64 y1])).run Try.prog w = .ok (x0 == y0 && (x1 == y1)) w := by
  refine eqA_of Try.underlying43 (by kernel_rfl) ?_
  refine eqf_cons (by rfl) (by go_simp; rfl) (by go_simp; rfl) (by go_simp) ?_
  exact eqf_last (by rfl) (by go_simp; rfl) (by go_simp; rfl) (by go_simp)
attribute [local go_sem high] eqA43
theorem below_none {w w1 : World} (h : w.grownBy w1 none) : Below w.heap.size w w1 := ⟨h.os, h.tape, h.output, h.size, fun k hk => h.block k hk (by simp)⟩
set_option maxHeartbeats 4000000 in
set_option maxRecDepth 100000 in
theorem reeled_calls (w : World) : Calls Try.prog 4 #[] w fun e w' => e = .returned (.bool true) ∧ Below w.heap.size w w' := by
  have HB := Aside0.mk (Below.refl w.heap.size w)
  go_enter Try.func4, Try.ntmps4
  go_wp2_with (first
      | ((with_reducible refine gate_dst (N := 9) rfl ?_); go_must (refine Kd.R_lit k50 w.heap.size 50 ?hg (N := 9) ?hd (w0 := w) (xs := ([⟨1, 0⟩, ⟨2, 0⟩] : List S50)) (inner := [.int .i64 1, .int .i64 0, .int .i64 2, .int .i64 0]) (ok := fun _ => True) (okp := fun _ => False) ?hr ?hp (fun _ hk => hk.elim) trivial HB.out HB.out.size (by decide) ?_; (case hd => rfl); (case hg => rfl); (case hr => first | (go_simp; done) | (go_simp; rfl)); (case hp => exact (Reps.snoc (Reps.snoc (Reps.none _ _) (k50_mkM _ _ _ (⟨1, 0⟩ : S50)) rfl) (k50_mkM _ _ _ (⟨2, 0⟩ : S50)) rfl)); intro v9 w9 ho hb hg_ hnew_; obtain ⟨A9, k9, rfl, hk9, hC9⟩ := Kd.R_reads ho; have hbb := below_none hg_; have nHB := Aside0.mk (below_step HB.out hbb); clear HB; have HB := nHB; clear nHB; have C9 := Aside0.mk (And.intro hC9 hk9); clear hC9 hk9 ho hb hg_ hnew_ hbb))
      | ((with_reducible refine gate_dst (N := 11) rfl ?_); go_must (refine Kd.R_lit k52 w.heap.size 52 ?hg (N := 11) ?hd (w0 := w) (xs := ([⟨0, 1000⟩] : List S52)) (inner := [.int .i64 0, .int .i64 1000]) (ok := fun _ => True) (okp := fun _ => False) ?hr ?hp (fun _ hk => hk.elim) trivial HB.out HB.out.size (by decide) ?_; (case hd => rfl); (case hg => rfl); (case hr => first | (go_simp; done) | (go_simp; rfl)); (case hp => exact (Reps.snoc (Reps.none _ _) (k52_mkM _ _ _ (⟨0, 1000⟩ : S52)) rfl)); intro v11 w11 ho hb hg_ hnew_; obtain ⟨A11, k11, rfl, hk11, hC11⟩ := Kd.R_reads ho; have hbb := below_none hg_; have nHB := Aside0.mk (below_step HB.out hbb); have nC9 := Aside0.mk (And.intro (Kd.C_below C9.out.1 hbb) C9.out.2); clear HB; clear C9; have HB := nHB; clear nHB; have C9 := nC9; clear nC9; have C11 := Aside0.mk (And.intro hC11 hk11); clear hC11 hk11 ho hb hg_ hnew_ hbb))
      | ((with_reducible refine gate_dst (N := 13) rfl ?_); go_must (refine Kd.R_lit k54 w.heap.size 54 ?hg (N := 13) ?hd (w0 := w) (xs := ([⟨0, 0, 0⟩] : List S54)) (inner := [.int .i64 0, .int .i64 0, .int .i64 0]) (ok := fun _ => True) (okp := fun _ => False) ?hr ?hp (fun _ hk => hk.elim) trivial HB.out HB.out.size (by decide) ?_; (case hd => rfl); (case hg => rfl); (case hr => first | (go_simp; done) | (go_simp; rfl)); (case hp => exact (Reps.snoc (Reps.none _ _) (k54_mkM _ _ _ (⟨0, 0, 0⟩ : S54)) rfl)); intro v13 w13 ho hb hg_ hnew_; obtain ⟨A13, k13, rfl, hk13, hC13⟩ := Kd.R_reads ho; have hbb := below_none hg_; have nHB := Aside0.mk (below_step HB.out hbb); have nC9 := Aside0.mk (And.intro (Kd.C_below C9.out.1 hbb) C9.out.2); have nC11 := Aside0.mk (And.intro (Kd.C_below C11.out.1 hbb) C11.out.2); clear HB; clear C9; clear C11; have HB := nHB; clear nHB; have C9 := nC9; clear nC9; have C11 := nC11; clear nC11; have C13 := Aside0.mk (And.intro hC13 hk13); clear hC13 hk13 ho hb hg_ hnew_ hbb))
      | (go_at_call 5; go_must (refine (sections_ok c0 ⟨A9, k9, A11, k11, A13, k13⟩ P0 _ ⟨C9.out.1, C9.out.2, C11.out.1, C11.out.2, C13.out.1, C13.out.2⟩ ph0 (by decide) (by decide) (by decide)).mono ?_; rw [sec0]; rintro e w5 ⟨v, rfl, hR, hb⟩; obtain ⟨A5, k5, rfl, hk5, hC5⟩ := Kd.R_reads hR; have C5 := Aside0.mk (And.intro hC5 hk5); have nHB := Aside0.mk (below_step HB.out hb); clear HB; have HB := nHB; clear nHB; clear hR hb hC5 hk5 C9 C11 C13))
      | ((with_reducible refine gate_dst (N := 22) rfl ?_); go_must (refine Kd.R_lit (Kd.int .i64) w.heap.size 3 ?hg (N := 22) ?hd (w0 := w) (xs := ([4000, 19500] : List Int)) (inner := [.int .i64 4000, .int .i64 19500]) (ok := fun _ => True) (okp := fun _ => False) ?hr ?hp (fun _ hk => hk.elim) trivial HB.out HB.out.size (by decide) ?_; (case hd => rfl); (case hg => rfl); (case hr => first | (go_simp; done) | (go_simp; rfl)); (case hp => exact (Reps.snoc (Reps.snoc (Reps.none _ _) (show (Kd.int .i64).M _ _ _ (4000 : Int) [.int .i64 4000] from rfl) rfl) (show (Kd.int .i64).M _ _ _ (19500 : Int) [.int .i64 19500] from rfl) rfl)); intro v22 w22 ho hb hg_ hnew_; obtain ⟨A22, k22, rfl, hk22, hC22⟩ := Kd.R_reads ho; have hbb := below_none hg_; have nHB := Aside0.mk (below_step HB.out hbb); have nC5 := Aside0.mk (And.intro (Kd.C_below C5.out.1 hbb) C5.out.2); clear HB; clear C5; have HB := nHB; clear nHB; have C5 := nC5; clear nC5; have C22 := Aside0.mk (And.intro hC22 hk22); clear hC22 hk22 ho hb hg_ hnew_ hbb))
      | (go_at_call 6; go_must (refine (cut_ok L0 [4000, 19500] 1000 A5 k5 A22 k22 _ C5.out.1 C5.out.2 C22.out.1 C22.out.2 rchk0 (by decide) rtur0 (by decide) (by decide) (by decide)).mono ?_; rw [cut0]; rintro e w6 ⟨v1, v2, rfl, hR1, hR2, hb⟩; obtain ⟨A6, k6, rfl, hk6, hC6⟩ := Kd.R_reads hR1; obtain ⟨A7, k7, rfl, hk7, hC7⟩ := Kd.R_reads hR2; have nHB := Aside0.mk (below_step HB.out hb); clear HB; have HB := nHB; clear nHB; obtain ⟨a6, rfl, x0, x1⟩ := at_T43 hC6 (0 : Int) (by decide) (by decide); obtain ⟨a6', ha6, x2, x3⟩ := at_T43 hC6 (1 : Int) (by decide) (by decide); obtain rfl := Option.some.inj ha6; obtain ⟨a7, rfl, x4, x5⟩ := at_T43 hC7 (0 : Int) (by decide) (by decide); change w6.cell? a6 = some (.int .i64 0) at x0; change w6.cell? ⟨a6.block, a6.off + 1, none⟩ = some (.int .i64 4000) at x1; have x2b : w6.cell? ⟨a6.block, a6.off + 2, none⟩ = some (.int .i64 4000) := x2; have x3b : w6.cell? ⟨a6.block, a6.off + 2 + 1, none⟩ = some (.int .i64 19500) := x3; have x3c : w6.cell? ⟨a6.block, a6.off + 3, none⟩ = some (.int .i64 19500) := x3; clear x2 x3; change w6.cell? a7 = some (.int .i64 19500) at x4; change w6.cell? ⟨a7.block, a7.off + 1, none⟩ = some (.int .i64 20000) at x5; clear hR1 hR2 hb hC6 hk6 hC7 hk7 C5 C22 ha6)))
  go_ret
  exact ⟨rfl, HB.out⟩
end Go.Proofs.Ytebifddfgimnlaa.Rl
end
section
/- TopReels where there are too many, or an error. -/
namespace Go.Proofs.Ytebifddfgimnlaa.Rl
open Go.RowKit Go.Proofs.Ytebifddfgimnlaa.PX Go.Proofs.Ytebifddfgimnlaa.Rd Go.Proofs.YtebifddfgimnlaaW.PrintWords Go.Proofs.YtebifddfgimnlaaW.PrintLast
set_option linter.unusedVariables false
set_option linter.unusedSimpArgs false
set_option maxHeartbeats 4000000 in
set_option maxRecDepth 100000 in
theorem top_big0 (c : Cs) (a : CsA) (turns : List Int) (At : Option Addr) (ct : Nat) (least : Int) (w : World) (hc : CsC w c a) (hCt : Kd.C (Kd.int .i64) w At turns.length turns) (hct : turns.length ≤ ct)  (h0 : 40 < c.acts.length) :
    Calls Try.prog 3 #[.agg (csV c a), .slice At turns.length ct, .int .i64 least] w fun e w' => e = .returned (.bool true) ∧ Below w.heap.size w w' := by
  have HC := Aside0.mk hc
  have HCT := Aside0.mk hCt
  have HTL := Aside0.mk hct
  obtain ⟨X2, y2, X3, y3, X4, y4⟩ := a
  unfold csV
  have q0 := eq_true (show ((c.acts.length : Nat) : Int) > 40 by omega); have q0b := eq_true (show (40 : Int) < ((c.acts.length : Nat) : Int) by omega); have q0c := eq_true (show 40 < c.acts.length by omega)
  clear hc hCt hct h0
  go_enter Try.func3, Try.ntmps3
  go_wp2_with (first
      | ((with_reducible refine gate_dst (N := 3) rfl ?_); go_must (refine box_event ?hg (N := 3) ?hd (cs := #[.int .i64 c.th, .int .i64 c.cl, .slice X2 c.acts.length y2, .slice X3 c.pac.length y3, .slice X4 c.sw.length y4, .int .i64 c.en]) (t := 28) ?hr ?_; (case hd => rfl); (case hg => rfl); (case hr => first | (go_simp; done) | (go_simp; rfl)); intro g3 hg w1 hbox hb; have BK2 := Aside0.mk hbox; have HB := Aside0.mk hb; have HCC := Aside0.mk (HC.out.below hb); have x0 : w1.cell? ⟨g3, 0, none⟩ = some (.int .i64 c.th) := (blk_cell BK2.out 0).trans rfl; have x1 : w1.cell? ⟨g3, 1, none⟩ = some (.int .i64 c.cl) := (blk_cell BK2.out 1).trans rfl; have x2 : w1.cell? ⟨g3, 2, none⟩ = some (.slice X2 c.acts.length y2) := (blk_cell BK2.out 2).trans rfl; have x3 : w1.cell? ⟨g3, 3, none⟩ = some (.slice X3 c.pac.length y3) := (blk_cell BK2.out 3).trans rfl; have x4 : w1.cell? ⟨g3, 4, none⟩ = some (.slice X4 c.sw.length y4) := (blk_cell BK2.out 4).trans rfl; have x5 : w1.cell? ⟨g3, 5, none⟩ = some (.int .i64 c.en) := (blk_cell BK2.out 5).trans rfl; clear hbox hb hg HC))
      | (go_at_call 4; go_must (refine (reeled_calls _).mono ?_; rintro e wz ⟨rfl, hb⟩; have nHB := Aside0.mk (below_step HB.out hb); clear HB; have HB := nHB; clear nHB; clear hb)))
  go_ret
  exact ⟨rfl, HB.out⟩
set_option maxHeartbeats 4000000 in
set_option maxRecDepth 100000 in
theorem top_big1 (c : Cs) (a : CsA) (turns : List Int) (At : Option Addr) (ct : Nat) (least : Int) (w : World) (hc : CsC w c a) (hCt : Kd.C (Kd.int .i64) w At turns.length turns) (hct : turns.length ≤ ct) (h0 : c.acts.length ≤ 40) (h1 : 40 < c.pac.length) :
    Calls Try.prog 3 #[.agg (csV c a), .slice At turns.length ct, .int .i64 least] w fun e w' => e = .returned (.bool true) ∧ Below w.heap.size w w' := by
  have HC := Aside0.mk hc
  have HCT := Aside0.mk hCt
  have HTL := Aside0.mk hct
  obtain ⟨X2, y2, X3, y3, X4, y4⟩ := a
  unfold csV
  have q0 := eq_false (show ¬ ((c.acts.length : Nat) : Int) > 40 by omega); have q0b := eq_false (show ¬ (40 : Int) < ((c.acts.length : Nat) : Int) by omega); have q0c := eq_false (show ¬ 40 < c.acts.length by omega)
  have q1 := eq_true (show ((c.pac.length : Nat) : Int) > 40 by omega); have q1b := eq_true (show (40 : Int) < ((c.pac.length : Nat) : Int) by omega); have q1c := eq_true (show 40 < c.pac.length by omega)
  clear hc hCt hct h0 h1
  go_enter Try.func3, Try.ntmps3
  go_wp2_with (first
      | ((with_reducible refine gate_dst (N := 3) rfl ?_); go_must (refine box_event ?hg (N := 3) ?hd (cs := #[.int .i64 c.th, .int .i64 c.cl, .slice X2 c.acts.length y2, .slice X3 c.pac.length y3, .slice X4 c.sw.length y4, .int .i64 c.en]) (t := 28) ?hr ?_; (case hd => rfl); (case hg => rfl); (case hr => first | (go_simp; done) | (go_simp; rfl)); intro g3 hg w1 hbox hb; have BK2 := Aside0.mk hbox; have HB := Aside0.mk hb; have HCC := Aside0.mk (HC.out.below hb); have x0 : w1.cell? ⟨g3, 0, none⟩ = some (.int .i64 c.th) := (blk_cell BK2.out 0).trans rfl; have x1 : w1.cell? ⟨g3, 1, none⟩ = some (.int .i64 c.cl) := (blk_cell BK2.out 1).trans rfl; have x2 : w1.cell? ⟨g3, 2, none⟩ = some (.slice X2 c.acts.length y2) := (blk_cell BK2.out 2).trans rfl; have x3 : w1.cell? ⟨g3, 3, none⟩ = some (.slice X3 c.pac.length y3) := (blk_cell BK2.out 3).trans rfl; have x4 : w1.cell? ⟨g3, 4, none⟩ = some (.slice X4 c.sw.length y4) := (blk_cell BK2.out 4).trans rfl; have x5 : w1.cell? ⟨g3, 5, none⟩ = some (.int .i64 c.en) := (blk_cell BK2.out 5).trans rfl; clear hbox hb hg HC))
      | (go_at_call 4; go_must (refine (reeled_calls _).mono ?_; rintro e wz ⟨rfl, hb⟩; have nHB := Aside0.mk (below_step HB.out hb); clear HB; have HB := nHB; clear nHB; clear hb)))
  go_ret
  exact ⟨rfl, HB.out⟩
set_option maxHeartbeats 4000000 in
set_option maxRecDepth 100000 in
theorem top_big2 (c : Cs) (a : CsA) (turns : List Int) (At : Option Addr) (ct : Nat) (least : Int) (w : World) (hc : CsC w c a) (hCt : Kd.C (Kd.int .i64) w At turns.length turns) (hct : turns.length ≤ ct) (h0 : c.acts.length ≤ 40) (h1 : c.pac.length ≤ 40) (h2 : 40 < c.sw.length) :
    Calls Try.prog 3 #[.agg (csV c a), .slice At turns.length ct, .int .i64 least] w fun e w' => e = .returned (.bool true) ∧ Below w.heap.size w w' := by
  have HC := Aside0.mk hc
  have HCT := Aside0.mk hCt
  have HTL := Aside0.mk hct
  obtain ⟨X2, y2, X3, y3, X4, y4⟩ := a
  unfold csV
  have q0 := eq_false (show ¬ ((c.acts.length : Nat) : Int) > 40 by omega); have q0b := eq_false (show ¬ (40 : Int) < ((c.acts.length : Nat) : Int) by omega); have q0c := eq_false (show ¬ 40 < c.acts.length by omega)
  have q1 := eq_false (show ¬ ((c.pac.length : Nat) : Int) > 40 by omega); have q1b := eq_false (show ¬ (40 : Int) < ((c.pac.length : Nat) : Int) by omega); have q1c := eq_false (show ¬ 40 < c.pac.length by omega)
  have q2 := eq_true (show ((c.sw.length : Nat) : Int) > 40 by omega); have q2b := eq_true (show (40 : Int) < ((c.sw.length : Nat) : Int) by omega); have q2c := eq_true (show 40 < c.sw.length by omega)
  clear hc hCt hct h0 h1 h2
  go_enter Try.func3, Try.ntmps3
  go_wp2_with (first
      | ((with_reducible refine gate_dst (N := 3) rfl ?_); go_must (refine box_event ?hg (N := 3) ?hd (cs := #[.int .i64 c.th, .int .i64 c.cl, .slice X2 c.acts.length y2, .slice X3 c.pac.length y3, .slice X4 c.sw.length y4, .int .i64 c.en]) (t := 28) ?hr ?_; (case hd => rfl); (case hg => rfl); (case hr => first | (go_simp; done) | (go_simp; rfl)); intro g3 hg w1 hbox hb; have BK2 := Aside0.mk hbox; have HB := Aside0.mk hb; have HCC := Aside0.mk (HC.out.below hb); have x0 : w1.cell? ⟨g3, 0, none⟩ = some (.int .i64 c.th) := (blk_cell BK2.out 0).trans rfl; have x1 : w1.cell? ⟨g3, 1, none⟩ = some (.int .i64 c.cl) := (blk_cell BK2.out 1).trans rfl; have x2 : w1.cell? ⟨g3, 2, none⟩ = some (.slice X2 c.acts.length y2) := (blk_cell BK2.out 2).trans rfl; have x3 : w1.cell? ⟨g3, 3, none⟩ = some (.slice X3 c.pac.length y3) := (blk_cell BK2.out 3).trans rfl; have x4 : w1.cell? ⟨g3, 4, none⟩ = some (.slice X4 c.sw.length y4) := (blk_cell BK2.out 4).trans rfl; have x5 : w1.cell? ⟨g3, 5, none⟩ = some (.int .i64 c.en) := (blk_cell BK2.out 5).trans rfl; clear hbox hb hg HC))
      | (go_at_call 4; go_must (refine (reeled_calls _).mono ?_; rintro e wz ⟨rfl, hb⟩; have nHB := Aside0.mk (below_step HB.out hb); clear HB; have HB := nHB; clear nHB; clear hb)))
  go_ret
  exact ⟨rfl, HB.out⟩
set_option maxHeartbeats 4000000 in
set_option maxRecDepth 100000 in
theorem top_big3 (c : Cs) (a : CsA) (turns : List Int) (At : Option Addr) (ct : Nat) (least : Int) (w : World) (hc : CsC w c a) (hCt : Kd.C (Kd.int .i64) w At turns.length turns) (hct : turns.length ≤ ct) (h0 : c.acts.length ≤ 40) (h1 : c.pac.length ≤ 40) (h2 : c.sw.length ≤ 40) (h3 : 40 < turns.length) :
    Calls Try.prog 3 #[.agg (csV c a), .slice At turns.length ct, .int .i64 least] w fun e w' => e = .returned (.bool true) ∧ Below w.heap.size w w' := by
  have HC := Aside0.mk hc
  have HCT := Aside0.mk hCt
  have HTL := Aside0.mk hct
  obtain ⟨X2, y2, X3, y3, X4, y4⟩ := a
  unfold csV
  have q0 := eq_false (show ¬ ((c.acts.length : Nat) : Int) > 40 by omega); have q0b := eq_false (show ¬ (40 : Int) < ((c.acts.length : Nat) : Int) by omega); have q0c := eq_false (show ¬ 40 < c.acts.length by omega)
  have q1 := eq_false (show ¬ ((c.pac.length : Nat) : Int) > 40 by omega); have q1b := eq_false (show ¬ (40 : Int) < ((c.pac.length : Nat) : Int) by omega); have q1c := eq_false (show ¬ 40 < c.pac.length by omega)
  have q2 := eq_false (show ¬ ((c.sw.length : Nat) : Int) > 40 by omega); have q2b := eq_false (show ¬ (40 : Int) < ((c.sw.length : Nat) : Int) by omega); have q2c := eq_false (show ¬ 40 < c.sw.length by omega)
  have q3 := eq_true (show ((turns.length : Nat) : Int) > 40 by omega); have q3b := eq_true (show (40 : Int) < ((turns.length : Nat) : Int) by omega); have q3c := eq_true (show 40 < turns.length by omega)
  clear hc hCt hct h0 h1 h2 h3
  go_enter Try.func3, Try.ntmps3
  go_wp2_with (first
      | ((with_reducible refine gate_dst (N := 3) rfl ?_); go_must (refine box_event ?hg (N := 3) ?hd (cs := #[.int .i64 c.th, .int .i64 c.cl, .slice X2 c.acts.length y2, .slice X3 c.pac.length y3, .slice X4 c.sw.length y4, .int .i64 c.en]) (t := 28) ?hr ?_; (case hd => rfl); (case hg => rfl); (case hr => first | (go_simp; done) | (go_simp; rfl)); intro g3 hg w1 hbox hb; have BK2 := Aside0.mk hbox; have HB := Aside0.mk hb; have HCC := Aside0.mk (HC.out.below hb); have x0 : w1.cell? ⟨g3, 0, none⟩ = some (.int .i64 c.th) := (blk_cell BK2.out 0).trans rfl; have x1 : w1.cell? ⟨g3, 1, none⟩ = some (.int .i64 c.cl) := (blk_cell BK2.out 1).trans rfl; have x2 : w1.cell? ⟨g3, 2, none⟩ = some (.slice X2 c.acts.length y2) := (blk_cell BK2.out 2).trans rfl; have x3 : w1.cell? ⟨g3, 3, none⟩ = some (.slice X3 c.pac.length y3) := (blk_cell BK2.out 3).trans rfl; have x4 : w1.cell? ⟨g3, 4, none⟩ = some (.slice X4 c.sw.length y4) := (blk_cell BK2.out 4).trans rfl; have x5 : w1.cell? ⟨g3, 5, none⟩ = some (.int .i64 c.en) := (blk_cell BK2.out 5).trans rfl; clear hbox hb hg HC))
      | (go_at_call 4; go_must (refine (reeled_calls _).mono ?_; rintro e wz ⟨rfl, hb⟩; have nHB := Aside0.mk (below_step HB.out hb); clear HB; have HB := nHB; clear nHB; clear hb)))
  go_ret
  exact ⟨rfl, HB.out⟩
set_option maxHeartbeats 4000000 in
set_option maxRecDepth 100000 in
theorem top_err1 (c : Cs) (a : CsA) (turns : List Int) (At : Option Addr) (ct : Nat) (least : Int) (w : World) (hc : CsC w c a) (hCt : Kd.C (Kd.int .i64) w At turns.length turns) (hct : turns.length ≤ ct) (h0 : c.acts.length ≤ 40) (h1 : c.pac.length ≤ 40) (h2 : c.sw.length ≤ 40) (h3 : turns.length ≤ 40) (hne : (phF c).2 ≠ 0) :
    Calls Try.prog 3 #[.agg (csV c a), .slice At turns.length ct, .int .i64 least] w fun e w' => e = .returned (.bool true) ∧ Below w.heap.size w w' := by
  have HC := Aside0.mk hc
  have HCT := Aside0.mk hCt
  have HTL := Aside0.mk hct
  obtain ⟨X2, y2, X3, y3, X4, y4⟩ := a
  unfold csV
  have HN := Aside0.mk (show c.acts.length ≤ 40 ∧ c.pac.length ≤ 40 ∧ c.sw.length ≤ 40 ∧ turns.length ≤ 40 from ⟨h0, h1, h2, h3⟩)
  have q0 := eq_false (show ¬ ((c.acts.length : Nat) : Int) > 40 by omega); have q0b := eq_false (show ¬ (40 : Int) < ((c.acts.length : Nat) : Int) by omega); have q0c := eq_false (show ¬ 40 < c.acts.length by omega)
  have q1 := eq_false (show ¬ ((c.pac.length : Nat) : Int) > 40 by omega); have q1b := eq_false (show ¬ (40 : Int) < ((c.pac.length : Nat) : Int) by omega); have q1c := eq_false (show ¬ 40 < c.pac.length by omega)
  have q2 := eq_false (show ¬ ((c.sw.length : Nat) : Int) > 40 by omega); have q2b := eq_false (show ¬ (40 : Int) < ((c.sw.length : Nat) : Int) by omega); have q2c := eq_false (show ¬ 40 < c.sw.length by omega)
  have q3 := eq_false (show ¬ ((turns.length : Nat) : Int) > 40 by omega); have q3b := eq_false (show ¬ (40 : Int) < ((turns.length : Nat) : Int) by omega); have q3c := eq_false (show ¬ 40 < turns.length by omega)
  have HNE := Aside0.mk hne
  have k1 : ((phF c).2 == 0) = false := beq_eq_false_iff_ne.2 hne
  have k2 := eq_false hne
  clear hc hCt hct h0 h1 h2 h3 hne
  go_enter Try.func3, Try.ntmps3
  go_wp2_with (first
      | ((with_reducible refine gate_dst (N := 3) rfl ?_); go_must (refine box_event ?hg (N := 3) ?hd (cs := #[.int .i64 c.th, .int .i64 c.cl, .slice X2 c.acts.length y2, .slice X3 c.pac.length y3, .slice X4 c.sw.length y4, .int .i64 c.en]) (t := 28) ?hr ?_; (case hd => rfl); (case hg => rfl); (case hr => first | (go_simp; done) | (go_simp; rfl)); intro g3 hg w1 hbox hb; have BK2 := Aside0.mk hbox; have HB := Aside0.mk hb; have HCC := Aside0.mk (HC.out.below hb); have x0 : w1.cell? ⟨g3, 0, none⟩ = some (.int .i64 c.th) := (blk_cell BK2.out 0).trans rfl; have x1 : w1.cell? ⟨g3, 1, none⟩ = some (.int .i64 c.cl) := (blk_cell BK2.out 1).trans rfl; have x2 : w1.cell? ⟨g3, 2, none⟩ = some (.slice X2 c.acts.length y2) := (blk_cell BK2.out 2).trans rfl; have x3 : w1.cell? ⟨g3, 3, none⟩ = some (.slice X3 c.pac.length y3) := (blk_cell BK2.out 3).trans rfl; have x4 : w1.cell? ⟨g3, 4, none⟩ = some (.slice X4 c.sw.length y4) := (blk_cell BK2.out 4).trans rfl; have x5 : w1.cell? ⟨g3, 5, none⟩ = some (.int .i64 c.en) := (blk_cell BK2.out 5).trans rfl; clear hbox hb hg HC))
      | (go_at_call 5; go_must (refine (sections_err c ⟨X2, y2, X3, y3, X4, y4⟩ _ HCC.out (by have := HN.out; omega) (by have := HN.out; omega) HNE.out).mono ?_; rintro e w5 ⟨rfl, hb⟩; have nHB := Aside0.mk (below_step HB.out hb); have nBK2 := Aside0.mk (blk_below BK2.out hb); have nHCC := Aside0.mk (HCC.out.below hb); clear x0 x1 x2 x3 x4 x5; clear HB; clear BK2; clear HCC; have HB := nHB; clear nHB; have BK2 := nBK2; clear nBK2; have HCC := nHCC; clear nHCC; have x0 : w5.cell? ⟨g3, 0, none⟩ = some (.int .i64 c.th) := (blk_cell BK2.out 0).trans rfl; have x1 : w5.cell? ⟨g3, 1, none⟩ = some (.int .i64 c.cl) := (blk_cell BK2.out 1).trans rfl; have x2 : w5.cell? ⟨g3, 2, none⟩ = some (.slice X2 c.acts.length y2) := (blk_cell BK2.out 2).trans rfl; have x3 : w5.cell? ⟨g3, 3, none⟩ = some (.slice X3 c.pac.length y3) := (blk_cell BK2.out 3).trans rfl; have x4 : w5.cell? ⟨g3, 4, none⟩ = some (.slice X4 c.sw.length y4) := (blk_cell BK2.out 4).trans rfl; have x5 : w5.cell? ⟨g3, 5, none⟩ = some (.int .i64 c.en) := (blk_cell BK2.out 5).trans rfl; clear hb))
      | (go_at_call 4; go_must (refine (reeled_calls _).mono ?_; rintro e wz ⟨rfl, hb⟩; have nHB := Aside0.mk (below_step HB.out hb); clear HB; have HB := nHB; clear nHB; clear hb)))
  go_ret
  exact ⟨rfl, HB.out⟩
set_option maxHeartbeats 4000000 in
set_option maxRecDepth 100000 in
theorem top_err2 (c : Cs) (a : CsA) (turns : List Int) (At : Option Addr) (ct : Nat) (least : Int) (w : World) (hc : CsC w c a) (hCt : Kd.C (Kd.int .i64) w At turns.length turns) (hct : turns.length ≤ ct) (h0 : c.acts.length ≤ 40) (h1 : c.pac.length ≤ 40) (h2 : c.sw.length ≤ 40) (h3 : turns.length ≤ 40) (P : List S77) (hph : phF c = (P, 0)) (hlp : P.length ≤ 100) (hse : secF c P = ([], 21)) :
    Calls Try.prog 3 #[.agg (csV c a), .slice At turns.length ct, .int .i64 least] w fun e w' => e = .returned (.bool true) ∧ Below w.heap.size w w' := by
  have HC := Aside0.mk hc
  have HCT := Aside0.mk hCt
  have HTL := Aside0.mk hct
  obtain ⟨X2, y2, X3, y3, X4, y4⟩ := a
  unfold csV
  have HN := Aside0.mk (show c.acts.length ≤ 40 ∧ c.pac.length ≤ 40 ∧ c.sw.length ≤ 40 ∧ turns.length ≤ 40 from ⟨h0, h1, h2, h3⟩)
  have q0 := eq_false (show ¬ ((c.acts.length : Nat) : Int) > 40 by omega); have q0b := eq_false (show ¬ (40 : Int) < ((c.acts.length : Nat) : Int) by omega); have q0c := eq_false (show ¬ 40 < c.acts.length by omega)
  have q1 := eq_false (show ¬ ((c.pac.length : Nat) : Int) > 40 by omega); have q1b := eq_false (show ¬ (40 : Int) < ((c.pac.length : Nat) : Int) by omega); have q1c := eq_false (show ¬ 40 < c.pac.length by omega)
  have q2 := eq_false (show ¬ ((c.sw.length : Nat) : Int) > 40 by omega); have q2b := eq_false (show ¬ (40 : Int) < ((c.sw.length : Nat) : Int) by omega); have q2c := eq_false (show ¬ 40 < c.sw.length by omega)
  have q3 := eq_false (show ¬ ((turns.length : Nat) : Int) > 40 by omega); have q3b := eq_false (show ¬ (40 : Int) < ((turns.length : Nat) : Int) by omega); have q3c := eq_false (show ¬ 40 < turns.length by omega)
  have HPH := Aside0.mk hph
  have HLP := Aside0.mk hlp
  have HSE := Aside0.mk hse
  clear hc hCt hct h0 h1 h2 h3 hph hlp hse
  go_enter Try.func3, Try.ntmps3
  go_wp2_with (first
      | ((with_reducible refine gate_dst (N := 3) rfl ?_); go_must (refine box_event ?hg (N := 3) ?hd (cs := #[.int .i64 c.th, .int .i64 c.cl, .slice X2 c.acts.length y2, .slice X3 c.pac.length y3, .slice X4 c.sw.length y4, .int .i64 c.en]) (t := 28) ?hr ?_; (case hd => rfl); (case hg => rfl); (case hr => first | (go_simp; done) | (go_simp; rfl)); intro g3 hg w1 hbox hb; have BK2 := Aside0.mk hbox; have HB := Aside0.mk hb; have HCC := Aside0.mk (HC.out.below hb); have x0 : w1.cell? ⟨g3, 0, none⟩ = some (.int .i64 c.th) := (blk_cell BK2.out 0).trans rfl; have x1 : w1.cell? ⟨g3, 1, none⟩ = some (.int .i64 c.cl) := (blk_cell BK2.out 1).trans rfl; have x2 : w1.cell? ⟨g3, 2, none⟩ = some (.slice X2 c.acts.length y2) := (blk_cell BK2.out 2).trans rfl; have x3 : w1.cell? ⟨g3, 3, none⟩ = some (.slice X3 c.pac.length y3) := (blk_cell BK2.out 3).trans rfl; have x4 : w1.cell? ⟨g3, 4, none⟩ = some (.slice X4 c.sw.length y4) := (blk_cell BK2.out 4).trans rfl; have x5 : w1.cell? ⟨g3, 5, none⟩ = some (.int .i64 c.en) := (blk_cell BK2.out 5).trans rfl; clear hbox hb hg HC))
      | (go_at_call 5; go_must (refine (sections_ok c ⟨X2, y2, X3, y3, X4, y4⟩ P _ HCC.out HPH.out (by have := HLP.out; omega) (by have := HN.out; omega) (by have := HN.out; omega)).mono ?_; rw [HSE.out]; rintro e w5 ⟨v, rfl, hR, hb⟩; have nHB := Aside0.mk (below_step HB.out hb); have nBK2 := Aside0.mk (blk_below BK2.out hb); have nHCC := Aside0.mk (HCC.out.below hb); clear x0 x1 x2 x3 x4 x5; clear HB; clear BK2; clear HCC; have HB := nHB; clear nHB; have BK2 := nBK2; clear nBK2; have HCC := nHCC; clear nHCC; have x0 : w5.cell? ⟨g3, 0, none⟩ = some (.int .i64 c.th) := (blk_cell BK2.out 0).trans rfl; have x1 : w5.cell? ⟨g3, 1, none⟩ = some (.int .i64 c.cl) := (blk_cell BK2.out 1).trans rfl; have x2 : w5.cell? ⟨g3, 2, none⟩ = some (.slice X2 c.acts.length y2) := (blk_cell BK2.out 2).trans rfl; have x3 : w5.cell? ⟨g3, 3, none⟩ = some (.slice X3 c.pac.length y3) := (blk_cell BK2.out 3).trans rfl; have x4 : w5.cell? ⟨g3, 4, none⟩ = some (.slice X4 c.sw.length y4) := (blk_cell BK2.out 4).trans rfl; have x5 : w5.cell? ⟨g3, 5, none⟩ = some (.int .i64 c.en) := (blk_cell BK2.out 5).trans rfl; obtain ⟨A5, k5, rfl, hk5, hC5⟩ := Kd.R_reads hR; clear hb hR hC5 hk5))
      | (go_at_call 4; go_must (refine (reeled_calls _).mono ?_; rintro e wz ⟨rfl, hb⟩; have nHB := Aside0.mk (below_step HB.out hb); clear HB; have HB := nHB; clear nHB; clear hb)))
  go_ret
  exact ⟨rfl, HB.out⟩
end Go.Proofs.Ytebifddfgimnlaa.Rl
end
section
/- TopReels where Cut answers an error. -/
namespace Go.Proofs.Ytebifddfgimnlaa.Rl
open Go.RowKit Go.Proofs.Ytebifddfgimnlaa.PX Go.Proofs.Ytebifddfgimnlaa.Rd Go.Proofs.YtebifddfgimnlaaW.PrintWords Go.Proofs.YtebifddfgimnlaaW.PrintLast
set_option linter.unusedVariables false
set_option linter.unusedSimpArgs false
set_option maxHeartbeats 4000000 in
set_option maxRecDepth 100000 in
theorem top_err3 (c : Cs) (a : CsA) (turns : List Int) (At : Option Addr) (ct : Nat) (least : Int) (w : World) (hc : CsC w c a) (hCt : Kd.C (Kd.int .i64) w At turns.length turns) (hct : turns.length ≤ ct) (h0 : c.acts.length ≤ 40) (h1 : c.pac.length ≤ 40) (h2 : c.sw.length ≤ 40) (h3 : turns.length ≤ 40) (P : List S77) (hph : phF c = (P, 0)) (hlp : P.length ≤ 100) (secs : List S45) (hse : secF c P = (secs, 0)) (he0 : 0 ≤ c.en) (hlen : lenF c.en (US c P) ≤ 17179869184) (r : Int) (hr : r ≠ 0)
    (hcut : ∀ (A : Option Addr) (cl : Nat) (w : World), Kd.C k45 w A secs.length secs → secs.length ≤ cl → Kd.C (Kd.int .i64) w At turns.length turns → Calls Try.prog 6 #[.slice A secs.length cl, .slice At turns.length ct, .int .i64 least] w fun e w' => e = .returned (.tuple #[.slice none 0 0, .slice none 0 0, .int .i64 r]) ∧ Below w.heap.size w w')
    (kl : Nat) (lo : List S43) (g : Int) (hlo : reel_Lost.f kl secs = some (lo, g)) :
    Calls Try.prog 3 #[.agg (csV c a), .slice At turns.length ct, .int .i64 least] w fun e w' => e = .returned (.bool true) ∧ Below w.heap.size w w' := by
  have HC := Aside0.mk hc
  have HCT := Aside0.mk hCt
  have HTL := Aside0.mk hct
  obtain ⟨X2, y2, X3, y3, X4, y4⟩ := a
  unfold csV
  have HN := Aside0.mk (show c.acts.length ≤ 40 ∧ c.pac.length ≤ 40 ∧ c.sw.length ≤ 40 ∧ turns.length ≤ 40 from ⟨h0, h1, h2, h3⟩)
  have q0 := eq_false (show ¬ ((c.acts.length : Nat) : Int) > 40 by omega); have q0b := eq_false (show ¬ (40 : Int) < ((c.acts.length : Nat) : Int) by omega); have q0c := eq_false (show ¬ 40 < c.acts.length by omega)
  have q1 := eq_false (show ¬ ((c.pac.length : Nat) : Int) > 40 by omega); have q1b := eq_false (show ¬ (40 : Int) < ((c.pac.length : Nat) : Int) by omega); have q1c := eq_false (show ¬ 40 < c.pac.length by omega)
  have q2 := eq_false (show ¬ ((c.sw.length : Nat) : Int) > 40 by omega); have q2b := eq_false (show ¬ (40 : Int) < ((c.sw.length : Nat) : Int) by omega); have q2c := eq_false (show ¬ 40 < c.sw.length by omega)
  have q3 := eq_false (show ¬ ((turns.length : Nat) : Int) > 40 by omega); have q3b := eq_false (show ¬ (40 : Int) < ((turns.length : Nat) : Int) by omega); have q3c := eq_false (show ¬ 40 < turns.length by omega)
  have HPH := Aside0.mk hph
  have HLP := Aside0.mk hlp
  have HSE := Aside0.mk hse
  have HE0 := Aside0.mk he0
  have HLEN := Aside0.mk hlen
  have HCUT := Aside0.mk hcut
  have HLO := Aside0.mk hlo
  have k1 : (r == 0) = false := beq_eq_false_iff_ne.2 hr
  have k2 := eq_false hr
  clear hc hCt hct h0 h1 h2 h3 hph hlp hse he0 hlen hcut hlo hr
  go_enter Try.func3, Try.ntmps3
  go_wp2_with (first
      | ((with_reducible refine gate_dst (N := 3) rfl ?_); go_must (refine box_event ?hg (N := 3) ?hd (cs := #[.int .i64 c.th, .int .i64 c.cl, .slice X2 c.acts.length y2, .slice X3 c.pac.length y3, .slice X4 c.sw.length y4, .int .i64 c.en]) (t := 28) ?hr ?_; (case hd => rfl); (case hg => rfl); (case hr => first | (go_simp; done) | (go_simp; rfl)); intro g3 hg w1 hbox hb; have BK2 := Aside0.mk hbox; have HB := Aside0.mk hb; have HCC := Aside0.mk (HC.out.below hb); have x0 : w1.cell? ⟨g3, 0, none⟩ = some (.int .i64 c.th) := (blk_cell BK2.out 0).trans rfl; have x1 : w1.cell? ⟨g3, 1, none⟩ = some (.int .i64 c.cl) := (blk_cell BK2.out 1).trans rfl; have x2 : w1.cell? ⟨g3, 2, none⟩ = some (.slice X2 c.acts.length y2) := (blk_cell BK2.out 2).trans rfl; have x3 : w1.cell? ⟨g3, 3, none⟩ = some (.slice X3 c.pac.length y3) := (blk_cell BK2.out 3).trans rfl; have x4 : w1.cell? ⟨g3, 4, none⟩ = some (.slice X4 c.sw.length y4) := (blk_cell BK2.out 4).trans rfl; have x5 : w1.cell? ⟨g3, 5, none⟩ = some (.int .i64 c.en) := (blk_cell BK2.out 5).trans rfl; clear hbox hb hg HC))
      | (go_at_call 5; go_must (refine (sections_ok c ⟨X2, y2, X3, y3, X4, y4⟩ P _ HCC.out HPH.out (by have := HLP.out; omega) (by have := HN.out; omega) (by have := HN.out; omega)).mono ?_; rw [HSE.out]; rintro e w5 ⟨v, rfl, hR, hb⟩; have nHB := Aside0.mk (below_step HB.out hb); have nBK2 := Aside0.mk (blk_below BK2.out hb); have nHCC := Aside0.mk (HCC.out.below hb); clear x0 x1 x2 x3 x4 x5; clear HB; clear BK2; clear HCC; have HB := nHB; clear nHB; have BK2 := nBK2; clear nBK2; have HCC := nHCC; clear nHCC; have x0 : w5.cell? ⟨g3, 0, none⟩ = some (.int .i64 c.th) := (blk_cell BK2.out 0).trans rfl; have x1 : w5.cell? ⟨g3, 1, none⟩ = some (.int .i64 c.cl) := (blk_cell BK2.out 1).trans rfl; have x2 : w5.cell? ⟨g3, 2, none⟩ = some (.slice X2 c.acts.length y2) := (blk_cell BK2.out 2).trans rfl; have x3 : w5.cell? ⟨g3, 3, none⟩ = some (.slice X3 c.pac.length y3) := (blk_cell BK2.out 3).trans rfl; have x4 : w5.cell? ⟨g3, 4, none⟩ = some (.slice X4 c.sw.length y4) := (blk_cell BK2.out 4).trans rfl; have x5 : w5.cell? ⟨g3, 5, none⟩ = some (.int .i64 c.en) := (blk_cell BK2.out 5).trans rfl; obtain ⟨A5, k5, rfl, hk5, hC5⟩ := Kd.R_reads hR; have C5 := Aside0.mk (And.intro hC5 hk5); clear hb hR hC5 hk5))
      | (go_at_call 6; go_must (refine (HCUT.out A5 k5 _ C5.out.1 C5.out.2 (Kd.C_below HCT.out HB.out)).mono ?_; rintro e w6 ⟨rfl, hb⟩; have nHB := Aside0.mk (below_step HB.out hb); have nBK2 := Aside0.mk (blk_below BK2.out hb); have nHCC := Aside0.mk (HCC.out.below hb); have nC5 := Aside0.mk (And.intro (Kd.C_below C5.out.1 hb) C5.out.2); clear x0 x1 x2 x3 x4 x5; clear HB; clear BK2; clear HCC; clear C5; have HB := nHB; clear nHB; have BK2 := nBK2; clear nBK2; have HCC := nHCC; clear nHCC; have C5 := nC5; clear nC5; have x0 : w6.cell? ⟨g3, 0, none⟩ = some (.int .i64 c.th) := (blk_cell BK2.out 0).trans rfl; have x1 : w6.cell? ⟨g3, 1, none⟩ = some (.int .i64 c.cl) := (blk_cell BK2.out 1).trans rfl; have x2 : w6.cell? ⟨g3, 2, none⟩ = some (.slice X2 c.acts.length y2) := (blk_cell BK2.out 2).trans rfl; have x3 : w6.cell? ⟨g3, 3, none⟩ = some (.slice X3 c.pac.length y3) := (blk_cell BK2.out 3).trans rfl; have x4 : w6.cell? ⟨g3, 4, none⟩ = some (.slice X4 c.sw.length y4) := (blk_cell BK2.out 4).trans rfl; have x5 : w6.cell? ⟨g3, 5, none⟩ = some (.int .i64 c.en) := (blk_cell BK2.out 5).trans rfl; clear hb))
      | (go_at_call 7; go_must (refine (reel_Lost.calls kl A5 k5 secs lo g _ C5.out.1 C5.out.2 HLO.out).mono ?_; rintro e w7 ⟨v7, rfl, hR, hb⟩; have nHB := Aside0.mk (below_step HB.out hb); have nBK2 := Aside0.mk (blk_below BK2.out hb); have nHCC := Aside0.mk (HCC.out.below hb); clear x0 x1 x2 x3 x4 x5; clear HB; clear BK2; clear HCC; have HB := nHB; clear nHB; have BK2 := nBK2; clear nBK2; have HCC := nHCC; clear nHCC; have x0 : w7.cell? ⟨g3, 0, none⟩ = some (.int .i64 c.th) := (blk_cell BK2.out 0).trans rfl; have x1 : w7.cell? ⟨g3, 1, none⟩ = some (.int .i64 c.cl) := (blk_cell BK2.out 1).trans rfl; have x2 : w7.cell? ⟨g3, 2, none⟩ = some (.slice X2 c.acts.length y2) := (blk_cell BK2.out 2).trans rfl; have x3 : w7.cell? ⟨g3, 3, none⟩ = some (.slice X3 c.pac.length y3) := (blk_cell BK2.out 3).trans rfl; have x4 : w7.cell? ⟨g3, 4, none⟩ = some (.slice X4 c.sw.length y4) := (blk_cell BK2.out 4).trans rfl; have x5 : w7.cell? ⟨g3, 5, none⟩ = some (.int .i64 c.en) := (blk_cell BK2.out 5).trans rfl; clear hb hR C5))
      | (go_at_call 8; go_must (refine (length_calls c ⟨X2, y2, X3, y3, X4, y4⟩ P _ HCC.out HPH.out (by have := HLP.out; omega) (by have := HN.out; omega) (by have := HN.out; omega) HE0.out HLEN.out).mono ?_; rintro e w8 ⟨rfl, hb⟩; have nHB := Aside0.mk (below_step HB.out hb); have nBK2 := Aside0.mk (blk_below BK2.out hb); have nHCC := Aside0.mk (HCC.out.below hb); clear x0 x1 x2 x3 x4 x5; clear HB; clear BK2; clear HCC; have HB := nHB; clear nHB; have BK2 := nBK2; clear nBK2; have HCC := nHCC; clear nHCC; have x0 : w8.cell? ⟨g3, 0, none⟩ = some (.int .i64 c.th) := (blk_cell BK2.out 0).trans rfl; have x1 : w8.cell? ⟨g3, 1, none⟩ = some (.int .i64 c.cl) := (blk_cell BK2.out 1).trans rfl; have x2 : w8.cell? ⟨g3, 2, none⟩ = some (.slice X2 c.acts.length y2) := (blk_cell BK2.out 2).trans rfl; have x3 : w8.cell? ⟨g3, 3, none⟩ = some (.slice X3 c.pac.length y3) := (blk_cell BK2.out 3).trans rfl; have x4 : w8.cell? ⟨g3, 4, none⟩ = some (.slice X4 c.sw.length y4) := (blk_cell BK2.out 4).trans rfl; have x5 : w8.cell? ⟨g3, 5, none⟩ = some (.int .i64 c.en) := (blk_cell BK2.out 5).trans rfl; clear hb))
      | (go_at_call 4; go_must (refine (reeled_calls _).mono ?_; rintro e wz ⟨rfl, hb⟩; have nHB := Aside0.mk (below_step HB.out hb); clear HB; have HB := nHB; clear nHB; clear hb)))
  go_ret
  exact ⟨rfl, HB.out⟩
end Go.Proofs.Ytebifddfgimnlaa.Rl
end
section
/- TopReels where all is well. -/
namespace Go.Proofs.Ytebifddfgimnlaa.Rl
open Go.RowKit Go.Proofs.Ytebifddfgimnlaa.PX Go.Proofs.Ytebifddfgimnlaa.Rd Go.Proofs.YtebifddfgimnlaaW.PrintWords Go.Proofs.YtebifddfgimnlaaW.PrintLast
set_option linter.unusedVariables false
set_option linter.unusedSimpArgs false
theorem five_far {w : World} {g : Nat} {a b c d e : Value} (k : Nat) (h : k ≠ g) : (((((w.setCell ⟨g, 0, none⟩ a).setCell ⟨g, 1, none⟩ b).setCell ⟨g, 2, none⟩ c).setCell ⟨g, 3, none⟩ d).setCell ⟨g, 4, none⟩ e).heap[k]? = w.heap[k]? :=
  ((((Below.heap_setCell _ ⟨g, 4, none⟩ _ k h).trans (Below.heap_setCell _ ⟨g, 3, none⟩ _ k h)).trans (Below.heap_setCell _ ⟨g, 2, none⟩ _ k h)).trans (Below.heap_setCell _ ⟨g, 1, none⟩ _ k h)).trans (Below.heap_setCell _ ⟨g, 0, none⟩ _ k h)
set_option maxHeartbeats 4000000 in
set_option maxRecDepth 100000 in
theorem top_ok (c : Cs) (a : CsA) (turns : List Int) (At : Option Addr) (ct : Nat) (least : Int) (w : World) (hc : CsC w c a) (hCt : Kd.C (Kd.int .i64) w At turns.length turns) (hct : turns.length ≤ ct) (h0 : c.acts.length ≤ 40) (h1 : c.pac.length ≤ 40) (h2 : c.sw.length ≤ 40) (h3 : turns.length ≤ 40) (P : List S77) (hph : phF c = (P, 0)) (hlp : P.length ≤ 100) (secs : List S45) (hse : secF c P = (secs, 0)) (he0 : 0 ≤ c.en) (n : Int) (hnn : lenF c.en (US c P) = n) (hlen : n ≤ 17179869184) (R S lo : List S43)
    (hcut : ∀ (A : Option Addr) (cl : Nat) (w : World), Kd.C k45 w A secs.length secs → secs.length ≤ cl → Kd.C (Kd.int .i64) w At turns.length turns → Calls Try.prog 6 #[.slice A secs.length cl, .slice At turns.length ct, .int .i64 least] w fun e w' => ∃ v1 v2, e = .returned (.tuple #[v1, v2, .int .i64 0]) ∧ Kd.R k43 43 w' w.heap.size (fun _ => True) v1 R ∧ Kd.R k43 43 w' w.heap.size (fun _ => True) v2 S ∧ Below w.heap.size w w')
    (kl : Nat) (hlo : reel_Lost.f kl secs = some (lo, 0)) (hall : AllOk (R ++ S ++ lo) n) (hreel : ∀ r ∈ R, ∃ a b, ReelOk c P least r a b) :
    Calls Try.prog 3 #[.agg (csV c a), .slice At turns.length ct, .int .i64 least] w fun e w' => e = .returned (.bool true) ∧ Below w.heap.size w w' := by
  have HC := Aside0.mk hc
  have HCT := Aside0.mk hCt
  have HTL := Aside0.mk hct
  obtain ⟨X2, y2, X3, y3, X4, y4⟩ := a
  unfold csV
  have HN := Aside0.mk (show c.acts.length ≤ 40 ∧ c.pac.length ≤ 40 ∧ c.sw.length ≤ 40 ∧ turns.length ≤ 40 from ⟨h0, h1, h2, h3⟩)
  have q0 := eq_false (show ¬ ((c.acts.length : Nat) : Int) > 40 by omega); have q0b := eq_false (show ¬ (40 : Int) < ((c.acts.length : Nat) : Int) by omega); have q0c := eq_false (show ¬ 40 < c.acts.length by omega)
  have q1 := eq_false (show ¬ ((c.pac.length : Nat) : Int) > 40 by omega); have q1b := eq_false (show ¬ (40 : Int) < ((c.pac.length : Nat) : Int) by omega); have q1c := eq_false (show ¬ 40 < c.pac.length by omega)
  have q2 := eq_false (show ¬ ((c.sw.length : Nat) : Int) > 40 by omega); have q2b := eq_false (show ¬ (40 : Int) < ((c.sw.length : Nat) : Int) by omega); have q2c := eq_false (show ¬ 40 < c.sw.length by omega)
  have q3 := eq_false (show ¬ ((turns.length : Nat) : Int) > 40 by omega); have q3b := eq_false (show ¬ (40 : Int) < ((turns.length : Nat) : Int) by omega); have q3c := eq_false (show ¬ 40 < turns.length by omega)
  have HPH := Aside0.mk hph
  have HLP := Aside0.mk hlp
  have HSE := Aside0.mk hse
  have HE0 := Aside0.mk he0
  have HNN := Aside0.mk hnn
  have HLEN := Aside0.mk (show lenF c.en (US c P) ≤ 17179869184 from by rw [hnn]; exact hlen)
  have HCUT := Aside0.mk hcut
  have HLO := Aside0.mk hlo
  have HREEL := Aside0.mk hreel
  have HALL := Aside0.mk hall
  have HAL := Aside0.mk (show (R ++ S ++ lo).length ≤ 17179869184 from by have := hall.len; have := hall.n1; omega)
  clear hc hCt hct h0 h1 h2 h3 hph hlp hse he0 hnn hlen hcut hlo hall hreel
  go_enter Try.func3, Try.ntmps3
  go_wp2_with (first
      | ((with_reducible refine gate_dst (N := 3) rfl ?_); go_must (refine box_event ?hg (N := 3) ?hd (cs := #[.int .i64 c.th, .int .i64 c.cl, .slice X2 c.acts.length y2, .slice X3 c.pac.length y3, .slice X4 c.sw.length y4, .int .i64 c.en]) (t := 28) ?hr ?_; (case hd => rfl); (case hg => rfl); (case hr => first | (go_simp; done) | (go_simp; rfl)); intro g3 hg w1 hbox hb; have BK2 := Aside0.mk hbox; have HB := Aside0.mk hb; have HCC := Aside0.mk (HC.out.below hb); have x0 : w1.cell? ⟨g3, 0, none⟩ = some (.int .i64 c.th) := (blk_cell BK2.out 0).trans rfl; have x1 : w1.cell? ⟨g3, 1, none⟩ = some (.int .i64 c.cl) := (blk_cell BK2.out 1).trans rfl; have x2 : w1.cell? ⟨g3, 2, none⟩ = some (.slice X2 c.acts.length y2) := (blk_cell BK2.out 2).trans rfl; have x3 : w1.cell? ⟨g3, 3, none⟩ = some (.slice X3 c.pac.length y3) := (blk_cell BK2.out 3).trans rfl; have x4 : w1.cell? ⟨g3, 4, none⟩ = some (.slice X4 c.sw.length y4) := (blk_cell BK2.out 4).trans rfl; have x5 : w1.cell? ⟨g3, 5, none⟩ = some (.int .i64 c.en) := (blk_cell BK2.out 5).trans rfl; clear hbox hb hg HC))
      | (go_at_call 5; go_must (refine (sections_ok c ⟨X2, y2, X3, y3, X4, y4⟩ P _ HCC.out HPH.out (by have := HLP.out; omega) (by have := HN.out; omega) (by have := HN.out; omega)).mono ?_; rw [HSE.out]; rintro e w5 ⟨v, rfl, hR, hb⟩; have nHB := Aside0.mk (below_step HB.out hb); have nBK2 := Aside0.mk (blk_below BK2.out hb); have nHCC := Aside0.mk (HCC.out.below hb); clear x0 x1 x2 x3 x4 x5; clear HB; clear BK2; clear HCC; have HB := nHB; clear nHB; have BK2 := nBK2; clear nBK2; have HCC := nHCC; clear nHCC; have x0 : w5.cell? ⟨g3, 0, none⟩ = some (.int .i64 c.th) := (blk_cell BK2.out 0).trans rfl; have x1 : w5.cell? ⟨g3, 1, none⟩ = some (.int .i64 c.cl) := (blk_cell BK2.out 1).trans rfl; have x2 : w5.cell? ⟨g3, 2, none⟩ = some (.slice X2 c.acts.length y2) := (blk_cell BK2.out 2).trans rfl; have x3 : w5.cell? ⟨g3, 3, none⟩ = some (.slice X3 c.pac.length y3) := (blk_cell BK2.out 3).trans rfl; have x4 : w5.cell? ⟨g3, 4, none⟩ = some (.slice X4 c.sw.length y4) := (blk_cell BK2.out 4).trans rfl; have x5 : w5.cell? ⟨g3, 5, none⟩ = some (.int .i64 c.en) := (blk_cell BK2.out 5).trans rfl; obtain ⟨A5, k5, rfl, hk5, hC5⟩ := Kd.R_reads hR; have C5 := Aside0.mk (And.intro hC5 hk5); clear hb hR hC5 hk5))
      | (go_at_call 6; go_must (refine (HCUT.out A5 k5 _ C5.out.1 C5.out.2 (Kd.C_below HCT.out HB.out)).mono ?_; rintro e w6 ⟨v1, v2, rfl, hR1, hR2, hb⟩; have nHB := Aside0.mk (below_step HB.out hb); have nBK2 := Aside0.mk (blk_below BK2.out hb); have nHCC := Aside0.mk (HCC.out.below hb); have nC5 := Aside0.mk (And.intro (Kd.C_below C5.out.1 hb) C5.out.2); clear x0 x1 x2 x3 x4 x5; clear HB; clear BK2; clear HCC; clear C5; have HB := nHB; clear nHB; have BK2 := nBK2; clear nBK2; have HCC := nHCC; clear nHCC; have C5 := nC5; clear nC5; have x0 : w6.cell? ⟨g3, 0, none⟩ = some (.int .i64 c.th) := (blk_cell BK2.out 0).trans rfl; have x1 : w6.cell? ⟨g3, 1, none⟩ = some (.int .i64 c.cl) := (blk_cell BK2.out 1).trans rfl; have x2 : w6.cell? ⟨g3, 2, none⟩ = some (.slice X2 c.acts.length y2) := (blk_cell BK2.out 2).trans rfl; have x3 : w6.cell? ⟨g3, 3, none⟩ = some (.slice X3 c.pac.length y3) := (blk_cell BK2.out 3).trans rfl; have x4 : w6.cell? ⟨g3, 4, none⟩ = some (.slice X4 c.sw.length y4) := (blk_cell BK2.out 4).trans rfl; have x5 : w6.cell? ⟨g3, 5, none⟩ = some (.int .i64 c.en) := (blk_cell BK2.out 5).trans rfl; obtain ⟨A6, k6, rfl, hk6, hC6⟩ := Kd.R_reads hR1; obtain ⟨A7, k7, rfl, hk7, hC7⟩ := Kd.R_reads hR2; have CR := Aside0.mk hC6; have CS := Aside0.mk hC7; clear hb hR1 hR2 hk6 hC6 hk7 hC7))
      | (go_at_call 7; go_must (refine (reel_Lost.calls kl A5 k5 secs lo 0 _ C5.out.1 C5.out.2 HLO.out).mono ?_; rintro e w7 ⟨v7, rfl, hR, hb⟩; have nHB := Aside0.mk (below_step HB.out hb); have nBK2 := Aside0.mk (blk_below BK2.out hb); have nHCC := Aside0.mk (HCC.out.below hb); have nCR := Aside0.mk (Kd.C_below CR.out hb); have nCS := Aside0.mk (Kd.C_below CS.out hb); clear x0 x1 x2 x3 x4 x5; clear HB; clear BK2; clear HCC; clear CR; clear CS; have HB := nHB; clear nHB; have BK2 := nBK2; clear nBK2; have HCC := nHCC; clear nHCC; have CR := nCR; clear nCR; have CS := nCS; clear nCS; have x0 : w7.cell? ⟨g3, 0, none⟩ = some (.int .i64 c.th) := (blk_cell BK2.out 0).trans rfl; have x1 : w7.cell? ⟨g3, 1, none⟩ = some (.int .i64 c.cl) := (blk_cell BK2.out 1).trans rfl; have x2 : w7.cell? ⟨g3, 2, none⟩ = some (.slice X2 c.acts.length y2) := (blk_cell BK2.out 2).trans rfl; have x3 : w7.cell? ⟨g3, 3, none⟩ = some (.slice X3 c.pac.length y3) := (blk_cell BK2.out 3).trans rfl; have x4 : w7.cell? ⟨g3, 4, none⟩ = some (.slice X4 c.sw.length y4) := (blk_cell BK2.out 4).trans rfl; have x5 : w7.cell? ⟨g3, 5, none⟩ = some (.int .i64 c.en) := (blk_cell BK2.out 5).trans rfl; obtain ⟨A8, k8, rfl, hk8, hC8⟩ := Kd.R_reads hR; have CL := Aside0.mk hC8; clear hb hR C5 hk8 hC8))
      | (go_at_call 8; go_must (refine (length_calls c ⟨X2, y2, X3, y3, X4, y4⟩ P _ HCC.out HPH.out (by have := HLP.out; omega) (by have := HN.out; omega) (by have := HN.out; omega) HE0.out HLEN.out).mono ?_; rw [HNN.out]; rintro e w8 ⟨rfl, hb⟩; have nHB := Aside0.mk (below_step HB.out hb); have nBK2 := Aside0.mk (blk_below BK2.out hb); have nHCC := Aside0.mk (HCC.out.below hb); have nCR := Aside0.mk (Kd.C_below CR.out hb); have nCS := Aside0.mk (Kd.C_below CS.out hb); have nCL := Aside0.mk (Kd.C_below CL.out hb); clear x0 x1 x2 x3 x4 x5; clear HB; clear BK2; clear HCC; clear CR; clear CS; clear CL; have HB := nHB; clear nHB; have BK2 := nBK2; clear nBK2; have HCC := nHCC; clear nHCC; have CR := nCR; clear nCR; have CS := nCS; clear nCS; have CL := nCL; clear nCL; have x0 : w8.cell? ⟨g3, 0, none⟩ = some (.int .i64 c.th) := (blk_cell BK2.out 0).trans rfl; have x1 : w8.cell? ⟨g3, 1, none⟩ = some (.int .i64 c.cl) := (blk_cell BK2.out 1).trans rfl; have x2 : w8.cell? ⟨g3, 2, none⟩ = some (.slice X2 c.acts.length y2) := (blk_cell BK2.out 2).trans rfl; have x3 : w8.cell? ⟨g3, 3, none⟩ = some (.slice X3 c.pac.length y3) := (blk_cell BK2.out 3).trans rfl; have x4 : w8.cell? ⟨g3, 4, none⟩ = some (.slice X4 c.sw.length y4) := (blk_cell BK2.out 4).trans rfl; have x5 : w8.cell? ⟨g3, 5, none⟩ = some (.int .i64 c.en) := (blk_cell BK2.out 5).trans rfl; clear hb; have B8 := Aside0.mk BK2.out; have HB8 := Aside0.mk HB.out; have HC8 := Aside0.mk HCC.out; have HW := Aside0.mk (Below.refl w8.heap.size w8); clear HB BK2 HCC))
      | ((with_reducible refine gate_dst (N := 89) rfl ?_); go_must (refine Kd.R_lit k43 w8.heap.size 43 ?hg (N := 89) ?hd (w0 := w8) (xs := ([] : List S43)) (inner := []) (ok := fun _ => True) (okp := fun _ => False) ?hr ?hp (fun _ hk => hk.elim) trivial HW.out HW.out.size (by decide) ?_; (case hd => rfl); (case hg => rfl); (case hr => first | (go_simp; done) | (go_simp; rfl)); (case hp => exact Reps.none _ _); intro v_ w9 ho hb hg_ hnew_; obtain ⟨A9, k9, hv9⟩ := Kd.R_slice ho; obtain ⟨n9, hn9⟩ : ∃ n9, ([] : List S43).length = n9 := ⟨_, rfl⟩; rw [hn9] at hv9; subst hv9; have HO := Aside0.mk ho; have nHW := Aside0.mk hb; clear HW; have HW := nHW; clear nHW ho hb hg_ hnew_ hn9))
      | ((with_reducible refine gate_builtin (b := .append) (xs := #[.tmp 89, .tmp 90]) rfl ?_); go_must (at_builtin; refine Kd.R_append_rows k43 (w0 := w8) w8.heap.size rfl (.tmp 89) (.tmp 90) 35 43 (.agg #[.int .i64 0, .int .i64 0]) 16 rfl Try.underlying35 info43 rfl (by decide) (by decide) (.slice A9 n9 k9) (([] : List S43)) R A6 R.length k6 (fun _ => True) (fun _ => False) rfl rfl HO.out (Kd.C_below CR.out HW.out) (fun x cs h => by obtain rfl := k43_open h; exact k43_mkM _ _ _ x) (fun _ h => h.elim) (fun _ _ => trivial) HW.out HW.out.size ?aL ?_; (case aL => have h_ := HAL.out; simp only [List.length_append, List.length_nil] at h_ ⊢; omega); intro v_ w10 ho hb hg_ hat_; obtain ⟨A10, k10, hv_⟩ := Kd.R_slice ho; obtain ⟨n10, hn_⟩ : ∃ n10, (([] : List S43) ++ R).length = n10 := ⟨_, rfl⟩; rw [hn_] at hv_; subst hv_; have nHO := Aside0.mk (show Kd.R k43 43 w10 w8.heap.size (fun _ => True) (.slice A10 n10 k10) (([] : List S43) ++ R) from ho); have nHW := Aside0.mk hb; clear HO HW; have HO := nHO; have HW := nHW; clear nHO nHW ho hb hg_ hat_ hn_))
      | ((with_reducible refine gate_builtin (b := .append) (xs := #[.tmp 91, .tmp 92]) rfl ?_); go_must (at_builtin; refine Kd.R_append_rows k43 (w0 := w8) w8.heap.size rfl (.tmp 91) (.tmp 92) 35 43 (.agg #[.int .i64 0, .int .i64 0]) 16 rfl Try.underlying35 info43 rfl (by decide) (by decide) (.slice A10 n10 k10) (R) S A7 S.length k7 (fun _ => True) (fun _ => False) rfl rfl HO.out (Kd.C_below CS.out HW.out) (fun x cs h => by obtain rfl := k43_open h; exact k43_mkM _ _ _ x) (fun _ h => h.elim) (fun _ _ => trivial) HW.out HW.out.size ?aL ?_; (case aL => have h_ := HAL.out; simp only [List.length_append, List.length_nil] at h_ ⊢; omega); intro v_ w11 ho hb hg_ hat_; obtain ⟨A11, k11, hv_⟩ := Kd.R_slice ho; obtain ⟨n11, hn_⟩ : ∃ n11, (R ++ S).length = n11 := ⟨_, rfl⟩; rw [hn_] at hv_; subst hv_; have nHO := Aside0.mk (show Kd.R k43 43 w11 w8.heap.size (fun _ => True) (.slice A11 n11 k11) (R ++ S) from ho); have nHW := Aside0.mk hb; clear HO HW; have HO := nHO; have HW := nHW; clear nHO nHW ho hb hg_ hat_ hn_))
      | ((with_reducible refine gate_builtin (b := .append) (xs := #[.tmp 93, .tmp 94]) rfl ?_); go_must (at_builtin; refine Kd.R_append_rows k43 (w0 := w8) w8.heap.size rfl (.tmp 93) (.tmp 94) 35 43 (.agg #[.int .i64 0, .int .i64 0]) 16 rfl Try.underlying35 info43 rfl (by decide) (by decide) (.slice A11 n11 k11) (R ++ S) lo A8 lo.length k8 (fun _ => True) (fun _ => False) rfl rfl HO.out (Kd.C_below CL.out HW.out) (fun x cs h => by obtain rfl := k43_open h; exact k43_mkM _ _ _ x) (fun _ h => h.elim) (fun _ _ => trivial) HW.out HW.out.size ?aL ?_; (case aL => have h_ := HAL.out; simp only [List.length_append, List.length_nil] at h_ ⊢; omega); intro v_ w12 ho hb hg_ hat_; obtain ⟨A12, k12, hv_⟩ := Kd.R_slice ho; obtain ⟨n12, hn_⟩ : ∃ n12, (R ++ S ++ lo).length = n12 := ⟨_, rfl⟩; rw [hn_] at hv_; subst hv_; have nHO := Aside0.mk (show Kd.R k43 43 w12 w8.heap.size (fun _ => True) (.slice A12 n12 k12) (R ++ S ++ lo) from ho); have nHW := Aside0.mk hb; clear HO HW; have HO := nHO; have HW := nHW; clear nHO nHW ho hb hg_ hat_ hn_)))
  obtain ⟨L, hL⟩ : ∃ L, R ++ S ++ lo = L := ⟨_, rfl⟩
  have HL := Aside0.mk hL
  have HA := Aside0.mk (show AllOk L n from hL ▸ HALL.out)
  have HO12 := Aside0.mk (show Kd.R k43 43 w12 w8.heap.size (fun _ => True) (.slice A12 n12 k12) L from hL ▸ HO.out)
  have HW12 := Aside0.mk HW.out
  obtain ⟨hn12, _, hC12⟩ := Kd.R_reads' HO12.out
  have CA := Aside0.mk hC12
  subst hn12
  clear HO HW hL hC12 HO12 HALL
  go_loopg [16, 97] L.length (fun kq v16 v97 wr => ∃ i : Nat, v97 = .int .i64 (i : Int) ∧ v16 = .int .i64 (tot (L.take i)) ∧ Aside0 (i ≤ L.length ∧ kq = L.length - i) ∧ Aside0 (Below w12.heap.size w12 wr))
  case atStart => exact ⟨0, rfl, rfl, ⟨by simp⟩, ⟨Below.refl _ _⟩⟩
  case round =>
    obtain ⟨i, rfl, rfl, HI, HBR⟩ := hrel
    obtain ⟨T, hT⟩ : ∃ T, tot (L.take i) = T := ⟨_, rfl⟩
    have HT := Aside0.mk hT
    rw [hT]
    clear hT
    by_cases hi : i < L.length
    · have HII := Aside0.mk hi
      have q1 := eq_true (show (i : Int) < (L.length : Int) by omega)
      have q2 := eq_true hi
      have q3 : wrap64 ((i : Int) + 1) = ((i + 1 : Nat) : Int) := by have := HA.out.len; have := HA.out.n1; unfold wrap64; omega
      have q4 : IntKind.i64.wrap ((i : Int) + 1) = ((i + 1 : Nat) : Int) := by rw [w64, q3]
      obtain ⟨ad, had, x0, x1⟩ := at_T43 (Kd.C_below CA.out HBR.out) (i : Int) (by omega) (by omega)
      subst had
      have hone := HA.out.one i hi
      have hstep := HA.out.step i hi
      have hpre := HA.out.pre i (by omega)
      have hpre1 := HA.out.pre (i + 1) (by omega)
      have hn1 := HA.out.n1
      have e : rd_T43 L (i : Int) = L.getD i z43 := by unfold rd_T43; rw [Int.toNat_natCast]
      rw [e] at x0 x1
      rw [HT.out] at hstep hpre
      simp only [Int.toNat_natCast] at x0 x1
      obtain ⟨s, hs⟩ : ∃ s, L.getD i z43 = s := ⟨_, rfl⟩
      rw [hs] at x0 x1 hone hstep
      have k0 := eq_false (show ¬ s.f0 < 0 by omega)
      have k1 := eq_false (show ¬ s.f0 ≥ s.f1 by omega)
      have k1b := eq_false (show ¬ s.f1 ≤ s.f0 by omega)
      have k2 := eq_false (show ¬ s.f1 > n by omega)
      have k2b := eq_false (show ¬ n < s.f1 by omega)
      have m1 : wrap64 (T + s.f1) = T + s.f1 := w64_id' (by omega) (by omega)
      have m1b : IntKind.i64.wrap (T + s.f1) = T + s.f1 := by rw [w64, m1]
      have m2 : wrap64 (T + s.f1 - s.f0) = T + s.f1 - s.f0 := w64_id' (by omega) (by omega)
      have m2b : IntKind.i64.wrap (T + s.f1 - s.f0) = T + s.f1 - s.f0 := by rw [w64, m2]
      have HSTEP := Aside0.mk (show tot (L.take (i + 1)) = T + s.f1 - s.f0 from by omega)
      clear hi e hs hone hstep hpre hpre1 hn1
      go_wp2_with (first
        | ((with_reducible refine gate_dst (N := 18) rfl ?_); go_must (refine box_event ?hg (N := 18) ?hd (cs := #[.int .i64 0, .int .i64 0]) (t := 43) ?hr ?_; (case hd => rfl); (case hg => rfl); (case hr => first | (go_simp; done) | (go_simp; rfl)); intro g18 hg wa hbox hb; have BK18 := Aside0.mk hbox; have HG18 := Aside0.mk (Nat.le_of_eq hg.symm); have HBA := Aside0.mk hb; have y0 : wa.cell? ⟨g18, 0, none⟩ = some (.int .i64 0) := (blk_cell hbox 0).trans rfl; have z0 := blk_frozen hbox 0; have y1 : wa.cell? ⟨g18, 1, none⟩ = some (.int .i64 0) := (blk_cell hbox 1).trans rfl; have z1 := blk_frozen hbox 1; clear hbox hb hg x0 x1))
        | ((with_reducible refine gate_store (t := 43) (p := 18) rfl ?_); go_must (refine store_event (t := 43) (p := 18) (v := ?vo_wb_18) (w1 := ((wa.setCell ⟨g18, 0, none⟩ (.int .i64 s.f0)).setCell ⟨g18, 1, none⟩ (.int .i64 s.f1))) ?hg ?ho ?hn ?hr ?_; (case ho => rfl); (case hg => rfl); (case hn => rfl); (case hr => first | (go_simp; done) | (go_simp; rfl)); intro wb hw; have BKS := Aside0.mk (show wb.heap[g18]? = some (.cells #[.int .i64 s.f0, .int .i64 s.f1] 43 (0, 0)) from (by rw [hw]; exact put_two BK18.out)); have HBZ := Aside0.mk (show Below w12.heap.size w12 wb from (by rw [hw]; exact ((below_step HBR.out HBA.out).setCell (Nat.le_trans HBR.out.size HG18.out) _).setCell (Nat.le_trans HBR.out.size HG18.out) _)); clear hw y0 z0 y1 z1; have y0 : wb.cell? ⟨g18, 0, none⟩ = some (.int .i64 s.f0) := (blk_cell BKS.out 0).trans rfl; have y1 : wb.cell? ⟨g18, 1, none⟩ = some (.int .i64 s.f1) := (blk_cell BKS.out 1).trans rfl)))
      go_roundg (L.length - (i + 1))
      case measure => have := HI.out; have := HII.out; omega
      case rel => exact ⟨i + 1, rfl, by rw [HSTEP.out], ⟨by have := HII.out; omega⟩, HBZ⟩
    · have HIE := Aside0.mk (show i = L.length from by have := HI.out; omega)
      have q1 := eq_false (show ¬ (i : Int) < (L.length : Int) by omega)
      have q2 := eq_false hi
      have HTN := Aside0.mk (show T = n from by rw [← HT.out, HIE.out, List.take_length]; exact HA.out.sum)
      have HW := Aside0.mk (HW12.out.trans (HBR.out.mono HW12.out.size))
      clear hi
      go_wp2_with (first
        | ((with_reducible refine gate_dst (N := 125) rfl ?_); go_must (refine Kd.R_lit k43 w8.heap.size 43 ?hg (N := 125) ?hd (w0 := w8) (xs := ([] : List S43)) (inner := []) (ok := fun _ => True) (okp := fun _ => False) ?hr ?hp (fun _ hk => hk.elim) trivial HW.out HW.out.size (by decide) ?_; (case hd => rfl); (case hg => rfl); (case hr => first | (go_simp; done) | (go_simp; rfl)); (case hp => exact Reps.none _ _); intro v_ v9 ho hb hg_ hnew_; obtain ⟨B9, j9, hv9⟩ := Kd.R_slice ho; obtain ⟨m9, hm9⟩ : ∃ m9, ([] : List S43).length = m9 := ⟨_, rfl⟩; rw [hm9] at hv9; subst hv9; have HO := Aside0.mk ho; have nHW := Aside0.mk hb; clear HW; have HW := nHW; clear nHW ho hb hg_ hnew_ hm9))
        | ((with_reducible refine gate_builtin (b := .append) (xs := #[.tmp 125, .tmp 126]) rfl ?_); go_must (at_builtin; refine Kd.R_append_rows k43 (w0 := w8) w8.heap.size rfl (.tmp 125) (.tmp 126) 35 43 (.agg #[.int .i64 0, .int .i64 0]) 16 rfl Try.underlying35 info43 rfl (by decide) (by decide) (.slice B9 m9 j9) (([] : List S43)) R A6 R.length k6 (fun _ => True) (fun _ => False) rfl rfl HO.out (Kd.C_below CR.out HW.out) (fun x cs h => by obtain rfl := k43_open h; exact k43_mkM _ _ _ x) (fun _ h => h.elim) (fun _ _ => trivial) HW.out HW.out.size ?aL ?_; (case aL => have h_ := HAL.out; simp only [List.length_append, List.length_nil] at h_ ⊢; omega); intro v_ v10 ho hb hg_ hat_; obtain ⟨B10, j10, hv_⟩ := Kd.R_slice ho; obtain ⟨m10, hn_⟩ : ∃ m10, (([] : List S43) ++ R).length = m10 := ⟨_, rfl⟩; rw [hn_] at hv_; subst hv_; have nHO := Aside0.mk (show Kd.R k43 43 v10 w8.heap.size (fun _ => True) (.slice B10 m10 j10) (([] : List S43) ++ R) from ho); have nHW := Aside0.mk hb; clear HO HW; have HO := nHO; have HW := nHW; clear nHO nHW ho hb hg_ hat_ hn_))
        | ((with_reducible refine gate_builtin (b := .append) (xs := #[.tmp 127, .tmp 128]) rfl ?_); go_must (at_builtin; refine Kd.R_append_rows k43 (w0 := w8) w8.heap.size rfl (.tmp 127) (.tmp 128) 35 43 (.agg #[.int .i64 0, .int .i64 0]) 16 rfl Try.underlying35 info43 rfl (by decide) (by decide) (.slice B10 m10 j10) (R) S A7 S.length k7 (fun _ => True) (fun _ => False) rfl rfl HO.out (Kd.C_below CS.out HW.out) (fun x cs h => by obtain rfl := k43_open h; exact k43_mkM _ _ _ x) (fun _ h => h.elim) (fun _ _ => trivial) HW.out HW.out.size ?aL ?_; (case aL => have h_ := HAL.out; simp only [List.length_append, List.length_nil] at h_ ⊢; omega); intro v_ v11 ho hb hg_ hat_; obtain ⟨B11, j11, hv_⟩ := Kd.R_slice ho; obtain ⟨m11, hn_⟩ : ∃ m11, (R ++ S).length = m11 := ⟨_, rfl⟩; rw [hn_] at hv_; subst hv_; have nHO := Aside0.mk (show Kd.R k43 43 v11 w8.heap.size (fun _ => True) (.slice B11 m11 j11) (R ++ S) from ho); have nHW := Aside0.mk hb; clear HO HW; have HO := nHO; have HW := nHW; clear nHO nHW ho hb hg_ hat_ hn_))
        | ((with_reducible refine gate_builtin (b := .append) (xs := #[.tmp 129, .tmp 130]) rfl ?_); go_must (at_builtin; refine Kd.R_append_rows k43 (w0 := w8) w8.heap.size rfl (.tmp 129) (.tmp 130) 35 43 (.agg #[.int .i64 0, .int .i64 0]) 16 rfl Try.underlying35 info43 rfl (by decide) (by decide) (.slice B11 m11 j11) (R ++ S) lo A8 lo.length k8 (fun _ => True) (fun _ => False) rfl rfl HO.out (Kd.C_below CL.out HW.out) (fun x cs h => by obtain rfl := k43_open h; exact k43_mkM _ _ _ x) (fun _ h => h.elim) (fun _ _ => trivial) HW.out HW.out.size ?aL ?_; (case aL => have h_ := HAL.out; simp only [List.length_append, List.length_nil] at h_ ⊢; omega); intro v_ v12 ho hb hg_ hat_; obtain ⟨B12, j12, hv_⟩ := Kd.R_slice ho; obtain ⟨m12, hn_⟩ : ∃ m12, (R ++ S ++ lo).length = m12 := ⟨_, rfl⟩; rw [hn_] at hv_; subst hv_; have nHO := Aside0.mk (show Kd.R k43 43 v12 w8.heap.size (fun _ => True) (.slice B12 m12 j12) (R ++ S ++ lo) from ho); have nHW := Aside0.mk hb; clear HO HW; have HO := nHO; have HW := nHW; clear nHO nHW ho hb hg_ hat_ hn_)))
      have HO12 := Aside0.mk (show Kd.R k43 43 v12 w8.heap.size (fun _ => True) (.slice B12 m12 j12) L from HL.out ▸ HO.out)
      have HV12 := Aside0.mk HW.out
      obtain ⟨hm12, _, hD12⟩ := Kd.R_reads' HO12.out
      have CB := Aside0.mk hD12
      subst hm12
      clear HO HW hD12 HO12 HI HIE CA q1 q2
      go_loopg [134] L.length (fun kq v134 wr => ∃ i : Nat, v134 = .int .i64 (i : Int) ∧ Aside0 (i ≤ L.length ∧ kq = L.length - i) ∧ Aside0 (Below v12.heap.size v12 wr))
      case atStart => exact ⟨0, rfl, ⟨by simp⟩, ⟨Below.refl _ _⟩⟩
      case round =>
        clear HBR
        obtain ⟨i, rfl, HI, HBR⟩ := hrel
        by_cases hi : i < L.length
        · have HII := Aside0.mk hi
          have q1 := eq_true (show (i : Int) < (L.length : Int) by omega)
          have q2 := eq_true hi
          have q3 : wrap64 ((i : Int) + 1) = ((i + 1 : Nat) : Int) := by have := HA.out.len; have := HA.out.n1; unfold wrap64; omega
          have q4 : IntKind.i64.wrap ((i : Int) + 1) = ((i + 1 : Nat) : Int) := by rw [w64, q3]
          obtain ⟨ad, had, x0, x1⟩ := at_T43 (Kd.C_below CB.out HBR.out) (i : Int) (by omega) (by omega)
          subst had
          have e : rd_T43 L (i : Int) = L.getD i z43 := by unfold rd_T43; rw [Int.toNat_natCast]
          rw [e] at x0 x1
          simp only [Int.toNat_natCast] at x0 x1
          obtain ⟨s, hs⟩ : ∃ s, L.getD i z43 = s := ⟨_, rfl⟩
          have HS := Aside0.mk hs
          rw [hs] at x0 x1
          clear hi e hs
          go_wp2
          go_loopg [138] i (fun kq v138 wx => ∃ nd k : Nat, v138 = .int .i64 (k : Int) ∧ wx = wr.drewN nd ∧ Aside0 (k ≤ i ∧ kq = i - k))
          case atStart => exact ⟨0, 0, rfl, rfl, ⟨by simp⟩⟩
          case round =>
            obtain ⟨nd, k, rfl, rfl, HK⟩ := hrel
            by_cases hk : k < i
            · have HKK := Aside0.mk hk
              have r1 := eq_true (show (k : Int) < (i : Int) by omega)
              have r2 := eq_true hk
              have r3 : wrap64 ((k : Int) + 1) = ((k + 1 : Nat) : Int) := by have := HA.out.len; have := HA.out.n1; have := HII.out; unfold wrap64; omega
              have r4 : IntKind.i64.wrap ((k : Int) + 1) = ((k + 1 : Nat) : Int) := by rw [w64, r3]
              have r5 := eq_true (show (k : Int) < (L.length : Int) by have := HII.out; omega)
              have r6 := eq_true (show k < L.length by have := HII.out; omega)
              obtain ⟨ad2, had, u0, u1⟩ := at_T43 (Kd.C_below CB.out HBR.out) (k : Int) (by omega) (by have := HII.out; omega)
              obtain rfl := Option.some.inj had
              have e : rd_T43 L (k : Int) = L.getD k z43 := by unfold rd_T43; rw [Int.toNat_natCast]
              rw [e] at u0 u1
              simp only [Int.toNat_natCast] at u0 u1
              have htwo := HA.out.two i k hk HII.out
              obtain ⟨z, hz⟩ : ∃ z, L.getD k z43 = z := ⟨_, rfl⟩
              rw [hz] at u0 u1 htwo
              rw [HS.out] at htwo
              clear hz e hk had
              by_cases h1 : s.f0 < z.f1
              · have k1 := eq_true h1
                have k2 := eq_false (show ¬ z.f0 < s.f1 by omega)
                clear h1 htwo
                go_wp2
                go_quiet (fail)
                go_wp2
                go_roundg (i - (k + 1))
                case measure => have := HK.out; have := HKK.out; omega
                case rel => exact ⟨_, k + 1, rfl, rfl, ⟨by have := HKK.out; omega⟩⟩
              · have k1 := eq_false h1
                clear h1 htwo
                go_wp2
                go_quiet (fail)
                go_wp2
                go_roundg (i - (k + 1))
                case measure => have := HK.out; have := HKK.out; omega
                case rel => exact ⟨_, k + 1, rfl, rfl, ⟨by have := HKK.out; omega⟩⟩
            · have r1 := eq_false (show ¬ (k : Int) < (i : Int) by omega)
              have r2 := eq_false hk
              clear hk
              go_wp2
              go_roundg (L.length - (i + 1))
              case measure => have := HI.out; have := HII.out; omega
              case rel => exact ⟨i + 1, rfl, ⟨by have := HII.out; omega⟩, ⟨pw_below_drewN HBR.out nd⟩⟩
        · have q1 := eq_false (show ¬ (i : Int) < (L.length : Int) by omega)
          have q2 := eq_false hi
          clear hi
          have HZ := Aside0.mk (HV12.out.trans (HBR.out.mono HV12.out.size))
          go_wp2
          clear HBR HI CB q1 q2
          go_loopg [169] R.length (fun kq v169 wr => ∃ j : Nat, v169 = .int .i64 (j : Int) ∧ Aside0 (j ≤ R.length ∧ kq = R.length - j) ∧ Aside0 (Below w8.heap.size w8 wr))
          case atStart => exact ⟨0, rfl, ⟨by simp⟩, HZ⟩
          case round =>
            clear HZ
            obtain ⟨j, rfl, HI, HZ⟩ := hrel
            have BK2 := Aside0.mk (blk_below B8.out HZ.out)
            have x0 : wr.cell? ⟨g3, 0, none⟩ = some (.int .i64 c.th) := (blk_cell BK2.out 0).trans rfl; have x1 : wr.cell? ⟨g3, 1, none⟩ = some (.int .i64 c.cl) := (blk_cell BK2.out 1).trans rfl; have x2 : wr.cell? ⟨g3, 2, none⟩ = some (.slice X2 c.acts.length y2) := (blk_cell BK2.out 2).trans rfl; have x3 : wr.cell? ⟨g3, 3, none⟩ = some (.slice X3 c.pac.length y3) := (blk_cell BK2.out 3).trans rfl; have x4 : wr.cell? ⟨g3, 4, none⟩ = some (.slice X4 c.sw.length y4) := (blk_cell BK2.out 4).trans rfl; have x5 : wr.cell? ⟨g3, 5, none⟩ = some (.int .i64 c.en) := (blk_cell BK2.out 5).trans rfl
            clear BK2
            by_cases hj : j < R.length
            · have HII := Aside0.mk hj
              have q1 := eq_true (show (j : Int) < (R.length : Int) by omega)
              have q2 := eq_true hj
              have q3 : wrap64 ((j : Int) + 1) = ((j + 1 : Nat) : Int) := by have := HAL.out; simp only [List.length_append] at this; unfold wrap64; omega
              have q4 : IntKind.i64.wrap ((j : Int) + 1) = ((j + 1 : Nat) : Int) := by rw [w64, q3]
              obtain ⟨ad, had, u0, u1⟩ := at_T43 (Kd.C_below CR.out HZ.out) (j : Int) (by omega) (by omega)
              subst had
              have e : rd_T43 R (j : Int) = R.getD j z43 := by unfold rd_T43; rw [Int.toNat_natCast]
              rw [e] at u0 u1
              simp only [Int.toNat_natCast] at u0 u1
              obtain ⟨a, b, hok⟩ := HREEL.out (R.getD j z43) (by rw [List.getD_eq_getElem?_getD, List.getElem?_eq_getElem hj]; exact List.getElem_mem _)
              obtain ⟨r, hr⟩ : ∃ r, R.getD j z43 = r := ⟨_, rfl⟩
              rw [hr] at u0 u1 hok
              have HOK := Aside0.mk hok
              obtain ⟨qa, hqa⟩ : ∃ q, (atr c P a).1 = q := ⟨_, rfl⟩
              obtain ⟨qb, hqb⟩ : ∃ q, (atr c P b).1 = q := ⟨_, rfl⟩
              have HQA := Aside0.mk hqa
              have HQB := Aside0.mk hqb
              have hph := hok.ph
              have hka := hok.ka
              have hkb := hok.kb
              rw [hqa] at hph hka
              rw [hqb] at hph hkb
              have HPE := Aside0.mk hph
              have h1 := hok.len
              have h2 := hok.f0
              have h3 := hok.lt
              have h4 := hok.f1
              have h5 := hok.ab
              have m1 : wrap64 (r.f1 - 1) = r.f1 - 1 := w64_id' (by omega) (by omega)
              have m1b : IntKind.i64.wrap (r.f1 - 1) = r.f1 - 1 := by rw [w64, m1]
              have m2 : wrap64 (r.f1 - r.f0) = r.f1 - r.f0 := w64_id' (by omega) (by omega)
              have m2b : IntKind.i64.wrap (r.f1 - r.f0) = r.f1 - r.f0 := by rw [w64, m2]
              have k1 := eq_false (show ¬ r.f1 - r.f0 < least by omega)
              have k2 := eq_false (show ¬ a > b by omega)
              have k2b := eq_false (show ¬ b < a by omega)
              have k3 := eq_false hka
              have k3b : (qa.f2 == 3) = false := beq_eq_false_iff_ne.2 hka
              have k4 := eq_false hkb
              have k4b : (qb.f2 == 3) = false := beq_eq_false_iff_ne.2 hkb
              clear hj e hr hok hqa hqb hph hka hkb h1 h2 h3 h4 h5
              have M1 := trivial
              have M2 := trivial
              go_wp2_with (first
                | ((with_reducible refine gate_dst (N := 23) rfl ?_); go_must (refine box_event ?hg (N := 23) ?hd (cs := #[.int .i64 0, .int .i64 0]) (t := 43) ?hr ?_; (case hd => rfl); (case hg => rfl); (case hr => first | (go_simp; done) | (go_simp; rfl)); intro g23 hg wa hbox hb; have BK23 := Aside0.mk hbox; have HG23 := Aside0.mk (show w8.heap.size ≤ g23 from by rw [hg]; exact HZ.out.size); have nHZ := Aside0.mk (below_step HZ.out hb); clear x0 x1 x2 x3 x4 x5 u0 u1; clear HZ; have HZ := nHZ; clear nHZ; have y0 : wa.cell? ⟨g23, 0, none⟩ = some (.int .i64 0) := (blk_cell hbox 0).trans rfl; have z0 := blk_frozen hbox 0; have y1 : wa.cell? ⟨g23, 1, none⟩ = some (.int .i64 0) := (blk_cell hbox 1).trans rfl; have z1 := blk_frozen hbox 1; clear hbox hb hg))
                | ((with_reducible refine gate_store (t := 43) (p := 23) rfl ?_); go_must (refine store_event (t := 43) (p := 23) (v := ?vo_wb_23) (w1 := ((wa.setCell ⟨g23, 0, none⟩ (.int .i64 r.f0)).setCell ⟨g23, 1, none⟩ (.int .i64 r.f1))) ?hg ?ho ?hn ?hr ?_; (case ho => rfl); (case hg => rfl); (case hn => rfl); (case hr => first | (go_simp; done) | (go_simp; rfl)); intro wb hw; have nBK23 := Aside0.mk (show wb.heap[g23]? = some (.cells #[.int .i64 r.f0, .int .i64 r.f1] 43 (0, 0)) from (by rw [hw]; exact put_two BK23.out)); have nHZ := Aside0.mk (show Below w8.heap.size w8 wb from (by rw [hw]; exact (HZ.out.setCell HG23.out _).setCell HG23.out _)); clear hw y0 z0 y1 z1; clear BK23; clear HZ; have BK23 := nBK23; clear nBK23; have HZ := nHZ; clear nHZ; have BK2 := Aside0.mk (blk_below B8.out HZ.out); have x0 : wb.cell? ⟨g3, 0, none⟩ = some (.int .i64 c.th) := (blk_cell BK2.out 0).trans rfl; have x1 : wb.cell? ⟨g3, 1, none⟩ = some (.int .i64 c.cl) := (blk_cell BK2.out 1).trans rfl; have x2 : wb.cell? ⟨g3, 2, none⟩ = some (.slice X2 c.acts.length y2) := (blk_cell BK2.out 2).trans rfl; have x3 : wb.cell? ⟨g3, 3, none⟩ = some (.slice X3 c.pac.length y3) := (blk_cell BK2.out 3).trans rfl; have x4 : wb.cell? ⟨g3, 4, none⟩ = some (.slice X4 c.sw.length y4) := (blk_cell BK2.out 4).trans rfl; have x5 : wb.cell? ⟨g3, 5, none⟩ = some (.int .i64 c.en) := (blk_cell BK2.out 5).trans rfl; clear BK2; have y0 : wb.cell? ⟨g23, 0, none⟩ = some (.int .i64 r.f0) := (blk_cell BK23.out 0).trans rfl; have y1 : wb.cell? ⟨g23, 1, none⟩ = some (.int .i64 r.f1) := (blk_cell BK23.out 1).trans rfl))
                | (go_at_call 9; clear M1; go_must (refine (when_calls c ⟨X2, y2, X3, y3, X4, y4⟩ P r.f0 a _ (HC8.out.below HZ.out) HPH.out (by have := HLP.out; omega) (by have := HN.out; omega) (by have := HN.out; omega) HOK.out.f0 (by have := HOK.out.lt; have := HOK.out.f1; omega) HOK.out.wa).mono ?_; rintro e wc ⟨rfl, hb⟩; have nHZ := Aside0.mk (below_step HZ.out hb); have nBK23 := Aside0.mk (blk_below BK23.out hb); clear x0 x1 x2 x3 x4 x5; clear y0 y1; clear BK23; clear HZ; have BK23 := nBK23; clear nBK23; have HZ := nHZ; clear nHZ; have BK2 := Aside0.mk (blk_below B8.out HZ.out); have x0 : wc.cell? ⟨g3, 0, none⟩ = some (.int .i64 c.th) := (blk_cell BK2.out 0).trans rfl; have x1 : wc.cell? ⟨g3, 1, none⟩ = some (.int .i64 c.cl) := (blk_cell BK2.out 1).trans rfl; have x2 : wc.cell? ⟨g3, 2, none⟩ = some (.slice X2 c.acts.length y2) := (blk_cell BK2.out 2).trans rfl; have x3 : wc.cell? ⟨g3, 3, none⟩ = some (.slice X3 c.pac.length y3) := (blk_cell BK2.out 3).trans rfl; have x4 : wc.cell? ⟨g3, 4, none⟩ = some (.slice X4 c.sw.length y4) := (blk_cell BK2.out 4).trans rfl; have x5 : wc.cell? ⟨g3, 5, none⟩ = some (.int .i64 c.en) := (blk_cell BK2.out 5).trans rfl; clear BK2; have y0 : wc.cell? ⟨g23, 0, none⟩ = some (.int .i64 r.f0) := (blk_cell BK23.out 0).trans rfl; have y1 : wc.cell? ⟨g23, 1, none⟩ = some (.int .i64 r.f1) := (blk_cell BK23.out 1).trans rfl; clear hb))
                | (go_at_call 9; go_must (refine (when_calls c ⟨X2, y2, X3, y3, X4, y4⟩ P (r.f1 - 1) b _ (HC8.out.below HZ.out) HPH.out (by have := HLP.out; omega) (by have := HN.out; omega) (by have := HN.out; omega) (by have := HOK.out.lt; have := HOK.out.f0; omega) (by have := HOK.out.f1; omega) HOK.out.wb).mono ?_; rintro e wd ⟨rfl, hb⟩; have nHZ := Aside0.mk (below_step HZ.out hb); have nBK23 := Aside0.mk (blk_below BK23.out hb); clear x0 x1 x2 x3 x4 x5; clear y0 y1; clear BK23; clear HZ; have BK23 := nBK23; clear nBK23; have HZ := nHZ; clear nHZ; have BK2 := Aside0.mk (blk_below B8.out HZ.out); have x0 : wd.cell? ⟨g3, 0, none⟩ = some (.int .i64 c.th) := (blk_cell BK2.out 0).trans rfl; have x1 : wd.cell? ⟨g3, 1, none⟩ = some (.int .i64 c.cl) := (blk_cell BK2.out 1).trans rfl; have x2 : wd.cell? ⟨g3, 2, none⟩ = some (.slice X2 c.acts.length y2) := (blk_cell BK2.out 2).trans rfl; have x3 : wd.cell? ⟨g3, 3, none⟩ = some (.slice X3 c.pac.length y3) := (blk_cell BK2.out 3).trans rfl; have x4 : wd.cell? ⟨g3, 4, none⟩ = some (.slice X4 c.sw.length y4) := (blk_cell BK2.out 4).trans rfl; have x5 : wd.cell? ⟨g3, 5, none⟩ = some (.int .i64 c.en) := (blk_cell BK2.out 5).trans rfl; clear BK2; have y0 : wd.cell? ⟨g23, 0, none⟩ = some (.int .i64 r.f0) := (blk_cell BK23.out 0).trans rfl; have y1 : wd.cell? ⟨g23, 1, none⟩ = some (.int .i64 r.f1) := (blk_cell BK23.out 1).trans rfl; clear hb))
                | (go_at_call 10; clear M2; go_must (refine (at_calls c ⟨X2, y2, X3, y3, X4, y4⟩ P a _ (HC8.out.below HZ.out) HPH.out (by have := HLP.out; omega) (by have := HN.out; omega) (by have := HN.out; omega) HOK.out.a0 HOK.out.a1 HOK.out.ma).mono ?_; rw [HQA.out]; rintro e we ⟨rfl, hb⟩; have nHZ := Aside0.mk (below_step HZ.out hb); clear x0 x1 x2 x3 x4 x5; clear y0 y1; clear BK23; clear HZ; have HZ := nHZ; clear nHZ; have BK2 := Aside0.mk (blk_below B8.out HZ.out); have x0 : we.cell? ⟨g3, 0, none⟩ = some (.int .i64 c.th) := (blk_cell BK2.out 0).trans rfl; have x1 : we.cell? ⟨g3, 1, none⟩ = some (.int .i64 c.cl) := (blk_cell BK2.out 1).trans rfl; have x2 : we.cell? ⟨g3, 2, none⟩ = some (.slice X2 c.acts.length y2) := (blk_cell BK2.out 2).trans rfl; have x3 : we.cell? ⟨g3, 3, none⟩ = some (.slice X3 c.pac.length y3) := (blk_cell BK2.out 3).trans rfl; have x4 : we.cell? ⟨g3, 4, none⟩ = some (.slice X4 c.sw.length y4) := (blk_cell BK2.out 4).trans rfl; have x5 : we.cell? ⟨g3, 5, none⟩ = some (.int .i64 c.en) := (blk_cell BK2.out 5).trans rfl; clear BK2; clear hb))
                | ((with_reducible refine gate_dst (N := 28) rfl ?_); go_must (refine box_event ?hg (N := 28) ?hd (cs := #[.int .i64 0, .int .i64 0, .int .i64 0, .int .i64 0, .int .i64 0]) (t := 45) ?hr ?_; (case hd => rfl); (case hg => rfl); (case hr => first | (go_simp; done) | (go_simp; rfl)); intro g28 hg wf hbox hb; have BK28 := Aside0.mk hbox; have HG28 := Aside0.mk (show w8.heap.size ≤ g28 from by rw [hg]; exact HZ.out.size); have nHZ := Aside0.mk (below_step HZ.out hb); clear x0 x1 x2 x3 x4 x5; clear HZ; have HZ := nHZ; clear nHZ; have b0 : wf.cell? ⟨g28, 0, none⟩ = some (.int .i64 0) := (blk_cell hbox 0).trans rfl; have f0 := blk_frozen hbox 0; have b1 : wf.cell? ⟨g28, 1, none⟩ = some (.int .i64 0) := (blk_cell hbox 1).trans rfl; have f1 := blk_frozen hbox 1; have b2 : wf.cell? ⟨g28, 2, none⟩ = some (.int .i64 0) := (blk_cell hbox 2).trans rfl; have f2 := blk_frozen hbox 2; have b3 : wf.cell? ⟨g28, 3, none⟩ = some (.int .i64 0) := (blk_cell hbox 3).trans rfl; have f3 := blk_frozen hbox 3; have b4 : wf.cell? ⟨g28, 4, none⟩ = some (.int .i64 0) := (blk_cell hbox 4).trans rfl; have f4 := blk_frozen hbox 4; clear hbox hb hg))
                | ((with_reducible refine gate_store (t := 45) (p := 28) rfl ?_); go_must (refine store_event (t := 45) (p := 28) (v := ?vo_wg_28) (w1 := (((((wf.setCell ⟨g28, 0, none⟩ (.int .i64 qa.f0)).setCell ⟨g28, 1, none⟩ (.int .i64 qa.f1)).setCell ⟨g28, 2, none⟩ (.int .i64 qa.f2)).setCell ⟨g28, 3, none⟩ (.int .i64 qa.f3)).setCell ⟨g28, 4, none⟩ (.int .i64 qa.f4))) ?hg ?ho ?hn ?hr ?_; (case ho => rfl); (case hg => rfl); (case hn => rfl); (case hr => first | (go_simp; done) | (go_simp; rfl)); intro wg hw; have nBK28 := Aside0.mk (show wg.heap[g28]? = some (.cells #[.int .i64 qa.f0, .int .i64 qa.f1, .int .i64 qa.f2, .int .i64 qa.f3, .int .i64 qa.f4] 45 (0, 0)) from (by rw [hw]; exact put_five BK28.out)); have nHZ := Aside0.mk (show Below w8.heap.size w8 wg from (by rw [hw]; exact ((((HZ.out.setCell HG28.out _).setCell HG28.out _).setCell HG28.out _).setCell HG28.out _).setCell HG28.out _)); clear hw b0 b1 b2 b3 b4 f0 f1 f2 f3 f4; clear BK28; clear HZ; have BK28 := nBK28; clear nBK28; have HZ := nHZ; clear nHZ; have BK2 := Aside0.mk (blk_below B8.out HZ.out); have x0 : wg.cell? ⟨g3, 0, none⟩ = some (.int .i64 c.th) := (blk_cell BK2.out 0).trans rfl; have x1 : wg.cell? ⟨g3, 1, none⟩ = some (.int .i64 c.cl) := (blk_cell BK2.out 1).trans rfl; have x2 : wg.cell? ⟨g3, 2, none⟩ = some (.slice X2 c.acts.length y2) := (blk_cell BK2.out 2).trans rfl; have x3 : wg.cell? ⟨g3, 3, none⟩ = some (.slice X3 c.pac.length y3) := (blk_cell BK2.out 3).trans rfl; have x4 : wg.cell? ⟨g3, 4, none⟩ = some (.slice X4 c.sw.length y4) := (blk_cell BK2.out 4).trans rfl; have x5 : wg.cell? ⟨g3, 5, none⟩ = some (.int .i64 c.en) := (blk_cell BK2.out 5).trans rfl; clear BK2))
                | (go_at_call 10; go_must (refine (at_calls c ⟨X2, y2, X3, y3, X4, y4⟩ P b _ (HC8.out.below HZ.out) HPH.out (by have := HLP.out; omega) (by have := HN.out; omega) (by have := HN.out; omega) HOK.out.b0 HOK.out.b1 HOK.out.mb).mono ?_; rw [HQB.out]; rintro e wh ⟨rfl, hb⟩; have nHZ := Aside0.mk (below_step HZ.out hb); have nBK28 := Aside0.mk (blk_below BK28.out hb); clear x0 x1 x2 x3 x4 x5; clear HZ; clear BK28; have HZ := nHZ; clear nHZ; have BK28 := nBK28; clear nBK28; clear hb))
                | ((with_reducible refine gate_dst (N := 29) rfl ?_); go_must (refine box_event ?hg (N := 29) ?hd (cs := #[.int .i64 0, .int .i64 0, .int .i64 0, .int .i64 0, .int .i64 0]) (t := 45) ?hr ?_; (case hd => rfl); (case hg => rfl); (case hr => first | (go_simp; done) | (go_simp; rfl)); intro g29 hg wi hbox hb; have BK29 := Aside0.mk hbox; have HG29 := Aside0.mk (show w8.heap.size ≤ g29 from by rw [hg]; exact HZ.out.size); have nHZ := Aside0.mk (below_step HZ.out hb); have HNE := Aside0.mk (show g28 ≠ g29 from by have h_ := blk_lt BK28.out; omega); have nBK28 := Aside0.mk (blk_below BK28.out hb); clear BK28; have BK28 := nBK28; clear nBK28; clear HZ; have HZ := nHZ; clear nHZ; have b0 : wi.cell? ⟨g29, 0, none⟩ = some (.int .i64 0) := (blk_cell hbox 0).trans rfl; have f0 := blk_frozen hbox 0; have b1 : wi.cell? ⟨g29, 1, none⟩ = some (.int .i64 0) := (blk_cell hbox 1).trans rfl; have f1 := blk_frozen hbox 1; have b2 : wi.cell? ⟨g29, 2, none⟩ = some (.int .i64 0) := (blk_cell hbox 2).trans rfl; have f2 := blk_frozen hbox 2; have b3 : wi.cell? ⟨g29, 3, none⟩ = some (.int .i64 0) := (blk_cell hbox 3).trans rfl; have f3 := blk_frozen hbox 3; have b4 : wi.cell? ⟨g29, 4, none⟩ = some (.int .i64 0) := (blk_cell hbox 4).trans rfl; have f4 := blk_frozen hbox 4; clear hbox hb hg))
                | ((with_reducible refine gate_store (t := 45) (p := 29) rfl ?_); go_must (refine store_event (t := 45) (p := 29) (v := ?vo_wj_29) (w1 := (((((wi.setCell ⟨g29, 0, none⟩ (.int .i64 qb.f0)).setCell ⟨g29, 1, none⟩ (.int .i64 qb.f1)).setCell ⟨g29, 2, none⟩ (.int .i64 qb.f2)).setCell ⟨g29, 3, none⟩ (.int .i64 qb.f3)).setCell ⟨g29, 4, none⟩ (.int .i64 qb.f4))) ?hg ?ho ?hn ?hr ?_; (case ho => rfl); (case hg => rfl); (case hn => rfl); (case hr => first | (go_simp; done) | (go_simp; rfl)); intro wj hw; have nBK29 := Aside0.mk (show wj.heap[g29]? = some (.cells #[.int .i64 qb.f0, .int .i64 qb.f1, .int .i64 qb.f2, .int .i64 qb.f3, .int .i64 qb.f4] 45 (0, 0)) from (by rw [hw]; exact put_five BK29.out)); have nHZ := Aside0.mk (show Below w8.heap.size w8 wj from (by rw [hw]; exact ((((HZ.out.setCell HG29.out _).setCell HG29.out _).setCell HG29.out _).setCell HG29.out _).setCell HG29.out _)); have nBK28 := Aside0.mk (show wj.heap[g28]? = some (.cells #[.int .i64 qa.f0, .int .i64 qa.f1, .int .i64 qa.f2, .int .i64 qa.f3, .int .i64 qa.f4] 45 (0, 0)) from (by rw [hw]; exact (five_far g28 HNE.out).trans BK28.out)); clear BK28; have BK28 := nBK28; clear nBK28; clear hw b0 b1 b2 b3 b4 f0 f1 f2 f3 f4; clear BK29; clear HZ; have BK29 := nBK29; clear nBK29; have HZ := nHZ; clear nHZ; have e2 : wj.cell? ⟨g28, 2, none⟩ = some (.int .i64 qa.f2) := (blk_cell BK28.out 2).trans rfl; have e4 : wj.cell? ⟨g28, 4, none⟩ = some (.int .i64 qa.f4) := (blk_cell BK28.out 4).trans rfl; have d2 : wj.cell? ⟨g29, 2, none⟩ = some (.int .i64 qb.f2) := (blk_cell BK29.out 2).trans rfl; have d4 : wj.cell? ⟨g29, 4, none⟩ = some (.int .i64 qa.f4) := (blk_cell BK29.out 4).trans (by rw [HPE.out]; rfl))))
              go_roundg (R.length - (j + 1))
              case measure => have := HI.out; have := HII.out; omega
              case rel => exact ⟨j + 1, rfl, ⟨by have := HII.out; omega⟩, HZ⟩
            · have q1 := eq_false (show ¬ (j : Int) < (R.length : Int) by omega)
              have q2 := eq_false hj
              have t1 : (T == n) = true := beq_iff_eq.2 HTN.out
              have t2 := eq_true HTN.out
              have HB := Aside0.mk (HB8.out.trans (HZ.out.mono HB8.out.size))
              clear hj
              go_wp2_with (first
                | (go_at_call 4; go_must (refine (reeled_calls _).mono ?_; rintro e wz ⟨rfl, hb⟩; have nHB := Aside0.mk (below_step HB.out hb); clear HB; have HB := nHB; clear nHB; clear hb)))
              go_ret
              exact ⟨rfl, HB.out⟩

end Go.Proofs.Ytebifddfgimnlaa.Rl
end
section
/- TopReels answers true, whatever it is handed. -/
namespace Go.Proofs.Ytebifddfgimnlaa.Rl
open Go.RowKit Go.Proofs.Ytebifddfgimnlaa.PX Go.Proofs.Ytebifddfgimnlaa.Rd Go.Proofs.YtebifddfgimnlaaW.PrintWords Go.Proofs.YtebifddfgimnlaaW.PrintLast
set_option linter.unusedVariables false
set_option linter.unusedSimpArgs false
theorem top_calls (c : Cs) (a : CsA) (turns : List Int) (At : Option Addr) (ct : Nat) (least : Int) (w : World) (hc : CsC w c a) (hCt : Kd.C (Kd.int .i64) w At turns.length turns) (hct : turns.length ≤ ct) :
    Calls Try.prog 3 #[.agg (csV c a), .slice At turns.length ct, .int .i64 least] w fun e w' => e = .returned (.bool true) ∧ Below w.heap.size w w' := by
  by_cases h0 : c.acts.length ≤ 40
  case neg => exact top_big0 c a turns At ct least w hc hCt hct (by omega)
  by_cases h1 : c.pac.length ≤ 40
  case neg => exact top_big1 c a turns At ct least w hc hCt hct h0 (by omega)
  by_cases h2 : c.sw.length ≤ 40
  case neg => exact top_big2 c a turns At ct least w hc hCt hct h0 h1 (by omega)
  by_cases h3 : turns.length ≤ 40
  case neg => exact top_big3 c a turns At ct least w hc hCt hct h0 h1 h2 (by omega)
  by_cases hne : (phF c).2 ≠ 0
  · exact top_err1 c a turns At ct least w hc hCt hct h0 h1 h2 h3 hne
  obtain ⟨⟨P, e⟩, hph⟩ : ∃ r, phF c = r := ⟨_, rfl⟩
  obtain rfl : e = 0 := by rw [hph] at hne; simpa using hne
  clear hne
  have hf := phF_fine hph
  have hlp : P.length ≤ 100 := by have := hf.len; omega
  have hlp' : P.length ≤ 100 := hlp
  by_cases hs : (sf (US c P)).2.2 > 17179869184
  · exact top_err2 c a turns At ct least w hc hCt hct h0 h1 h2 h3 P hph hlp (by unfold secF; rw [if_pos hs])
  have hse : secF c P = ((sf (US c P)).1, 0) := by unfold secF; rw [if_neg hs]
  have hl := len_sum hf hlp (by omega) (by omega)
  obtain ⟨r1, hk1, hz1⟩ := rchk (sf (US c P)).1
  obtain ⟨kl, hlo⟩ := rlost (sf (US c P)).1 r1 hk1 (fun h => (hz1 h).1)
  have err := fun (r : Int) (hr : r ≠ 0) hcut => top_err3 c a turns At ct least w hc hCt hct h0 h1 h2 h3 P hph hlp _ hse hf.en0 (by rw [hl.1]; omega) r hr hcut kl _ _ hlo
  by_cases hr1 : r1 = 0
  case neg => exact err r1 hr1 (fun A cl w' k1 k2 k3 => cut_err1 _ turns least A cl At ct w' k1 k2 k3 hct r1 hr1 hk1)
  subst hr1
  by_cases hb : least < 1 ∨ 17179869184 < least
  · exact err 1 (by decide) (fun A cl w' k1 k2 k3 => cut_err2 _ turns least A cl At ct w' k1 k2 k3 hct hb hk1)
  obtain ⟨r3, hk3, hz3⟩ := rtur turns
  by_cases hr3 : r3 = 0
  case neg => exact err r3 hr3 (fun A cl w' k1 k2 k3 => cut_err3 _ turns least A cl At ct w' k1 k2 k3 hct r3 hr3 (by omega) (by omega) hk1 hk3)
  subst hr3
  rw [if_pos rfl] at hlo
  obtain ⟨g1, g2, g3⟩ := hz1 rfl
  obtain ⟨t1, t2⟩ := hz3 rfl
  have hlaw := top_law hf hlp (by omega) (by omega) turns least (by omega) g2 g3 t2
  exact top_ok c a turns At ct least w hc hCt hct h0 h1 h2 h3 P hph hlp _ hse hf.en0 _ hl.1 (by omega) _ _ _
    (fun A cl w' k1 k2 k3 => cut_ok _ turns least A cl At ct w' k1 k2 k3 hct hk1 g1 hk3 t1 (by omega) (by omega)) kl hlo hlaw.1 hlaw.2
end Go.Proofs.Ytebifddfgimnlaa.Rl
end
section
/- A course as an argument. -/
namespace Go.Proofs.Ytebifddfgimnlaa.Rl
open Go.RowKit Go.Proofs.Ytebifddfgimnlaa.PX Go.Proofs.Ytebifddfgimnlaa.Rd Go.Proofs.YtebifddfgimnlaaW.PrintWords Go.Proofs.YtebifddfgimnlaaW.PrintLast
set_option linter.unusedVariables false
set_option linter.unusedSimpArgs false
/-- A course's cells. -/
def kCs : Kd Cs := Kd.iso (Kd.pair k23 (Kd.pair (Kd.slice 50 k50) (Kd.pair (Kd.slice 52 k52) (Kd.pair (Kd.slice 54 k54) (Kd.int .i64))))) (fun c : Cs => ((⟨c.th, c.cl⟩ : S23), c.acts, c.pac, c.sw, c.en))
theorem kCs_open {w : World} {c : Cs} {cs : List Value} (h : kCs.K w c cs) : ∃ a : CsA, cs = (csV c a).toList ∧ CsC w c a := by
  obtain ⟨c1, d1, rfl, h1, c2, d2, rfl, h2, c3, d3, rfl, h3, c4, d4, rfl, h4, h5⟩ := h
  obtain rfl := k23_open h1
  obtain ⟨A2, k2, rfl, l2, r2⟩ := h2
  obtain ⟨A3, k3, rfl, l3, r3⟩ := h3
  obtain ⟨A4, k4, rfl, l4, r4⟩ := h4
  obtain rfl : d4 = [.int .i64 c.en] := h5
  exact ⟨⟨A2, k2, A3, k3, A4, k4⟩, rfl, r2, l2, r3, l3, r4, l4⟩
theorem opensCs : Opens.Opens Try.prog 28 kCs (fun _ => True) :=
  (Opens.opens_struct (fun c : Cs => ((⟨c.th, c.cl⟩ : S23), c.acts, c.pac, c.sw, c.en)) (fun y => (⟨y.1.f0, y.1.f1, y.2.1, y.2.2.1, y.2.2.2.1, y.2.2.2.2⟩ : Cs)) (fun _ => rfl) Try.underlying28 (by kernel_rfl)
    (Opens.opensF_cons rfl (by kernel_rfl) (Opens.opens_struct (fun x : S23 => (x.f0, x.f1)) (fun y => (⟨y.1, y.2⟩ : S23)) (fun _ => rfl) Try.underlying23 (by kernel_rfl) (Opens.opensF_cons rfl (by kernel_rfl) (Opens.opens_int Try.underlying3) (Opens.opensF_one rfl (by kernel_rfl) (Opens.opens_int Try.underlying3))))
      (Opens.opensF_cons rfl (by kernel_rfl) (Opens.opens_slice Try.underlying24 (by kernel_rfl) (Opens.opens_struct (fun x : S50 => (x.f0, x.f1)) (fun y => (⟨y.1, y.2⟩ : S50)) (fun _ => rfl) Try.underlying50 (by kernel_rfl) (Opens.opensF_cons rfl (by kernel_rfl) (Opens.opens_int Try.underlying3) (Opens.opensF_one rfl (by kernel_rfl) (Opens.opens_int Try.underlying3)))))
        (Opens.opensF_cons rfl (by kernel_rfl) (Opens.opens_slice Try.underlying25 (by kernel_rfl) (Opens.opens_struct (fun x : S52 => (x.f0, x.f1)) (fun y => (⟨y.1, y.2⟩ : S52)) (fun _ => rfl) Try.underlying52 (by kernel_rfl) (Opens.opensF_cons rfl (by kernel_rfl) (Opens.opens_int Try.underlying3) (Opens.opensF_one rfl (by kernel_rfl) (Opens.opens_int Try.underlying3)))))
          (Opens.opensF_cons rfl (by kernel_rfl) (Opens.opens_slice Try.underlying26 (by kernel_rfl) (Opens.opens_struct (fun x : S54 => (x.f0, x.f1, x.f2)) (fun y => (⟨y.1, y.2.1, y.2.2⟩ : S54)) (fun _ => rfl) Try.underlying54 (by kernel_rfl) (Opens.opensF_cons rfl (by kernel_rfl) (Opens.opens_int Try.underlying3) (Opens.opensF_cons rfl (by kernel_rfl) (Opens.opens_int Try.underlying3) (Opens.opensF_one rfl (by kernel_rfl) (Opens.opens_int Try.underlying3))))))
            (Opens.opensF_one rfl (by kernel_rfl) (Opens.opens_int Try.underlying3))))))).imp (fun _ _ => trivial)
end Go.Proofs.Ytebifddfgimnlaa.Rl
end
