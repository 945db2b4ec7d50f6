/- The reference's Peek; the empty one. -/
import Derived.Test.YtnpndjdkdcbjcaaR3
namespace Go.Proofs.Ytnpndjdkdcbjcaa.Pq
open Go.RowKit Go.Proofs.Ytnpndjdkdcbjcaa.PX Go.Proofs.YtnpndjdkdcbjcaaW.PrintWords Go.Proofs.YtnpndjdkdcbjcaaW.PrintLast Go.Proofs.YtnpndjdkdcbjcaaW.PrintMore
set_option linter.unusedVariables false
set_option linter.unusedSimpArgs false
set_option maxHeartbeats 1000000 in
theorem rpop_none (B g : Nat) (F : Nat → Prop) (mode : Int) (w : World) (hQ : RQ w B g F mode []) :
    Calls Try.prog 16 #[.pointer (some ⟨g, 0, none⟩)] w fun e w' => e = .returned (.tuple #[.agg #[.int .i64 0, .int .i64 0], .bool false]) ∧ Below w.heap.size w w' := by
  have HQ := Aside0.mk hQ
  have HBT := Aside0.mk (Below.refl w.heap.size w)
  clear hQ
  go_enter Try.func16, Try.ntmps16
  go_wp2_with (first | ((with_reducible refine gate_dst (N := 2) rfl ?_); go_must (refine box_event ?hg (N := 2) ?hd (cs := #[.int .i64 0, .int .i64 0]) (t := 27) ?hr ?_; (case hd => rfl); (case hg => rfl); (case hr => first | (go_simp; done) | (go_simp; rfl)); intro g2 hg w1 hbox hb; have GE2 := Aside0.mk (show w.heap.size ≤ g2 from by rw [hg]; exact Nat.le_refl _); have BK2 := Aside0.mk hbox; have k0 : w1.cell? ⟨g2, 0, none⟩ = some (.int .i64 0) := (blk_cell hbox 0).trans rfl; have k1 : w1.cell? ⟨g2, 1, none⟩ = some (.int .i64 0) := (blk_cell hbox 1).trans rfl; have k2 := blk_frozen hbox 0; have k3 := blk_frozen hbox 1; have nHQ := Aside0.mk (HQ.out.below hb); have nHBT := Aside0.mk (below_step HBT.out hb); clear HQ HBT hbox hb hg; have HQ := nHQ; have HBT := nHBT; clear nHQ nHBT; obtain ⟨_, _, A', c', hg, hc, hFF⟩ := HQ.out; have e1 : w1.cell? ⟨g, 1, none⟩ = some (.slice A' 0 c') := (blk_cell hg 1).trans rfl; clear hg hc hFF)))
  have HBF := Aside0.mk (show Below w.heap.size w ((w1.setCell ⟨g2, 0, none⟩ (.int .i64 0)).setCell ⟨g2, 1, none⟩ (.int .i64 0)) from (HBT.out.setCell GE2.out _).setCell GE2.out _)
  have BF := put_two (x := .int .i64 0) (y := .int .i64 0) BK2.out
  have r0 := (blk_cell BF 0).trans rfl
  have r1 := (blk_cell BF 1).trans rfl
  clear k0 k1 k2 k3 e1 BF
  exact bodyPost_ret (v := .tuple #[.agg #[.int .i64 0, .int .i64 0], .bool false]) (by simp [results, Try.results16, go_sem, r0, r1]) rfl ⟨rfl, HBF.out⟩
set_option maxHeartbeats 1000000 in
theorem rpeek_none (B g : Nat) (F : Nat → Prop) (mode : Int) (w : World) (hQ : RQ w B g F mode []) :
    Calls Try.prog 18 #[.pointer (some ⟨g, 0, none⟩)] w fun e w' => e = .returned (.tuple #[.agg #[.int .i64 0, .int .i64 0], .bool false]) ∧ Below w.heap.size w w' := by
  have HQ := Aside0.mk hQ
  have HBT := Aside0.mk (Below.refl w.heap.size w)
  clear hQ
  go_enter Try.func18, Try.ntmps18
  go_wp2_with (first | ((with_reducible refine gate_dst (N := 2) rfl ?_); go_must (refine box_event ?hg (N := 2) ?hd (cs := #[.int .i64 0, .int .i64 0]) (t := 27) ?hr ?_; (case hd => rfl); (case hg => rfl); (case hr => first | (go_simp; done) | (go_simp; rfl)); intro g2 hg w1 hbox hb; have GE2 := Aside0.mk (show w.heap.size ≤ g2 from by rw [hg]; exact Nat.le_refl _); have BK2 := Aside0.mk hbox; have k0 : w1.cell? ⟨g2, 0, none⟩ = some (.int .i64 0) := (blk_cell hbox 0).trans rfl; have k1 : w1.cell? ⟨g2, 1, none⟩ = some (.int .i64 0) := (blk_cell hbox 1).trans rfl; have k2 := blk_frozen hbox 0; have k3 := blk_frozen hbox 1; have nHQ := Aside0.mk (HQ.out.below hb); have nHBT := Aside0.mk (below_step HBT.out hb); clear HQ HBT hbox hb hg; have HQ := nHQ; have HBT := nHBT; clear nHQ nHBT; obtain ⟨_, _, A', c', hg, hc, hFF⟩ := HQ.out; have e1 : w1.cell? ⟨g, 1, none⟩ = some (.slice A' 0 c') := (blk_cell hg 1).trans rfl; clear hg hc hFF)))
  have HBF := Aside0.mk (show Below w.heap.size w ((w1.setCell ⟨g2, 0, none⟩ (.int .i64 0)).setCell ⟨g2, 1, none⟩ (.int .i64 0)) from (HBT.out.setCell GE2.out _).setCell GE2.out _)
  have BF := put_two (x := .int .i64 0) (y := .int .i64 0) BK2.out
  have r0 := (blk_cell BF 0).trans rfl
  have r1 := (blk_cell BF 1).trans rfl
  clear k0 k1 k2 k3 e1 BF
  exact bodyPost_ret (v := .tuple #[.agg #[.int .i64 0, .int .i64 0], .bool false]) (by simp [results, Try.results18, go_sem, r0, r1]) rfl ⟨rfl, HBF.out⟩
set_option maxHeartbeats 4000000 in
theorem rpeek_calls (B g : Nat) (F : Nat → Prop) (mode : Int) (L : List S27) (w : World) (hQ : RQ w B g F mode L) (h0 : 0 < L.length) :
    Calls Try.prog 18 #[.pointer (some ⟨g, 0, none⟩)] w fun e w' => e = .returned (.tuple #[.agg #[.int .i64 (L.getD (firstI (ltM mode) z27 L) z27).f0, .int .i64 (L.getD (firstI (ltM mode) z27 L) z27).f1], .bool true]) ∧ Below w.heap.size w w' := by
  have HQ := Aside0.mk hQ
  have HBT := Aside0.mk (Below.refl w.heap.size w)
  obtain ⟨i, hi⟩ : ∃ i, firstI (ltM mode) z27 L = i := ⟨_, rfl⟩
  have HI := Aside0.mk hi
  have HIL := Aside0.mk (show i < L.length from hi ▸ firstI_lt _ (swo_ltM mode) L h0)
  rw [hi]
  obtain ⟨x, hx⟩ : ∃ x, L.getD i z27 = x := ⟨_, rfl⟩
  rw [hx]
  have HX := Aside0.mk hx
  have d0 : ((L.length : Int) == 0) = false := by rw [beq_eq_false_iff_ne]; omega
  have p1 := eq_true (show (i : Int) < (L.length : Int) from by have := HIL.out; omega)
  have p2 := eq_true HIL.out
  clear hQ hi hx h0
  go_enter Try.func18, Try.ntmps18
  go_upto_region 3 with (first | ((with_reducible refine gate_dst (N := 2) rfl ?_); go_must (refine box_event ?hg (N := 2) ?hd (cs := #[.int .i64 0, .int .i64 0]) (t := 27) ?hr ?_; (case hd => rfl); (case hg => rfl); (case hr => first | (go_simp; done) | (go_simp; rfl)); intro g2 hg w1 hbox hb; have GE2 := Aside0.mk (show w.heap.size ≤ g2 from by rw [hg]; exact Nat.le_refl _); have BK2 := Aside0.mk hbox; have k0 : w1.cell? ⟨g2, 0, none⟩ = some (.int .i64 0) := (blk_cell hbox 0).trans rfl; have k1 : w1.cell? ⟨g2, 1, none⟩ = some (.int .i64 0) := (blk_cell hbox 1).trans rfl; have k2 := blk_frozen hbox 0; have k3 := blk_frozen hbox 1; have nHQ := Aside0.mk (HQ.out.below hb); have nHBT := Aside0.mk (below_step HBT.out hb); clear HQ HBT hbox hb hg; have HQ := nHQ; have HBT := nHBT; clear nHQ nHBT; obtain ⟨_, _, A', c', hg, hc, hFF⟩ := HQ.out; obtain ⟨ad, rfl, _, _⟩ := row_at (Kd.F_now hFF) i HIL.out; have e1 : w1.cell? ⟨g, 1, none⟩ = some (.slice (some ad) L.length c') := (blk_cell hg 1).trans rfl; have HFF := Aside0.mk hFF; have HGB := Aside0.mk hg; clear hg hc hFF)))
  go_region_with (go_at_call 37; (refine (first_calls B g F mode L _ (HQ.out.below (Below.refl _ _).drew)).mono ?_); (rw [HI.out]; rintro e w2 ⟨rfl, hb⟩; have nBK2 := Aside0.mk (blk_below BK2.out (below_step (Below.refl w1.heap.size w1).drew hb)); have nHQ := Aside0.mk ((HQ.out.below (Below.refl _ _).drew).below hb); have nHBT := Aside0.mk (below_step HBT.out.drew hb); have HF2 := Aside0.mk (Kd.F_below (Kd.F_drew HFF.out) hb); have HG2 := Aside0.mk (blk_below HGB.out (below_step (Below.refl w1.heap.size w1).drew hb)); clear HQ HBT BK2 hb k0 k1 k2 k3 e1; have HQ := nHQ; have HBT := nHBT; have BK2 := nBK2; clear nHQ nHBT nBK2; obtain ⟨ad', hae, e2, e3⟩ := row_at (Kd.F_now HF2.out) i HIL.out; cases hae; rw [HX.out] at e2 e3; have e1 : w2.cell? ⟨g, 1, none⟩ = some (.slice (some ad) L.length c') := (blk_cell HG2.out 1).trans rfl; have k0 : w2.cell? ⟨g2, 0, none⟩ = some (.int .i64 0) := (blk_cell BK2.out 0).trans rfl; have k1 : w2.cell? ⟨g2, 1, none⟩ = some (.int .i64 0) := (blk_cell BK2.out 1).trans rfl; have k2 := blk_frozen BK2.out 0; have k3 := blk_frozen BK2.out 1; skip))
  all_goals
    go_wp2
    have HBF := Aside0.mk (show Below w.heap.size w ((w2.setCell ⟨g2, 0, none⟩ (.int .i64 x.f0)).setCell ⟨g2, 1, none⟩ (.int .i64 x.f1)) from (HBT.out.setCell GE2.out _).setCell GE2.out _)
    have BF := put_two (x := .int .i64 x.f0) (y := .int .i64 x.f1) BK2.out
    have r0 := (blk_cell BF 0).trans rfl
    have r1 := (blk_cell BF 1).trans rfl
    clear k0 k1 k2 k3 e1 e2 e3 BF
    exact bodyPost_ret (v := .tuple #[.agg #[.int .i64 x.f0, .int .i64 x.f1], .bool true]) (by simp [results, Try.results18, go_sem, r0, r1]) rfl ⟨rfl, HBF.out⟩
end Go.Proofs.Ytnpndjdkdcbjcaa.Pq
