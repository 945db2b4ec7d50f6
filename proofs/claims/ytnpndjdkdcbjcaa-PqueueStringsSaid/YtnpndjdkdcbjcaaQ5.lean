/- New, Len, Peek. -/
import Derived.Test.YtnpndjdkdcbjcaaQ4
namespace Go.Proofs.Ytnpndjdkdcbjcaa.Pq
open Go.RowKit Go.Proofs.Ytnpndjdkdcbjcaa.PX Go.Proofs.YtnpndjdkdcbjcaaW.PrintWords Go.Proofs.YtnpndjdkdcbjcaaW.PrintLast Go.Proofs.YtnpndjdkdcbjcaaW.PrintMore
set_option linter.unusedVariables false
set_option linter.unusedSimpArgs false
theorem eqlF (K : Nat) (w : World) : (binOp .eql 28 (.func (.func K) #[] #[]) .nilFunc).run Try.prog w = .ok (.bool false) w := by kernel_rfl
set_option maxHeartbeats 400000 in
theorem new_calls (K : Nat) (w : World) :
    Calls Try.prog 11 #[.func (.func K) #[] #[]] w fun e w' => ∃ g, e = .returned (.pointer (some ⟨g, 0, none⟩)) ∧ QI 60 62 kI w' w.heap.size g (fun k => w.heap.size ≤ k) K [] 0 ∧ Below w.heap.size w w' := by
  have HB := Aside0.mk (Below.refl w.heap.size w)
  have q28 := eqlF
  go_enter Try.func11, Try.ntmps11
  go_wp2_with (first | ((with_reducible refine gate_dst (N := 7) rfl ?_); go_must (refine box_event ?hg (N := 7) ?hd (cs := #[.func (.func K) #[] #[], .slice none 0 0, .int .i64 0]) (t := 60) ?hr ?_; (case hd => rfl); (case hg => rfl); (case hr => first | (go_simp; done) | (go_simp; rfl)); intro g hg w1 hbox hb; have BK := Aside0.mk hbox; have HG := Aside0.mk hg; have HB1 := Aside0.mk (below_step HB.out hb); clear hbox hb hg HB)))
  go_ret
  exact ⟨g, rfl, ⟨⟨Nat.le_of_eq HG.out.symm, Nat.le_of_eq HG.out.symm⟩, by simp, .slice none 0 0, BK.out, Kd.R_nil _ _ _ _ _⟩, HB1.out⟩
theorem eqlN (w : World) : (binOp .eql 28 .nilFunc .nilFunc).run Try.prog w = .ok (.bool true) w := by kernel_rfl
theorem new_nil (w : World) : Calls Try.prog 11 #[.nilFunc] w fun e w' => e = .returned (.pointer none) ∧ w' = w := by
  have q28 := eqlN
  go_enter Try.func11, Try.ntmps11
  go_wp2
  go_ret
  exact ⟨rfl, rfl⟩
set_option maxHeartbeats 400000 in
theorem len_calls (B g : Nat) (F : Nat → Prop) (K : Nat) (h : List (S27 × Int)) (num : Int) (w : World) (hQ : QI 60 62 kI w B g F K h num) :
    Calls Try.prog 19 #[.pointer (some ⟨g, 0, none⟩)] w fun e w' => e = .returned (.int .i64 h.length) ∧ w' = w := by
  obtain ⟨A, c, hg, _, _⟩ := hQ.row
  have f1 : w.cell? ⟨g, 1, none⟩ = some (.slice A h.length c) := (blk_cell hg 1).trans rfl
  clear hQ hg
  go_enter Try.func19, Try.ntmps19
  go_wp2
  go_ret
  exact ⟨rfl, rfl⟩
theorem len_nil (w : World) : Calls Try.prog 19 #[.pointer none] w fun e w' => e = .returned (.int .i64 0) ∧ w' = w := by
  go_enter Try.func19, Try.ntmps19
  go_wp2
  go_ret
  exact ⟨rfl, rfl⟩
set_option maxHeartbeats 1000000 in
theorem peek_calls (B g : Nat) (F : Nat → Prop) (K : Nat) (h : List (S27 × Int)) (num : Int) (w : World) (hQ : QI 60 62 kI w B g F K h num) (h0 : 0 < h.length) :
    Calls Try.prog 17 #[.pointer (some ⟨g, 0, none⟩)] w fun e w' => e = .returned (.tuple #[.agg #[.int .i64 (h.getD 0 zI).1.f0, .int .i64 (h.getD 0 zI).1.f1], .bool true]) ∧ Below w.heap.size w w' := by
  have HQ := Aside0.mk hQ
  have HB := Aside0.mk (Below.refl w.heap.size w)
  have H0 := Aside0.mk h0
  have d1 : ((h.length : Int) == 0) = false := by rw [beq_eq_false_iff_ne]; omega
  have p1 := eq_true (show (0 : Int) < (h.length : Int) from by omega)
  have p2 := eq_true h0
  obtain ⟨x, hx⟩ : ∃ x, h.getD 0 zI = x := ⟨_, rfl⟩
  rw [hx]
  have HX := Aside0.mk (show atI h 0 = x from hx)
  clear hQ h0 hx
  go_enter Try.func17, Try.ntmps17
  go_wp2_with (first
    | ((with_reducible refine gate_dst (N := 2) rfl ?_); go_must (refine box_event ?hg (N := 2) ?hd (cs := #[.int .i64 0, .int .i64 0]) (t := 27) ?hr ?_; (case hd => rfl); (case hg => rfl); (case hr => first | (go_simp; done) | (go_simp; rfl)); intro g2 hg w1 hbox hb; have B2 := Aside0.mk hbox; have GE2 := Aside0.mk (show w.heap.size ≤ g2 from Nat.le_of_eq hg.symm); have HQ1 := Aside0.mk (HQ.out.below hb); have HB1 := Aside0.mk (below_step HB.out hb); clear hbox hb hg HB HQ; have HQ := HQ1; have HB := HB1; clear HQ1 HB1))
    | ((with_reducible refine gate_dst (N := 4) rfl ?_); go_must (refine box_event ?hg (N := 4) ?hd (cs := #[.int .i64 0, .int .i64 0]) (t := 27) ?hr ?_; (case hd => rfl); (case hg => rfl); (case hr => first | (go_simp; done) | (go_simp; rfl)); intro g4 hg w2 hbox hb; have B22 := Aside0.mk (blk_below B2.out hb); have HQ1 := Aside0.mk (HQ.out.below hb); have HB1 := Aside0.mk (below_step HB.out hb); clear hbox hb hg HB HQ B2; have HQ := HQ1; have HB := HB1; clear HQ1 HB1; obtain ⟨_, _, v_, hg_, hR_⟩ := HQ.out; obtain ⟨gr, cap, rfl, _, _, _⟩ := Kd.R_form hR_ H0.out; obtain ⟨a0, a1, a2, _⟩ := cells_I hR_ 0 H0.out; rw [HX.out] at a0 a1 a2; have e0 : w2.cell? ⟨g2, 0, none⟩ = some (.int .i64 0) := (blk_cell B22.out 0).trans rfl; have e1 : w2.cell? ⟨g2, 1, none⟩ = some (.int .i64 0) := (blk_cell B22.out 1).trans rfl; have e2 := blk_frozen B22.out 0; have e3 := blk_frozen B22.out 1; have f1 : w2.cell? ⟨g, 1, none⟩ = some (.slice (some ⟨gr, 0, none⟩) h.length cap) := (blk_cell hg_ 1).trans rfl; clear hg_ hR_)))
  have HBF := Aside0.mk (show Below w.heap.size w ((w2.setCell ⟨g2, 0, none⟩ (.int .i64 x.1.f0)).setCell ⟨g2, 1, none⟩ (.int .i64 x.1.f1)) from (HB.out.setCell GE2.out _).setCell GE2.out _)
  have BF := blk_put (blk_put B22.out 0 (.int .i64 x.1.f0) rfl) 1 (.int .i64 x.1.f1) rfl
  have r0 := (blk_cell BF 0).trans rfl
  have r1 := (blk_cell BF 1).trans rfl
  clear a0 a1 a2 e0 e1 e2 e3 f1 d1 p1 p2 BF
  exact bodyPost_ret (v := .tuple #[.agg #[.int .i64 x.1.f0, .int .i64 x.1.f1], .bool true]) (by simp [results, Try.results17, go_sem, r0, r1]) rfl ⟨rfl, HBF.out⟩
end Go.Proofs.Ytnpndjdkdcbjcaa.Pq
