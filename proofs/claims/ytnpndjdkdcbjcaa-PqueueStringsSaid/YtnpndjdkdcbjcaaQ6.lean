/- Pop; what Peek and Pop answer where there is nothing. -/
import Derived.Test.YtnpndjdkdcbjcaaQ5
namespace Go.Proofs.Ytnpndjdkdcbjcaa.Pq
open Go.RowKit Go.Proofs.Ytnpndjdkdcbjcaa.PX Go.Proofs.YtnpndjdkdcbjcaaW.PrintWords Go.Proofs.YtnpndjdkdcbjcaaW.PrintLast Go.Proofs.YtnpndjdkdcbjcaaW.PrintMore
set_option linter.unusedVariables false
set_option linter.unusedSimpArgs false
theorem put_two {w : World} {g t : Nat} {a b x y : Value} (h : w.heap[g]? = some (.cells #[a, b] t (0, 0))) : ((w.setCell ⟨g, 0, none⟩ x).setCell ⟨g, 1, none⟩ y).heap[g]? = some (.cells #[x, y] t (0, 0)) := blk_put (blk_put h 0 x rfl) 1 y rfl
set_option maxHeartbeats 1000000 in
theorem peek_none (B g : Nat) (F : Nat → Prop) (K : Nat) (num : Int) (w : World) (hQ : QI 60 62 kI w B g F K [] num) :
    Calls Try.prog 17 #[.pointer (some ⟨g, 0, none⟩)] w fun e w' => e = .returned (.tuple #[.agg #[.int .i64 0, .int .i64 0], .bool false]) ∧ Below w.heap.size w w' := by
  have HQ := Aside0.mk hQ
  have HB := Aside0.mk (Below.refl w.heap.size w)
  clear hQ
  go_enter Try.func17, Try.ntmps17
  go_wp2_with (first
    | ((with_reducible refine gate_dst (N := 2) rfl ?_); go_must (refine box_event ?hg (N := 2) ?hd (cs := #[.int .i64 0, .int .i64 0]) (t := 27) ?hr ?_; (case hd => rfl); (case hg => rfl); (case hr => first | (go_simp; done) | (go_simp; rfl)); intro g2 hg w1 hbox hb; have B2 := Aside0.mk hbox; have GE2 := Aside0.mk (show w.heap.size ≤ g2 from Nat.le_of_eq hg.symm); have HQ1 := Aside0.mk (HQ.out.below hb); have HB1 := Aside0.mk (below_step HB.out hb); clear hbox hb hg HB HQ; have HQ := HQ1; have HB := HB1; clear HQ1 HB1))
    | ((with_reducible refine gate_dst (N := 4) rfl ?_); go_must (refine box_event ?hg (N := 4) ?hd (cs := #[.int .i64 0, .int .i64 0]) (t := 27) ?hr ?_; (case hd => rfl); (case hg => rfl); (case hr => first | (go_simp; done) | (go_simp; rfl)); intro g4 hg w2 hbox hb; have B22 := Aside0.mk (blk_below B2.out hb); have HQ1 := Aside0.mk (HQ.out.below hb); have HB1 := Aside0.mk (below_step HB.out hb); have k0 : w2.cell? ⟨g4, 0, none⟩ = some (.int .i64 0) := (blk_cell hbox 0).trans rfl; have k1 : w2.cell? ⟨g4, 1, none⟩ = some (.int .i64 0) := (blk_cell hbox 1).trans rfl; clear hbox hb hg HB HQ B2; have HQ := HQ1; have HB := HB1; clear HQ1 HB1; obtain ⟨A, c, hg_, _, _⟩ := HQ.out.row; have e0 : w2.cell? ⟨g2, 0, none⟩ = some (.int .i64 0) := (blk_cell B22.out 0).trans rfl; have e1 : w2.cell? ⟨g2, 1, none⟩ = some (.int .i64 0) := (blk_cell B22.out 1).trans rfl; have e2 := blk_frozen B22.out 0; have e3 := blk_frozen B22.out 1; have f1 : w2.cell? ⟨g, 1, none⟩ = some (.slice A 0 c) := (blk_cell hg_ 1).trans rfl; clear hg_)))
  have HBF := Aside0.mk (show Below w.heap.size w ((w2.setCell ⟨g2, 0, none⟩ (.int .i64 0)).setCell ⟨g2, 1, none⟩ (.int .i64 0)) from (HB.out.setCell GE2.out _).setCell GE2.out _)
  have BF := put_two (x := .int .i64 0) (y := .int .i64 0) B22.out
  have r0 := (blk_cell BF 0).trans rfl
  have r1 := (blk_cell BF 1).trans rfl
  clear e0 e1 e2 e3 f1 k0 k1 BF
  exact bodyPost_ret (v := .tuple #[.agg #[.int .i64 0, .int .i64 0], .bool false]) (by simp [results, Try.results17, go_sem, r0, r1]) rfl ⟨rfl, HBF.out⟩
set_option maxHeartbeats 1000000 in
theorem peek_nil (w : World) :
    Calls Try.prog 17 #[.pointer none] w fun e w' => e = .returned (.tuple #[.agg #[.int .i64 0, .int .i64 0], .bool false]) ∧ Below w.heap.size w w' := by
  have HB := Aside0.mk (Below.refl w.heap.size w)
  go_enter Try.func17, Try.ntmps17
  go_wp2_with (first
    | ((with_reducible refine gate_dst (N := 2) rfl ?_); go_must (refine box_event ?hg (N := 2) ?hd (cs := #[.int .i64 0, .int .i64 0]) (t := 27) ?hr ?_; (case hd => rfl); (case hg => rfl); (case hr => first | (go_simp; done) | (go_simp; rfl)); intro g2 hg w1 hbox hb; have B2 := Aside0.mk hbox; have GE2 := Aside0.mk (show w.heap.size ≤ g2 from Nat.le_of_eq hg.symm); have HB1 := Aside0.mk (below_step HB.out hb); clear hbox hb hg HB; have HB := HB1; clear HB1))
    | ((with_reducible refine gate_dst (N := 4) rfl ?_); go_must (refine box_event ?hg (N := 4) ?hd (cs := #[.int .i64 0, .int .i64 0]) (t := 27) ?hr ?_; (case hd => rfl); (case hg => rfl); (case hr => first | (go_simp; done) | (go_simp; rfl)); intro g4 hg w2 hbox hb; have B22 := Aside0.mk (blk_below B2.out hb); have HB1 := Aside0.mk (below_step HB.out hb); have k0 : w2.cell? ⟨g4, 0, none⟩ = some (.int .i64 0) := (blk_cell hbox 0).trans rfl; have k1 : w2.cell? ⟨g4, 1, none⟩ = some (.int .i64 0) := (blk_cell hbox 1).trans rfl; clear hbox hb hg HB B2; have HB := HB1; clear HB1; have e0 : w2.cell? ⟨g2, 0, none⟩ = some (.int .i64 0) := (blk_cell B22.out 0).trans rfl; have e1 : w2.cell? ⟨g2, 1, none⟩ = some (.int .i64 0) := (blk_cell B22.out 1).trans rfl; have e2 := blk_frozen B22.out 0; have e3 := blk_frozen B22.out 1)))
  have HBF := Aside0.mk (show Below w.heap.size w ((w2.setCell ⟨g2, 0, none⟩ (.int .i64 0)).setCell ⟨g2, 1, none⟩ (.int .i64 0)) from (HB.out.setCell GE2.out _).setCell GE2.out _)
  have BF := put_two (x := .int .i64 0) (y := .int .i64 0) B22.out
  have r0 := (blk_cell BF 0).trans rfl
  have r1 := (blk_cell BF 1).trans rfl
  clear e0 e1 e2 e3 k0 k1 BF
  exact bodyPost_ret (v := .tuple #[.agg #[.int .i64 0, .int .i64 0], .bool false]) (by simp [results, Try.results17, go_sem, r0, r1]) rfl ⟨rfl, HBF.out⟩
set_option maxHeartbeats 1000000 in
/-- Pop where Peek answers nothing. -/
theorem pop_of (p : Option Addr) (w : World) (hp : ∀ w1, Below w.heap.size w w1 → Calls Try.prog 17 #[.pointer p] w1 fun e w' => e = .returned (.tuple #[.agg #[.int .i64 0, .int .i64 0], .bool false]) ∧ Below w1.heap.size w1 w') :
    Calls Try.prog 15 #[.pointer p] w fun e w' => e = .returned (.tuple #[.agg #[.int .i64 0, .int .i64 0], .bool false]) ∧ Below w.heap.size w w' := by
  have HPK := Aside0.mk hp
  have HB := Aside0.mk (Below.refl w.heap.size w)
  clear hp
  go_enter Try.func15, Try.ntmps15
  go_wp2_with (first
    | ((with_reducible refine gate_dst (N := 2) rfl ?_); go_must (refine box_event ?hg (N := 2) ?hd (cs := #[.int .i64 0, .int .i64 0]) (t := 27) ?hr ?_; (case hd => rfl); (case hg => rfl); (case hr => first | (go_simp; done) | (go_simp; rfl)); intro g2 hg w1 hbox hb; have B2 := Aside0.mk hbox; have GE2 := Aside0.mk (show w.heap.size ≤ g2 from Nat.le_of_eq hg.symm); have HB1 := Aside0.mk (below_step HB.out hb); clear hbox hb hg HB; have HB := HB1; clear HB1))
    | (go_at_call 17; (with_reducible refine (HPK.out _ HB.out).mono ?_); go_must (rintro e w2 ⟨rfl, hb⟩; have B22 := Aside0.mk (blk_below B2.out hb); have HB1 := Aside0.mk (below_step HB.out hb); clear HB B2 hb; have HB := HB1; clear HB1))
    | ((with_reducible refine gate_dst (N := 4) rfl ?_); go_must (refine box_event ?hg (N := 4) ?hd (cs := #[.int .i64 0, .int .i64 0]) (t := 27) ?hr ?_; (case hd => rfl); (case hg => rfl); (case hr => first | (go_simp; done) | (go_simp; rfl)); intro g4 hg w3 hbox hb; have B23 := Aside0.mk (blk_below B22.out hb); have NE := Aside0.mk (show g2 ≠ g4 from fun e => absurd (blk_lt B22.out) (by omega)); have GE4 := Aside0.mk (show w.heap.size ≤ g4 from Nat.le_trans HB.out.size (Nat.le_of_eq hg.symm)); have HB1 := Aside0.mk (below_step HB.out hb); have B4 := Aside0.mk hbox; have k0 : w3.cell? ⟨g4, 0, none⟩ = some (.int .i64 0) := (blk_cell hbox 0).trans rfl; have k1 : w3.cell? ⟨g4, 1, none⟩ = some (.int .i64 0) := (blk_cell hbox 1).trans rfl; have k2 := blk_frozen hbox 0; have k3 := blk_frozen hbox 1; clear hbox hb hg HB B22; have HB := HB1; clear HB1; have e0 : w3.cell? ⟨g2, 0, none⟩ = some (.int .i64 0) := (blk_cell B23.out 0).trans rfl; have e1 : w3.cell? ⟨g2, 1, none⟩ = some (.int .i64 0) := (blk_cell B23.out 1).trans rfl; have e2 := blk_frozen B23.out 0; have e3 := blk_frozen B23.out 1; have x1 := NE.out; have x2 : g4 ≠ g2 := fun e => NE.out e.symm)))
  have HBF := Aside0.mk (show Below w.heap.size w ((((w3.setCell ⟨g4, 0, none⟩ (.int .i64 0)).setCell ⟨g4, 1, none⟩ (.int .i64 0)).setCell ⟨g2, 0, none⟩ (.int .i64 0)).setCell ⟨g2, 1, none⟩ (.int .i64 0)) from (((HB.out.setCell GE4.out _).setCell GE4.out _).setCell GE2.out _).setCell GE2.out _)
  have BF := put_two (x := .int .i64 0) (y := .int .i64 0) (blk_far (blk_far B23.out (p := ⟨g4, 0, none⟩) x1 (.int .i64 0)) (p := ⟨g4, 1, none⟩) x1 (.int .i64 0))
  have r0 := (blk_cell BF 0).trans rfl
  have r1 := (blk_cell BF 1).trans rfl
  clear e0 e1 e2 e3 k0 k1 k2 k3 BF
  exact bodyPost_ret (v := .tuple #[.agg #[.int .i64 0, .int .i64 0], .bool false]) (by simp [results, Try.results15, go_sem, r0, r1]) rfl ⟨rfl, HBF.out⟩
theorem pop_none (B g : Nat) (F : Nat → Prop) (K : Nat) (num : Int) (w : World) (hQ : QI 60 62 kI w B g F K [] num) :
    Calls Try.prog 15 #[.pointer (some ⟨g, 0, none⟩)] w fun e w' => e = .returned (.tuple #[.agg #[.int .i64 0, .int .i64 0], .bool false]) ∧ Below w.heap.size w w' :=
  pop_of _ w (fun w1 hb => peek_none B g F K num w1 (hQ.below hb))
theorem pop_nil (w : World) : Calls Try.prog 15 #[.pointer none] w fun e w' => e = .returned (.tuple #[.agg #[.int .i64 0, .int .i64 0], .bool false]) ∧ Below w.heap.size w w' := pop_of _ w (fun w1 _ => peek_nil w1)
theorem QI.cut {w : World} {B g K : Nat} {F : Nat → Prop} {h : List (S27 × Int)} {num : Int} {A : Option Addr} {c : Nat} (q : QI 60 62 kI w B g F K h num) (hg : w.heap[g]? = some (.cells #[.func (.func K) #[] #[], .slice A h.length c, .int .i64 num] 60 (0, 0))) (m : Nat) (hm : m ≤ h.length) :
    QI 60 62 kI (w.setCell ⟨g, 1, none⟩ (.slice A m c)) B g F K (h.take m) num := by
  obtain ⟨hb, hl, v, hg', hR⟩ := q
  have hv : v = .slice A h.length c := by rw [hg] at hg'; injection hg' with hg'; injection hg' with hg'; injection hg' with hg'; injection hg' with _ hg'; injection hg' with hg' _; exact hg'.symm
  subst hv
  exact ⟨hb, by rw [List.length_take]; omega, .slice A m c, blk_put hg 1 _ rfl, Kd.R_far (Kd.R_take hR hm) (fun k hk e => hk.1 e) _⟩
theorem swap_zero (B g : Nat) (F : Nat → Prop) (K : Nat) (h : List (S27 × Int)) (num : Int) (k : Nat) (w : World) (hQ : QI 60 62 kI w B g F K h num) (hk : k < h.length) :
    Calls Try.prog 35 #[.pointer (some ⟨g, 0, none⟩), .int .i64 0, .int .i64 (k : Int)] w fun e w' => e = .returned (.tuple #[]) ∧ QI 60 62 kI w' B g F K (swp zI h 0 k) num ∧ Keeps F w w' ∧ Below B w w' := swap_calls' B g F K h num 0 k w hQ (by omega) hk
set_option maxHeartbeats 2000000 in
set_option maxRecDepth 100000 in
theorem pop_calls (B g : Nat) (F : Nat → Prop) (K : Nat) (lt : S27 → S27 → Bool) (HLE : LessI K lt) (h : List (S27 × Int)) (num : Int) (w : World) (hQ : QI 60 62 kI w B g F K h num) (h0 : 0 < h.length) :
    Calls Try.prog 15 #[.pointer (some ⟨g, 0, none⟩)] w fun e w' => e = .returned (.tuple #[.agg #[.int .i64 (h.getD 0 zI).1.f0, .int .i64 (h.getD 0 zI).1.f1], .bool true]) ∧ QI 60 62 kI w' B g F K (popS (bI lt) zI h) num ∧ Below B w w' ∧ Keeps F w w' := by
  have HQ := Aside0.mk (hQ.narrow (F' := fun k => F k ∧ k < w.heap.size) (fun k hk hf => ⟨hf, hk⟩))
  have HSZ := Aside0.mk (show B ≤ w.heap.size from Nat.le_trans hQ.lt.2 (Nat.le_of_lt hQ.lt.1))
  have HB := Aside0.mk (Below.refl w.heap.size w)
  have H0 := Aside0.mk h0
  obtain ⟨x, hx⟩ : ∃ x, (h.getD 0 zI).1 = x := ⟨_, rfl⟩
  rw [hx]
  have HX := Aside0.mk hx
  obtain ⟨m, hm⟩ : ∃ m, h.length - 1 = m := ⟨_, rfl⟩
  have HM := Aside0.mk (show h.length = m + 1 ∧ h.length ≤ 1000 from ⟨by omega, hQ.2.1⟩)
  have l1 : wrap64 ((h.length : Int) - 1) = (m : Int) := by have := HM.out; unfold wrap64; omega
  have l2 : IntKind.i64.wrap ((h.length : Int) - 1) = (m : Int) := by have := HM.out; rw [IntKind.wrap_i64]; omega
  clear hm
  clear hQ h0 hx
  go_enter Try.func15, Try.ntmps15
  go_wp2_with (first
    | ((with_reducible refine gate_dst (N := 2) rfl ?_); go_must (refine box_event ?hg (N := 2) ?hd (cs := #[.int .i64 0, .int .i64 0]) (t := 27) ?hr ?_; (case hd => rfl); (case hg => rfl); (case hr => first | (go_simp; done) | (go_simp; rfl)); intro g2 hg w1 hbox hb; have B2 := Aside0.mk hbox; have GE2 := Aside0.mk (show w.heap.size ≤ g2 from Nat.le_of_eq hg.symm); have HQ1 := Aside0.mk (HQ.out.below hb); have HB1 := Aside0.mk (below_step HB.out hb); clear hbox hb hg HB HQ; have HB := HB1; have HQ := HQ1; clear HB1 HQ1))
    | (go_at_call 17; go_must (refine (peek_calls B g _ K h num _ HQ.out H0.out).mono ?_; rw [HX.out]; rintro e w2 ⟨rfl, hb⟩; have B22 := Aside0.mk (blk_below B2.out hb); have HQ1 := Aside0.mk (HQ.out.below hb); have HB1 := Aside0.mk (below_step HB.out hb); clear HB B2 hb HQ; have HB := HB1; have HQ := HQ1; clear HB1 HQ1))
    | ((with_reducible refine gate_dst (N := 4) rfl ?_); go_must (refine box_event ?hg (N := 4) ?hd (cs := #[.int .i64 0, .int .i64 0]) (t := 27) ?hr ?_; (case hd => rfl); (case hg => rfl); (case hr => first | (go_simp; done) | (go_simp; rfl)); intro g4 hg w3 hbox hb; have B23 := Aside0.mk (blk_below B22.out hb); have NE := Aside0.mk (show g2 ≠ g4 from fun e => absurd (blk_lt B22.out) (by omega)); have GE4 := Aside0.mk (show w.heap.size ≤ g4 from Nat.le_trans HB.out.size (Nat.le_of_eq hg.symm)); have HQ1 := Aside0.mk (HQ.out.below hb); have HB1 := Aside0.mk (below_step HB.out hb); have B4 := Aside0.mk hbox; have k0 : w3.cell? ⟨g4, 0, none⟩ = some (.int .i64 0) := (blk_cell hbox 0).trans rfl; have k1 : w3.cell? ⟨g4, 1, none⟩ = some (.int .i64 0) := (blk_cell hbox 1).trans rfl; have k2 := blk_frozen hbox 0; have k3 := blk_frozen hbox 1; clear hbox hb hg HB B22 HQ; have HB := HB1; have HQ := HQ1; clear HB1 HQ1))
    | ((with_reducible refine gate_store (t := 27) (p := 4) rfl ?_); go_must (refine store_event (t := 27) (p := 4) (v := ?vo_w4) (w1 := ((w3.setCell ⟨g4, 0, none⟩ (.int .i64 x.f0)).setCell ⟨g4, 1, none⟩ (.int .i64 x.f1))) ?hg ?ho ?hn ?hr ?_; (case ho => rfl); (case hg => rfl); (case hn => rfl); (case hr => first | (go_simp; done) | (go_simp; rfl)); intro w4 hw; have B44 := Aside0.mk (show w4.heap[g4]? = some (.cells #[.int .i64 x.f0, .int .i64 x.f1] 27 (0, 0)) from (by rw [hw]; exact put_two B4.out)); have B24 := Aside0.mk (show w4.heap[g2]? = some (.cells #[.int .i64 0, .int .i64 0] 27 (0, 0)) from (by rw [hw]; exact blk_far (blk_far B23.out (p := ⟨g4, 0, none⟩) NE.out _) (p := ⟨g4, 1, none⟩) NE.out _)); have HQ1 := Aside0.mk (show QI 60 62 kI w4 B g (fun k => F k ∧ k < w.heap.size) K h num from (by rw [hw]; exact HQ.out.keep (fun k _ hf => (Below.heap_setCell _ ⟨g4, 1, none⟩ _ k (by have := hf.2; have := GE4.out; show k ≠ g4; omega)).trans (Below.heap_setCell _ ⟨g4, 0, none⟩ _ k (by have := hf.2; have := GE4.out; show k ≠ g4; omega))))); have HB1 := Aside0.mk (show Below w.heap.size w w4 from (by rw [hw]; exact (HB.out.setCell GE4.out _).setCell GE4.out _)); clear hw k0 k1 k2 k3 B4 B23 HQ HB; have HB := HB1; have HQ := HQ1; clear HB1 HQ1; obtain ⟨A, c, hg_, _, _⟩ := HQ.out.row; have f1 : w4.cell? ⟨g, 1, none⟩ = some (.slice A h.length c) := (blk_cell hg_ 1).trans rfl; clear hg_))
    | (go_at_call 35; go_must (refine (swap_zero B g _ K h num m _ HQ.out (by have := HM.out; omega)).mono ?_; rintro e w5 ⟨rfl, hq, hk, hb⟩; have B45 := Aside0.mk ((hk.2 g4 (blk_lt B44.out) (fun hf => by have := hf.2; have := GE4.out; omega)).trans B44.out); have B25 := Aside0.mk ((hk.2 g2 (blk_lt B24.out) (fun hf => by have := hf.2; have := GE2.out; omega)).trans B24.out); have HQ1 := Aside0.mk hq; have HBB := Aside0.mk ((HB.out.mono HSZ.out).trans hb); have HKK := Aside0.mk ((Keeps.below (F := fun k => F k ∧ k < w.heap.size) HB.out).trans hk); clear HQ HB hq hk hb B44 B24 f1; have HQ := HQ1; clear HQ1; obtain ⟨A5, c5, hg_, hc_, _⟩ := HQ.out.row; rw [swp_len] at hc_; rw [swp_len, HM.out.1] at hg_; have f1 : w5.cell? ⟨g, 1, none⟩ = some (.slice A5 (m + 1) c5) := (blk_cell hg_ 1).trans rfl; have f2 := blk_frozen hg_ 1; have p1 := eq_true (show (m : Int) ≤ (c5 : Int) from by have := HM.out; omega); have p2 := eq_true (show m ≤ c5 from by have := HM.out; omega); have BKG := Aside0.mk hg_; clear hg_ hc_))
    | ((with_reducible refine gate_store (t := 58) (p := 32) rfl ?_); go_must (refine store_event (t := 58) (p := 32) (v := ?vo_w6) (w1 := (w5.setCell ⟨g, 1, none⟩ (.slice A5 m c5))) ?hg ?ho ?hn ?hr ?_; (case ho => rfl); (case hg => rfl); (case hn => rfl); (case hr => first | (go_simp; done) | (go_simp; rfl)); intro w6 hw; have HQ6 := Aside0.mk (show QI 60 62 kI w6 B g (fun k => F k ∧ k < w.heap.size) K ((swp zI h 0 m).take m) num from (by rw [hw]; exact HQ.out.cut (by rw [swp_len, HM.out.1]; exact BKG.out) m (by rw [swp_len]; have := HM.out; omega))); have HGG := Aside0.mk (show F g ∧ g < w.heap.size ∧ B ≤ g from ⟨HQ.out.1.2.1, HQ.out.1.2.2, HQ.out.1.1⟩); have B46 := Aside0.mk (show w6.heap[g4]? = some (.cells #[.int .i64 x.f0, .int .i64 x.f1] 27 (0, 0)) from (by rw [hw]; exact blk_far B45.out (by have := HGG.out; have := GE4.out; show g4 ≠ g; omega) _)); have B26 := Aside0.mk (show w6.heap[g2]? = some (.cells #[.int .i64 0, .int .i64 0] 27 (0, 0)) from (by rw [hw]; exact blk_far B25.out (by have := HGG.out; have := GE2.out; show g2 ≠ g; omega) _)); have HB6 := Aside0.mk (show Below B w w6 from (by rw [hw]; exact HBB.out.setCell HGG.out.2.2 _)); have HK6 := Aside0.mk (show Keeps (fun k => F k ∧ k < w.heap.size) w w6 from (by rw [hw]; exact HKK.out.trans (Keeps.setCell w5 ⟨HGG.out.1, HGG.out.2.1⟩ _))); clear hw HQ HBB HKK B45 B25 BKG f1 f2 p1 p2))
    | (go_at_call 36; go_must (refine (sink_calls B g _ K lt HLE ((swp zI h 0 m).take m) num _ HQ6.out).mono ?_; rintro e w7 ⟨rfl, hq, hb, hk⟩; have B47 := Aside0.mk ((hk.2 g4 (blk_lt B46.out) (fun hf => by have := hf.2; have := GE4.out; omega)).trans B46.out); have B27 := Aside0.mk ((hk.2 g2 (blk_lt B26.out) (fun hf => by have := hf.2; have := GE2.out; omega)).trans B26.out); have HQ7 := Aside0.mk hq; have HB7 := Aside0.mk (HB6.out.trans hb); have HK7 := Aside0.mk (HK6.out.trans hk); clear HQ6 HB6 HK6 B46 B26 hq hb hk; have k0 : w7.cell? ⟨g4, 0, none⟩ = some (.int .i64 x.f0) := (blk_cell B47.out 0).trans rfl; have k1 : w7.cell? ⟨g4, 1, none⟩ = some (.int .i64 x.f1) := (blk_cell B47.out 1).trans rfl; have e0 : w7.cell? ⟨g2, 0, none⟩ = some (.int .i64 0) := (blk_cell B27.out 0).trans rfl; have e1 : w7.cell? ⟨g2, 1, none⟩ = some (.int .i64 0) := (blk_cell B27.out 1).trans rfl; have e2 := blk_frozen B27.out 0; have e3 := blk_frozen B27.out 1)))
  have BF := put_two (x := .int .i64 x.f0) (y := .int .i64 x.f1) B27.out
  have r0 := (blk_cell BF 0).trans rfl
  have r1 := (blk_cell BF 1).trans rfl
  have hp : popS (bI lt) zI h = sinkS (bI lt) zI ((swp zI h 0 m).take m).length ((swp zI h 0 m).take m) 0 := by
    unfold popS
    rw [HM.out.1, Nat.add_sub_cancel, List.length_take, swp_len, HM.out.1, Nat.min_eq_left (by omega)]
  have hmv : ∀ k, F k ∧ k < w.heap.size → (((w7.setCell ⟨g2, 0, none⟩ (.int .i64 x.f0)).setCell ⟨g2, 1, none⟩ (.int .i64 x.f1))).heap[k]? = w7.heap[k]? := fun k hf => (Below.heap_setCell _ ⟨g2, 1, none⟩ _ k (by have := hf.2; have := GE2.out; show k ≠ g2; omega)).trans (Below.heap_setCell _ ⟨g2, 0, none⟩ _ k (by have := hf.2; have := GE2.out; show k ≠ g2; omega))
  have HQF := Aside0.mk (show QI 60 62 kI ((w7.setCell ⟨g2, 0, none⟩ (.int .i64 x.f0)).setCell ⟨g2, 1, none⟩ (.int .i64 x.f1)) B g F K (popS (bI lt) zI h) num from by rw [hp]; exact (HQ7.out.keep (fun k _ hf => hmv k hf)).narrow (fun k _ hf => hf.1))
  have HBF := Aside0.mk (show Below B w ((w7.setCell ⟨g2, 0, none⟩ (.int .i64 x.f0)).setCell ⟨g2, 1, none⟩ (.int .i64 x.f1)) from (HB7.out.setCell (Nat.le_trans HSZ.out GE2.out) _).setCell (Nat.le_trans HSZ.out GE2.out) _)
  have HKF := Aside0.mk (show Keeps F w ((w7.setCell ⟨g2, 0, none⟩ (.int .i64 x.f0)).setCell ⟨g2, 1, none⟩ (.int .i64 x.f1)) from ⟨(HK7.out.1.setCell (Nat.zero_le _) _).setCell (Nat.zero_le _) _, fun k hk hf => ((Below.heap_setCell _ ⟨g2, 1, none⟩ _ k (by have := GE2.out; show k ≠ g2; omega)).trans (Below.heap_setCell _ ⟨g2, 0, none⟩ _ k (by have := GE2.out; show k ≠ g2; omega))).trans (HK7.out.2 k hk (fun h' => hf h'.1))⟩)
  clear e0 e1 e2 e3 k0 k1 BF hp hmv l1 l2
  exact bodyPost_ret (v := .tuple #[.agg #[.int .i64 x.f0, .int .i64 x.f1], .bool true]) (by simp [results, Try.results15, go_sem, r0, r1]) rfl ⟨rfl, HQF.out, HBF.out, HKF.out⟩
end Go.Proofs.Ytnpndjdkdcbjcaa.Pq
