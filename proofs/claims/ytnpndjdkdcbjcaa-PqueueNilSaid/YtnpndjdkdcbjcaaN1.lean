/- The queue that is none. -/
import Derived.Test.YtnpndjdkdcbjcaaR2
namespace Go.Proofs.Ytnpndjdkdcbjcaa.Pq
open Go.RowKit Go.Proofs.Ytnpndjdkdcbjcaa.PX Go.Proofs.YtnpndjdkdcbjcaaW.PrintWords Go.Proofs.YtnpndjdkdcbjcaaW.PrintLast Go.Proofs.YtnpndjdkdcbjcaaW.PrintMore
set_option linter.unusedVariables false
set_option linter.unusedSimpArgs false
theorem eq27z (w : World) : (binOp .neq 27 (.agg #[.int .i64 0, .int .i64 0]) (.agg #[.int .i64 0, .int .i64 0])).run Try.prog w = .ok (.bool false) w := by kernel_rfl
theorem lessU : LessI 25 (ltM 0) := lessM 0
theorem setCells_two (w : World) (gr o : Nat) (a b : Value) : w.setCells gr o [a, b] = (w.setCell ⟨gr, o, none⟩ a).setCell ⟨gr, o + 1, none⟩ b := rfl
theorem put_27 {w : World} {B gr cap n : Nat} {ok : Nat → Prop} {h : List S27} (hR : k27.R 27 w B ok (.slice (some ⟨gr, 0, none⟩) n cap) h) (hi : 0 < n) (a b : Int) :
    k27.R 27 ((w.setCell ⟨gr, 0, none⟩ (.int .i64 a)).setCell ⟨gr, 1, none⟩ (.int .i64 b)) B ok (.slice (some ⟨gr, 0, none⟩) n cap) (h.set 0 (⟨a, b⟩ : S27)) ∧ w.grownBy ((w.setCell ⟨gr, 0, none⟩ (.int .i64 a)).setCell ⟨gr, 1, none⟩ (.int .i64 b)) (some gr) := by
  obtain ⟨c_, hl, hM, hc, hf⟩ := Kd.R_elem hR z27 0 (by omega) (by omega)
  have he := k27_openM hM
  subst he
  have := Kd.R_seg hR 0 (by omega) (by omega) hl hc (j := 0) (seg := [.int .i64 a, .int .i64 b]) (Nat.le_refl 2) (x' := (⟨a, b⟩ : S27)) (okp := fun _ => False) (k27_mkM w B _ _) (fun _ h => h.elim)
  rw [setCells_two] at this
  exact this
theorem push_nil (x1 x2 : Int) (w : World) : Calls Try.prog 13 #[.pointer none, .agg #[.int .i64 x1, .int .i64 x2]] w fun e w' => e = .returned (.tuple #[]) ∧ Below w.heap.size w w' := by
  have HB := Aside0.mk (Below.refl w.heap.size w)
  go_enter Try.func13, Try.ntmps13
  go_wp2_with (first | ((with_reducible refine gate_dst (N := 3) rfl ?_); go_must (refine box_event ?hg (N := 3) ?hd (cs := #[.int .i64 x1, .int .i64 x2]) (t := 27) ?hr ?_; (case hd => rfl); (case hg => rfl); (case hr => first | (go_simp; done) | (go_simp; rfl)); intro gx hg w1 hbox hb; have nHB := Aside0.mk (below_step HB.out hb); clear hbox hb hg HB; have HB := nHB; clear nHB)))
  exact ⟨rfl, .tuple #[], results_none rfl _ _ _, rfl, HB.out⟩
theorem Same_n (A1 : Option Addr) (c1 n1 : Nat) (A2 : Option Addr) (c2 n2 : Nat) (l : List S27) (w : World) (e1 : n1 = l.length) (e2 : n2 = l.length) (hc1 : n1 ≤ c1) (hc2 : n2 ≤ c2) (h1 : k27.C w A1 n1 l) (h2 : k27.C w A2 n2 l) (hl : l.length ≤ 1000) :
    Calls Try.prog 20 #[.slice A1 n1 c1, .slice A2 n2 c2] w fun e w' => e = .returned (.bool true) ∧ Below w.heap.size w w' := by
  subst e1
  subst e2
  exact Same_calls _ _ l l w ⟨A1, c1, rfl, hc1, h1⟩ ⟨A2, c2, rfl, hc2, h2⟩ rfl hl
theorem drop_C {w : World} {A : Option Addr} {c : Nat} {x : S27} {l : List S27} {n : Nat} (h : k27.C w A n (x :: l)) (hn : n = l.length + 1) (hc : n ≤ c) : k27.C w (if c = 1 then A else A.map (·.add (1 * k27.sz))) (n - 1) l := by
  subst hn
  exact Kd.C_drop (m := 1) (c := c) h (by simp) hc
set_option maxHeartbeats 16000000 in
set_option maxRecDepth 100000 in
theorem Nil_calls (A0 : Option Addr) (c0 : Nat) (l0 : List S27) (x : S27) (w : World) (hr0 : k27.C w A0 l0.length l0) (hc0 : l0.length ≤ c0) :
    Calls Try.prog 8 #[.slice A0 l0.length c0, .agg #[.int .i64 x.f0, .int .i64 x.f1]] w fun e w' => e = .returned (.bool true) ∧ Below w.heap.size w w' := by
  have HR := Aside0.mk hr0
  have HC := Aside0.mk hc0
  clear hr0 hc0
  have HB := Aside0.mk (Below.refl w.heap.size w)
  have HBZ := Aside0.mk (Nat.le_refl w.heap.size)
  have HBS := HBZ
  have HS := HBZ
  have q27 := eq27z
  by_cases hbig : 200 < l0.length
  · have d1 : decide ((200 : Int) < (l0.length : Int)) = true := decide_eq_true (by omega)
    have d2 := eq_true hbig
    go_enter Try.func8, Try.ntmps8
    go_wp2_with (first | ((with_reducible refine gate_dst (N := 3) rfl ?_); go_must (refine box_event ?hg (N := 3) ?hd (cs := #[.int .i64 x.f0, .int .i64 x.f1]) (t := 27) ?hr ?_; (case hd => rfl); (case hg => rfl); (case hr => first | (go_simp; done) | (go_simp; rfl)); intro g3 hg w1 hbox hb; have f3 : w1.cell? ⟨g3, 0, none⟩ = some (.int .i64 x.f0) := (blk_cell hbox 0).trans rfl; have f3' : w1.cell? ⟨g3, 1, none⟩ = some (.int .i64 x.f1) := (blk_cell hbox 1).trans rfl; have nHB := Aside0.mk (below_step HB.out hb); have nHS := Aside0.mk (Nat.le_trans HS.out hb.size); have nHBS := Aside0.mk (Nat.le_trans HBS.out hb.size); clear hbox hb hg HB HS HBS; have HB := nHB; have HS := nHS; have HBS := nHBS; clear nHB nHS nHBS)) | (go_at_call 10; go_must (refine (awake_calls _).mono ?_; rintro e wa ⟨rfl, hb⟩; have nHB := Aside0.mk (below_step HB.out hb); clear HB hb; have HB := nHB; clear nHB)))
    go_ret
    exact ⟨rfl, HB.out⟩
  by_cases hz : l0.length = 0
  · have d1 : decide ((200 : Int) < (l0.length : Int)) = false := decide_eq_false (by omega)
    have d3 : ((l0.length : Int) == 0) = true := by rw [beq_iff_eq]; omega
    have d4 : (l0.length : Int) = 0 := by omega
    have d2 := eq_false hbig
    go_enter Try.func8, Try.ntmps8
    go_wp2_with (first | ((with_reducible refine gate_dst (N := 3) rfl ?_); go_must (refine box_event ?hg (N := 3) ?hd (cs := #[.int .i64 x.f0, .int .i64 x.f1]) (t := 27) ?hr ?_; (case hd => rfl); (case hg => rfl); (case hr => first | (go_simp; done) | (go_simp; rfl)); intro g3 hg w1 hbox hb; have f3 : w1.cell? ⟨g3, 0, none⟩ = some (.int .i64 x.f0) := (blk_cell hbox 0).trans rfl; have f3' : w1.cell? ⟨g3, 1, none⟩ = some (.int .i64 x.f1) := (blk_cell hbox 1).trans rfl; have nHB := Aside0.mk (below_step HB.out hb); have nHS := Aside0.mk (Nat.le_trans HS.out hb.size); have nHBS := Aside0.mk (Nat.le_trans HBS.out hb.size); clear hbox hb hg HB HS HBS; have HB := nHB; have HS := nHS; have HBS := nHBS; clear nHB nHS nHBS)) | (go_at_call 10; go_must (refine (awake_calls _).mono ?_; rintro e wa ⟨rfl, hb⟩; have nHB := Aside0.mk (below_step HB.out hb); clear HB hb; have HB := nHB; clear nHB)))
    go_ret
    exact ⟨rfl, HB.out⟩
  have HN := Aside0.mk (show 0 < l0.length ∧ l0.length ≤ 200 by omega)
  have d1 : decide ((200 : Int) < (l0.length : Int)) = false := decide_eq_false (by omega)
  have d2 := eq_false hbig
  have d3 : ((l0.length : Int) == 0) = false := by rw [beq_eq_false_iff_ne]; omega
  clear hbig hz
  go_enter Try.func8, Try.ntmps8
  have M1 := trivial
  have M2 := trivial
  have M3 := trivial
  have M4 := trivial
  go_upto_region 13 with (first
    | ((with_reducible refine gate_dst (N := 3) rfl ?_); go_must (refine box_event ?hg (N := 3) ?hd (cs := #[.int .i64 x.f0, .int .i64 x.f1]) (t := 27) ?hr ?_; (case hd => rfl); (case hg => rfl); (case hr => first | (go_simp; done) | (go_simp; rfl)); intro g3 hg w1 hbox hb; have f3 : w1.cell? ⟨g3, 0, none⟩ = some (.int .i64 x.f0) := (blk_cell hbox 0).trans rfl; have f3' : w1.cell? ⟨g3, 1, none⟩ = some (.int .i64 x.f1) := (blk_cell hbox 1).trans rfl; have nHB := Aside0.mk (below_step HB.out hb); have nHS := Aside0.mk (Nat.le_trans HS.out hb.size); have nHBS := Aside0.mk (Nat.le_trans HBS.out hb.size); clear hbox hb hg HB HS HBS; have HB := nHB; have HS := nHS; have HBS := nHBS; clear nHB nHS nHBS))
    | (go_at_call 11; go_must (refine (new_nil _).mono ?_; rintro e wn ⟨rfl, hw_⟩; obtain rfl := hw_.symm))
    | (go_at_call 13; go_must (refine (push_nil x.f0 x.f1 _).mono ?_; rintro e w2 ⟨rfl, hb⟩; have nHB := Aside0.mk (below_step HB.out hb); have nHBS := Aside0.mk (Nat.le_trans HBS.out hb.size); have nHS := Aside0.mk (Nat.le_trans HS.out hb.size); clear HB HBS HS hb f3 f3'; have HB := nHB; have HBS := nHBS; have HS := nHS; clear nHB nHBS nHS))
    | (go_at_call 15; clear M1; go_must (refine (pop_nil _).mono ?_; skip; rintro e w3 ⟨rfl, hb⟩; have nHB := Aside0.mk (HB.out.trans (hb.mono HBS.out)); have nHBS := Aside0.mk (Nat.le_trans HBS.out hb.size); have nHS := Aside0.mk (Nat.le_trans HS.out hb.size); clear HB; clear HBS; clear HS; have HB := nHB; clear nHB; have HBS := nHBS; clear nHBS; have HS := nHS; clear nHS; clear hb))
    | ((with_reducible refine gate_dst (N := 6) rfl ?_); go_must (refine box_event ?hg (N := 6) ?hd (cs := #[.int .i64 0, .int .i64 0]) (t := 27) ?hr ?_; (case hd => rfl); (case hg => rfl); (case hr => first | (go_simp; done) | (go_simp; rfl)); intro g6 hg w4 hbox hb; have GE6 := Aside0.mk (show w.heap.size ≤ g6 from by rw [hg]; exact HS.out); have BK6 := Aside0.mk hbox; have k0 : w4.cell? ⟨g6, 0, none⟩ = some (.int .i64 0) := (blk_cell hbox 0).trans rfl; have k1 : w4.cell? ⟨g6, 1, none⟩ = some (.int .i64 0) := (blk_cell hbox 1).trans rfl; have k2 := blk_frozen hbox 0; have k3 := blk_frozen hbox 1; have nHB := Aside0.mk (HB.out.trans (hb.mono HBS.out)); have nHBS := Aside0.mk (Nat.le_trans HBS.out hb.size); have nHS := Aside0.mk (Nat.le_trans HS.out hb.size); clear HB; clear HBS; clear HS; have HB := nHB; clear nHB; have HBS := nHBS; clear nHBS; have HS := nHS; clear nHS; clear hbox hb hg))
    | ((with_reducible refine gate_store (t := 27) (p := 6) rfl ?_); go_must (refine store_event (t := 27) (p := 6) (v := ?vo_6) (w1 := ((w4.setCell ⟨g6, 0, none⟩ (.int .i64 0)).setCell ⟨g6, 1, none⟩ (.int .i64 0))) ?hg ?ho ?hn ?hr ?_; (case ho => rfl); (case hg => rfl); (case hn => rfl); (case hr => first | (go_simp; done) | (go_simp; rfl)); intro w5 hw; have nBK6 := Aside0.mk (show w5.heap[g6]? = some (.cells #[.int .i64 0, .int .i64 0] 27 (0, 0)) from (by rw [hw]; exact put_two BK6.out)); clear BK6; have BK6 := nBK6; clear nBK6; have hkp := (show ∀ k, k < w.heap.size → w5.heap[k]? = w4.heap[k]? from by rw [hw]; exact fun k hf => (Below.heap_setCell _ ⟨g6, 1, none⟩ _ k (by have := GE6.out; show k ≠ g6; omega)).trans (Below.heap_setCell _ ⟨g6, 0, none⟩ _ k (by have := GE6.out; show k ≠ g6; omega))); have nHB := Aside0.mk (show Below w.heap.size w w5 from (by rw [hw]; exact (HB.out.setCell (Nat.le_trans HBZ.out GE6.out) _).setCell (Nat.le_trans HBZ.out GE6.out) _)); have nHBS := Aside0.mk (show w.heap.size ≤ w5.heap.size from (by rw [hw]; simpa using HBS.out)); have nHS := Aside0.mk (show w.heap.size ≤ w5.heap.size from (by rw [hw]; simpa using HS.out)); clear HB; clear HBS; clear HS; have HB := nHB; clear nHB; have HBS := nHBS; clear nHBS; have HS := nHS; clear nHS; clear hw hkp k0 k1 k2 k3; skip))
    | (go_at_call 17; clear M2; go_must (refine (peek_nil _).mono ?_; skip; rintro e w6 ⟨rfl, hb⟩; have nBK6 := Aside0.mk (blk_below BK6.out hb); clear BK6; have BK6 := nBK6; clear nBK6; have nHB := Aside0.mk (HB.out.trans (hb.mono HBS.out)); have nHBS := Aside0.mk (Nat.le_trans HBS.out hb.size); have nHS := Aside0.mk (Nat.le_trans HS.out hb.size); clear HB; clear HBS; clear HS; have HB := nHB; clear nHB; have HBS := nHBS; clear nHBS; have HS := nHS; clear nHS; clear hb))
    | ((with_reducible refine gate_dst (N := 8) rfl ?_); go_must (refine box_event ?hg (N := 8) ?hd (cs := #[.int .i64 0, .int .i64 0]) (t := 27) ?hr ?_; (case hd => rfl); (case hg => rfl); (case hr => first | (go_simp; done) | (go_simp; rfl)); intro g8 hg w7 hbox hb; have GE8 := Aside0.mk (show w.heap.size ≤ g8 from by rw [hg]; exact HS.out); have NE8_6 := Aside0.mk (show g6 ≠ g8 from fun e => absurd (blk_lt BK6.out) (by omega)); have nBK6 := Aside0.mk (blk_below BK6.out hb); clear BK6; have BK6 := nBK6; clear nBK6; have BK8 := Aside0.mk hbox; have k0 : w7.cell? ⟨g8, 0, none⟩ = some (.int .i64 0) := (blk_cell hbox 0).trans rfl; have k1 : w7.cell? ⟨g8, 1, none⟩ = some (.int .i64 0) := (blk_cell hbox 1).trans rfl; have k2 := blk_frozen hbox 0; have k3 := blk_frozen hbox 1; have nHB := Aside0.mk (HB.out.trans (hb.mono HBS.out)); have nHBS := Aside0.mk (Nat.le_trans HBS.out hb.size); have nHS := Aside0.mk (Nat.le_trans HS.out hb.size); clear HB; clear HBS; clear HS; have HB := nHB; clear nHB; have HBS := nHBS; clear nHBS; have HS := nHS; clear nHS; clear hbox hb hg))
    | ((with_reducible refine gate_store (t := 27) (p := 8) rfl ?_); go_must (refine store_event (t := 27) (p := 8) (v := ?vo_8) (w1 := ((w7.setCell ⟨g8, 0, none⟩ (.int .i64 0)).setCell ⟨g8, 1, none⟩ (.int .i64 0))) ?hg ?ho ?hn ?hr ?_; (case ho => rfl); (case hg => rfl); (case hn => rfl); (case hr => first | (go_simp; done) | (go_simp; rfl)); intro w8 hw; have nBK6 := Aside0.mk (show w8.heap[g6]? = some (.cells #[.int .i64 0, .int .i64 0] 27 (0, 0)) from (by rw [hw]; exact blk_far (blk_far BK6.out (p := ⟨g8, 0, none⟩) NE8_6.out _) (p := ⟨g8, 1, none⟩) NE8_6.out _)); clear BK6; have BK6 := nBK6; clear nBK6; have nBK8 := Aside0.mk (show w8.heap[g8]? = some (.cells #[.int .i64 0, .int .i64 0] 27 (0, 0)) from (by rw [hw]; exact put_two BK8.out)); clear BK8; have BK8 := nBK8; clear nBK8; have hkp := (show ∀ k, k < w.heap.size → w8.heap[k]? = w7.heap[k]? from by rw [hw]; exact fun k hf => (Below.heap_setCell _ ⟨g8, 1, none⟩ _ k (by have := GE8.out; show k ≠ g8; omega)).trans (Below.heap_setCell _ ⟨g8, 0, none⟩ _ k (by have := GE8.out; show k ≠ g8; omega))); have nHB := Aside0.mk (show Below w.heap.size w w8 from (by rw [hw]; exact (HB.out.setCell (Nat.le_trans HBZ.out GE8.out) _).setCell (Nat.le_trans HBZ.out GE8.out) _)); have nHBS := Aside0.mk (show w.heap.size ≤ w8.heap.size from (by rw [hw]; simpa using HBS.out)); have nHS := Aside0.mk (show w.heap.size ≤ w8.heap.size from (by rw [hw]; simpa using HS.out)); clear HB; clear HBS; clear HS; have HB := nHB; clear nHB; have HBS := nHBS; clear nHBS; have HS := nHS; clear nHS; clear hw hkp k0 k1 k2 k3; have f6 : w8.cell? ⟨g6, 0, none⟩ = some (.int .i64 0) := (blk_cell BK6.out 0).trans rfl; have f6' : w8.cell? ⟨g6, 1, none⟩ = some (.int .i64 0) := (blk_cell BK6.out 1).trans rfl; have f8 : w8.cell? ⟨g8, 0, none⟩ = some (.int .i64 0) := (blk_cell BK8.out 0).trans rfl; have f8' : w8.cell? ⟨g8, 1, none⟩ = some (.int .i64 0) := (blk_cell BK8.out 1).trans rfl))
    | (go_at_call 19; go_must (refine (len_nil _).mono ?_; rintro e wl ⟨rfl, hw_⟩; obtain rfl := hw_.symm))
    | (go_at_call 21; clear M3; go_must (refine (copy_nil A0 c0 l0 _ (Kd.C_below HR.out HB.out) (by have := HN.out; omega)).mono ?_; rintro e w9 ⟨v9, rfl, hr, hb⟩; obtain ⟨gA, cA, rfl, hbA, hlA, _⟩ := Kd.R_form hr HN.out.1; have HOA := Aside0.mk (show k27.R 27 w9 w8.heap.size (fun k => w8.heap.size ≤ k ∧ k < w9.heap.size) (.slice (some ⟨gA, 0, none⟩) l0.length cA) l0 from Kd.R_mono (Kd.R_bound hr) (fun k hk => ⟨hk.1, hk.2.2.1⟩)); have HW8 := Aside0.mk HS.out; have HBA := Aside0.mk (show w8.heap.size ≤ gA ∧ gA < w9.heap.size from ⟨hbA, hlA⟩); have nHB := Aside0.mk (below_step HB.out hb); have nHS := Aside0.mk (Nat.le_trans HS.out hb.size); clear HB HBS HS hr hb hbA hlA f6 f6' f8 f8' BK6 BK8; have HB := nHB; have HS := nHS; clear nHB nHS))
    | (go_at_call 21; clear M4; go_must (refine (sort_calls 25 (ltM 0) lessU l0.length A0 c0 l0 _ (Kd.C_below HR.out HB.out) HC.out (by have := HN.out; omega) (by omega)).mono ?_; rintro e w10 ⟨v10, rfl, hr, hb⟩; obtain ⟨gB, cB, hv, hbB, hlB, _⟩ := Kd.R_form hr (by rw [srt_len]; exact HN.out.1); rw [srt_len] at hv; subst hv; have HOB := Aside0.mk (show k27.R 27 w10 w9.heap.size (fun k => w9.heap.size ≤ k ∧ k < w10.heap.size) (.slice (some ⟨gB, 0, none⟩) l0.length cB) (srt (ltM 0) l0.length l0) from Kd.R_mono (Kd.R_bound hr) (fun k hk => ⟨hk.1, hk.2.2.1⟩)); have HBB := Aside0.mk (show w9.heap.size ≤ gB ∧ gB < w10.heap.size from ⟨hbB, hlB⟩); have nHOA := Aside0.mk (Kd.R_below HOA.out hb); have nHB := Aside0.mk (below_step HB.out hb); have nHS := Aside0.mk (Nat.le_trans HS.out hb.size); clear HOA HB HS hr hb hbB hlB; have HOA := nHOA; have HB := nHB; have HS := nHS; clear nHOA nHB nHS; have HO0 := Aside0.mk (show k27.R 27 (w10.alloc (.cells #[] 27)) w10.heap.size (fun k => w10.heap.size ≤ k) (.slice (some ⟨w10.heap.size, 0, none⟩) 0 0) ([] : List S27) from empty_row (blk_new w10 _) (Nat.le_refl _) (Nat.le_refl _)); have HR0 := Aside0.mk (Kd.C_below (Kd.C_below HR.out HB.out) (below_alloc (Below.refl w10.heap.size w10) (.cells #[] 27))); have HZ0 := Aside0.mk (below_alloc (Below.refl w10.heap.size w10) (.cells #[] 27)).size))
    | ((with_reducible refine gate_builtin (b := .append) (xs := #[.tmp 75, .tmp 76]) rfl ?_); go_must (at_builtin; refine Kd.R_append_rows k27 (w0 := w10.alloc (.cells #[] 27)) w10.heap.size rfl (.tmp 75) (.tmp 76) 31 27 (.agg #[.int .i64 0, .int .i64 0]) 16 rfl Try.underlying31 info27 rfl (by decide) (by decide) (.slice (some ⟨w10.heap.size, 0, none⟩) 0 0) ([] : List S27) l0 _ _ _ (fun k => w10.heap.size ≤ k) (fun _ => False) rfl rfl HO0.out HR0.out k27_KM (fun _ h => h.elim) (fun k hk => Nat.le_trans HZ0.out hk) (Below.refl _ _) HZ0.out ?aL ?_; (case aL => have := HN.out; simp; omega); intro v12 w11 hr2 hb2 hg2 hat2; have hr2 : k27.R 27 w11 w10.heap.size (fun k => w10.heap.size ≤ k) v12 l0 := hr2; have hbb : Below w10.heap.size w10 w11 := (below_alloc (Below.refl w10.heap.size w10) (.cells #[] 27)).trans hb2; obtain ⟨gC, cC, rfl, hbC, hlC, _⟩ := Kd.R_form hr2 HN.out.1; have HOC := Aside0.mk hr2; have HBC := Aside0.mk (show w10.heap.size ≤ gC ∧ gC < w11.heap.size from ⟨hbC, hlC⟩); have nHOA := Aside0.mk (Kd.R_below HOA.out hbb); have nHOB := Aside0.mk (Kd.R_below HOB.out hbb); have nHB := Aside0.mk (HB.out.trans (hbb.mono HS.out)); have nHS := Aside0.mk (Nat.le_trans HS.out hbb.size); clear HOA HOB HB HS hr2 hb2 hg2 hat2 hbb hbC hlC HO0 HR0 HZ0; have HOA := nHOA; have HOB := nHOB; have HB := nHB; have HS := nHS; clear nHOA nHOB nHB nHS)))
  obtain ⟨z, t, hzt⟩ : ∃ z t, l0 = z :: t := by cases l0 with | nil => exact absurd HN.out.1 (by simp) | cons z t => exact ⟨z, t, rfl⟩
  have HZT := Aside0.mk hzt
  have hC : w11.cell? ⟨gC, 0, none⟩ = some (.int .i64 z.f0) := by
    obtain ⟨c_, hl, hM, hc, hf⟩ := Kd.R_elem HOC.out z27 0 (by omega) (by have := HN.out; omega)
    have he := k27_openM hM
    subst he
    have h_ := hc 0 _ rfl
    rw [hzt] at h_
    exact h_
  have cellsOf : ∀ {w' : World} {B g c : Nat} {ok : Nat → Prop} {l : List S27}, k27.R 27 w' B ok (.slice (some ⟨g, 0, none⟩) l0.length c) l → ∃ u : S27, w'.cell? ⟨g, 0, none⟩ = some (.int .i64 u.f0) ∧ w'.cell? ⟨g, 1, none⟩ = some (.int .i64 u.f1) ∧ w'.frozen? ⟨g, 0, none⟩ = false ∧ w'.frozen? ⟨g, 1, none⟩ = false := by
    intro w' B g c ok l h
    obtain ⟨c_, hl, hM, hc, hf⟩ := Kd.R_elem h z27 0 (by omega) (by have := HN.out; omega)
    have he := k27_openM hM
    subst he
    exact ⟨_, hc 0 _ rfl, hc 1 _ rfl, hf 0, hf 1⟩
  obtain ⟨uA, a1, a2, a3, a4⟩ := cellsOf HOA.out
  obtain ⟨uB, b1, b2, b3, b4⟩ := cellsOf HOB.out
  have p1 := eq_true (show (0 : Int) < (l0.length : Int) by have := HN.out; omega)
  have p2 := eq_true HN.out.1
  clear hzt cellsOf
  go_upto_region 14 with (fail)
  obtain ⟨y, hy⟩ : ∃ y, bits BinOp.xor IntKind.i64 z.f0 1 = y := ⟨_, rfl⟩
  rw [hy]
  have HLT := Aside0.mk (show gA < gB ∧ gB < gC ∧ w.heap.size ≤ gA from ⟨Nat.lt_of_lt_of_le HBA.out.2 HBB.out.1, Nat.lt_of_lt_of_le HBB.out.2 HBC.out.1, Nat.le_trans HW8.out HBA.out.1⟩)
  generalize hw : ((w11.setCell ⟨gA, 0, none⟩ (.int .i64 y)).setCell ⟨gA, 1, none⟩ (.int .i64 0)) = w12
  have nHOA := Aside0.mk (show k27.R 27 w12 w8.heap.size (fun k => w8.heap.size ≤ k ∧ k < w9.heap.size) (.slice (some ⟨gA, 0, none⟩) l0.length cA) (l0.set 0 ⟨y, 0⟩) from hw ▸ (put_27 HOA.out HN.out.1 y 0).1)
  have kp : ∀ k, k ≠ gA → w12.heap[k]? = w11.heap[k]? := fun k hk => by rw [← hw]; exact (Below.heap_setCell _ ⟨gA, 1, none⟩ _ k hk).trans (Below.heap_setCell _ ⟨gA, 0, none⟩ _ k hk)
  have nHOB := Aside0.mk (Kd.R_step HOB.out (fun k hk _ => kp k (fun e => by have := HBA.out; have := hk.1; omega)))
  have nHOC := Aside0.mk (Kd.R_step HOC.out (fun k hk _ => kp k (fun e => by have := HBA.out; have := HBB.out; omega)))
  have nHB := Aside0.mk (show Below w.heap.size w w12 from hw ▸ (HB.out.setCell HLT.out.2.2 _).setCell HLT.out.2.2 _)
  clear HOA HOB HOC HB a1 a2 a3 a4 b1 b2 b3 b4 hC hw kp
  have HOA := nHOA
  have HOB := nHOB
  have HOC := nHOC
  have HB := nHB
  clear nHOA nHOB nHOC nHB
  have a1 : w12.cell? ⟨gA, 0, none⟩ = some (.int .i64 y) ∧ w12.cell? ⟨gA, 1, none⟩ = some (.int .i64 0) := by
    obtain ⟨c_, hl, hM, hc, hf⟩ := Kd.R_elem HOA.out z27 0 (by omega) (by have := HN.out; omega)
    have he := k27_openM hM
    subst he
    have h0 := hc 0 _ rfl
    have h1 := hc 1 _ rfl
    rw [HZT.out] at h0 h1
    exact ⟨h0, h1⟩
  have a2 := a1.2
  replace a1 := a1.1
  obtain ⟨uB', b1, b2, b3, b4⟩ : ∃ u : S27, w12.cell? ⟨gB, 0, none⟩ = some (.int .i64 u.f0) ∧ w12.cell? ⟨gB, 1, none⟩ = some (.int .i64 u.f1) ∧ w12.frozen? ⟨gB, 0, none⟩ = false ∧ w12.frozen? ⟨gB, 1, none⟩ = false := by
    obtain ⟨c_, hl, hM, hc, hf⟩ := Kd.R_elem HOB.out z27 0 (by omega) (by have := HN.out; omega)
    have he := k27_openM hM
    subst he
    exact ⟨_, hc 0 _ rfl, hc 1 _ rfl, hf 0, hf 1⟩
  go_upto_region 15 with (fail)
  generalize hw : ((w12.setCell ⟨gB, 0, none⟩ (.int .i64 y)).setCell ⟨gB, 1, none⟩ (.int .i64 0)) = w13
  have kp : ∀ k, k ≠ gB → w13.heap[k]? = w12.heap[k]? := fun k hk => by rw [← hw]; exact (Below.heap_setCell _ ⟨gB, 1, none⟩ _ k hk).trans (Below.heap_setCell _ ⟨gB, 0, none⟩ _ k hk)
  have nHOA := Aside0.mk (Kd.R_drew (Kd.R_step HOA.out (fun k hk _ => kp k (fun e => by have := HBB.out; have := hk.2; omega))))
  have nHOC := Aside0.mk (Kd.R_drew (Kd.R_step HOC.out (fun k hk _ => kp k (fun e => by have := HBB.out; omega))))
  have nHB := Aside0.mk (show Below w.heap.size w w13.drew from (hw ▸ (HB.out.setCell (Nat.le_trans HLT.out.2.2 (Nat.le_of_lt HLT.out.1)) _).setCell (Nat.le_trans HLT.out.2.2 (Nat.le_of_lt HLT.out.1)) _ : Below w.heap.size w w13).drew)
  clear HOA HOB HOC HB a1 a2 b1 b2 b3 b4 hw kp
  have HB := nHB
  have HTI := Aside0.mk (Kd.C_below HR.out HB.out)
  have HCC := Aside0.mk (Kd.R_reads' nHOC.out)
  have HTA := Aside0.mk (Kd.R_reads' nHOA.out)
  have HLL := Aside0.mk (show l0.length = t.length + 1 from by rw [HZT.out]; rfl)
  have HN0 := Aside0.mk (show l0.length ≤ cA ∧ l0.length ≤ cC ∧ l0.length - 1 ≤ cA - 1 ∧ l0.length - 1 ≤ c0 - 1 ∧ l0.length - 1 = t.length ∧ t.length ≤ 1000 ∧ l0.length ≤ 1000 from by have h1_ := HTA.out.2.1; have h2_ := HCC.out.2.1; have := HN.out; have := HLL.out; have := HC.out; omega)
  have HDA := Aside0.mk (show k27.C w13.drew (if cA = 1 then some ⟨gA, 0, none⟩ else (some (⟨gA, 0, none⟩ : Addr)).map (·.add (1 * k27.sz))) (l0.length - 1) t from drop_C (x := ⟨y, 0⟩) (by have h_ := HTA.out.2.2; rw [List.length_set, HZT.out] at h_; rw [HZT.out]; exact h_) HLL.out HN0.out.1)
  have HDI := Aside0.mk (show k27.C w13.drew (if c0 = 1 then A0 else A0.map (·.add (1 * k27.sz))) (l0.length - 1) t from drop_C (x := z) (by have h_ := HTI.out; rw [HZT.out] at h_ ⊢; exact h_) HLL.out HC.out)
  obtain ⟨ad, rfl, _, _⟩ := row_at HTI.out 0 HN.out.1
  have s1 : (1 : Int) ≤ (l0.length : Int) := by have := HN.out; omega
  have s2 : (l0.length : Int) ≤ (cA : Int) := by have := HN0.out; omega
  have s3 : (l0.length : Int) ≤ (c0 : Int) := by have := HC.out; omega
  have s4 : (0 : Int) ≤ 1 := by omega
  have M5 := trivial
  have M6 := trivial
  by_cases ca : cA = 1
  · by_cases cb : c0 = 1
    · have hA := ca
      have hI := cb
      rw [if_pos hA] at HDA
      rw [if_pos hI] at HDI
      replace ca := eq_true ca
      replace cb := eq_true cb
      clear hA hI
      go_region_with (first | (go_at_call 20; clear M5; (refine (Same_n (some ad) c0 l0.length (some ⟨gC, 0, none⟩) cC l0.length l0 _ rfl rfl HC.out HN0.out.2.1 HTI.out HCC.out.2.2 HN0.out.2.2.2.2.2.2).mono ?_); (rintro e w14 ⟨rfl, hb⟩; have nHDA := Aside0.mk (Kd.C_below HDA.out hb); have nHDI := Aside0.mk (Kd.C_below HDI.out hb); have nHB := Aside0.mk (below_step HB.out hb); clear HB HDA HDI hb HTI HCC HTA; have HB := nHB; have HDA := nHDA; have HDI := nHDI; clear nHB nHDA nHDI)) | (go_at_call 20; clear M6; (refine (Same_n _ _ (l0.length - 1) _ _ (l0.length - 1) t _ HN0.out.2.2.2.2.1 HN0.out.2.2.2.2.1 HN0.out.2.2.1 HN0.out.2.2.2.1 HDA.out HDI.out HN0.out.2.2.2.2.2.1).mono ?_); (rintro e w15 ⟨rfl, hb⟩; have nHB := Aside0.mk (below_step HB.out hb); clear HB HDA HDI hb; have HB := nHB; clear nHB)) | (go_at_call 10; (refine (awake_calls _).mono ?_); (rintro e w16 ⟨rfl, hb⟩; have nHB := Aside0.mk (below_step HB.out hb); clear HB hb; have HB := nHB; clear nHB)))
      all_goals
        go_wp2
        go_ret
        exact ⟨rfl, HB.out⟩
    · have hA := ca
      have hI := cb
      rw [if_pos hA] at HDA
      rw [if_neg hI] at HDI
      replace ca := eq_true ca
      replace cb := eq_false cb
      clear hA hI
      go_region_with (first | (go_at_call 20; clear M5; (refine (Same_n (some ad) c0 l0.length (some ⟨gC, 0, none⟩) cC l0.length l0 _ rfl rfl HC.out HN0.out.2.1 HTI.out HCC.out.2.2 HN0.out.2.2.2.2.2.2).mono ?_); (rintro e w14 ⟨rfl, hb⟩; have nHDA := Aside0.mk (Kd.C_below HDA.out hb); have nHDI := Aside0.mk (Kd.C_below HDI.out hb); have nHB := Aside0.mk (below_step HB.out hb); clear HB HDA HDI hb HTI HCC HTA; have HB := nHB; have HDA := nHDA; have HDI := nHDI; clear nHB nHDA nHDI)) | (go_at_call 20; clear M6; (refine (Same_n _ _ (l0.length - 1) _ _ (l0.length - 1) t _ HN0.out.2.2.2.2.1 HN0.out.2.2.2.2.1 HN0.out.2.2.1 HN0.out.2.2.2.1 HDA.out HDI.out HN0.out.2.2.2.2.2.1).mono ?_); (rintro e w15 ⟨rfl, hb⟩; have nHB := Aside0.mk (below_step HB.out hb); clear HB HDA HDI hb; have HB := nHB; clear nHB)) | (go_at_call 10; (refine (awake_calls _).mono ?_); (rintro e w16 ⟨rfl, hb⟩; have nHB := Aside0.mk (below_step HB.out hb); clear HB hb; have HB := nHB; clear nHB)))
      all_goals
        go_wp2
        go_ret
        exact ⟨rfl, HB.out⟩
  · by_cases cb : c0 = 1
    · have hA := ca
      have hI := cb
      rw [if_neg hA] at HDA
      rw [if_pos hI] at HDI
      replace ca := eq_false ca
      replace cb := eq_true cb
      clear hA hI
      go_region_with (first | (go_at_call 20; clear M5; (refine (Same_n (some ad) c0 l0.length (some ⟨gC, 0, none⟩) cC l0.length l0 _ rfl rfl HC.out HN0.out.2.1 HTI.out HCC.out.2.2 HN0.out.2.2.2.2.2.2).mono ?_); (rintro e w14 ⟨rfl, hb⟩; have nHDA := Aside0.mk (Kd.C_below HDA.out hb); have nHDI := Aside0.mk (Kd.C_below HDI.out hb); have nHB := Aside0.mk (below_step HB.out hb); clear HB HDA HDI hb HTI HCC HTA; have HB := nHB; have HDA := nHDA; have HDI := nHDI; clear nHB nHDA nHDI)) | (go_at_call 20; clear M6; (refine (Same_n _ _ (l0.length - 1) _ _ (l0.length - 1) t _ HN0.out.2.2.2.2.1 HN0.out.2.2.2.2.1 HN0.out.2.2.1 HN0.out.2.2.2.1 HDA.out HDI.out HN0.out.2.2.2.2.2.1).mono ?_); (rintro e w15 ⟨rfl, hb⟩; have nHB := Aside0.mk (below_step HB.out hb); clear HB HDA HDI hb; have HB := nHB; clear nHB)) | (go_at_call 10; (refine (awake_calls _).mono ?_); (rintro e w16 ⟨rfl, hb⟩; have nHB := Aside0.mk (below_step HB.out hb); clear HB hb; have HB := nHB; clear nHB)))
      all_goals
        go_wp2
        go_ret
        exact ⟨rfl, HB.out⟩
    · have hA := ca
      have hI := cb
      rw [if_neg hA] at HDA
      rw [if_neg hI] at HDI
      replace ca := eq_false ca
      replace cb := eq_false cb
      clear hA hI
      go_region_with (first | (go_at_call 20; clear M5; (refine (Same_n (some ad) c0 l0.length (some ⟨gC, 0, none⟩) cC l0.length l0 _ rfl rfl HC.out HN0.out.2.1 HTI.out HCC.out.2.2 HN0.out.2.2.2.2.2.2).mono ?_); (rintro e w14 ⟨rfl, hb⟩; have nHDA := Aside0.mk (Kd.C_below HDA.out hb); have nHDI := Aside0.mk (Kd.C_below HDI.out hb); have nHB := Aside0.mk (below_step HB.out hb); clear HB HDA HDI hb HTI HCC HTA; have HB := nHB; have HDA := nHDA; have HDI := nHDI; clear nHB nHDA nHDI)) | (go_at_call 20; clear M6; (refine (Same_n _ _ (l0.length - 1) _ _ (l0.length - 1) t _ HN0.out.2.2.2.2.1 HN0.out.2.2.2.2.1 HN0.out.2.2.1 HN0.out.2.2.2.1 HDA.out HDI.out HN0.out.2.2.2.2.2.1).mono ?_); (rintro e w15 ⟨rfl, hb⟩; have nHB := Aside0.mk (below_step HB.out hb); clear HB HDA HDI hb; have HB := nHB; clear nHB)) | (go_at_call 10; (refine (awake_calls _).mono ?_); (rintro e w16 ⟨rfl, hb⟩; have nHB := Aside0.mk (below_step HB.out hb); clear HB hb; have HB := nHB; clear nHB)))
      all_goals
        go_wp2
        go_ret
        exact ⟨rfl, HB.out⟩
end Go.Proofs.Ytnpndjdkdcbjcaa.Pq
