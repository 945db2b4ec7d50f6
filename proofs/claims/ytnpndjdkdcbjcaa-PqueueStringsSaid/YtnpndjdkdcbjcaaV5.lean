/- New, Len, Peek. -/
import Derived.Test.YtnpndjdkdcbjcaaV4
namespace Go.Proofs.Ytnpndjdkdcbjcaa.Pv
open Go.RowKit Go.Proofs.Ytnpndjdkdcbjcaa.Pq Go.Proofs.Ytnpndjdkdcbjcaa.PX Go.Proofs.YtnpndjdkdcbjcaaW.PrintWords Go.Proofs.YtnpndjdkdcbjcaaW.PrintLast Go.Proofs.YtnpndjdkdcbjcaaW.PrintMore
set_option linter.unusedVariables false
set_option linter.unusedSimpArgs false
theorem eqlF (K : Nat) (w : World) : (binOp .eql 52 (.func (.func K) #[] #[]) .nilFunc).run Try.prog w = .ok (.bool false) w := by kernel_rfl
set_option maxHeartbeats 400000 in
theorem new_calls (K : Nat) (w : World) :
    Calls Try.prog 26 #[.func (.func K) #[] #[]] w fun e w' => ∃ g, e = .returned (.pointer (some ⟨g, 0, none⟩)) ∧ QI 69 71 kI w' w.heap.size g (fun k => w.heap.size ≤ k) K [] 0 ∧ Below w.heap.size w w' := by
  have HB := Aside0.mk (Below.refl w.heap.size w)
  have q28 := eqlF
  go_enter Try.func26, Try.ntmps26
  go_wp2_with (first | ((with_reducible refine gate_dst (N := 7) rfl ?_); go_must (refine box_event ?hg (N := 7) ?hd (cs := #[.func (.func K) #[] #[], .slice none 0 0, .int .i64 0]) (t := 69) ?hr ?_; (case hd => rfl); (case hg => rfl); (case hr => first | (go_simp; done) | (go_simp; rfl)); intro g hg w1 hbox hb; have BK := Aside0.mk hbox; have HG := Aside0.mk hg; have HB1 := Aside0.mk (below_step HB.out hb); clear hbox hb hg HB)))
  go_ret
  exact ⟨g, rfl, ⟨⟨Nat.le_of_eq HG.out.symm, Nat.le_of_eq HG.out.symm⟩, by simp, .slice none 0 0, BK.out, Kd.R_nil _ _ _ _ _⟩, HB1.out⟩
set_option maxHeartbeats 1000000 in
theorem peek_calls (B g : Nat) (F : Nat → Prop) (K : Nat) (h : List (ByteArray × Int)) (num : Int) (w : World) (hQ : QI 69 71 kI w B g F K h num) (h0 : 0 < h.length) :
    Calls Try.prog 43 #[.pointer (some ⟨g, 0, none⟩)] w fun e w' => e = .returned (.tuple #[.string (h.getD 0 zI).1, .bool true]) ∧ w' = w := by
  obtain ⟨_, _, v_, hg_, hR_⟩ := hQ
  obtain ⟨gr, cap, rfl, _, _, _⟩ := Kd.R_form hR_ h0
  obtain ⟨a0, _, _⟩ := cells_I hR_ 0 h0
  have d1 : ((h.length : Int) == 0) = false := by rw [beq_eq_false_iff_ne]; omega
  have p1 := eq_true (show (0 : Int) < (h.length : Int) from by omega)
  have p2 := eq_true h0
  obtain ⟨x, hx⟩ : ∃ x, h.getD 0 zI = x := ⟨_, rfl⟩
  rw [hx]
  rw [show atI h 0 = x from hx] at a0
  have f1 : w.cell? ⟨g, 1, none⟩ = some (.slice (some ⟨gr, 0, none⟩) h.length cap) := (blk_cell hg_ 1).trans rfl
  clear hg_ hR_ hx h0
  go_enter Try.func43, Try.ntmps43
  go_wp2
  exact bodyPost_ret (v := .tuple #[.string x.1, .bool true]) (by simp [results, Try.results43, go_sem]) rfl ⟨rfl, rfl⟩
theorem QI.cut {w : World} {B g K : Nat} {F : Nat → Prop} {h : List (ByteArray × Int)} {num : Int} {A : Option Addr} {c : Nat} (q : QI 69 71 kI w B g F K h num) (hg : w.heap[g]? = some (.cells #[.func (.func K) #[] #[], .slice A h.length c, .int .i64 num] 69 (0, 0))) (m : Nat) (hm : m ≤ h.length) :
    QI 69 71 kI (w.setCell ⟨g, 1, none⟩ (.slice A m c)) B g F K (h.take m) num := by
  obtain ⟨hb, hl, v, hg', hR⟩ := q
  have hv : v = .slice A h.length c := by rw [hg] at hg'; injection hg' with hg'; injection hg' with hg'; injection hg' with hg'; injection hg' with _ hg'; injection hg' with hg' _; exact hg'.symm
  subst hv
  exact ⟨hb, by rw [List.length_take]; omega, .slice A m c, blk_put hg 1 _ rfl, Kd.R_far (Kd.R_take hR hm) (fun k hk e => hk.1 e) _⟩
theorem swap_zero (B g : Nat) (F : Nat → Prop) (K : Nat) (h : List (ByteArray × Int)) (num : Int) (k : Nat) (w : World) (hQ : QI 69 71 kI w B g F K h num) (hk : k < h.length) :
    Calls Try.prog 41 #[.pointer (some ⟨g, 0, none⟩), .int .i64 0, .int .i64 (k : Int)] w fun e w' => e = .returned (.tuple #[]) ∧ QI 69 71 kI w' B g F K (swp zI h 0 k) num ∧ Keeps F w w' ∧ Below B w w' := swap_calls' B g F K h num 0 k w hQ (by omega) hk
set_option maxHeartbeats 2000000 in
set_option maxRecDepth 100000 in
theorem pop_calls (B g : Nat) (F : Nat → Prop) (K : Nat) (lt : ByteArray → ByteArray → Bool) (HLE : LessI K lt) (h : List (ByteArray × Int)) (num : Int) (w : World) (hQ : QI 69 71 kI w B g F K h num) (h0 : 0 < h.length) :
    Calls Try.prog 30 #[.pointer (some ⟨g, 0, none⟩)] w fun e w' => e = .returned (.tuple #[.string (h.getD 0 zI).1, .bool true]) ∧ QI 69 71 kI w' B g F K (popS (bI lt) zI h) num ∧ Below B w w' ∧ Keeps F w w' := by
  have HQ := Aside0.mk hQ
  have H0 := Aside0.mk h0
  obtain ⟨x, hx⟩ : ∃ x, (h.getD 0 zI).1 = x := ⟨_, rfl⟩
  rw [hx]
  have HX := Aside0.mk hx
  obtain ⟨m, hm⟩ : ∃ m, h.length - 1 = m := ⟨_, rfl⟩
  have HM := Aside0.mk (show h.length = m + 1 ∧ h.length ≤ 1000 from ⟨by omega, hQ.2.1⟩)
  have l1 : wrap64 ((h.length : Int) - 1) = (m : Int) := by have := HM.out; unfold wrap64; omega
  have l2 : IntKind.i64.wrap ((h.length : Int) - 1) = (m : Int) := by have := HM.out; rw [IntKind.wrap_i64]; omega
  clear hm
  clear hQ h0 hx
  go_enter Try.func30, Try.ntmps30
  go_wp2_with (first
    | (go_at_call 43; go_must (refine (peek_calls B g _ K h num _ HQ.out H0.out).mono ?_; rw [HX.out]; rintro e w2 ⟨rfl, hw_⟩; obtain rfl := hw_.symm; obtain ⟨A, c, hg_, _, _⟩ := HQ.out.row; have f1 : w.cell? ⟨g, 1, none⟩ = some (.slice A h.length c) := (blk_cell hg_ 1).trans rfl; clear hg_))
    | (go_at_call 41; go_must (refine (swap_zero B g _ K h num m _ HQ.out (by have := HM.out; omega)).mono ?_; rintro e w5 ⟨rfl, hq, hk, hb⟩; have HQ1 := Aside0.mk hq; have HBB := Aside0.mk hb; have HKK := Aside0.mk hk; clear HQ hq hk hb f1; have HQ := HQ1; clear HQ1; obtain ⟨A5, c5, hg_, hc_, _⟩ := HQ.out.row; rw [swp_len] at hc_; rw [swp_len, HM.out.1] at hg_; have f1 : w5.cell? ⟨g, 1, none⟩ = some (.slice A5 (m + 1) c5) := (blk_cell hg_ 1).trans rfl; have f2 := blk_frozen hg_ 1; have p1 := eq_true (show (m : Int) ≤ (c5 : Int) from by have := HM.out; omega); have p2 := eq_true (show m ≤ c5 from by have := HM.out; omega); have BKG := Aside0.mk hg_; clear hg_ hc_))
    | ((with_reducible refine gate_store (t := 67) (p := 32) rfl ?_); go_must (refine store_event (t := 67) (p := 32) (v := ?vo_w6) (w1 := (w5.setCell ⟨g, 1, none⟩ (.slice A5 m c5))) ?hg ?ho ?hn ?hr ?_; (case ho => rfl); (case hg => rfl); (case hn => rfl); (case hr => first | (go_simp; done) | (go_simp; rfl)); intro w6 hw; have HQ6 := Aside0.mk (show QI 69 71 kI w6 B g F K ((swp zI h 0 m).take m) num from (by rw [hw]; exact QI.cut HQ.out (by rw [swp_len, HM.out.1]; exact BKG.out) m (by rw [swp_len]; have := HM.out; omega))); have HGG := Aside0.mk (show F g ∧ B ≤ g from ⟨HQ.out.1.2, HQ.out.1.1⟩); have HB6 := Aside0.mk (show Below B w w6 from (by rw [hw]; exact HBB.out.setCell HGG.out.2 _)); have HK6 := Aside0.mk (show Keeps F w w6 from (by rw [hw]; exact HKK.out.trans (Keeps.setCell w5 HGG.out.1 _))); clear hw HQ HBB HKK BKG f1 f2 p1 p2))
    | (go_at_call 44; go_must (refine (sink_calls B g _ K lt HLE ((swp zI h 0 m).take m) num _ HQ6.out).mono ?_; rintro e w7 ⟨rfl, hq, hb, hk⟩; have HQ7 := Aside0.mk hq; have HB7 := Aside0.mk (HB6.out.trans hb); have HK7 := Aside0.mk (HK6.out.trans hk); clear HQ6 HB6 HK6 hq hb hk)))
  have hp : popS (bI lt) zI h = sinkS (bI lt) zI ((swp zI h 0 m).take m).length ((swp zI h 0 m).take m) 0 := by
    unfold popS
    rw [HM.out.1, Nat.add_sub_cancel, List.length_take, swp_len, HM.out.1, Nat.min_eq_left (by omega)]
  have HP := Aside0.mk hp
  clear hp
  exact bodyPost_ret (v := .tuple #[.string x, .bool true]) (by simp [results, Try.results30, go_sem]) rfl ⟨rfl, by rw [HP.out]; exact HQ7.out, HB7.out, HK7.out⟩
end Go.Proofs.Ytnpndjdkdcbjcaa.Pv
