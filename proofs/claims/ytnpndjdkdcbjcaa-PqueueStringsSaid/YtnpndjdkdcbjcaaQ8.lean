/- The chapter's example. -/
import Derived.Test.YtnpndjdkdcbjcaaQ7
namespace Go.Proofs.Ytnpndjdkdcbjcaa.Pq
open Go.RowKit Go.Proofs.Ytnpndjdkdcbjcaa.PX Go.Proofs.YtnpndjdkdcbjcaaW.PrintWords Go.Proofs.YtnpndjdkdcbjcaaW.PrintLast Go.Proofs.YtnpndjdkdcbjcaaW.PrintMore
set_option linter.unusedVariables false
set_option linter.unusedSimpArgs false
section
variable {P : Program} {ops : Array Oper} {rest : List Oper} {o : Oper} {a : Act} {Q : Exit → Act → World → Prop}
theorem lit_event {W : World} (hgd : o.guard = none) {N : Tmp} (_hd : o.dst = some N) {cs : Array Value} {t : TypeId} {n : Nat}
    (hrun : (execOp a.eval o).run P W = .ok (.value (.slice (some ⟨W.heap.size, 0, none⟩) n n)) (W.alloc (.cells cs t (0, 0))))
    (h : ∀ g, g = W.heap.size → ∀ w1, w1.heap[g]? = some (.cells cs t (0, 0)) → Below W.heap.size W w1 → wpList P ops Q rest (a.put o.dst (.slice (some ⟨g, 0, none⟩) n n)) w1) : wpList P ops Q (o :: rest) a W :=
  Kd.event_run hgd hrun (h _ rfl _ (blk_new W _) (below_alloc (Below.refl _ _) _))
end
theorem pushL_snoc (lt : S27 → S27 → Bool) (l : List S27) (x : S27) : pushL lt (l ++ [x]) = pushS (bI lt) zI (pushL lt l) (x, (l.length : Int)) := by
  show pushAll lt Prod.fst Prod.snd Prod.mk zI (l ++ [x]) [] 0 = _
  rw [pushAll_snoc, Int.zero_add]
theorem pushL_len (lt : S27 → S27 → Bool) (l : List S27) : (pushL lt l).length = l.length := by
  have h := (pushAll_perm lt Prod.fst Prod.snd Prod.mk zI l [] 0).length_eq
  have h2 := numS_map Prod.fst Prod.mk (fun (_ : S27) (_ : Int) => rfl) l 0
  rw [List.nil_append] at h
  have h3 : (numS Prod.mk 0 l).length = l.length := by
    have := congrArg List.length h2
    simpa using this
  exact h.trans h3
theorem lessT : LessI 31 (ltM 2) := lessM 2
theorem awE : (popS (bI (ltM 2)) zI (popS (bI (ltM 2)) zI (pushL (ltM 2) L4))).length = 2 := by kernel_rfl
theorem awE1 : (popS (bI (ltM 2)) zI (pushL (ltM 2) L4)).length = 3 := by kernel_rfl
set_option maxHeartbeats 2000000 in
set_option maxRecDepth 100000 in
theorem awake_calls (w : World) : Calls Try.prog 10 #[] w fun e w' => e = .returned (.bool true) ∧ Below w.heap.size w w' := by
  have HB := Aside0.mk (Below.refl w.heap.size w)
  obtain ⟨lt, hlt⟩ : ∃ lt, ltM 2 = lt := ⟨_, rfl⟩
  have HLE := Aside0.mk (show LessI 31 lt from hlt ▸ lessT)
  have HP1 := Aside0.mk (show ((pushL lt L4).getD 0 zI) = (⟨12, 1⟩, 1) from by rw [← hlt]; exact awP1)
  have HP2 := Aside0.mk (show ((popS (bI lt) zI (pushL lt L4)).getD 0 zI) = (⟨10, 3⟩, 3) from by rw [← hlt]; exact awP2)
  have HP3 := Aside0.mk (show ((popS (bI lt) zI (popS (bI lt) zI (pushL lt L4))).getD 0 zI) = (⟨31, 0⟩, 0) from by rw [← hlt]; exact awP3)
  have HE1 := Aside0.mk (show (popS (bI lt) zI (pushL lt L4)).length = 3 from by rw [← hlt]; exact awE1)
  have HE2 := Aside0.mk (show (popS (bI lt) zI (popS (bI lt) zI (pushL lt L4))).length = 2 from by rw [← hlt]; exact awE)
  clear hlt
  go_enter Try.func10, Try.ntmps10
  go_wp2_with (first | (go_at_call 11; go_must (refine (new_calls 31 _).mono ?_; rintro e w1 ⟨g, rfl, hq, hb⟩; have HQ := Aside0.mk hq; have HBn := Aside0.mk (below_step HB.out hb); clear HB hb hq; have HB := HBn; clear HBn)) | ((with_reducible refine gate_dst (N := 13) rfl ?_); go_must (refine lit_event ?hg (N := 13) ?hd (cs := #[.int .i64 31, .int .i64 12, .int .i64 35, .int .i64 10]) (t := 3) (n := 4) ?hr ?_; (case hd => rfl); (case hg => rfl); (case hr => first | (go_simp; done) | (go_simp; rfl)); intro gl hg w2 hl hb; have HL := Aside0.mk hl; have HQn := Aside0.mk ((HQ.out.narrow (F' := fun k => w.heap.size ≤ k ∧ k ≠ gl) (fun k hk hf => ⟨hf, fun e => absurd hk (by rw [e, hg]; exact Nat.lt_irrefl _)⟩)).below hb); have HBn := Aside0.mk (below_step HB.out hb); clear HB HQ hl hb; have HB := HBn; have HQ := HQn; clear HBn HQn; clear hg)))
  go_loopg [3] 4 (fun kq v3 wr => ∃ i : Nat, v3 = .int .i64 (i : Int) ∧ Aside0 (i ≤ 4 ∧ kq = 4 - i) ∧ Aside0 (wr.heap[gl]? = some (.cells #[.int .i64 31, .int .i64 12, .int .i64 35, .int .i64 10] 3 (0, 0))) ∧ Aside0 (QI 60 62 kI wr w.heap.size g (fun k => w.heap.size ≤ k ∧ k ≠ gl) 31 (pushL lt (L4.take i)) i) ∧ Aside0 (Below w.heap.size w wr))
  case atStart => exact ⟨0, rfl, ⟨by simp⟩, HL, HQ, HB⟩
  case round =>
    clear HL HQ HB
    obtain ⟨i, rfl, HI, HL, HQ, HB⟩ := hrel
    obtain rfl | rfl | rfl | rfl | rfl : i = 0 ∨ i = 1 ∨ i = 2 ∨ i = 3 ∨ i = 4 := by have := HI.out; omega
    · have f1 : wr.cell? ⟨gl, 0, none⟩ = some (.int .i64 31) := (blk_cell HL.out 0).trans rfl
      go_wp2_with (first
        | (go_at_call 13; go_must (refine (push_calls w.heap.size g _ 31 lt HLE.out (pushL lt (L4.take 0)) 0 31 0 _ HQ.out (fun k hk => ⟨Nat.le_trans HB.out.size hk, fun e => absurd (blk_lt HL.out) (by omega)⟩) (by rw [pushL_len]; decide) (by decide)).mono ?_; rintro e w5 ⟨rfl, hq, hb, hk⟩; have HQ5 := Aside0.mk (show QI 60 62 kI w5 w.heap.size g (fun k => w.heap.size ≤ k ∧ k ≠ gl) 31 (pushL lt (L4.take 1)) (1 : Int) from by rw [show L4.take 1 = L4.take 0 ++ [⟨31, 0⟩] from rfl, pushL_snoc]; exact hq); have HB5 := Aside0.mk (HB.out.trans hb); have HL5 := Aside0.mk ((hk.2 gl (blk_lt HL.out) (fun hf => hf.2 rfl)).trans HL.out); clear HQ HB HL hq hb hk f1)))
      go_roundg (4 - 1)
      case measure => have h_ := HI.out; omega
      case rel => exact ⟨1, rfl, ⟨by omega⟩, HL5, HQ5, HB5⟩
    · have f1 : wr.cell? ⟨gl, 1, none⟩ = some (.int .i64 12) := (blk_cell HL.out 1).trans rfl
      go_wp2_with (first
        | (go_at_call 13; go_must (refine (push_calls w.heap.size g _ 31 lt HLE.out (pushL lt (L4.take 1)) 1 12 1 _ HQ.out (fun k hk => ⟨Nat.le_trans HB.out.size hk, fun e => absurd (blk_lt HL.out) (by omega)⟩) (by rw [pushL_len]; decide) (by decide)).mono ?_; rintro e w5 ⟨rfl, hq, hb, hk⟩; have HQ5 := Aside0.mk (show QI 60 62 kI w5 w.heap.size g (fun k => w.heap.size ≤ k ∧ k ≠ gl) 31 (pushL lt (L4.take 2)) (2 : Int) from by rw [show L4.take 2 = L4.take 1 ++ [⟨12, 1⟩] from rfl, pushL_snoc]; exact hq); have HB5 := Aside0.mk (HB.out.trans hb); have HL5 := Aside0.mk ((hk.2 gl (blk_lt HL.out) (fun hf => hf.2 rfl)).trans HL.out); clear HQ HB HL hq hb hk f1)))
      go_roundg (4 - 2)
      case measure => have h_ := HI.out; omega
      case rel => exact ⟨2, rfl, ⟨by omega⟩, HL5, HQ5, HB5⟩
    · have f1 : wr.cell? ⟨gl, 2, none⟩ = some (.int .i64 35) := (blk_cell HL.out 2).trans rfl
      go_wp2_with (first
        | (go_at_call 13; go_must (refine (push_calls w.heap.size g _ 31 lt HLE.out (pushL lt (L4.take 2)) 2 35 2 _ HQ.out (fun k hk => ⟨Nat.le_trans HB.out.size hk, fun e => absurd (blk_lt HL.out) (by omega)⟩) (by rw [pushL_len]; decide) (by decide)).mono ?_; rintro e w5 ⟨rfl, hq, hb, hk⟩; have HQ5 := Aside0.mk (show QI 60 62 kI w5 w.heap.size g (fun k => w.heap.size ≤ k ∧ k ≠ gl) 31 (pushL lt (L4.take 3)) (3 : Int) from by rw [show L4.take 3 = L4.take 2 ++ [⟨35, 2⟩] from rfl, pushL_snoc]; exact hq); have HB5 := Aside0.mk (HB.out.trans hb); have HL5 := Aside0.mk ((hk.2 gl (blk_lt HL.out) (fun hf => hf.2 rfl)).trans HL.out); clear HQ HB HL hq hb hk f1)))
      go_roundg (4 - 3)
      case measure => have h_ := HI.out; omega
      case rel => exact ⟨3, rfl, ⟨by omega⟩, HL5, HQ5, HB5⟩
    · have f1 : wr.cell? ⟨gl, 3, none⟩ = some (.int .i64 10) := (blk_cell HL.out 3).trans rfl
      go_wp2_with (first
        | (go_at_call 13; go_must (refine (push_calls w.heap.size g _ 31 lt HLE.out (pushL lt (L4.take 3)) 3 10 3 _ HQ.out (fun k hk => ⟨Nat.le_trans HB.out.size hk, fun e => absurd (blk_lt HL.out) (by omega)⟩) (by rw [pushL_len]; decide) (by decide)).mono ?_; rintro e w5 ⟨rfl, hq, hb, hk⟩; have HQ5 := Aside0.mk (show QI 60 62 kI w5 w.heap.size g (fun k => w.heap.size ≤ k ∧ k ≠ gl) 31 (pushL lt (L4.take 4)) (4 : Int) from by rw [show L4.take 4 = L4.take 3 ++ [⟨10, 3⟩] from rfl, pushL_snoc]; exact hq); have HB5 := Aside0.mk (HB.out.trans hb); have HL5 := Aside0.mk ((hk.2 gl (blk_lt HL.out) (fun hf => hf.2 rfl)).trans HL.out); clear HQ HB HL hq hb hk f1)))
      go_roundg (4 - 4)
      case measure => have h_ := HI.out; omega
      case rel => exact ⟨4, rfl, ⟨by omega⟩, HL5, HQ5, HB5⟩
    · have HS := Aside0.mk (Nat.le_refl wr.heap.size)
      have HQ0 := Aside0.mk (HQ.out.narrow (F' := fun k => k < wr.heap.size) (fun k hk _ => hk))
      clear HQ HL HI
      have HQ := HQ0
      clear HQ0
      have HH := Aside0.mk (show pushL lt (List.take 4 L4) = pushL lt L4 from rfl)
      obtain ⟨h4, hh4⟩ : ∃ h4, pushL lt L4 = h4 := ⟨_, rfl⟩
      rw [hh4] at HP1 HP2 HP3 HE1 HE2 HH
      rw [HH.out] at HQ
      have HLN := Aside0.mk (show 0 < h4.length from by rw [← hh4, pushL_len]; decide)
      clear hh4 HH
      have M28 := trivial
      have M33 := trivial
      have HW := Aside0.mk HB.out.size
      go_wp2_with (first
        | (go_at_call 15; clear M28; go_must (refine (pop_calls w.heap.size g _ 31 lt HLE.out h4 _ _ HQ.out HLN.out).mono ?_; rw [HP1.out]; rintro e w10 ⟨rfl, hq, hb, hk⟩; clear HQ; have HQ := Aside0.mk hq; have HBn := Aside0.mk (HB.out.trans hb); clear HB; have HB := HBn; clear HBn; have HSn := Aside0.mk (Nat.le_trans HS.out hk.1.size); clear HS; have HS := HSn; clear HSn hq hb hk))
        | ((with_reducible refine gate_dst (N := 4) rfl ?_); go_must (refine box_event ?hg (N := 4) ?hd (cs := #[.int .i64 0, .int .i64 0]) (t := 27) ?hr ?_; (case hd => rfl); (case hg => rfl); (case hr => first | (go_simp; done) | (go_simp; rfl)); intro g4 hg w11 hbox hb; have GE4 := Aside0.mk (show wr.heap.size ≤ g4 from by rw [hg]; exact HS.out); have BK4 := Aside0.mk hbox; have k0 : w11.cell? ⟨g4, 0, none⟩ = some (.int .i64 0) := (blk_cell hbox 0).trans rfl; have k1 : w11.cell? ⟨g4, 1, none⟩ = some (.int .i64 0) := (blk_cell hbox 1).trans rfl; have k2 := blk_frozen hbox 0; have k3 := blk_frozen hbox 1; have HQn := Aside0.mk (HQ.out.below hb); have HBn := Aside0.mk (below_step HB.out hb); have HSn := Aside0.mk (Nat.le_trans HS.out hb.size); clear HQ HB HS hbox hb hg; have HQ := HQn; have HB := HBn; have HS := HSn; clear HQn HBn HSn))
        | ((with_reducible refine gate_store (t := 27) (p := 4) rfl ?_); go_must (refine store_event (t := 27) (p := 4) (v := ?vo_4) (w1 := ((w11.setCell ⟨g4, 0, none⟩ (.int .i64 12)).setCell ⟨g4, 1, none⟩ (.int .i64 1))) ?hg ?ho ?hn ?hr ?_; (case ho => rfl); (case hg => rfl); (case hn => rfl); (case hr => first | (go_simp; done) | (go_simp; rfl)); intro w12 hw; have n_ := Aside0.mk (show w12.heap[g4]? = some (.cells #[.int .i64 12, .int .i64 1] 27 (0, 0)) from (by rw [hw]; exact put_two BK4.out)); clear BK4; have BK4 := n_; clear n_; have HQn := Aside0.mk (show QI 60 62 kI w12 w.heap.size g (fun k => k < wr.heap.size) 31 _ _ from (by rw [hw]; exact HQ.out.keep (fun k _ hf => (Below.heap_setCell _ ⟨g4, 1, none⟩ _ k (by have := GE4.out; show k ≠ g4; omega)).trans (Below.heap_setCell _ ⟨g4, 0, none⟩ _ k (by have := GE4.out; show k ≠ g4; omega))))); have HBn := Aside0.mk (show Below w.heap.size w w12 from (by rw [hw]; exact (HB.out.setCell (Nat.le_trans HW.out GE4.out) _).setCell (Nat.le_trans HW.out GE4.out) _)); have HSn := Aside0.mk (show wr.heap.size ≤ w12.heap.size from (by rw [hw]; simpa using HS.out)); clear HQ HB HS hw k0 k1 k2 k3; have HQ := HQn; have HB := HBn; have HS := HSn; clear HQn HBn HSn; skip))
        | (go_at_call 15; clear M33; go_must (refine (pop_calls w.heap.size g _ 31 lt HLE.out (popS (bI lt) zI h4) _ _ HQ.out (by rw [HE1.out]; decide)).mono ?_; rw [HP2.out]; rintro e w13 ⟨rfl, hq, hb, hk⟩; have n_ := Aside0.mk ((hk.2 g4 (blk_lt BK4.out) (fun hf => absurd hf (by have := GE4.out; omega))).trans BK4.out); clear BK4; have BK4 := n_; clear n_; clear HQ; have HQ := Aside0.mk hq; have HBn := Aside0.mk (HB.out.trans hb); clear HB; have HB := HBn; clear HBn; have HSn := Aside0.mk (Nat.le_trans HS.out hk.1.size); clear HS; have HS := HSn; clear HSn hq hb hk))
        | ((with_reducible refine gate_dst (N := 6) rfl ?_); go_must (refine box_event ?hg (N := 6) ?hd (cs := #[.int .i64 0, .int .i64 0]) (t := 27) ?hr ?_; (case hd => rfl); (case hg => rfl); (case hr => first | (go_simp; done) | (go_simp; rfl)); intro g6 hg w14 hbox hb; have GE6 := Aside0.mk (show wr.heap.size ≤ g6 from by rw [hg]; exact HS.out); have n_ := Aside0.mk (blk_below BK4.out hb); have NE4_6 := Aside0.mk (show g4 ≠ g6 from fun e => absurd (blk_lt BK4.out) (by omega)); clear BK4; have BK4 := n_; clear n_; have BK6 := Aside0.mk hbox; have k0 : w14.cell? ⟨g6, 0, none⟩ = some (.int .i64 0) := (blk_cell hbox 0).trans rfl; have k1 : w14.cell? ⟨g6, 1, none⟩ = some (.int .i64 0) := (blk_cell hbox 1).trans rfl; have k2 := blk_frozen hbox 0; have k3 := blk_frozen hbox 1; have HQn := Aside0.mk (HQ.out.below hb); have HBn := Aside0.mk (below_step HB.out hb); have HSn := Aside0.mk (Nat.le_trans HS.out hb.size); clear HQ HB HS hbox hb hg; have HQ := HQn; have HB := HBn; have HS := HSn; clear HQn HBn HSn))
        | ((with_reducible refine gate_store (t := 27) (p := 6) rfl ?_); go_must (refine store_event (t := 27) (p := 6) (v := ?vo_6) (w1 := ((w14.setCell ⟨g6, 0, none⟩ (.int .i64 10)).setCell ⟨g6, 1, none⟩ (.int .i64 3))) ?hg ?ho ?hn ?hr ?_; (case ho => rfl); (case hg => rfl); (case hn => rfl); (case hr => first | (go_simp; done) | (go_simp; rfl)); intro w15 hw; have n_ := Aside0.mk (show w15.heap[g4]? = some (.cells #[.int .i64 12, .int .i64 1] 27 (0, 0)) from (by rw [hw]; exact blk_far (blk_far BK4.out (p := ⟨g6, 0, none⟩) NE4_6.out _) (p := ⟨g6, 1, none⟩) NE4_6.out _)); clear BK4; have BK4 := n_; clear n_; have n_ := Aside0.mk (show w15.heap[g6]? = some (.cells #[.int .i64 10, .int .i64 3] 27 (0, 0)) from (by rw [hw]; exact put_two BK6.out)); clear BK6; have BK6 := n_; clear n_; have HQn := Aside0.mk (show QI 60 62 kI w15 w.heap.size g (fun k => k < wr.heap.size) 31 _ _ from (by rw [hw]; exact HQ.out.keep (fun k _ hf => (Below.heap_setCell _ ⟨g6, 1, none⟩ _ k (by have := GE6.out; show k ≠ g6; omega)).trans (Below.heap_setCell _ ⟨g6, 0, none⟩ _ k (by have := GE6.out; show k ≠ g6; omega))))); have HBn := Aside0.mk (show Below w.heap.size w w15 from (by rw [hw]; exact (HB.out.setCell (Nat.le_trans HW.out GE6.out) _).setCell (Nat.le_trans HW.out GE6.out) _)); have HSn := Aside0.mk (show wr.heap.size ≤ w15.heap.size from (by rw [hw]; simpa using HS.out)); clear HQ HB HS hw k0 k1 k2 k3; have HQ := HQn; have HB := HBn; have HS := HSn; clear HQn HBn HSn; skip))
        | (go_at_call 17; go_must (refine (peek_calls w.heap.size g _ 31 (popS (bI lt) zI (popS (bI lt) zI h4)) _ _ HQ.out (by rw [HE2.out]; decide)).mono ?_; rw [HP3.out]; rintro e w16 ⟨rfl, hb⟩; have n_ := Aside0.mk (blk_below BK4.out hb); clear BK4; have BK4 := n_; clear n_; have n_ := Aside0.mk (blk_below BK6.out hb); clear BK6; have BK6 := n_; clear n_; have HQn := Aside0.mk (HQ.out.below hb); have HBn := Aside0.mk (below_step HB.out hb); have HSn := Aside0.mk (Nat.le_trans HS.out hb.size); clear HQ HB HS hb; have HQ := HQn; have HB := HBn; have HS := HSn; clear HQn HBn HSn))
        | ((with_reducible refine gate_dst (N := 8) rfl ?_); go_must (refine box_event ?hg (N := 8) ?hd (cs := #[.int .i64 0, .int .i64 0]) (t := 27) ?hr ?_; (case hd => rfl); (case hg => rfl); (case hr => first | (go_simp; done) | (go_simp; rfl)); intro g8 hg w17 hbox hb; have GE8 := Aside0.mk (show wr.heap.size ≤ g8 from by rw [hg]; exact HS.out); have n_ := Aside0.mk (blk_below BK4.out hb); have NE4_8 := Aside0.mk (show g4 ≠ g8 from fun e => absurd (blk_lt BK4.out) (by omega)); clear BK4; have BK4 := n_; clear n_; have n_ := Aside0.mk (blk_below BK6.out hb); have NE6_8 := Aside0.mk (show g6 ≠ g8 from fun e => absurd (blk_lt BK6.out) (by omega)); clear BK6; have BK6 := n_; clear n_; have BK8 := Aside0.mk hbox; have k0 : w17.cell? ⟨g8, 0, none⟩ = some (.int .i64 0) := (blk_cell hbox 0).trans rfl; have k1 : w17.cell? ⟨g8, 1, none⟩ = some (.int .i64 0) := (blk_cell hbox 1).trans rfl; have k2 := blk_frozen hbox 0; have k3 := blk_frozen hbox 1; have HQn := Aside0.mk (HQ.out.below hb); have HBn := Aside0.mk (below_step HB.out hb); have HSn := Aside0.mk (Nat.le_trans HS.out hb.size); clear HQ HB HS hbox hb hg; have HQ := HQn; have HB := HBn; have HS := HSn; clear HQn HBn HSn))
        | ((with_reducible refine gate_store (t := 27) (p := 8) rfl ?_); go_must (refine store_event (t := 27) (p := 8) (v := ?vo_8) (w1 := ((w17.setCell ⟨g8, 0, none⟩ (.int .i64 31)).setCell ⟨g8, 1, none⟩ (.int .i64 0))) ?hg ?ho ?hn ?hr ?_; (case ho => rfl); (case hg => rfl); (case hn => rfl); (case hr => first | (go_simp; done) | (go_simp; rfl)); intro w18 hw; have n_ := Aside0.mk (show w18.heap[g4]? = some (.cells #[.int .i64 12, .int .i64 1] 27 (0, 0)) from (by rw [hw]; exact blk_far (blk_far BK4.out (p := ⟨g8, 0, none⟩) NE4_8.out _) (p := ⟨g8, 1, none⟩) NE4_8.out _)); clear BK4; have BK4 := n_; clear n_; have n_ := Aside0.mk (show w18.heap[g6]? = some (.cells #[.int .i64 10, .int .i64 3] 27 (0, 0)) from (by rw [hw]; exact blk_far (blk_far BK6.out (p := ⟨g8, 0, none⟩) NE6_8.out _) (p := ⟨g8, 1, none⟩) NE6_8.out _)); clear BK6; have BK6 := n_; clear n_; have n_ := Aside0.mk (show w18.heap[g8]? = some (.cells #[.int .i64 31, .int .i64 0] 27 (0, 0)) from (by rw [hw]; exact put_two BK8.out)); clear BK8; have BK8 := n_; clear n_; have HQn := Aside0.mk (show QI 60 62 kI w18 w.heap.size g (fun k => k < wr.heap.size) 31 _ _ from (by rw [hw]; exact HQ.out.keep (fun k _ hf => (Below.heap_setCell _ ⟨g8, 1, none⟩ _ k (by have := GE8.out; show k ≠ g8; omega)).trans (Below.heap_setCell _ ⟨g8, 0, none⟩ _ k (by have := GE8.out; show k ≠ g8; omega))))); have HBn := Aside0.mk (show Below w.heap.size w w18 from (by rw [hw]; exact (HB.out.setCell (Nat.le_trans HW.out GE8.out) _).setCell (Nat.le_trans HW.out GE8.out) _)); have HSn := Aside0.mk (show wr.heap.size ≤ w18.heap.size from (by rw [hw]; simpa using HS.out)); clear HQ HB HS hw k0 k1 k2 k3; have HQ := HQn; have HB := HBn; have HS := HSn; clear HQn HBn HSn; have f4 : w18.cell? ⟨g4, 0, none⟩ = some (.int .i64 12) := (blk_cell BK4.out 0).trans rfl; have f6 : w18.cell? ⟨g6, 0, none⟩ = some (.int .i64 10) := (blk_cell BK6.out 0).trans rfl; have f8 : w18.cell? ⟨g8, 0, none⟩ = some (.int .i64 31) := (blk_cell BK8.out 0).trans rfl))
        | (go_at_call 19; go_must (refine (len_calls w.heap.size g _ 31 (popS (bI lt) zI (popS (bI lt) zI h4)) _ _ HQ.out).mono ?_; rw [HE2.out]; rintro e w19 ⟨rfl, rfl⟩)))
      go_ret
      exact ⟨rfl, HB.out⟩
end Go.Proofs.Ytnpndjdkdcbjcaa.Pq
