/- The merge of two rows. -/
import Derived.Test.YtnpndjdkdcbjcaaQ9
namespace Go.Proofs.Ytnpndjdkdcbjcaa.Pq
open Go.RowKit Go.Proofs.Ytnpndjdkdcbjcaa.PX Go.Proofs.YtnpndjdkdcbjcaaW.PrintWords Go.Proofs.YtnpndjdkdcbjcaaW.PrintLast Go.Proofs.YtnpndjdkdcbjcaaW.PrintMore
set_option linter.unusedVariables false
set_option linter.unusedSimpArgs false
theorem info27 : (Try.prog.info? 27).map (fun i => (i.zero, i.size, i.bytes)) = some (some (.agg #[.int .i64 0, .int .i64 0]), 2, 16) := by kernel_rfl
section
variable {ops : Array Oper} {rest : List Oper} {o : Oper} {a : Act} {Q : Exit → Act → World → Prop}
theorem make0_event {W : World} (hgd : o.guard = none) {N : Tmp} (_hd : o.dst = some N) (x y : Operand) (ho : o.op = .makeSlice 31 x y) {m : Nat} (hx : a.eval x = .int .i64 0) (hy : a.eval y = .int .i64 (m : Int)) (hm : m ≤ 1000)
    (h : ∀ v w1, k27.R 27 w1 W.heap.size (fun k => W.heap.size ≤ k) v [] → Below W.heap.size W w1 → wpList Try.prog ops Q rest (a.put o.dst v) w1) : wpList Try.prog ops Q (o :: rest) a W := by
  obtain ⟨i0, hi, hzz⟩ := Option.map_eq_some_iff.1 info27
  simp only [Prod.mk.injEq] at hzz
  obtain ⟨hz0, hz1, hz2⟩ := hzz
  have hr := run_make (P := Try.prog) W 31 27 i0 (.agg #[.int .i64 0, .int .i64 0]) Try.underlying31 hi hz0 .i64 .i64 0 (m : Int) (by omega) (by omega) (by rw [hz2]; omega) (by omega)
  simp only [Int.toNat_natCast, Int.toNat_zero] at hr
  rw [hz1] at hr
  refine Kd.event_run (v := .slice (some ⟨W.heap.size, 0, none⟩) 0 m) (w1 := W.alloc (.cells (madeCells (Value.agg #[.int .i64 0, .int .i64 0]).cells (m * 2)) 27)) hgd (by simp [execOp, ho, hx, hy, hr]) (h _ _ ⟨fun k hk => ?_, [], ?_, ?_⟩ (below_alloc (Below.refl _ _) _))
  · have : W.heap.size = k := by simpa [Value.ownBlock] using hk
    omega
  · exact ⟨rfl, Or.inr ⟨W.heap.size, m, _, rfl, Nat.le_refl _, blk_new W _, Nat.zero_le _, by unfold maxLen; omega, by simp [size_madeCells]; rfl, by simp⟩⟩
  · exact Reps.none _ _
end
theorem row_head {w : World} {A : Option Addr} {x : S27} {l : List S27} (h : k27.C w A (x :: l).length (x :: l)) : ∃ ad, A = some ad ∧ w.cell? ad = some (.int .i64 x.f0) ∧ w.cell? ⟨ad.block, ad.off + 1, none⟩ = some (.int .i64 x.f1) := row_at h 0 (by simp)
theorem row_tail {w : World} {ad : Addr} {x : S27} {l : List S27} {c : Nat} (h : k27.C w (some ad) (x :: l).length (x :: l)) (hc : (x :: l).length ≤ c) (hne : c ≠ 1) : k27.C w (some ⟨ad.block, ad.off + 2, none⟩) l.length l := by
  have h2 := Kd.C_drop h (m := 1) (by simp) hc
  rw [if_neg hne] at h2
  exact h2
theorem row_tail1 {w : World} {ad : Addr} {x : S27} {l : List S27} (h : k27.C w (some ad) (x :: l).length (x :: l)) (hc : (x :: l).length ≤ 1) : k27.C w (some ad) l.length l := by
  have h2 := Kd.C_drop h (m := 1) (c := 1) (by simp) hc
  exact h2
theorem k27_KM {w : World} {base : Nat} {ok : Nat → Prop} (x : S27) (cs : List Value) (h : k27.K w x cs) : k27.M w base ok x cs := by rw [k27_open h]; exact k27_mkM _ _ _ x
set_option maxHeartbeats 2000000 in
set_option maxRecDepth 100000 in
theorem merged_calls (K : Nat) (lt : S27 → S27 → Bool) (HLE : LessI K lt) (A1 : Option Addr) (c1 : Nat) (l1 : List S27) (A2 : Option Addr) (c2 : Nat) (l2 : List S27) (w : World) (hr1 : k27.C w A1 l1.length l1) (hc1 : l1.length ≤ c1) (hr2 : k27.C w A2 l2.length l2) (hc2 : l2.length ≤ c2) (hn : l1.length + l2.length ≤ 1000) :
    Calls Try.prog 38 #[.slice A1 l1.length c1, .slice A2 l2.length c2, .func (.func K) #[] #[]] w fun e w' => ∃ v, e = .returned v ∧ k27.R 27 w' w.heap.size (fun k => w.heap.size ≤ k) v (mrg lt l1 l2) ∧ Below w.heap.size w w' := by
  have HR1 := Aside0.mk hr1
  have HR2 := Aside0.mk hr2
  have HC := Aside0.mk (show l1.length ≤ c1 ∧ l2.length ≤ c2 from ⟨hc1, hc2⟩)
  have HN := Aside0.mk hn
  have HB := Aside0.mk (Below.refl w.heap.size w)
  have HLS := Aside0.mk (show ∀ (a b : S27) (w : World), Calls Try.prog K #[.agg #[.int .i64 a.f0, .int .i64 a.f1], .agg #[.int .i64 b.f0, .int .i64 b.f1]] w fun e w' => e = .returned (.bool (lt a b)) ∧ Below w.heap.size w w' from HLE.2)
  have hen := HLE.1
  obtain ⟨ms, hms⟩ : ∃ ms, mrg lt l1 l2 = ms := ⟨_, rfl⟩
  rw [hms]
  have HMS := Aside0.mk hms
  have q1 : wrap64 ((l1.length : Int) + (l2.length : Int)) = ((l1.length + l2.length : Nat) : Int) := by unfold wrap64; omega
  have HQ1 := Aside0.mk q1
  clear HLE hr1 hr2 hc1 hc2 hn hms
  go_enter Try.func38, Try.ntmps38
  go_wp2_with (first | ((with_reducible refine gate_dst (N := 13) rfl ?_); go_must (refine make0_event ?hg (N := 13) ?hd (.const (.int .i64 0)) (.tmp 12) ?ho (m := l1.length + l2.length) ?hx ?hy HN.out ?_; (case hd => rfl); (case hg => rfl); (case ho => rfl); (case hx => rfl); (case hy => first | rfl | (show Value.int .i64 _ = _; rw [HQ1.out])); intro v w1 hr hb; have HO := Aside0.mk hr; have nHB := Aside0.mk (below_step HB.out hb); clear HB hr hb; have HB := nHB; clear nHB)))
  clear q1 HQ1
  go_loopg [0, 1, 7] (l1.length + l2.length) (fun kq v0 v1 v7 wr => ∃ (A1 : Option Addr) (c1 : Nat) (l1 : List S27) (A2 : Option Addr) (c2 : Nat) (l2 : List S27) (acc : List S27) (Ao : Option Addr) (co : Nat), v0 = .slice A1 l1.length c1 ∧ v1 = .slice A2 l2.length c2 ∧ v7 = .slice Ao acc.length co ∧ Aside0 (acc ++ mrg lt l1 l2 = ms) ∧ Aside0 (k27.C w A1 l1.length l1) ∧ Aside0 (k27.C w A2 l2.length l2) ∧ Aside0 (l1.length ≤ c1 ∧ l2.length ≤ c2 ∧ acc.length + l1.length + l2.length ≤ 1000 ∧ kq = l1.length + l2.length) ∧ Aside0 (k27.R 27 wr w.heap.size (fun k => w.heap.size ≤ k) (.slice Ao acc.length co) acc) ∧ Aside0 (Below w.heap.size w wr))
  case atStart =>
    obtain ⟨Ao, co, rfl⟩ := Kd.R_slice HO.out
    exact ⟨A1, c1, l1, A2, c2, l2, [], Ao, co, rfl, rfl, rfl, ⟨HMS.out⟩, HR1, HR2, ⟨HC.out.1, HC.out.2, by have := HN.out; simp; omega, rfl⟩, HO, HB⟩
  case round =>
    clear HO HB HMS HR1 HR2 HC HN
    obtain ⟨B1, d1, m1, B2, d2, m2, acc, Ao, co, rfl, rfl, rfl, HMS, HR1, HR2, HI, HO, HB⟩ := hrel
    cases m1 with
    | nil =>
      have HFS := Aside0.mk (show (acc ++ ([] : List S27)) ++ m2 = ms from by rw [← HMS.out]; simp [mrg])
      clear HMS
      go_wp2_with (first
        | ((with_reducible refine gate_builtin (b := .append) (xs := #[.tmp 46, .tmp 47]) rfl ?_); go_must (at_builtin; refine Kd.R_append_rows k27 (w0 := wr) w.heap.size rfl (.tmp 46) (.tmp 47) 31 27 (.agg #[.int .i64 0, .int .i64 0]) 16 rfl Try.underlying31 info27 rfl (by decide) (by decide) _ (acc) (([] : List S27)) _ _ _ (fun k => w.heap.size ≤ k) (fun _ => False) rfl rfl HO.out (Kd.C_below HR1.out HB.out) k27_KM (fun _ h => h.elim) ?aF (Below.refl _ _) HB.out.size ?aL ?_; (case aF => exact fun k hk => Nat.le_trans HB.out.size hk); (case aL => have := HI.out; simp at this ⊢; omega); intro v2 w2 hr2 hb2 hg2 hat2; have nHO := Aside0.mk hr2; have nHB := Aside0.mk (HB.out.trans hb2); clear HB HO hr2 hb2 hg2 hat2; have HO := nHO; have HB := nHB; clear nHO nHB))
        | ((with_reducible refine gate_builtin (b := .append) (xs := #[.tmp 48, .tmp 49]) rfl ?_); go_must (at_builtin; refine Kd.R_append_rows k27 (w0 := w2) w.heap.size rfl (.tmp 48) (.tmp 49) 31 27 (.agg #[.int .i64 0, .int .i64 0]) 16 rfl Try.underlying31 info27 rfl (by decide) (by decide) _ (acc ++ ([] : List S27)) (m2) _ _ _ (fun k => w.heap.size ≤ k) (fun _ => False) rfl rfl HO.out (Kd.C_below HR2.out HB.out) k27_KM (fun _ h => h.elim) ?aF (Below.refl _ _) HB.out.size ?aL ?_; (case aF => exact fun k hk => Nat.le_trans HB.out.size hk); (case aL => have := HI.out; simp at this ⊢; omega); intro v3 w3 hr2 hb2 hg2 hat2; have nHO := Aside0.mk hr2; have nHB := Aside0.mk (HB.out.trans hb2); clear HB HO hr2 hb2 hg2 hat2; have HO := nHO; have HB := nHB; clear nHO nHB)))
      go_ret
      exact ⟨_, rfl, HFS.out ▸ HO.out, HB.out⟩
    | cons x m1 =>
      cases m2 with
      | nil =>
        have HFS := Aside0.mk (show (acc ++ (x :: m1)) ++ ([] : List S27) = ms from by rw [← HMS.out]; simp [mrg_nil])
        clear HMS
        go_wp2_with (first
          | ((with_reducible refine gate_builtin (b := .append) (xs := #[.tmp 46, .tmp 47]) rfl ?_); go_must (at_builtin; refine Kd.R_append_rows k27 (w0 := wr) w.heap.size rfl (.tmp 46) (.tmp 47) 31 27 (.agg #[.int .i64 0, .int .i64 0]) 16 rfl Try.underlying31 info27 rfl (by decide) (by decide) _ (acc) ((x :: m1)) _ _ _ (fun k => w.heap.size ≤ k) (fun _ => False) rfl rfl HO.out (Kd.C_below HR1.out HB.out) k27_KM (fun _ h => h.elim) ?aF (Below.refl _ _) HB.out.size ?aL ?_; (case aF => exact fun k hk => Nat.le_trans HB.out.size hk); (case aL => have := HI.out; simp at this ⊢; omega); intro v2 w2 hr2 hb2 hg2 hat2; have nHO := Aside0.mk hr2; have nHB := Aside0.mk (HB.out.trans hb2); clear HB HO hr2 hb2 hg2 hat2; have HO := nHO; have HB := nHB; clear nHO nHB))
          | ((with_reducible refine gate_builtin (b := .append) (xs := #[.tmp 48, .tmp 49]) rfl ?_); go_must (at_builtin; refine Kd.R_append_rows k27 (w0 := w2) w.heap.size rfl (.tmp 48) (.tmp 49) 31 27 (.agg #[.int .i64 0, .int .i64 0]) 16 rfl Try.underlying31 info27 rfl (by decide) (by decide) _ (acc ++ (x :: m1)) (([] : List S27)) _ _ _ (fun k => w.heap.size ≤ k) (fun _ => False) rfl rfl HO.out (Kd.C_below HR2.out HB.out) k27_KM (fun _ h => h.elim) ?aF (Below.refl _ _) HB.out.size ?aL ?_; (case aF => exact fun k hk => Nat.le_trans HB.out.size hk); (case aL => have := HI.out; simp at this ⊢; omega); intro v3 w3 hr2 hb2 hg2 hat2; have nHO := Aside0.mk hr2; have nHB := Aside0.mk (HB.out.trans hb2); clear HB HO hr2 hb2 hg2 hat2; have HO := nHO; have HB := nHB; clear nHO nHB)))
        go_ret
        exact ⟨_, rfl, HFS.out ▸ HO.out, HB.out⟩
      | cons y m2 =>
        obtain ⟨ad1, hae, f1, f2⟩ := row_head (Kd.C_below HR1.out HB.out)
        cases hae
        obtain ⟨ad2, hae, f3, f4⟩ := row_head (Kd.C_below HR2.out HB.out)
        cases hae
        have g1 : wr.drew.cell? ad1 = some (.int .i64 x.f0) := f1
        have g2 : wr.drew.cell? ⟨ad1.block, ad1.off + 1, none⟩ = some (.int .i64 x.f1) := f2
        have g3 : wr.drew.cell? ad2 = some (.int .i64 y.f0) := f3
        have g4 : wr.drew.cell? ⟨ad2.block, ad2.off + 1, none⟩ = some (.int .i64 y.f1) := f4
        obtain ⟨q, hq⟩ : ∃ q, lt y x = q := ⟨_, rfl⟩
        have HQ := Aside0.mk hq
        clear hq f1 f2 f3 f4
        go_wp2
        go_still_tail 7, (by kernel_rfl)
        generalize hwd : ({ heap := wr.heap, tape := wr.tape, drawn := wr.drawn + 1, os := wr.os, output := wr.output } : World) = wd
        have HBd := Aside0.mk (show Below w.heap.size w wd from by rw [← hwd]; exact HB.out.drew)
        have HOd := Aside0.mk (show k27.R 27 wd w.heap.size (fun k => w.heap.size ≤ k) (.slice Ao acc.length co) acc from by rw [← hwd]; exact Kd.R_drew HO.out)
        clear hwd HB HO g1 g2 g3 g4
        cases q
        · go_wp2_with (first | ((with_reducible refine (HLS.out y x _).mono ?_); go_must (rw [HQ.out]; rintro e w5 ⟨rfl, hb⟩; have HB := Aside0.mk (HBd.out.trans (hb.mono HBd.out.size)); have HO := Aside0.mk (Kd.R_below HOd.out hb); clear HBd HOd hb)))
          obtain ⟨ad, hae, f1, f2⟩ := row_head (Kd.C_below (HR1).out HB.out)
          cases hae
          have e1 : w5.drew.cell? ad1 = some (.int .i64 x.f0) := f1
          have e2 : w5.drew.cell? ⟨ad1.block, ad1.off + 1, none⟩ = some (.int .i64 x.f1) := f2
          have PF := Aside0.mk (show ∀ k, w5.drew.heap.size ≤ k → w.heap.size ≤ k from fun k hk => Nat.le_trans HB.out.size hk)
          have PS := Aside0.mk (show w.heap.size ≤ w5.drew.heap.size from HB.out.size)
          have PL := Aside0.mk (show (acc.length + 1) * 16 ≤ 140737488355328 from by have := HI.out; simp at this; omega)
          have PR := Aside0.mk (Kd.R_drew HO.out)
          have s1 : (1 : Int) ≤ (m1.length : Int) + 1 := by omega
          have s2 := HI.out
          go_region_law ((refine Kd.R_append_step k27 (w0 := w5.drew) (W := w5.drew) w.heap.size (by simp [Region.wanted]) (.tmp 38) (.tmp 42) 31 27 (.agg #[.int .i64 0, .int .i64 0]) 16 rfl Try.underlying31 info27 rfl (by decide) (by decide) (.slice Ao acc.length co) acc x [.int .i64 x.f0, .int .i64 x.f1] (fun k => w.heap.size ≤ k) (fun _ => False) (by simp [Act.eval, Act.put]) (by simp [Act.eval, Act.put]) (k27_mkM _ _ _ _) (fun _ h => h.elim) PF.out PR.out (Below.refl _ _) PS.out PL.out ?_); intro v2 w2 hr2 hb2 hg2 hat2; have HO2 := Aside0.mk hr2; have HB2 := Aside0.mk (HB.out.drew.trans hb2); clear hr2 hb2 hg2 hat2)
          all_goals
            go_wp2
            all_goals
              obtain ⟨Ao2, co2, rfl⟩ := Kd.R_slice HO2.out
              go_roundg (m1.length + (y :: m2).length)
              case measure => have h_ := HI.out; simp only [List.length_cons] at h_ ⊢; omega
              case rel => first | exact ⟨_, _, m1, _, _, (y :: m2), acc ++ [x], Ao2, co2, rfl, rfl, rfl, ⟨by rw [← HMS.out, mrg, HQ.out]; simp⟩, ⟨row_tail HR1.out (c := d1) HI.out.1 (by omega)⟩, HR2, ⟨by have h_ := HI.out; have e1_ : (y :: m2).length = m2.length + 1 := rfl; have e2_ : (x :: m1).length = m1.length + 1 := rfl; have e3_ : (acc ++ [x]).length = acc.length + 1 := (by simp); omega⟩, HO2, HB2⟩ | exact ⟨_, _, m1, _, _, (y :: m2), acc ++ [x], Ao2, co2, rfl, rfl, rfl, ⟨by rw [← HMS.out, mrg, HQ.out]; simp⟩, ⟨row_tail1 HR1.out (by have h_ := HI.out.1; omega)⟩, HR2, ⟨by have h_ := HI.out; have e1_ : (y :: m2).length = m2.length + 1 := rfl; have e2_ : (x :: m1).length = m1.length + 1 := rfl; have e3_ : (acc ++ [x]).length = acc.length + 1 := (by simp); omega⟩, HO2, HB2⟩
        · go_wp2_with (first | ((with_reducible refine (HLS.out y x _).mono ?_); go_must (rw [HQ.out]; rintro e w5 ⟨rfl, hb⟩; have HB := Aside0.mk (HBd.out.trans (hb.mono HBd.out.size)); have HO := Aside0.mk (Kd.R_below HOd.out hb); clear HBd HOd hb)))
          obtain ⟨ad, hae, f1, f2⟩ := row_head (Kd.C_below (HR2).out HB.out)
          cases hae
          have e1 : w5.drew.cell? ad2 = some (.int .i64 y.f0) := f1
          have e2 : w5.drew.cell? ⟨ad2.block, ad2.off + 1, none⟩ = some (.int .i64 y.f1) := f2
          have PF := Aside0.mk (show ∀ k, w5.drew.heap.size ≤ k → w.heap.size ≤ k from fun k hk => Nat.le_trans HB.out.size hk)
          have PS := Aside0.mk (show w.heap.size ≤ w5.drew.heap.size from HB.out.size)
          have PL := Aside0.mk (show (acc.length + 1) * 16 ≤ 140737488355328 from by have := HI.out; simp at this; omega)
          have PR := Aside0.mk (Kd.R_drew HO.out)
          have s1 : (1 : Int) ≤ (m2.length : Int) + 1 := by omega
          have s2 := HI.out
          go_region_law ((refine Kd.R_append_step k27 (w0 := w5.drew) (W := w5.drew) w.heap.size (by simp [Region.wanted]) (.tmp 30) (.tmp 34) 31 27 (.agg #[.int .i64 0, .int .i64 0]) 16 rfl Try.underlying31 info27 rfl (by decide) (by decide) (.slice Ao acc.length co) acc y [.int .i64 y.f0, .int .i64 y.f1] (fun k => w.heap.size ≤ k) (fun _ => False) (by simp [Act.eval, Act.put]) (by simp [Act.eval, Act.put]) (k27_mkM _ _ _ _) (fun _ h => h.elim) PF.out PR.out (Below.refl _ _) PS.out PL.out ?_); intro v2 w2 hr2 hb2 hg2 hat2; have HO2 := Aside0.mk hr2; have HB2 := Aside0.mk (HB.out.drew.trans hb2); clear hr2 hb2 hg2 hat2)
          all_goals
            go_wp2
            all_goals
              obtain ⟨Ao2, co2, rfl⟩ := Kd.R_slice HO2.out
              go_roundg ((x :: m1).length + m2.length)
              case measure => have h_ := HI.out; simp only [List.length_cons] at h_ ⊢; omega
              case rel => first | exact ⟨_, _, (x :: m1), _, _, m2, acc ++ [y], Ao2, co2, rfl, rfl, rfl, ⟨by rw [← HMS.out, mrg, HQ.out]; simp⟩, HR1, ⟨row_tail HR2.out (c := d2) HI.out.2.1 (by omega)⟩, ⟨by have h_ := HI.out; have e1_ : (y :: m2).length = m2.length + 1 := rfl; have e2_ : (x :: m1).length = m1.length + 1 := rfl; have e3_ : (acc ++ [y]).length = acc.length + 1 := (by simp); omega⟩, HO2, HB2⟩ | exact ⟨_, _, (x :: m1), _, _, m2, acc ++ [y], Ao2, co2, rfl, rfl, rfl, ⟨by rw [← HMS.out, mrg, HQ.out]; simp⟩, HR1, ⟨row_tail1 HR2.out (by have h_ := HI.out.2.1; omega)⟩, ⟨by have h_ := HI.out; have e1_ : (y :: m2).length = m2.length + 1 := rfl; have e2_ : (x :: m1).length = m1.length + 1 := rfl; have e3_ : (acc ++ [y]).length = acc.length + 1 := (by simp); omega⟩, HO2, HB2⟩
end Go.Proofs.Ytnpndjdkdcbjcaa.Pq
