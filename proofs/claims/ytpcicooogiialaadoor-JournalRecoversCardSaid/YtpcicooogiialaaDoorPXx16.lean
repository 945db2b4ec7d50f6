-- Written by a program of this session (hyb.py), which runs the print over the translation with contracts of its own added; it is not the print itself. Lean checks it.
import Derived.Test.YtpcicooogiialaaDoorPXx0
import Derived.Test.YtpcicooogiialaaDoorPXx1
import Derived.Test.YtpcicooogiialaaDoorPXx7
import Derived.Test.YtpcicooogiialaaDoorPXx12
import Derived.Test.YtpcicooogiialaaDoorPXx15
namespace Go.Proofs.YtpcicooogiialaaDoor.PX
open Go.RowKit Go.Proofs.YtpcicooogiialaaDoorW.PrintWords Go.Proofs.YtpcicooogiialaaDoorW.PrintLast Go.Proofs.YtpcicooogiialaaDoorW.PrintMore
attribute [local go_sem] max2_int min2_int max_two min_two max_three min_three max_four min_four   -- for this text's walks alone
set_option linter.unusedVariables false
set_option linter.unusedSimpArgs false

/-! ### papermillref61_Recover: function 24 -/
def papermillref61_Recover.l0 : Nat → List Int → List S24 → Int → Option (List S24 × Int)
  | 0, _, _, _ => none
  | k + 1, l0, acc, at_ => if 0 ≤ at_ ∧ at_ ≤ (l0.length : Int) ∧ l0.length ≤ 1000000 ∧ acc.length ≤ 1000000 then (papermillref09_Open.f k (l0.drop at_.toNat)).bind fun t => if t.2.2 = 0 then (papermillref61_Get.f k t.1).bind fun g => if g.2.2.2.2.2.2.2 = 0 then (if 0 < acc.length ∧ g.2.1 < (rd_T24 acc ((acc.length : Int) - 1)).f1 then some (acc, at_) else if 0 ≤ t.2.1 ∧ t.2.1 ≤ (l0.length : Int) then papermillref61_Recover.l0 k l0 (acc ++ [⟨g.1, g.2.1, g.2.2.1, g.2.2.2.1, g.2.2.2.2.1, g.2.2.2.2.2.1, g.2.2.2.2.2.2.1⟩]) (at_ + t.2.1) else none) else some (acc, at_) else some (acc, at_) else none
def papermillref61_Recover.f (k : Nat) (l0 : List Int) : Option (List S24 × Int) := papermillref61_Recover.l0 k l0 [] 0
theorem papermillref61_Recover.mono_l : ∀ k l0 acc a, LeO (papermillref61_Recover.l0 k l0 acc a) (papermillref61_Recover.l0 (k + 1) l0 acc a)
  | 0, l0, acc, a => by
    intro r h
    simp [papermillref61_Recover.l0] at h
  | k + 1, l0, acc, a => by
    unfold papermillref61_Recover.l0
    repeat' first
      | (with_reducible exact LeO.refl _)
      | (with_reducible exact LeO.none _)
      | exact papermillref61_Recover.mono_l k _ _ _
      | exact papermillref09_Open.mono _ _
      | exact papermillref61_Get.mono _ _
      | (with_reducible refine LeO.ite ?_ ?_)
      | (with_reducible refine LeO.bind ?_ (fun _ => ?_))
theorem papermillref61_Recover.mono : ∀ a0 k, LeO (papermillref61_Recover.f k a0) (papermillref61_Recover.f (k + 1) a0) := fun a0 k => papermillref61_Recover.mono_l k a0 [] 0
set_option maxHeartbeats 4000000 in
set_option maxRecDepth 100000 in
theorem papermillref61_Recover.calls (k : Nat) (A0 : Option Addr) (c0 : Nat) (l0 : List Int) (r1 : List S24) (r2 : Int) (w : World) (hr0 : Kd.C (Kd.int .u8) w A0 l0.length l0) (hc0 : l0.length ≤ c0) (h : papermillref61_Recover.f k l0 = some (r1, r2)) :
    Calls Tryd.prog 24 #[.slice A0 l0.length c0] w fun e w' => ∃ v0_ : Value, e = .returned (.tuple #[v0_, .int .i64 r2]) ∧ Kd.S k24 24 w' w.heap.size (fun _ => True) v0_ r1 ∧ Below w.heap.size w w' := by
  have hu24 := Tryd.underlying24
  have HR := Aside0.mk hr0
  have HC := Aside0.mk hc0
  have H := Aside0.mk h
  have HB := Aside0.mk (Below.refl w.heap.size w)
  clear hr0 hc0 h
  go_enter Tryd.func24, Tryd.ntmps24
  go_wp2
  go_loopg [4, 5] k (fun kq v4 v5 w' => ∃ (acc : List S24) (at_ : Int), v5 = .int .i64 at_ ∧ Aside0 (kq ≤ k) ∧ Aside0 (papermillref61_Recover.l0 kq l0 acc at_ = some (r1, r2)) ∧ Aside0 (Kd.S k24 24 w' w.heap.size (fun _ => True) v4 acc) ∧ Aside0 (Below w.heap.size w w'))
  case atStart => exact ⟨[], 0, rfl, ⟨Nat.le_refl _⟩, H, ⟨Kd.S_nil _ _ _ _ _⟩, HB⟩
  case round =>
    clear H HB
    obtain ⟨acc, at_, rfl, HK, HQ, HS3, HB3⟩ := hrel
    cases gk with
    | zero => exact absurd HQ.out (by simp [papermillref61_Recover.l0])
    | succ k =>
    have hq := HQ.out
    unfold papermillref61_Recover.l0 at hq
    by_cases ca : 0 ≤ at_ ∧ at_ ≤ (l0.length : Int) ∧ l0.length ≤ 1000000 ∧ acc.length ≤ 1000000
    case neg => rw [if_neg ca] at hq; cases hq
    rw [if_pos ca] at hq
    obtain ⟨⟨t1, t2, t3⟩, hcs, hcr⟩ := Option.bind_eq_some_iff.mp hq
    have HCS := Aside0.mk hcs
    obtain ⟨i0_, hi0_, _, hsz0_, _⟩ := info_parts info5
    obtain ⟨A5, hcut5, hA5, hC5⟩ := print_drop_of (P := Tryd.prog) (Value.int .u8) 0 28 5 .i64 Tryd.underlying28 hi0_ hsz0_ A0 c0 l0 at_ ca.1 ca.2.1 HC.out
    have HX5 := Aside0.mk (show Kd.C (Kd.int .u8) w A5 (l0.drop at_.toNat).length (l0.drop at_.toNat) ∧ _ from ⟨Kd.C_of_reads (h1 := fun _ => rfl) (hA5 _ (Kd.reads_of_C HR.out)), hC5⟩)
    clear hA5 hC5 hi0_ hsz0_ hcs hq HQ
    obtain ⟨ca1, ca2, ca3, ca4⟩ := ca
    have cb1 : decide (0 ≤ at_) = true := decide_eq_true ca1
    have cb2 : decide (at_ ≤ (l0.length : Int)) = true := decide_eq_true ca2
    simp only at hcr
    by_cases c3 : t3 = 0
    case neg =>
      rw [if_neg c3] at hcr
      injection hcr with hcr
      injection hcr with e1 e2
      subst e1 e2
      have cb3 : (t3 != 0) = true := bne_iff_ne.mpr c3
      clear c3
      go_wp2_with (first | (go_at_call 41; (go_must (refine calls_of_args (args' := #[.slice A5 (l0.drop at_.toNat).length (c0 - at_.toNat)]) (by first | (rw [show (l0.drop at_.toNat).length = (l0.length - at_.toNat) from List.length_drop] <;> rfl) | rfl) ?_)); (go_must (refine (papermillref09_Open.calls k _ _ (l0.drop at_.toNat) t1 t2 t3 _ (Kd.C_below HX5.out.1 HB3.out) HX5.out.2 HCS.out).mono ?_)); rintro e w5 ⟨v5, rfl, ho, hb⟩; have HS5 := Aside0.mk (Kd.S_below HS3.out hb); have HO5 := Aside0.mk (Kd.R_lower ho (below_size HB3.out)); have HB5 := Aside0.mk (below_step HB3.out hb); clear ho hb; obtain ⟨Ao, co, eo⟩ := Kd.R_slice HO5.out; subst eo))
      go_ret2
      exact ⟨_, rfl, HS5.out, HB5.out⟩
    subst c3
    rw [if_pos rfl] at hcr
    obtain ⟨⟨g0, g1, g2, g3, g4, g5, g6, f⟩, hg, hcr⟩ := Option.bind_eq_some_iff.mp hcr
    have HG := Aside0.mk hg
    simp only at hcr
    have HCR := Aside0.mk hcr
    clear hg hcr
    go_wp2_with (first
      | (go_at_call 41; (go_must (refine calls_of_args (args' := #[.slice A5 (l0.drop at_.toNat).length (c0 - at_.toNat)]) (by first | (rw [show (l0.drop at_.toNat).length = (l0.length - at_.toNat) from List.length_drop] <;> rfl) | rfl) ?_)); (go_must (refine (papermillref09_Open.calls k _ _ (l0.drop at_.toNat) t1 t2 0 _ (Kd.C_below HX5.out.1 HB3.out) HX5.out.2 HCS.out).mono ?_)); rintro e w5 ⟨v5, rfl, ho, hb⟩; have HS5 := Aside0.mk (Kd.S_below HS3.out hb); have HO5 := Aside0.mk (Kd.R_lower ho (below_size HB3.out)); have HB5 := Aside0.mk (below_step HB3.out hb); clear ho hb; obtain ⟨Ao, co, eo⟩ := Kd.R_slice HO5.out; subst eo)
      | (go_at_call 19; (go_must (refine (papermillref61_Get.calls k _ _ t1 g0 g1 g2 g3 g4 g5 g6 f _ (Kd.R_reads' HO5.out).2.2 (Kd.R_reads' HO5.out).2.1 HG.out).mono ?_)); rintro e w6 ⟨v6, rfl, ho, hb⟩; have HS6 := Aside0.mk (Kd.S_elder' HS5.out (Kd.R_base ho) hb); have HV6 := Aside0.mk (Kd.R_lower ho (below_size HB5.out)); have HB6 := Aside0.mk (below_step HB5.out hb); clear ho hb; obtain ⟨Av, cv, ev⟩ := Kd.R_slice HV6.out; subst ev)
      | ((with_reducible refine gate_dst (N := 9) rfl ?_); (go_must (refine box_event ?hg (N := 9) ?hd (cs := #[.int .i64 0, .int .i64 0, .int .i64 0, .int .i64 0, .int .i64 0, .int .i64 0, .slice none 0 0]) (t := 24) ?hr ?_)); (case hd => rfl); (case hg => rfl); (case hr => first | (go_simp; done) | (go_simp; rfl)); intro gx hg w7q hbox hb; have BK := Aside0.mk hbox; have HQ := Aside0.mk hb; have GE := Aside0.mk (Nat.le_of_eq hg.symm); have HGE := Aside0.mk hg; clear hbox hb hg; have hz0 : w7q.cell? ⟨gx, 0, none⟩ = some (.int .i64 0) := (blk_cell BK.out 0).trans rfl; have hz1 : w7q.cell? ⟨gx, 1, none⟩ = some (.int .i64 0) := (blk_cell BK.out 1).trans rfl; have hz2 : w7q.cell? ⟨gx, 2, none⟩ = some (.int .i64 0) := (blk_cell BK.out 2).trans rfl; have hz3 : w7q.cell? ⟨gx, 3, none⟩ = some (.int .i64 0) := (blk_cell BK.out 3).trans rfl; have hz4 : w7q.cell? ⟨gx, 4, none⟩ = some (.int .i64 0) := (blk_cell BK.out 4).trans rfl; have hz5 : w7q.cell? ⟨gx, 5, none⟩ = some (.int .i64 0) := (blk_cell BK.out 5).trans rfl; have hz6 : w7q.cell? ⟨gx, 6, none⟩ = some (.slice none 0 0) := (blk_cell BK.out 6).trans rfl; have hf0 := blk_frozen BK.out 0; have hf1 := blk_frozen BK.out 1; have hf2 := blk_frozen BK.out 2; have hf3 := blk_frozen BK.out 3; have hf4 := blk_frozen BK.out 4; have hf5 := blk_frozen BK.out 5; have hf6 := blk_frozen BK.out 6; go_step; go_step; generalize hW : World.setCell _ _ _ = w7; have hq := (show Below _ _ w7 from (by rw [← hW]; exact (below_set (below_set (below_set (below_set (below_set (below_set (below_set HQ.out GE.out) GE.out) GE.out) GE.out) GE.out) GE.out) GE.out))); have BX := Aside0.mk (show w7.heap[gx]? = some (.cells #[(.int .i64 g0), (.int .i64 g1), (.int .i64 g2), (.int .i64 g3), (.int .i64 g4), (.int .i64 g5), (.slice Av g6.length cv)] 24 (0, 0)) from (by rw [← hW]; exact (blk_put (blk_put (blk_put (blk_put (blk_put (blk_put (blk_put BK.out 0 _ rfl) 1 _ rfl) 2 _ rfl) 3 _ rfl) 4 _ rfl) 5 _ rfl) 6 _ rfl))); have HS7 := Aside0.mk (Kd.S_below (Kd.S_elderB HS6.out gx (Nat.le_of_eq HGE.out.symm)) hq); have HV7 := Aside0.mk (Kd.R_below HV6.out hq); have HB7 := Aside0.mk (below_step HB6.out hq); clear hq hW BK HQ GE HGE hz0 hf0 hz1 hf1 hz2 hf2 hz3 hf3 hz4 hf4 hz5 hf5 hz6 hf6 HS5 HS6 HB5 HB6 HV6 HO5; obtain ⟨As, cs, es⟩ := Kd.S_slice HS7.out; subst es; have hx0 : w7.cell? ⟨gx, 0, none⟩ = some (.int .i64 g0) := (blk_cell BX.out 0).trans rfl; have hx1 : w7.cell? ⟨gx, 1, none⟩ = some (.int .i64 g1) := (blk_cell BX.out 1).trans rfl; have hx2 : w7.cell? ⟨gx, 2, none⟩ = some (.int .i64 g2) := (blk_cell BX.out 2).trans rfl; have hx3 : w7.cell? ⟨gx, 3, none⟩ = some (.int .i64 g3) := (blk_cell BX.out 3).trans rfl; have hx4 : w7.cell? ⟨gx, 4, none⟩ = some (.int .i64 g4) := (blk_cell BX.out 4).trans rfl; have hx5 : w7.cell? ⟨gx, 5, none⟩ = some (.int .i64 g5) := (blk_cell BX.out 5).trans rfl; have hx6 : w7.cell? ⟨gx, 6, none⟩ = some (.slice Av g6.length cv) := (blk_cell BX.out 6).trans rfl))
    have hcr := HCR.out
    clear HCR HCS HG HX5
    by_cases cf : f = 0
    case neg =>
      rw [if_neg cf] at hcr
      injection hcr with hcr
      injection hcr with e1 e2
      subst e1 e2
      have cfb : (f != 0) = true := bne_iff_ne.mpr cf
      clear cf
      repeat (go_quiet (fail); try go_wp2)
      go_ret2
      exact ⟨_, rfl, Kd.S_mono (Kd.S_drewN HS7.out _) (fun _ _ => trivial), pw_below_drewN HB7.out _⟩
    subst cf
    rw [if_pos rfl] at hcr
    by_cases cl : 0 < acc.length
    · have hj := (Kd.S_reads' HS7.out).2.2
      obtain ⟨ad, A6_, c6_, e1, hy0, hy1, hyr⟩ := at_T24 hj ((acc.length : Int) - 1) (by omega) (by omega)
      subst e1
      rw [show ((acc.length : Int) - 1).toNat = acc.length - 1 by omega] at hy1
      generalize (rd_T24 acc ((acc.length : Int) - 1)).f1 = lf at *
      have hp0_ : decide (0 < (acc.length : Int)) = true := decide_eq_true (by omega)
      have hp1_ : 1 ≤ (acc.length : Int) := by omega
      have hp2_ : 0 ≤ (acc.length : Int) - 1 := by omega
      have hp3_ : (acc.length : Int) - 1 < (acc.length : Int) := by omega
      have hp4_ : decide (0 < acc.length) = true := decide_eq_true cl
      clear hj hy0 hyr
      by_cases co : g1 < lf
      · rw [if_pos ⟨cl, co⟩] at hcr
        injection hcr with hcr
        injection hcr with e1 e2
        subst e1 e2
        have cob : decide (g1 < lf) = true := decide_eq_true co
        clear co cl
        go_quiet (fail)
        go_wp2
        go_ret2
        exact ⟨_, rfl, Kd.S_mono (Kd.S_drewN HS7.out _) (fun _ _ => trivial), pw_below_drewN HB7.out _⟩
      · rw [if_neg (fun h => co h.2)] at hcr
        by_cases cn : 0 ≤ t2 ∧ t2 ≤ (l0.length : Int)
        case neg => rw [if_neg cn] at hcr; cases hcr
        rw [if_pos cn] at hcr
        have HCR := Aside0.mk hcr
        obtain ⟨cn1, cn2⟩ := cn
        have cob : decide (g1 < lf) = false := decide_eq_false co
        clear co cl hcr
        go_quiet (fail)
        have HS8 := Aside0.mk (Kd.S_drewN HS7.out nq)
        have HV8 := Aside0.mk (Kd.R_drewN HV7.out nq)
        have BX8 := Aside0.mk (blk_drewN BX.out nq)
        have HB8 := Aside0.mk (pw_below_drewN HB7.out nq)
        clear hy1
        go_wp2_with (first | ((with_reducible refine gate_builtin (b := .append) (xs := #[.tmp 49, .tmp 51]) rfl ?_); at_builtin; (go_must (refine Kd.S_append k24 (w0 := w) w.heap.size rfl (.tmp 49) (.tmp 51) 26 24 (.agg #[(.int .i64 0), (.int .i64 0), (.int .i64 0), (.int .i64 0), (.int .i64 0), (.int .i64 0), (.slice none 0 0)]) 72 rfl Tryd.underlying26 info24 rfl (by decide) (by omega) (.slice (some ad) acc.length cs) acc (⟨g0, g1, g2, g3, g4, g5, g6⟩ : S24) [(.int .i64 g0), (.int .i64 g1), (.int .i64 g2), (.int .i64 g3), (.int .i64 g4), (.int .i64 g5), (.slice Av g6.length cv)] (fun k_ => k_ ≠ gx) (fun k_ => some k_ = (.slice Av g6.length cv : Value).ownBlock) rfl rfl ?aP (fun k_ hk_ => ((Kd.R_mono (ok' := fun k_ => ((fun k_ => k_ ≠ gx)) k_ ∧ some k_ ≠ (.slice (some ad) acc.length cs : Value).ownBlock) (Kd.R_types (Kd.R_apart' (HV8.out) (Kd.S_typed HS8.out) (by decide)) BX8.out (by decide)) (fun k_ hk => ⟨hk.2, hk.1.2⟩))).1 k_ hk_.symm) ?aF ?aO ?aB ?aS ?aL ?_)); (case aP => exact k24_mkM _ _ _ (⟨g0, g1, g2, g3, g4, g5, g6⟩ : S24) (Kd.R_mono (Kd.R_tight rfl (Kd.R_mono (ok' := fun k_ => ((fun k_ => k_ ≠ gx)) k_ ∧ some k_ ≠ (.slice (some ad) acc.length cs : Value).ownBlock) (Kd.R_types (Kd.R_apart' (HV8.out) (Kd.S_typed HS8.out) (by decide)) BX8.out (by decide)) (fun k_ hk => ⟨hk.2, hk.1.2⟩))) (fun _ h_ => h_))); (case aB => exact HB8.out); (case aF => exact (fun k_ hk => Kd.freshB BX8.out k_ hk)); (case aO => exact (Kd.S_mono HS8.out (fun k_ hk => ⟨hk.2, fun e_ => hk.1.2 e_⟩))); (case aS => exact (below_size HB8.out)); (case aL => omega); intro v9 w9 ho hb hg hat; have HS9 := Aside0.mk ho; have HB9 := Aside0.mk hb; clear ho hb hg hat))
        go_roundg k
        case measure => have := HK.out; omega
        case rel => exact ⟨_, _, rfl, ⟨by have := HK.out; omega⟩, ⟨HCR.out⟩, ⟨Kd.S_mono HS9.out (fun _ _ => trivial)⟩, HB9⟩
    · rw [if_neg (fun h => cl h.1)] at hcr
      by_cases cn : 0 ≤ t2 ∧ t2 ≤ (l0.length : Int)
      case neg => rw [if_neg cn] at hcr; cases hcr
      rw [if_pos cn] at hcr
      have HCR := Aside0.mk hcr
      obtain ⟨cn1, cn2⟩ := cn
      have hp0_ : decide (0 < (acc.length : Int)) = false := decide_eq_false (by omega)
      have hp4_ : decide (0 < acc.length) = false := decide_eq_false cl
      clear hcr cl
      go_quiet (fail)
      have HS8 := Aside0.mk (Kd.S_drewN HS7.out nq)
      have HV8 := Aside0.mk (Kd.R_drewN HV7.out nq)
      have BX8 := Aside0.mk (blk_drewN BX.out nq)
      have HB8 := Aside0.mk (pw_below_drewN HB7.out nq)
      go_wp2_with (first | ((with_reducible refine gate_builtin (b := .append) (xs := #[.tmp 49, .tmp 51]) rfl ?_); at_builtin; (go_must (refine Kd.S_append k24 (w0 := w) w.heap.size rfl (.tmp 49) (.tmp 51) 26 24 (.agg #[(.int .i64 0), (.int .i64 0), (.int .i64 0), (.int .i64 0), (.int .i64 0), (.int .i64 0), (.slice none 0 0)]) 72 rfl Tryd.underlying26 info24 rfl (by decide) (by omega) (.slice As acc.length cs) acc (⟨g0, g1, g2, g3, g4, g5, g6⟩ : S24) [(.int .i64 g0), (.int .i64 g1), (.int .i64 g2), (.int .i64 g3), (.int .i64 g4), (.int .i64 g5), (.slice Av g6.length cv)] (fun k_ => k_ ≠ gx) (fun k_ => some k_ = (.slice Av g6.length cv : Value).ownBlock) rfl rfl ?aP (fun k_ hk_ => ((Kd.R_mono (ok' := fun k_ => ((fun k_ => k_ ≠ gx)) k_ ∧ some k_ ≠ (.slice As acc.length cs : Value).ownBlock) (Kd.R_types (Kd.R_apart' (HV8.out) (Kd.S_typed HS8.out) (by decide)) BX8.out (by decide)) (fun k_ hk => ⟨hk.2, hk.1.2⟩))).1 k_ hk_.symm) ?aF ?aO ?aB ?aS ?aL ?_)); (case aP => exact k24_mkM _ _ _ (⟨g0, g1, g2, g3, g4, g5, g6⟩ : S24) (Kd.R_mono (Kd.R_tight rfl (Kd.R_mono (ok' := fun k_ => ((fun k_ => k_ ≠ gx)) k_ ∧ some k_ ≠ (.slice As acc.length cs : Value).ownBlock) (Kd.R_types (Kd.R_apart' (HV8.out) (Kd.S_typed HS8.out) (by decide)) BX8.out (by decide)) (fun k_ hk => ⟨hk.2, hk.1.2⟩))) (fun _ h_ => h_))); (case aB => exact HB8.out); (case aF => exact (fun k_ hk => Kd.freshB BX8.out k_ hk)); (case aO => exact (Kd.S_mono HS8.out (fun k_ hk => ⟨hk.2, fun e_ => hk.1.2 e_⟩))); (case aS => exact (below_size HB8.out)); (case aL => omega); intro v9 w9 ho hb hg hat; have HS9 := Aside0.mk ho; have HB9 := Aside0.mk hb; clear ho hb hg hat))
      go_roundg k
      case measure => have := HK.out; omega
      case rel => exact ⟨_, _, rfl, ⟨by have := HK.out; omega⟩, ⟨HCR.out⟩, ⟨Kd.S_mono HS9.out (fun _ _ => trivial)⟩, HB9⟩

/-! ### papermilllaw61_JournalRecovers: function 6 -/
def papermilllaw61_JournalRecovers.f (k : Nat) (l0 : List Int) : Option (Bool) := if (l0.length : Int) > 3000 then ((papermilllaw61_awake.f k).bind fun t404 => (some t404)) else ((journal_Recover.f k l0).bind fun bt405 => ((papermillref61_Recover.f k l0).bind fun bt409 => ((papermillref61_Same.f k bt405.1 bt409.1).bind fun t413 => (if t413 = true then (if bt405.2 = bt409.2 then ((papermilllaw61_awake.f k).bind fun t414 => (some t414)) else (some false)) else (some false)))))
theorem papermilllaw61_JournalRecovers.mono : ∀ a0 k, LeO (papermilllaw61_JournalRecovers.f k a0) (papermilllaw61_JournalRecovers.f (k + 1) a0) := by
  intro a0 k
  unfold papermilllaw61_JournalRecovers.f
  repeat' first
      | (with_reducible exact journal_Recover.mono _ _)
      | (with_reducible exact papermilllaw61_awake.mono _)
      | (with_reducible exact papermillref61_Recover.mono _ _)
      | (with_reducible exact papermillref61_Same.mono _ _ _)
      | (with_reducible exact LeO.refl _)
      | (with_reducible exact LeO.none _)
      | (with_reducible refine LeO.ite ?_ ?_)
      | (with_reducible refine LeO.bind ?_ (fun _ => ?_))
      | exact journal_Recover.mono _ _
      | exact papermilllaw61_awake.mono _
      | exact papermillref61_Recover.mono _ _
      | exact papermillref61_Same.mono _ _ _
      | exact LeO.none _
      | refine LeO.ite ?_ ?_
      | refine LeO.bind ?_ (fun _ => ?_)
set_option maxHeartbeats 8000000 in
set_option maxRecDepth 100000 in
theorem papermilllaw61_JournalRecovers.calls (k : Nat) (A0 : Option Addr) (c0 : Nat) (l0 : List Int) (w : World) (hr0 : Kd.C (Kd.int .u8) w A0 l0.length l0) (hc0 : l0.length ≤ c0) (hT : Kd.C (Kd.int .u32) w TabA crcTab.length crcTab) (h : papermilllaw61_JournalRecovers.f k l0 = some true) :
    Calls Tryd.prog 6 #[.slice A0 l0.length c0] w fun e w' => e = .returned (.bool true) ∧ Below w.heap.size w w' := by
  have HT := Aside0.mk hT
  clear hT
  have HR0 := Aside0.mk hr0
  have HC0 := Aside0.mk hc0
  clear hr0 hc0
  have HB := Aside0.mk (Below.refl w.heap.size w)
  have H : (if (l0.length : Int) > 3000 then ((papermilllaw61_awake.f k).bind fun t404 => (some t404)) else ((journal_Recover.f k l0).bind fun bt405 => ((papermillref61_Recover.f k l0).bind fun bt409 => ((papermillref61_Same.f k bt405.1 bt409.1).bind fun t413 => (if t413 = true then (if bt405.2 = bt409.2 then ((papermilllaw61_awake.f k).bind fun t414 => (some t414)) else (some false)) else (some false)))))) = some true := h
  clear h
  by_cases c2 : (l0.length : Int) > 3000
  ·rw [if_pos c2] at H
   have c2b0 : decide (3000 < (l0.length : Int)) = true := decide_eq_true c2
   have c2b1 : decide (3000 < l0.length) = true := decide_eq_true (by omega)
   clear c2
   replace H := Option.bind_eq_some_iff.mp H
   obtain ⟨t404, A30, H⟩ := H
   replace H : (some t404) = some true := H
   have A3 := Aside0.mk A30
   clear A30
   have Hl := Option.some.inj H
   go_enter Tryd.func6, Tryd.ntmps6
   go_wp2_with (first | ((with_reducible refine gate_callee (f := 12) rfl ?_); refine goesL_ (some 10) rfl rfl Tryd.func12 (by kernel_rfl) rfl #[] rfl (by (try simp only [List.map_toArray, List.map_cons, List.map_nil]); first | done | rfl | (simp only [List.length_drop, List.length_take]; rfl)) ?_; (with_reducible refine (papermilllaw61_awake.calls k  t404 _ ?sideT A3.out).mono ?_); (case sideT => repeat (first | exact HT.out | exact (Kd.C_below HT.out HB.out) | (with_reducible refine Kd.C_alloc ?_ _) | (with_reducible refine Kd.C_drewN ?_ _) | (with_reducible refine Kd.C_drew ?_))); rintro e w4 ⟨rfl, hb⟩; refine ⟨_, rfl, ?_⟩; have n0_ := Aside0.mk (below_step (by repeat (first | (with_reducible first | exact HB.out | apply below_alloc | apply pw_below_drewN | apply below_drew1) | exact HB.out)) hb); clear HB; have HB := n0_; clear n0_; (try clear hb); (try clear hb2); (try clear hk); (try clear hi)))
   go_ret
   exact ⟨by first | rfl | (simp [errW_none, errW_some] <;> rfl) | (simp [*, errW_none, errW_some] <;> rfl), by repeat (first | (with_reducible first | exact HB.out | apply below_alloc | apply pw_below_drewN | apply below_drew1) | exact HB.out)⟩
  ·rw [if_neg c2] at H
   have c2b0 : decide (3000 < (l0.length : Int)) = false := decide_eq_false c2
   have c2b1 : decide (3000 < l0.length) = false := decide_eq_false (by omega)
   clear c2
   replace H := Option.bind_eq_some_iff.mp H
   obtain ⟨⟨t405, t406⟩, A50, H⟩ := H
   replace H : ((papermillref61_Recover.f k l0).bind fun bt409 => ((papermillref61_Same.f k t405 bt409.1).bind fun t413 => (if t413 = true then (if t406 = bt409.2 then ((papermilllaw61_awake.f k).bind fun t414 => (some t414)) else (some false)) else (some false)))) = some true := H
   have A5 := Aside0.mk A50
   clear A50
   replace H := Option.bind_eq_some_iff.mp H
   obtain ⟨⟨t409, t410⟩, A60, H⟩ := H
   replace H : ((papermillref61_Same.f k t405 t409).bind fun t413 => (if t413 = true then (if t406 = t410 then ((papermilllaw61_awake.f k).bind fun t414 => (some t414)) else (some false)) else (some false))) = some true := H
   have A6 := Aside0.mk A60
   clear A60
   replace H := Option.bind_eq_some_iff.mp H
   obtain ⟨t413, A70, H⟩ := H
   replace H : (if t413 = true then (if t406 = t410 then ((papermilllaw61_awake.f k).bind fun t414 => (some t414)) else (some false)) else (some false)) = some true := H
   have A7 := Aside0.mk A70
   clear A70
   by_cases c8 : t413 = true
   ·subst c8
    have H1 : (if t406 = t410 then ((papermilllaw61_awake.f k).bind fun t414 => (some t414)) else (some false)) = some true := by rw [if_pos rfl] at H; exact H
    clear H
    have H := H1
    clear H1
    by_cases c9 : t406 = t410
    ·rw [if_pos c9] at H
     have c9b0 : (t406 == t410) = true := beq_iff_eq.mpr c9
     have c9b1 : (t406 != t410) = false := bne_eq_false_iff_eq.mpr c9
     clear c9
     replace H := Option.bind_eq_some_iff.mp H
     obtain ⟨t414, A100, H⟩ := H
     replace H : (some t414) = some true := H
     have A10 := Aside0.mk A100
     clear A100
     have Hl := Option.some.inj H
     go_enter Tryd.func6, Tryd.ntmps6
     go_wp2_with (first | ((with_reducible refine gate_callee (f := 23) rfl ?_); refine goesL_ (some 13) rfl rfl Tryd.func23 (by kernel_rfl) rfl #[.slice A0 l0.length c0] rfl (by (try simp only [List.map_toArray, List.map_cons, List.map_nil]); first | done | rfl | (simp only [List.length_drop, List.length_take]; rfl)) ?_; (with_reducible refine (journal_Recover.calls k _ _ l0 t405 t406 _ ?side1 ?side2 ?sideT A5.out).mono ?_); (case sideT => repeat (first | exact HT.out | exact (Kd.C_below HT.out HB.out) | (with_reducible refine Kd.C_alloc ?_ _) | (with_reducible refine Kd.C_drewN ?_ _) | (with_reducible refine Kd.C_drew ?_))); (case side1 => repeat (first | exact HR0.out | (with_reducible refine Kd.C_alloc ?_ _) | (with_reducible refine Kd.C_drewN ?_ _) | (with_reducible refine Kd.C_drew ?_))); (case side2 => exact HC0.out); rintro e w11 ⟨v407, rfl, ho0, hb⟩; refine ⟨_, rfl, ?_⟩; have n0_ := Aside0.mk (Kd.S_lower ho0 (below_size (by repeat (first | (with_reducible first | exact HB.out | apply below_alloc | apply pw_below_drewN | apply below_drew1) | exact HB.out)))); have n1_ := Aside0.mk (below_step (by repeat (first | (with_reducible first | exact HB.out | apply below_alloc | apply pw_below_drewN | apply below_drew1) | exact HB.out)) hb); clear HB; have HO408 := n0_; have HB := n1_; clear n0_ n1_; (try clear hb); (try clear hb2); (try clear hk); (try clear hi); (try clear ho0)) | ((with_reducible refine gate_callee (f := 24) rfl ?_); refine goesL_ (some 18) rfl rfl Tryd.func24 (by kernel_rfl) rfl #[.slice A0 l0.length c0] rfl (by (try simp only [List.map_toArray, List.map_cons, List.map_nil]); first | done | rfl | (simp only [List.length_drop, List.length_take]; rfl)) ?_; (with_reducible refine (papermillref61_Recover.calls k _ _ l0 t409 t410 _ ?side1 ?side2 A6.out).mono ?_); (case side1 => repeat (first | exact (Kd.C_below HR0.out HB.out) | (with_reducible refine Kd.C_alloc ?_ _) | (with_reducible refine Kd.C_drewN ?_ _) | (with_reducible refine Kd.C_drew ?_))); (case side2 => exact HC0.out); rintro e w12 ⟨v411, rfl, ho0, hb⟩; refine ⟨_, rfl, ?_⟩; have n0_ := Aside0.mk (Kd.S_elder' (by (with_reducible repeat (first | apply Kd.S_alloc | apply Kd.S_drewN | apply Kd.S_drew)); exact HO408.out) (Kd.S_base ho0) hb); have n1_ := Aside0.mk (Kd.S_lower (Kd.S_new' ho0 (Kd.S_lt (by (with_reducible repeat (first | apply Kd.S_alloc | apply Kd.S_drewN | apply Kd.S_drew)); exact HO408.out))) (below_size (by repeat (first | (with_reducible first | exact HB.out | apply below_alloc | apply pw_below_drewN | apply below_drew1) | exact HB.out)))); have n2_ := Aside0.mk (below_step (by repeat (first | (with_reducible first | exact HB.out | apply below_alloc | apply pw_below_drewN | apply below_drew1) | exact HB.out)) hb); clear HO408; clear HB; have HO408 := n0_; have HO412 := n1_; have HB := n2_; clear n0_ n1_ n2_; (try clear hb); (try clear hb2); (try clear hk); (try clear hi); (try clear ho0); obtain ⟨Ao13, co13, eo13⟩ := Kd.S_slice HO408.out; subst eo13; obtain ⟨Ao14, co14, eo14⟩ := Kd.S_slice HO412.out; subst eo14) | ((with_reducible refine gate_callee (f := 25) rfl ?_); refine goesL_ (some 23) rfl rfl Tryd.func25 (by kernel_rfl) rfl #[.slice Ao13 t405.length co13, .slice Ao14 t409.length co14] rfl (by (try simp only [List.map_toArray, List.map_cons, List.map_nil]); first | done | rfl | (simp only [List.length_drop, List.length_take]; rfl)) ?_; (with_reducible refine (papermillref61_Same.calls k _ _ t405 _ _ t409 true _ ?side1 ?side2 ?side3 ?side4 A7.out).mono ?_); (case side1 => repeat (first | exact (Kd.S_reads' HO408.out).2.2 | (with_reducible refine Kd.C_alloc ?_ _) | (with_reducible refine Kd.C_drewN ?_ _) | (with_reducible refine Kd.C_drew ?_))); (case side2 => exact (Kd.S_reads' HO408.out).2.1); (case side3 => repeat (first | exact (Kd.S_reads' HO412.out).2.2 | (with_reducible refine Kd.C_alloc ?_ _) | (with_reducible refine Kd.C_drewN ?_ _) | (with_reducible refine Kd.C_drew ?_))); (case side4 => exact (Kd.S_reads' HO412.out).2.1); rintro e w15 ⟨rfl, hb⟩; refine ⟨_, rfl, ?_⟩; have n0_ := Aside0.mk (Kd.S_below (by (with_reducible repeat (first | apply Kd.S_alloc | apply Kd.S_drewN | apply Kd.S_drew)); exact HO408.out) hb); have n1_ := Aside0.mk (Kd.S_below (by (with_reducible repeat (first | apply Kd.S_alloc | apply Kd.S_drewN | apply Kd.S_drew)); exact HO412.out) hb); have n2_ := Aside0.mk (below_step (by repeat (first | (with_reducible first | exact HB.out | apply below_alloc | apply pw_below_drewN | apply below_drew1) | exact HB.out)) hb); clear HO408; clear HO412; clear HB; have HO408 := n0_; have HO412 := n1_; have HB := n2_; clear n0_ n1_ n2_; (try clear hb); (try clear hb2); (try clear hk); (try clear hi)) | (go_at_call 12; (with_reducible refine (papermilllaw61_awake.calls k  t414 _ ?sideT A10.out).mono ?_); (case sideT => repeat (first | exact HT.out | exact (Kd.C_below HT.out HB.out) | (with_reducible refine Kd.C_alloc ?_ _) | (with_reducible refine Kd.C_drewN ?_ _) | (with_reducible refine Kd.C_drew ?_))); rintro e w16 ⟨rfl, hb⟩; have n0_ := Aside0.mk (Kd.S_below (by (with_reducible repeat (first | apply Kd.S_alloc | apply Kd.S_drewN | apply Kd.S_drew)); exact HO408.out) hb); have n1_ := Aside0.mk (Kd.S_below (by (with_reducible repeat (first | apply Kd.S_alloc | apply Kd.S_drewN | apply Kd.S_drew)); exact HO412.out) hb); have n2_ := Aside0.mk (below_step (by repeat (first | (with_reducible first | exact HB.out | apply below_alloc | apply pw_below_drewN | apply below_drew1) | exact HB.out)) hb); clear HO408; clear HO412; clear HB; have HO408 := n0_; have HO412 := n1_; have HB := n2_; clear n0_ n1_ n2_; (try clear hb); (try clear hb2); (try clear hk); (try clear hi)))
     go_ret
     exact ⟨by first | rfl | (simp [errW_none, errW_some] <;> rfl) | (simp [*, errW_none, errW_some] <;> rfl), by repeat (first | (with_reducible first | exact HB.out | apply below_alloc | apply pw_below_drewN | apply below_drew1) | exact HB.out)⟩
    ·rw [if_neg c9] at H
     exact absurd H (by simp)
   ·exact absurd H (by rw [if_neg c8]; simp)/-- THE ONE PURE STATEMENT of papermilllaw61_JournalRecovers: yours. -/
def papermilllaw61_JournalRecovers.Pure : Prop := ∀ (l0 : List Int), l0.length ≤ maxLen → l0.length * 1 ≤ 140737488351232 → (∀ x ∈ l0, (Lit.int .u8 x).wf = true) → ∃ k, papermilllaw61_JournalRecovers.f k l0 = some true
theorem papermilllaw61_JournalRecovers.walk (P : papermilllaw61_JournalRecovers.Pure) (a0 : Option Addr) (len0 cap0 : Nat) (z0 : List Int) (w : World) (hT : Kd.C (Kd.int .u32) w TabA crcTab.length crcTab) (w0 : (a0 = none ∧ len0 = 0 ∧ cap0 = 0 ∧ z0 = []) ∨ ∃ x, a0 = some x ∧ len0 ≤ cap0 ∧ cap0 ≤ maxLen ∧ z0.length = cap0 ∧ (∀ i, i < z0.length → w.cell? (x.add i) = some (.int .u8 (z0.getD i 0))) ∧ ∀ n ∈ z0, (Lit.int .u8 n).wf = true) (y0 : len0 * 1 ≤ 140737488351232) :
    Calls Tryd.prog 6 #[.slice a0 len0 cap0] w fun e w' => e = .returned (.bool true) ∧ Below w.heap.size w w' := by
  obtain ⟨l0, rfl, hr0, hm0, hw0, hc0⟩ := ReadsInt.ofRowC w0
  obtain ⟨k, h⟩ := P l0 hm0 y0 hw0
  refine (papermilllaw61_JournalRecovers.calls k _ _ l0 w (Kd.C_of_reads (d := (0 : Int)) (h1 := fun _ => rfl) hr0) hc0 hT h).mono ?_
  rintro e w' ⟨rfl, hd⟩
  exact ⟨rfl, hd⟩

end Go.Proofs.YtpcicooogiialaaDoor.PX
