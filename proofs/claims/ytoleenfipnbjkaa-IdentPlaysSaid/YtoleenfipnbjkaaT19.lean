/- New makes a table of exactly the names, or answers the specified error. -/
import Derived.Test.YtoleenfipnbjkaaT18
namespace Go.Proofs.Ytoleenfipnbjkaa.Tab
open Go.RowKit Go.Maps Go.Proofs.Ytoleenfipnbjkaa.PX Go.Proofs.YtoleenfipnbjkaaW.PrintWords Go.Proofs.YtoleenfipnbjkaaW.PrintLast Go.Proofs.YtoleenfipnbjkaaW.PrintMore
set_option linter.unusedVariables false
set_option linter.unusedSimpArgs false
set_option maxHeartbeats 1000000 in
set_option maxRecDepth 100000 in
theorem News_big (A0 : Option Addr) (c0 : Nat) (l0 : List ByteArray) (more : Int) (w : World) (hr0 : Kd.C Kd.string w A0 l0.length l0) (hc0 : l0.length ≤ c0) (hl : 60 < l0.length) :
    Calls Try.prog 7 #[.slice A0 l0.length c0, .int .i64 more] w fun e w' => e = .returned (.bool true) ∧ Below w.heap.size w w' := by
  have HR0 := Aside0.mk hr0
  have HC0 := Aside0.mk hc0
  have HB := Aside0.mk (Below.refl w.heap.size w)
  have d1 : decide ((60 : Int) < (l0.length : Int)) = true := decide_eq_true (by omega)
  clear hr0 hc0 hl
  go_enter Try.func7, Try.ntmps7
  go_wp2_with (first | (go_at_call 12; (with_reducible refine (awake_calls _).mono ?_); rintro e w9 ⟨rfl, hb⟩; have HBn := Aside0.mk (below_step HB.out hb); clear HB; have HB := HBn; clear HBn hb))
  go_ret
  exact ⟨rfl, HB.out⟩
set_option maxHeartbeats 1000000 in
set_option maxRecDepth 100000 in
theorem News_more (A0 : Option Addr) (c0 : Nat) (l0 : List ByteArray) (more : Int) (w : World) (hr0 : Kd.C Kd.string w A0 l0.length l0) (hc0 : l0.length ≤ c0) (hl : l0.length ≤ 60) (h1 : 500 ≤ more) (h2 : more ≤ 530) :
    Calls Try.prog 7 #[.slice A0 l0.length c0, .int .i64 more] w fun e w' => e = .returned (.bool true) ∧ Below w.heap.size w w' := by
  have HR0 := Aside0.mk hr0
  have HC0 := Aside0.mk hc0
  have HB := Aside0.mk (Below.refl w.heap.size w)
  have d1 : decide ((60 : Int) < (l0.length : Int)) = false := decide_eq_false (by omega)
  have d2 : decide ((500 : Int) ≤ more) = true := decide_eq_true h1
  have d3 : decide (more ≤ (530 : Int)) = true := decide_eq_true h2
  have HL := Aside0.mk hl
  have HM := Aside0.mk (show 500 ≤ more ∧ more ≤ 530 from ⟨h1, h2⟩)
  clear hr0 hc0 hl h1 h2
  go_enter Try.func7, Try.ntmps7
  go_wp2_with (first
    | ((with_reducible refine gate_dst (N := 15) rfl ?_); go_must (refine Kd.R_lit Kd.string _ 9 ?hg (N := 15) ?hd (xs := ([] : List ByteArray)) (inner := []) (ok := fun k => w.heap.size ≤ k) (okp := fun _ => False) ?hr ?hp (fun _ hk => hk.elim) HB.out.size (Below.refl _ _) HB.out.size (by simp) ?_; (case hd => rfl); (case hg => rfl); (case hr => first | (go_simp; done) | (go_simp; rfl)); (case hp => exact Reps.none _ _); intro v1 w1 ho hb hg_ hnew_; obtain ⟨A1, k1, rfl⟩ := Kd.R_slice ho; have HO := Aside0.mk ho; have HBn := Aside0.mk (HB.out.trans hb); clear HB ho hb hg_ hnew_; have HB := HBn; clear HBn))
    | ((with_reducible refine gate_builtin (b := .append) (xs := #[.tmp 15, .tmp 16]) rfl ?_); go_must (at_builtin; refine Kd.R_append_rows Kd.string (w0 := w1) w.heap.size rfl (.tmp 15) (.tmp 16) 24 9 (.string E0) 16 rfl Try.underlying24 infoS rfl (by decide) (by decide) _ ([] : List ByteArray) l0 _ _ _ (fun k => w.heap.size ≤ k) (fun _ => False) rfl rfl HO.out (Kd.C_below HR0.out HB.out) (fun _ _ h => h) (fun _ h => h.elim) ?aF (Below.refl _ _) HB.out.size ?aL ?_; (case aF => exact fun k hk => Nat.le_trans HB.out.size hk); (case aL => have := HL.out; simp; omega); intro v2 w2 hr2 hb2 hg2 hat2; have HR2 := Aside0.mk (show Kd.R Kd.string 9 w2 w.heap.size (fun k => w.heap.size ≤ k) v2 l0 from hr2); obtain ⟨A2, k2, rfl⟩ := Kd.R_slice HR2.out; have HBn := Aside0.mk (HB.out.trans hb2); clear HB HO hr2 hb2 hg2 hat2; have HB := HBn; clear HBn)))
  go_loopg [5, 6] more.toNat (fun kq v5 v6 wr => ∃ (K : Nat) (l : List ByteArray) (A : Option Addr) (c : Nat), v6 = .int .i64 (K : Int) ∧ v5 = .slice A l.length c ∧ Aside0 ((K : Int) ≤ more ∧ kq = more.toNat - K ∧ l.length = l0.length + K) ∧ Aside0 (Kd.R Kd.string 9 wr w.heap.size (fun k => w.heap.size ≤ k) (.slice A l.length c) l) ∧ Aside0 (Below w.heap.size w wr))
  case atStart => exact ⟨0, l0, A2, k2, rfl, rfl, ⟨by have := HM.out; simp; omega⟩, HR2, HB⟩
  case round =>
    clear HB HR2
    obtain ⟨K, l, A, c, rfl, rfl, HK, HR, HB⟩ := hrel
    by_cases c1 : (K : Int) < more
    · have hk1 : wrap64 ((K : Int) + 1) = (K : Int) + 1 := by have := HM.out; unfold wrap64; omega
      have d6 : decide ((K : Int) < more) = true := decide_eq_true c1
      have HL2 := Aside0.mk c1
      clear c1
      go_wp2_with (first
        | ((with_reducible refine gate_dst (N := 38) rfl ?_); go_must (refine Kd.R_lit (Kd.int .u8) _ 5 ?hg (N := 38) ?hd (xs := ([97 + (K : Int) % 26, (97 + wrap64 ((K : Int) / 26) % 256) % 256] : List Int)) (inner := [.int .u8 (97 + (K : Int) % 26), .int .u8 ((97 + wrap64 ((K : Int) / 26) % 256) % 256)]) (ok := fun _ => True) (okp := fun _ => True) ?hr ?hp (fun _ hk => hk) trivial (Below.refl _ _) (Nat.le_refl _) (by simp) ?_; (case hd => rfl); (case hg => rfl); (case hr => first | (go_simp; done) | (go_simp; rfl)); (case hp => exact (Reps.one (show Kd.M (Kd.int .u8) _ _ _ _ [.int .u8 _] from rfl) (Reps.one (show Kd.M (Kd.int .u8) _ _ _ _ [.int .u8 _] from rfl) (Reps.none _ _)))); intro v3 w3 ho hb hg_ hnew_; have hcv := own_string (P := Try.prog) Try.underlying40 Try.underlying5 Try.underlying9 (Kd.own_of_R ho); obtain ⟨s2, hs2⟩ : ∃ s2, strOfNums ([97 + (K : Int) % 26, (97 + wrap64 ((K : Int) / 26) % 256) % 256] : List Int) = s2 := ⟨_, rfl⟩; rw [hs2] at hcv; have hsz : s2.size = 2 := (by rw [← hs2]; rfl); clear hs2; obtain ⟨A3, k3, rfl⟩ := Kd.R_slice ho; replace hcv : (convert 40 9 (.slice A3 2 k3)).run Try.prog w3 = .ok (.string s2) w3 := hcv; have HR3 := Aside0.mk (Kd.R_below HR.out hb); have HBn := Aside0.mk (HB.out.trans (hb.mono HB.out.size)); clear HB HR ho hb hg_ hnew_; have HB := HBn; clear HBn))
        | ((with_reducible refine gate_builtin (b := .append) (xs := #[.tmp 29, .tmp 42]) rfl ?_); go_must (at_builtin; refine Kd.R_append Kd.string (w0 := w3) w.heap.size rfl (.tmp 29) (.tmp 42) 24 9 (.string E0) 16 rfl Try.underlying24 infoS rfl (by decide) (by decide) (.slice A l.length c) l ((⟨#[120]⟩ : ByteArray) ++ s2 ++ (⟨#[90]⟩ : ByteArray)) [.string ((⟨#[120]⟩ : ByteArray) ++ s2 ++ (⟨#[90]⟩ : ByteArray))] (fun k => w.heap.size ≤ k) (fun _ => False) rfl rfl ?aP ?aK ?aF HR3.out (Below.refl _ _) HB.out.size ?aL ?_; (case aP => rfl); (case aK => exact fun _ h => h.elim); (case aF => exact fun k hk => Nat.le_trans HB.out.size hk); (case aL => have := HK.out; have := HL.out; have := HM.out; omega); intro v4 w4 hr4 hb4 hg4 hat4; obtain ⟨A4, k4, rfl⟩ := Kd.R_slice hr4; have HR4 := Aside0.mk hr4; have HBn := Aside0.mk (HB.out.trans hb4); clear HB HR3 hr4 hb4 hg4 hat4 hcv hsz; have HB := HBn; clear HBn)))
      go_roundg (more.toNat - (K + 1))
      case measure => have := HK.out; have := HL2.out; omega
      case rel => exact ⟨K + 1, _, A4, k4, by first | rfl | simp [hk1], by first | rfl | (rw [List.length_append]; rfl), ⟨by have h1_ := HK.out.2.2; have := HL2.out; refine ⟨by omega, rfl, ?_⟩; rw [List.length_append, h1_]; rfl⟩, HR4, HB⟩
    · have d6 : decide ((K : Int) < more) = false := decide_eq_false c1
      obtain ⟨_, _, hv_, hcc_, hc_⟩ := Kd.R_reads HR.out
      cases hv_
      have HC := Aside0.mk hc_
      have HCC := Aside0.mk hcc_
      clear hc_ hcc_ c1 HR HK
      by_cases hnf : (newF l).1 = 0
      · have HNF := Aside0.mk hnf
        clear hnf
        go_wp2_with (first
          | (go_at_call 13; go_must (refine (New_ok _ _ l _ HC.out HNF.out).mono ?_; rintro e w5 ⟨g, rfl, hT, hb⟩; have HT := Aside0.mk hT; clear hT; have HBn := Aside0.mk (below_step HB.out hb); have HCn := Aside0.mk (Kd.C_below HC.out hb); clear HB HC; have HB := HBn; have HC := HCn; clear HBn HCn; clear hb))
          | (go_at_call 18; go_must (refine (RNew_ok _ _ l _ HC.out HCC.out HNF.out).mono ?_; rintro e w6 ⟨gr, rfl, hT, hb⟩; obtain ⟨Ar, cr, hgr, _, hcr⟩ := hT.row; have HCR := Aside0.mk hcr; have cr0 : w6.cell? ⟨gr, 0, none⟩ = some (.slice Ar l.length cr) := (blk_cell hgr 0).trans rfl; clear hT hgr hcr; have HBn := Aside0.mk (below_step HB.out hb); have HTn := Aside0.mk (HT.out.below hb); clear HB HT; have HB := HBn; have HT := HTn; clear HBn HTn; clear hb))
          | (go_at_call 19; go_must (refine (same_calls _ g _ l _ _ _ HT.out HCR.out (newF_ok HNF.out).2.2.1 (newF_ok HNF.out).2.2.2).mono ?_; rintro e w7 ⟨rfl, hb⟩; have HBn := Aside0.mk (below_step HB.out hb); clear HB; have HB := HBn; clear HBn; clear hb))
          | (go_at_call 12; (with_reducible refine (awake_calls _).mono ?_); rintro e w9 ⟨rfl, hb⟩; have HBn := Aside0.mk (below_step HB.out hb); clear HB; have HB := HBn; clear HBn hb))
        go_ret
        exact ⟨rfl, HB.out⟩
      · have HNF := Aside0.mk hnf
        have d9 : ((newF l).1 != (newF l).1) = false := by simp
        clear hnf
        go_wp2_with (first
          | (go_at_call 13; go_must (refine (New_no _ _ l _ HC.out HNF.out).mono ?_; rintro e w5 ⟨rfl, hb⟩; have HBn := Aside0.mk (below_step HB.out hb); have HCn := Aside0.mk (Kd.C_below HC.out hb); clear HB HC; have HB := HBn; have HC := HCn; clear HBn HCn; clear hb))
          | (go_at_call 18; go_must (refine (RNew_no _ _ l _ HC.out HCC.out HNF.out).mono ?_; rintro e w6 ⟨rfl, hb⟩; have HBn := Aside0.mk (below_step HB.out hb); clear HB; have HB := HBn; clear HBn; clear hb))
          | (go_at_call 12; (with_reducible refine (awake_calls _).mono ?_); rintro e w9 ⟨rfl, hb⟩; have HBn := Aside0.mk (below_step HB.out hb); clear HB; have HB := HBn; clear HBn hb))
        go_ret
        exact ⟨rfl, HB.out⟩
set_option maxHeartbeats 1000000 in
set_option maxRecDepth 100000 in
theorem News_plain (A0 : Option Addr) (c0 : Nat) (l0 : List ByteArray) (more : Int) (w : World) (hr0 : Kd.C Kd.string w A0 l0.length l0) (hc0 : l0.length ≤ c0) (hl : l0.length ≤ 60) (h1 : ¬ (500 ≤ more ∧ more ≤ 530)) :
    Calls Try.prog 7 #[.slice A0 l0.length c0, .int .i64 more] w fun e w' => e = .returned (.bool true) ∧ Below w.heap.size w w' := by
  have HR0 := Aside0.mk hr0
  have HC0 := Aside0.mk hc0
  have HB := Aside0.mk (Below.refl w.heap.size w)
  have d1 : decide ((60 : Int) < (l0.length : Int)) = false := decide_eq_false (by omega)
  have d2 : (decide ((500 : Int) ≤ more) = true ∧ decide (more ≤ (530 : Int)) = false) ∨ decide ((500 : Int) ≤ more) = false := by by_cases h0 : 500 ≤ more; (exact .inl ⟨decide_eq_true h0, decide_eq_false (fun h2 => h1 ⟨h0, h2⟩)⟩); (exact .inr (decide_eq_false h0))
  have HL := Aside0.mk hl
  clear hr0 hc0 hl h1
  by_cases hnf : (newF l0).1 = 0
  · have HNF := Aside0.mk hnf
    clear hnf
    rcases d2 with ⟨d2, d3⟩ | d2
    all_goals
      go_enter Try.func7, Try.ntmps7
      go_wp2_with (first
        | ((with_reducible refine gate_dst (N := 15) rfl ?_); go_must (refine Kd.R_lit Kd.string _ 9 ?hg (N := 15) ?hd (xs := ([] : List ByteArray)) (inner := []) (ok := fun k => w.heap.size ≤ k) (okp := fun _ => False) ?hr ?hp (fun _ hk => hk.elim) HB.out.size (Below.refl _ _) HB.out.size (by simp) ?_; (case hd => rfl); (case hg => rfl); (case hr => first | (go_simp; done) | (go_simp; rfl)); (case hp => exact Reps.none _ _); intro v1 w1 ho hb hg_ hnew_; obtain ⟨A1, k1, rfl⟩ := Kd.R_slice ho; have HO := Aside0.mk ho; have HBn := Aside0.mk (HB.out.trans hb); clear HB ho hb hg_ hnew_; have HB := HBn; clear HBn))
        | (((with_reducible refine gate_builtin (b := .append) (xs := #[.tmp 15, .tmp 16]) rfl ?_); go_must (at_builtin; refine Kd.R_append_rows Kd.string (w0 := w1) w.heap.size rfl (.tmp 15) (.tmp 16) 24 9 (.string E0) 16 rfl Try.underlying24 infoS rfl (by decide) (by decide) _ ([] : List ByteArray) l0 _ _ _ (fun k => w.heap.size ≤ k) (fun _ => False) rfl rfl HO.out (Kd.C_below HR0.out HB.out) (fun _ _ h => h) (fun _ h => h.elim) ?aF (Below.refl _ _) HB.out.size ?aL ?_; (case aF => exact fun k hk => Nat.le_trans HB.out.size hk); (case aL => have := HL.out; simp; omega); intro v2 w2 hr2 hb2 hg2 hat2; have HR2 := Aside0.mk (show Kd.R Kd.string 9 w2 w.heap.size (fun k => w.heap.size ≤ k) v2 l0 from hr2); obtain ⟨A2, k2, rfl⟩ := Kd.R_slice HR2.out; have HBn := Aside0.mk (HB.out.trans hb2); clear HB HO hr2 hb2 hg2 hat2; have HB := HBn; clear HBn); obtain ⟨A_, c_, hv_, hcc_, hc_⟩ := Kd.R_reads HR2.out; cases hv_; have HC := Aside0.mk hc_; have HCC := Aside0.mk hcc_; clear hc_ hcc_ HR2))
        | (go_at_call 13; go_must (refine (New_ok _ _ l0 _ HC.out HNF.out).mono ?_; rintro e w5 ⟨g, rfl, hT, hb⟩; have HT := Aside0.mk hT; clear hT; have HBn := Aside0.mk (below_step HB.out hb); have HCn := Aside0.mk (Kd.C_below HC.out hb); clear HB HC; have HB := HBn; have HC := HCn; clear HBn HCn; clear hb))
        | (go_at_call 18; go_must (refine (RNew_ok _ _ l0 _ HC.out HCC.out HNF.out).mono ?_; rintro e w6 ⟨gr, rfl, hT, hb⟩; obtain ⟨Ar, cr, hgr, _, hcr⟩ := hT.row; have HCR := Aside0.mk hcr; have cr0 : w6.cell? ⟨gr, 0, none⟩ = some (.slice Ar l0.length cr) := (blk_cell hgr 0).trans rfl; clear hT hgr hcr; have HBn := Aside0.mk (below_step HB.out hb); have HTn := Aside0.mk (HT.out.below hb); clear HB HT; have HB := HBn; have HT := HTn; clear HBn HTn; clear hb))
        | (go_at_call 19; go_must (refine (same_calls _ g _ l0 _ _ _ HT.out HCR.out (newF_ok HNF.out).2.2.1 (newF_ok HNF.out).2.2.2).mono ?_; rintro e w7 ⟨rfl, hb⟩; have HBn := Aside0.mk (below_step HB.out hb); clear HB; have HB := HBn; clear HBn; clear hb))
        | (go_at_call 12; (with_reducible refine (awake_calls _).mono ?_); rintro e w9 ⟨rfl, hb⟩; have HBn := Aside0.mk (below_step HB.out hb); clear HB; have HB := HBn; clear HBn hb))
      go_ret
      exact ⟨rfl, HB.out⟩
  · have HNF := Aside0.mk hnf
    have d9 : ((newF l0).1 != (newF l0).1) = false := by simp
    clear hnf
    rcases d2 with ⟨d2, d3⟩ | d2
    all_goals
      go_enter Try.func7, Try.ntmps7
      go_wp2_with (first
        | ((with_reducible refine gate_dst (N := 15) rfl ?_); go_must (refine Kd.R_lit Kd.string _ 9 ?hg (N := 15) ?hd (xs := ([] : List ByteArray)) (inner := []) (ok := fun k => w.heap.size ≤ k) (okp := fun _ => False) ?hr ?hp (fun _ hk => hk.elim) HB.out.size (Below.refl _ _) HB.out.size (by simp) ?_; (case hd => rfl); (case hg => rfl); (case hr => first | (go_simp; done) | (go_simp; rfl)); (case hp => exact Reps.none _ _); intro v1 w1 ho hb hg_ hnew_; obtain ⟨A1, k1, rfl⟩ := Kd.R_slice ho; have HO := Aside0.mk ho; have HBn := Aside0.mk (HB.out.trans hb); clear HB ho hb hg_ hnew_; have HB := HBn; clear HBn))
        | (((with_reducible refine gate_builtin (b := .append) (xs := #[.tmp 15, .tmp 16]) rfl ?_); go_must (at_builtin; refine Kd.R_append_rows Kd.string (w0 := w1) w.heap.size rfl (.tmp 15) (.tmp 16) 24 9 (.string E0) 16 rfl Try.underlying24 infoS rfl (by decide) (by decide) _ ([] : List ByteArray) l0 _ _ _ (fun k => w.heap.size ≤ k) (fun _ => False) rfl rfl HO.out (Kd.C_below HR0.out HB.out) (fun _ _ h => h) (fun _ h => h.elim) ?aF (Below.refl _ _) HB.out.size ?aL ?_; (case aF => exact fun k hk => Nat.le_trans HB.out.size hk); (case aL => have := HL.out; simp; omega); intro v2 w2 hr2 hb2 hg2 hat2; have HR2 := Aside0.mk (show Kd.R Kd.string 9 w2 w.heap.size (fun k => w.heap.size ≤ k) v2 l0 from hr2); obtain ⟨A2, k2, rfl⟩ := Kd.R_slice HR2.out; have HBn := Aside0.mk (HB.out.trans hb2); clear HB HO hr2 hb2 hg2 hat2; have HB := HBn; clear HBn); obtain ⟨A_, c_, hv_, hcc_, hc_⟩ := Kd.R_reads HR2.out; cases hv_; have HC := Aside0.mk hc_; have HCC := Aside0.mk hcc_; clear hc_ hcc_ HR2))
        | (go_at_call 13; go_must (refine (New_no _ _ l0 _ HC.out HNF.out).mono ?_; rintro e w5 ⟨rfl, hb⟩; have HBn := Aside0.mk (below_step HB.out hb); have HCn := Aside0.mk (Kd.C_below HC.out hb); clear HB HC; have HB := HBn; have HC := HCn; clear HBn HCn; clear hb))
        | (go_at_call 18; go_must (refine (RNew_no _ _ l0 _ HC.out HCC.out HNF.out).mono ?_; rintro e w6 ⟨rfl, hb⟩; have HBn := Aside0.mk (below_step HB.out hb); clear HB; have HB := HBn; clear HBn; clear hb))
        | (go_at_call 12; (with_reducible refine (awake_calls _).mono ?_); rintro e w9 ⟨rfl, hb⟩; have HBn := Aside0.mk (below_step HB.out hb); clear HB; have HB := HBn; clear HBn hb))
      go_ret
      exact ⟨rfl, HB.out⟩
theorem IdentNews_calls (A0 : Option Addr) (c0 : Nat) (l0 : List ByteArray) (more : Int) (w : World) (hr0 : Kd.C Kd.string w A0 l0.length l0) (hc0 : l0.length ≤ c0) :
    Calls Try.prog 7 #[.slice A0 l0.length c0, .int .i64 more] w fun e w' => e = .returned (.bool true) ∧ Below w.heap.size w w' := by
  by_cases h : 60 < l0.length
  · exact News_big A0 c0 l0 more w hr0 hc0 h
  · by_cases h1 : 500 ≤ more ∧ more ≤ 530
    · exact News_more A0 c0 l0 more w hr0 hc0 (by omega) h1.1 h1.2
    · exact News_plain A0 c0 l0 more w hr0 hc0 (by omega) h1
end Go.Proofs.Ytoleenfipnbjkaa.Tab
