import Derived.Test.YtoncjfgklaldnaaMPh0
import Derived.Test.YtoncjfgklaldnaaMStA0
namespace Go.Proofs.Ytoncjfgklaldnaa.PX
open Go.RowKit Go.Proofs.YtoncjfgklaldnaaW.PrintWords Go.Proofs.YtoncjfgklaldnaaW.PrintLast Go.Proofs.YtoncjfgklaldnaaW.PrintMore Go.Proofs.Ytoncjfgklaldnaa.MSpec
set_option linter.unusedVariables false
set_option linter.unusedSimpArgs false
set_option maxHeartbeats 8000000 in
set_option maxRecDepth 100000 in
theorem phases_out (th cl : Int) (A1 : Option Addr) (c1 : Nat) (l1 : List S35) (A2 : Option Addr) (c2 : Nat) (l2 : List Int) (en : Int) (w : World) (hr1 : Kd.C k35 w A1 l1.length l1) (hc1 : l1.length ≤ c1) (hr2 : Kd.C (Kd.int .i64) w A2 l2.length l2) (hc2 : l2.length ≤ c2) (h0 : chk th cl l1 ≠ 0) :
    Calls Try.prog 10 #[.agg #[.int .i64 th, .int .i64 cl], .slice A1 l1.length c1, .agg #[.slice A2 l2.length c2, .int .i64 en]] w fun e w' => e = .returned (.bool true) ∧ Below w.heap.size w w' := by
  have HR1 := Aside0.mk hr1
  have HC1 := Aside0.mk hc1
  have HR2 := Aside0.mk hr2
  have HC2 := Aside0.mk hc2
  obtain ⟨kA, haw⟩ := awake_ev.rounds
  have HAW := Aside0.mk haw
  obtain ⟨kC, hck⟩ := (check_ev th cl l1).rounds
  have tk1 : True := trivial
  have tk2 : True := trivial
  clear hr1 hc1 hr2 hc2 haw
  have HE := Aside0.mk hck
  have c0b : (chk th cl l1 == 0) = false := beq_eq_false_iff_ne.mpr h0
  have c0c : (chk th cl l1 != 0) = true := bne_iff_ne.mpr h0
  clear h0 hck
  go_enter Try.func10, Try.ntmps10
  go_wp2_with (first | ((with_reducible refine gate_dst (N := 3) rfl ?_); go_must (refine box_event ?hg (N := 3) ?hd (cs := #[.int .i64 th, .int .i64 cl]) (t := 28) ?hr ?_; (case hd => rfl); (case hg => rfl); (case hr => first | (go_simp; done) | (go_simp; rfl)); intro gr hg w3 hbox hb; have BR := Aside0.mk hbox; have HB := Aside0.mk hb; clear hbox hb hg)) | ((with_reducible refine gate_dst (N := 5) rfl ?_); go_must (refine box_event ?hg (N := 5) ?hd (cs := #[.slice A2 l2.length c2, .int .i64 en]) (t := 52) ?hr ?_; (case hd => rfl); (case hg => rfl); (case hr => first | (go_simp; done) | (go_simp; rfl)); intro gs hg w5 hbox hb; have BS5 := Aside0.mk hbox; have BR5 := Aside0.mk (blk_below BR.out hb); have HB5 := Aside0.mk (below_step HB.out hb); have r0_5 := (blk_cell BR5.out 0).trans rfl; have r1_5 := (blk_cell BR5.out 1).trans rfl; have s0_5 := (blk_cell BS5.out 0).trans rfl; have s1_5 := (blk_cell BS5.out 1).trans rfl; clear hbox hb hg)) | (go_at_call 14; have _t := tk1; go_must (refine (machine_Check.calls kC th cl _ c1 l1 (chk th cl l1) _ (Kd.C_below HR1.out HB5.out) HC1.out HE.out).mono ?_; rintro e_ w6 ⟨rfl, hb⟩; have BR6 := Aside0.mk (blk_below BR5.out hb); have BS6 := Aside0.mk (blk_below BS5.out hb); have HB6 := Aside0.mk (below_step HB5.out hb); have r0_6 := (blk_cell BR6.out 0).trans rfl; have r1_6 := (blk_cell BR6.out 1).trans rfl; have s0_6 := (blk_cell BS6.out 0).trans rfl; have s1_6 := (blk_cell BS6.out 1).trans rfl; clear hb; clear tk1 _t)) | (go_at_call 13; go_must (refine (papermilllaw30_awake.calls kA true _ HAW.out).mono ?_; rintro e_ wz ⟨rfl, hb⟩; have HBZ := Aside0.mk (below_step (HB6.out) hb); clear hb)))
  go_ret
  exact ⟨rfl, HBZ.out⟩
set_option maxHeartbeats 8000000 in
set_option maxRecDepth 100000 in
theorem phases_err_a (th cl : Int) (A1 : Option Addr) (c1 : Nat) (l1 : List S35) (A2 : Option Addr) (c2 : Nat) (l2 : List Int) (en : Int) (w : World) (hr1 : Kd.C k35 w A1 l1.length l1) (hc1 : l1.length ≤ c1) (hr2 : Kd.C (Kd.int .i64) w A2 l2.length l2) (hc2 : l2.length ≤ c2) (h0 : chk th cl l1 = 0) (kS kC2 kP kQ : Nat) (ra : List S35) (hst : machine_Stops.f kS th cl l1 l2 = some (ra, 0)) (hc2_ : machine_Check.f kC2 th cl ra = some 0) (rp : List S54) (rs : List Int) (e1 : Int) (hph : machine_Phases.f kP th cl ra en = some (rp, e1)) (hsm : machine_Sums.f kQ th cl ra en = some (rs, e1)) (he1 : e1 ≠ 0) (hp0 : rp = []) (hs0 : rs = []) :
    Calls Try.prog 10 #[.agg #[.int .i64 th, .int .i64 cl], .slice A1 l1.length c1, .agg #[.slice A2 l2.length c2, .int .i64 en]] w fun e w' => e = .returned (.bool true) ∧ Below w.heap.size w w' := by
  have HR1 := Aside0.mk hr1
  have HC1 := Aside0.mk hc1
  have HR2 := Aside0.mk hr2
  have HC2 := Aside0.mk hc2
  obtain ⟨kA, haw⟩ := awake_ev.rounds
  have HAW := Aside0.mk haw
  obtain ⟨kC, hck⟩ := (check_ev th cl l1).rounds
  have tk1 : True := trivial
  have tk2 : True := trivial
  clear hr1 hc1 hr2 hc2 haw
  rw [h0] at hck
  have HE := Aside0.mk hck
  have HST := Aside0.mk hst
  have HE2 := Aside0.mk hc2_
  have HPH := Aside0.mk hph
  have HSM := Aside0.mk hsm
  clear hck hst hc2_ hph hsm h0
  have c1b : (e1 == 0) = false := beq_eq_false_iff_ne.mpr he1
  have c1c : (e1 != 0) = true := bne_iff_ne.mpr he1
  have c1d : (e1 == e1) = true := beq_self_eq_true e1
  subst hp0
  subst hs0
  clear he1
  go_enter Try.func10, Try.ntmps10
  go_wp2_with (first | ((with_reducible refine gate_dst (N := 3) rfl ?_); go_must (refine box_event ?hg (N := 3) ?hd (cs := #[.int .i64 th, .int .i64 cl]) (t := 28) ?hr ?_; (case hd => rfl); (case hg => rfl); (case hr => first | (go_simp; done) | (go_simp; rfl)); intro gr hg w3 hbox hb; have BR := Aside0.mk hbox; have HB := Aside0.mk hb; clear hbox hb hg)) | ((with_reducible refine gate_dst (N := 5) rfl ?_); go_must (refine box_event ?hg (N := 5) ?hd (cs := #[.slice A2 l2.length c2, .int .i64 en]) (t := 52) ?hr ?_; (case hd => rfl); (case hg => rfl); (case hr => first | (go_simp; done) | (go_simp; rfl)); intro gs hg w5 hbox hb; have BS5 := Aside0.mk hbox; have BR5 := Aside0.mk (blk_below BR.out hb); have HB5 := Aside0.mk (below_step HB.out hb); have r0_5 := (blk_cell BR5.out 0).trans rfl; have r1_5 := (blk_cell BR5.out 1).trans rfl; have s0_5 := (blk_cell BS5.out 0).trans rfl; have s1_5 := (blk_cell BS5.out 1).trans rfl; clear hbox hb hg)) | (go_at_call 14; have _t := tk1; go_must (refine (machine_Check.calls kC th cl _ c1 l1 0 _ (Kd.C_below HR1.out HB5.out) HC1.out HE.out).mono ?_; rintro e_ w6 ⟨rfl, hb⟩; have BR6 := Aside0.mk (blk_below BR5.out hb); have BS6 := Aside0.mk (blk_below BS5.out hb); have HB6 := Aside0.mk (below_step HB5.out hb); have r0_6 := (blk_cell BR6.out 0).trans rfl; have r1_6 := (blk_cell BR6.out 1).trans rfl; have s0_6 := (blk_cell BS6.out 0).trans rfl; have s1_6 := (blk_cell BS6.out 1).trans rfl; clear hb; clear tk1 _t)) | (go_at_call 24; go_must (refine (machine_Stops.calls kS th cl _ c1 l1 _ c2 l2 ra 0 _ (Kd.C_below HR1.out HB6.out) HC1.out (Kd.C_below HR2.out HB6.out) HC2.out HST.out).mono ?_; rintro e_ w7 ⟨va, rfl, hra, hb⟩; have BR7 := Aside0.mk (blk_below BR6.out hb); have BS7 := Aside0.mk (blk_below BS6.out hb); have HB7 := Aside0.mk (below_step HB6.out hb); have r0_7 := (blk_cell BR7.out 0).trans rfl; have r1_7 := (blk_cell BR7.out 1).trans rfl; have s0_7 := (blk_cell BS7.out 0).trans rfl; have s1_7 := (blk_cell BS7.out 1).trans rfl; obtain ⟨AL, cl_, rfl, hcl, hcC⟩ := Kd.R_reads hra; have HLC := Aside0.mk hcC; have HLL := Aside0.mk hcl; clear hra hcl hcC hb)) | (go_at_call 14; have _t := tk2; go_must (refine (machine_Check.calls kC2 th cl _ cl_ ra 0 _ HLC.out HLL.out HE2.out).mono ?_; rintro e_ w8 ⟨rfl, hb⟩; have BR8 := Aside0.mk (blk_below BR7.out hb); have BS8 := Aside0.mk (blk_below BS7.out hb); have HB8 := Aside0.mk (below_step HB7.out hb); have r0_8 := (blk_cell BR8.out 0).trans rfl; have r1_8 := (blk_cell BR8.out 1).trans rfl; have s0_8 := (blk_cell BS8.out 0).trans rfl; have s1_8 := (blk_cell BS8.out 1).trans rfl; have HLC8 := Aside0.mk (Kd.C_below HLC.out hb); clear hb; clear tk2 _t)) | (go_at_call 18; go_must (refine (machine_Phases.calls kP th cl _ cl_ ra en _ _ _ HLC8.out HLL.out HPH.out).mono ?_; rintro e_ w9 ⟨vp, rfl, hrp, hb⟩; have BR9 := Aside0.mk (blk_below BR8.out hb); have BS9 := Aside0.mk (blk_below BS8.out hb); have HB9 := Aside0.mk (below_step HB8.out hb); have r0_9 := (blk_cell BR9.out 0).trans rfl; have r1_9 := (blk_cell BR9.out 1).trans rfl; have s0_9 := (blk_cell BS9.out 0).trans rfl; have s1_9 := (blk_cell BS9.out 1).trans rfl; have HLC9 := Aside0.mk (Kd.C_below HLC8.out hb); obtain ⟨AP, cp, rfl, hcp, hpC⟩ := Kd.R_reads hrp; have HPC := Aside0.mk hpC; clear hrp hcp hpC hb)) | (go_at_call 20; go_must (refine (machine_Sums.calls kQ th cl _ cl_ ra en _ _ _ HLC9.out HLL.out HSM.out).mono ?_; rintro e_ w10 ⟨vs, rfl, hrs, hb⟩; have BR10 := Aside0.mk (blk_below BR9.out hb); have BS10 := Aside0.mk (blk_below BS9.out hb); have HB10 := Aside0.mk (below_step HB9.out hb); have r0_10 := (blk_cell BR10.out 0).trans rfl; have r1_10 := (blk_cell BR10.out 1).trans rfl; have s0_10 := (blk_cell BS10.out 0).trans rfl; have s1_10 := (blk_cell BS10.out 1).trans rfl; have HLC10 := Aside0.mk (Kd.C_below HLC9.out hb); have HPC10 := Aside0.mk (Kd.C_below HPC.out hb); obtain ⟨AS, csn, rfl, hcs, hsC⟩ := Kd.R_reads hrs; have HSC := Aside0.mk hsC; have HSR := Aside0.mk hrs; clear hrs hcs hsC hb)) | (go_at_call 13; go_must (refine (papermilllaw30_awake.calls kA true _ HAW.out).mono ?_; rintro e_ wz ⟨rfl, hb⟩; have HBZ := Aside0.mk (below_step (HB10.out) hb); clear hb)))
  go_ret
  exact ⟨rfl, HBZ.out⟩
set_option maxHeartbeats 8000000 in
set_option maxRecDepth 100000 in
theorem phases_err_b (th cl : Int) (A1 : Option Addr) (c1 : Nat) (l1 : List S35) (A2 : Option Addr) (c2 : Nat) (l2 : List Int) (en : Int) (w : World) (hr1 : Kd.C k35 w A1 l1.length l1) (hc1 : l1.length ≤ c1) (hr2 : Kd.C (Kd.int .i64) w A2 l2.length l2) (hc2 : l2.length ≤ c2) (h0 : chk th cl l1 = 0) (kS kC2 kP kQ : Nat) (ra : List S35) (er : Int) (her : er ≠ 0) (hst : machine_Stops.f kS th cl l1 l2 = some (ra, er)) (hc2_ : machine_Check.f kC2 th cl l1 = some 0) (rp : List S54) (rs : List Int) (e1 : Int) (hph : machine_Phases.f kP th cl l1 en = some (rp, e1)) (hsm : machine_Sums.f kQ th cl l1 en = some (rs, e1)) (he1 : e1 ≠ 0) (hp0 : rp = []) (hs0 : rs = []) :
    Calls Try.prog 10 #[.agg #[.int .i64 th, .int .i64 cl], .slice A1 l1.length c1, .agg #[.slice A2 l2.length c2, .int .i64 en]] w fun e w' => e = .returned (.bool true) ∧ Below w.heap.size w w' := by
  have HR1 := Aside0.mk hr1
  have HC1 := Aside0.mk hc1
  have HR2 := Aside0.mk hr2
  have HC2 := Aside0.mk hc2
  obtain ⟨kA, haw⟩ := awake_ev.rounds
  have HAW := Aside0.mk haw
  obtain ⟨kC, hck⟩ := (check_ev th cl l1).rounds
  have tk1 : True := trivial
  have tk2 : True := trivial
  clear hr1 hc1 hr2 hc2 haw
  rw [h0] at hck
  have HE := Aside0.mk hck
  have HST := Aside0.mk hst
  have HE2 := Aside0.mk hc2_
  have HPH := Aside0.mk hph
  have HSM := Aside0.mk hsm
  have c0b : (er == 0) = false := beq_eq_false_iff_ne.mpr her
  have c0c : (er != 0) = true := bne_iff_ne.mpr her
  clear her
  clear hck hst hc2_ hph hsm h0
  have c1b : (e1 == 0) = false := beq_eq_false_iff_ne.mpr he1
  have c1c : (e1 != 0) = true := bne_iff_ne.mpr he1
  have c1d : (e1 == e1) = true := beq_self_eq_true e1
  subst hp0
  subst hs0
  clear he1
  go_enter Try.func10, Try.ntmps10
  go_wp2_with (first | ((with_reducible refine gate_dst (N := 3) rfl ?_); go_must (refine box_event ?hg (N := 3) ?hd (cs := #[.int .i64 th, .int .i64 cl]) (t := 28) ?hr ?_; (case hd => rfl); (case hg => rfl); (case hr => first | (go_simp; done) | (go_simp; rfl)); intro gr hg w3 hbox hb; have BR := Aside0.mk hbox; have HB := Aside0.mk hb; clear hbox hb hg)) | ((with_reducible refine gate_dst (N := 5) rfl ?_); go_must (refine box_event ?hg (N := 5) ?hd (cs := #[.slice A2 l2.length c2, .int .i64 en]) (t := 52) ?hr ?_; (case hd => rfl); (case hg => rfl); (case hr => first | (go_simp; done) | (go_simp; rfl)); intro gs hg w5 hbox hb; have BS5 := Aside0.mk hbox; have BR5 := Aside0.mk (blk_below BR.out hb); have HB5 := Aside0.mk (below_step HB.out hb); have r0_5 := (blk_cell BR5.out 0).trans rfl; have r1_5 := (blk_cell BR5.out 1).trans rfl; have s0_5 := (blk_cell BS5.out 0).trans rfl; have s1_5 := (blk_cell BS5.out 1).trans rfl; clear hbox hb hg)) | (go_at_call 14; have _t := tk1; go_must (refine (machine_Check.calls kC th cl _ c1 l1 0 _ (Kd.C_below HR1.out HB5.out) HC1.out HE.out).mono ?_; rintro e_ w6 ⟨rfl, hb⟩; have BR6 := Aside0.mk (blk_below BR5.out hb); have BS6 := Aside0.mk (blk_below BS5.out hb); have HB6 := Aside0.mk (below_step HB5.out hb); have r0_6 := (blk_cell BR6.out 0).trans rfl; have r1_6 := (blk_cell BR6.out 1).trans rfl; have s0_6 := (blk_cell BS6.out 0).trans rfl; have s1_6 := (blk_cell BS6.out 1).trans rfl; clear hb; clear tk1 _t)) | (go_at_call 24; go_must (refine (machine_Stops.calls kS th cl _ c1 l1 _ c2 l2 ra er _ (Kd.C_below HR1.out HB6.out) HC1.out (Kd.C_below HR2.out HB6.out) HC2.out HST.out).mono ?_; rintro e_ w7 ⟨va, rfl, hra, hb⟩; have BR7 := Aside0.mk (blk_below BR6.out hb); have BS7 := Aside0.mk (blk_below BS6.out hb); have HB7 := Aside0.mk (below_step HB6.out hb); have r0_7 := (blk_cell BR7.out 0).trans rfl; have r1_7 := (blk_cell BR7.out 1).trans rfl; have s0_7 := (blk_cell BS7.out 0).trans rfl; have s1_7 := (blk_cell BS7.out 1).trans rfl; have HLC := Aside0.mk (Kd.C_below HR1.out HB7.out); have HLL := Aside0.mk HC1.out; clear hra hb)) | (go_at_call 14; have _t := tk2; go_must (refine (machine_Check.calls kC2 th cl _ c1 l1 0 _ HLC.out HLL.out HE2.out).mono ?_; rintro e_ w8 ⟨rfl, hb⟩; have BR8 := Aside0.mk (blk_below BR7.out hb); have BS8 := Aside0.mk (blk_below BS7.out hb); have HB8 := Aside0.mk (below_step HB7.out hb); have r0_8 := (blk_cell BR8.out 0).trans rfl; have r1_8 := (blk_cell BR8.out 1).trans rfl; have s0_8 := (blk_cell BS8.out 0).trans rfl; have s1_8 := (blk_cell BS8.out 1).trans rfl; have HLC8 := Aside0.mk (Kd.C_below HLC.out hb); clear hb; clear tk2 _t)) | (go_at_call 18; go_must (refine (machine_Phases.calls kP th cl _ c1 l1 en _ _ _ HLC8.out HLL.out HPH.out).mono ?_; rintro e_ w9 ⟨vp, rfl, hrp, hb⟩; have BR9 := Aside0.mk (blk_below BR8.out hb); have BS9 := Aside0.mk (blk_below BS8.out hb); have HB9 := Aside0.mk (below_step HB8.out hb); have r0_9 := (blk_cell BR9.out 0).trans rfl; have r1_9 := (blk_cell BR9.out 1).trans rfl; have s0_9 := (blk_cell BS9.out 0).trans rfl; have s1_9 := (blk_cell BS9.out 1).trans rfl; have HLC9 := Aside0.mk (Kd.C_below HLC8.out hb); obtain ⟨AP, cp, rfl, hcp, hpC⟩ := Kd.R_reads hrp; have HPC := Aside0.mk hpC; clear hrp hcp hpC hb)) | (go_at_call 20; go_must (refine (machine_Sums.calls kQ th cl _ c1 l1 en _ _ _ HLC9.out HLL.out HSM.out).mono ?_; rintro e_ w10 ⟨vs, rfl, hrs, hb⟩; have BR10 := Aside0.mk (blk_below BR9.out hb); have BS10 := Aside0.mk (blk_below BS9.out hb); have HB10 := Aside0.mk (below_step HB9.out hb); have r0_10 := (blk_cell BR10.out 0).trans rfl; have r1_10 := (blk_cell BR10.out 1).trans rfl; have s0_10 := (blk_cell BS10.out 0).trans rfl; have s1_10 := (blk_cell BS10.out 1).trans rfl; have HLC10 := Aside0.mk (Kd.C_below HLC9.out hb); have HPC10 := Aside0.mk (Kd.C_below HPC.out hb); obtain ⟨AS, csn, rfl, hcs, hsC⟩ := Kd.R_reads hrs; have HSC := Aside0.mk hsC; have HSR := Aside0.mk hrs; clear hrs hcs hsC hb)) | (go_at_call 13; go_must (refine (papermilllaw30_awake.calls kA true _ HAW.out).mono ?_; rintro e_ wz ⟨rfl, hb⟩; have HBZ := Aside0.mk (below_step (HB10.out) hb); clear hb)))
  go_ret
  exact ⟨rfl, HBZ.out⟩
set_option maxHeartbeats 8000000 in
set_option maxRecDepth 100000 in
theorem phases_good_a (th cl : Int) (A1 : Option Addr) (c1 : Nat) (l1 : List S35) (A2 : Option Addr) (c2 : Nat) (l2 : List Int) (en : Int) (w : World) (hr1 : Kd.C k35 w A1 l1.length l1) (hc1 : l1.length ≤ c1) (hr2 : Kd.C (Kd.int .i64) w A2 l2.length l2) (hc2 : l2.length ≤ c2) (h0 : chk th cl l1 = 0) (kS kC2 kP kQ : Nat) (ra : List S35) (hst : machine_Stops.f kS th cl l1 l2 = some (ra, 0)) (hc2_ : machine_Check.f kC2 th cl ra = some 0) (rp : List S54) (rs : List Int) (e1 : Int) (hph : machine_Phases.f kP th cl ra en = some (rp, e1)) (hsm : machine_Sums.f kQ th cl ra en = some (rs, e1)) (he1 : e1 = 0) (s0 s1 s2 s3 s4 : Int) (hrs : rs = [s0, s1, s2, s3, s4]) (hsum : 0 ≤ s0 ∧ 0 ≤ s1 ∧ 0 ≤ s2 ∧ 0 ≤ s3 ∧ 0 ≤ s4 ∧ s0 + s1 + s2 + s3 + s4 = en ∧ en ≤ 2147483648) (hlen : rp.length ≤ 513) (hch : Ch 0 rp en) (hx : ∀ x ∈ rp, (0 ≤ x.f0 ∧ x.f0 ≤ 4) ∧ stt th cl ra x.f1 = (x.f0, 0) ∧ stt th cl ra (x.f2 - 1) = (x.f0, 0)) :
    Calls Try.prog 10 #[.agg #[.int .i64 th, .int .i64 cl], .slice A1 l1.length c1, .agg #[.slice A2 l2.length c2, .int .i64 en]] w fun e w' => e = .returned (.bool true) ∧ Below w.heap.size w w' := by
  have HR1 := Aside0.mk hr1
  have HC1 := Aside0.mk hc1
  have HR2 := Aside0.mk hr2
  have HC2 := Aside0.mk hc2
  obtain ⟨kA, haw⟩ := awake_ev.rounds
  have HAW := Aside0.mk haw
  obtain ⟨kC, hck⟩ := (check_ev th cl l1).rounds
  have tk1 : True := trivial
  have tk2 : True := trivial
  clear hr1 hc1 hr2 hc2 haw
  subst he1
  subst hrs
  have HSUM := Aside0.mk hsum
  have HLEN := Aside0.mk hlen
  have HCH := Aside0.mk hch
  have HX := Aside0.mk hx
  clear hsum hlen hch hx
  rw [h0] at hck
  have HE := Aside0.mk hck
  have HST := Aside0.mk hst
  have HE2 := Aside0.mk hc2_
  have HPH := Aside0.mk hph
  have HSM := Aside0.mk hsm
  clear hck hst hc2_ hph hsm h0
  go_enter Try.func10, Try.ntmps10
  go_wp2_with (first | ((with_reducible refine gate_dst (N := 3) rfl ?_); go_must (refine box_event ?hg (N := 3) ?hd (cs := #[.int .i64 th, .int .i64 cl]) (t := 28) ?hr ?_; (case hd => rfl); (case hg => rfl); (case hr => first | (go_simp; done) | (go_simp; rfl)); intro gr hg w3 hbox hb; have BR := Aside0.mk hbox; have HB := Aside0.mk hb; clear hbox hb hg)) | ((with_reducible refine gate_dst (N := 5) rfl ?_); go_must (refine box_event ?hg (N := 5) ?hd (cs := #[.slice A2 l2.length c2, .int .i64 en]) (t := 52) ?hr ?_; (case hd => rfl); (case hg => rfl); (case hr => first | (go_simp; done) | (go_simp; rfl)); intro gs hg w5 hbox hb; have BS5 := Aside0.mk hbox; have BR5 := Aside0.mk (blk_below BR.out hb); have HB5 := Aside0.mk (below_step HB.out hb); have r0_5 := (blk_cell BR5.out 0).trans rfl; have r1_5 := (blk_cell BR5.out 1).trans rfl; have s0_5 := (blk_cell BS5.out 0).trans rfl; have s1_5 := (blk_cell BS5.out 1).trans rfl; clear hbox hb hg)) | (go_at_call 14; have _t := tk1; go_must (refine (machine_Check.calls kC th cl _ c1 l1 0 _ (Kd.C_below HR1.out HB5.out) HC1.out HE.out).mono ?_; rintro e_ w6 ⟨rfl, hb⟩; have BR6 := Aside0.mk (blk_below BR5.out hb); have BS6 := Aside0.mk (blk_below BS5.out hb); have HB6 := Aside0.mk (below_step HB5.out hb); have r0_6 := (blk_cell BR6.out 0).trans rfl; have r1_6 := (blk_cell BR6.out 1).trans rfl; have s0_6 := (blk_cell BS6.out 0).trans rfl; have s1_6 := (blk_cell BS6.out 1).trans rfl; clear hb; clear tk1 _t)) | (go_at_call 24; go_must (refine (machine_Stops.calls kS th cl _ c1 l1 _ c2 l2 ra 0 _ (Kd.C_below HR1.out HB6.out) HC1.out (Kd.C_below HR2.out HB6.out) HC2.out HST.out).mono ?_; rintro e_ w7 ⟨va, rfl, hra, hb⟩; have BR7 := Aside0.mk (blk_below BR6.out hb); have BS7 := Aside0.mk (blk_below BS6.out hb); have HB7 := Aside0.mk (below_step HB6.out hb); have r0_7 := (blk_cell BR7.out 0).trans rfl; have r1_7 := (blk_cell BR7.out 1).trans rfl; have s0_7 := (blk_cell BS7.out 0).trans rfl; have s1_7 := (blk_cell BS7.out 1).trans rfl; obtain ⟨AL, cl_, rfl, hcl, hcC⟩ := Kd.R_reads hra; have HLC := Aside0.mk hcC; have HLL := Aside0.mk hcl; clear hra hcl hcC hb)) | (go_at_call 14; have _t := tk2; go_must (refine (machine_Check.calls kC2 th cl _ cl_ ra 0 _ HLC.out HLL.out HE2.out).mono ?_; rintro e_ w8 ⟨rfl, hb⟩; have BR8 := Aside0.mk (blk_below BR7.out hb); have BS8 := Aside0.mk (blk_below BS7.out hb); have HB8 := Aside0.mk (below_step HB7.out hb); have r0_8 := (blk_cell BR8.out 0).trans rfl; have r1_8 := (blk_cell BR8.out 1).trans rfl; have s0_8 := (blk_cell BS8.out 0).trans rfl; have s1_8 := (blk_cell BS8.out 1).trans rfl; have HLC8 := Aside0.mk (Kd.C_below HLC.out hb); clear hb; clear tk2 _t)) | (go_at_call 18; go_must (refine (machine_Phases.calls kP th cl _ cl_ ra en _ _ _ HLC8.out HLL.out HPH.out).mono ?_; rintro e_ w9 ⟨vp, rfl, hrp, hb⟩; have BR9 := Aside0.mk (blk_below BR8.out hb); have BS9 := Aside0.mk (blk_below BS8.out hb); have HB9 := Aside0.mk (below_step HB8.out hb); have r0_9 := (blk_cell BR9.out 0).trans rfl; have r1_9 := (blk_cell BR9.out 1).trans rfl; have s0_9 := (blk_cell BS9.out 0).trans rfl; have s1_9 := (blk_cell BS9.out 1).trans rfl; have HLC9 := Aside0.mk (Kd.C_below HLC8.out hb); obtain ⟨AP, cp, rfl, hcp, hpC⟩ := Kd.R_reads hrp; have HPC := Aside0.mk hpC; clear hrp hcp hpC hb)) | (go_at_call 20; go_must (refine (machine_Sums.calls kQ th cl _ cl_ ra en _ _ _ HLC9.out HLL.out HSM.out).mono ?_; rintro e_ w10 ⟨vs, rfl, hrs, hb⟩; have BR10 := Aside0.mk (blk_below BR9.out hb); have BS10 := Aside0.mk (blk_below BS9.out hb); have HB10 := Aside0.mk (below_step HB9.out hb); have r0_10 := (blk_cell BR10.out 0).trans rfl; have r1_10 := (blk_cell BR10.out 1).trans rfl; have s0_10 := (blk_cell BS10.out 0).trans rfl; have s1_10 := (blk_cell BS10.out 1).trans rfl; have HLC10 := Aside0.mk (Kd.C_below HLC9.out hb); have HPC10 := Aside0.mk (Kd.C_below HPC.out hb); obtain ⟨AS, csn, rfl, hcs, hsC⟩ := Kd.R_reads hrs; have HSC := Aside0.mk hsC; have HSR := Aside0.mk hrs; clear hrs hcs hsC hb)))
  obtain ⟨gq, cq, eq_, _, hlt, _⟩ := Kd.R_form HSR.out (by simp)
  injection eq_ with eq1 eq2 eq3
  subst eq1
  subst eq3
  have hq0 := (Kd.R_celln (0 : Int) HSR.out 0 (by omega) (by simp)).1
  have hq1 := (Kd.R_celln (0 : Int) HSR.out 1 (by omega) (by simp)).1
  have hq2 := (Kd.R_celln (0 : Int) HSR.out 2 (by omega) (by simp)).1
  have hq3 := (Kd.R_celln (0 : Int) HSR.out 3 (by omega) (by simp)).1
  have hq4 := (Kd.R_celln (0 : Int) HSR.out 4 (by omega) (by simp)).1
  simp [rdOf] at hq0 hq1 hq2 hq3 hq4
  obtain ⟨b0, b1, b2, b3, b4, bs, be⟩ := HSUM.out
  have hs4 : (s0 + s1 + s2 + s3 + s4 == en) = true := beq_iff_eq.2 bs
  have hs4' : (s0 + s1 + s2 + s3 + s4 != en) = false := by rw [bs]; simp
  have hle : s0 + s1 + s2 + s3 + s4 ≤ 2147483648 := by omega
  have HBS := Aside0.mk bs
  have HBE := Aside0.mk be
  clear bs eq2 be
  go_quiet (fail)
  clear hq0 hq1 hq2 hq3 hq4
  go_wp2
  go_loopg [13, 107] rp.length (fun kq v13 v107 w' => ∃ i : Nat, v13 = .int .i64 (lto 0 rp i) ∧ v107 = .int .i64 i ∧ Aside0 (kq + i = rp.length) ∧ Aside0 (Below w10.heap.size w10 w') ∧ Aside0 (w'.heap[gr]? = some (.cells #[.int .i64 th, .int .i64 cl] 28 (0, 0))) ∧ Aside0 (w'.heap[gs]? = some (.cells #[.slice A2 l2.length c2, .int .i64 en] 52 (0, 0))))
  case atStart => exact ⟨0, rfl, rfl, ⟨by omega⟩, ⟨pw_below_drewN (Below.refl _ _) _⟩, ⟨blk_drewN BR10.out _⟩, ⟨blk_drewN BS10.out _⟩⟩
  case round =>
    obtain ⟨i, rfl, rfl, HN, HB11, BR11, BS11⟩ := hrel
    have hpr : (gk : Int) + i = rp.length := by have := HN.out; omega
    have h513 : (rp.length : Int) ≤ 513 := by have := HLEN.out; omega
    have s1_11 := (blk_cell BS11.out 1).trans rfl
    by_cases hi : i < rp.length
    · obtain ⟨k1, rfl⟩ : ∃ k1, gk = k1 + 1 := ⟨gk - 1, by omega⟩
      clear hpr
      obtain ⟨ad, e9, hx0, hx1, hx2⟩ := at_T54 HPC10.out (i : Int) (by omega) (by omega)
      cases e9
      have hxm := HX.out _ (rd54_in rp i hi)
      have hxl := (ch_le _ _ _ HCH.out).2 _ (rd54_in rp i hi)
      have hxf := (ch_at _ _ _ HCH.out).1 i hi
      have hls := lto_succ 0 rp i
      rw [Int.toNat_natCast] at hx0 hx1 hx2
      generalize rd_T54 rp (i : Int) = x at *
      obtain ⟨x0, x1, x2⟩ := x
      simp only at hx0 hx1 hx2 hxm hxl hxf hls
      replace hx0 := (HB11.out.cell (World.block_lt_of_cell? w10 _ hx0)).trans hx0
      replace hx1 := (HB11.out.cell (World.block_lt_of_cell? w10 _ hx1)).trans hx1
      replace hx2 := (HB11.out.cell (World.block_lt_of_cell? w10 _ hx2)).trans hx2
      have hit : decide (i < rp.length) = true := decide_eq_true hi
      have q0 : (i : Int) < (rp.length : Int) := by omega
      have q1 : 0 ≤ (i : Int) := by omega
      obtain ⟨⟨m0, m4⟩, m1, m2⟩ := hxm
      obtain ⟨kX, k1x⟩ := (state_ev th cl ra x1).rounds
      obtain ⟨kY, k2x⟩ := (state_ev th cl ra (x2 - 1)).rounds
      rw [m1] at k1x
      rw [m2] at k2x
      have HX1 := Aside0.mk k1x
      have HX2 := Aside0.mk k2x
      have n1 : (x1 == lto 0 rp i) = true := beq_iff_eq.2 hxf
      have n2 : (x1 != lto 0 rp i) = false := by rw [hxf]; simp
      have n3 : decide (x2 ≤ x1) = false := decide_eq_false (by omega)
      have n4 : decide (x0 < 0) = false := decide_eq_false (by omega)
      have n5 : decide (4 < x0) = false := decide_eq_false (by omega)
      have n6 : 0 ≤ x1 := hxl.1
      have n7 : x1 < x2 := hxl.2.1
      have n8 : x2 ≤ 2147483648 := by have := hxl.2.2; have := HBE.out; omega
      have HLS := Aside0.mk hls
      have tkA : True := trivial
      clear hxl hxf hls m1 m2 k1x k2x hi
      go_wp2_with (first | ((with_reducible refine gate_dst (N := 15) rfl ?_); go_must (refine box_event ?hg (N := 15) ?hd (cs := #[.int .i64 0, .int .i64 0, .int .i64 0]) (t := 54) ?hr ?_; (case hd => rfl); (case hg => rfl); (case hr => first | (go_simp; done) | (go_simp; rfl)); intro ga hg w12 hbox hb; have hn1 : gr ≠ ga := (by rw [hg]; exact Nat.ne_of_lt (blk_lt BR11.out)); have hn1' : ga ≠ gr := (fun e => hn1 e.symm); have hn2 : gs ≠ ga := (by rw [hg]; exact Nat.ne_of_lt (blk_lt BS11.out)); have hn2' : ga ≠ gs := (fun e => hn2 e.symm); have HGA := Aside0.mk (show w10.heap.size ≤ ga from hg ▸ HB11.out.size); have HB12 := Aside0.mk (below_step HB11.out hb); have BA12 := Aside0.mk hbox; have BR12 := Aside0.mk (blk_below BR11.out hb); have BS12 := Aside0.mk (blk_below BS11.out hb); have z0 := (blk_cell hbox 0).trans rfl; have z1 := (blk_cell hbox 1).trans rfl; have z2 := (blk_cell hbox 2).trans rfl; have zf0 := blk_frozen hbox 0; have zf1 := blk_frozen hbox 1; have zf2 := blk_frozen hbox 2; have r0_12 := (blk_cell BR12.out 0).trans rfl; have r1_12 := (blk_cell BR12.out 1).trans rfl; clear hbox hb hg)) | (go_at_call 16; have _t := tkA; go_must (refine (machine_State.calls kX th cl _ cl_ ra x1 x0 0 _ (Kd.C_below HLC10.out (below_set (j := 2) (v := .int .i64 x2) (below_set (j := 1) (v := .int .i64 x1) (below_set (j := 0) (v := .int .i64 x0) HB12.out HGA.out) HGA.out) HGA.out)) HLL.out HX1.out).mono ?_; rintro e_ w13 ⟨rfl, hb⟩; have BR13 := Aside0.mk (blk_below (blk_far (p := ⟨ga, 2, none⟩) (blk_far (p := ⟨ga, 1, none⟩) (blk_far (p := ⟨ga, 0, none⟩) BR12.out hn1 (.int .i64 x0)) hn1 (.int .i64 x1)) hn1 (.int .i64 x2)) hb); have BS13 := Aside0.mk (blk_below (blk_far (p := ⟨ga, 2, none⟩) (blk_far (p := ⟨ga, 1, none⟩) (blk_far (p := ⟨ga, 0, none⟩) BS12.out hn2 (.int .i64 x0)) hn2 (.int .i64 x1)) hn2 (.int .i64 x2)) hb); have BA13 := Aside0.mk (blk_below (blk_put (blk_put (blk_put BA12.out 0 (.int .i64 x0) rfl) 1 (.int .i64 x1) rfl) 2 (.int .i64 x2) rfl) hb); have HB13 := Aside0.mk (below_then (below_set (j := 2) (v := .int .i64 x2) (below_set (j := 1) (v := .int .i64 x1) (below_set (j := 0) (v := .int .i64 x0) HB12.out HGA.out) HGA.out) HGA.out) (below_set (j := 2) (v := .int .i64 x2) (below_set (j := 1) (v := .int .i64 x1) (below_set (j := 0) (v := .int .i64 x0) HB12.out HGA.out) HGA.out) HGA.out).size hb); have f0_13 := (blk_cell BA13.out 0).trans rfl; have f1_13 := (blk_cell BA13.out 1).trans rfl; have f2_13 := (blk_cell BA13.out 2).trans rfl; have r0_13 := (blk_cell BR13.out 0).trans rfl; have r1_13 := (blk_cell BR13.out 1).trans rfl; have s1_13 := (blk_cell BS13.out 1).trans rfl; clear hb; clear tkA _t)) | (go_at_call 16; go_must (refine (machine_State.calls kY th cl _ cl_ ra (x2 - 1) x0 0 _ (Kd.C_below HLC10.out HB13.out) HLL.out HX2.out).mono ?_; rintro e_ w14 ⟨rfl, hb⟩; have BR14 := Aside0.mk (blk_below BR13.out hb); have BS14 := Aside0.mk (blk_below BS13.out hb); have BA14 := Aside0.mk (blk_below BA13.out hb); have HB14 := Aside0.mk (below_then HB13.out HB13.out.size hb); have f0_14 := (blk_cell BA14.out 0).trans rfl; have f1_14 := (blk_cell BA14.out 1).trans rfl; have f2_14 := (blk_cell BA14.out 2).trans rfl; have r0_14 := (blk_cell BR14.out 0).trans rfl; have r1_14 := (blk_cell BR14.out 1).trans rfl; have s1_14 := (blk_cell BS14.out 1).trans rfl; clear hb)))
      go_roundg k1
      case measure => omega
      case rel => exact ⟨i + 1, by rw [HLS.out], by go_num, ⟨by have := HN.out; omega⟩, HB14, BR14, BS14⟩
    · have hit : decide (i < rp.length) = false := decide_eq_false hi
      have hfin := (ch_at _ _ _ HCH.out).2
      obtain rfl : i = rp.length := by omega
      have n1 : (lto 0 rp rp.length == en) = true := beq_iff_eq.2 hfin
      clear hi hfin hpr h513
      go_wp2_with (first | (go_at_call 13; go_must (refine (papermilllaw30_awake.calls kA true _ HAW.out).mono ?_; rintro e_ wz ⟨rfl, hb⟩; have HBZ := Aside0.mk (below_step (below_then HB10.out HB10.out.size HB11.out) hb); clear hb)))
      go_ret
      exact ⟨rfl, HBZ.out⟩
set_option maxHeartbeats 8000000 in
set_option maxRecDepth 100000 in
theorem phases_good_b (th cl : Int) (A1 : Option Addr) (c1 : Nat) (l1 : List S35) (A2 : Option Addr) (c2 : Nat) (l2 : List Int) (en : Int) (w : World) (hr1 : Kd.C k35 w A1 l1.length l1) (hc1 : l1.length ≤ c1) (hr2 : Kd.C (Kd.int .i64) w A2 l2.length l2) (hc2 : l2.length ≤ c2) (h0 : chk th cl l1 = 0) (kS kC2 kP kQ : Nat) (ra : List S35) (er : Int) (her : er ≠ 0) (hst : machine_Stops.f kS th cl l1 l2 = some (ra, er)) (hc2_ : machine_Check.f kC2 th cl l1 = some 0) (rp : List S54) (rs : List Int) (e1 : Int) (hph : machine_Phases.f kP th cl l1 en = some (rp, e1)) (hsm : machine_Sums.f kQ th cl l1 en = some (rs, e1)) (he1 : e1 = 0) (s0 s1 s2 s3 s4 : Int) (hrs : rs = [s0, s1, s2, s3, s4]) (hsum : 0 ≤ s0 ∧ 0 ≤ s1 ∧ 0 ≤ s2 ∧ 0 ≤ s3 ∧ 0 ≤ s4 ∧ s0 + s1 + s2 + s3 + s4 = en ∧ en ≤ 2147483648) (hlen : rp.length ≤ 513) (hch : Ch 0 rp en) (hx : ∀ x ∈ rp, (0 ≤ x.f0 ∧ x.f0 ≤ 4) ∧ stt th cl l1 x.f1 = (x.f0, 0) ∧ stt th cl l1 (x.f2 - 1) = (x.f0, 0)) :
    Calls Try.prog 10 #[.agg #[.int .i64 th, .int .i64 cl], .slice A1 l1.length c1, .agg #[.slice A2 l2.length c2, .int .i64 en]] w fun e w' => e = .returned (.bool true) ∧ Below w.heap.size w w' := by
  have HR1 := Aside0.mk hr1
  have HC1 := Aside0.mk hc1
  have HR2 := Aside0.mk hr2
  have HC2 := Aside0.mk hc2
  obtain ⟨kA, haw⟩ := awake_ev.rounds
  have HAW := Aside0.mk haw
  obtain ⟨kC, hck⟩ := (check_ev th cl l1).rounds
  have tk1 : True := trivial
  have tk2 : True := trivial
  clear hr1 hc1 hr2 hc2 haw
  subst he1
  subst hrs
  have HSUM := Aside0.mk hsum
  have HLEN := Aside0.mk hlen
  have HCH := Aside0.mk hch
  have HX := Aside0.mk hx
  clear hsum hlen hch hx
  rw [h0] at hck
  have HE := Aside0.mk hck
  have HST := Aside0.mk hst
  have HE2 := Aside0.mk hc2_
  have HPH := Aside0.mk hph
  have HSM := Aside0.mk hsm
  have c0b : (er == 0) = false := beq_eq_false_iff_ne.mpr her
  have c0c : (er != 0) = true := bne_iff_ne.mpr her
  clear her
  clear hck hst hc2_ hph hsm h0
  go_enter Try.func10, Try.ntmps10
  go_wp2_with (first | ((with_reducible refine gate_dst (N := 3) rfl ?_); go_must (refine box_event ?hg (N := 3) ?hd (cs := #[.int .i64 th, .int .i64 cl]) (t := 28) ?hr ?_; (case hd => rfl); (case hg => rfl); (case hr => first | (go_simp; done) | (go_simp; rfl)); intro gr hg w3 hbox hb; have BR := Aside0.mk hbox; have HB := Aside0.mk hb; clear hbox hb hg)) | ((with_reducible refine gate_dst (N := 5) rfl ?_); go_must (refine box_event ?hg (N := 5) ?hd (cs := #[.slice A2 l2.length c2, .int .i64 en]) (t := 52) ?hr ?_; (case hd => rfl); (case hg => rfl); (case hr => first | (go_simp; done) | (go_simp; rfl)); intro gs hg w5 hbox hb; have BS5 := Aside0.mk hbox; have BR5 := Aside0.mk (blk_below BR.out hb); have HB5 := Aside0.mk (below_step HB.out hb); have r0_5 := (blk_cell BR5.out 0).trans rfl; have r1_5 := (blk_cell BR5.out 1).trans rfl; have s0_5 := (blk_cell BS5.out 0).trans rfl; have s1_5 := (blk_cell BS5.out 1).trans rfl; clear hbox hb hg)) | (go_at_call 14; have _t := tk1; go_must (refine (machine_Check.calls kC th cl _ c1 l1 0 _ (Kd.C_below HR1.out HB5.out) HC1.out HE.out).mono ?_; rintro e_ w6 ⟨rfl, hb⟩; have BR6 := Aside0.mk (blk_below BR5.out hb); have BS6 := Aside0.mk (blk_below BS5.out hb); have HB6 := Aside0.mk (below_step HB5.out hb); have r0_6 := (blk_cell BR6.out 0).trans rfl; have r1_6 := (blk_cell BR6.out 1).trans rfl; have s0_6 := (blk_cell BS6.out 0).trans rfl; have s1_6 := (blk_cell BS6.out 1).trans rfl; clear hb; clear tk1 _t)) | (go_at_call 24; go_must (refine (machine_Stops.calls kS th cl _ c1 l1 _ c2 l2 ra er _ (Kd.C_below HR1.out HB6.out) HC1.out (Kd.C_below HR2.out HB6.out) HC2.out HST.out).mono ?_; rintro e_ w7 ⟨va, rfl, hra, hb⟩; have BR7 := Aside0.mk (blk_below BR6.out hb); have BS7 := Aside0.mk (blk_below BS6.out hb); have HB7 := Aside0.mk (below_step HB6.out hb); have r0_7 := (blk_cell BR7.out 0).trans rfl; have r1_7 := (blk_cell BR7.out 1).trans rfl; have s0_7 := (blk_cell BS7.out 0).trans rfl; have s1_7 := (blk_cell BS7.out 1).trans rfl; have HLC := Aside0.mk (Kd.C_below HR1.out HB7.out); have HLL := Aside0.mk HC1.out; clear hra hb)) | (go_at_call 14; have _t := tk2; go_must (refine (machine_Check.calls kC2 th cl _ c1 l1 0 _ HLC.out HLL.out HE2.out).mono ?_; rintro e_ w8 ⟨rfl, hb⟩; have BR8 := Aside0.mk (blk_below BR7.out hb); have BS8 := Aside0.mk (blk_below BS7.out hb); have HB8 := Aside0.mk (below_step HB7.out hb); have r0_8 := (blk_cell BR8.out 0).trans rfl; have r1_8 := (blk_cell BR8.out 1).trans rfl; have s0_8 := (blk_cell BS8.out 0).trans rfl; have s1_8 := (blk_cell BS8.out 1).trans rfl; have HLC8 := Aside0.mk (Kd.C_below HLC.out hb); clear hb; clear tk2 _t)) | (go_at_call 18; go_must (refine (machine_Phases.calls kP th cl _ c1 l1 en _ _ _ HLC8.out HLL.out HPH.out).mono ?_; rintro e_ w9 ⟨vp, rfl, hrp, hb⟩; have BR9 := Aside0.mk (blk_below BR8.out hb); have BS9 := Aside0.mk (blk_below BS8.out hb); have HB9 := Aside0.mk (below_step HB8.out hb); have r0_9 := (blk_cell BR9.out 0).trans rfl; have r1_9 := (blk_cell BR9.out 1).trans rfl; have s0_9 := (blk_cell BS9.out 0).trans rfl; have s1_9 := (blk_cell BS9.out 1).trans rfl; have HLC9 := Aside0.mk (Kd.C_below HLC8.out hb); obtain ⟨AP, cp, rfl, hcp, hpC⟩ := Kd.R_reads hrp; have HPC := Aside0.mk hpC; clear hrp hcp hpC hb)) | (go_at_call 20; go_must (refine (machine_Sums.calls kQ th cl _ c1 l1 en _ _ _ HLC9.out HLL.out HSM.out).mono ?_; rintro e_ w10 ⟨vs, rfl, hrs, hb⟩; have BR10 := Aside0.mk (blk_below BR9.out hb); have BS10 := Aside0.mk (blk_below BS9.out hb); have HB10 := Aside0.mk (below_step HB9.out hb); have r0_10 := (blk_cell BR10.out 0).trans rfl; have r1_10 := (blk_cell BR10.out 1).trans rfl; have s0_10 := (blk_cell BS10.out 0).trans rfl; have s1_10 := (blk_cell BS10.out 1).trans rfl; have HLC10 := Aside0.mk (Kd.C_below HLC9.out hb); have HPC10 := Aside0.mk (Kd.C_below HPC.out hb); obtain ⟨AS, csn, rfl, hcs, hsC⟩ := Kd.R_reads hrs; have HSC := Aside0.mk hsC; have HSR := Aside0.mk hrs; clear hrs hcs hsC hb)))
  obtain ⟨gq, cq, eq_, _, hlt, _⟩ := Kd.R_form HSR.out (by simp)
  injection eq_ with eq1 eq2 eq3
  subst eq1
  subst eq3
  have hq0 := (Kd.R_celln (0 : Int) HSR.out 0 (by omega) (by simp)).1
  have hq1 := (Kd.R_celln (0 : Int) HSR.out 1 (by omega) (by simp)).1
  have hq2 := (Kd.R_celln (0 : Int) HSR.out 2 (by omega) (by simp)).1
  have hq3 := (Kd.R_celln (0 : Int) HSR.out 3 (by omega) (by simp)).1
  have hq4 := (Kd.R_celln (0 : Int) HSR.out 4 (by omega) (by simp)).1
  simp [rdOf] at hq0 hq1 hq2 hq3 hq4
  obtain ⟨b0, b1, b2, b3, b4, bs, be⟩ := HSUM.out
  have hs4 : (s0 + s1 + s2 + s3 + s4 == en) = true := beq_iff_eq.2 bs
  have hs4' : (s0 + s1 + s2 + s3 + s4 != en) = false := by rw [bs]; simp
  have hle : s0 + s1 + s2 + s3 + s4 ≤ 2147483648 := by omega
  have HBS := Aside0.mk bs
  have HBE := Aside0.mk be
  clear bs eq2 be
  go_quiet (fail)
  clear hq0 hq1 hq2 hq3 hq4
  go_wp2
  go_loopg [13, 107] rp.length (fun kq v13 v107 w' => ∃ i : Nat, v13 = .int .i64 (lto 0 rp i) ∧ v107 = .int .i64 i ∧ Aside0 (kq + i = rp.length) ∧ Aside0 (Below w10.heap.size w10 w') ∧ Aside0 (w'.heap[gr]? = some (.cells #[.int .i64 th, .int .i64 cl] 28 (0, 0))) ∧ Aside0 (w'.heap[gs]? = some (.cells #[.slice A2 l2.length c2, .int .i64 en] 52 (0, 0))))
  case atStart => exact ⟨0, rfl, rfl, ⟨by omega⟩, ⟨pw_below_drewN (Below.refl _ _) _⟩, ⟨blk_drewN BR10.out _⟩, ⟨blk_drewN BS10.out _⟩⟩
  case round =>
    obtain ⟨i, rfl, rfl, HN, HB11, BR11, BS11⟩ := hrel
    have hpr : (gk : Int) + i = rp.length := by have := HN.out; omega
    have h513 : (rp.length : Int) ≤ 513 := by have := HLEN.out; omega
    have s1_11 := (blk_cell BS11.out 1).trans rfl
    by_cases hi : i < rp.length
    · obtain ⟨k1, rfl⟩ : ∃ k1, gk = k1 + 1 := ⟨gk - 1, by omega⟩
      clear hpr
      obtain ⟨ad, e9, hx0, hx1, hx2⟩ := at_T54 HPC10.out (i : Int) (by omega) (by omega)
      cases e9
      have hxm := HX.out _ (rd54_in rp i hi)
      have hxl := (ch_le _ _ _ HCH.out).2 _ (rd54_in rp i hi)
      have hxf := (ch_at _ _ _ HCH.out).1 i hi
      have hls := lto_succ 0 rp i
      rw [Int.toNat_natCast] at hx0 hx1 hx2
      generalize rd_T54 rp (i : Int) = x at *
      obtain ⟨x0, x1, x2⟩ := x
      simp only at hx0 hx1 hx2 hxm hxl hxf hls
      replace hx0 := (HB11.out.cell (World.block_lt_of_cell? w10 _ hx0)).trans hx0
      replace hx1 := (HB11.out.cell (World.block_lt_of_cell? w10 _ hx1)).trans hx1
      replace hx2 := (HB11.out.cell (World.block_lt_of_cell? w10 _ hx2)).trans hx2
      have hit : decide (i < rp.length) = true := decide_eq_true hi
      have q0 : (i : Int) < (rp.length : Int) := by omega
      have q1 : 0 ≤ (i : Int) := by omega
      obtain ⟨⟨m0, m4⟩, m1, m2⟩ := hxm
      obtain ⟨kX, k1x⟩ := (state_ev th cl l1 x1).rounds
      obtain ⟨kY, k2x⟩ := (state_ev th cl l1 (x2 - 1)).rounds
      rw [m1] at k1x
      rw [m2] at k2x
      have HX1 := Aside0.mk k1x
      have HX2 := Aside0.mk k2x
      have n1 : (x1 == lto 0 rp i) = true := beq_iff_eq.2 hxf
      have n2 : (x1 != lto 0 rp i) = false := by rw [hxf]; simp
      have n3 : decide (x2 ≤ x1) = false := decide_eq_false (by omega)
      have n4 : decide (x0 < 0) = false := decide_eq_false (by omega)
      have n5 : decide (4 < x0) = false := decide_eq_false (by omega)
      have n6 : 0 ≤ x1 := hxl.1
      have n7 : x1 < x2 := hxl.2.1
      have n8 : x2 ≤ 2147483648 := by have := hxl.2.2; have := HBE.out; omega
      have HLS := Aside0.mk hls
      have tkA : True := trivial
      clear hxl hxf hls m1 m2 k1x k2x hi
      go_wp2_with (first | ((with_reducible refine gate_dst (N := 15) rfl ?_); go_must (refine box_event ?hg (N := 15) ?hd (cs := #[.int .i64 0, .int .i64 0, .int .i64 0]) (t := 54) ?hr ?_; (case hd => rfl); (case hg => rfl); (case hr => first | (go_simp; done) | (go_simp; rfl)); intro ga hg w12 hbox hb; have hn1 : gr ≠ ga := (by rw [hg]; exact Nat.ne_of_lt (blk_lt BR11.out)); have hn1' : ga ≠ gr := (fun e => hn1 e.symm); have hn2 : gs ≠ ga := (by rw [hg]; exact Nat.ne_of_lt (blk_lt BS11.out)); have hn2' : ga ≠ gs := (fun e => hn2 e.symm); have HGA := Aside0.mk (show w10.heap.size ≤ ga from hg ▸ HB11.out.size); have HB12 := Aside0.mk (below_step HB11.out hb); have BA12 := Aside0.mk hbox; have BR12 := Aside0.mk (blk_below BR11.out hb); have BS12 := Aside0.mk (blk_below BS11.out hb); have z0 := (blk_cell hbox 0).trans rfl; have z1 := (blk_cell hbox 1).trans rfl; have z2 := (blk_cell hbox 2).trans rfl; have zf0 := blk_frozen hbox 0; have zf1 := blk_frozen hbox 1; have zf2 := blk_frozen hbox 2; have r0_12 := (blk_cell BR12.out 0).trans rfl; have r1_12 := (blk_cell BR12.out 1).trans rfl; clear hbox hb hg)) | (go_at_call 16; have _t := tkA; go_must (refine (machine_State.calls kX th cl _ c1 l1 x1 x0 0 _ (Kd.C_below HLC10.out (below_set (j := 2) (v := .int .i64 x2) (below_set (j := 1) (v := .int .i64 x1) (below_set (j := 0) (v := .int .i64 x0) HB12.out HGA.out) HGA.out) HGA.out)) HLL.out HX1.out).mono ?_; rintro e_ w13 ⟨rfl, hb⟩; have BR13 := Aside0.mk (blk_below (blk_far (p := ⟨ga, 2, none⟩) (blk_far (p := ⟨ga, 1, none⟩) (blk_far (p := ⟨ga, 0, none⟩) BR12.out hn1 (.int .i64 x0)) hn1 (.int .i64 x1)) hn1 (.int .i64 x2)) hb); have BS13 := Aside0.mk (blk_below (blk_far (p := ⟨ga, 2, none⟩) (blk_far (p := ⟨ga, 1, none⟩) (blk_far (p := ⟨ga, 0, none⟩) BS12.out hn2 (.int .i64 x0)) hn2 (.int .i64 x1)) hn2 (.int .i64 x2)) hb); have BA13 := Aside0.mk (blk_below (blk_put (blk_put (blk_put BA12.out 0 (.int .i64 x0) rfl) 1 (.int .i64 x1) rfl) 2 (.int .i64 x2) rfl) hb); have HB13 := Aside0.mk (below_then (below_set (j := 2) (v := .int .i64 x2) (below_set (j := 1) (v := .int .i64 x1) (below_set (j := 0) (v := .int .i64 x0) HB12.out HGA.out) HGA.out) HGA.out) (below_set (j := 2) (v := .int .i64 x2) (below_set (j := 1) (v := .int .i64 x1) (below_set (j := 0) (v := .int .i64 x0) HB12.out HGA.out) HGA.out) HGA.out).size hb); have f0_13 := (blk_cell BA13.out 0).trans rfl; have f1_13 := (blk_cell BA13.out 1).trans rfl; have f2_13 := (blk_cell BA13.out 2).trans rfl; have r0_13 := (blk_cell BR13.out 0).trans rfl; have r1_13 := (blk_cell BR13.out 1).trans rfl; have s1_13 := (blk_cell BS13.out 1).trans rfl; clear hb; clear tkA _t)) | (go_at_call 16; go_must (refine (machine_State.calls kY th cl _ c1 l1 (x2 - 1) x0 0 _ (Kd.C_below HLC10.out HB13.out) HLL.out HX2.out).mono ?_; rintro e_ w14 ⟨rfl, hb⟩; have BR14 := Aside0.mk (blk_below BR13.out hb); have BS14 := Aside0.mk (blk_below BS13.out hb); have BA14 := Aside0.mk (blk_below BA13.out hb); have HB14 := Aside0.mk (below_then HB13.out HB13.out.size hb); have f0_14 := (blk_cell BA14.out 0).trans rfl; have f1_14 := (blk_cell BA14.out 1).trans rfl; have f2_14 := (blk_cell BA14.out 2).trans rfl; have r0_14 := (blk_cell BR14.out 0).trans rfl; have r1_14 := (blk_cell BR14.out 1).trans rfl; have s1_14 := (blk_cell BS14.out 1).trans rfl; clear hb)))
      go_roundg k1
      case measure => omega
      case rel => exact ⟨i + 1, by rw [HLS.out], by go_num, ⟨by have := HN.out; omega⟩, HB14, BR14, BS14⟩
    · have hit : decide (i < rp.length) = false := decide_eq_false hi
      have hfin := (ch_at _ _ _ HCH.out).2
      obtain rfl : i = rp.length := by omega
      have n1 : (lto 0 rp rp.length == en) = true := beq_iff_eq.2 hfin
      clear hi hfin hpr h513
      go_wp2_with (first | (go_at_call 13; go_must (refine (papermilllaw30_awake.calls kA true _ HAW.out).mono ?_; rintro e_ wz ⟨rfl, hb⟩; have HBZ := Aside0.mk (below_step (below_then HB10.out HB10.out.size HB11.out) hb); clear hb)))
      go_ret
      exact ⟨rfl, HBZ.out⟩
theorem papermilllaw30_MachinePhases.walk (th cl : Int) (A1 : Option Addr) (c1 : Nat) (l1 : List S35) (A2 : Option Addr) (c2 : Nat) (l2 : List Int) (en : Int) (w : World) (hr1 : Kd.C k35 w A1 l1.length l1) (hc1 : l1.length ≤ c1) (hr2 : Kd.C (Kd.int .i64) w A2 l2.length l2) (hc2 : l2.length ≤ c2) :
    Calls Try.prog 10 #[.agg #[.int .i64 th, .int .i64 cl], .slice A1 l1.length c1, .agg #[.slice A2 l2.length c2, .int .i64 en]] w fun e w' => e = .returned (.bool true) ∧ Below w.heap.size w w' := by
  by_cases h0 : chk th cl l1 = 0
  · have hlist : ∀ l : List S35, chk th cl l = 0 → ∃ (kP kQ : Nat) (rp : List S54) (rs : List Int) (e1 : Int), machine_Phases.f kP th cl l en = some (rp, e1) ∧ machine_Sums.f kQ th cl l en = some (rs, e1) ∧
        ((e1 ≠ 0 ∧ rp = [] ∧ rs = []) ∨ (e1 = 0 ∧ rp.length ≤ 513 ∧ Ch 0 rp en ∧ (∀ x ∈ rp, (0 ≤ x.f0 ∧ x.f0 ≤ 4) ∧ stt th cl l x.f1 = (x.f0, 0) ∧ stt th cl l (x.f2 - 1) = (x.f0, 0)) ∧
          ∃ s0 s1 s2 s3 s4 : Int, rs = [s0, s1, s2, s3, s4] ∧ (0 ≤ s0 ∧ 0 ≤ s1 ∧ 0 ≤ s2 ∧ 0 ≤ s3 ∧ 0 ≤ s4 ∧ s0 + s1 + s2 + s3 + s4 = en ∧ en ≤ 2147483648))) := by
      intro l hc
      obtain ⟨kP, hP⟩ := (phases_ev' th cl l en).rounds
      by_cases he : (phs (chk th cl l) l en).2 = 0
      · obtain ⟨g1, g2, g3, g4⟩ := phs_good hc he
        obtain ⟨kQ, hQ⟩ := (msums_ev' (e := en) (fun x hx => (g4 x hx).1) phs_len').rounds
        obtain ⟨a, b, c, d, e, f1, f2, f3, f4, f5, f6, f7⟩ := sums_fold _ 0 en 0 0 0 0 0 g3 (fun x hx => (g4 x hx).1) g2 (Int.le_refl _) (Int.le_refl _) (Int.le_refl _) (Int.le_refl _) (Int.le_refl _) rfl
        refine ⟨kP, kQ, _, _, 0, hP.trans (congrArg some (Prod.ext rfl he)), hQ.trans (congrArg some ?_), .inr ⟨rfl, phs_len', g3, g4, a, b, c, d, e, f1, f2, f3, f4, f5, f6, f7, g2⟩⟩
        unfold smo
        rw [if_pos he]
        rfl
      · have hp := phs_bad he
        obtain ⟨kQ, hQ⟩ := (msums_ev' (th := th) (cl := cl) (l := l) (e := en) (by rw [hp]; exact fun x hx => (List.not_mem_nil hx).elim) phs_len').rounds
        refine ⟨kP, kQ, (phs (chk th cl l) l en).1, [], (phs (chk th cl l) l en).2, hP, hQ.trans (congrArg some ?_), .inl ⟨he, hp, rfl⟩⟩
        unfold smo
        rw [if_neg he]
    obtain ⟨kS, hS⟩ := (stops_ev th cl l1 l2).rounds
    by_cases hs : (stp th cl (chk th cl l1) l1 l2).2 = 0
    · have hv := stp_valid h0 hs
      obtain ⟨kC2, hC2⟩ := (check_ev th cl (stp th cl (chk th cl l1) l1 l2).1).rounds
      rw [hv] at hC2
      obtain ⟨kP, kQ, rp, rs, e1, hP, hQ, hcase⟩ := hlist _ hv
      have hS' : machine_Stops.f kS th cl l1 l2 = some ((stp th cl (chk th cl l1) l1 l2).1, 0) := hS.trans (congrArg some (Prod.ext rfl hs))
      rcases hcase with ⟨a, b, c⟩ | ⟨a, b, c, d, s0, s1, s2, s3, s4, f, g⟩
      · exact phases_err_a th cl A1 c1 l1 A2 c2 l2 en w hr1 hc1 hr2 hc2 h0 kS kC2 kP kQ _ hS' hC2 rp rs e1 hP hQ a b c
      · exact phases_good_a th cl A1 c1 l1 A2 c2 l2 en w hr1 hc1 hr2 hc2 h0 kS kC2 kP kQ _ hS' hC2 rp rs e1 hP hQ a s0 s1 s2 s3 s4 f g b c d
    · obtain ⟨kC2, hC2⟩ := (check_ev th cl l1).rounds
      rw [h0] at hC2
      obtain ⟨kP, kQ, rp, rs, e1, hP, hQ, hcase⟩ := hlist l1 h0
      rcases hcase with ⟨a, b, c⟩ | ⟨a, b, c, d, s0, s1, s2, s3, s4, f, g⟩
      · exact phases_err_b th cl A1 c1 l1 A2 c2 l2 en w hr1 hc1 hr2 hc2 h0 kS kC2 kP kQ _ _ hs hS hC2 rp rs e1 hP hQ a b c
      · exact phases_good_b th cl A1 c1 l1 A2 c2 l2 en w hr1 hc1 hr2 hc2 h0 kS kC2 kP kQ _ _ hs hS hC2 rp rs e1 hP hQ a s0 s1 s2 s3 s4 f g b c d
  · exact phases_out th cl A1 c1 l1 A2 c2 l2 en w hr1 hc1 hr2 hc2 h0
structure S52 where
  f0 : List Int
  f1 : Int
def k52 : Kd S52 := Kd.iso (Kd.pair (Kd.slice 3 (Kd.int .i64)) (Kd.int .i64)) (fun x : S52 => (x.f0, x.f1))
theorem k52_open {w : World} {x : S52} {cs : List Value} (h : k52.K w x cs) : ∃ A0 c0, cs = [.slice A0 x.f0.length c0, .int .i64 x.f1] ∧ x.f0.length ≤ c0 ∧ (Kd.int .i64).C w A0 x.f0.length x.f0 := by
  obtain ⟨_, _, rfl, ⟨A0, c0, rfl, l0, g0⟩, rfl⟩ := h
  exact ⟨A0, c0, rfl, l0, g0⟩
end Go.Proofs.Ytoncjfgklaldnaa.PX
