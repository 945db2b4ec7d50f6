-- Written by a program of this session (hyb.py), which runs the print over the translation with contracts of its own added; it is not the print itself. Lean checks it.
import Derived.Test.YtpcicooogiialaaDoorRows
import Derived.Test.YtpcicooogiialaaDoorPRx7
import Derived.Test.YtpcicooogiialaaDoorPureJournalRoundTrip
import Derived.Test.YtpcicooogiialaaDoorOpens
import Derived.WalkKit
import Derived.ProofKit
import Derived.OpenShut
import Derived.ShutString
import Derived.ChangeOld
import Derived.Below
import Derived.SizedLaws
import Derived.LaidLaws
import Derived.Handed
import Derived.Lay
import Derived.Lib.LaidTab
import Derived.Test.YtpcicooogiialaaDoorCards
import Derived.Test.YtpcicooogiialaaDoorTie
namespace Go.Proofs.YtpcicooogiialaaDoor.journalRoundTrip
open Go.ChangeShapes Go.WideShapes Go.ChangeAt Go.RowKit Go.Proofs.YtpcicooogiialaaDoor.PR Go.Proofs.YtpcicooogiialaaDoorW.PrintWords
open Go.ChangeMaps (open_string shut_string)
theorem own : ownKnob Tryd.prog.godebug = none := by kernel_rfl
theorem laidOut : laidOutB Tryd.prog = true := by kernel_rfl
theorem o0 : Opens.Opens Tryd.prog 24 k24 (fun x => ((Lit.int .i64 x.f0).wf = true ∧ ((Lit.int .i64 x.f1).wf = true ∧ ((Lit.int .i64 x.f2).wf = true ∧ ((Lit.int .i64 x.f3).wf = true ∧ ((Lit.int .i64 x.f4).wf = true ∧ ((Lit.int .i64 x.f5).wf = true ∧ ((x.f6.length ≤ maxLen ∧ ∀ z5_ ∈ x.f6, (Lit.int .i64 z5_).wf = true))))))))) :=
  (Opens.opens_struct (fun x : S24 => (x.f0, x.f1, x.f2, x.f3, x.f4, x.f5, x.f6)) (fun y => (⟨y.1, y.2.1, y.2.2.1, y.2.2.2.1, y.2.2.2.2.1, y.2.2.2.2.2.1, y.2.2.2.2.2.2⟩ : S24)) (fun _ => rfl) Tryd.underlying24 (by kernel_rfl) (Opens.opensF_cons rfl (by kernel_rfl) (Opens.opens_int Tryd.underlying3) (Opens.opensF_cons rfl (by kernel_rfl) (Opens.opens_int Tryd.underlying3) (Opens.opensF_cons rfl (by kernel_rfl) (Opens.opens_int Tryd.underlying3) (Opens.opensF_cons rfl (by kernel_rfl) (Opens.opens_int Tryd.underlying3) (Opens.opensF_cons rfl (by kernel_rfl) (Opens.opens_int Tryd.underlying3) (Opens.opensF_cons rfl (by kernel_rfl) (Opens.opens_int Tryd.underlying3) (Opens.opensF_one rfl (by kernel_rfl) (Opens.opens_slice Tryd.underlying22 (by kernel_rfl) (Opens.opens_int Tryd.underlying3))))))))))
theorem o1 : Opens.Opens Tryd.prog 28 (Kd.slice 5 (Kd.int .u8)) (fun x => (x.length ≤ maxLen ∧ ∀ z6_ ∈ x, (Lit.int .u8 z6_).wf = true)) :=
  (Opens.opens_slice Tryd.underlying28 (by kernel_rfl) (Opens.opens_int Tryd.underlying5))
theorem tab_of_laid {W : World} (h : laidMet Tryd.prog Rows.journalRoundTripRow.laid W) : Kd.C (Kd.int .u32) W PR.TabA PR.crcTab.length PR.crcTab := by
  have ht : Go.Lib.TabIs Tryd.prog W "papermill/crc.steps" .u32 PR.crcTab := Go.Lib.tabIs_of_head (g := 0) (t := 73) (e := 69) (n := 16) (by kernel_rfl) (by kernel_rfl) (by kernel_rfl) (by kernel_rfl) (by kernel_rfl) (by kernel_rfl) h
  refine Kd.C_of_reads (d := (0 : Int)) ⟨rfl, by decide, fun _ => ⟨_, rfl, fun j hj => ?_⟩⟩
  rw [show (⟨0, 0, none⟩ : Addr).add j = ⟨0, j, none⟩ from by simp [Addr.add]; exact Eq.symm]
  exact ht.cell (by kernel_rfl) j hj
theorem laid_met (os : Os) (args : Array Value) : laidMet Tryd.prog Rows.journalRoundTripRow.laid ((World.laidAll Tryd.prog os Rows.journalRoundTripRow.laid).forCall (fun _ _ => 0) ⟨#[], args, []⟩).memory :=
  laidMet_laidAll args (by kernel_rfl) (by kernel_rfl)
set_option maxRecDepth 100000 in
theorem lifted (os : Os) (started : os.Started) (H : Type) (enc : TypeId × Value → H) :
    ReturnsInHanded {} Tryd.checked os 8 .any (fun w args => (Rows.journalRoundTripSpec.pre enc Tryd.prog Tryd.f8 Rows.journalRoundTripRow.domain false w args ∧ laidMet Tryd.prog Rows.journalRoundTripRow.laid w) ∧ sizedMet enc Tryd.prog Tryd.f8 (OpenSpec.ofChange Rows.journalRoundTripSpec) false w args)
      (Rows.journalRoundTripSpec.post enc Tryd.prog Tryd.f8 false true false false) := by
  refine returnsInHanded_of_change_and (C := Tryd.checked) (X := fun w _ => laidMet Tryd.prog Rows.journalRoundTripRow.laid w) (fun _ _ _ hh h => h.of_heap hh) own started (by kernel_rfl) Tryd.func8
    (ChangeSpec.witness_at (enc := enc) (C := Tryd.checked) (os := os) (X := fun w _ => laidMet Tryd.prog Rows.journalRoundTripRow.laid w) false (World.laidAll Tryd.prog os Rows.journalRoundTripRow.laid) #[.agg #[.int .i64 0, .int .i64 0, .int .i64 0, .int .i64 0, .int .i64 0, .int .i64 0, .slice none 0 0], .slice none 0 0] 8 rfl (by kernel_rfl) (by kernel_rfl) (by kernel_rfl) (by kernel_rfl) (by kernel_rfl) (laid_met os _)) ?_
  intro W base args ds gs before hval0 hW hcnd hsz0 hL _
  have hTab := tab_of_laid hL
  have hval : ∀ (j : Nat) t v, Tryd.f8.params[j]? = some t → args[j]? = some v → Value.okWide Tryd.prog W .any base t v := hval0
  have hW' := hW
  obtain ⟨p, q, hA0, hV, rfl, hfz, hnd⟩ := hW
  have hA : DataW.TrodAll enc Tryd.prog W 0 (fun _ => true) true Tryd.f8.params.toList args.toList ds p := hA0
  rw [Tryd.params8] at hA hval
  obtain ⟨v0, vs0, d0, ds0, p0, q0, hargs, rfl, rfl, h0, r0⟩ := trodAll_cons hA
  obtain ⟨v1, vs1, d1, ds1, p1, q1, rfl, rfl, rfl, h1, r1⟩ := trodAll_cons r0
  obtain ⟨rfl, rfl, rfl⟩ := trodAll_nil r1
  obtain rfl : args = #[v0, v1] := by cases args; simp_all
  obtain ⟨rfl, rfl⟩ := trodVars_none hV
  obtain ⟨cs0, rfl, _⟩ := okWide_struct Tryd.underlying23 (hval 0 24 v0 rfl rfl)
  have k0 := h0
  have lt0 : ∀ x ∈ p0, x.block < W.heap.size := by obtain ⟨m, hm⟩ := k0; exact DataW.trod_lt m _ _ _ hm
  obtain ⟨y0, K0, qq0⟩ := Opens.opens_val o0 h0
  obtain ⟨A0_6, c0_6, e0, hc0_6, hr0_6⟩ := k24_open K0
  obtain rfl : cs0 = #[.int .i64 y0.f0, .int .i64 y0.f1, .int .i64 y0.f2, .int .i64 y0.f3, .int .i64 y0.f4, .int .i64 y0.f5, .slice A0_6 y0.f6.length c0_6] := Array.toList_inj.1 e0
  obtain ⟨a1, len1, cap1, rfl⟩ := okWide_slice Tryd.underlying28 (hval 1 28 v1 rfl rfl)
  have k1 := h1
  have lt1 : ∀ x ∈ p1, x.block < W.heap.size := by obtain ⟨m, hm⟩ := k1; exact DataW.trod_lt m _ _ _ hm
  obtain ⟨A1, c1, l1, e1, hc1, hr1, qq1⟩ := Opens.opens_row o1 h1
  obtain ⟨rfl, rfl, rfl⟩ : a1 = A1 ∧ len1 = l1.length ∧ cap1 = c1 := by simpa [Value.cells] using e1
  clear hA0 hval0 hsz0
  refine (PR.papermilllaw61_JournalRoundTrip.walk Pure.JournalRoundTrip (y0.f0) (y0.f1) (y0.f2) (y0.f3) (y0.f4) (y0.f5) _ _ y0.f6 _ _ l1 W hTab hr0_6 hc0_6 hr1 hc1 qq0.1 qq0.2.1 qq0.2.2.1 qq0.2.2.2.1 qq0.2.2.2.2.1 qq0.2.2.2.2.2.1 qq0.2.2.2.2.2.2 qq1).mono fun e W' ⟨he, bel⟩ => ?_
  subst he
  exact ⟨_, rfl, _, _, _, [], _, [], hW', trodAll_mk1 (shut_bool Tryd.underlying4 _), (trodAll_cons_mk (Below.trod laidOut (by kernel_rfl) (of_decide_eq_true (by kernel_rfl)) k0 bel lt0) (trodAll_cons_mk (Below.trod laidOut (by kernel_rfl) (of_decide_eq_true (by kernel_rfl)) k1 bel lt1) trodAll_mk0)), rfl, bel.frame _, fun h => by cases h⟩
theorem over : Rows.journalRoundTripRow.holds Tryd.pinned (OpenSpec.ofChange Rows.journalRoundTripSpec) :=
  OpenClaim.holds_of_wide 8 Tryd.f8 rfl rfl rfl rfl rfl rfl rfl ⟨rfl, rfl, rfl, rfl, rfl⟩ rfl rfl rfl rfl rfl (by kernel_rfl) Tryd.func8 (by kernel_rfl)
    (of_decide_eq_true (by kernel_rfl)) (by unfold Func.isWrapper; first | (rw [if_pos (by decide +kernel)]; kernel_rfl) | (rw [if_neg (by decide +kernel)]; exact ⟨rfl, rfl⟩))
    (fun os started H enc _ => lifted os started H enc)
theorem rowProved : Rows.JournalRoundTripSaid := over
theorem proved : Rows.JournalRoundTripCardSaid :=
  Claim7.holds_tied_plain_at .later [] [.data] true (true, "878a82f3a022b6009fa66dad3727812cf331fb26ee33ef5655048bdb85d2678d") false
    rowProved (fun _ h => by cases h) (by kernel_rfl) (fun _ h => by cases h) journalRoundTrip_row_tie rfl ⟨rfl, rfl⟩ (by kernel_rfl) rfl
    (fun f fn hf hfn => by
      obtain rfl : f = 8 := Option.some.inj ((show Tryd.prog.funcNamed "papermill/papermilllaw61.JournalRoundTrip" = some 8 by kernel_rfl).symm.trans hf) |>.symm
      obtain rfl : fn = Tryd.f8 := (Option.some.inj (Tryd.func8.symm.trans hfn)).symm
      exact ⟨by kernel_rfl, fun j t ht => by
        rw [Tryd.params8] at ht
        have h3 : ([24, 28] : List TypeId).all (fun t => !Tryd.prog.wantsStandIn t) = true := by kernel_rfl
        have h4 : t ∈ ([24, 28] : List TypeId) := by simpa using Array.mem_of_getElem? ht
        have h5 : Tryd.prog.wantsStandIn t = false := by simpa using List.all_eq_true.1 h3 t h4
        exact h5⟩)
    (by kernel_rfl)
#print axioms proved
end Go.Proofs.YtpcicooogiialaaDoor.journalRoundTrip
namespace Go.Proofs.YtpcicooogiialaaDoor
/-- The row, under a short name, for the claim. -/
theorem journalRoundTrip_holds : Rows.JournalRoundTripCardSaid := journalRoundTrip.proved
end Go.Proofs.YtpcicooogiialaaDoor
