-- Written by a program of this session (hyb.py), which runs the print over the translation with contracts of its own added; it is not the print itself. Lean checks it.
import Derived.Test.YtpcicooogiialaaDoorRows
import Derived.Test.YtpcicooogiialaaDoorPGx8
import Derived.Test.YtpcicooogiialaaDoorPureJournalGoes
import Derived.Test.YtpcicooogiialaaDoorOpens
import Derived.WalkKit
import Derived.ProofKit
import Derived.OpenShut
import Derived.ShutString
import Derived.ChangeOld
import Derived.Below
import Derived.SizedLaws
import Derived.LaidLaws
import Derived.Handed
import Derived.Lay
import Derived.Lib.LaidTab
import Derived.Test.YtpcicooogiialaaDoorCards
import Derived.Test.YtpcicooogiialaaDoorTie
namespace Go.Proofs.YtpcicooogiialaaDoor.journalGoes
open Go.ChangeShapes Go.WideShapes Go.ChangeAt Go.RowKit Go.Proofs.YtpcicooogiialaaDoor.PG Go.Proofs.YtpcicooogiialaaDoorW.PrintWords
open Go.ChangeMaps (open_string shut_string)
theorem own : ownKnob Tryd.prog.godebug = none := by kernel_rfl
theorem laidOut : laidOutB Tryd.prog = true := by kernel_rfl
theorem o0 : Opens.Opens Tryd.prog 28 (Kd.slice 5 (Kd.int .u8)) (fun x => (x.length ≤ maxLen ∧ ∀ z5_ ∈ x, (Lit.int .u8 z5_).wf = true)) :=
  (Opens.opens_slice Tryd.underlying28 (by kernel_rfl) (Opens.opens_int Tryd.underlying5))
theorem o1 : Opens.Opens Tryd.prog 24 k24 (fun x => ((Lit.int .i64 x.f0).wf = true ∧ ((Lit.int .i64 x.f1).wf = true ∧ ((Lit.int .i64 x.f2).wf = true ∧ ((Lit.int .i64 x.f3).wf = true ∧ ((Lit.int .i64 x.f4).wf = true ∧ ((Lit.int .i64 x.f5).wf = true ∧ ((x.f6.length ≤ maxLen ∧ ∀ z6_ ∈ x.f6, (Lit.int .i64 z6_).wf = true))))))))) :=
  (Opens.opens_struct (fun x : S24 => (x.f0, x.f1, x.f2, x.f3, x.f4, x.f5, x.f6)) (fun y => (⟨y.1, y.2.1, y.2.2.1, y.2.2.2.1, y.2.2.2.2.1, y.2.2.2.2.2.1, y.2.2.2.2.2.2⟩ : S24)) (fun _ => rfl) Tryd.underlying24 (by kernel_rfl) (Opens.opensF_cons rfl (by kernel_rfl) (Opens.opens_int Tryd.underlying3) (Opens.opensF_cons rfl (by kernel_rfl) (Opens.opens_int Tryd.underlying3) (Opens.opensF_cons rfl (by kernel_rfl) (Opens.opens_int Tryd.underlying3) (Opens.opensF_cons rfl (by kernel_rfl) (Opens.opens_int Tryd.underlying3) (Opens.opensF_cons rfl (by kernel_rfl) (Opens.opens_int Tryd.underlying3) (Opens.opensF_cons rfl (by kernel_rfl) (Opens.opens_int Tryd.underlying3) (Opens.opensF_one rfl (by kernel_rfl) (Opens.opens_slice Tryd.underlying22 (by kernel_rfl) (Opens.opens_int Tryd.underlying3))))))))))
theorem tab_of_laid {W : World} (h : laidMet Tryd.prog Rows.journalGoesRow.laid W) : Kd.C (Kd.int .u32) W PG.TabA PG.crcTab.length PG.crcTab := by
  have ht : Go.Lib.TabIs Tryd.prog W "papermill/crc.steps" .u32 PG.crcTab := Go.Lib.tabIs_of_head (g := 0) (t := 73) (e := 69) (n := 16) (by kernel_rfl) (by kernel_rfl) (by kernel_rfl) (by kernel_rfl) (by kernel_rfl) (by kernel_rfl) h
  refine Kd.C_of_reads (d := (0 : Int)) ⟨rfl, by decide, fun _ => ⟨_, rfl, fun j hj => ?_⟩⟩
  rw [show (⟨0, 0, none⟩ : Addr).add j = ⟨0, j, none⟩ from by simp [Addr.add]; exact Eq.symm]
  exact ht.cell (by kernel_rfl) j hj
theorem laid_met (os : Os) (args : Array Value) : laidMet Tryd.prog Rows.journalGoesRow.laid ((World.laidAll Tryd.prog os Rows.journalGoesRow.laid).forCall (fun _ _ => 0) ⟨#[], args, []⟩).memory :=
  laidMet_laidAll args (by kernel_rfl) (by kernel_rfl)
set_option maxRecDepth 100000 in
theorem lifted (os : Os) (started : os.Started) (H : Type) (enc : TypeId × Value → H) :
    ReturnsInHanded {} Tryd.checked os 10 .any (fun w args => (Rows.journalGoesSpec.pre enc Tryd.prog Tryd.f10 Rows.journalGoesRow.domain false w args ∧ laidMet Tryd.prog Rows.journalGoesRow.laid w) ∧ sizedMet enc Tryd.prog Tryd.f10 (OpenSpec.ofChange Rows.journalGoesSpec) false w args)
      (Rows.journalGoesSpec.post enc Tryd.prog Tryd.f10 false true false false) := by
  refine returnsInHanded_of_change_and (C := Tryd.checked) (X := fun w _ => laidMet Tryd.prog Rows.journalGoesRow.laid w) (fun _ _ _ hh h => h.of_heap hh) own started (by kernel_rfl) Tryd.func10
    (ChangeSpec.witness_at (enc := enc) (C := Tryd.checked) (os := os) (X := fun w _ => laidMet Tryd.prog Rows.journalGoesRow.laid w) false (World.laidAll Tryd.prog os Rows.journalGoesRow.laid) #[.slice none 0 0, .agg #[.int .i64 0, .int .i64 0, .int .i64 0, .int .i64 0, .int .i64 0, .int .i64 0, .slice none 0 0]] 8 rfl (by kernel_rfl) (by kernel_rfl) (by kernel_rfl) (by kernel_rfl) (by kernel_rfl) (laid_met os _)) ?_
  intro W base args ds gs before hval0 hW hcnd hsz0 hL _
  have hTab := tab_of_laid hL
  have hval : ∀ (j : Nat) t v, Tryd.f10.params[j]? = some t → args[j]? = some v → Value.okWide Tryd.prog W .any base t v := hval0
  have hW' := hW
  obtain ⟨p, q, hA0, hV, rfl, hfz, hnd⟩ := hW
  have hA : DataW.TrodAll enc Tryd.prog W 0 (fun _ => true) true Tryd.f10.params.toList args.toList ds p := hA0
  rw [Tryd.params10] at hA hval
  obtain ⟨v0, vs0, d0, ds0, p0, q0, hargs, rfl, rfl, h0, r0⟩ := trodAll_cons hA
  obtain ⟨v1, vs1, d1, ds1, p1, q1, rfl, rfl, rfl, h1, r1⟩ := trodAll_cons r0
  obtain ⟨rfl, rfl, rfl⟩ := trodAll_nil r1
  obtain rfl : args = #[v0, v1] := by cases args; simp_all
  obtain ⟨rfl, rfl⟩ := trodVars_none hV
  obtain ⟨a0, len0, cap0, rfl⟩ := okWide_slice Tryd.underlying28 (hval 0 28 v0 rfl rfl)
  have k0 := h0
  have lt0 : ∀ x ∈ p0, x.block < W.heap.size := by obtain ⟨m, hm⟩ := k0; exact DataW.trod_lt m _ _ _ hm
  obtain ⟨A0, c0, l0, e0, hc0, hr0, qq0⟩ := Opens.opens_row o0 h0
  obtain ⟨rfl, rfl, rfl⟩ : a0 = A0 ∧ len0 = l0.length ∧ cap0 = c0 := by simpa [Value.cells] using e0
  obtain ⟨cs1, rfl, _⟩ := okWide_struct Tryd.underlying23 (hval 1 24 v1 rfl rfl)
  have k1 := h1
  have lt1 : ∀ x ∈ p1, x.block < W.heap.size := by obtain ⟨m, hm⟩ := k1; exact DataW.trod_lt m _ _ _ hm
  obtain ⟨y1, K1, qq1⟩ := Opens.opens_val o1 h1
  obtain ⟨A1_6, c1_6, e1, hc1_6, hr1_6⟩ := k24_open K1
  obtain rfl : cs1 = #[.int .i64 y1.f0, .int .i64 y1.f1, .int .i64 y1.f2, .int .i64 y1.f3, .int .i64 y1.f4, .int .i64 y1.f5, .slice A1_6 y1.f6.length c1_6] := Array.toList_inj.1 e1
  clear hA0 hval0 hsz0
  refine (PG.papermilllaw61_JournalGoes.walk Pure.JournalGoes _ _ l0 (y1.f0) (y1.f1) (y1.f2) (y1.f3) (y1.f4) (y1.f5) _ _ y1.f6 W hTab hr0 hc0 hr1_6 hc1_6 qq0 qq1.1 qq1.2.1 qq1.2.2.1 qq1.2.2.2.1 qq1.2.2.2.2.1 qq1.2.2.2.2.2.1 qq1.2.2.2.2.2.2).mono fun e W' ⟨he, bel⟩ => ?_
  subst he
  exact ⟨_, rfl, _, _, _, [], _, [], hW', trodAll_mk1 (shut_bool Tryd.underlying4 _), (trodAll_cons_mk (Below.trod laidOut (by kernel_rfl) (of_decide_eq_true (by kernel_rfl)) k0 bel lt0) (trodAll_cons_mk (Below.trod laidOut (by kernel_rfl) (of_decide_eq_true (by kernel_rfl)) k1 bel lt1) trodAll_mk0)), rfl, bel.frame _, fun h => by cases h⟩
theorem over : Rows.journalGoesRow.holds Tryd.pinned (OpenSpec.ofChange Rows.journalGoesSpec) :=
  OpenClaim.holds_of_wide 10 Tryd.f10 rfl rfl rfl rfl rfl rfl rfl ⟨rfl, rfl, rfl, rfl, rfl⟩ rfl rfl rfl rfl rfl (by kernel_rfl) Tryd.func10 (by kernel_rfl)
    (of_decide_eq_true (by kernel_rfl)) (by unfold Func.isWrapper; first | (rw [if_pos (by decide +kernel)]; kernel_rfl) | (rw [if_neg (by decide +kernel)]; exact ⟨rfl, rfl⟩))
    (fun os started H enc _ => lifted os started H enc)
theorem rowProved : Rows.JournalGoesSaid := over
theorem proved : Rows.JournalGoesCardSaid :=
  Claim7.holds_tied_plain_at .later [] [.data] true (true, "878a82f3a022b6009fa66dad3727812cf331fb26ee33ef5655048bdb85d2678d") false
    rowProved (fun _ h => by cases h) (by kernel_rfl) (fun _ h => by cases h) journalGoes_row_tie rfl ⟨rfl, rfl⟩ (by kernel_rfl) rfl
    (fun f fn hf hfn => by
      obtain rfl : f = 10 := Option.some.inj ((show Tryd.prog.funcNamed "papermill/papermilllaw61.JournalGoes" = some 10 by kernel_rfl).symm.trans hf) |>.symm
      obtain rfl : fn = Tryd.f10 := (Option.some.inj (Tryd.func10.symm.trans hfn)).symm
      exact ⟨by kernel_rfl, fun j t ht => by
        rw [Tryd.params10] at ht
        have h3 : ([28, 24] : List TypeId).all (fun t => !Tryd.prog.wantsStandIn t) = true := by kernel_rfl
        have h4 : t ∈ ([28, 24] : List TypeId) := by simpa using Array.mem_of_getElem? ht
        have h5 : Tryd.prog.wantsStandIn t = false := by simpa using List.all_eq_true.1 h3 t h4
        exact h5⟩)
    (by kernel_rfl)
#print axioms proved
end Go.Proofs.YtpcicooogiialaaDoor.journalGoes
namespace Go.Proofs.YtpcicooogiialaaDoor
/-- The row, under a short name, for the claim. -/
theorem journalGoes_holds : Rows.JournalGoesCardSaid := journalGoes.proved
end Go.Proofs.YtpcicooogiialaaDoor
