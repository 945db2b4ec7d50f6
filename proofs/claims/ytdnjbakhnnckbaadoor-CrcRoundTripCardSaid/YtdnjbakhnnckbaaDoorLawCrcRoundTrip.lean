-- Written by a program of this session (hyb.py), which runs the print over the translation with contracts of its own added; it is not the print itself. Lean checks it.
import Derived.Test.YtdnjbakhnnckbaaDoorRows
import Derived.Test.YtdnjbakhnnckbaaDoorPXx13
import Derived.Test.YtdnjbakhnnckbaaDoorPureCrcRoundTrip
import Derived.Test.YtdnjbakhnnckbaaDoorOpens
import Derived.WalkKit
import Derived.ProofKit
import Derived.OpenShut
import Derived.ShutString
import Derived.ChangeOld
import Derived.Below
import Derived.SizedLaws
import Derived.LaidLaws
import Derived.Handed
import Derived.Lay
import Derived.Lib.LaidTab
import Derived.Test.YtdnjbakhnnckbaaDoorCards
import Derived.Test.YtdnjbakhnnckbaaDoorTie
namespace Go.Proofs.YtdnjbakhnnckbaaDoor.crcRoundTrip
open Go.ChangeShapes Go.WideShapes Go.ChangeAt Go.RowKit Go.Proofs.YtdnjbakhnnckbaaDoor.PX Go.Proofs.YtdnjbakhnnckbaaDoorW.PrintWords
open Go.ChangeMaps (open_string shut_string)
theorem own : ownKnob Tryd.prog.godebug = none := by kernel_rfl
theorem laidOut : laidOutB Tryd.prog = true := by kernel_rfl
theorem o0 : Opens.Opens Tryd.prog 37 (Kd.slice 22 (Kd.slice 5 (Kd.int .u8))) (fun x => (x.length ≤ maxLen ∧ ∀ z7_ ∈ x, (z7_.length ≤ maxLen ∧ ∀ z8_ ∈ z7_, (Lit.int .u8 z8_).wf = true))) :=
  (Opens.opens_slice Tryd.underlying37 (by kernel_rfl) (Opens.opens_slice Tryd.underlying22 (by kernel_rfl) (Opens.opens_int Tryd.underlying5)))
theorem o1 : Opens.Opens Tryd.prog 22 (Kd.slice 5 (Kd.int .u8)) (fun x => (x.length ≤ maxLen ∧ ∀ z9_ ∈ x, (Lit.int .u8 z9_).wf = true)) :=
  (Opens.opens_slice Tryd.underlying22 (by kernel_rfl) (Opens.opens_int Tryd.underlying5))
theorem tab_of_laid {W : World} (h : laidMet Tryd.prog Rows.crcRoundTripRow.laid W) : Kd.C (Kd.int .u32) W PX.TabA PX.crcTab.length PX.crcTab := by
  have ht : Go.Lib.TabIs Tryd.prog W "papermill/crc.steps" .u32 PX.crcTab := Go.Lib.tabIs_of_head (g := 0) (t := 47) (e := 23) (n := 16) (by kernel_rfl) (by kernel_rfl) (by kernel_rfl) (by kernel_rfl) (by kernel_rfl) (by kernel_rfl) h
  refine Kd.C_of_reads (d := (0 : Int)) ⟨rfl, by decide, fun _ => ⟨_, rfl, fun j hj => ?_⟩⟩
  rw [show (⟨0, 0, none⟩ : Addr).add j = ⟨0, j, none⟩ from by simp [Addr.add]; exact Eq.symm]
  exact ht.cell (by kernel_rfl) j hj
theorem laid_met (os : Os) (args : Array Value) : laidMet Tryd.prog Rows.crcRoundTripRow.laid ((World.laidAll Tryd.prog os Rows.crcRoundTripRow.laid).forCall (fun _ _ => 0) ⟨#[], args, []⟩).memory :=
  laidMet_laidAll args (by kernel_rfl) (by kernel_rfl)
set_option maxRecDepth 100000 in
theorem lifted (os : Os) (started : os.Started) (H : Type) (enc : TypeId × Value → H) :
    ReturnsInHanded {} Tryd.checked os 8 .any (fun w args => (Rows.crcRoundTripSpec.pre enc Tryd.prog Tryd.f8 Rows.crcRoundTripRow.domain false w args ∧ laidMet Tryd.prog Rows.crcRoundTripRow.laid w) ∧ sizedMet enc Tryd.prog Tryd.f8 (OpenSpec.ofChange Rows.crcRoundTripSpec) false w args)
      (Rows.crcRoundTripSpec.post enc Tryd.prog Tryd.f8 false true false false) := by
  refine returnsInHanded_of_change_and (C := Tryd.checked) (X := fun w _ => laidMet Tryd.prog Rows.crcRoundTripRow.laid w) (fun _ _ _ hh h => h.of_heap hh) own started (by kernel_rfl) Tryd.func8
    (ChangeSpec.witness_at (enc := enc) (C := Tryd.checked) (os := os) (X := fun w _ => laidMet Tryd.prog Rows.crcRoundTripRow.laid w) false (World.laidAll Tryd.prog os Rows.crcRoundTripRow.laid) #[.slice none 0 0, .slice none 0 0] 8 rfl (by kernel_rfl) (by kernel_rfl) (by kernel_rfl) (by kernel_rfl) (by kernel_rfl) (laid_met os _)) ?_
  intro W base args ds gs before hval0 hW hcnd hsz0 hL _
  have hTab := tab_of_laid hL
  have hval : ∀ (j : Nat) t v, Tryd.f8.params[j]? = some t → args[j]? = some v → Value.okWide Tryd.prog W .any base t v := hval0
  have hW' := hW
  obtain ⟨p, q, hA0, hV, rfl, hfz, hnd⟩ := hW
  have hA : DataW.TrodAll enc Tryd.prog W 0 (fun _ => true) true Tryd.f8.params.toList args.toList ds p := hA0
  rw [Tryd.params8] at hA hval
  obtain ⟨v0, vs0, d0, ds0, p0, q0, hargs, rfl, rfl, h0, r0⟩ := trodAll_cons hA
  obtain ⟨v1, vs1, d1, ds1, p1, q1, rfl, rfl, rfl, h1, r1⟩ := trodAll_cons r0
  obtain ⟨rfl, rfl, rfl⟩ := trodAll_nil r1
  obtain rfl : args = #[v0, v1] := by cases args; simp_all
  obtain ⟨rfl, rfl⟩ := trodVars_none hV
  obtain ⟨a0, len0, cap0, rfl⟩ := okWide_slice Tryd.underlying37 (hval 0 37 v0 rfl rfl)
  have k0 := h0
  have lt0 : ∀ x ∈ p0, x.block < W.heap.size := by obtain ⟨m, hm⟩ := k0; exact DataW.trod_lt m _ _ _ hm
  obtain ⟨A0, c0, l0, e0, hc0, hr0, qq0⟩ := Opens.opens_row o0 h0
  obtain ⟨rfl, rfl, rfl⟩ : a0 = A0 ∧ len0 = l0.length ∧ cap0 = c0 := by simpa [Value.cells] using e0
  obtain ⟨a1, len1, cap1, rfl⟩ := okWide_slice Tryd.underlying22 (hval 1 22 v1 rfl rfl)
  have k1 := h1
  have lt1 : ∀ x ∈ p1, x.block < W.heap.size := by obtain ⟨m, hm⟩ := k1; exact DataW.trod_lt m _ _ _ hm
  obtain ⟨A1, c1, l1, e1, hc1, hr1, qq1⟩ := Opens.opens_row o1 h1
  obtain ⟨rfl, rfl, rfl⟩ : a1 = A1 ∧ len1 = l1.length ∧ cap1 = c1 := by simpa [Value.cells] using e1
  clear hA0 hval0 hsz0
  refine (PX.papermilllaw09_CrcRoundTrip.walk Pure.CrcRoundTrip _ _ l0 _ _ l1 W hTab hr0 hc0 hr1 hc1 qq0 qq1).mono fun e W' ⟨he, bel⟩ => ?_
  subst he
  exact ⟨_, rfl, _, _, _, [], _, [], hW', trodAll_mk1 (shut_bool Tryd.underlying4 _), (trodAll_cons_mk (Below.trod laidOut (by kernel_rfl) (of_decide_eq_true (by kernel_rfl)) k0 bel lt0) (trodAll_cons_mk (Below.trod laidOut (by kernel_rfl) (of_decide_eq_true (by kernel_rfl)) k1 bel lt1) trodAll_mk0)), rfl, bel.frame _, fun h => by cases h⟩
theorem over : Rows.crcRoundTripRow.holds Tryd.pinned (OpenSpec.ofChange Rows.crcRoundTripSpec) :=
  OpenClaim.holds_of_wide 8 Tryd.f8 rfl rfl rfl rfl rfl rfl rfl ⟨rfl, rfl, rfl, rfl, rfl⟩ rfl rfl rfl rfl rfl (by kernel_rfl) Tryd.func8 (by kernel_rfl)
    (of_decide_eq_true (by kernel_rfl)) (by unfold Func.isWrapper; first | (rw [if_pos (by decide +kernel)]; kernel_rfl) | (rw [if_neg (by decide +kernel)]; exact ⟨rfl, rfl⟩))
    (fun os started H enc _ => lifted os started H enc)
theorem rowProved : Rows.CrcRoundTripSaid := over
theorem proved : Rows.CrcRoundTripCardSaid :=
  Claim7.holds_tied_plain_at .later [] [.data] true (true, "d8a91fe42236ccbf24c956bcf644371ef76d15e60c781664ae044084c31be5d6") false
    rowProved (fun _ h => by cases h) (by kernel_rfl) (fun _ h => by cases h) crcRoundTrip_row_tie rfl ⟨rfl, rfl⟩ (by kernel_rfl) rfl
    (fun f fn hf hfn => by
      obtain rfl : f = 8 := Option.some.inj ((show Tryd.prog.funcNamed "papermill/papermilllaw09.CrcRoundTrip" = some 8 by kernel_rfl).symm.trans hf) |>.symm
      obtain rfl : fn = Tryd.f8 := (Option.some.inj (Tryd.func8.symm.trans hfn)).symm
      exact ⟨by kernel_rfl, fun j t ht => by
        rw [Tryd.params8] at ht
        have h3 : ([37, 22] : List TypeId).all (fun t => !Tryd.prog.wantsStandIn t) = true := by kernel_rfl
        have h4 : t ∈ ([37, 22] : List TypeId) := by simpa using Array.mem_of_getElem? ht
        have h5 : Tryd.prog.wantsStandIn t = false := by simpa using List.all_eq_true.1 h3 t h4
        exact h5⟩)
    (by kernel_rfl)
#print axioms proved
end Go.Proofs.YtdnjbakhnnckbaaDoor.crcRoundTrip
namespace Go.Proofs.YtdnjbakhnnckbaaDoor
/-- The row, under a short name, for the claim. -/
theorem crcRoundTrip_holds : Rows.CrcRoundTripCardSaid := crcRoundTrip.proved
end Go.Proofs.YtdnjbakhnnckbaaDoor
