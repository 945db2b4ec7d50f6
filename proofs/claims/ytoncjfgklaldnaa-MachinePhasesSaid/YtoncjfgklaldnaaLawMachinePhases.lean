/- The phases cover the moments before the end exactly once, in order, none is empty, State at the first and at the last moment of each is its state, and the sums add up to the end; also after the machine was stopped at any moments; no condition. -/
import Derived.Test.YtoncjfgklaldnaaRows
import Derived.Test.YtoncjfgklaldnaaMPhases0
import Derived.Test.YtoncjfgklaldnaaOpens
import Derived.WalkKit
import Derived.ProofKit
import Derived.OpenShut
import Derived.ShutString
import Derived.ChangeOld
import Derived.Below
import Derived.SizedLaws
namespace Go.Proofs.Ytoncjfgklaldnaa.machinePhases
open Go.ChangeShapes Go.WideShapes Go.ChangeAt Go.RowKit Go.Proofs.Ytoncjfgklaldnaa.PX Go.Proofs.YtoncjfgklaldnaaW.PrintWords
open Go.ChangeMaps (open_string shut_string)
theorem own : ownKnob Try.prog.godebug = none := by kernel_rfl
theorem laidOut : laidOutB Try.prog = true := by kernel_rfl
theorem o0 : Opens.Opens Try.prog 28 k28 (fun x => ((Lit.int .i64 x.f0).wf = true ∧ (Lit.int .i64 x.f1).wf = true)) :=
  (Opens.opens_struct (fun x : S28 => (x.f0, x.f1)) (fun y => (⟨y.1, y.2⟩ : S28)) (fun _ => rfl) Try.underlying28 (by kernel_rfl) (Opens.opensF_cons rfl (by kernel_rfl) (Opens.opens_int Try.underlying3) (Opens.opensF_one rfl (by kernel_rfl) (Opens.opens_int Try.underlying3))))
theorem o1 : Opens.Opens Try.prog 29 (Kd.slice 35 k35) (fun x => (x.length ≤ maxLen ∧ ∀ z21_ ∈ x, ((Lit.int .i64 z21_.f0).wf = true ∧ (Lit.int .i64 z21_.f1).wf = true))) :=
  (Opens.opens_slice Try.underlying29 (by kernel_rfl) (Opens.opens_struct (fun x : S35 => (x.f0, x.f1)) (fun y => (⟨y.1, y.2⟩ : S35)) (fun _ => rfl) Try.underlying35 (by kernel_rfl) (Opens.opensF_cons rfl (by kernel_rfl) (Opens.opens_int Try.underlying3) (Opens.opensF_one rfl (by kernel_rfl) (Opens.opens_int Try.underlying3)))))
theorem o2 : Opens.Opens Try.prog 52 k52 (fun x => ((x.f0.length ≤ maxLen ∧ ∀ z ∈ x.f0, (Lit.int .i64 z).wf = true) ∧ (Lit.int .i64 x.f1).wf = true)) :=
  (Opens.opens_struct (fun x : S52 => (x.f0, x.f1)) (fun y => (⟨y.1, y.2⟩ : S52)) (fun _ => rfl) Try.underlying52 (by kernel_rfl) (Opens.opensF_cons rfl (by kernel_rfl) (Opens.opens_slice Try.underlying39 (by kernel_rfl) (Opens.opens_int Try.underlying3)) (Opens.opensF_one rfl (by kernel_rfl) (Opens.opens_int Try.underlying3))))
set_option maxRecDepth 100000 in
theorem lifted (os : Os) (started : os.Started) (H : Type) (enc : TypeId × Value → H) :
    ReturnsInHanded {} Try.checked os 10 .any (Rows.machinePhasesSpec.pre6 enc Try.prog Try.f10 Rows.machinePhasesRow.domain false) (Rows.machinePhasesSpec.post enc Try.prog Try.f10 false true false false) := by
  refine returnsInHanded_of_change_sized (C := Try.checked) own started (by kernel_rfl) Try.func10
    (ChangeSpec.witness6 (enc := enc) (C := Try.checked) false ⟨#[], #[.agg #[.int .i64 0, .int .i64 0], .slice none 0 0, .agg #[.slice none 0 0, .int .i64 0]], []⟩ 8 (by kernel_rfl) (by kernel_rfl) (by kernel_rfl) (by kernel_rfl)) ?_
  intro W base args ds gs before hval0 hW hcnd hsz0 _
  have hval : ∀ (j : Nat) t v, Try.f10.params[j]? = some t → args[j]? = some v → Value.okWide Try.prog W .any base t v := hval0
  have hW' := hW
  obtain ⟨p, q, hA0, hV, rfl, hfz, hnd⟩ := hW
  have hA : DataW.TrodAll enc Try.prog W 0 (fun _ => true) true Try.f10.params.toList args.toList ds p := hA0
  rw [Try.params10] at hA hval
  obtain ⟨v0, vs0, d0, ds0, p0, q0, hargs, rfl, rfl, h0, r0⟩ := trodAll_cons hA
  obtain ⟨v1, vs1, d1, ds1, p1, q1, rfl, rfl, rfl, h1, r1⟩ := trodAll_cons r0
  obtain ⟨v2, vs2, d2, ds2, p2, q2, rfl, rfl, rfl, h2, r2⟩ := trodAll_cons r1
  obtain ⟨rfl, rfl, rfl⟩ := trodAll_nil r2
  obtain rfl : args = #[v0, v1, v2] := by cases args; simp_all
  obtain ⟨rfl, rfl⟩ := trodVars_none hV
  obtain ⟨cs0, rfl, _⟩ := okWide_struct Try.underlying27 (hval 0 28 v0 rfl rfl)
  have k0 := h0
  have lt0 : ∀ x ∈ p0, x.block < W.heap.size := by obtain ⟨m, hm⟩ := k0; exact DataW.trod_lt m _ _ _ hm
  obtain ⟨y0, K0, qq0⟩ := Opens.opens_val o0 h0
  have e0 := k28_open K0
  obtain rfl : cs0 = #[.int .i64 y0.f0, .int .i64 y0.f1] := Array.toList_inj.1 e0
  obtain ⟨a1, len1, cap1, rfl⟩ := okWide_slice Try.underlying29 (hval 1 29 v1 rfl rfl)
  have k1 := h1
  have lt1 : ∀ x ∈ p1, x.block < W.heap.size := by obtain ⟨m, hm⟩ := k1; exact DataW.trod_lt m _ _ _ hm
  obtain ⟨A1, c1, l1, e1, hc1, hr1, qq1⟩ := Opens.opens_row o1 h1
  obtain ⟨rfl, rfl, rfl⟩ : a1 = A1 ∧ len1 = l1.length ∧ cap1 = c1 := by simpa [Value.cells] using e1
  obtain ⟨cs2, rfl, _⟩ := okWide_struct Try.underlying51 (hval 2 52 v2 rfl rfl)
  have k2 := h2
  have lt2 : ∀ x ∈ p2, x.block < W.heap.size := by obtain ⟨m, hm⟩ := k2; exact DataW.trod_lt m _ _ _ hm
  obtain ⟨y2, K2, qq2⟩ := Opens.opens_val o2 h2
  obtain ⟨A2_0, c2_0, e2, hc2_0, hr2_0⟩ := k52_open K2
  obtain rfl : cs2 = #[.slice A2_0 y2.f0.length c2_0, .int .i64 y2.f1] := Array.toList_inj.1 e2
  clear hA0 hval0 hsz0
  refine (PX.papermilllaw30_MachinePhases.walk (y0.f0) (y0.f1) _ _ l1 _ _ y2.f0 (y2.f1) W hr1 hc1 hr2_0 hc2_0).mono fun e W' ⟨he, bel⟩ => ?_
  subst he
  exact ⟨_, rfl, _, _, _, [], _, [], hW', trodAll_mk1 (shut_bool Try.underlying4 _), (trodAll_cons_mk (Below.trod laidOut (by kernel_rfl) (of_decide_eq_true (by kernel_rfl)) k0 bel lt0) (trodAll_cons_mk (Below.trod laidOut (by kernel_rfl) (of_decide_eq_true (by kernel_rfl)) k1 bel lt1) (trodAll_cons_mk (Below.trod laidOut (by kernel_rfl) (of_decide_eq_true (by kernel_rfl)) k2 bel lt2) trodAll_mk0))), rfl, bel.frame _, fun h => by cases h⟩
theorem over : Rows.machinePhasesRow.holds Try.pinned (OpenSpec.ofChange Rows.machinePhasesSpec) :=
  OpenClaim.holds_of_wide 10 Try.f10 rfl rfl rfl rfl rfl rfl rfl ⟨rfl, rfl, rfl, rfl, rfl⟩ rfl rfl rfl rfl rfl (by kernel_rfl) Try.func10 (by kernel_rfl)
    (of_decide_eq_true (by kernel_rfl)) (by unfold Func.isWrapper; first | (rw [if_pos (by decide +kernel)]; kernel_rfl) | (rw [if_neg (by decide +kernel)]; exact ⟨rfl, rfl⟩))
    (fun os started H enc _ => lifted os started H enc)
theorem proved : Rows.MachinePhasesSaid := over
#print axioms proved
end Go.Proofs.Ytoncjfgklaldnaa.machinePhases
namespace Go.Proofs.Ytoncjfgklaldnaa
/-- The row, under a short name, for the claim. -/
theorem machinePhases_holds : Rows.MachinePhasesSaid := machinePhases.proved
end Go.Proofs.Ytoncjfgklaldnaa
