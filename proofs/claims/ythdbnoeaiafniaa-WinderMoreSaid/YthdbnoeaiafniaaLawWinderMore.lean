-- Written by a program of this session (hyb.py), which runs the print over the translation with contracts of its own added; it is not the print itself. Lean checks it.
import Derived.Test.YthdbnoeaiafniaaRows
import Derived.Test.YthdbnoeaiafniaaPXx17
import Derived.Test.YthdbnoeaiafniaaPureWinderMore
import Derived.Test.YthdbnoeaiafniaaOpens
import Derived.WalkKit
import Derived.ProofKit
import Derived.OpenShut
import Derived.ShutString
import Derived.ChangeOld
import Derived.Below
import Derived.SizedLaws
namespace Go.Proofs.Ythdbnoeaiafniaa.winderMore
open Go.ChangeShapes Go.WideShapes Go.ChangeAt Go.RowKit Go.Proofs.Ythdbnoeaiafniaa.PX Go.Proofs.YthdbnoeaiafniaaW.PrintWords
open Go.ChangeMaps (open_string shut_string)
theorem own : ownKnob Try.prog.godebug = none := by kernel_rfl
theorem laidOut : laidOutB Try.prog = true := by kernel_rfl
theorem o0 : Opens.Opens Try.prog 22 (Kd.slice 3 (Kd.int .i64)) (fun x => (x.length ≤ maxLen ∧ ∀ z57_ ∈ x, (Lit.int .i64 z57_).wf = true)) :=
  (Opens.opens_slice Try.underlying22 (by kernel_rfl) (Opens.opens_int Try.underlying3))
theorem o2 : Opens.Opens Try.prog 31 k31 (fun x => ((x.f0.length ≤ maxLen ∧ ∀ z58_ ∈ x.f0, (z58_.length ≤ maxLen ∧ ∀ z59_ ∈ z58_, (Lit.int .i64 z59_).wf = true)) ∧ ((x.f1.length ≤ maxLen ∧ ∀ z60_ ∈ x.f1, (Lit.int .i64 z60_).wf = true) ∧ (Lit.int .i64 x.f2).wf = true))) :=
  (Opens.opens_struct (fun x : S31 => (x.f0, x.f1, x.f2)) (fun y => (⟨y.1, y.2.1, y.2.2⟩ : S31)) (fun _ => rfl) Try.underlying31 (by kernel_rfl) (Opens.opensF_cons rfl (by kernel_rfl) (Opens.opens_slice Try.underlying29 (by kernel_rfl) (Opens.opens_slice Try.underlying22 (by kernel_rfl) (Opens.opens_int Try.underlying3))) (Opens.opensF_cons rfl (by kernel_rfl) (Opens.opens_slice Try.underlying22 (by kernel_rfl) (Opens.opens_int Try.underlying3)) (Opens.opensF_one rfl (by kernel_rfl) (Opens.opens_int Try.underlying3)))))
set_option maxRecDepth 100000 in
theorem lifted (os : Os) (started : os.Started) (H : Type) (enc : TypeId × Value → H) :
    ReturnsInHanded {} Try.checked os 9 .any (Rows.winderMoreSpec.pre6 enc Try.prog Try.f9 Rows.winderMoreRow.domain false) (Rows.winderMoreSpec.post enc Try.prog Try.f9 false true false false) := by
  refine returnsInHanded_of_change_sized (C := Try.checked) own started (by kernel_rfl) Try.func9
    (ChangeSpec.witness6 (enc := enc) (C := Try.checked) false ⟨#[], #[.slice none 0 0, .int .i64 0, .agg #[.slice none 0 0, .slice none 0 0, .int .i64 0]], []⟩ 8 (by kernel_rfl) (by kernel_rfl) (by kernel_rfl) (by kernel_rfl)) ?_
  intro W base args ds gs before hval0 hW hcnd hsz0 _
  have hval : ∀ (j : Nat) t v, Try.f9.params[j]? = some t → args[j]? = some v → Value.okWide Try.prog W .any base t v := hval0
  have hW' := hW
  obtain ⟨p, q, hA0, hV, rfl, hfz, hnd⟩ := hW
  have hA : DataW.TrodAll enc Try.prog W 0 (fun _ => true) true Try.f9.params.toList args.toList ds p := hA0
  rw [Try.params9] at hA hval
  obtain ⟨v0, vs0, d0, ds0, p0, q0, hargs, rfl, rfl, h0, r0⟩ := trodAll_cons hA
  obtain ⟨v1, vs1, d1, ds1, p1, q1, rfl, rfl, rfl, h1, r1⟩ := trodAll_cons r0
  obtain ⟨v2, vs2, d2, ds2, p2, q2, rfl, rfl, rfl, h2, r2⟩ := trodAll_cons r1
  obtain ⟨rfl, rfl, rfl⟩ := trodAll_nil r2
  obtain rfl : args = #[v0, v1, v2] := by cases args; simp_all
  obtain ⟨rfl, rfl⟩ := trodVars_none hV
  obtain ⟨a0, len0, cap0, rfl⟩ := okWide_slice Try.underlying22 (hval 0 22 v0 rfl rfl)
  have k0 := h0
  have lt0 : ∀ x ∈ p0, x.block < W.heap.size := by obtain ⟨m, hm⟩ := k0; exact DataW.trod_lt m _ _ _ hm
  obtain ⟨A0, c0, l0, e0, hc0, hr0, qq0⟩ := Opens.opens_row o0 h0
  obtain ⟨rfl, rfl, rfl⟩ : a0 = A0 ∧ len0 = l0.length ∧ cap0 = c0 := by simpa [Value.cells] using e0
  obtain ⟨a1, rfl, rfl, rfl, w1⟩ := open_int Try.underlying3 (hval 1 3 v1 rfl rfl) h1
  obtain ⟨cs2, rfl, _⟩ := okWide_struct Try.underlying30 (hval 2 31 v2 rfl rfl)
  have k2 := h2
  have lt2 : ∀ x ∈ p2, x.block < W.heap.size := by obtain ⟨m, hm⟩ := k2; exact DataW.trod_lt m _ _ _ hm
  obtain ⟨y2, K2, qq2⟩ := Opens.opens_val o2 h2
  obtain ⟨A2_0, c2_0, A2_1, c2_1, e2, hc2_0, hr2_0, hc2_1, hr2_1⟩ := k31_open K2
  obtain rfl : cs2 = #[.slice A2_0 y2.f0.length c2_0, .slice A2_1 y2.f1.length c2_1, .int .i64 y2.f2] := Array.toList_inj.1 e2
  clear hA0 hval0 hsz0
  refine (PX.papermilllaw50_WinderMore.walk Pure.WinderMore _ _ l0 a1 _ _ y2.f0 _ _ y2.f1 (y2.f2) W hr0 hc0 hr2_0 hc2_0 hr2_1 hc2_1 qq0 w1 qq2.1 qq2.2.1 qq2.2.2).mono fun e W' ⟨he, bel⟩ => ?_
  subst he
  exact ⟨_, rfl, _, _, _, [], _, [], hW', trodAll_mk1 (shut_bool Try.underlying4 _), (trodAll_cons_mk (Below.trod laidOut (by kernel_rfl) (of_decide_eq_true (by kernel_rfl)) k0 bel lt0) (trodAll_cons_mk (shut_int Try.underlying3 w1) (trodAll_cons_mk (Below.trod laidOut (by kernel_rfl) (of_decide_eq_true (by kernel_rfl)) k2 bel lt2) trodAll_mk0))), rfl, bel.frame _, fun h => by cases h⟩
theorem over : Rows.winderMoreRow.holds Try.pinned (OpenSpec.ofChange Rows.winderMoreSpec) :=
  OpenClaim.holds_of_wide 9 Try.f9 rfl rfl rfl rfl rfl rfl rfl ⟨rfl, rfl, rfl, rfl, rfl⟩ rfl rfl rfl rfl rfl (by kernel_rfl) Try.func9 (by kernel_rfl)
    (of_decide_eq_true (by kernel_rfl)) (by unfold Func.isWrapper; first | (rw [if_pos (by decide +kernel)]; kernel_rfl) | (rw [if_neg (by decide +kernel)]; exact ⟨rfl, rfl⟩))
    (fun os started H enc _ => lifted os started H enc)
theorem proved : Rows.WinderMoreSaid := over
#print axioms proved
end Go.Proofs.Ythdbnoeaiafniaa.winderMore
namespace Go.Proofs.Ythdbnoeaiafniaa
/-- The row, under a short name, for the claim. -/
theorem winderMore_holds : Rows.WinderMoreSaid := winderMore.proved
end Go.Proofs.Ythdbnoeaiafniaa
