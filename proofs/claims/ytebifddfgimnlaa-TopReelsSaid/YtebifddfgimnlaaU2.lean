/- Phases, At, Length, When and Sections of a course. No condition. -/
import Derived.Test.YtebifddfgimnlaaU5
import Derived.Test.YtebifddfgimnlaaWEqStruct
section
/- drive.Check, told by folds; lists of at most 1000. -/
namespace Go.Proofs.Ytebifddfgimnlaa.Rl
open Go.RowKit Go.Proofs.Ytebifddfgimnlaa.PX Go.Proofs.Ytebifddfgimnlaa.Rd Go.Proofs.YtebifddfgimnlaaW.PrintWords Go.Proofs.YtebifddfgimnlaaW.PrintLast
set_option linter.unusedVariables false
set_option linter.unusedSimpArgs false
theorem dmom (t : Int) : drive_moment.f t = some (mom t) := by unfold drive_moment.f mom; split <;> rfl
def dk1 : List S52 → Int
  | [] => 0
  | p :: l => if mom p.f0 = true then (if p.f1 < 0 then 1 else if p.f1 > 40000 then 1 else dk1 l) else 1
def dkA (l : List S52) : Bool := decide (∀ i, i < l.length - 1 → (rd_T52 l ((i : Nat) : Int)).f0 < (rd_T52 l ((i + 1 : Nat) : Int)).f0)
def dck (l : List S52) : Int := if dk1 l = 0 then (if dkA l = true then 0 else 9) else dk1 l
theorem dk_l1 (l : List S52) (hl : l.length ≤ 512) : ∀ (d i k : Nat), i + d = l.length → (∀ a, a + 1 < i → (rd_T52 l ((a : Nat) : Int)).f0 < (rd_T52 l ((a + 1 : Nat) : Int)).f0) → drive_Check.l1 (k + d + 1) l l (l.length : Int) (i : Int) = some (if dkA l = true then 0 else 9) := by
  intro d
  induction d with
  | zero =>
    intro i k h ha
    unfold drive_Check.l1
    rw [if_neg (by omega), if_pos (show dkA l = true from decide_eq_true (fun a h2 => ha a (by omega)))]
  | succ d ih =>
    intro i k h ha
    rw [show k + (d + 1) + 1 = (k + d + 1) + 1 by omega]
    unfold drive_Check.l1
    rw [if_pos (by omega), if_pos (by omega), if_pos (by omega), wrap_i (n := l.length) (by omega) (by omega)]
    by_cases h0 : (i : Int) > 0
    · obtain ⟨j, hj⟩ : ∃ j : Nat, i = j + 1 := ⟨i - 1, by omega⟩
      have hw : wrap64 ((i : Int) - 1) = (j : Int) := by unfold wrap64; omega
      rw [if_pos h0, hw, if_pos (by omega), if_pos (by omega)]
      by_cases c : (rd_T52 l (i : Int)).f0 ≤ (rd_T52 l (j : Int)).f0
      · rw [if_pos c, if_neg ?_]
        intro hA
        have h2 := of_decide_eq_true hA j (by omega)
        rw [show ((j + 1 : Nat) : Int) = (i : Int) by omega] at h2
        omega
      · rw [if_neg c]
        refine ih (i + 1) k (by omega) (fun a h2 => ?_)
        by_cases h3 : a + 1 < i
        · exact ha a h3
        · rw [show ((a : Nat) : Int) = (j : Int) by omega, show ((a + 1 : Nat) : Int) = (i : Int) by omega]
          omega
    · rw [if_neg h0]
      exact ih (i + 1) k (by omega) (fun a h2 => by omega)
theorem dk_l0 (l : List S52) (hl : l.length ≤ 512) : ∀ (d i k : Nat), i + d = l.length → drive_Check.l0 (k + l.length + 1 + d + 1) l l (l.length : Int) (i : Int) = some (if dk1 (l.drop i) = 0 then (if dkA l = true then 0 else 9) else dk1 (l.drop i)) := by
  intro d
  induction d with
  | zero =>
    intro i k h
    rw [show i = l.length by omega, List.drop_length]
    unfold drive_Check.l0
    rw [if_neg (by omega), show dk1 [] = 0 from rfl, if_pos rfl]
    exact dk_l1 l hl l.length 0 k (by omega) (fun a h => by omega)
  | succ d ih =>
    intro i k h
    rw [drop52 l i (by omega), show k + l.length + 1 + (d + 1) + 1 = (k + l.length + 1 + d + 1) + 1 by omega]
    unfold drive_Check.l0
    rw [if_pos (by omega), if_pos (by omega), if_pos (by omega), wrap_i (n := l.length) (by omega) (by omega), dmom]
    simp only [Option.bind_some]
    generalize hq : rd_T52 l (i : Int) = q
    have hI := ih (i + 1) k (by omega)
    cases hm : mom q.f0 with
    | false =>
      have h1 : dk1 (q :: l.drop (i + 1)) = 1 := by rw [dk1, if_neg (by rw [hm]; decide)]
      rw [if_neg (by decide), h1]
      rfl
    | true =>
      rw [if_pos rfl]
      by_cases c1 : q.f1 < 0
      · have h1 : dk1 (q :: l.drop (i + 1)) = 1 := by rw [dk1, if_pos hm, if_pos c1]
        rw [if_pos c1, h1]
        rfl
      · rw [if_neg c1]
        by_cases c2 : q.f1 > 40000
        · have h1 : dk1 (q :: l.drop (i + 1)) = 1 := by rw [dk1, if_pos hm, if_neg c1, if_pos c2]
          rw [if_pos c2, h1]
          rfl
        · have h1 : dk1 (q :: l.drop (i + 1)) = dk1 (l.drop (i + 1)) := by rw [dk1, if_pos hm, if_neg c1, if_neg c2]
          rw [if_neg c2, h1]
          exact hI
theorem dck_some (l : List S52) (hl : l.length ≤ 512) : ∃ k, drive_Check.f k l = some (dck l) := by
  refine ⟨0 + l.length + 1 + l.length + 1, ?_⟩
  unfold drive_Check.f
  rw [if_neg (by omega)]
  exact dk_l0 l hl l.length 0 0 (by omega)
/-- What phases answers: the phases and the error. -/
def phF (c : Cs) : List S77 × Int :=
  if (phs (chk c.th c.cl c.acts) c.acts c.en).2 = 0 then
    (if dck c.pac = 0 then (if c.pac.any (fun q => decide (c.en ≤ q.f0)) = true then ([], 37) else ((phs (chk c.th c.cl c.acts) c.acts c.en).1, ckS c.sw c.en)) else ([], dck c.pac))
  else ([], (phs (chk c.th c.cl c.acts) c.acts c.en).2)
end Go.Proofs.Ytebifddfgimnlaa.Rl
end
section
/- phases. -/
namespace Go.Proofs.Ytebifddfgimnlaa.Rl
open Go.RowKit Go.Proofs.Ytebifddfgimnlaa.PX Go.Proofs.Ytebifddfgimnlaa.Rd Go.Proofs.YtebifddfgimnlaaW.PrintWords Go.Proofs.YtebifddfgimnlaaW.PrintLast
set_option linter.unusedVariables false
set_option linter.unusedSimpArgs false
theorem phases_some (c : Cs) : ∃ k, machine_Phases.f k c.th c.cl c.acts c.en = some ((phs (chk c.th c.cl c.acts) c.acts c.en).1, (phs (chk c.th c.cl c.acts) c.acts c.en).2) := by
  obtain ⟨k, hk⟩ := chk_ev c.th c.cl c.acts
  refine ⟨k, ?_⟩
  unfold machine_Phases.f
  rw [hk]
  rfl
set_option maxHeartbeats 4000000 in
set_option maxRecDepth 100000 in
theorem phases_calls (c : Cs) (a : CsA) (w : World) (hc : CsC w c a) (hls : c.sw.length ≤ 100) (hlq : c.pac.length ≤ 100) :
    Calls Try.prog 11 #[.agg (csV c a)] w fun e w' => ∃ v, e = .returned (.tuple #[v, .int .i64 (phF c).2]) ∧ Kd.R k77 77 w' w.heap.size (fun _ => True) v (phF c).1 ∧ Below w.heap.size w w' := by
  have HC := Aside0.mk hc
  have HN := Aside0.mk (show c.sw.length ≤ 100 ∧ c.pac.length ≤ 100 from ⟨hls, hlq⟩)
  clear hc hls hlq
  obtain ⟨X2, y2, X3, y3, X4, y4⟩ := a
  unfold csV
  obtain ⟨r1, hr1⟩ : ∃ r, (phs (chk c.th c.cl c.acts) c.acts c.en).1 = r := ⟨_, rfl⟩
  obtain ⟨r2, hr2⟩ : ∃ r, (phs (chk c.th c.cl c.acts) c.acts c.en).2 = r := ⟨_, rfl⟩
  obtain ⟨r3, hr3⟩ : ∃ r, dck c.pac = r := ⟨_, rfl⟩
  obtain ⟨b, hb4⟩ : ∃ r, c.pac.any (fun q => decide (c.en ≤ q.f0)) = r := ⟨_, rfl⟩
  have HPF0 := Aside0.mk (show phF c = (if r2 = 0 then (if r3 = 0 then (if b = true then ([], 37) else (r1, ckS c.sw c.en)) else ([], r3)) else ([], r2)) from by unfold phF; rw [hr1, hr2, hr3, hb4])
  have H1 := Aside0.mk hr1
  have H2 := Aside0.mk hr2
  have H3 := Aside0.mk hr3
  have H4 := Aside0.mk hb4
  clear hr1 hr2 hr3 hb4
  by_cases h2 : r2 = 0
  · subst h2
    by_cases h3 : r3 = 0
    · subst h3
      cases b
      · have HPF := Aside0.mk (show phF c = (r1, ckS c.sw c.en) from HPF0.out)
        clear HPF0
        go_enter Try.func11, Try.ntmps11
        go_wp2_with (first
      | ((with_reducible refine gate_dst (N := 1) rfl ?_); go_must (refine box_event ?hg (N := 1) ?hd (cs := #[.int .i64 c.th, .int .i64 c.cl, .slice X2 c.acts.length y2, .slice X3 c.pac.length y3, .slice X4 c.sw.length y4, .int .i64 c.en]) (t := 28) ?hr ?_; (case hd => rfl); (case hg => rfl); (case hr => first | (go_simp; done) | (go_simp; rfl)); intro g1 hg w1 hbox hb; have BK1 := Aside0.mk hbox; have HB := Aside0.mk hb; have HCC := Aside0.mk (HC.out.below hb); have x0 : w1.cell? ⟨g1, 0, none⟩ = some (.int .i64 c.th) := (blk_cell BK1.out 0).trans rfl; have x1 : w1.cell? ⟨g1, 1, none⟩ = some (.int .i64 c.cl) := (blk_cell BK1.out 1).trans rfl; have x2 : w1.cell? ⟨g1, 2, none⟩ = some (.slice X2 c.acts.length y2) := (blk_cell BK1.out 2).trans rfl; have x3 : w1.cell? ⟨g1, 3, none⟩ = some (.slice X3 c.pac.length y3) := (blk_cell BK1.out 3).trans rfl; have x4 : w1.cell? ⟨g1, 4, none⟩ = some (.slice X4 c.sw.length y4) := (blk_cell BK1.out 4).trans rfl; have x5 : w1.cell? ⟨g1, 5, none⟩ = some (.int .i64 c.en) := (blk_cell BK1.out 5).trans rfl; clear hbox hb hg HC))
      | (go_at_call 18; go_must (obtain ⟨k_, hk_⟩ := phases_some c; refine (machine_Phases.calls k_ c.th c.cl X2 y2 c.acts c.en _ _ _ HCC.out.1 HCC.out.2.1 hk_).mono ?_; rw [H1.out, H2.out]; rintro e w2 ⟨v0, rfl, hr, hb⟩; have HV := Aside0.mk (Kd.R_lower (Kd.R_mono hr (fun _ _ => trivial)) (show w.heap.size ≤ w1.heap.size from HB.out.size)); have nHB := Aside0.mk (below_step HB.out hb); have nBK1 := Aside0.mk (blk_below BK1.out hb); have nHCC := Aside0.mk (HCC.out.below hb); clear x0 x1 x2 x3 x4 x5; clear HB; clear BK1; clear HCC; have HB := nHB; clear nHB; have BK1 := nBK1; clear nBK1; have HCC := nHCC; clear nHCC; have x0 : w2.cell? ⟨g1, 0, none⟩ = some (.int .i64 c.th) := (blk_cell BK1.out 0).trans rfl; have x1 : w2.cell? ⟨g1, 1, none⟩ = some (.int .i64 c.cl) := (blk_cell BK1.out 1).trans rfl; have x2 : w2.cell? ⟨g1, 2, none⟩ = some (.slice X2 c.acts.length y2) := (blk_cell BK1.out 2).trans rfl; have x3 : w2.cell? ⟨g1, 3, none⟩ = some (.slice X3 c.pac.length y3) := (blk_cell BK1.out 3).trans rfl; have x4 : w2.cell? ⟨g1, 4, none⟩ = some (.slice X4 c.sw.length y4) := (blk_cell BK1.out 4).trans rfl; have x5 : w2.cell? ⟨g1, 5, none⟩ = some (.int .i64 c.en) := (blk_cell BK1.out 5).trans rfl; clear hr hb))
      | (go_at_call 19; go_must (obtain ⟨k_, hk_⟩ := dck_some c.pac (by have := HN.out; omega); refine (drive_Check.calls k_ X3 y3 c.pac _ _ HCC.out.2.2.1 HCC.out.2.2.2.1 hk_).mono ?_; rw [H3.out]; rintro e w3 ⟨rfl, hb⟩; have nHV := Aside0.mk (Kd.R_below HV.out hb); clear HV; have HV := nHV; clear nHV; have nHB := Aside0.mk (below_step HB.out hb); have nBK1 := Aside0.mk (blk_below BK1.out hb); have nHCC := Aside0.mk (HCC.out.below hb); clear x0 x1 x2 x3 x4 x5; clear HB; clear BK1; clear HCC; have HB := nHB; clear nHB; have BK1 := nBK1; clear nBK1; have HCC := nHCC; clear nHCC; have x0 : w3.cell? ⟨g1, 0, none⟩ = some (.int .i64 c.th) := (blk_cell BK1.out 0).trans rfl; have x1 : w3.cell? ⟨g1, 1, none⟩ = some (.int .i64 c.cl) := (blk_cell BK1.out 1).trans rfl; have x2 : w3.cell? ⟨g1, 2, none⟩ = some (.slice X2 c.acts.length y2) := (blk_cell BK1.out 2).trans rfl; have x3 : w3.cell? ⟨g1, 3, none⟩ = some (.slice X3 c.pac.length y3) := (blk_cell BK1.out 3).trans rfl; have x4 : w3.cell? ⟨g1, 4, none⟩ = some (.slice X4 c.sw.length y4) := (blk_cell BK1.out 4).trans rfl; have x5 : w3.cell? ⟨g1, 5, none⟩ = some (.int .i64 c.en) := (blk_cell BK1.out 5).trans rfl; clear hb))
      | (go_at_call 20; go_must (refine (anyP_calls c.en c.pac X3 y3 g1 _ HCC.out.2.2.1 (by have := HN.out; omega) x5).mono ?_; rw [H4.out]; rintro e w4 ⟨rfl, hb⟩; have nHV := Aside0.mk (Kd.R_below HV.out hb); clear HV; have HV := nHV; clear nHV; have nHB := Aside0.mk (below_step HB.out hb); have nBK1 := Aside0.mk (blk_below BK1.out hb); have nHCC := Aside0.mk (HCC.out.below hb); clear x0 x1 x2 x3 x4 x5; clear HB; clear BK1; clear HCC; have HB := nHB; clear nHB; have BK1 := nBK1; clear nBK1; have HCC := nHCC; clear nHCC; have x0 : w4.cell? ⟨g1, 0, none⟩ = some (.int .i64 c.th) := (blk_cell BK1.out 0).trans rfl; have x1 : w4.cell? ⟨g1, 1, none⟩ = some (.int .i64 c.cl) := (blk_cell BK1.out 1).trans rfl; have x2 : w4.cell? ⟨g1, 2, none⟩ = some (.slice X2 c.acts.length y2) := (blk_cell BK1.out 2).trans rfl; have x3 : w4.cell? ⟨g1, 3, none⟩ = some (.slice X3 c.pac.length y3) := (blk_cell BK1.out 3).trans rfl; have x4 : w4.cell? ⟨g1, 4, none⟩ = some (.slice X4 c.sw.length y4) := (blk_cell BK1.out 4).trans rfl; have x5 : w4.cell? ⟨g1, 5, none⟩ = some (.int .i64 c.en) := (blk_cell BK1.out 5).trans rfl; clear hb))
      | (go_at_call 22; go_must (refine (ckS_calls c.sw X4 y4 c.en _ HCC.out.2.2.2.2.1 (by have := HN.out; omega)).mono ?_; rintro e w5 ⟨rfl, hb⟩; have nHV := Aside0.mk (Kd.R_below HV.out hb); clear HV; have HV := nHV; clear nHV; have nHB := Aside0.mk (below_step HB.out hb); have nBK1 := Aside0.mk (blk_below BK1.out hb); have nHCC := Aside0.mk (HCC.out.below hb); clear x0 x1 x2 x3 x4 x5; clear HB; clear BK1; clear HCC; have HB := nHB; clear nHB; have BK1 := nBK1; clear nBK1; have HCC := nHCC; clear nHCC; have x0 : w5.cell? ⟨g1, 0, none⟩ = some (.int .i64 c.th) := (blk_cell BK1.out 0).trans rfl; have x1 : w5.cell? ⟨g1, 1, none⟩ = some (.int .i64 c.cl) := (blk_cell BK1.out 1).trans rfl; have x2 : w5.cell? ⟨g1, 2, none⟩ = some (.slice X2 c.acts.length y2) := (blk_cell BK1.out 2).trans rfl; have x3 : w5.cell? ⟨g1, 3, none⟩ = some (.slice X3 c.pac.length y3) := (blk_cell BK1.out 3).trans rfl; have x4 : w5.cell? ⟨g1, 4, none⟩ = some (.slice X4 c.sw.length y4) := (blk_cell BK1.out 4).trans rfl; have x5 : w5.cell? ⟨g1, 5, none⟩ = some (.int .i64 c.en) := (blk_cell BK1.out 5).trans rfl; clear hb)))
        exact bodyPost_ret (v := .tuple #[v0, .int .i64 (phF c).2]) (by rw [HPF.out]; simp [results, Try.results11, go_sem]) rfl ⟨_, rfl, by rw [HPF.out]; exact HV.out, HB.out⟩
      · have HPF := Aside0.mk (show phF c = ([], 37) from HPF0.out)
        clear HPF0
        go_enter Try.func11, Try.ntmps11
        go_wp2_with (first
      | ((with_reducible refine gate_dst (N := 1) rfl ?_); go_must (refine box_event ?hg (N := 1) ?hd (cs := #[.int .i64 c.th, .int .i64 c.cl, .slice X2 c.acts.length y2, .slice X3 c.pac.length y3, .slice X4 c.sw.length y4, .int .i64 c.en]) (t := 28) ?hr ?_; (case hd => rfl); (case hg => rfl); (case hr => first | (go_simp; done) | (go_simp; rfl)); intro g1 hg w1 hbox hb; have BK1 := Aside0.mk hbox; have HB := Aside0.mk hb; have HCC := Aside0.mk (HC.out.below hb); have x0 : w1.cell? ⟨g1, 0, none⟩ = some (.int .i64 c.th) := (blk_cell BK1.out 0).trans rfl; have x1 : w1.cell? ⟨g1, 1, none⟩ = some (.int .i64 c.cl) := (blk_cell BK1.out 1).trans rfl; have x2 : w1.cell? ⟨g1, 2, none⟩ = some (.slice X2 c.acts.length y2) := (blk_cell BK1.out 2).trans rfl; have x3 : w1.cell? ⟨g1, 3, none⟩ = some (.slice X3 c.pac.length y3) := (blk_cell BK1.out 3).trans rfl; have x4 : w1.cell? ⟨g1, 4, none⟩ = some (.slice X4 c.sw.length y4) := (blk_cell BK1.out 4).trans rfl; have x5 : w1.cell? ⟨g1, 5, none⟩ = some (.int .i64 c.en) := (blk_cell BK1.out 5).trans rfl; clear hbox hb hg HC))
      | (go_at_call 18; go_must (obtain ⟨k_, hk_⟩ := phases_some c; refine (machine_Phases.calls k_ c.th c.cl X2 y2 c.acts c.en _ _ _ HCC.out.1 HCC.out.2.1 hk_).mono ?_; rw [H1.out, H2.out]; rintro e w2 ⟨v0, rfl, hr, hb⟩; have HV := Aside0.mk (Kd.R_lower (Kd.R_mono hr (fun _ _ => trivial)) (show w.heap.size ≤ w1.heap.size from HB.out.size)); have nHB := Aside0.mk (below_step HB.out hb); have nBK1 := Aside0.mk (blk_below BK1.out hb); have nHCC := Aside0.mk (HCC.out.below hb); clear x0 x1 x2 x3 x4 x5; clear HB; clear BK1; clear HCC; have HB := nHB; clear nHB; have BK1 := nBK1; clear nBK1; have HCC := nHCC; clear nHCC; have x0 : w2.cell? ⟨g1, 0, none⟩ = some (.int .i64 c.th) := (blk_cell BK1.out 0).trans rfl; have x1 : w2.cell? ⟨g1, 1, none⟩ = some (.int .i64 c.cl) := (blk_cell BK1.out 1).trans rfl; have x2 : w2.cell? ⟨g1, 2, none⟩ = some (.slice X2 c.acts.length y2) := (blk_cell BK1.out 2).trans rfl; have x3 : w2.cell? ⟨g1, 3, none⟩ = some (.slice X3 c.pac.length y3) := (blk_cell BK1.out 3).trans rfl; have x4 : w2.cell? ⟨g1, 4, none⟩ = some (.slice X4 c.sw.length y4) := (blk_cell BK1.out 4).trans rfl; have x5 : w2.cell? ⟨g1, 5, none⟩ = some (.int .i64 c.en) := (blk_cell BK1.out 5).trans rfl; clear hr hb))
      | (go_at_call 19; go_must (obtain ⟨k_, hk_⟩ := dck_some c.pac (by have := HN.out; omega); refine (drive_Check.calls k_ X3 y3 c.pac _ _ HCC.out.2.2.1 HCC.out.2.2.2.1 hk_).mono ?_; rw [H3.out]; rintro e w3 ⟨rfl, hb⟩; have nHV := Aside0.mk (Kd.R_below HV.out hb); clear HV; have HV := nHV; clear nHV; have nHB := Aside0.mk (below_step HB.out hb); have nBK1 := Aside0.mk (blk_below BK1.out hb); have nHCC := Aside0.mk (HCC.out.below hb); clear x0 x1 x2 x3 x4 x5; clear HB; clear BK1; clear HCC; have HB := nHB; clear nHB; have BK1 := nBK1; clear nBK1; have HCC := nHCC; clear nHCC; have x0 : w3.cell? ⟨g1, 0, none⟩ = some (.int .i64 c.th) := (blk_cell BK1.out 0).trans rfl; have x1 : w3.cell? ⟨g1, 1, none⟩ = some (.int .i64 c.cl) := (blk_cell BK1.out 1).trans rfl; have x2 : w3.cell? ⟨g1, 2, none⟩ = some (.slice X2 c.acts.length y2) := (blk_cell BK1.out 2).trans rfl; have x3 : w3.cell? ⟨g1, 3, none⟩ = some (.slice X3 c.pac.length y3) := (blk_cell BK1.out 3).trans rfl; have x4 : w3.cell? ⟨g1, 4, none⟩ = some (.slice X4 c.sw.length y4) := (blk_cell BK1.out 4).trans rfl; have x5 : w3.cell? ⟨g1, 5, none⟩ = some (.int .i64 c.en) := (blk_cell BK1.out 5).trans rfl; clear hb))
      | (go_at_call 20; go_must (refine (anyP_calls c.en c.pac X3 y3 g1 _ HCC.out.2.2.1 (by have := HN.out; omega) x5).mono ?_; rw [H4.out]; rintro e w4 ⟨rfl, hb⟩; have nHV := Aside0.mk (Kd.R_below HV.out hb); clear HV; have HV := nHV; clear nHV; have nHB := Aside0.mk (below_step HB.out hb); have nBK1 := Aside0.mk (blk_below BK1.out hb); have nHCC := Aside0.mk (HCC.out.below hb); clear x0 x1 x2 x3 x4 x5; clear HB; clear BK1; clear HCC; have HB := nHB; clear nHB; have BK1 := nBK1; clear nBK1; have HCC := nHCC; clear nHCC; have x0 : w4.cell? ⟨g1, 0, none⟩ = some (.int .i64 c.th) := (blk_cell BK1.out 0).trans rfl; have x1 : w4.cell? ⟨g1, 1, none⟩ = some (.int .i64 c.cl) := (blk_cell BK1.out 1).trans rfl; have x2 : w4.cell? ⟨g1, 2, none⟩ = some (.slice X2 c.acts.length y2) := (blk_cell BK1.out 2).trans rfl; have x3 : w4.cell? ⟨g1, 3, none⟩ = some (.slice X3 c.pac.length y3) := (blk_cell BK1.out 3).trans rfl; have x4 : w4.cell? ⟨g1, 4, none⟩ = some (.slice X4 c.sw.length y4) := (blk_cell BK1.out 4).trans rfl; have x5 : w4.cell? ⟨g1, 5, none⟩ = some (.int .i64 c.en) := (blk_cell BK1.out 5).trans rfl; clear hb)))
        exact bodyPost_ret (v := .tuple #[.slice none 0 0, .int .i64 (phF c).2]) (by rw [HPF.out]; simp [results, Try.results11, go_sem]) rfl ⟨_, rfl, by rw [HPF.out]; exact Kd.R_nil _ _ _ _ _, HB.out⟩
    · have HPF := Aside0.mk (show phF c = ([], r3) from by rw [HPF0.out, if_pos rfl, if_neg h3])
      have k1 : (r3 == 0) = false := beq_eq_false_iff_ne.2 h3
      have k2 := eq_false h3
      clear HPF0 h3
      go_enter Try.func11, Try.ntmps11
      go_wp2_with (first
      | ((with_reducible refine gate_dst (N := 1) rfl ?_); go_must (refine box_event ?hg (N := 1) ?hd (cs := #[.int .i64 c.th, .int .i64 c.cl, .slice X2 c.acts.length y2, .slice X3 c.pac.length y3, .slice X4 c.sw.length y4, .int .i64 c.en]) (t := 28) ?hr ?_; (case hd => rfl); (case hg => rfl); (case hr => first | (go_simp; done) | (go_simp; rfl)); intro g1 hg w1 hbox hb; have BK1 := Aside0.mk hbox; have HB := Aside0.mk hb; have HCC := Aside0.mk (HC.out.below hb); have x0 : w1.cell? ⟨g1, 0, none⟩ = some (.int .i64 c.th) := (blk_cell BK1.out 0).trans rfl; have x1 : w1.cell? ⟨g1, 1, none⟩ = some (.int .i64 c.cl) := (blk_cell BK1.out 1).trans rfl; have x2 : w1.cell? ⟨g1, 2, none⟩ = some (.slice X2 c.acts.length y2) := (blk_cell BK1.out 2).trans rfl; have x3 : w1.cell? ⟨g1, 3, none⟩ = some (.slice X3 c.pac.length y3) := (blk_cell BK1.out 3).trans rfl; have x4 : w1.cell? ⟨g1, 4, none⟩ = some (.slice X4 c.sw.length y4) := (blk_cell BK1.out 4).trans rfl; have x5 : w1.cell? ⟨g1, 5, none⟩ = some (.int .i64 c.en) := (blk_cell BK1.out 5).trans rfl; clear hbox hb hg HC))
      | (go_at_call 18; go_must (obtain ⟨k_, hk_⟩ := phases_some c; refine (machine_Phases.calls k_ c.th c.cl X2 y2 c.acts c.en _ _ _ HCC.out.1 HCC.out.2.1 hk_).mono ?_; rw [H1.out, H2.out]; rintro e w2 ⟨v0, rfl, hr, hb⟩; have HV := Aside0.mk (Kd.R_lower (Kd.R_mono hr (fun _ _ => trivial)) (show w.heap.size ≤ w1.heap.size from HB.out.size)); have nHB := Aside0.mk (below_step HB.out hb); have nBK1 := Aside0.mk (blk_below BK1.out hb); have nHCC := Aside0.mk (HCC.out.below hb); clear x0 x1 x2 x3 x4 x5; clear HB; clear BK1; clear HCC; have HB := nHB; clear nHB; have BK1 := nBK1; clear nBK1; have HCC := nHCC; clear nHCC; have x0 : w2.cell? ⟨g1, 0, none⟩ = some (.int .i64 c.th) := (blk_cell BK1.out 0).trans rfl; have x1 : w2.cell? ⟨g1, 1, none⟩ = some (.int .i64 c.cl) := (blk_cell BK1.out 1).trans rfl; have x2 : w2.cell? ⟨g1, 2, none⟩ = some (.slice X2 c.acts.length y2) := (blk_cell BK1.out 2).trans rfl; have x3 : w2.cell? ⟨g1, 3, none⟩ = some (.slice X3 c.pac.length y3) := (blk_cell BK1.out 3).trans rfl; have x4 : w2.cell? ⟨g1, 4, none⟩ = some (.slice X4 c.sw.length y4) := (blk_cell BK1.out 4).trans rfl; have x5 : w2.cell? ⟨g1, 5, none⟩ = some (.int .i64 c.en) := (blk_cell BK1.out 5).trans rfl; clear hr hb))
      | (go_at_call 19; go_must (obtain ⟨k_, hk_⟩ := dck_some c.pac (by have := HN.out; omega); refine (drive_Check.calls k_ X3 y3 c.pac _ _ HCC.out.2.2.1 HCC.out.2.2.2.1 hk_).mono ?_; rw [H3.out]; rintro e w3 ⟨rfl, hb⟩; have nHV := Aside0.mk (Kd.R_below HV.out hb); clear HV; have HV := nHV; clear nHV; have nHB := Aside0.mk (below_step HB.out hb); have nBK1 := Aside0.mk (blk_below BK1.out hb); have nHCC := Aside0.mk (HCC.out.below hb); clear x0 x1 x2 x3 x4 x5; clear HB; clear BK1; clear HCC; have HB := nHB; clear nHB; have BK1 := nBK1; clear nBK1; have HCC := nHCC; clear nHCC; have x0 : w3.cell? ⟨g1, 0, none⟩ = some (.int .i64 c.th) := (blk_cell BK1.out 0).trans rfl; have x1 : w3.cell? ⟨g1, 1, none⟩ = some (.int .i64 c.cl) := (blk_cell BK1.out 1).trans rfl; have x2 : w3.cell? ⟨g1, 2, none⟩ = some (.slice X2 c.acts.length y2) := (blk_cell BK1.out 2).trans rfl; have x3 : w3.cell? ⟨g1, 3, none⟩ = some (.slice X3 c.pac.length y3) := (blk_cell BK1.out 3).trans rfl; have x4 : w3.cell? ⟨g1, 4, none⟩ = some (.slice X4 c.sw.length y4) := (blk_cell BK1.out 4).trans rfl; have x5 : w3.cell? ⟨g1, 5, none⟩ = some (.int .i64 c.en) := (blk_cell BK1.out 5).trans rfl; clear hb)))
      exact bodyPost_ret (v := .tuple #[.slice none 0 0, .int .i64 (phF c).2]) (by rw [HPF.out]; simp [results, Try.results11, go_sem]) rfl ⟨_, rfl, by rw [HPF.out]; exact Kd.R_nil _ _ _ _ _, HB.out⟩
  · have HPF := Aside0.mk (show phF c = ([], r2) from by rw [HPF0.out, if_neg h2])
    have k1 : (r2 == 0) = false := beq_eq_false_iff_ne.2 h2
    have k2 := eq_false h2
    clear HPF0 h2
    go_enter Try.func11, Try.ntmps11
    go_wp2_with (first
      | ((with_reducible refine gate_dst (N := 1) rfl ?_); go_must (refine box_event ?hg (N := 1) ?hd (cs := #[.int .i64 c.th, .int .i64 c.cl, .slice X2 c.acts.length y2, .slice X3 c.pac.length y3, .slice X4 c.sw.length y4, .int .i64 c.en]) (t := 28) ?hr ?_; (case hd => rfl); (case hg => rfl); (case hr => first | (go_simp; done) | (go_simp; rfl)); intro g1 hg w1 hbox hb; have BK1 := Aside0.mk hbox; have HB := Aside0.mk hb; have HCC := Aside0.mk (HC.out.below hb); have x0 : w1.cell? ⟨g1, 0, none⟩ = some (.int .i64 c.th) := (blk_cell BK1.out 0).trans rfl; have x1 : w1.cell? ⟨g1, 1, none⟩ = some (.int .i64 c.cl) := (blk_cell BK1.out 1).trans rfl; have x2 : w1.cell? ⟨g1, 2, none⟩ = some (.slice X2 c.acts.length y2) := (blk_cell BK1.out 2).trans rfl; have x3 : w1.cell? ⟨g1, 3, none⟩ = some (.slice X3 c.pac.length y3) := (blk_cell BK1.out 3).trans rfl; have x4 : w1.cell? ⟨g1, 4, none⟩ = some (.slice X4 c.sw.length y4) := (blk_cell BK1.out 4).trans rfl; have x5 : w1.cell? ⟨g1, 5, none⟩ = some (.int .i64 c.en) := (blk_cell BK1.out 5).trans rfl; clear hbox hb hg HC))
      | (go_at_call 18; go_must (obtain ⟨k_, hk_⟩ := phases_some c; refine (machine_Phases.calls k_ c.th c.cl X2 y2 c.acts c.en _ _ _ HCC.out.1 HCC.out.2.1 hk_).mono ?_; rw [H1.out, H2.out]; rintro e w2 ⟨v0, rfl, hr, hb⟩; have HV := Aside0.mk (Kd.R_lower (Kd.R_mono hr (fun _ _ => trivial)) (show w.heap.size ≤ w1.heap.size from HB.out.size)); have nHB := Aside0.mk (below_step HB.out hb); have nBK1 := Aside0.mk (blk_below BK1.out hb); have nHCC := Aside0.mk (HCC.out.below hb); clear x0 x1 x2 x3 x4 x5; clear HB; clear BK1; clear HCC; have HB := nHB; clear nHB; have BK1 := nBK1; clear nBK1; have HCC := nHCC; clear nHCC; have x0 : w2.cell? ⟨g1, 0, none⟩ = some (.int .i64 c.th) := (blk_cell BK1.out 0).trans rfl; have x1 : w2.cell? ⟨g1, 1, none⟩ = some (.int .i64 c.cl) := (blk_cell BK1.out 1).trans rfl; have x2 : w2.cell? ⟨g1, 2, none⟩ = some (.slice X2 c.acts.length y2) := (blk_cell BK1.out 2).trans rfl; have x3 : w2.cell? ⟨g1, 3, none⟩ = some (.slice X3 c.pac.length y3) := (blk_cell BK1.out 3).trans rfl; have x4 : w2.cell? ⟨g1, 4, none⟩ = some (.slice X4 c.sw.length y4) := (blk_cell BK1.out 4).trans rfl; have x5 : w2.cell? ⟨g1, 5, none⟩ = some (.int .i64 c.en) := (blk_cell BK1.out 5).trans rfl; clear hr hb)))
    exact bodyPost_ret (v := .tuple #[.slice none 0 0, .int .i64 (phF c).2]) (by rw [HPF.out]; simp [results, Try.results11, go_sem]) rfl ⟨_, rfl, by rw [HPF.out]; exact Kd.R_nil _ _ _ _ _, HB.out⟩
end Go.Proofs.Ytebifddfgimnlaa.Rl
end
section
/- At, at a moment at which paper is made. -/
namespace Go.Proofs.Ytebifddfgimnlaa.Rl
open Go.RowKit Go.Proofs.Ytebifddfgimnlaa.PX Go.Proofs.Ytebifddfgimnlaa.Rd Go.Proofs.YtebifddfgimnlaaW.PrintWords Go.Proofs.YtebifddfgimnlaaW.PrintLast
set_option linter.unusedVariables false
set_option linter.unusedSimpArgs false
set_option maxHeartbeats 4000000 in
set_option maxRecDepth 100000 in
theorem at_calls (c : Cs) (a : CsA) (P : List S77) (t : Int) (w : World) (hc : CsC w c a) (hph : phF c = (P, 0)) (hlp : P.length ≤ 100) (hls : c.sw.length ≤ 100) (hlq : c.pac.length ≤ 100) (ht : 0 ≤ t) (ht2 : t < c.en) (hm : (atr c P t).2 = true) :
    Calls Try.prog 10 #[.agg (csV c a), .int .i64 t] w fun e w' => e = .returned (.tuple #[.agg #[.int .i64 (atr c P t).1.f0, .int .i64 (atr c P t).1.f1, .int .i64 (atr c P t).1.f2, .int .i64 (atr c P t).1.f3, .int .i64 (atr c P t).1.f4], .int .i64 0]) ∧ Below w.heap.size w w' := by
  have HC := Aside0.mk hc
  have HPH := Aside0.mk hph
  have HN := Aside0.mk (show P.length ≤ 100 ∧ c.sw.length ≤ 100 ∧ c.pac.length ≤ 100 from ⟨hlp, hls, hlq⟩)
  obtain ⟨q, hq⟩ : ∃ q, (atr c P t).1 = q := ⟨_, rfl⟩
  have HAT := Aside0.mk (show atr c P t = (q, true) from by rw [← hq, ← hm])
  rw [hq]
  have p1 := eq_false (show ¬ t < 0 by omega)
  have p2 := eq_false (show ¬ t ≥ c.en by omega)
  have p3 := eq_false (show ¬ c.en ≤ t by omega)
  clear hc hph hlp hls hlq ht ht2 hm hq
  obtain ⟨X2, y2, X3, y3, X4, y4⟩ := a
  unfold csV
  go_enter Try.func10, Try.ntmps10
  go_wp2_with (first
      | ((with_reducible refine gate_dst (N := 2) rfl ?_); go_must (refine box_event ?hg (N := 2) ?hd (cs := #[.int .i64 c.th, .int .i64 c.cl, .slice X2 c.acts.length y2, .slice X3 c.pac.length y3, .slice X4 c.sw.length y4, .int .i64 c.en]) (t := 28) ?hr ?_; (case hd => rfl); (case hg => rfl); (case hr => first | (go_simp; done) | (go_simp; rfl)); intro g2 hg w1 hbox hb; have BK2 := Aside0.mk hbox; have HB := Aside0.mk hb; have HCC := Aside0.mk (HC.out.below hb); have x0 : w1.cell? ⟨g2, 0, none⟩ = some (.int .i64 c.th) := (blk_cell BK2.out 0).trans rfl; have x1 : w1.cell? ⟨g2, 1, none⟩ = some (.int .i64 c.cl) := (blk_cell BK2.out 1).trans rfl; have x2 : w1.cell? ⟨g2, 2, none⟩ = some (.slice X2 c.acts.length y2) := (blk_cell BK2.out 2).trans rfl; have x3 : w1.cell? ⟨g2, 3, none⟩ = some (.slice X3 c.pac.length y3) := (blk_cell BK2.out 3).trans rfl; have x4 : w1.cell? ⟨g2, 4, none⟩ = some (.slice X4 c.sw.length y4) := (blk_cell BK2.out 4).trans rfl; have x5 : w1.cell? ⟨g2, 5, none⟩ = some (.int .i64 c.en) := (blk_cell BK2.out 5).trans rfl; clear hbox hb hg HC))
      | ((with_reducible refine gate_dst (N := 4) rfl ?_); go_must (refine box_event ?hg (N := 4) ?hd (cs := #[.int .i64 0, .int .i64 0, .int .i64 0, .int .i64 0, .int .i64 0]) (t := 45) ?hr ?_; (case hd => rfl); (case hg => rfl); (case hr => first | (go_simp; done) | (go_simp; rfl)); intro g4 hg w2 hbox hb; have HB0 := HB; have BK20 := BK2; have BK4 := Aside0.mk hbox; have nHB := Aside0.mk (below_step HB.out hb); have nBK2 := Aside0.mk (blk_below BK2.out hb); have nHCC := Aside0.mk (HCC.out.below hb); clear x0 x1 x2 x3 x4 x5; clear HB; clear BK2; clear HCC; have HB := nHB; clear nHB; have BK2 := nBK2; clear nBK2; have HCC := nHCC; clear nHCC; have x0 : w2.cell? ⟨g2, 0, none⟩ = some (.int .i64 c.th) := (blk_cell BK2.out 0).trans rfl; have x1 : w2.cell? ⟨g2, 1, none⟩ = some (.int .i64 c.cl) := (blk_cell BK2.out 1).trans rfl; have x2 : w2.cell? ⟨g2, 2, none⟩ = some (.slice X2 c.acts.length y2) := (blk_cell BK2.out 2).trans rfl; have x3 : w2.cell? ⟨g2, 3, none⟩ = some (.slice X3 c.pac.length y3) := (blk_cell BK2.out 3).trans rfl; have x4 : w2.cell? ⟨g2, 4, none⟩ = some (.slice X4 c.sw.length y4) := (blk_cell BK2.out 4).trans rfl; have x5 : w2.cell? ⟨g2, 5, none⟩ = some (.int .i64 c.en) := (blk_cell BK2.out 5).trans rfl; have HG4 := Aside0.mk (show w.heap.size ≤ g4 ∧ g2 ≠ g4 from ⟨by rw [hg]; exact HB0.out.size, by rw [hg]; exact fun e => absurd (blk_lt BK20.out) (by omega)⟩); clear hbox hb hg HB0 BK20))
      | (go_at_call 11; go_must (refine (phases_calls c ⟨X2, y2, X3, y3, X4, y4⟩ _ HCC.out (by have := HN.out; omega) (by have := HN.out; omega)).mono ?_; rw [HPH.out]; rintro e w3 ⟨v0, rfl, hr, hb⟩; obtain ⟨Ap, cp, rfl, hcp, hC⟩ := Kd.R_reads hr; have HPC := Aside0.mk (show PhC w3 P Ap cp from ⟨hC, hcp⟩); clear hr hC hcp; have nHB := Aside0.mk (below_step HB.out hb); have nBK2 := Aside0.mk (blk_below BK2.out hb); have nHCC := Aside0.mk (HCC.out.below hb); have nBK4 := Aside0.mk (blk_below BK4.out hb); clear x0 x1 x2 x3 x4 x5; clear HB; clear BK2; clear HCC; clear BK4; have HB := nHB; clear nHB; have BK2 := nBK2; clear nBK2; have HCC := nHCC; clear nHCC; have BK4 := nBK4; clear nBK4; have x0 : w3.cell? ⟨g2, 0, none⟩ = some (.int .i64 c.th) := (blk_cell BK2.out 0).trans rfl; have x1 : w3.cell? ⟨g2, 1, none⟩ = some (.int .i64 c.cl) := (blk_cell BK2.out 1).trans rfl; have x2 : w3.cell? ⟨g2, 2, none⟩ = some (.slice X2 c.acts.length y2) := (blk_cell BK2.out 2).trans rfl; have x3 : w3.cell? ⟨g2, 3, none⟩ = some (.slice X3 c.pac.length y3) := (blk_cell BK2.out 3).trans rfl; have x4 : w3.cell? ⟨g2, 4, none⟩ = some (.slice X4 c.sw.length y4) := (blk_cell BK2.out 4).trans rfl; have x5 : w3.cell? ⟨g2, 5, none⟩ = some (.int .i64 c.en) := (blk_cell BK2.out 5).trans rfl; clear hb))
      | (go_at_call 17; go_must (refine (attr_calls c ⟨X2, y2, X3, y3, X4, y4⟩ P Ap cp t _ HCC.out HPC.out (by have := HN.out; omega) (by have := HN.out; omega)).mono ?_; rw [HAT.out]; rintro e w4 ⟨rfl, hb⟩; have HBX := Aside0.mk (below_step HB.out hb); have nBK4 := Aside0.mk (blk_below BK4.out hb); clear x0 x1 x2 x3 x4 x5; clear HB BK4 BK2 HCC HPC; have BK4 := nBK4; clear nBK4; clear hb))
      | ((with_reducible refine gate_dst (N := 8) rfl ?_); go_must (refine box_event ?hg (N := 8) ?hd (cs := #[.int .i64 0, .int .i64 0, .int .i64 0, .int .i64 0, .int .i64 0]) (t := 45) ?hr ?_; (case hd => rfl); (case hg => rfl); (case hr => first | (go_simp; done) | (go_simp; rfl)); intro g8 hg w5 hbox hb; have BK8 := Aside0.mk hbox; have nBK4 := Aside0.mk (blk_below BK4.out hb); have HG8 := Aside0.mk (show w.heap.size ≤ g8 ∧ g4 ≠ g8 from ⟨by rw [hg]; exact HBX.out.size, by rw [hg]; exact fun e => absurd (blk_lt BK4.out) (by omega)⟩); have nHBX := Aside0.mk (HBX.out.trans (hb.mono HBX.out.size)); clear BK4; clear HBX; have BK4 := nBK4; clear nBK4; have HBX := nHBX; clear nHBX; have r0 : w5.cell? ⟨g8, 0, none⟩ = some (.int .i64 0) := (blk_cell BK8.out 0).trans rfl; have rz0 := blk_frozen BK8.out 0; have r1 : w5.cell? ⟨g8, 1, none⟩ = some (.int .i64 0) := (blk_cell BK8.out 1).trans rfl; have rz1 := blk_frozen BK8.out 1; have r2 : w5.cell? ⟨g8, 2, none⟩ = some (.int .i64 0) := (blk_cell BK8.out 2).trans rfl; have rz2 := blk_frozen BK8.out 2; have r3 : w5.cell? ⟨g8, 3, none⟩ = some (.int .i64 0) := (blk_cell BK8.out 3).trans rfl; have rz3 := blk_frozen BK8.out 3; have r4 : w5.cell? ⟨g8, 4, none⟩ = some (.int .i64 0) := (blk_cell BK8.out 4).trans rfl; have rz4 := blk_frozen BK8.out 4; clear hbox hb hg))
      | ((with_reducible refine gate_store (t := 45) (p := 8) rfl ?_); go_must (refine store_event (t := 45) (p := 8) (v := ?vo_w6_8) (w1 := (((((w5.setCell ⟨g8, 0, none⟩ (.int .i64 q.f0)).setCell ⟨g8, 1, none⟩ (.int .i64 q.f1)).setCell ⟨g8, 2, none⟩ (.int .i64 q.f2)).setCell ⟨g8, 3, none⟩ (.int .i64 q.f3)).setCell ⟨g8, 4, none⟩ (.int .i64 q.f4))) ?hg ?ho ?hn ?hr ?_; (case ho => rfl); (case hg => rfl); (case hn => rfl); (case hr => first | (go_simp; done) | (go_simp; rfl)); intro w6 hw; have nBK8 := Aside0.mk (show w6.heap[g8]? = some (.cells #[.int .i64 q.f0, .int .i64 q.f1, .int .i64 q.f2, .int .i64 q.f3, .int .i64 q.f4] 45 (0, 0)) from (by rw [hw]; exact put_five BK8.out)); have nBK4 := Aside0.mk (show w6.heap[g4]? = some (.cells #[.int .i64 0, .int .i64 0, .int .i64 0, .int .i64 0, .int .i64 0] 45 (0, 0)) from (by rw [hw]; exact (blk_far (blk_far (blk_far (blk_far (blk_far BK4.out (p := ⟨g8, 0, none⟩) HG8.out.2 _) (p := ⟨g8, 1, none⟩) HG8.out.2 _) (p := ⟨g8, 2, none⟩) HG8.out.2 _) (p := ⟨g8, 3, none⟩) HG8.out.2 _) (p := ⟨g8, 4, none⟩) HG8.out.2 _))); have nHBX := Aside0.mk (show Below w.heap.size w w6 from (by rw [hw]; exact (Below.setCell (Below.setCell (Below.setCell (Below.setCell (Below.setCell HBX.out HG8.out.1 _) HG8.out.1 _) HG8.out.1 _) HG8.out.1 _) HG8.out.1 _))); clear BK8; clear BK4; clear HBX; have BK8 := nBK8; clear nBK8; have BK4 := nBK4; clear nBK4; have HBX := nHBX; clear nHBX; clear hw r0 rz0 r1 rz1 r2 rz2 r3 rz3 r4 rz4; have e0 : w6.cell? ⟨g8, 0, none⟩ = some (.int .i64 q.f0) := (blk_cell BK8.out 0).trans rfl; have e1 : w6.cell? ⟨g8, 1, none⟩ = some (.int .i64 q.f1) := (blk_cell BK8.out 1).trans rfl; have e2 : w6.cell? ⟨g8, 2, none⟩ = some (.int .i64 q.f2) := (blk_cell BK8.out 2).trans rfl; have e3 : w6.cell? ⟨g8, 3, none⟩ = some (.int .i64 q.f3) := (blk_cell BK8.out 3).trans rfl; have e4 : w6.cell? ⟨g8, 4, none⟩ = some (.int .i64 q.f4) := (blk_cell BK8.out 4).trans rfl; have s0 : w6.cell? ⟨g4, 0, none⟩ = some (.int .i64 0) := (blk_cell BK4.out 0).trans rfl; have sz0 := blk_frozen BK4.out 0; have s1 : w6.cell? ⟨g4, 1, none⟩ = some (.int .i64 0) := (blk_cell BK4.out 1).trans rfl; have sz1 := blk_frozen BK4.out 1; have s2 : w6.cell? ⟨g4, 2, none⟩ = some (.int .i64 0) := (blk_cell BK4.out 2).trans rfl; have sz2 := blk_frozen BK4.out 2; have s3 : w6.cell? ⟨g4, 3, none⟩ = some (.int .i64 0) := (blk_cell BK4.out 3).trans rfl; have sz3 := blk_frozen BK4.out 3; have s4 : w6.cell? ⟨g4, 4, none⟩ = some (.int .i64 0) := (blk_cell BK4.out 4).trans rfl; have sz4 := blk_frozen BK4.out 4))
      | ((with_reducible refine gate_store (t := 45) (p := 4) rfl ?_); go_must (refine store_event (t := 45) (p := 4) (v := ?vo_w7_4) (w1 := (((((w6.setCell ⟨g4, 0, none⟩ (.int .i64 q.f0)).setCell ⟨g4, 1, none⟩ (.int .i64 q.f1)).setCell ⟨g4, 2, none⟩ (.int .i64 q.f2)).setCell ⟨g4, 3, none⟩ (.int .i64 q.f3)).setCell ⟨g4, 4, none⟩ (.int .i64 q.f4))) ?hg ?ho ?hn ?hr ?_; (case ho => rfl); (case hg => rfl); (case hn => rfl); (case hr => first | (go_simp; done) | (go_simp; rfl)); intro w7 hw; have nBK4 := Aside0.mk (show w7.heap[g4]? = some (.cells #[.int .i64 q.f0, .int .i64 q.f1, .int .i64 q.f2, .int .i64 q.f3, .int .i64 q.f4] 45 (0, 0)) from (by rw [hw]; exact put_five BK4.out)); have nHBX := Aside0.mk (show Below w.heap.size w w7 from (by rw [hw]; exact (Below.setCell (Below.setCell (Below.setCell (Below.setCell (Below.setCell HBX.out HG4.out.1 _) HG4.out.1 _) HG4.out.1 _) HG4.out.1 _) HG4.out.1 _))); clear BK4; clear HBX; have BK4 := nBK4; clear nBK4; have HBX := nHBX; clear nHBX; clear hw s0 sz0 e0 s1 sz1 e1 s2 sz2 e2 s3 sz3 e3 s4 sz4 e4; have e0 : w7.cell? ⟨g4, 0, none⟩ = some (.int .i64 q.f0) := (blk_cell BK4.out 0).trans rfl; have e1 : w7.cell? ⟨g4, 1, none⟩ = some (.int .i64 q.f1) := (blk_cell BK4.out 1).trans rfl; have e2 : w7.cell? ⟨g4, 2, none⟩ = some (.int .i64 q.f2) := (blk_cell BK4.out 2).trans rfl; have e3 : w7.cell? ⟨g4, 3, none⟩ = some (.int .i64 q.f3) := (blk_cell BK4.out 3).trans rfl; have e4 : w7.cell? ⟨g4, 4, none⟩ = some (.int .i64 q.f4) := (blk_cell BK4.out 4).trans rfl)))
  exact bodyPost_ret (v := .tuple #[.agg #[.int .i64 q.f0, .int .i64 q.f1, .int .i64 q.f2, .int .i64 q.f3, .int .i64 q.f4], .int .i64 0]) (by simp [results, Try.results10, go_sem, e0, e1, e2, e3, e4]) rfl ⟨rfl, HBX.out⟩
end Go.Proofs.Ytebifddfgimnlaa.Rl
end
section
/- What a round over the stretches keeps, and the contract of the closure at that. -/
namespace Go.Proofs.Ytebifddfgimnlaa.Rl
open Go.RowKit Go.Proofs.Ytebifddfgimnlaa.PX Go.Proofs.Ytebifddfgimnlaa.Rd Go.Proofs.YtebifddfgimnlaaW.PrintWords Go.Proofs.YtebifddfgimnlaaW.PrintLast
set_option linter.unusedVariables false
set_option linter.unusedSimpArgs false
/-- All below B0 as it was, and all from B1 to B2. -/
def KqI (B0 B1 B2 : Nat) (A B : World) : Prop := Below B0 A B ∧ ∀ k, B1 ≤ k → k < B2 → B.heap[k]? = A.heap[k]?
theorem KqI.refl (B0 B1 B2 : Nat) (A : World) : KqI B0 B1 B2 A A := ⟨Below.refl _ _, fun _ _ _ => rfl⟩
theorem KqI.trans {B0 B1 B2 : Nat} {A B C : World} (h : KqI B0 B1 B2 A B) (k : KqI B0 B1 B2 B C) : KqI B0 B1 B2 A C := ⟨h.1.trans k.1, fun i h1 h2 => (k.2 i h1 h2).trans (h.2 i h1 h2)⟩
theorem KqI.of {B0 B1 B2 : Nat} {A B : World} (h : Below B2 A B) (h0 : B0 ≤ B2) : KqI B0 B1 B2 A B := ⟨h.mono h0, fun i _ h2 => h.block i h2⟩
theorem KqI.set {B0 B1 B2 : Nat} {A B : World} (h : KqI B0 B1 B2 A B) {p : Addr} (v : Value) (h0 : B0 ≤ p.block) (h1 : p.block < B1 ∨ B2 ≤ p.block) : KqI B0 B1 B2 A (B.setCell p v) :=
  ⟨h.1.setCell h0 v, fun i h2 h3 => (Below.heap_setCell _ p _ i (by rcases h1 with h1 | h1 <;> omega)).trans (h.2 i h2 h3)⟩
theorem KqI.put {B0 B1 B2 : Nat} {w : World} (h0 : B0 ≤ B2) (h2 : B2 ≤ w.heap.size) (W : World) (l : Nat) (o o' : Obj) (hl : w.heap.size ≤ l) (h : W.heap[l]? = some o) (hc : o.isCells = false) (hw : o.isWalk = false) : KqI B0 B1 B2 W (W.putObj l o') :=
  KqI.of ((belowK_b (w := w) h2 W l o o' hl h hc hw)) h0
theorem kq_ok {B1 gh gc gp cp chc : Nat} {w0 wz : World} {c : Cs} {a : CsA} {P : List S77} {Ap : Option Addr} {ch : List Int} {Ah : Option Addr} (hC : CsC w0 c a) (hP : PhC w0 P Ap cp) (hb : Below w0.heap.size w0 wz) (hS : StC wz gh gc gp c a P Ap cp ch Ah chc) (hG : StG B1 wz gh gc gp ch Ah) :
    KqOk (KqI w0.heap.size B1 wz.heap.size) wz gh gc gp c a P Ap cp ch Ah chc := by
  refine ⟨fun W' h => ?_, fun h k => h.trans k, fun h => KqI.of h hb.size, fun h => h.1.size⟩
  have hb2 := hb.trans h.1
  obtain ⟨g1, g2, g3, ga, h1, h2, h3⟩ := hG
  exact ⟨(h.2 gh g1 (blk_lt hS.1)).trans hS.1, (h.2 gc g2 (blk_lt hS.2.1)).trans hS.2.1, (h.2 gp g3 (blk_lt hS.2.2.1)).trans hS.2.2.1, hC.below hb2, hP.below hb2, h3 W' (h.2 ga h1 h2)⟩
theorem chL_len (c : Cs) (P : List S77) (hlp : P.length ≤ 100) (hls : c.sw.length ≤ 100) (hlq : c.pac.length ≤ 100) : 0 < (chL c P).length ∧ (chL c P).length ≤ 402 := by
  have h1 : (chR c P).length = 2 + P.length + c.pac.length + 2 * c.sw.length := by
    have : ∀ l : List S54, (l.flatMap (fun s => [s.f0, (min c.en (wrap64 (s.f0 + s.f2)))])).length = 2 * l.length := by
      intro l; induction l with
      | nil => rfl
      | cons x l ih => rw [List.flatMap_cons, List.length_append, ih]; simp; omega
    unfold chR chS chQ chP
    simp only [List.length_append, List.length_map, List.take_length, this]
    simp
  have h2 := chZ_len (l := chR c P) (by omega)
  exact ⟨h2.1, by unfold chL; omega⟩
theorem upS_len (c : Cs) (P : List S77) (ch : List Int) (k : Nat) : (upS c P ch k).length ≤ k := by
  induction k with
  | zero => exact Nat.le_refl _
  | succ k ih =>
    rw [upS_succ, List.length_append]
    have : (pcF c P (ch.getD k 0) (ch.getD (k + 1) 0)).length ≤ 1 := by unfold pcF; split <;> simp
    omega
/-- The stretches. -/
def US (c : Cs) (P : List S77) : List Str := upS c P (chL c P) ((chL c P).length - 1)
theorem US_len (c : Cs) (P : List S77) (hlp : P.length ≤ 100) (hls : c.sw.length ≤ 100) (hlq : c.pac.length ≤ 100) : (US c P).length ≤ 401 := by
  have h1 := upS_len c P (chL c P) ((chL c P).length - 1)
  have h2 := chL_len c P hlp hls hlq
  unfold US
  omega
theorem str_seq (n B1 gh gc gp cp chc : Nat) (w0 wz : World) (c : Cs) (a : CsA) (P : List S77) (Ap : Option Addr) (Ah : Option Addr) (hlp : P.length ≤ 100) (hls : c.sw.length ≤ 100) (hlq : c.pac.length ≤ 100) (hC : CsC w0 c a) (hP : PhC w0 P Ap cp) (hb : Below w0.heap.size w0 wz) (hS : StC wz gh gc gp c a P Ap cp (chL c P) Ah chc) (hG : StG B1 wz gh gc gp (chL c P) Ah) :
    SeqStopsK Fence.wide n Try.prog 24 #[.pointer (some ⟨gh, 0, none⟩), .pointer (some ⟨gc, 0, none⟩), .pointer (some ⟨gp, 0, none⟩)] encS (KqI w0.heap.size B1 wz.heap.size) (fun ys => ys = US c P) (fun pre => pre <+: US c P) (US c P).length wz :=
  str_stopsK n wz gh gc gp c a P Ap cp (chL c P) Ah chc (by omega) (by omega) (by omega) (by have := chL_len c P hlp hls hlq; omega) (chL_len c P hlp hls hlq).1 hS _ (kq_ok hC hP hb hS hG)
theorem str_seqP (n B1 gh gc gp cp chc : Nat) (w0 wz : World) (c : Cs) (a : CsA) (P : List S77) (Ap : Option Addr) (Ah : Option Addr) (hlp : P.length ≤ 100) (hls : c.sw.length ≤ 100) (hlq : c.pac.length ≤ 100) (hC : CsC w0 c a) (hP : PhC w0 P Ap cp) (hb : Below w0.heap.size w0 wz) (hS : StC wz gh gc gp c a P Ap cp (chL c P) Ah chc) (hG : StG B1 wz gh gc gp (chL c P) Ah) :
    SeqStopsK Fence.wide n Try.prog 24 #[.pointer (some ⟨gh, 0, none⟩), .pointer (some ⟨gc, 0, none⟩), .pointer (some ⟨gp, 0, none⟩)] (fun x : StrP => encS x.1) (KqI w0.heap.size B1 wz.heap.size) (fun ys => ys.map (·.1) = US c P) (fun pre => pre.map (·.1) <+: US c P) (US c P).length wz :=
  str_stopsP n wz gh gc gp c a P Ap cp (chL c P) Ah chc (by omega) (by omega) (by omega) (by have := chL_len c P hlp hls hlq; omega) (chL_len c P hlp hls hlq).1 hS _ (kq_ok hC hP hb hS hG)
end Go.Proofs.Ytebifddfgimnlaa.Rl
end
section
/- Length, at the end of a course. -/
namespace Go.Proofs.Ytebifddfgimnlaa.Rl
open Go.RowKit Go.Proofs.Ytebifddfgimnlaa.PX Go.Proofs.Ytebifddfgimnlaa.Rd Go.Proofs.YtebifddfgimnlaaW.PrintWords Go.Proofs.YtebifddfgimnlaaW.PrintLast
attribute [local go_sem] Oper.semAt_some
set_option linter.unusedVariables false
set_option linter.unusedSimpArgs false
/-- A block of cells is no walk's. -/
theorem blk_own {β : Type} (B t : Nat) (cs : β → Array Value) : Own (fun s W => W.heap[B]? = some (.cells (cs s) t (0, 0))) := fun s X Y row hs hg hr =>
  (hg.block B (blk_lt hs) (fun e => by obtain ⟨o, ho, hc⟩ := hr B e.symm; rw [hs] at ho; cases ho; cases hc)).trans hs
def lstep (t n : Int) (x : Str) : Int := wrap64 (n + wrap64 (max 0 (wrap64 (min t x.to_ - x.fr)) * x.sp))
def lenF (t : Int) (l : List Str) : Int := l.foldl (lstep t) 0
theorem lenF_snoc (t : Int) (l : List Str) (x : Str) : lenF t (l ++ [x]) = lstep t (lenF t l) x := by simp [lenF]
theorem name_act {F : Fence} {n : Nat} {P : Program} {c : Code} {Q : Exit → Act → World → Prop} {a : Act} {w : World} (h : ∀ T, T = a → c.wpIn F n P Q T w) : c.wpIn F n P Q a w := h a rfl
def strC (x : Str) : Array Value := #[.int .i64 x.fr, .int .i64 x.to_, .int .i64 x.p.f0, .int .i64 x.p.f1, .int .i64 x.p.f2, .int .i64 x.p.f3, .int .i64 x.p.f4, .int .i64 x.sp]
set_option maxHeartbeats 4000000 in
set_option maxRecDepth 100000 in
theorem length_calls (c : Cs) (a : CsA) (P : List S77) (w : World) (hc : CsC w c a) (hph : phF c = (P, 0)) (hlp : P.length ≤ 100) (hls : c.sw.length ≤ 100) (hlq : c.pac.length ≤ 100) (ht : 0 ≤ c.en) (hlen : lenF c.en (US c P) ≤ 17179869184) :
    Calls Try.prog 8 #[.agg (csV c a), .int .i64 c.en] w fun e w' => e = .returned (.tuple #[.int .i64 (lenF c.en (US c P)), .int .i64 0]) ∧ Below w.heap.size w w' := by
  have HC := Aside0.mk hc
  have HPH := Aside0.mk hph
  have HN := Aside0.mk (show P.length ≤ 100 ∧ c.sw.length ≤ 100 ∧ c.pac.length ≤ 100 from ⟨hlp, hls, hlq⟩)
  have HLEN := Aside0.mk hlen
  have p1 := eq_false (show ¬ c.en < 0 by omega)
  have p2 := eq_false (show ¬ c.en > c.en by omega)
  have p3 := eq_false (show ¬ c.en < c.en by omega)
  clear hc hph hlp hls hlq ht hlen
  obtain ⟨X2, y2, X3, y3, X4, y4⟩ := a
  unfold csV
  refine (callsIn_wide (n := 100)).1 ?_
  refine callsIn_of_wp_marks Try.func8 rfl trivial ?_ rfl
  simp only [Try.ntmps8, List.size_toArray, List.length_cons, List.length_nil, Nat.reduceAdd, Nat.reduceSub, Array.replicate_succ, Array.replicate_zero, List.push_toArray, List.append_toArray, List.nil_append, List.cons_append]
  refine wpIn_wide.2 ?_
  go_wp2_with (first
      | ((with_reducible refine gate_dst (N := 2) rfl ?_); go_must (refine box_event ?hg (N := 2) ?hd (cs := #[.int .i64 c.th, .int .i64 c.cl, .slice X2 c.acts.length y2, .slice X3 c.pac.length y3, .slice X4 c.sw.length y4, .int .i64 c.en]) (t := 28) ?hr ?_; (case hd => rfl); (case hg => rfl); (case hr => first | (go_simp; done) | (go_simp; rfl)); intro g2 hg w1 hbox hb; have BK2 := Aside0.mk hbox; have HB := Aside0.mk hb; have HCC := Aside0.mk (HC.out.below hb); have x0 : w1.cell? ⟨g2, 0, none⟩ = some (.int .i64 c.th) := (blk_cell BK2.out 0).trans rfl; have x1 : w1.cell? ⟨g2, 1, none⟩ = some (.int .i64 c.cl) := (blk_cell BK2.out 1).trans rfl; have x2 : w1.cell? ⟨g2, 2, none⟩ = some (.slice X2 c.acts.length y2) := (blk_cell BK2.out 2).trans rfl; have x3 : w1.cell? ⟨g2, 3, none⟩ = some (.slice X3 c.pac.length y3) := (blk_cell BK2.out 3).trans rfl; have x4 : w1.cell? ⟨g2, 4, none⟩ = some (.slice X4 c.sw.length y4) := (blk_cell BK2.out 4).trans rfl; have x5 : w1.cell? ⟨g2, 5, none⟩ = some (.int .i64 c.en) := (blk_cell BK2.out 5).trans rfl; clear hbox hb hg HC))
      | ((with_reducible refine gate_dst (N := 3) rfl ?_); go_must (refine box_event ?hg (N := 3) ?hd (cs := #[.int .i64 c.en]) (t := 3) ?hr ?_; (case hd => rfl); (case hg => rfl); (case hr => first | (go_simp; done) | (go_simp; rfl)); intro g3 hg w2 hbox hb; have BK3 := Aside0.mk hbox; have nHB := Aside0.mk (below_step HB.out hb); have nBK2 := Aside0.mk (blk_below BK2.out hb); have nHCC := Aside0.mk (HCC.out.below hb); clear x0 x1 x2 x3 x4 x5; clear HB; clear BK2; clear HCC; have HB := nHB; clear nHB; have BK2 := nBK2; clear nBK2; have HCC := nHCC; clear nHCC; have x0 : w2.cell? ⟨g2, 0, none⟩ = some (.int .i64 c.th) := (blk_cell BK2.out 0).trans rfl; have x1 : w2.cell? ⟨g2, 1, none⟩ = some (.int .i64 c.cl) := (blk_cell BK2.out 1).trans rfl; have x2 : w2.cell? ⟨g2, 2, none⟩ = some (.slice X2 c.acts.length y2) := (blk_cell BK2.out 2).trans rfl; have x3 : w2.cell? ⟨g2, 3, none⟩ = some (.slice X3 c.pac.length y3) := (blk_cell BK2.out 3).trans rfl; have x4 : w2.cell? ⟨g2, 4, none⟩ = some (.slice X4 c.sw.length y4) := (blk_cell BK2.out 4).trans rfl; have x5 : w2.cell? ⟨g2, 5, none⟩ = some (.int .i64 c.en) := (blk_cell BK2.out 5).trans rfl; clear hbox hb hg))
      | (go_at_call 11; go_must (refine (phases_calls c ⟨X2, y2, X3, y3, X4, y4⟩ _ HCC.out (by have := HN.out; omega) (by have := HN.out; omega)).mono ?_; rw [HPH.out]; rintro e w3 ⟨v0, rfl, hr, hb⟩; obtain ⟨Ap, cp, rfl, hcp, hC⟩ := Kd.R_reads hr; have HPC := Aside0.mk (show PhC w3 P Ap cp from ⟨hC, hcp⟩); clear hr hC hcp; have nHB := Aside0.mk (below_step HB.out hb); have nBK2 := Aside0.mk (blk_below BK2.out hb); have nHCC := Aside0.mk (HCC.out.below hb); have nBK3 := Aside0.mk (blk_below BK3.out hb); clear x0 x1 x2 x3 x4 x5; clear HB; clear BK2; clear HCC; clear BK3; have HB := nHB; clear nHB; have BK2 := nBK2; clear nBK2; have HCC := nHCC; clear nHCC; have BK3 := nBK3; clear nBK3; have x0 : w3.cell? ⟨g2, 0, none⟩ = some (.int .i64 c.th) := (blk_cell BK2.out 0).trans rfl; have x1 : w3.cell? ⟨g2, 1, none⟩ = some (.int .i64 c.cl) := (blk_cell BK2.out 1).trans rfl; have x2 : w3.cell? ⟨g2, 2, none⟩ = some (.slice X2 c.acts.length y2) := (blk_cell BK2.out 2).trans rfl; have x3 : w3.cell? ⟨g2, 3, none⟩ = some (.slice X3 c.pac.length y3) := (blk_cell BK2.out 3).trans rfl; have x4 : w3.cell? ⟨g2, 4, none⟩ = some (.slice X4 c.sw.length y4) := (blk_cell BK2.out 4).trans rfl; have x5 : w3.cell? ⟨g2, 5, none⟩ = some (.int .i64 c.en) := (blk_cell BK2.out 5).trans rfl; have f3 : w3.cell? ⟨g3, 0, none⟩ = some (.int .i64 c.en) := (blk_cell BK3.out 0).trans rfl; have HC0 := Aside0.mk HCC.out; have HP0 := Aside0.mk HPC.out; have B20 := Aside0.mk BK2.out; have B30 := Aside0.mk BK3.out; have HB0 := Aside0.mk HB.out; clear HCC HPC BK2 BK3 HB; clear hb))
      | ((with_reducible refine gate_dst (N := 8) rfl ?_); go_must (refine box_event ?hg (N := 8) ?hd (cs := #[.int .i64 0]) (t := 3) ?hr ?_; (case hd => rfl); (case hg => rfl); (case hr => first | (go_simp; done) | (go_simp; rfl)); intro g8 hg w4 hbox hb; have BK8 := Aside0.mk hbox; have HZ := Aside0.mk hb; have HG8 := Aside0.mk (show w3.heap.size ≤ g8 from Nat.le_of_eq hg.symm); have y0 : w4.cell? ⟨g8, 0, none⟩ = some (.int .i64 0) := (blk_cell hbox 0).trans rfl; have z0 := blk_frozen hbox 0; clear hbox hg hb f3 x0 x1 x2 x3 x4 x5))
      | ((with_reducible refine gate_store (t := 3) (p := 8) rfl ?_); go_must (refine store_event (t := 3) (p := 8) (v := ?vo_w5_8) (w1 := (w4.setCell ⟨g8, 0, none⟩ (.int .i64 0))) ?hg ?ho ?hn ?hr ?_; (case ho => rfl); (case hg => rfl); (case hn => rfl); (case hr => first | (go_simp; done) | (go_simp; rfl)); intro w5 hw; have nBK8 := Aside0.mk (show w5.heap[g8]? = some (.cells #[.int .i64 0] 3 (0, 0)) from (by rw [hw]; exact put_one BK8.out)); have nHZ := Aside0.mk (show Below w3.heap.size w3 w5 from (by rw [hw]; exact HZ.out.setCell HG8.out _)); clear BK8; clear HZ; have BK8 := nBK8; clear nBK8; have HZ := nHZ; clear nHZ; clear hw y0 z0; have BK2 := Aside0.mk (blk_below B20.out HZ.out); have x0 : w5.cell? ⟨g2, 0, none⟩ = some (.int .i64 c.th) := (blk_cell BK2.out 0).trans rfl; have x1 : w5.cell? ⟨g2, 1, none⟩ = some (.int .i64 c.cl) := (blk_cell BK2.out 1).trans rfl; have x2 : w5.cell? ⟨g2, 2, none⟩ = some (.slice X2 c.acts.length y2) := (blk_cell BK2.out 2).trans rfl; have x3 : w5.cell? ⟨g2, 3, none⟩ = some (.slice X3 c.pac.length y3) := (blk_cell BK2.out 3).trans rfl; have x4 : w5.cell? ⟨g2, 4, none⟩ = some (.slice X4 c.sw.length y4) := (blk_cell BK2.out 4).trans rfl; have x5 : w5.cell? ⟨g2, 5, none⟩ = some (.int .i64 c.en) := (blk_cell BK2.out 5).trans rfl; clear BK2))
      | (go_at_call 12; go_must (refine (made_calls c ⟨X2, y2, X3, y3, X4, y4⟩ P Ap cp _ (HC0.out.below HZ.out) (HP0.out.below HZ.out) HN.out.1 HN.out.2.1 HN.out.2.2).mono ?_; rintro e w6 ⟨gh, gc, gp, Ah, chc, rfl, hS, hG, hb⟩; have HS := Aside0.mk hS; have HG := Aside0.mk hG; have HZ6 := Aside0.mk (HZ.out.trans (hb.mono HZ.out.size)); have nBK8 := Aside0.mk (blk_below BK8.out hb); have HG8b := Aside0.mk (show g8 < w5.heap.size from blk_lt BK8.out); clear BK8; have BK8 := nBK8; clear nBK8; clear hS hG hb x0 x1 x2 x3 x4 x5)))
  refine (wpIn_wide (n := 100)).1 ?_
  refine name_act ?_
  intro T hT
  have HT := Aside0.mk hT
  clear hT
  have HG3 := Aside0.mk (show g3 < w3.heap.size from blk_lt B30.out)
  have HSZ := Aside0.mk (show w.heap.size ≤ w3.heap.size ∧ w3.heap.size ≤ w6.heap.size ∧ g8 < w6.heap.size from ⟨HB0.out.size, HZ6.out.size, blk_lt BK8.out⟩)
  refine wpIn_rangeFunc_ownH (F := Fence.wide) rfl (by decide) (gf := 24) (lb := #[.pointer (some ⟨gh, 0, none⟩), .pointer (some ⟨gc, 0, none⟩), .pointer (some ⟨gp, 0, none⟩)]) (by rw [HT.out]; rfl) trivial (enters_of Try.func24 (by kernel_rfl) rfl)
    (str_seq (100 - 1) w5.heap.size gh gc gp cp chc w3 w6 c _ P Ap Ah HN.out.1 HN.out.2.1 HN.out.2.2 HC0.out HP0.out HZ6.out HS.out HG.out) KqI.trans (KqI.put HSZ.out.2.1 (Nat.le_refl _)) (Below.refl _ _) (fun _ => rfl)
    (fun pre W => (Boxed W g8 3 (.int .i64 (lenF c.en pre)) ∧ Boxed W g3 3 (.int .i64 c.en)) ∧ Below w.heap.size w6 W)
    (fun _ _ _ => False)
    (OwnFrom.and (OwnFrom.and (Own.from (boxed_own _ _ (fun pre => Value.int .i64 (lenF c.en pre))) _) (Own.from (boxed_own _ _ (fun _ => Value.int .i64 c.en)) _)) (ownFrom_below (Nat.le_trans HSZ.out.1 HSZ.out.2.1) (Nat.le_trans HSZ.out.1 HSZ.out.2.1)))
    (fun _ _ _ _ _ hs _ _ => hs)
    ⟨⟨BK8.out, blk_below B30.out HZ6.out⟩, Below.refl _ _⟩
    (fun x a' W => ∃ Bx, (W.heap[Bx]? = some (.cells (strC x) 62 (0, 0)) ∧ w6.heap.size ≤ Bx) ∧ a' = { tmps := (T.tmps.setIfInBounds 29 (.agg (strC x))).setIfInBounds 9 (.pointer (some ⟨Bx, 0, none⟩)), defers := [] })
    (fun x a' s X Y row hs hg hr => by obtain ⟨Bx, h1, h3⟩ := hs; exact ⟨Bx, ⟨blk_own (β := Unit) Bx 62 (fun _ => strC x) () X Y row h1.1 hg (fun r e => (hr r e).2), h1.2⟩, h3⟩)
    ?assign ?body ?done ?stop
  case assign =>
    rintro l pre x W K ⟨⟨b8, b3⟩, hB1⟩ hK
    simp only [List.zip_toArray, encS, List.zip_cons_cons, List.zip_nil_right, List.foldl_toArray, List.foldl_cons, List.foldl_nil]
    rw [HT.out]
    simp only [List.setIfInBounds_toArray, List.set_cons_zero, List.set_cons_succ]
    gi_wp2
    exact hK _ _ ((KeepsOthers.alloc _ _).from _) (KqI.of ((Below.refl _ W).alloc hB1.size _) HSZ.out.2.1) ⟨⟨b8.alloc _, b3.alloc _⟩, hB1.alloc (Nat.le_trans (Nat.le_trans HSZ.out.1 HSZ.out.2.1) hB1.size) _⟩ ⟨W.heap.size, ⟨World.alloc_heap_new W _, hB1.size⟩, by rw [HT.out]; rfl⟩
  case body =>
    rintro l pre x a' W hl ⟨r, hr⟩ ⟨⟨b8, b3⟩, hB1⟩ ⟨Bx, ⟨hX, hXs⟩, rfl⟩ hlt
    rw [HT.out]
    simp only [List.setIfInBounds_toArray, List.set_cons_zero, List.set_cons_succ]
    have c8 := b8.cell
    have f8 := b8.frozen
    have c3 := b3.cell
    have e0 : W.cell? ⟨Bx, 0, none⟩ = some (.int .i64 x.fr) := (blk_cell hX 0).trans rfl; have e1 : W.cell? ⟨Bx, 1, none⟩ = some (.int .i64 x.to_) := (blk_cell hX 1).trans rfl; have e7 : W.cell? ⟨Bx, 7, none⟩ = some (.int .i64 x.sp) := (blk_cell hX 7).trans rfl
    gi_wp2
    exact ⟨(KeepsOthers.setCell _ _ _).from _, (KqI.refl _ _ _ _).set _ HG8.out (.inl HG8b.out), ⟨⟨by rw [lenF_snoc]; exact b8.set _, b3.other (by have := HG8.out; have := HG3.out; omega) _⟩, hB1.setCell (Nat.le_trans HSZ.out.1 HG8.out) _⟩⟩
  case done =>
    rintro D ys W hD rfl ⟨⟨b8, b3⟩, hB1⟩ hK
    have c8 := b8.cell
    rw [HT.out]
    have p4 := eq_false (show ¬ lenF c.en (US c P) > 17179869184 by have := HLEN.out; omega)
    have p5 := eq_false (show ¬ 17179869184 < lenF c.en (US c P) by have := HLEN.out; omega)
    go_wp2
    refine ⟨by simp, .inl ⟨_, _, rfl, run_takeDeferred hK, ?_⟩⟩
    exact ⟨.tuple #[.int .i64 (lenF c.en (US c P)), .int .i64 0], by simp [results, Try.results8, go_sem], rfl, (HB0.out.trans (HZ6.out.mono HB0.out.size)).trans (hB1.trans (belowK_b (w := w6) (Nat.le_trans HSZ.out.1 HSZ.out.2.1) W D _ _ hD hK rfl rfl))⟩
  case stop =>
    rintro D c pre W _ _ h _
    exact h.elim
end Go.Proofs.Ytebifddfgimnlaa.Rl
end
section
/- When. -/
namespace Go.Proofs.Ytebifddfgimnlaa.Rl
open Go.RowKit Go.Proofs.Ytebifddfgimnlaa.PX Go.Proofs.Ytebifddfgimnlaa.Rd Go.Proofs.YtebifddfgimnlaaW.PrintWords Go.Proofs.YtebifddfgimnlaaW.PrintLast
attribute [local go_sem] Oper.semAt_some
set_option linter.unusedVariables false
set_option linter.unusedSimpArgs false
theorem anyIn {P : Program} {ops : Array Oper} {Q : Exit → Act → World → Prop} {md : Region.Mode} (ro : Option Nat) (n : Nat) (hno : ¬ LetsOut Q) (hd : ops.all noDefer = true) : ∀ (fuel : Nat) (listed : Array Bool) (a : Act) (w : World), wpAny P md ops Q fuel listed a w → wpAnyIn (wideAt ro) n P md ops Q fuel listed a w := by
  intro fuel
  induction fuel with
  | zero => intro listed a w h; exact h
  | succ fuel ih =>
    intro listed a w h
    refine ⟨h.1, fun i hi => ?_⟩
    have h2 := h.2 i hi
    unfold wpOp at h2
    unfold wpOpIn
    cases ho : ops[i]? with
    | none => rw [ho] at h2; exact ih _ _ _ h2
    | some o =>
      rw [ho] at h2
      dsimp only at h2 ⊢
      have hdo : noDefer o = true := by
        have := Array.all_eq_true.1 hd
        obtain ⟨hlt, he⟩ := Array.getElem?_eq_some_iff.1 ho
        have h3 := this i hlt
        rw [he] at h3
        exact h3
      split
      · rename_i hw
        rw [if_pos hw] at h2
        rcases h2 with h2 | h2
        · exact operIn ro n hdo (fun a w h3 => ih _ _ _ h3) h2
        · exact absurd h2.2 hno
      · rename_i hw
        rw [if_neg hw] at h2
        exact ⟨fun _ _ => trivial, ih _ _ _ h2⟩
/-- A region that draws its order, in a round. -/
theorem regionIn_held {P : Program} {id : Nat} {ops : Array Oper} {Q : Exit → Act → World → Prop} {a : Act} {w : World} {S : World → Prop} (ro : Option Nat) (n : Nat) (hno : ¬ LetsOut Q) (hd : ops.all noDefer = true) (hm : P.follows .mixedOrders = true) (hS : S w.drew)
    (h : S w.drew → wpAnyH P .any ops Q S ops.size (Array.replicate ops.size false) a w.drew) : (Code.region id ops true).wpIn (wideAt ro) n P Q a w :=
  wpIn_region_any hm (anyIn ro n hno hd _ _ _ _ (wpAny_of_held _ _ _ _ (h hS)))
theorem w64 (x : Int) : IntKind.i64.wrap x = wrap64 x := by rw [IntKind.wrap_i64]; unfold wrap64; rfl
def moreS (s : Str) : Int := wrap64 (wrap64 (s.to_ - s.fr) * s.sp)
def sumW (l : List Str) : Int := l.foldl (fun n s => wrap64 (n + moreS s)) 0
theorem sumW_snoc (l : List Str) (x : Str) : sumW (l ++ [x]) = wrap64 (sumW l + moreS x) := by simp [sumW]
/-- The moment of a millimetre, n having been made before. -/
def whF (x : Int) : List Str → Int → Option Int
  | [], _ => none
  | s :: l, n => if wrap64 (n + moreS s) ≤ x then whF x l (wrap64 (n + moreS s)) else some (wrap64 (s.fr + wrap64 (Int.tdiv (wrap64 (x - n)) s.sp)))
theorem whF_snoc (x : Int) (s : Str) : ∀ (l : List Str) (n : Int), whF x l n = none → whF x (l ++ [s]) n = if wrap64 (l.foldl (fun n s => wrap64 (n + moreS s)) n + moreS s) ≤ x then none else some (wrap64 (s.fr + wrap64 (Int.tdiv (wrap64 (x - l.foldl (fun n s => wrap64 (n + moreS s)) n)) s.sp))) := by
  intro l
  induction l with
  | nil => intro n _; rfl
  | cons a l ih =>
    intro n h
    unfold whF at h
    rw [List.cons_append]
    unfold whF
    by_cases c : wrap64 (n + moreS a) ≤ x
    · rw [if_pos c] at h ⊢
      exact ih _ h
    · rw [if_neg c] at h
      cases h
theorem whF_pre (x v : Int) : ∀ (l m : List Str) (n : Int), whF x l n = some v → whF x (l ++ m) n = some v := by
  intro l
  induction l with
  | nil => intro m n h; cases h
  | cons a l ih =>
    intro m n h
    unfold whF at h
    rw [List.cons_append]
    unfold whF
    by_cases c : wrap64 (n + moreS a) ≤ x
    · rw [if_pos c] at h ⊢
      exact ih _ _ h
    · rw [if_neg c] at h ⊢
      exact h
set_option maxHeartbeats 4000000 in
set_option maxRecDepth 100000 in
theorem when_calls (c : Cs) (a : CsA) (P : List S77) (xx v : Int) (w : World) (hc : CsC w c a) (hph : phF c = (P, 0)) (hlp : P.length ≤ 100) (hls : c.sw.length ≤ 100) (hlq : c.pac.length ≤ 100) (hx0 : 0 ≤ xx) (hx1 : xx < 17179869184) (hv : whF xx (US c P) 0 = some v) :
    Calls Try.prog 9 #[.agg (csV c a), .int .i64 xx] w fun e w' => e = .returned (.tuple #[.int .i64 v, .int .i64 0]) ∧ Below w.heap.size w w' := by
  have HC := Aside0.mk hc
  have HPH := Aside0.mk hph
  have HN := Aside0.mk (show P.length ≤ 100 ∧ c.sw.length ≤ 100 ∧ c.pac.length ≤ 100 from ⟨hlp, hls, hlq⟩)
  have HV := Aside0.mk hv
  have p1 := eq_false (show ¬ xx < 0 by omega)
  have p2 := eq_false (show ¬ xx ≥ 17179869184 by omega)
  have p3 := eq_false (show ¬ 17179869184 ≤ xx by omega)
  clear hc hph hlp hls hlq hx0 hx1 hv
  obtain ⟨X2, y2, X3, y3, X4, y4⟩ := a
  unfold csV
  refine (callsIn_wide (n := 100)).1 ?_
  refine callsIn_of_wp_marks Try.func9 rfl trivial ?_ rfl
  simp only [Try.ntmps9, List.size_toArray, List.length_cons, List.length_nil, Nat.reduceAdd, Nat.reduceSub, Array.replicate_succ, Array.replicate_zero, List.push_toArray, List.append_toArray, List.nil_append, List.cons_append]
  refine wpIn_wide.2 ?_
  go_wp2_with (first
      | ((with_reducible refine gate_dst (N := 2) rfl ?_); go_must (refine box_event ?hg (N := 2) ?hd (cs := #[.int .i64 c.th, .int .i64 c.cl, .slice X2 c.acts.length y2, .slice X3 c.pac.length y3, .slice X4 c.sw.length y4, .int .i64 c.en]) (t := 28) ?hr ?_; (case hd => rfl); (case hg => rfl); (case hr => first | (go_simp; done) | (go_simp; rfl)); intro g2 hg w1 hbox hb; have BK2 := Aside0.mk hbox; have HB := Aside0.mk hb; have HCC := Aside0.mk (HC.out.below hb); have x0 : w1.cell? ⟨g2, 0, none⟩ = some (.int .i64 c.th) := (blk_cell BK2.out 0).trans rfl; have x1 : w1.cell? ⟨g2, 1, none⟩ = some (.int .i64 c.cl) := (blk_cell BK2.out 1).trans rfl; have x2 : w1.cell? ⟨g2, 2, none⟩ = some (.slice X2 c.acts.length y2) := (blk_cell BK2.out 2).trans rfl; have x3 : w1.cell? ⟨g2, 3, none⟩ = some (.slice X3 c.pac.length y3) := (blk_cell BK2.out 3).trans rfl; have x4 : w1.cell? ⟨g2, 4, none⟩ = some (.slice X4 c.sw.length y4) := (blk_cell BK2.out 4).trans rfl; have x5 : w1.cell? ⟨g2, 5, none⟩ = some (.int .i64 c.en) := (blk_cell BK2.out 5).trans rfl; clear hbox hb hg HC))
      | ((with_reducible refine gate_dst (N := 3) rfl ?_); go_must (refine box_event ?hg (N := 3) ?hd (cs := #[.int .i64 xx]) (t := 3) ?hr ?_; (case hd => rfl); (case hg => rfl); (case hr => first | (go_simp; done) | (go_simp; rfl)); intro g3 hg w2 hbox hb; have BK3 := Aside0.mk hbox; have nHB := Aside0.mk (below_step HB.out hb); have nBK2 := Aside0.mk (blk_below BK2.out hb); have nHCC := Aside0.mk (HCC.out.below hb); clear x0 x1 x2 x3 x4 x5; clear HB; clear BK2; clear HCC; have HB := nHB; clear nHB; have BK2 := nBK2; clear nBK2; have HCC := nHCC; clear nHCC; have x0 : w2.cell? ⟨g2, 0, none⟩ = some (.int .i64 c.th) := (blk_cell BK2.out 0).trans rfl; have x1 : w2.cell? ⟨g2, 1, none⟩ = some (.int .i64 c.cl) := (blk_cell BK2.out 1).trans rfl; have x2 : w2.cell? ⟨g2, 2, none⟩ = some (.slice X2 c.acts.length y2) := (blk_cell BK2.out 2).trans rfl; have x3 : w2.cell? ⟨g2, 3, none⟩ = some (.slice X3 c.pac.length y3) := (blk_cell BK2.out 3).trans rfl; have x4 : w2.cell? ⟨g2, 4, none⟩ = some (.slice X4 c.sw.length y4) := (blk_cell BK2.out 4).trans rfl; have x5 : w2.cell? ⟨g2, 5, none⟩ = some (.int .i64 c.en) := (blk_cell BK2.out 5).trans rfl; clear hbox hb hg))
      | ((with_reducible refine gate_dst (N := 4) rfl ?_); go_must (refine box_event ?hg (N := 4) ?hd (cs := #[.int .i64 0]) (t := 3) ?hr ?_; (case hd => rfl); (case hg => rfl); (case hr => first | (go_simp; done) | (go_simp; rfl)); intro g4 hg w2a hbox hb; have HN4 := Aside0.mk (show g3 < g4 ∧ w.heap.size ≤ g4 from ⟨by rw [hg]; exact blk_lt BK3.out, by rw [hg]; exact HB.out.size⟩); have BK4 := Aside0.mk hbox; have nHB := Aside0.mk (below_step HB.out hb); have nBK2 := Aside0.mk (blk_below BK2.out hb); have nHCC := Aside0.mk (HCC.out.below hb); have nBK3 := Aside0.mk (blk_below BK3.out hb); clear x0 x1 x2 x3 x4 x5; clear HB; clear BK2; clear HCC; clear BK3; have HB := nHB; clear nHB; have BK2 := nBK2; clear nBK2; have HCC := nHCC; clear nHCC; have BK3 := nBK3; clear nBK3; have x0 : w2a.cell? ⟨g2, 0, none⟩ = some (.int .i64 c.th) := (blk_cell BK2.out 0).trans rfl; have x1 : w2a.cell? ⟨g2, 1, none⟩ = some (.int .i64 c.cl) := (blk_cell BK2.out 1).trans rfl; have x2 : w2a.cell? ⟨g2, 2, none⟩ = some (.slice X2 c.acts.length y2) := (blk_cell BK2.out 2).trans rfl; have x3 : w2a.cell? ⟨g2, 3, none⟩ = some (.slice X3 c.pac.length y3) := (blk_cell BK2.out 3).trans rfl; have x4 : w2a.cell? ⟨g2, 4, none⟩ = some (.slice X4 c.sw.length y4) := (blk_cell BK2.out 4).trans rfl; have x5 : w2a.cell? ⟨g2, 5, none⟩ = some (.int .i64 c.en) := (blk_cell BK2.out 5).trans rfl; clear hbox hb hg))
      | ((with_reducible refine gate_dst (N := 5) rfl ?_); go_must (refine box_event ?hg (N := 5) ?hd (cs := #[.int .i64 0]) (t := 32) ?hr ?_; (case hd => rfl); (case hg => rfl); (case hr => first | (go_simp; done) | (go_simp; rfl)); intro g5 hg w2b hbox hb; have BK5 := Aside0.mk hbox; have HN5 := Aside0.mk (show g4 < g5 ∧ w.heap.size ≤ g5 from ⟨by rw [hg]; exact blk_lt BK4.out, by rw [hg]; exact HB.out.size⟩); have nHB := Aside0.mk (below_step HB.out hb); have nBK2 := Aside0.mk (blk_below BK2.out hb); have nHCC := Aside0.mk (HCC.out.below hb); have nBK3 := Aside0.mk (blk_below BK3.out hb); have nBK4 := Aside0.mk (blk_below BK4.out hb); clear x0 x1 x2 x3 x4 x5; clear HB; clear BK2; clear HCC; clear BK3; clear BK4; have HB := nHB; clear nHB; have BK2 := nBK2; clear nBK2; have HCC := nHCC; clear nHCC; have BK3 := nBK3; clear nBK3; have BK4 := nBK4; clear nBK4; have x0 : w2b.cell? ⟨g2, 0, none⟩ = some (.int .i64 c.th) := (blk_cell BK2.out 0).trans rfl; have x1 : w2b.cell? ⟨g2, 1, none⟩ = some (.int .i64 c.cl) := (blk_cell BK2.out 1).trans rfl; have x2 : w2b.cell? ⟨g2, 2, none⟩ = some (.slice X2 c.acts.length y2) := (blk_cell BK2.out 2).trans rfl; have x3 : w2b.cell? ⟨g2, 3, none⟩ = some (.slice X3 c.pac.length y3) := (blk_cell BK2.out 3).trans rfl; have x4 : w2b.cell? ⟨g2, 4, none⟩ = some (.slice X4 c.sw.length y4) := (blk_cell BK2.out 4).trans rfl; have x5 : w2b.cell? ⟨g2, 5, none⟩ = some (.int .i64 c.en) := (blk_cell BK2.out 5).trans rfl; clear hbox hb hg))
      | (go_at_call 11; go_must (refine (phases_calls c ⟨X2, y2, X3, y3, X4, y4⟩ _ HCC.out (by have := HN.out; omega) (by have := HN.out; omega)).mono ?_; rw [HPH.out]; rintro e w3 ⟨v0, rfl, hr, hb⟩; obtain ⟨Ap, cp, rfl, hcp, hC⟩ := Kd.R_reads hr; have HPC := Aside0.mk (show PhC w3 P Ap cp from ⟨hC, hcp⟩); clear hr hC hcp; have nHB := Aside0.mk (below_step HB.out hb); have nBK2 := Aside0.mk (blk_below BK2.out hb); have nHCC := Aside0.mk (HCC.out.below hb); have nBK3 := Aside0.mk (blk_below BK3.out hb); have nBK4 := Aside0.mk (blk_below BK4.out hb); have nBK5 := Aside0.mk (blk_below BK5.out hb); clear x0 x1 x2 x3 x4 x5; clear HB; clear BK2; clear HCC; clear BK3; clear BK4; clear BK5; have HB := nHB; clear nHB; have BK2 := nBK2; clear nBK2; have HCC := nHCC; clear nHCC; have BK3 := nBK3; clear nBK3; have BK4 := nBK4; clear nBK4; have BK5 := nBK5; clear nBK5; have x0 : w3.cell? ⟨g2, 0, none⟩ = some (.int .i64 c.th) := (blk_cell BK2.out 0).trans rfl; have x1 : w3.cell? ⟨g2, 1, none⟩ = some (.int .i64 c.cl) := (blk_cell BK2.out 1).trans rfl; have x2 : w3.cell? ⟨g2, 2, none⟩ = some (.slice X2 c.acts.length y2) := (blk_cell BK2.out 2).trans rfl; have x3 : w3.cell? ⟨g2, 3, none⟩ = some (.slice X3 c.pac.length y3) := (blk_cell BK2.out 3).trans rfl; have x4 : w3.cell? ⟨g2, 4, none⟩ = some (.slice X4 c.sw.length y4) := (blk_cell BK2.out 4).trans rfl; have x5 : w3.cell? ⟨g2, 5, none⟩ = some (.int .i64 c.en) := (blk_cell BK2.out 5).trans rfl; have f3 : w3.cell? ⟨g3, 0, none⟩ = some (.int .i64 xx) := (blk_cell BK3.out 0).trans rfl; have HC0 := Aside0.mk HCC.out; have HP0 := Aside0.mk HPC.out; have B20 := Aside0.mk BK2.out; have B30 := Aside0.mk BK3.out; have B40 := Aside0.mk BK4.out; have B50 := Aside0.mk BK5.out; have HB0 := Aside0.mk HB.out; clear HCC HPC BK2 BK3 BK4 BK5 HB; clear hb))
      | ((with_reducible refine gate_dst (N := 8) rfl ?_); go_must (refine box_event ?hg (N := 8) ?hd (cs := #[.int .i64 0]) (t := 3) ?hr ?_; (case hd => rfl); (case hg => rfl); (case hr => first | (go_simp; done) | (go_simp; rfl)); intro g8 hg w4 hbox hb; have BK8 := Aside0.mk hbox; have HZ := Aside0.mk hb; have HG8 := Aside0.mk (show w3.heap.size ≤ g8 from Nat.le_of_eq hg.symm); have y0 : w4.cell? ⟨g8, 0, none⟩ = some (.int .i64 0) := (blk_cell hbox 0).trans rfl; have z0 := blk_frozen hbox 0; clear hbox hg hb f3 x0 x1 x2 x3 x4 x5))
      | ((with_reducible refine gate_store (t := 3) (p := 8) rfl ?_); go_must (refine store_event (t := 3) (p := 8) (v := ?vo_w5_8) (w1 := (w4.setCell ⟨g8, 0, none⟩ (.int .i64 0))) ?hg ?ho ?hn ?hr ?_; (case ho => rfl); (case hg => rfl); (case hn => rfl); (case hr => first | (go_simp; done) | (go_simp; rfl)); intro w5 hw; have nBK8 := Aside0.mk (show w5.heap[g8]? = some (.cells #[.int .i64 0] 3 (0, 0)) from (by rw [hw]; exact put_one BK8.out)); have nHZ := Aside0.mk (show Below w3.heap.size w3 w5 from (by rw [hw]; exact HZ.out.setCell HG8.out _)); clear BK8; clear HZ; have BK8 := nBK8; clear nBK8; have HZ := nHZ; clear nHZ; clear hw y0 z0; have BK2 := Aside0.mk (blk_below B20.out HZ.out); have x0 : w5.cell? ⟨g2, 0, none⟩ = some (.int .i64 c.th) := (blk_cell BK2.out 0).trans rfl; have x1 : w5.cell? ⟨g2, 1, none⟩ = some (.int .i64 c.cl) := (blk_cell BK2.out 1).trans rfl; have x2 : w5.cell? ⟨g2, 2, none⟩ = some (.slice X2 c.acts.length y2) := (blk_cell BK2.out 2).trans rfl; have x3 : w5.cell? ⟨g2, 3, none⟩ = some (.slice X3 c.pac.length y3) := (blk_cell BK2.out 3).trans rfl; have x4 : w5.cell? ⟨g2, 4, none⟩ = some (.slice X4 c.sw.length y4) := (blk_cell BK2.out 4).trans rfl; have x5 : w5.cell? ⟨g2, 5, none⟩ = some (.int .i64 c.en) := (blk_cell BK2.out 5).trans rfl; clear BK2))
      | (go_at_call 12; go_must (refine (made_calls c ⟨X2, y2, X3, y3, X4, y4⟩ P Ap cp _ (HC0.out.below HZ.out) (HP0.out.below HZ.out) HN.out.1 HN.out.2.1 HN.out.2.2).mono ?_; rintro e w6 ⟨gh, gc, gp, Ah, chc, rfl, hS, hG, hb⟩; have HS := Aside0.mk hS; have HG := Aside0.mk hG; have HZ6 := Aside0.mk (HZ.out.trans (hb.mono HZ.out.size)); have nBK8 := Aside0.mk (blk_below BK8.out hb); have HG8b := Aside0.mk (show g8 < w5.heap.size from blk_lt BK8.out); clear BK8; have BK8 := nBK8; clear nBK8; clear hS hG hb x0 x1 x2 x3 x4 x5)))
  refine (wpIn_wide (n := 100)).1 ?_
  refine name_act ?_
  intro T hT
  have HT := Aside0.mk hT
  clear hT
  have HG3 := Aside0.mk (show g3 < w3.heap.size ∧ g4 < w3.heap.size ∧ g5 < w3.heap.size from ⟨blk_lt B30.out, blk_lt B40.out, blk_lt B50.out⟩)
  have HSZ := Aside0.mk (show w.heap.size ≤ w3.heap.size ∧ w3.heap.size ≤ w6.heap.size ∧ g8 < w6.heap.size from ⟨HB0.out.size, HZ6.out.size, blk_lt BK8.out⟩)
  obtain ⟨B0, hB0⟩ : ∃ B0, w3.heap.size = B0 := ⟨_, rfl⟩
  refine wpIn_rangeFunc_ownH (F := Fence.wide) rfl (by decide) (gf := 24) (lb := #[.pointer (some ⟨gh, 0, none⟩), .pointer (some ⟨gc, 0, none⟩), .pointer (some ⟨gp, 0, none⟩)]) (by rw [HT.out]; rfl) trivial (enters_of Try.func24 (by kernel_rfl) rfl)
    (str_seqP (100 - 1) w5.heap.size gh gc gp cp chc w3 w6 c _ P Ap Ah HN.out.1 HN.out.2.1 HN.out.2.2 HC0.out HP0.out HZ6.out HS.out HG.out) KqI.trans (KqI.put HSZ.out.2.1 (Nat.le_refl _)) (Below.refl _ _) (fun _ => rfl)
    (fun pre W => (Boxed W g8 3 (.int .i64 (sumW (pre.map (·.1)))) ∧ Boxed W g3 3 (.int .i64 xx) ∧ Boxed W g4 3 (.int .i64 0) ∧ Boxed W g5 32 (.int .i64 0)) ∧ Below w.heap.size w6 W ∧ whF xx (pre.map (·.1)) 0 = none)
    (fun c' pre W => c' = Code.ret ∧ ∃ u, Boxed W g4 3 (.int .i64 u) ∧ Boxed W g5 32 (.int .i64 0) ∧ Below w.heap.size w6 W ∧ whF xx (pre.map (·.1)) 0 = some u)
    (OwnFrom.and (OwnFrom.and (Own.from (boxed_own _ _ (fun pre : List StrP => Value.int .i64 (sumW (pre.map (·.1))))) _) (OwnFrom.and (Own.from (boxed_own _ _ (fun _ => Value.int .i64 xx)) _) (OwnFrom.and (Own.from (boxed_own _ _ (fun _ => Value.int .i64 0)) _) (Own.from (boxed_own _ _ (fun _ => Value.int .i64 0)) _)))) (OwnFrom.and (ownFrom_below (Nat.le_trans HSZ.out.1 HSZ.out.2.1) (Nat.le_trans HSZ.out.1 HSZ.out.2.1)) (fun _ _ _ _ hs _ _ => hs)))
    (fun c' s X Y row hs hg hr => by
      obtain ⟨e0, u, h4, h5, hB, hW⟩ := hs
      exact ⟨e0, u, Own.from (boxed_own (β := Unit) g4 3 (fun _ => Value.int .i64 u)) _ () X Y row h4 hg hr, Own.from (boxed_own (β := Unit) g5 32 (fun _ => Value.int .i64 0)) _ () X Y row h5 hg hr, ownFrom_below (β := Unit) (Nat.le_trans HSZ.out.1 HSZ.out.2.1) (Nat.le_trans HSZ.out.1 HSZ.out.2.1) () X Y row hB hg hr, hW⟩)
    ⟨⟨BK8.out, blk_below B30.out HZ6.out, blk_below B40.out HZ6.out, blk_below B50.out HZ6.out⟩, Below.refl _ _, rfl⟩
    (fun x a' W => ∃ Bx, (W.heap[Bx]? = some (.cells (strC x.1) 62 (0, 0)) ∧ w6.heap.size ≤ Bx) ∧ a' = { tmps := (T.tmps.setIfInBounds 28 (.agg (strC x.1))).setIfInBounds 9 (.pointer (some ⟨Bx, 0, none⟩)), defers := [] })
    (fun x a' s X Y row hs hg hr => by obtain ⟨Bx, h1, h3⟩ := hs; exact ⟨Bx, ⟨blk_own (β := Unit) Bx 62 (fun _ => strC x.1) () X Y row h1.1 hg (fun r e => (hr r e).2), h1.2⟩, h3⟩)
    ?assign ?body ?done ?stop
  case assign =>
    rintro l pre x W K ⟨⟨b8, b3, b4, b5⟩, hB1, hwn⟩ hK
    simp only [List.zip_toArray, encS, List.zip_cons_cons, List.zip_nil_right, List.foldl_toArray, List.foldl_cons, List.foldl_nil]
    rw [HT.out]
    simp only [List.setIfInBounds_toArray, List.set_cons_zero, List.set_cons_succ]
    gi_wp2
    exact hK _ _ ((KeepsOthers.alloc _ _).from _) (KqI.of ((Below.refl _ W).alloc hB1.size _) HSZ.out.2.1) ⟨⟨b8.alloc _, b3.alloc _, b4.alloc _, b5.alloc _⟩, hB1.alloc (Nat.le_trans (Nat.le_trans HSZ.out.1 HSZ.out.2.1) hB1.size) _, hwn⟩ ⟨W.heap.size, ⟨World.alloc_heap_new W _, hB1.size⟩, by rw [HT.out]; rfl⟩
  case body =>
    rintro l pre x a' W hl ⟨r, hr⟩ ⟨⟨b8, b3, b4, b5⟩, hB1, hwn⟩ ⟨Bx, ⟨hX, hXs⟩, rfl⟩ hlt
    rw [HT.out]
    simp only [List.setIfInBounds_toArray, List.set_cons_zero, List.set_cons_succ]
    have HX := Aside0.mk x.2
    have HWN := Aside0.mk (whF_snoc xx x.1 (pre.map (·.1)) 0 hwn)
    obtain ⟨sm, hsm⟩ : ∃ sm, sumW (pre.map (·.1)) = sm := ⟨_, rfl⟩
    have HSM := Aside0.mk (show sumW ((pre ++ [x]).map (·.1)) = wrap64 (sm + moreS x.1) from by rw [List.map_append, List.map_singleton, sumW_snoc, hsm])
    rw [hsm] at b8
    have HWN2 := Aside0.mk (show whF xx ((pre ++ [x]).map (·.1)) 0 = if wrap64 (sm + moreS x.1) ≤ xx then none else some (wrap64 (x.1.fr + wrap64 (Int.tdiv (wrap64 (xx - sm)) x.1.sp))) from by rw [List.map_append, ← hsm]; exact HWN.out)
    clear HWN hsm
    have c8 := b8.cell
    have f8 := b8.frozen
    have c3 := b3.cell
    have c4 := b4.cell
    have f4 := b4.frozen
    have c5 := b5.cell
    have f5 := b5.frozen
    have e0 : W.cell? ⟨Bx, 0, none⟩ = some (.int .i64 x.1.fr) := (blk_cell hX 0).trans rfl; have e1 : W.cell? ⟨Bx, 1, none⟩ = some (.int .i64 x.1.to_) := (blk_cell hX 1).trans rfl; have e7 : W.cell? ⟨Bx, 7, none⟩ = some (.int .i64 x.1.sp) := (blk_cell hX 7).trans rfl
    have q0 : (x.1.sp == 0) = false := beq_eq_false_iff_ne.2 (by have := HX.out; omega)
    have q1 : (x.1.sp = 0) = False := eq_false (by have := HX.out; omega)
    have n45 : g4 ≠ g5 := by have := HN5.out; omega
    have n54 : g5 ≠ g4 := by have := HN5.out; omega
    have hmix : Try.prog.follows .mixedOrders = true := by kernel_rfl
    gi_wp2
    · have hh : wrap64 (sm + moreS x.1) ≤ xx := by assumption
      exact ⟨(KeepsOthers.setCell _ _ _).from _, (KqI.refl _ _ _ _).set _ HG8.out (.inl HG8b.out), ⟨⟨by rw [HSM.out]; exact b8.set _, b3.other (by have := HG8.out; have := HG3.out; omega) _, b4.other (by have := HG8.out; have := HG3.out; omega) _, b5.other (by have := HG8.out; have := HG3.out; omega) _⟩, hB1.setCell (Nat.le_trans HSZ.out.1 HG8.out) _, HWN2.out.trans (if_pos hh)⟩⟩
    · rename_i hh
      have hh : ¬ wrap64 (sm + moreS x.1) ≤ xx := by unfold moreS; omega
      obtain ⟨u, hu⟩ : ∃ u, IntKind.i64.wrap (x.1.fr + IntKind.i64.wrap ((IntKind.i64.wrap (xx - sm)).tdiv x.1.sp)) = u := ⟨_, rfl⟩
      have HU := Aside0.mk (show whF xx ((pre ++ [x]).map (·.1)) 0 = some u from (HWN2.out.trans (if_neg hh)).trans (congrArg some (by rw [← hu]; simp only [w64])))
      refine regionIn_held (ro := some l) (S := (fun w' => w'.cell? ⟨Bx, 0, none⟩ = some (.int .i64 x.1.fr) ∧ w'.cell? ⟨Bx, 7, none⟩ = some (.int .i64 x.1.sp) ∧ w'.cell? ⟨g3, 0, none⟩ = some (.int .i64 xx) ∧ w'.cell? ⟨g8, 0, none⟩ = some (.int .i64 sm))) 98 (by rintro ⟨a_, w_, h_⟩; exact h_) (by kernel_rfl) (by kernel_rfl) ?_ (fun hHeld => ?_)
      · exact ⟨e0, e7, c3, c8⟩
      refine' tk_ (i := 0) ?ho_0 ?more_0
      case ho_0 => simp only [List.getElem?_toArray, List.getElem?_cons_succ, List.getElem?_cons_zero]; rfl
      refine ⟨by kernel_rfl, by kernel_rfl, by kernel_rfl, fun _ _ _ _ h => h, ?v_0, Or.inl ⟨by rfl, ?hy_0⟩, by assumption, ?rest_0⟩
      case hy_0 => intro w hSw; (try dsimp only at hSw); (go_simp <;> rfl)
      simp only [Act.put, List.setIfInBounds_toArray, List.set_cons_zero, List.set_cons_succ]
      refine' tk_ (i := 1) ?ho_1 ?more_1
      case ho_1 => simp only [List.getElem?_toArray, List.getElem?_cons_succ, List.getElem?_cons_zero]; rfl
      refine ⟨by kernel_rfl, by kernel_rfl, by kernel_rfl, fun _ _ _ _ h => h, ?v_1, Or.inl ⟨by rfl, ?hy_1⟩, by assumption, ?rest_1⟩
      case hy_1 => intro w hSw; (try dsimp only at hSw); (go_simp <;> rfl)
      simp only [Act.put, List.setIfInBounds_toArray, List.set_cons_zero, List.set_cons_succ]
      refine' tk_ (i := 2) ?ho_2 ?more_2
      case ho_2 => simp only [List.getElem?_toArray, List.getElem?_cons_succ, List.getElem?_cons_zero]; rfl
      refine ⟨by kernel_rfl, by kernel_rfl, by kernel_rfl, fun _ _ _ _ h => h, ?v_2, Or.inl ⟨by rfl, ?hy_2⟩, by assumption, ?rest_2⟩
      case hy_2 => intro w hSw; (try dsimp only at hSw); (go_simp <;> rfl)
      simp only [Act.put, List.setIfInBounds_toArray, List.set_cons_zero, List.set_cons_succ]
      refine' tk_ (i := 3) ?ho_3 ?more_3
      case ho_3 => simp only [List.getElem?_toArray, List.getElem?_cons_succ, List.getElem?_cons_zero]; rfl
      refine ⟨by kernel_rfl, by kernel_rfl, by kernel_rfl, fun _ _ _ _ h => h, ?v_3, Or.inl ⟨by rfl, ?hy_3⟩, by assumption, ?rest_3⟩
      case hy_3 => intro w hSw; (try dsimp only at hSw); (go_simp <;> rfl)
      simp only [Act.put, List.setIfInBounds_toArray, List.set_cons_zero, List.set_cons_succ]
      refine' tk_ (i := 4) ?ho_4 ?more_4
      case ho_4 => simp only [List.getElem?_toArray, List.getElem?_cons_succ, List.getElem?_cons_zero]; rfl
      refine ⟨by kernel_rfl, by kernel_rfl, by kernel_rfl, fun _ _ _ _ h => h, ?v_4, Or.inl ⟨by rfl, ?hy_4⟩, by assumption, ?rest_4⟩
      case hy_4 => intro w hSw; (try dsimp only at hSw); (go_simp <;> rfl)
      simp only [Act.put, List.setIfInBounds_toArray, List.set_cons_zero, List.set_cons_succ]
      refine' tk_ (i := 5) ?ho_5 ?more_5
      case ho_5 => simp only [List.getElem?_toArray, List.getElem?_cons_succ, List.getElem?_cons_zero]; rfl
      refine ⟨by kernel_rfl, by kernel_rfl, by kernel_rfl, fun _ _ _ _ h => h, ?v_5, Or.inl ⟨by rfl, ?hy_5⟩, by assumption, ?rest_5⟩
      case hy_5 => intro w hSw; (try dsimp only at hSw); (go_simp <;> rfl)
      simp only [Act.put, List.setIfInBounds_toArray, List.set_cons_zero, List.set_cons_succ]
      refine' tk_ (i := 6) ?ho_6 ?more_6
      case ho_6 => simp only [List.getElem?_toArray, List.getElem?_cons_succ, List.getElem?_cons_zero]; rfl
      refine ⟨by kernel_rfl, by kernel_rfl, by kernel_rfl, fun _ _ _ _ h => h, ?v_6, Or.inl ⟨by rfl, ?hy_6⟩, by assumption, ?rest_6⟩
      case hy_6 => intro w hSw; (try dsimp only at hSw); (go_simp <;> rfl)
      simp only [Act.put, List.setIfInBounds_toArray, List.set_cons_zero, List.set_cons_succ]
      refine' tk_ (i := 7) ?ho_7 ?more_7
      case ho_7 => simp only [List.getElem?_toArray, List.getElem?_cons_succ, List.getElem?_cons_zero]; rfl
      refine ⟨by kernel_rfl, by kernel_rfl, by kernel_rfl, fun _ _ _ _ h => h, ?v_7, Or.inl ⟨by rfl, ?hy_7⟩, by assumption, ?rest_7⟩
      case hy_7 => intro w hSw; (try dsimp only at hSw); (go_simp <;> rfl)
      simp only [Act.put, List.setIfInBounds_toArray, List.set_cons_zero, List.set_cons_succ]
      refine' tk_ (i := 8) ?ho_8 ?more_8
      case ho_8 => simp only [List.getElem?_toArray, List.getElem?_cons_succ, List.getElem?_cons_zero]; rfl
      refine ⟨by kernel_rfl, by kernel_rfl, by kernel_rfl, fun _ _ _ _ h => h, ?v_8, Or.inl ⟨by rfl, ?hy_8⟩, by assumption, ?rest_8⟩
      case hy_8 => intro w hSw; (try dsimp only at hSw); (go_simp <;> rfl)
      simp only [Act.put, List.setIfInBounds_toArray, List.set_cons_zero, List.set_cons_succ]
      refine' tk_ (i := 9) ?ho_9 ?more_9
      case ho_9 => simp only [List.getElem?_toArray, List.getElem?_cons_succ, List.getElem?_cons_zero]; rfl
      refine ⟨by kernel_rfl, by kernel_rfl, by kernel_rfl, fun _ _ _ _ h => h, ?v_9, Or.inl ⟨by rfl, ?hy_9⟩, by assumption, ?rest_9⟩
      case hy_9 => intro w hSw; (try dsimp only at hSw); (go_simp <;> rfl)
      simp only [Act.put, List.setIfInBounds_toArray, List.set_cons_zero, List.set_cons_succ]
      refine wpAnyH_ready (rs := [10]) (by kernel_rfl) (by simp) ?_
      refine' AllReadyH.cons ?hoA (fun K hK => ?stepA) (AllReadyH.nil)
      case hoA => simp only [List.getElem?_toArray, List.getElem?_cons_succ, List.getElem?_cons_zero]; rfl
      case stepA =>
        have y4 : W.drew.cell? ⟨g4, 0, none⟩ = some (.int .i64 0) := c4
        have z4 : W.drew.frozen? ⟨g4, 0, none⟩ = false := f4
        go_simp
        have hB4 : Boxed (W.setCell ⟨g4, 0, none⟩ (.int .i64 u)).drew g4 3 (.int .i64 u) := (Boxed.set _ b4 : Boxed (W.setCell ⟨g4, 0, none⟩ (.int .i64 u)) g4 3 (.int .i64 u))
        have hB5 : Boxed (W.setCell ⟨g4, 0, none⟩ (.int .i64 u)).drew g5 32 (.int .i64 0) := (Boxed.other b5 n54 _ : Boxed (W.setCell ⟨g4, 0, none⟩ (.int .i64 u)) g5 32 (.int .i64 0))
        have HR := Aside0.mk (show Below w.heap.size w6 (W.setCell ⟨g4, 0, none⟩ (.int .i64 u)).drew ∧ KeepsOthers W (W.setCell ⟨g4, 0, none⟩ (.int .i64 u)).drew from ⟨(hB1.setCell HN4.out.2 _).drew, (KeepsOthers.setCell _ _ _).trans (KeepsOthers.drew _)⟩)
        refine hK.out _ _ ?_ (fun hHeld4 => ?_)
        · have n1 : g4 ≠ Bx := by have := HG3.out; have := HSZ.out; omega
          have n2 : g4 ≠ g3 := by have := HN4.out; omega
          have n3 : g4 ≠ g8 := by have := HG3.out; have := HG8.out; omega
          exact ⟨(World.cell?_setCell_far _ _ _ _ n1).trans e0, (World.cell?_setCell_far _ _ _ _ n1).trans e7, (World.cell?_setCell_far _ _ _ _ n2).trans c3, (World.cell?_setCell_far _ _ _ _ n3).trans c8⟩
        clear hK K
        try simp only [Act.put, List.setIfInBounds_toArray, List.set_cons_zero, List.set_cons_succ]
        refine wpAnyH_ready (rs := [11]) (by kernel_rfl) (by simp) ?_
        refine' AllReadyH.cons ?hoB (fun K hK => ?stepB) (AllReadyH.nil)
        case hoB => simp only [List.getElem?_toArray, List.getElem?_cons_succ, List.getElem?_cons_zero]; rfl
        case stepB =>
          obtain ⟨W2, hW2⟩ : ∃ W2, (W.setCell ⟨g4, 0, none⟩ (.int .i64 u)).drew = W2 := ⟨_, rfl⟩
          rw [hW2]
          rw [hW2] at hB4 hB5 HR hHeld4
          have y5 := hB5.cell
          have z5 := hB5.frozen
          go_simp
          refine hK.out _ _ ?_ (fun hHeld => ?_)
          · have n1 : g5 ≠ Bx := by have := HG3.out; have := HSZ.out; omega
            have n2 : g5 ≠ g3 := by have := HN4.out; have := HN5.out; omega
            have n3 : g5 ≠ g8 := by have := HG3.out; have := HG8.out; omega
            exact ⟨(World.cell?_setCell_far _ _ _ _ n1).trans hHeld4.1, (World.cell?_setCell_far _ _ _ _ n1).trans hHeld4.2.1, (World.cell?_setCell_far _ _ _ _ n2).trans hHeld4.2.2.1, (World.cell?_setCell_far _ _ _ _ n3).trans hHeld4.2.2.2⟩
          clear hK K
          try simp only [Act.put, List.setIfInBounds_toArray, List.set_cons_zero, List.set_cons_succ]
          refine wpAnyH_done (by kernel_rfl) ?_ _
          gi_wp2
          exact ⟨(HR.out.2.trans (KeepsOthers.setCell _ _ _)).from _, rfl, u, hB4.other n45 _, hB5.set _, HR.out.1.setCell HN5.out.2 _, HU.out⟩
  case done =>
    rintro D ys W hD hys ⟨_, _, hwn⟩ hK
    rw [hys, HV.out] at hwn
    cases hwn
  case stop =>
    rintro D c' pre W hD hSp ⟨rfl, u, h4, h5, hB, hU⟩ hK
    obtain ⟨m, hm⟩ := hSp
    have hu := whF_pre xx u _ m 0 hU
    rw [hm, HV.out] at hu
    obtain rfl := Option.some.inj hu
    rw [HT.out]
    have y4 := cell_kept h4.cell (grownBy_putObj' W D (.deferred none)) (fun r e => by cases e; exact ⟨_, hK, rfl⟩)
    have y5 := cell_kept h5.cell (grownBy_putObj' W D (.deferred none)) (fun r e => by cases e; exact ⟨_, hK, rfl⟩)
    gi_wp2
    refine ⟨by simp, .inl ⟨_, _, rfl, run_takeDeferred hK, ?_⟩⟩
    exact ⟨.tuple #[.int .i64 v, .int .i64 0], by simp [results, Try.results9, go_sem, y4, y5], rfl, (HB0.out.trans (HZ6.out.mono HB0.out.size)).trans (hB.trans (belowK_b (w := w6) (Nat.le_trans HSZ.out.1 HSZ.out.2.1) W D _ _ hD hK rfl rfl))⟩
end Go.Proofs.Ytebifddfgimnlaa.Rl
end
section
/- Sections. -/
namespace Go.Proofs.Ytebifddfgimnlaa.Rl
open Go.RowKit Go.Proofs.Ytebifddfgimnlaa.PX Go.Proofs.Ytebifddfgimnlaa.Rd Go.Proofs.YtebifddfgimnlaaW.PrintWords Go.Proofs.YtebifddfgimnlaaW.PrintLast
attribute [local go_sem] Oper.semAt_some
set_option linter.unusedVariables false
set_option linter.unusedSimpArgs false
theorem eqA45 (d : Nat) (w : World) (x0 y0 : Int) (x1 y1 : Int) (x2 y2 : Int) (x3 y3 : Int) (x4 y4 : Int) :
    (Op.equalIn (d + 2) 45 (.agg #[.int .i64 x0, .int .i64 x1, .int .i64 x2, .int .i64 x3, .int .i64 x4]) (.agg #[.int .i64 y0, .int .i64 y1, .int .i64 y2, .int .i64 y3, .int .i64 y4])).run Try.prog w = .ok (x0 == y0 && (x1 == y1 && (x2 == y2 && (x3 == y3 && (x4 == y4))))) w := by
  refine eqA_of Try.underlying45 (by kernel_rfl) ?_
  refine eqf_cons (by rfl) (by go_simp; rfl) (by go_simp; rfl) (by go_simp) ?_
  refine eqf_cons (by rfl) (by go_simp; rfl) (by go_simp; rfl) (by go_simp) ?_
  refine eqf_cons (by rfl) (by go_simp; rfl) (by go_simp; rfl) (by go_simp) ?_
  refine eqf_cons (by rfl) (by go_simp; rfl) (by go_simp; rfl) (by go_simp) ?_
  exact eqf_last (by rfl) (by go_simp; rfl) (by go_simp; rfl) (by go_simp)
attribute [local go_sem high] eqA45
def eq45 (a b : S45) : Bool := a.f0 == b.f0 && (a.f1 == b.f1 && (a.f2 == b.f2 && (a.f3 == b.f3 && (a.f4 == b.f4))))
def v45 (q : S45) : Array Value := #[.int .i64 q.f0, .int .i64 q.f1, .int .i64 q.f2, .int .i64 q.f3, .int .i64 q.f4]
def sstep (r : List S45 × S45 × Int) (x : Str) : List S45 × S45 × Int :=
  (if 0 < r.1.length ∧ eq45 x.p r.2.1 = true then r.1.set (r.1.length - 1) ⟨(rd_T45 r.1 ((r.1.length - 1 : Nat) : Int)).f0, wrap64 ((rd_T45 r.1 ((r.1.length - 1 : Nat) : Int)).f1 + moreS x), (rd_T45 r.1 ((r.1.length - 1 : Nat) : Int)).f2, (rd_T45 r.1 ((r.1.length - 1 : Nat) : Int)).f3, (rd_T45 r.1 ((r.1.length - 1 : Nat) : Int)).f4⟩
    else r.1 ++ [⟨r.2.2, wrap64 (r.2.2 + moreS x), x.p.f2, x.p.f3, x.p.f4⟩], x.p, wrap64 (r.2.2 + moreS x))
def sf (l : List Str) : List S45 × S45 × Int := l.foldl sstep ([], z45, 0)
theorem sf_snoc (l : List Str) (x : Str) : sf (l ++ [x]) = sstep (sf l) x := by simp [sf]
theorem sf_len (l : List Str) : ∀ r : List S45 × S45 × Int, (l.foldl sstep r).1.length ≤ r.1.length + l.length := by
  induction l with
  | nil => intro r; exact Nat.le_refl _
  | cons x l ih =>
    intro r
    have h1 := ih (sstep r x)
    have h2 : (sstep r x).1.length ≤ r.1.length + 1 := by
      unfold sstep
      dsimp only
      split <;> simp
    rw [List.foldl_cons, List.length_cons]
    omega
/-- The sections, or the error. -/
def secF (c : Cs) (P : List S77) : List S45 × Int := if (sf (US c P)).2.2 > 17179869184 then ([], 21) else ((sf (US c P)).1, 0)
theorem R_frame {α : Type} {d : Kd α} {e base : Nat} {w w1 : World} {ok : Nat → Prop} {v : Value} {xs : List α} {row : Option Nat} (h : d.R e w base ok v xs) (hg : w.grownBy w1 row) (hr : ∀ r, row = some r → ∃ o : Obj, w.heap[r]? = some o ∧ o.isCells = false) : d.R e w1 base ok v xs :=
  Kd.R_mono (Kd.R_step (Kd.R_bound h) (fun k hk hlt => hg.block k hlt (fun e => by obtain ⟨o, ho, hc⟩ := hr k e.symm; obtain ⟨_, _, _, q, _, cells, hcell⟩ := hk; rw [hcell] at ho; cases ho; cases hc))) (fun k hk => hk.1)
theorem R_low {α : Type} {d : Kd α} {e base : Nat} {w : World} {ok : Nat → Prop} {v : Value} {xs : List α} (h : d.R e w base ok v xs) {p : Addr} (hp : p.block < base) (u : Value) : d.R e (w.setCell p u) base ok v xs :=
  Kd.R_mono (Kd.R_step (Kd.R_bound h) (fun k hk _ => Below.heap_setCell w p u k (by have := hk.2.1; omega))) (fun k hk => hk.1)
/-- What a round does to the heap, step by step. -/
def Stp (B0 B1 B2 : Nat) (W W' : World) : Prop := KqI B0 B1 B2 W W' ∧ KeepsOthers W W'
theorem Stp.refl (B0 B1 B2 : Nat) (W : World) : Stp B0 B1 B2 W W := ⟨KqI.refl _ _ _ _, KeepsOthers.refl _⟩
theorem Stp.set {B0 B1 B2 : Nat} {W W' : World} (h : Stp B0 B1 B2 W W') {p : Addr} (v : Value) (h0 : B0 ≤ p.block) (h1 : p.block < B1 ∨ B2 ≤ p.block) : Stp B0 B1 B2 W (W'.setCell p v) := ⟨h.1.set v h0 h1, h.2.trans (KeepsOthers.setCell _ _ _)⟩
theorem Stp.drew {B0 B1 B2 : Nat} {W W' : World} (h : Stp B0 B1 B2 W W') : Stp B0 B1 B2 W W'.drew := ⟨⟨h.1.1.drew, h.1.2⟩, h.2.trans (KeepsOthers.drew _)⟩
theorem info45 : (Try.prog.info? 45).map (fun i => (i.zero, i.size, i.bytes)) = some (some (.agg #[.int .i64 0, .int .i64 0, .int .i64 0, .int .i64 0, .int .i64 0]), 5, 40) := by kernel_rfl
theorem keeps_row {W W' : World} {row : Option Nat} (hg : W.grownBy W' row) (hr : ∀ r, row = some r → ∃ cells, W.heap[r]? = some (.cells cells 45 (0, 0))) : KeepsOthers W W' := KeepsOthers.of_grownBy hg (fun r o e ho => by obtain ⟨cells, hc⟩ := hr r e; rw [hc] at ho; cases ho; rfl)
theorem sec_round {B0 B1 g6 g7 g8 : Nat} {w w6 W W3 : World} {v a0 a1 a2 a3 a4 ev : Value} {xs' : List S45} {x : Str} {e' : Int} {pre : List Str}
    (hs : Stp B0 B1 w6.heap.size W W3) (hB : Below w.heap.size w6 W) (hw : w.heap.size ≤ B0) (h0 : B0 ≤ g6) (h67 : g6 < g7) (h78 : g7 < g8) (h81 : g8 < B1) (h8z : g8 < w6.heap.size)
    (b6 : Boxed W3 g6 31 v) (hR : Kd.R k45 45 W3 w6.heap.size (fun _ => True) v xs') (h7 : W3.heap[g7]? = some (.cells #[a0, a1, a2, a3, a4] 45 (0, 0))) (b8 : Boxed W3 g8 3 ev) (hsf : sf (pre ++ [x]) = (xs', x.p, e')) :
    KeepsFrom w6.heap.size W ((((((W3.setCell ⟨g7, 0, none⟩ (.int .i64 x.p.f0)).setCell ⟨g7, 1, none⟩ (.int .i64 x.p.f1)).setCell ⟨g7, 2, none⟩ (.int .i64 x.p.f2)).setCell ⟨g7, 3, none⟩ (.int .i64 x.p.f3)).setCell ⟨g7, 4, none⟩ (.int .i64 x.p.f4)).setCell ⟨g8, 0, none⟩ (.int .i64 e')) ∧ KqI B0 B1 w6.heap.size W ((((((W3.setCell ⟨g7, 0, none⟩ (.int .i64 x.p.f0)).setCell ⟨g7, 1, none⟩ (.int .i64 x.p.f1)).setCell ⟨g7, 2, none⟩ (.int .i64 x.p.f2)).setCell ⟨g7, 3, none⟩ (.int .i64 x.p.f3)).setCell ⟨g7, 4, none⟩ (.int .i64 x.p.f4)).setCell ⟨g8, 0, none⟩ (.int .i64 e')) ∧ (∃ v, Boxed ((((((W3.setCell ⟨g7, 0, none⟩ (.int .i64 x.p.f0)).setCell ⟨g7, 1, none⟩ (.int .i64 x.p.f1)).setCell ⟨g7, 2, none⟩ (.int .i64 x.p.f2)).setCell ⟨g7, 3, none⟩ (.int .i64 x.p.f3)).setCell ⟨g7, 4, none⟩ (.int .i64 x.p.f4)).setCell ⟨g8, 0, none⟩ (.int .i64 e')) g6 31 v ∧ Kd.R k45 45 ((((((W3.setCell ⟨g7, 0, none⟩ (.int .i64 x.p.f0)).setCell ⟨g7, 1, none⟩ (.int .i64 x.p.f1)).setCell ⟨g7, 2, none⟩ (.int .i64 x.p.f2)).setCell ⟨g7, 3, none⟩ (.int .i64 x.p.f3)).setCell ⟨g7, 4, none⟩ (.int .i64 x.p.f4)).setCell ⟨g8, 0, none⟩ (.int .i64 e')) w6.heap.size (fun _ => True) v (sf (pre ++ [x])).1) ∧ ((((((W3.setCell ⟨g7, 0, none⟩ (.int .i64 x.p.f0)).setCell ⟨g7, 1, none⟩ (.int .i64 x.p.f1)).setCell ⟨g7, 2, none⟩ (.int .i64 x.p.f2)).setCell ⟨g7, 3, none⟩ (.int .i64 x.p.f3)).setCell ⟨g7, 4, none⟩ (.int .i64 x.p.f4)).setCell ⟨g8, 0, none⟩ (.int .i64 e')).heap[g7]? = some (.cells (v45 (sf (pre ++ [x])).2.1) 45 (0, 0)) ∧ Boxed ((((((W3.setCell ⟨g7, 0, none⟩ (.int .i64 x.p.f0)).setCell ⟨g7, 1, none⟩ (.int .i64 x.p.f1)).setCell ⟨g7, 2, none⟩ (.int .i64 x.p.f2)).setCell ⟨g7, 3, none⟩ (.int .i64 x.p.f3)).setCell ⟨g7, 4, none⟩ (.int .i64 x.p.f4)).setCell ⟨g8, 0, none⟩ (.int .i64 e')) g8 3 (.int .i64 (sf (pre ++ [x])).2.2) ∧ Below w.heap.size w6 ((((((W3.setCell ⟨g7, 0, none⟩ (.int .i64 x.p.f0)).setCell ⟨g7, 1, none⟩ (.int .i64 x.p.f1)).setCell ⟨g7, 2, none⟩ (.int .i64 x.p.f2)).setCell ⟨g7, 3, none⟩ (.int .i64 x.p.f3)).setCell ⟨g7, 4, none⟩ (.int .i64 x.p.f4)).setCell ⟨g8, 0, none⟩ (.int .i64 e')) := by
  have hst : Stp B0 B1 w6.heap.size W ((((((W3.setCell ⟨g7, 0, none⟩ (.int .i64 x.p.f0)).setCell ⟨g7, 1, none⟩ (.int .i64 x.p.f1)).setCell ⟨g7, 2, none⟩ (.int .i64 x.p.f2)).setCell ⟨g7, 3, none⟩ (.int .i64 x.p.f3)).setCell ⟨g7, 4, none⟩ (.int .i64 x.p.f4)).setCell ⟨g8, 0, none⟩ (.int .i64 e')) := (Stp.set (Stp.set (Stp.set (Stp.set (Stp.set (Stp.set hs (p := ⟨g7, 0, none⟩) _ (show B0 ≤ g7 by omega) (.inl (show g7 < B1 by omega))) (p := ⟨g7, 1, none⟩) _ (show B0 ≤ g7 by omega) (.inl (show g7 < B1 by omega))) (p := ⟨g7, 2, none⟩) _ (show B0 ≤ g7 by omega) (.inl (show g7 < B1 by omega))) (p := ⟨g7, 3, none⟩) _ (show B0 ≤ g7 by omega) (.inl (show g7 < B1 by omega))) (p := ⟨g7, 4, none⟩) _ (show B0 ≤ g7 by omega) (.inl (show g7 < B1 by omega))) (p := ⟨g8, 0, none⟩) _ (show B0 ≤ g8 by omega) (.inl (show g8 < B1 by omega)))
  rw [hsf]
  refine ⟨hst.2.from _, hst.1, ⟨v, ?_, (R_low (R_low (R_low (R_low (R_low (R_low hR (p := ⟨g7, 0, none⟩) (show g7 < w6.heap.size by omega) _) (p := ⟨g7, 1, none⟩) (show g7 < w6.heap.size by omega) _) (p := ⟨g7, 2, none⟩) (show g7 < w6.heap.size by omega) _) (p := ⟨g7, 3, none⟩) (show g7 < w6.heap.size by omega) _) (p := ⟨g7, 4, none⟩) (show g7 < w6.heap.size by omega) _) (p := ⟨g8, 0, none⟩) (show g8 < w6.heap.size by omega) _)⟩, ?_, ?_, hB.trans (hst.1.1.mono hw)⟩
  · exact (blk_far (blk_far (blk_far (blk_far (blk_far (blk_far b6 (p := ⟨g7, 0, none⟩) (show g6 ≠ g7 by omega) _) (p := ⟨g7, 1, none⟩) (show g6 ≠ g7 by omega) _) (p := ⟨g7, 2, none⟩) (show g6 ≠ g7 by omega) _) (p := ⟨g7, 3, none⟩) (show g6 ≠ g7 by omega) _) (p := ⟨g7, 4, none⟩) (show g6 ≠ g7 by omega) _) (p := ⟨g8, 0, none⟩) (show g6 ≠ g8 by omega) _)
  · exact blk_far (put_five h7) (p := ⟨g8, 0, none⟩) (show g7 ≠ g8 by omega) _
  · exact put_one (a := ev) (blk_far (blk_far (blk_far (blk_far (blk_far b8 (p := ⟨g7, 0, none⟩) (show g8 ≠ g7 by omega) _) (p := ⟨g7, 1, none⟩) (show g8 ≠ g7 by omega) _) (p := ⟨g7, 2, none⟩) (show g8 ≠ g7 by omega) _) (p := ⟨g7, 3, none⟩) (show g8 ≠ g7 by omega) _) (p := ⟨g7, 4, none⟩) (show g8 ≠ g7 by omega) _)
set_option maxHeartbeats 4000000 in
set_option maxRecDepth 100000 in
theorem sections_ok (c : Cs) (a : CsA) (P : List S77) (w : World) (hc : CsC w c a) (hph : phF c = (P, 0)) (hlp : P.length ≤ 100) (hls : c.sw.length ≤ 100) (hlq : c.pac.length ≤ 100) :
    Calls Try.prog 5 #[.agg (csV c a)] w fun e w' => ∃ v, e = .returned (.tuple #[v, .int .i64 (secF c P).2]) ∧ Kd.R k45 45 w' w.heap.size (fun _ => True) v (secF c P).1 ∧ Below w.heap.size w w' := by
  have HC := Aside0.mk hc
  have HPH := Aside0.mk hph
  have HN := Aside0.mk (show P.length ≤ 100 ∧ c.sw.length ≤ 100 ∧ c.pac.length ≤ 100 from ⟨hlp, hls, hlq⟩)
  clear hc hph hlp hls hlq
  obtain ⟨X2, y2, X3, y3, X4, y4⟩ := a
  unfold csV
  refine (callsIn_wide (n := 100)).1 ?_
  refine callsIn_of_wp_marks Try.func5 rfl trivial ?_ rfl
  simp only [Try.ntmps5, List.size_toArray, List.length_cons, List.length_nil, Nat.reduceAdd, Nat.reduceSub, Array.replicate_succ, Array.replicate_zero, List.push_toArray, List.append_toArray, List.nil_append, List.cons_append]
  refine wpIn_wide.2 ?_
  go_wp2_with (first
      | ((with_reducible refine gate_dst (N := 1) rfl ?_); go_must (refine box_event ?hg (N := 1) ?hd (cs := #[.int .i64 c.th, .int .i64 c.cl, .slice X2 c.acts.length y2, .slice X3 c.pac.length y3, .slice X4 c.sw.length y4, .int .i64 c.en]) (t := 28) ?hr ?_; (case hd => rfl); (case hg => rfl); (case hr => first | (go_simp; done) | (go_simp; rfl)); intro g1 hg w1 hbox hb; have BK2 := Aside0.mk hbox; have HB := Aside0.mk hb; have HCC := Aside0.mk (HC.out.below hb); have x0 : w1.cell? ⟨g1, 0, none⟩ = some (.int .i64 c.th) := (blk_cell BK2.out 0).trans rfl; have x1 : w1.cell? ⟨g1, 1, none⟩ = some (.int .i64 c.cl) := (blk_cell BK2.out 1).trans rfl; have x2 : w1.cell? ⟨g1, 2, none⟩ = some (.slice X2 c.acts.length y2) := (blk_cell BK2.out 2).trans rfl; have x3 : w1.cell? ⟨g1, 3, none⟩ = some (.slice X3 c.pac.length y3) := (blk_cell BK2.out 3).trans rfl; have x4 : w1.cell? ⟨g1, 4, none⟩ = some (.slice X4 c.sw.length y4) := (blk_cell BK2.out 4).trans rfl; have x5 : w1.cell? ⟨g1, 5, none⟩ = some (.int .i64 c.en) := (blk_cell BK2.out 5).trans rfl; clear hbox hb hg HC))
      | (go_at_call 11; go_must (refine (phases_calls c ⟨X2, y2, X3, y3, X4, y4⟩ _ HCC.out (by have := HN.out; omega) (by have := HN.out; omega)).mono ?_; rw [HPH.out]; rintro e w3 ⟨v0, rfl, hr, hb⟩; obtain ⟨Ap, cp, rfl, hcp, hC⟩ := Kd.R_reads hr; have HPC := Aside0.mk (show PhC w3 P Ap cp from ⟨hC, hcp⟩); clear hr hC hcp; have nHB := Aside0.mk (below_step HB.out hb); have nBK2 := Aside0.mk (blk_below BK2.out hb); have nHCC := Aside0.mk (HCC.out.below hb); clear x0 x1 x2 x3 x4 x5; clear HB; clear BK2; clear HCC; have HB := nHB; clear nHB; have BK2 := nBK2; clear nBK2; have HCC := nHCC; clear nHCC; have x0 : w3.cell? ⟨g1, 0, none⟩ = some (.int .i64 c.th) := (blk_cell BK2.out 0).trans rfl; have x1 : w3.cell? ⟨g1, 1, none⟩ = some (.int .i64 c.cl) := (blk_cell BK2.out 1).trans rfl; have x2 : w3.cell? ⟨g1, 2, none⟩ = some (.slice X2 c.acts.length y2) := (blk_cell BK2.out 2).trans rfl; have x3 : w3.cell? ⟨g1, 3, none⟩ = some (.slice X3 c.pac.length y3) := (blk_cell BK2.out 3).trans rfl; have x4 : w3.cell? ⟨g1, 4, none⟩ = some (.slice X4 c.sw.length y4) := (blk_cell BK2.out 4).trans rfl; have x5 : w3.cell? ⟨g1, 5, none⟩ = some (.int .i64 c.en) := (blk_cell BK2.out 5).trans rfl; have HC0 := Aside0.mk HCC.out; have HP0 := Aside0.mk HPC.out; have B20 := Aside0.mk BK2.out; have HB0 := Aside0.mk HB.out; clear HCC HPC BK2 HB; clear hb))
      | ((with_reducible refine gate_dst (N := 6) rfl ?_); go_must (refine box_event ?hg (N := 6) ?hd (cs := #[.slice none 0 0]) (t := 31) ?hr ?_; (case hd => rfl); (case hg => rfl); (case hr => first | (go_simp; done) | (go_simp; rfl)); intro g6 hg w4a hbox hb; have BK6 := Aside0.mk hbox; have HZ := Aside0.mk hb; have HG6 := Aside0.mk (show w3.heap.size ≤ g6 from Nat.le_of_eq hg.symm); clear hbox hg hb x0 x1 x2 x3 x4 x5))
      | ((with_reducible refine gate_dst (N := 7) rfl ?_); go_must (refine box_event ?hg (N := 7) ?hd (cs := #[.int .i64 0, .int .i64 0, .int .i64 0, .int .i64 0, .int .i64 0]) (t := 45) ?hr ?_; (case hd => rfl); (case hg => rfl); (case hr => first | (go_simp; done) | (go_simp; rfl)); intro g7 hg w4b hbox hb; have BK7 := Aside0.mk hbox; have HG7 := Aside0.mk (show g6 < g7 from by rw [hg]; exact blk_lt BK6.out); have nBK6 := Aside0.mk (blk_below BK6.out hb); have nHZ := Aside0.mk (HZ.out.trans (hb.mono HZ.out.size)); clear BK6; clear HZ; have BK6 := nBK6; clear nBK6; have HZ := nHZ; clear nHZ; clear hbox hg hb))
      | ((with_reducible refine gate_dst (N := 8) rfl ?_); go_must (refine box_event ?hg (N := 8) ?hd (cs := #[.int .i64 0]) (t := 3) ?hr ?_; (case hd => rfl); (case hg => rfl); (case hr => first | (go_simp; done) | (go_simp; rfl)); intro g8 hg w4 hbox hb; have BK8 := Aside0.mk hbox; have HG8 := Aside0.mk (show g7 < g8 from by rw [hg]; exact blk_lt BK7.out); have nBK6 := Aside0.mk (blk_below BK6.out hb); have nBK7 := Aside0.mk (blk_below BK7.out hb); have nHZ := Aside0.mk (HZ.out.trans (hb.mono HZ.out.size)); clear BK6; clear BK7; clear HZ; have BK6 := nBK6; clear nBK6; have BK7 := nBK7; clear nBK7; have HZ := nHZ; clear nHZ; have y0 : w4.cell? ⟨g8, 0, none⟩ = some (.int .i64 0) := (blk_cell hbox 0).trans rfl; have z0 := blk_frozen hbox 0; clear hbox hg hb))
      | ((with_reducible refine gate_store (t := 3) (p := 8) rfl ?_); go_must (refine store_event (t := 3) (p := 8) (v := ?vo_w5_8) (w1 := (w4.setCell ⟨g8, 0, none⟩ (.int .i64 0))) ?hg ?ho ?hn ?hr ?_; (case ho => rfl); (case hg => rfl); (case hn => rfl); (case hr => first | (go_simp; done) | (go_simp; rfl)); intro w5 hw; have nBK8 := Aside0.mk (show w5.heap[g8]? = some (.cells #[.int .i64 0] 3 (0, 0)) from (by rw [hw]; exact put_one BK8.out)); have nBK6 := Aside0.mk (show w5.heap[g6]? = some (.cells #[.slice none 0 0] 31 (0, 0)) from (by rw [hw]; exact blk_far BK6.out (p := ⟨g8, 0, none⟩) (show g6 ≠ g8 from by have := HG7.out; have := HG8.out; omega) _)); have nBK7 := Aside0.mk (show w5.heap[g7]? = some (.cells #[.int .i64 0, .int .i64 0, .int .i64 0, .int .i64 0, .int .i64 0] 45 (0, 0)) from (by rw [hw]; exact blk_far BK7.out (p := ⟨g8, 0, none⟩) (show g7 ≠ g8 from by have := HG8.out; omega) _)); have nHZ := Aside0.mk (show Below w3.heap.size w3 w5 from (by rw [hw]; exact HZ.out.setCell (show w3.heap.size ≤ g8 from by have := HG6.out; have := HG7.out; have := HG8.out; omega) _)); clear BK6; clear BK7; clear BK8; clear HZ; have BK6 := nBK6; clear nBK6; have BK7 := nBK7; clear nBK7; have BK8 := nBK8; clear nBK8; have HZ := nHZ; clear nHZ; clear hw y0 z0; have BK2 := Aside0.mk (blk_below B20.out HZ.out); have x0 : w5.cell? ⟨g1, 0, none⟩ = some (.int .i64 c.th) := (blk_cell BK2.out 0).trans rfl; have x1 : w5.cell? ⟨g1, 1, none⟩ = some (.int .i64 c.cl) := (blk_cell BK2.out 1).trans rfl; have x2 : w5.cell? ⟨g1, 2, none⟩ = some (.slice X2 c.acts.length y2) := (blk_cell BK2.out 2).trans rfl; have x3 : w5.cell? ⟨g1, 3, none⟩ = some (.slice X3 c.pac.length y3) := (blk_cell BK2.out 3).trans rfl; have x4 : w5.cell? ⟨g1, 4, none⟩ = some (.slice X4 c.sw.length y4) := (blk_cell BK2.out 4).trans rfl; have x5 : w5.cell? ⟨g1, 5, none⟩ = some (.int .i64 c.en) := (blk_cell BK2.out 5).trans rfl; clear BK2))
      | (go_at_call 12; go_must (refine (made_calls c ⟨X2, y2, X3, y3, X4, y4⟩ P Ap cp _ (HC0.out.below HZ.out) (HP0.out.below HZ.out) HN.out.1 HN.out.2.1 HN.out.2.2).mono ?_; rintro e w6 ⟨gh, gc, gp, Ah, chc, rfl, hS, hG, hb⟩; have HS := Aside0.mk hS; have HG := Aside0.mk hG; have HZ6 := Aside0.mk (HZ.out.trans (hb.mono HZ.out.size)); have nBK6 := Aside0.mk (blk_below BK6.out hb); have nBK7 := Aside0.mk (blk_below BK7.out hb); have nBK8 := Aside0.mk (blk_below BK8.out hb); have HG8b := Aside0.mk (show g8 < w5.heap.size from blk_lt BK8.out); clear BK6; clear BK7; clear BK8; have BK6 := nBK6; clear nBK6; have BK7 := nBK7; clear nBK7; have BK8 := nBK8; clear nBK8; clear hS hG hb x0 x1 x2 x3 x4 x5)))
  refine (wpIn_wide (n := 100)).1 ?_
  refine name_act ?_
  intro T hT
  have HT := Aside0.mk hT
  clear hT
  have HSZ := Aside0.mk (show w.heap.size ≤ w3.heap.size ∧ w3.heap.size ≤ w6.heap.size ∧ g8 < w6.heap.size from ⟨HB0.out.size, HZ6.out.size, blk_lt BK8.out⟩)
  have HORD := Aside0.mk (show w.heap.size ≤ w3.heap.size ∧ w3.heap.size ≤ g6 ∧ g6 < g7 ∧ g7 < g8 ∧ g8 < w5.heap.size ∧ g8 < w6.heap.size from ⟨HB0.out.size, HG6.out, HG7.out, HG8.out, HG8b.out, blk_lt BK8.out⟩)
  refine wpIn_rangeFunc_ownH (F := Fence.wide) rfl (by decide) (gf := 24) (lb := #[.pointer (some ⟨gh, 0, none⟩), .pointer (some ⟨gc, 0, none⟩), .pointer (some ⟨gp, 0, none⟩)]) (by rw [HT.out]; rfl) trivial (enters_of Try.func24 (by kernel_rfl) rfl)
    (str_seq (100 - 1) w5.heap.size gh gc gp cp chc w3 w6 c _ P Ap Ah HN.out.1 HN.out.2.1 HN.out.2.2 HC0.out HP0.out HZ6.out HS.out HG.out) KqI.trans (KqI.put HSZ.out.2.1 (Nat.le_refl _)) (Below.refl _ _) (fun _ => rfl)
    (fun pre W => (∃ v, Boxed W g6 31 v ∧ Kd.R k45 45 W w6.heap.size (fun _ => True) v (sf pre).1) ∧ W.heap[g7]? = some (.cells (v45 (sf pre).2.1) 45 (0, 0)) ∧ Boxed W g8 3 (.int .i64 (sf pre).2.2) ∧ Below w.heap.size w6 W)
    (fun _ _ _ => False)
    (fun s X Y row hs hg hr => by
      obtain ⟨⟨v, h6, hR⟩, h7, h8, hB⟩ := hs
      exact ⟨⟨v, Own.from (boxed_own (β := Unit) g6 31 (fun _ => v)) _ () X Y row h6 hg hr, R_frame hR hg (fun r e => (hr r e).2)⟩, Own.from (blk_own (β := Unit) g7 45 (fun _ => v45 (sf s).2.1)) _ () X Y row h7 hg hr, Own.from (boxed_own (β := Unit) g8 3 (fun _ => Value.int .i64 (sf s).2.2)) _ () X Y row h8 hg hr, ownFrom_below (β := Unit) (Nat.le_trans HSZ.out.1 HSZ.out.2.1) (Nat.le_trans HSZ.out.1 HSZ.out.2.1) () X Y row hB hg hr⟩)
    (fun _ _ _ _ _ hs _ _ => hs)
    ⟨⟨_, BK6.out, Kd.R_nil _ _ _ _ _⟩, BK7.out, BK8.out, Below.refl _ _⟩
    (fun x a' W => ∃ Bx, (W.heap[Bx]? = some (.cells (strC x) 62 (0, 0)) ∧ w6.heap.size ≤ Bx) ∧ a' = { tmps := (T.tmps.setIfInBounds 24 (.agg (strC x))).setIfInBounds 9 (.pointer (some ⟨Bx, 0, none⟩)), defers := [] })
    (fun x a' s X Y row hs hg hr => by obtain ⟨Bx, h1, h3⟩ := hs; exact ⟨Bx, ⟨blk_own (β := Unit) Bx 62 (fun _ => strC x) () X Y row h1.1 hg (fun r e => (hr r e).2), h1.2⟩, h3⟩)
    ?assign ?body ?done ?stop
  case assign =>
    rintro l pre x W K ⟨⟨v, h6, hR⟩, h7, h8, hB1⟩ hK
    simp only [List.zip_toArray, encS, List.zip_cons_cons, List.zip_nil_right, List.foldl_toArray, List.foldl_cons, List.foldl_nil]
    rw [HT.out]
    simp only [List.setIfInBounds_toArray, List.set_cons_zero, List.set_cons_succ]
    have HXA := Aside0.mk (show (∀ o : Obj, (∃ v, Boxed (W.alloc o) g6 31 v ∧ Kd.R k45 45 (W.alloc o) w6.heap.size (fun _ => True) v (sf pre).1) ∧ (W.alloc o).heap[g7]? = some (.cells (v45 (sf pre).2.1) 45 (0, 0)) ∧ Boxed (W.alloc o) g8 3 (.int .i64 (sf pre).2.2) ∧ Below w.heap.size w6 (W.alloc o)) from fun o => ⟨⟨v, h6.alloc _, Kd.R_alloc hR _⟩, blk_below h7 ((Below.refl _ W).alloc (Nat.le_refl _) _), h8.alloc _, hB1.alloc (Nat.le_trans (Nat.le_trans HSZ.out.1 HSZ.out.2.1) hB1.size) _⟩)
    have HBS := Aside0.mk hB1.size
    clear h6 hR h7 h8 hB1
    gi_wp2
    exact hK _ _ ((KeepsOthers.alloc _ _).from _) (KqI.of ((Below.refl _ W).alloc HBS.out _) HSZ.out.2.1) (HXA.out _) ⟨W.heap.size, ⟨World.alloc_heap_new W _, HBS.out⟩, by rw [HT.out]; rfl⟩
  case body =>
    rintro l pre x a' W hl ⟨r, hr⟩ ⟨⟨v, b6, hR⟩, h7, b8, hB1⟩ ⟨Bx, ⟨hX, hXs⟩, rfl⟩ hlt
    rw [HT.out]
    simp only [List.setIfInBounds_toArray, List.set_cons_zero, List.set_cons_succ]
    have HSF0 := Aside0.mk (sf_snoc pre x)
    have HLEN := Aside0.mk (show (sf pre).1.length ≤ 500 from by have h1_ := sf_len pre ([], z45, 0); have h2_ := US_len c P HN.out.1 HN.out.2.1 HN.out.2.2; simp only [List.length_nil] at h1_; unfold sf; omega)
    obtain ⟨⟨xs, la, en⟩, hsf⟩ : ∃ r, sf pre = r := ⟨_, rfl⟩
    rw [hsf] at hR h7 b8 HSF0 HLEN
    dsimp only at hR h7 b8 HLEN
    have HSF := HSF0
    have HNP := Aside0.mk (show Below w.heap.size w6 W from hB1)
    have HXX := Aside0.mk (show W.heap[Bx]? = some (.cells (strC x) 62 (0, 0)) ∧ w6.heap.size ≤ Bx from ⟨hX, hXs⟩)
    have H7 := Aside0.mk h7
    have H6 := Aside0.mk b6
    have H8 := Aside0.mk b8
    have HRR := Aside0.mk hR
    clear HSF0 hsf hlt hr hl
    have c8 := b8.cell
    have f8 := b8.frozen
    have e0 : W.cell? ⟨Bx, 0, none⟩ = some (.int .i64 x.fr) := (blk_cell hX 0).trans rfl
    have e1 : W.cell? ⟨Bx, 1, none⟩ = some (.int .i64 x.to_) := (blk_cell hX 1).trans rfl
    have e2 : W.cell? ⟨Bx, 2, none⟩ = some (.int .i64 x.p.f0) := (blk_cell hX 2).trans rfl
    have e3 : W.cell? ⟨Bx, 3, none⟩ = some (.int .i64 x.p.f1) := (blk_cell hX 3).trans rfl
    have e4 : W.cell? ⟨Bx, 4, none⟩ = some (.int .i64 x.p.f2) := (blk_cell hX 4).trans rfl
    have e5 : W.cell? ⟨Bx, 5, none⟩ = some (.int .i64 x.p.f3) := (blk_cell hX 5).trans rfl
    have e6 : W.cell? ⟨Bx, 6, none⟩ = some (.int .i64 x.p.f4) := (blk_cell hX 6).trans rfl
    have e7 : W.cell? ⟨Bx, 7, none⟩ = some (.int .i64 x.sp) := (blk_cell hX 7).trans rfl
    have l0 : W.cell? ⟨g7, 0, none⟩ = some (.int .i64 la.f0) := (blk_cell h7 0).trans rfl
    have lf0 := blk_frozen h7 0
    have l1 : W.cell? ⟨g7, 1, none⟩ = some (.int .i64 la.f1) := (blk_cell h7 1).trans rfl
    have lf1 := blk_frozen h7 1
    have l2 : W.cell? ⟨g7, 2, none⟩ = some (.int .i64 la.f2) := (blk_cell h7 2).trans rfl
    have lf2 := blk_frozen h7 2
    have l3 : W.cell? ⟨g7, 3, none⟩ = some (.int .i64 la.f3) := (blk_cell h7 3).trans rfl
    have lf3 := blk_frozen h7 3
    have l4 : W.cell? ⟨g7, 4, none⟩ = some (.int .i64 la.f4) := (blk_cell h7 4).trans rfl
    have lf4 := blk_frozen h7 4
    have n78 : g7 ≠ g8 := by have := HORD.out; omega
    have n87 : g8 ≠ g7 := by have := HORD.out; omega
    have n7x : g7 ≠ Bx := by have := HORD.out; have := HXX.out.2; omega
    have nx7 : Bx ≠ g7 := by have := HORD.out; have := HXX.out.2; omega
    have n8x : g8 ≠ Bx := by have := HORD.out; have := HXX.out.2; omega
    have hmix : Try.prog.follows .mixedOrders = true := by kernel_rfl
    obtain ⟨A, co, rfl, hlc⟩ : ∃ A co, v = .slice A xs.length co ∧ xs.length ≤ co := by obtain ⟨A, co, h1, h2, _⟩ := Kd.R_reads hR; exact ⟨A, co, h1, h2⟩
    have c6 := b6.cell
    have f6 := b6.frozen
    clear b6 hR h7 b8 hX hXs hB1
    by_cases hx0 : 0 < xs.length
    · obtain ⟨j, hj⟩ : ∃ j, xs.length = j + 1 := ⟨xs.length - 1, by omega⟩
      obtain ⟨ga, cap, hv, hga, hgl, _⟩ := Kd.R_form HRR.out hx0
      obtain ⟨rfl, _, rfl⟩ := Value.slice.inj hv
      obtain ⟨cc, hcl, hcM, hcc, hcf⟩ := Kd.R_elem HRR.out z45 (j : Int) (by omega) (by omega)
      obtain rfl := k45_open (k45.K_of_M hcM)
      simp only [Int.toNat_natCast] at hcc hcf
      have HJ := Aside0.mk hj
      have HGA := Aside0.mk (show w6.heap.size ≤ ga ∧ ga < W.heap.size from ⟨hga, hgl⟩)
      have r1 : W.cell? ⟨ga, j * 5 + 1, none⟩ = some (.int .i64 (xs.getD j z45).f1) := hcc 1 _ rfl
      have rf1 : W.frozen? ⟨ga, j * 5 + 1, none⟩ = false := hcf 1
      have HCC := Aside0.mk hcc
      have HCM := Aside0.mk hcM
      obtain ⟨n, hn⟩ : ∃ n, xs.length = n := ⟨_, rfl⟩
      have HNN := Aside0.mk hn
      rw [hn] at c6 hx0 hj
      have k1 := eq_true hx0
      have k2 := eq_true (show (0 : Int) < (n : Int) by omega)
      have k2b := eq_true (show (n : Int) > 0 by omega)
      have k3 : wrap64 ((n : Int) - 1) = (j : Int) := by have := HLEN.out; unfold wrap64; omega
      have k4 : IntKind.i64.wrap ((n : Int) - 1) = (j : Int) := by rw [IntKind.wrap_i64]; have := HLEN.out; omega
      have k5 := eq_true (show (j : Int) < (n : Int) by omega)
      have k6 := eq_true (show j < n by omega)
      have n6 : g6 ≠ ga := by have := HORD.out; have := HGA.out; omega
      have n7 : g7 ≠ ga := by have := HORD.out; have := HGA.out; omega
      have na7 : ga ≠ g7 := by have := HORD.out; have := HGA.out; omega
      have n8 : g8 ≠ ga := by have := HORD.out; have := HGA.out; omega
      have na8 : ga ≠ g8 := by have := HORD.out; have := HGA.out; omega
      have nax : ga ≠ Bx := fun e => by obtain ⟨_, hC45⟩ := Kd.R_typed HRR.out ga rfl; rw [e, HXX.out.1] at hC45; cases hC45
      have nxa : Bx ≠ ga := fun e => nax e.symm
      clear hx0 hj hn hga hgl hcc hcf hcM hv hcl
      by_cases he : eq45 x.p la = true
      · have he1 : (x.p.f0 == la.f0 && (x.p.f1 == la.f1 && (x.p.f2 == la.f2 && (x.p.f3 == la.f3 && (x.p.f4 == la.f4))))) = true := he
        have HE := Aside0.mk he
        obtain ⟨eqv, heqv⟩ : ∃ eqv, (x.p.f0 == la.f0 && (x.p.f1 == la.f1 && (x.p.f2 == la.f2 && (x.p.f3 == la.f3 && (x.p.f4 == la.f4))))) = eqv := ⟨_, rfl⟩
        rw [heqv] at he1
        subst he1
        clear he
        gi_wp2
        have hseg := (Kd.R_seg HRR.out (j : Int) (by omega) (by have := HJ.out; omega) (c := [.int .i64 (xs.getD j z45).f0, .int .i64 (xs.getD j z45).f1, .int .i64 (xs.getD j z45).f2, .int .i64 (xs.getD j z45).f3, .int .i64 (xs.getD j z45).f4]) (seg := [.int .i64 (wrap64 ((xs.getD j z45).f1 + moreS x))]) (j := 1) rfl HCC.out (show 1 + 1 ≤ 5 by omega) (x' := ⟨(xs.getD j z45).f0, wrap64 ((xs.getD j z45).f1 + moreS x), (xs.getD j z45).f2, (xs.getD j z45).f3, (xs.getD j z45).f4⟩) (okp := fun k => True ∧ k ≠ ga) (k45_mkM _ _ _ (⟨(xs.getD j z45).f0, wrap64 ((xs.getD j z45).f1 + moreS x), (xs.getD j z45).f2, (xs.getD j z45).f3, (xs.getD j z45).f4⟩ : S45)) (fun k hk => hk)).1
        have HSG := Aside0.mk hseg
    
        exact sec_round ((Stp.refl _ _ _ W).set _ (show w3.heap.size ≤ ga by have := HSZ.out; have := HGA.out; omega) (.inr HGA.out.1)) HNP.out HORD.out.1 HORD.out.2.1 HORD.out.2.2.1 HORD.out.2.2.2.1 HORD.out.2.2.2.2.1 HORD.out.2.2.2.2.2 (blk_far (show W.heap[g6]? = _ from H6.out) (p := ⟨ga, j * 5 + 1, none⟩) n6 _) HSG.out (blk_far H7.out (p := ⟨ga, j * 5 + 1, none⟩) n7 _) (blk_far (show W.heap[g8]? = _ from H8.out) (p := ⟨ga, j * 5 + 1, none⟩) n8 _) (by rw [HSF.out]; unfold sstep; dsimp only; rw [if_pos ⟨by have := HJ.out; omega, HE.out⟩, show xs.length - 1 = j by have := HJ.out; omega]; rfl)
      · have HE := Aside0.mk he
        obtain ⟨eqv, heqv⟩ : ∃ eqv, (x.p.f0 == la.f0 && (x.p.f1 == la.f1 && (x.p.f2 == la.f2 && (x.p.f3 == la.f3 && (x.p.f4 == la.f4))))) = eqv := ⟨_, rfl⟩
        have he1 : eqv = false := by rw [← heqv]; exact Bool.eq_false_iff.2 he
        subst he1
        clear he
        have HIF := Aside0.mk (show sf (pre ++ [x]) = (xs ++ [⟨en, wrap64 (en + moreS x), x.p.f2, x.p.f3, x.p.f4⟩], x.p, wrap64 (en + moreS x)) from by rw [HSF.out]; unfold sstep; dsimp only; rw [if_neg (fun h => HE.out h.2)])
        obtain ⟨A, hA⟩ : ∃ A : Option Addr, some ⟨ga, 0, none⟩ = A := ⟨_, rfl⟩
        rw [hA] at c6 H6 HRR
        clear hA HCC HCM r1 rf1 n6 n7 na7 n8 na8 nax nxa
        gi_wp2
        obtain ⟨W2, hW2⟩ : ∃ W2, W.alloc (.cells #[.int .i64 x.p.f0, .int .i64 x.p.f1, .int .i64 x.p.f2, .int .i64 x.p.f3, .int .i64 x.p.f4] 45) = W2 := ⟨_, rfl⟩
        obtain ⟨g12, hg12⟩ : ∃ g12, W.heap.size = g12 := ⟨_, rfl⟩
        rw [hW2, hg12]
        have D2 := Aside0.mk (show Below W.heap.size W W2 ∧ KeepsOthers W W2 from by rw [← hW2]; exact ⟨(Below.refl _ W).alloc (Nat.le_refl _) _, KeepsOthers.alloc _ _⟩)
        have BK12 := Aside0.mk (show W2.heap[g12]? = some (.cells #[.int .i64 x.p.f0, .int .i64 x.p.f1, .int .i64 x.p.f2, .int .i64 x.p.f3, .int .i64 x.p.f4] 45 (0, 0)) from by rw [← hW2, ← hg12]; exact World.alloc_heap_new W _)
        have R2 := Aside0.mk (Kd.R_below (Kd.R_elderB HRR.out g12 (Nat.le_of_eq hg12)) D2.out.1)
        have G12 := Aside0.mk (show w6.heap.size ≤ g12 ∧ g12 < W2.heap.size ∧ W.heap.size ≤ g12 from ⟨by rw [← hg12]; exact HNP.out.size, blk_lt BK12.out, Nat.le_of_eq hg12⟩)
        have B26 := Aside0.mk (blk_below (show W.heap[g6]? = _ from H6.out) D2.out.1)
        have B27 := Aside0.mk (blk_below H7.out D2.out.1)
        have B28 := Aside0.mk (blk_below (show W.heap[g8]? = _ from H8.out) D2.out.1)
        have B2x := Aside0.mk (blk_below HXX.out.1 D2.out.1)
        have NE12 := Aside0.mk (show g12 ≠ Bx from fun e => absurd (blk_lt HXX.out.1) (by rw [← e]; have := G12.out.2.2; omega))
        clear hW2 hg12 c6 f6 c8 f8
        have c8 : W2.cell? ⟨g8, 0, none⟩ = some (.int .i64 en) := (blk_cell B28.out 0).trans rfl
        refine regionIn_held (ro := some l) (S := (fun w' => w'.cell? ⟨g8, 0, none⟩ = some (.int .i64 en))) 98 (by rintro ⟨a_, w_, h_⟩; exact h_) (by kernel_rfl) (by kernel_rfl) ?_ (fun hHeld => ?_)
        · exact c8
        refine' tk_ (i := 0) ?ho_0 ?more_0
        case ho_0 => simp only [List.getElem?_toArray, List.getElem?_cons_succ, List.getElem?_cons_zero]; rfl
        refine ⟨by kernel_rfl, by kernel_rfl, by kernel_rfl, fun _ _ _ _ h => h, ?v_0, Or.inl ⟨by rfl, ?hy_0⟩, by assumption, ?rest_0⟩
        case hy_0 => intro w hSw; (try dsimp only at hSw); (go_simp <;> rfl)
        simp only [Act.put, List.setIfInBounds_toArray, List.set_cons_zero, List.set_cons_succ]
        refine' tk_ (i := 1) ?ho_1 ?more_1
        case ho_1 => simp only [List.getElem?_toArray, List.getElem?_cons_succ, List.getElem?_cons_zero]; rfl
        refine ⟨by kernel_rfl, by kernel_rfl, by kernel_rfl, fun _ _ _ _ h => h, ?v_1, Or.inl ⟨by rfl, ?hy_1⟩, by assumption, ?rest_1⟩
        case hy_1 => intro w hSw; (try dsimp only at hSw); (go_simp <;> rfl)
        simp only [Act.put, List.setIfInBounds_toArray, List.set_cons_zero, List.set_cons_succ]
        refine' tk_ (i := 2) ?ho_2 ?more_2
        case ho_2 => simp only [List.getElem?_toArray, List.getElem?_cons_succ, List.getElem?_cons_zero]; rfl
        refine ⟨by kernel_rfl, by kernel_rfl, by kernel_rfl, fun _ _ _ _ h => h, ?v_2, Or.inl ⟨by rfl, ?hy_2⟩, by assumption, ?rest_2⟩
        case hy_2 => intro w hSw; (try dsimp only at hSw); (go_simp <;> rfl)
        simp only [Act.put, List.setIfInBounds_toArray, List.set_cons_zero, List.set_cons_succ]
        refine' tk_ (i := 3) ?ho_3 ?more_3
        case ho_3 => simp only [List.getElem?_toArray, List.getElem?_cons_succ, List.getElem?_cons_zero]; rfl
        refine ⟨by kernel_rfl, by kernel_rfl, by kernel_rfl, fun _ _ _ _ h => h, ?v_3, Or.inl ⟨by rfl, ?hy_3⟩, by assumption, ?rest_3⟩
        case hy_3 => intro w hSw; (try dsimp only at hSw); (go_simp <;> rfl)
        simp only [Act.put, List.setIfInBounds_toArray, List.set_cons_zero, List.set_cons_succ]
        refine' tk_ (i := 4) ?ho_4 ?more_4
        case ho_4 => simp only [List.getElem?_toArray, List.getElem?_cons_succ, List.getElem?_cons_zero]; rfl
        refine ⟨by kernel_rfl, by kernel_rfl, by kernel_rfl, fun _ _ _ _ h => h, ?v_4, Or.inl ⟨by rfl, ?hy_4⟩, by assumption, ?rest_4⟩
        case hy_4 => intro w hSw; (try dsimp only at hSw); (go_simp <;> rfl)
        simp only [Act.put, List.setIfInBounds_toArray, List.set_cons_zero, List.set_cons_succ]
        refine wpAnyH_ready (rs := [5]) (by kernel_rfl) (by simp) ?_
        refine' AllReadyH.cons ?hoAx (fun K hK => ?stepAx) (AllReadyH.nil)
        case hoAx => simp only [List.getElem?_toArray, List.getElem?_cons_succ, List.getElem?_cons_zero]; rfl
        case stepAx =>
          have y12 : W2.drew.cell? ⟨g12, 0, none⟩ = some (.int .i64 x.p.f0) := (blk_cell BK12.out 0).trans rfl
          have z12 : W2.drew.frozen? ⟨g12, 0, none⟩ = false := blk_frozen BK12.out 0
          go_simp
          obtain ⟨W3, hW3⟩ : ∃ W3, (W2.setCell ⟨g12, 0, none⟩ (.int .i64 en)).drew = W3 := ⟨_, rfl⟩
          rw [hW3]
          have BK3 := Aside0.mk (show W3.heap[g12]? = some (.cells #[.int .i64 en, .int .i64 x.p.f1, .int .i64 x.p.f2, .int .i64 x.p.f3, .int .i64 x.p.f4] 45 (0, 0)) from by rw [← hW3]; exact blk_put BK12.out 0 _ rfl)
          have D3 := Aside0.mk (show ∃ u, W3 = (W2.setCell ⟨g12, 0, none⟩ u).drew from ⟨_, hW3.symm⟩)
          have c83 : W3.cell? ⟨g8, 0, none⟩ = some (.int .i64 en) := by rw [← hW3]; exact (World.cell?_setCell_far _ _ _ _ (show g12 ≠ g8 by have := G12.out; have := HORD.out; omega)).trans c8
          refine hK.out _ _ c83 (fun hHeld3 => ?_)
          clear hK K hW3 y12 z12
          try simp only [Act.put, List.setIfInBounds_toArray, List.set_cons_zero, List.set_cons_succ]
          refine' tk_ (i := 6) ?ho_6 ?more_6
          case ho_6 => simp only [List.getElem?_toArray, List.getElem?_cons_succ, List.getElem?_cons_zero]; rfl
          refine ⟨by kernel_rfl, by kernel_rfl, by kernel_rfl, fun _ _ _ _ h => h, ?v_6, Or.inl ⟨by rfl, ?hy_6⟩, by assumption, ?rest_6⟩
          case hy_6 => intro w hSw; (try dsimp only at hSw); (go_simp <;> rfl)
          simp only [Act.put, List.setIfInBounds_toArray, List.set_cons_zero, List.set_cons_succ]
          refine wpAnyH_ready (rs := [7]) (by kernel_rfl) (by simp) ?_
          refine' AllReadyH.cons ?hoBx (fun K hK => ?stepBx) (AllReadyH.nil)
          case hoBx => simp only [List.getElem?_toArray, List.getElem?_cons_succ, List.getElem?_cons_zero]; rfl
          case stepBx =>
            have y12 : W3.cell? ⟨g12, 1, none⟩ = some (.int .i64 x.p.f1) := (blk_cell BK3.out 1).trans rfl
            have z12 : W3.frozen? ⟨g12, 1, none⟩ = false := blk_frozen BK3.out 1
            go_simp
            simp only [w64]
            obtain ⟨W4, hW4⟩ : ∃ W4, W3.setCell ⟨g12, 1, none⟩ (.int .i64 (wrap64 (en + wrap64 (wrap64 (x.to_ - x.fr) * x.sp)))) = W4 := ⟨_, rfl⟩
            rw [hW4]
            have BK4 := Aside0.mk (show W4.heap[g12]? = some (.cells #[.int .i64 en, .int .i64 (wrap64 (en + moreS x)), .int .i64 x.p.f2, .int .i64 x.p.f3, .int .i64 x.p.f4] 45 (0, 0)) from by rw [← hW4]; exact blk_put BK3.out 1 _ rfl)
            have HW4 := Aside0.mk (show ∀ k, k ≠ g12 → W4.heap[k]? = W2.heap[k]? from fun k hk => by obtain ⟨u, hu⟩ := D3.out; rw [← hW4]; exact (Below.heap_setCell W3 ⟨g12, 1, none⟩ _ k hk).trans (by rw [hu]; exact Below.heap_setCell W2 ⟨g12, 0, none⟩ _ k hk))
            have D4 := Aside0.mk (show Stp w3.heap.size w5.heap.size w6.heap.size W W4 ∧ W2.heap.size = W4.heap.size from by obtain ⟨u, hu⟩ := D3.out; rw [← hW4, hu]; exact ⟨Stp.set (Stp.drew (Stp.set (⟨KqI.of (D2.out.1.mono HNP.out.size) HSZ.out.2.1, D2.out.2⟩ : Stp w3.heap.size w5.heap.size w6.heap.size W W2) _ (show w3.heap.size ≤ g12 by have := HSZ.out; have := G12.out; omega) (.inr G12.out.1))) _ (show w3.heap.size ≤ g12 by have := HSZ.out; have := G12.out; omega) (.inr G12.out.1), by simp⟩)
            have c84 : W4.cell? ⟨g8, 0, none⟩ = some (.int .i64 en) := by rw [← hW4]; exact (World.cell?_setCell_far _ _ _ _ (show g12 ≠ g8 by have := G12.out; have := HORD.out; omega)).trans c83
            refine hK.out _ _ c84 (fun hHeld4 => ?_)
            clear hK K hW4 y12 z12 hHeld hHeld3 hHeld4 c83 c8
            try simp only [Act.put, List.setIfInBounds_toArray, List.set_cons_zero, List.set_cons_succ]
            refine wpAnyH_done (by kernel_rfl) ?_ _
            have R4 := Aside0.mk (Kd.R_step R2.out (fun k hk _ => HW4.out k hk.2))
            have B46 := Aside0.mk ((HW4.out g6 (by have := G12.out; have := HORD.out; omega)).trans B26.out)
            have B47 := Aside0.mk ((HW4.out g7 (by have := G12.out; have := HORD.out; omega)).trans B27.out)
            have B48 := Aside0.mk ((HW4.out g8 (by have := G12.out; have := HORD.out; omega)).trans B28.out)
            have B4x := Aside0.mk ((HW4.out Bx (fun e => NE12.out e.symm)).trans B2x.out)
            clear D2 D3 BK12 BK3 R2 B26 B27 B28 B2x HW4
            have c6 : W4.cell? ⟨g6, 0, none⟩ = some (.slice A n co) := (blk_cell B46.out 0).trans (by rw [← HNN.out]; rfl)
            have q0 : W4.cell? ⟨g12, 0, none⟩ = some (.int .i64 en) := (blk_cell BK4.out 0).trans rfl
            have q1 : W4.cell? ⟨g12, 1, none⟩ = some (.int .i64 (wrap64 (en + moreS x))) := (blk_cell BK4.out 1).trans rfl
            have q2 : W4.cell? ⟨g12, 2, none⟩ = some (.int .i64 x.p.f2) := (blk_cell BK4.out 2).trans rfl
            have q3 : W4.cell? ⟨g12, 3, none⟩ = some (.int .i64 x.p.f3) := (blk_cell BK4.out 3).trans rfl
            have q4 : W4.cell? ⟨g12, 4, none⟩ = some (.int .i64 x.p.f4) := (blk_cell BK4.out 4).trans rfl
            clear c84 e0 e1 e2 e3 e4 e5 e6 e7 l0 l1 l2 l3 l4 lf0 lf1 lf2 lf3 lf4
            gi_wp2_with (gi_at_builtin; refine listIn (some l) 98 (by rintro ⟨a_, w_, h_⟩; exact h_) _ _ _ rfl ?_; refine Kd.R_append k45 (w0 := W4) w6.heap.size rfl (.tmp 63) (.tmp 65) 31 45 (.agg #[.int .i64 0, .int .i64 0, .int .i64 0, .int .i64 0, .int .i64 0]) 40 rfl Try.underlying31 info45 rfl (by decide) (by decide) (.slice A n co) xs (⟨en, wrap64 (en + moreS x), x.p.f2, x.p.f3, x.p.f4⟩ : S45) [.int .i64 en, .int .i64 (wrap64 (en + moreS x)), .int .i64 x.p.f2, .int .i64 x.p.f3, .int .i64 x.p.f4] (fun _ => True) (fun _ => False) rfl rfl (k45_mkM _ _ _ (⟨en, wrap64 (en + moreS x), x.p.f2, x.p.f3, x.p.f4⟩ : S45)) (fun _ h => h.elim) (fun _ _ => trivial) (by rw [← HNN.out]; exact Kd.R_mono R4.out (fun _ _ => trivial)) (Below.refl _ _) (Nat.le_trans G12.out.1 (Nat.le_of_lt (blk_lt BK4.out))) (by have := HLEN.out; omega) ?_; intro v1 w1_ hR1 hb1 hg1 hat1; have R5 := Aside0.mk hR1; have HB5 := Aside0.mk hb1; have B56 := Aside0.mk ((hb1.block g6 (by have := HORD.out; omega)).trans B46.out); have B57 := Aside0.mk ((hb1.block g7 (by have := HORD.out; omega)).trans B47.out); have B58 := Aside0.mk ((hb1.block g8 (by have := HORD.out; omega)).trans B48.out); have B5x := Aside0.mk ((hg1.block Bx (blk_lt B4x.out) (by rw [← HNN.out]; exact Kd.R_ne R4.out B4x.out (by decide))).trans B4x.out); have D5 := Aside0.mk (show Stp w3.heap.size w5.heap.size w6.heap.size W w1_ from ⟨D4.out.1.1.trans (KqI.of hb1 HSZ.out.2.1), D4.out.1.2.trans (keeps_row hg1 (fun r hr_ => Kd.R_typed R4.out r (by rw [HNN.out]; exact hr_)))⟩); obtain ⟨A2, c2, hv2⟩ := Kd.R_slice hR1; rw [List.length_append, List.length_singleton, HNN.out] at hv2; subst hv2; clear hR1 hb1 hg1 hat1 c6 q0 q1 q2 q3 q4; have c6 : w1_.cell? ⟨g6, 0, none⟩ = some (.slice A n co) := (blk_cell B56.out 0).trans (by rw [← HNN.out]; rfl); have f6 := blk_frozen B56.out 0; have e0 : w1_.cell? ⟨Bx, 0, none⟩ = some (.int .i64 x.fr) := (blk_cell B5x.out 0).trans rfl; have e1 : w1_.cell? ⟨Bx, 1, none⟩ = some (.int .i64 x.to_) := (blk_cell B5x.out 1).trans rfl; have e2 : w1_.cell? ⟨Bx, 2, none⟩ = some (.int .i64 x.p.f0) := (blk_cell B5x.out 2).trans rfl; have e3 : w1_.cell? ⟨Bx, 3, none⟩ = some (.int .i64 x.p.f1) := (blk_cell B5x.out 3).trans rfl; have e4 : w1_.cell? ⟨Bx, 4, none⟩ = some (.int .i64 x.p.f2) := (blk_cell B5x.out 4).trans rfl; have e5 : w1_.cell? ⟨Bx, 5, none⟩ = some (.int .i64 x.p.f3) := (blk_cell B5x.out 5).trans rfl; have e6 : w1_.cell? ⟨Bx, 6, none⟩ = some (.int .i64 x.p.f4) := (blk_cell B5x.out 6).trans rfl; have e7 : w1_.cell? ⟨Bx, 7, none⟩ = some (.int .i64 x.sp) := (blk_cell B5x.out 7).trans rfl; have l0 : w1_.cell? ⟨g7, 0, none⟩ = some (.int .i64 la.f0) := (blk_cell B57.out 0).trans rfl; have lf0 := blk_frozen B57.out 0; have l1 : w1_.cell? ⟨g7, 1, none⟩ = some (.int .i64 la.f1) := (blk_cell B57.out 1).trans rfl; have lf1 := blk_frozen B57.out 1; have l2 : w1_.cell? ⟨g7, 2, none⟩ = some (.int .i64 la.f2) := (blk_cell B57.out 2).trans rfl; have lf2 := blk_frozen B57.out 2; have l3 : w1_.cell? ⟨g7, 3, none⟩ = some (.int .i64 la.f3) := (blk_cell B57.out 3).trans rfl; have lf3 := blk_frozen B57.out 3; have l4 : w1_.cell? ⟨g7, 4, none⟩ = some (.int .i64 la.f4) := (blk_cell B57.out 4).trans rfl; have lf4 := blk_frozen B57.out 4; have c8 : w1_.cell? ⟨g8, 0, none⟩ = some (.int .i64 en) := (blk_cell B58.out 0).trans rfl; have f8 := blk_frozen B58.out 0; have n67 : g6 ≠ g7 := (by have := HORD.out; omega); have n68 : g6 ≠ g8 := (by have := HORD.out; omega); have n6x : g6 ≠ Bx := (by have := HORD.out; have := HXX.out.2; omega); go_wp2)
            exact sec_round (D5.out.set (p := ⟨g6, 0, none⟩) _ HORD.out.2.1 (.inl (by have := HORD.out; show g6 < w5.heap.size; omega))) HNP.out HORD.out.1 HORD.out.2.1 HORD.out.2.2.1 HORD.out.2.2.2.1 HORD.out.2.2.2.2.1 HORD.out.2.2.2.2.2 (put_one B56.out) (R_low R5.out (p := ⟨g6, 0, none⟩) (show g6 < w6.heap.size by have := HORD.out; omega) _) (blk_far B57.out (p := ⟨g6, 0, none⟩) (show g7 ≠ g6 by have := HORD.out; omega) _) (blk_far B58.out (p := ⟨g6, 0, none⟩) (show g8 ≠ g6 by have := HORD.out; omega) _) HIF.out
    · obtain ⟨n, hn⟩ : ∃ n, xs.length = n := ⟨_, rfl⟩
      have HNN := Aside0.mk hn
      have HIF := Aside0.mk (show sf (pre ++ [x]) = (xs ++ [⟨en, wrap64 (en + moreS x), x.p.f2, x.p.f3, x.p.f4⟩], x.p, wrap64 (en + moreS x)) from by rw [HSF.out]; unfold sstep; dsimp only; rw [if_neg (fun h => hx0 h.1)])
      rw [hn] at c6 hx0
      have k1 := eq_false hx0
      have k2 := eq_false (show ¬ (0 : Int) < (n : Int) by omega)
      have k2b := eq_false (show ¬ (n : Int) > 0 by omega)
      clear hx0 hn
      gi_wp2
      obtain ⟨W2, hW2⟩ : ∃ W2, W.alloc (.cells #[.int .i64 x.p.f0, .int .i64 x.p.f1, .int .i64 x.p.f2, .int .i64 x.p.f3, .int .i64 x.p.f4] 45) = W2 := ⟨_, rfl⟩
      obtain ⟨g12, hg12⟩ : ∃ g12, W.heap.size = g12 := ⟨_, rfl⟩
      rw [hW2, hg12]
      have D2 := Aside0.mk (show Below W.heap.size W W2 ∧ KeepsOthers W W2 from by rw [← hW2]; exact ⟨(Below.refl _ W).alloc (Nat.le_refl _) _, KeepsOthers.alloc _ _⟩)
      have BK12 := Aside0.mk (show W2.heap[g12]? = some (.cells #[.int .i64 x.p.f0, .int .i64 x.p.f1, .int .i64 x.p.f2, .int .i64 x.p.f3, .int .i64 x.p.f4] 45 (0, 0)) from by rw [← hW2, ← hg12]; exact World.alloc_heap_new W _)
      have R2 := Aside0.mk (Kd.R_below (Kd.R_elderB HRR.out g12 (Nat.le_of_eq hg12)) D2.out.1)
      have G12 := Aside0.mk (show w6.heap.size ≤ g12 ∧ g12 < W2.heap.size ∧ W.heap.size ≤ g12 from ⟨by rw [← hg12]; exact HNP.out.size, blk_lt BK12.out, Nat.le_of_eq hg12⟩)
      have B26 := Aside0.mk (blk_below (show W.heap[g6]? = _ from H6.out) D2.out.1)
      have B27 := Aside0.mk (blk_below H7.out D2.out.1)
      have B28 := Aside0.mk (blk_below (show W.heap[g8]? = _ from H8.out) D2.out.1)
      have B2x := Aside0.mk (blk_below HXX.out.1 D2.out.1)
      have NE12 := Aside0.mk (show g12 ≠ Bx from fun e => absurd (blk_lt HXX.out.1) (by rw [← e]; have := G12.out.2.2; omega))
      clear hW2 hg12 c6 f6 c8 f8
      have c8 : W2.cell? ⟨g8, 0, none⟩ = some (.int .i64 en) := (blk_cell B28.out 0).trans rfl
      refine regionIn_held (ro := some l) (S := (fun w' => w'.cell? ⟨g8, 0, none⟩ = some (.int .i64 en))) 98 (by rintro ⟨a_, w_, h_⟩; exact h_) (by kernel_rfl) (by kernel_rfl) ?_ (fun hHeld => ?_)
      · exact c8
      refine' tk_ (i := 0) ?ho_20 ?more_20
      case ho_20 => simp only [List.getElem?_toArray, List.getElem?_cons_succ, List.getElem?_cons_zero]; rfl
      refine ⟨by kernel_rfl, by kernel_rfl, by kernel_rfl, fun _ _ _ _ h => h, ?v_20, Or.inl ⟨by rfl, ?hy_20⟩, by assumption, ?rest_20⟩
      case hy_20 => intro w hSw; (try dsimp only at hSw); (go_simp <;> rfl)
      simp only [Act.put, List.setIfInBounds_toArray, List.set_cons_zero, List.set_cons_succ]
      refine' tk_ (i := 1) ?ho_21 ?more_21
      case ho_21 => simp only [List.getElem?_toArray, List.getElem?_cons_succ, List.getElem?_cons_zero]; rfl
      refine ⟨by kernel_rfl, by kernel_rfl, by kernel_rfl, fun _ _ _ _ h => h, ?v_21, Or.inl ⟨by rfl, ?hy_21⟩, by assumption, ?rest_21⟩
      case hy_21 => intro w hSw; (try dsimp only at hSw); (go_simp <;> rfl)
      simp only [Act.put, List.setIfInBounds_toArray, List.set_cons_zero, List.set_cons_succ]
      refine' tk_ (i := 2) ?ho_22 ?more_22
      case ho_22 => simp only [List.getElem?_toArray, List.getElem?_cons_succ, List.getElem?_cons_zero]; rfl
      refine ⟨by kernel_rfl, by kernel_rfl, by kernel_rfl, fun _ _ _ _ h => h, ?v_22, Or.inl ⟨by rfl, ?hy_22⟩, by assumption, ?rest_22⟩
      case hy_22 => intro w hSw; (try dsimp only at hSw); (go_simp <;> rfl)
      simp only [Act.put, List.setIfInBounds_toArray, List.set_cons_zero, List.set_cons_succ]
      refine' tk_ (i := 3) ?ho_23 ?more_23
      case ho_23 => simp only [List.getElem?_toArray, List.getElem?_cons_succ, List.getElem?_cons_zero]; rfl
      refine ⟨by kernel_rfl, by kernel_rfl, by kernel_rfl, fun _ _ _ _ h => h, ?v_23, Or.inl ⟨by rfl, ?hy_23⟩, by assumption, ?rest_23⟩
      case hy_23 => intro w hSw; (try dsimp only at hSw); (go_simp <;> rfl)
      simp only [Act.put, List.setIfInBounds_toArray, List.set_cons_zero, List.set_cons_succ]
      refine' tk_ (i := 4) ?ho_24 ?more_24
      case ho_24 => simp only [List.getElem?_toArray, List.getElem?_cons_succ, List.getElem?_cons_zero]; rfl
      refine ⟨by kernel_rfl, by kernel_rfl, by kernel_rfl, fun _ _ _ _ h => h, ?v_24, Or.inl ⟨by rfl, ?hy_24⟩, by assumption, ?rest_24⟩
      case hy_24 => intro w hSw; (try dsimp only at hSw); (go_simp <;> rfl)
      simp only [Act.put, List.setIfInBounds_toArray, List.set_cons_zero, List.set_cons_succ]
      refine wpAnyH_ready (rs := [5]) (by kernel_rfl) (by simp) ?_
      refine' AllReadyH.cons ?hoAy (fun K hK => ?stepAy) (AllReadyH.nil)
      case hoAy => simp only [List.getElem?_toArray, List.getElem?_cons_succ, List.getElem?_cons_zero]; rfl
      case stepAy =>
        have y12 : W2.drew.cell? ⟨g12, 0, none⟩ = some (.int .i64 x.p.f0) := (blk_cell BK12.out 0).trans rfl
        have z12 : W2.drew.frozen? ⟨g12, 0, none⟩ = false := blk_frozen BK12.out 0
        go_simp
        obtain ⟨W3, hW3⟩ : ∃ W3, (W2.setCell ⟨g12, 0, none⟩ (.int .i64 en)).drew = W3 := ⟨_, rfl⟩
        rw [hW3]
        have BK3 := Aside0.mk (show W3.heap[g12]? = some (.cells #[.int .i64 en, .int .i64 x.p.f1, .int .i64 x.p.f2, .int .i64 x.p.f3, .int .i64 x.p.f4] 45 (0, 0)) from by rw [← hW3]; exact blk_put BK12.out 0 _ rfl)
        have D3 := Aside0.mk (show ∃ u, W3 = (W2.setCell ⟨g12, 0, none⟩ u).drew from ⟨_, hW3.symm⟩)
        have c83 : W3.cell? ⟨g8, 0, none⟩ = some (.int .i64 en) := by rw [← hW3]; exact (World.cell?_setCell_far _ _ _ _ (show g12 ≠ g8 by have := G12.out; have := HORD.out; omega)).trans c8
        refine hK.out _ _ c83 (fun hHeld3 => ?_)
        clear hK K hW3 y12 z12
        try simp only [Act.put, List.setIfInBounds_toArray, List.set_cons_zero, List.set_cons_succ]
        refine' tk_ (i := 6) ?ho_26 ?more_26
        case ho_26 => simp only [List.getElem?_toArray, List.getElem?_cons_succ, List.getElem?_cons_zero]; rfl
        refine ⟨by kernel_rfl, by kernel_rfl, by kernel_rfl, fun _ _ _ _ h => h, ?v_26, Or.inl ⟨by rfl, ?hy_26⟩, by assumption, ?rest_26⟩
        case hy_26 => intro w hSw; (try dsimp only at hSw); (go_simp <;> rfl)
        simp only [Act.put, List.setIfInBounds_toArray, List.set_cons_zero, List.set_cons_succ]
        refine wpAnyH_ready (rs := [7]) (by kernel_rfl) (by simp) ?_
        refine' AllReadyH.cons ?hoBy (fun K hK => ?stepBy) (AllReadyH.nil)
        case hoBy => simp only [List.getElem?_toArray, List.getElem?_cons_succ, List.getElem?_cons_zero]; rfl
        case stepBy =>
          have y12 : W3.cell? ⟨g12, 1, none⟩ = some (.int .i64 x.p.f1) := (blk_cell BK3.out 1).trans rfl
          have z12 : W3.frozen? ⟨g12, 1, none⟩ = false := blk_frozen BK3.out 1
          go_simp
          simp only [w64]
          obtain ⟨W4, hW4⟩ : ∃ W4, W3.setCell ⟨g12, 1, none⟩ (.int .i64 (wrap64 (en + wrap64 (wrap64 (x.to_ - x.fr) * x.sp)))) = W4 := ⟨_, rfl⟩
          rw [hW4]
          have BK4 := Aside0.mk (show W4.heap[g12]? = some (.cells #[.int .i64 en, .int .i64 (wrap64 (en + moreS x)), .int .i64 x.p.f2, .int .i64 x.p.f3, .int .i64 x.p.f4] 45 (0, 0)) from by rw [← hW4]; exact blk_put BK3.out 1 _ rfl)
          have HW4 := Aside0.mk (show ∀ k, k ≠ g12 → W4.heap[k]? = W2.heap[k]? from fun k hk => by obtain ⟨u, hu⟩ := D3.out; rw [← hW4]; exact (Below.heap_setCell W3 ⟨g12, 1, none⟩ _ k hk).trans (by rw [hu]; exact Below.heap_setCell W2 ⟨g12, 0, none⟩ _ k hk))
          have D4 := Aside0.mk (show Stp w3.heap.size w5.heap.size w6.heap.size W W4 ∧ W2.heap.size = W4.heap.size from by obtain ⟨u, hu⟩ := D3.out; rw [← hW4, hu]; exact ⟨Stp.set (Stp.drew (Stp.set (⟨KqI.of (D2.out.1.mono HNP.out.size) HSZ.out.2.1, D2.out.2⟩ : Stp w3.heap.size w5.heap.size w6.heap.size W W2) _ (show w3.heap.size ≤ g12 by have := HSZ.out; have := G12.out; omega) (.inr G12.out.1))) _ (show w3.heap.size ≤ g12 by have := HSZ.out; have := G12.out; omega) (.inr G12.out.1), by simp⟩)
          have c84 : W4.cell? ⟨g8, 0, none⟩ = some (.int .i64 en) := by rw [← hW4]; exact (World.cell?_setCell_far _ _ _ _ (show g12 ≠ g8 by have := G12.out; have := HORD.out; omega)).trans c83
          refine hK.out _ _ c84 (fun hHeld4 => ?_)
          clear hK K hW4 y12 z12 hHeld hHeld3 hHeld4 c83 c8
          try simp only [Act.put, List.setIfInBounds_toArray, List.set_cons_zero, List.set_cons_succ]
          refine wpAnyH_done (by kernel_rfl) ?_ _
          have R4 := Aside0.mk (Kd.R_step R2.out (fun k hk _ => HW4.out k hk.2))
          have B46 := Aside0.mk ((HW4.out g6 (by have := G12.out; have := HORD.out; omega)).trans B26.out)
          have B47 := Aside0.mk ((HW4.out g7 (by have := G12.out; have := HORD.out; omega)).trans B27.out)
          have B48 := Aside0.mk ((HW4.out g8 (by have := G12.out; have := HORD.out; omega)).trans B28.out)
          have B4x := Aside0.mk ((HW4.out Bx (fun e => NE12.out e.symm)).trans B2x.out)
          clear D2 D3 BK12 BK3 R2 B26 B27 B28 B2x HW4
          have c6 : W4.cell? ⟨g6, 0, none⟩ = some (.slice A n co) := (blk_cell B46.out 0).trans (by rw [← HNN.out]; rfl)
          have q0 : W4.cell? ⟨g12, 0, none⟩ = some (.int .i64 en) := (blk_cell BK4.out 0).trans rfl
          have q1 : W4.cell? ⟨g12, 1, none⟩ = some (.int .i64 (wrap64 (en + moreS x))) := (blk_cell BK4.out 1).trans rfl
          have q2 : W4.cell? ⟨g12, 2, none⟩ = some (.int .i64 x.p.f2) := (blk_cell BK4.out 2).trans rfl
          have q3 : W4.cell? ⟨g12, 3, none⟩ = some (.int .i64 x.p.f3) := (blk_cell BK4.out 3).trans rfl
          have q4 : W4.cell? ⟨g12, 4, none⟩ = some (.int .i64 x.p.f4) := (blk_cell BK4.out 4).trans rfl
          clear c84 e0 e1 e2 e3 e4 e5 e6 e7 l0 l1 l2 l3 l4 lf0 lf1 lf2 lf3 lf4
          gi_wp2_with (gi_at_builtin; refine listIn (some l) 98 (by rintro ⟨a_, w_, h_⟩; exact h_) _ _ _ rfl ?_; refine Kd.R_append k45 (w0 := W4) w6.heap.size rfl (.tmp 63) (.tmp 65) 31 45 (.agg #[.int .i64 0, .int .i64 0, .int .i64 0, .int .i64 0, .int .i64 0]) 40 rfl Try.underlying31 info45 rfl (by decide) (by decide) (.slice A n co) xs (⟨en, wrap64 (en + moreS x), x.p.f2, x.p.f3, x.p.f4⟩ : S45) [.int .i64 en, .int .i64 (wrap64 (en + moreS x)), .int .i64 x.p.f2, .int .i64 x.p.f3, .int .i64 x.p.f4] (fun _ => True) (fun _ => False) rfl rfl (k45_mkM _ _ _ (⟨en, wrap64 (en + moreS x), x.p.f2, x.p.f3, x.p.f4⟩ : S45)) (fun _ h => h.elim) (fun _ _ => trivial) (by rw [← HNN.out]; exact Kd.R_mono R4.out (fun _ _ => trivial)) (Below.refl _ _) (Nat.le_trans G12.out.1 (Nat.le_of_lt (blk_lt BK4.out))) (by have := HLEN.out; omega) ?_; intro v1 w1_ hR1 hb1 hg1 hat1; have R5 := Aside0.mk hR1; have HB5 := Aside0.mk hb1; have B56 := Aside0.mk ((hb1.block g6 (by have := HORD.out; omega)).trans B46.out); have B57 := Aside0.mk ((hb1.block g7 (by have := HORD.out; omega)).trans B47.out); have B58 := Aside0.mk ((hb1.block g8 (by have := HORD.out; omega)).trans B48.out); have B5x := Aside0.mk ((hg1.block Bx (blk_lt B4x.out) (by rw [← HNN.out]; exact Kd.R_ne R4.out B4x.out (by decide))).trans B4x.out); have D5 := Aside0.mk (show Stp w3.heap.size w5.heap.size w6.heap.size W w1_ from ⟨D4.out.1.1.trans (KqI.of hb1 HSZ.out.2.1), D4.out.1.2.trans (keeps_row hg1 (fun r hr_ => Kd.R_typed R4.out r (by rw [HNN.out]; exact hr_)))⟩); obtain ⟨A2, c2, hv2⟩ := Kd.R_slice hR1; rw [List.length_append, List.length_singleton, HNN.out] at hv2; subst hv2; clear hR1 hb1 hg1 hat1 c6 q0 q1 q2 q3 q4; have c6 : w1_.cell? ⟨g6, 0, none⟩ = some (.slice A n co) := (blk_cell B56.out 0).trans (by rw [← HNN.out]; rfl); have f6 := blk_frozen B56.out 0; have e0 : w1_.cell? ⟨Bx, 0, none⟩ = some (.int .i64 x.fr) := (blk_cell B5x.out 0).trans rfl; have e1 : w1_.cell? ⟨Bx, 1, none⟩ = some (.int .i64 x.to_) := (blk_cell B5x.out 1).trans rfl; have e2 : w1_.cell? ⟨Bx, 2, none⟩ = some (.int .i64 x.p.f0) := (blk_cell B5x.out 2).trans rfl; have e3 : w1_.cell? ⟨Bx, 3, none⟩ = some (.int .i64 x.p.f1) := (blk_cell B5x.out 3).trans rfl; have e4 : w1_.cell? ⟨Bx, 4, none⟩ = some (.int .i64 x.p.f2) := (blk_cell B5x.out 4).trans rfl; have e5 : w1_.cell? ⟨Bx, 5, none⟩ = some (.int .i64 x.p.f3) := (blk_cell B5x.out 5).trans rfl; have e6 : w1_.cell? ⟨Bx, 6, none⟩ = some (.int .i64 x.p.f4) := (blk_cell B5x.out 6).trans rfl; have e7 : w1_.cell? ⟨Bx, 7, none⟩ = some (.int .i64 x.sp) := (blk_cell B5x.out 7).trans rfl; have l0 : w1_.cell? ⟨g7, 0, none⟩ = some (.int .i64 la.f0) := (blk_cell B57.out 0).trans rfl; have lf0 := blk_frozen B57.out 0; have l1 : w1_.cell? ⟨g7, 1, none⟩ = some (.int .i64 la.f1) := (blk_cell B57.out 1).trans rfl; have lf1 := blk_frozen B57.out 1; have l2 : w1_.cell? ⟨g7, 2, none⟩ = some (.int .i64 la.f2) := (blk_cell B57.out 2).trans rfl; have lf2 := blk_frozen B57.out 2; have l3 : w1_.cell? ⟨g7, 3, none⟩ = some (.int .i64 la.f3) := (blk_cell B57.out 3).trans rfl; have lf3 := blk_frozen B57.out 3; have l4 : w1_.cell? ⟨g7, 4, none⟩ = some (.int .i64 la.f4) := (blk_cell B57.out 4).trans rfl; have lf4 := blk_frozen B57.out 4; have c8 : w1_.cell? ⟨g8, 0, none⟩ = some (.int .i64 en) := (blk_cell B58.out 0).trans rfl; have f8 := blk_frozen B58.out 0; have n67 : g6 ≠ g7 := (by have := HORD.out; omega); have n68 : g6 ≠ g8 := (by have := HORD.out; omega); have n6x : g6 ≠ Bx := (by have := HORD.out; have := HXX.out.2; omega); go_wp2)
          exact sec_round (D5.out.set (p := ⟨g6, 0, none⟩) _ HORD.out.2.1 (.inl (by have := HORD.out; show g6 < w5.heap.size; omega))) HNP.out HORD.out.1 HORD.out.2.1 HORD.out.2.2.1 HORD.out.2.2.2.1 HORD.out.2.2.2.2.1 HORD.out.2.2.2.2.2 (put_one B56.out) (R_low R5.out (p := ⟨g6, 0, none⟩) (show g6 < w6.heap.size by have := HORD.out; omega) _) (blk_far B57.out (p := ⟨g6, 0, none⟩) (show g7 ≠ g6 by have := HORD.out; omega) _) (blk_far B58.out (p := ⟨g6, 0, none⟩) (show g8 ≠ g6 by have := HORD.out; omega) _) HIF.out
  case done =>
    rintro D ys W hD rfl ⟨⟨v, b6, hR⟩, h7, b8, hB1⟩ hK
    have HEND := Aside0.mk ((HB0.out.trans (HZ6.out.mono HB0.out.size)).trans (hB1.trans (belowK_b (w := w6) (Nat.le_trans HSZ.out.1 HSZ.out.2.1) W D _ (.deferred none) hD hK rfl rfl)))
    have HRE := Aside0.mk (Kd.R_lower (R_frame hR (grownBy_putObj' W D (.deferred none)) (fun r e => by cases e; exact ⟨_, hK, rfl⟩)) (Nat.le_trans HSZ.out.1 HSZ.out.2.1))
    have HLEN := Aside0.mk (show (sf (US c P)).1.length ≤ 500 from by have h1_ := sf_len (US c P) ([], z45, 0); have h2_ := US_len c P HN.out.1 HN.out.2.1 HN.out.2.2; simp only [List.length_nil] at h1_; unfold sf; omega)
    have c8 := b8.cell
    have f8 := b8.frozen
    obtain ⟨A, co, rfl, hlc⟩ : ∃ A co, v = .slice A (sf (US c P)).1.length co ∧ (sf (US c P)).1.length ≤ co := by obtain ⟨A, co, h1, h2, _⟩ := Kd.R_reads hR; exact ⟨A, co, h1, h2⟩
    have c6 := b6.cell
    clear b6 b8 h7 hlc hR
    have HSC := Aside0.mk (show secF c P = if (sf (US c P)).2.2 > 17179869184 then ([], 21) else ((sf (US c P)).1, 0) from rfl)
    obtain ⟨⟨xs, la, en⟩, hsf⟩ : ∃ r, sf (US c P) = r := ⟨_, rfl⟩
    rw [hsf] at c8 c6 HLEN HSC HRE
    dsimp only at c8 c6 HLEN HSC HRE
    clear hsf
    rw [HT.out]
    by_cases hen : en > 17179869184
    · have p4 := eq_true hen
      have p5 := eq_true (show 17179869184 < en by omega)
      have HSC2 := Aside0.mk (show secF c P = ([], 21) from by rw [HSC.out, if_pos hen])
      clear hen
      go_wp2
      refine ⟨by simp, .inl ⟨_, _, rfl, run_takeDeferred hK, ?_⟩⟩
      rw [HSC2.out]
      exact ⟨.tuple #[.slice none 0 0, .int .i64 21], by simp [results, Try.results5, go_sem], _, rfl, Kd.R_nil _ _ _ _ _, HEND.out⟩
    · have p4 := eq_false hen
      have p5 := eq_false (show ¬ 17179869184 < en by omega)
      have HSC2 := Aside0.mk (show secF c P = (xs, 0) from by rw [HSC.out, if_neg hen])
      have p6 := eq_false (show ¬ (512 : Int) < (xs.length : Int) by have := HLEN.out; omega)
      have p7 := eq_false (show ¬ (xs.length : Int) > 512 by have := HLEN.out; omega)
      have p8 := eq_false (show ¬ 512 < xs.length by have := HLEN.out; omega)
      clear hen
      go_wp2
      refine ⟨by simp, .inl ⟨_, _, rfl, run_takeDeferred hK, ?_⟩⟩
      rw [HSC2.out]
      exact ⟨.tuple #[.slice A xs.length co, .int .i64 0], by simp [results, Try.results5, go_sem], _, rfl, HRE.out, HEND.out⟩
  case stop =>
    rintro D c pre W _ _ h _
    exact h.elim
end Go.Proofs.Ytebifddfgimnlaa.Rl
end
section
/- Sections of a course that is not good. -/
namespace Go.Proofs.Ytebifddfgimnlaa.Rl
open Go.RowKit Go.Proofs.Ytebifddfgimnlaa.PX Go.Proofs.Ytebifddfgimnlaa.Rd Go.Proofs.YtebifddfgimnlaaW.PrintWords Go.Proofs.YtebifddfgimnlaaW.PrintLast
set_option linter.unusedVariables false
set_option linter.unusedSimpArgs false
set_option maxHeartbeats 4000000 in
set_option maxRecDepth 100000 in
theorem sections_err (c : Cs) (a : CsA) (w : World) (hc : CsC w c a) (hls : c.sw.length ≤ 100) (hlq : c.pac.length ≤ 100) (hne : (phF c).2 ≠ 0) :
    Calls Try.prog 5 #[.agg (csV c a)] w fun e w' => e = .returned (.tuple #[.slice none 0 0, .int .i64 (phF c).2]) ∧ Below w.heap.size w w' := by
  have HC := Aside0.mk hc
  have HN := Aside0.mk (show c.sw.length ≤ 100 ∧ c.pac.length ≤ 100 from ⟨hls, hlq⟩)
  obtain ⟨r2, hr2⟩ : ∃ r, (phF c).2 = r := ⟨_, rfl⟩
  have HR2 := Aside0.mk hr2
  rw [hr2] at hne
  rw [hr2]
  have k1 : (r2 == 0) = false := beq_eq_false_iff_ne.2 hne
  have k2 := eq_false hne
  clear hc hls hlq hr2 hne
  obtain ⟨X2, y2, X3, y3, X4, y4⟩ := a
  unfold csV
  go_enter Try.func5, Try.ntmps5
  go_wp2_with (first
      | ((with_reducible refine gate_dst (N := 1) rfl ?_); go_must (refine box_event ?hg (N := 1) ?hd (cs := #[.int .i64 c.th, .int .i64 c.cl, .slice X2 c.acts.length y2, .slice X3 c.pac.length y3, .slice X4 c.sw.length y4, .int .i64 c.en]) (t := 28) ?hr ?_; (case hd => rfl); (case hg => rfl); (case hr => first | (go_simp; done) | (go_simp; rfl)); intro g1 hg w1 hbox hb; have BK2 := Aside0.mk hbox; have HB := Aside0.mk hb; have HCC := Aside0.mk (HC.out.below hb); have x0 : w1.cell? ⟨g1, 0, none⟩ = some (.int .i64 c.th) := (blk_cell BK2.out 0).trans rfl; have x1 : w1.cell? ⟨g1, 1, none⟩ = some (.int .i64 c.cl) := (blk_cell BK2.out 1).trans rfl; have x2 : w1.cell? ⟨g1, 2, none⟩ = some (.slice X2 c.acts.length y2) := (blk_cell BK2.out 2).trans rfl; have x3 : w1.cell? ⟨g1, 3, none⟩ = some (.slice X3 c.pac.length y3) := (blk_cell BK2.out 3).trans rfl; have x4 : w1.cell? ⟨g1, 4, none⟩ = some (.slice X4 c.sw.length y4) := (blk_cell BK2.out 4).trans rfl; have x5 : w1.cell? ⟨g1, 5, none⟩ = some (.int .i64 c.en) := (blk_cell BK2.out 5).trans rfl; clear hbox hb hg HC))
      | (go_at_call 11; go_must (refine (phases_calls c ⟨X2, y2, X3, y3, X4, y4⟩ _ HCC.out (by have := HN.out; omega) (by have := HN.out; omega)).mono ?_; rw [HR2.out]; rintro e w3 ⟨v0, rfl, hr, hb⟩; obtain ⟨Ap, cp, rfl, hcp, hC⟩ := Kd.R_reads hr; have nHB := Aside0.mk (below_step HB.out hb); have nBK2 := Aside0.mk (blk_below BK2.out hb); have nHCC := Aside0.mk (HCC.out.below hb); clear x0 x1 x2 x3 x4 x5; clear HB; clear BK2; clear HCC; have HB := nHB; clear nHB; have BK2 := nBK2; clear nBK2; have HCC := nHCC; clear nHCC; have x0 : w3.cell? ⟨g1, 0, none⟩ = some (.int .i64 c.th) := (blk_cell BK2.out 0).trans rfl; have x1 : w3.cell? ⟨g1, 1, none⟩ = some (.int .i64 c.cl) := (blk_cell BK2.out 1).trans rfl; have x2 : w3.cell? ⟨g1, 2, none⟩ = some (.slice X2 c.acts.length y2) := (blk_cell BK2.out 2).trans rfl; have x3 : w3.cell? ⟨g1, 3, none⟩ = some (.slice X3 c.pac.length y3) := (blk_cell BK2.out 3).trans rfl; have x4 : w3.cell? ⟨g1, 4, none⟩ = some (.slice X4 c.sw.length y4) := (blk_cell BK2.out 4).trans rfl; have x5 : w3.cell? ⟨g1, 5, none⟩ = some (.int .i64 c.en) := (blk_cell BK2.out 5).trans rfl; clear hb hr hC hcp)))
  exact bodyPost_ret (v := .tuple #[.slice none 0 0, .int .i64 r2]) (by simp [results, Try.results5, go_sem]) rfl ⟨rfl, HB.out⟩
end Go.Proofs.Ytebifddfgimnlaa.Rl
end
