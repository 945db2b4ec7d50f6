/- The reference's queue. -/
import Derived.Test.YtnpndjdkdcbjcaaQ12
namespace Go.Proofs.Ytnpndjdkdcbjcaa.Pq
open Go.RowKit Go.Proofs.Ytnpndjdkdcbjcaa.PX Go.Proofs.YtnpndjdkdcbjcaaW.PrintWords Go.Proofs.YtnpndjdkdcbjcaaW.PrintLast Go.Proofs.YtnpndjdkdcbjcaaW.PrintMore
set_option linter.unusedVariables false
set_option linter.unusedSimpArgs false
/-- The reference's queue at the block g: its mode, its values in the order in which they came; what it leads to lies in F. -/
def RQ (w : World) (B g : Nat) (F : Nat → Prop) (mode : Int) (L : List S27) : Prop :=
  (B ≤ g ∧ F g) ∧ L.length ≤ 1000 ∧ ∃ A c, w.heap[g]? = some (.cells #[.int .i64 mode, .slice A L.length c] 33 (0, 0)) ∧ L.length ≤ c ∧ Kd.F k27 w (fun k => k ≠ g ∧ F k) A L.length L
section
variable {w w' : World} {B g : Nat} {F F' : Nat → Prop} {mode : Int} {L : List S27}
theorem RQ.lt (q : RQ w B g F mode L) : g < w.heap.size ∧ B ≤ g := by
  obtain ⟨hb, hl, A, c, hg, _⟩ := q
  exact ⟨blk_lt hg, hb.1⟩
theorem RQ.keep (q : RQ w B g F mode L) (hB : ∀ k, k < w.heap.size → F k → w'.heap[k]? = w.heap[k]?) : RQ w' B g F mode L := by
  obtain ⟨hb, hl, A, c, hg, hc, hF⟩ := q
  exact ⟨hb, hl, A, c, (hB g (blk_lt hg) hb.2).trans hg, hc, Kd.F_step hF (fun k hk hlt => hB k hlt hk.2)⟩
theorem RQ.below (q : RQ w B g F mode L) (hB : Below w.heap.size w w') : RQ w' B g F mode L := q.keep (fun k hk _ => hB.block k hk)
theorem RQ.narrow (q : RQ w B g F mode L) (hF : ∀ k, k < w.heap.size → F k → F' k) : RQ w B g F' mode L := by
  obtain ⟨hb, hl, A, c, hg, hc, hFF⟩ := q
  exact ⟨⟨hb.1, hF g (blk_lt hg) hb.2⟩, hl, A, c, hg, hc, Kd.F_mono (Kd.F_bound hFF) (fun k hk => ⟨hk.1.1, hF k hk.2 hk.1.2⟩)⟩
end
theorem refLess (mode : Int) (a b : S27) (w : World) : Calls Try.prog 45 #[.int .i64 mode, .agg #[.int .i64 a.f0, .int .i64 a.f1], .agg #[.int .i64 b.f0, .int .i64 b.f1]] w fun e w' => e = .returned (.bool (ltM mode a b)) ∧ Below w.heap.size w w' := by
  refine papermillref11_Less.calls mode a.f0 a.f1 b.f0 b.f1 _ w ?_
  unfold papermillref11_Less.f ltM keyM
  split
  · rfl
  · split
    · rw [decide_eq_decide.2 (show a.f0 > b.f0 ↔ -a.f0 < -b.f0 by omega)]
    · split
      · rfl
      · rfl
set_option maxHeartbeats 2000000 in
set_option maxRecDepth 100000 in
theorem first_calls (B g : Nat) (F : Nat → Prop) (mode : Int) (L : List S27) (w : World) (hQ : RQ w B g F mode L) :
    Calls Try.prog 37 #[.pointer (some ⟨g, 0, none⟩)] w fun e w' => e = .returned (.int .i64 (firstI (ltM mode) z27 L : Nat)) ∧ Below w.heap.size w w' := by
  have HQ := Aside0.mk hQ
  have HL := Aside0.mk hQ.2.1
  have HB := Aside0.mk (Below.refl w.heap.size w)
  obtain ⟨lt, hlt⟩ : ∃ lt, ltM mode = lt := ⟨_, rfl⟩
  have HLS := Aside0.mk (show ∀ (a b : S27) (w : World), Calls Try.prog 45 #[.int .i64 mode, .agg #[.int .i64 a.f0, .int .i64 a.f1], .agg #[.int .i64 b.f0, .int .i64 b.f1]] w fun e w' => e = .returned (.bool (lt a b)) ∧ Below w.heap.size w w' from hlt ▸ refLess mode)
  rw [hlt]
  clear hQ hlt
  go_enter Try.func37, Try.ntmps37
  go_wp2
  go_loopg [3, 4] L.length (fun kq v3 v4 wr => ∃ (i n best : Nat), v4 = .int .i64 (i : Int) ∧ v3 = .int .i64 (best : Int) ∧ Aside0 (bestS lt z27 L n i best = firstI lt z27 L) ∧ Aside0 (n = L.length - i ∧ best < i ∧ i ≤ 1001 ∧ n ≤ kq) ∧ Aside0 (RQ wr B g F mode L) ∧ Aside0 (Below w.heap.size w wr))
  case atStart => exact ⟨1, L.length - 1, 0, rfl, rfl, ⟨rfl⟩, ⟨by omega⟩, HQ, HB⟩
  case round =>
    clear HQ HB
    obtain ⟨i, n, best, rfl, rfl, HS, HI, HQ, HB⟩ := hrel
    obtain ⟨hb0, hl0, A, c, hg, hc, hF⟩ := HQ.out
    have f1 : wr.cell? ⟨g, 1, none⟩ = some (.slice A L.length c) := (blk_cell hg 1).trans rfl
    by_cases ci : i < L.length
    · have hbest : best < L.length := by have := HI.out; omega
      obtain ⟨ad, rfl, e1, e2⟩ := row_at (Kd.F_now hF) i ci
      obtain ⟨ad', hae, e3, e4⟩ := row_at (Kd.F_now hF) best hbest
      cases hae
      obtain ⟨n', hn'⟩ : ∃ n', n = n' + 1 := ⟨n - 1, by have := HI.out; omega⟩
      have HS2 := Aside0.mk (show bestS lt z27 L n' (i + 1) (if lt (L.getD i z27) (L.getD best z27) = true then i else best) = firstI lt z27 L from by have h_ := HS.out; rw [hn', bestS] at h_; exact h_)
      obtain ⟨x, hx⟩ : ∃ x, L.getD i z27 = x := ⟨_, rfl⟩
      obtain ⟨y, hy⟩ : ∃ y, L.getD best z27 = y := ⟨_, rfl⟩
      rw [hx] at e1 e2 HS2
      rw [hy] at e3 e4 HS2
      have HI2 := Aside0.mk (show n' = L.length - (i + 1) ∧ n = n' + 1 ∧ i < L.length ∧ best < i from by have := HI.out; omega)
      have g0 : wr.drew.cell? ⟨g, 0, none⟩ = some (.int .i64 mode) := (blk_cell hg 0).trans rfl
      have g1 : wr.drew.cell? ⟨g, 1, none⟩ = some (.slice (some ad) L.length c) := f1
      have g2 : wr.drew.cell? (ad.add (i * 2)) = some (.int .i64 x.f0) := e1
      have g3 : wr.drew.cell? ⟨(ad.add (i * 2)).block, (ad.add (i * 2)).off + 1, none⟩ = some (.int .i64 x.f1) := e2
      have g4 : wr.drew.cell? (ad.add (best * 2)) = some (.int .i64 y.f0) := e3
      have g5 : wr.drew.cell? ⟨(ad.add (best * 2)).block, (ad.add (best * 2)).off + 1, none⟩ = some (.int .i64 y.f1) := e4
      have p1 := eq_true (show (i : Int) < (L.length : Int) by omega)
      have p2 := eq_true (show (best : Int) < (L.length : Int) by omega)
      have p3 := eq_true hbest
      have q1 : wrap64 ((i : Int) + 1) = (i : Int) + 1 := by have := HI.out; unfold wrap64; omega
      obtain ⟨q, hq⟩ : ∃ q, lt x y = q := ⟨_, rfl⟩
      rw [hq] at HS2
      have HQQ := Aside0.mk hq
      replace ci := eq_true ci
      clear hbest hx hy hn' hq hb0 hl0 hg hc hF e1 e2 e3 e4 HS
      go_wp2
      go_still_tail 18, (by kernel_rfl)
      generalize hwd : ({ heap := wr.heap, tape := wr.tape, drawn := wr.drawn + 1, os := wr.os, output := wr.output } : World) = wd
      have HBd := Aside0.mk (show Below w.heap.size w wd from by rw [← hwd]; exact HB.out.drew)
      have HQd := Aside0.mk (show RQ wd B g F mode L from by rw [← hwd]; exact HQ.out.below (Below.refl _ _).drew)
      clear hwd HB HQ g0 g1 g2 g3 g4 g5 f1
      cases q
      all_goals
        go_wp2_with (first | (go_at_call 45; go_must (refine (HLS.out x y _).mono ?_; rw [HQQ.out]; rintro e w5 ⟨rfl, hb⟩; have HB := Aside0.mk (HBd.out.trans (hb.mono HBd.out.size)); have HQ := Aside0.mk (HQd.out.below hb); clear HBd HQd hb)))
        go_roundg n'
        case measure => have := HI.out; have := HI2.out; omega
        case rel => exact ⟨i + 1, n', _, by first | rfl | (rw [q1]; rfl), rfl, HS2, ⟨by have := HI2.out; have := HL.out; omega⟩, HQ, HB⟩
    · have hn0 : n = 0 := by have := HI.out; omega
      have HS2 := Aside0.mk (show best = firstI lt z27 L from by have h_ := HS.out; rw [hn0, bestS] at h_; exact h_)
      have p1 := eq_false (show ¬ (i : Int) < (L.length : Int) by omega)
      replace ci := eq_false ci
      clear hn0 hb0 hl0 hg hc hF HS
      go_wp2
      go_ret
      exact ⟨by rw [HS2.out]; rfl, HB.out⟩
end Go.Proofs.Ytnpndjdkdcbjcaa.Pq
