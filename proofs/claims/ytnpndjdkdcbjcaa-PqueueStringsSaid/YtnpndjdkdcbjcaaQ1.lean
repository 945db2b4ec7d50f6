/- A queue in memory. -/
import Derived.Test.YtnpndjdkdcbjcaaPXx
import Derived.Test.YtnpndjdkdcbjcaaWMore
import Derived.Test.YtnpndjdkdcbjcaaWLast
import Derived.WalkKit
import Derived.Deep.DeepMust
import Derived.BigRegion
import Derived.StillTailTactics
import Derived.BigQuiet
import Derived.Deep.QuietTactic
import Derived.Deep.DeepCutAuto
import Derived.Laws.EntriesVeiled
namespace Go.Proofs.Ytnpndjdkdcbjcaa.Pq
open Go.RowKit Go.Proofs.Ytnpndjdkdcbjcaa.PX Go.Proofs.YtnpndjdkdcbjcaaW.PrintWords Go.Proofs.YtnpndjdkdcbjcaaW.PrintLast Go.Proofs.YtnpndjdkdcbjcaaW.PrintMore
set_option linter.unusedVariables false
set_option linter.unusedSimpArgs false
/-- An entry: its value and its number. -/
def kI : Kd (S27 × Int) := Kd.pair k27 (Kd.int .i64)
/-- What is kept where no block of F is written: all others are as they were. -/
def Keeps (F : Nat → Prop) (w w' : World) : Prop := Below 0 w w' ∧ ∀ k, k < w.heap.size → ¬ F k → w'.heap[k]? = w.heap[k]?
theorem Keeps.trans {F : Nat → Prop} {w w1 w2 : World} (h : Keeps F w w1) (h' : Keeps F w1 w2) : Keeps F w w2 := ⟨h.1.trans h'.1, fun k hk hf => (h'.2 k (Nat.lt_of_lt_of_le hk h.1.size) hf).trans (h.2 k hk hf)⟩
theorem Keeps.below {F : Nat → Prop} {w w1 : World} (h : Below w.heap.size w w1) : Keeps F w w1 := ⟨h.mono (Nat.zero_le _), fun k hk _ => h.block k hk⟩
theorem Keeps.grown {F : Nat → Prop} {w w1 : World} {row : Option Nat} (h : w.grownBy w1 row) (hr : ∀ k, row = some k → F k) : Keeps F w w1 := ⟨(Below.refl 0 w).grown h (Nat.zero_le _) (fun _ _ => Nat.zero_le _), fun k hk hf => h.block k hk (fun e => hf (hr k e.symm))⟩
theorem Keeps.setCell {F : Nat → Prop} (w : World) {p : Addr} (hp : F p.block) (u : Value) : Keeps F w (w.setCell p u) := ⟨(Below.refl 0 w).setCell (Nat.zero_le _) _, fun k hk hf => Below.heap_setCell w p u k (fun e => hf (e ▸ hp))⟩
theorem Keeps.refl (F : Nat → Prop) (w : World) : Keeps F w w := ⟨Below.refl 0 w, fun _ _ _ => rfl⟩
theorem Keeps.drew {F : Nat → Prop} {w w1 : World} (h : Keeps F w w1) : Keeps F w w1.drew := ⟨h.1.drew, h.2⟩
theorem Keeps.to_below {F : Nat → Prop} {w w' : World} {B : Nat} (h : Keeps F w w') (hB : B ≤ w.heap.size) (hF : ∀ k, F k → B ≤ k) : Below B w w' := ⟨h.1.os, h.1.tape, h.1.output, h.1.size, fun k hk => h.2 k (Nat.lt_of_lt_of_le hk hB) (fun hf => absurd (hF k hf) (by omega))⟩
/-- What an order answers of two values: a call of the function K. -/
def LessI (K : Nat) (lt : S27 → S27 → Bool) : Prop := (∀ args w, (callFunc K args).run Try.prog w = .ok (.enter K args) w) ∧ ∀ (a b : S27) (w : World), Calls Try.prog K #[.agg #[.int .i64 a.f0, .int .i64 a.f1], .agg #[.int .i64 b.f0, .int .i64 b.f1]] w fun e w' => e = .returned (.bool (lt a b)) ∧ Below w.heap.size w w'
/-- Does the entry a leave before b? -/
def bef {α : Type} (lt : α → α → Bool) (a b : α × Int) : Bool := lt a.1 b.1 || (decide (a.2 < b.2) && !lt b.1 a.1)
/-- The queue at the block g; its blocks are of F. -/
def QI {α : Type} (tq te : Nat) (kE : Kd (α × Int)) (w : World) (B g : Nat) (F : Nat → Prop) (K : Nat) (h : List (α × Int)) (num : Int) : Prop :=
  (B ≤ g ∧ F g) ∧ h.length ≤ 1000 ∧ ∃ v, w.heap[g]? = some (.cells #[.func (.func K) #[] #[], v, .int .i64 num] tq (0, 0)) ∧ kE.R te w B (fun k => k ≠ g ∧ F k) v h
section
variable {α : Type} {tq te : Nat} {kE : Kd (α × Int)} {w w' : World} {B g K : Nat} {F F' : Nat → Prop} {h : List (α × Int)} {num : Int}
theorem QI.lt (q : QI tq te kE w B g F K h num) : g < w.heap.size ∧ B ≤ g := ⟨blk_lt q.2.2.choose_spec.1, q.1.1⟩
theorem QI.keep (q : QI tq te kE w B g F K h num) (hB : ∀ k, k < w.heap.size → F k → w'.heap[k]? = w.heap[k]?) : QI tq te kE w' B g F K h num := by
  obtain ⟨hb, hl, v, hg, hR⟩ := q
  exact ⟨hb, hl, v, (hB g (blk_lt hg) hb.2).trans hg, Kd.R_step hR (fun k hk hlt => hB k hlt hk.2)⟩
theorem QI.below (q : QI tq te kE w B g F K h num) (hB : Below w.heap.size w w') : QI tq te kE w' B g F K h num := q.keep (fun k hk _ => hB.block k hk)
theorem QI.narrow (q : QI tq te kE w B g F K h num) (hF : ∀ k, k < w.heap.size → F k → F' k) : QI tq te kE w B g F' K h num := by
  obtain ⟨hb, hl, v, hg, hR⟩ := q
  exact ⟨⟨hb.1, hF g (blk_lt hg) hb.2⟩, hl, v, hg, Kd.R_mono (Kd.R_bound hR) (fun k hk => ⟨hk.1.1, hF k hk.2.2.1 hk.1.2⟩)⟩
theorem QI.row (q : QI tq te kE w B g F K h num) : ∃ A c, w.heap[g]? = some (.cells #[.func (.func K) #[] #[], .slice A h.length c, .int .i64 num] tq (0, 0)) ∧ h.length ≤ c ∧ kE.C w A h.length h := by
  obtain ⟨hb, hl, v, hg, hR⟩ := q
  obtain ⟨A, c, rfl, hc, hC⟩ := Kd.R_reads hR
  exact ⟨A, c, hg, hc, hC⟩
end
theorem kI_open {w : World} {B : Nat} {ok : Nat → Prop} {x : S27 × Int} {cs : List Value} (h : kI.M w B ok x cs) : cs = [.int .i64 x.1.f0, .int .i64 x.1.f1, .int .i64 x.2] := by
  obtain ⟨c1, c2, rfl, h1, h2⟩ := h
  obtain rfl := k27_openM h1
  have h2 : c2 = [.int .i64 x.2] := h2
  subst h2
  rfl
theorem kI_mkM (w : World) (B : Nat) (ok : Nat → Prop) (x : S27 × Int) : kI.M w B ok x [.int .i64 x.1.f0, .int .i64 x.1.f1, .int .i64 x.2] := ⟨[.int .i64 x.1.f0, .int .i64 x.1.f1], [.int .i64 x.2], rfl, k27_mkM w B ok x.1, rfl⟩
def zI : S27 × Int := (z27, 0)
def atI (h : List (S27 × Int)) (i : Nat) : S27 × Int := h.getD i zI
theorem cells_I {w : World} {B gr cap n e : Nat} {ok : Nat → Prop} {h : List (S27 × Int)} (hR : kI.R e w B ok (.slice (some ⟨gr, 0, none⟩) n cap) h) (i : Nat) (hi : i < n) :
    w.cell? ⟨gr, i * 3, none⟩ = some (.int .i64 (atI h i).1.f0) ∧ w.cell? ⟨gr, i * 3 + 1, none⟩ = some (.int .i64 (atI h i).1.f1) ∧ w.cell? ⟨gr, i * 3 + 2, none⟩ = some (.int .i64 (atI h i).2) ∧ ∀ j, w.frozen? ⟨gr, i * 3 + j, none⟩ = false := by
  obtain ⟨c, hl, hM, hc, hf⟩ := Kd.R_elem hR zI (i : Int) (by omega) (by omega)
  have he := kI_open hM
  subst he
  simp only [Int.toNat_natCast] at hc hf
  exact ⟨hc 0 _ rfl, hc 1 _ rfl, hc 2 _ rfl, hf⟩
theorem two_new (w : World) (o1 o2 : Obj) : ((w.alloc o1).alloc o2).drew.heap[w.heap.size]? = some o1 ∧ ((w.alloc o1).alloc o2).drew.heap[w.heap.size + 1]? = some o2 ∧ Below w.heap.size w ((w.alloc o1).alloc o2).drew := by
  refine ⟨?_, ?_, (below_alloc (below_alloc (Below.refl _ _) o1) o2).drew⟩
  · exact (heap_alloc_old (w.alloc o1) o2 (by simp)).trans (heap_alloc_new w o1)
  · have h := heap_alloc_new (w.alloc o1) o2
    have hs : (w.alloc o1).heap.size = w.heap.size + 1 := by simp
    rw [hs] at h
    exact h
set_option maxHeartbeats 1000000 in
set_option maxRecDepth 100000 in
theorem before_calls (B g : Nat) (F : Nat → Prop) (K : Nat) (lt : S27 → S27 → Bool) (HLE : LessI K lt) (h : List (S27 × Int)) (num : Int) (i k : Nat) (w : World) (hQ : QI 60 62 kI w B g F K h num) (hi : i < h.length) (hk : k < h.length) :
    Calls Try.prog 34 #[.pointer (some ⟨g, 0, none⟩), .int .i64 (i : Int), .int .i64 (k : Int)] w fun e w' => e = .returned (.bool (bef lt (atI h i) (atI h k))) ∧ Below w.heap.size w w' := by
  obtain ⟨hb, hl, v, hg, hR⟩ := hQ
  obtain ⟨gr, cap, rfl, hgb, hgl, hcl⟩ := Kd.R_form hR (by omega)
  obtain ⟨a0, a1, a2, _⟩ := cells_I hR i hi
  obtain ⟨b0, b1, b2, _⟩ := cells_I hR k hk
  generalize atI h i = a at a0 a1 a2
  generalize atI h k = b at b0 b1 b2
  have c0 : w.cell? ⟨g, 0, none⟩ = some (.func (.func K) #[] #[]) := (blk_cell hg 0).trans rfl
  have c1 : w.cell? ⟨g, 1, none⟩ = some (.slice (some ⟨gr, 0, none⟩) h.length cap) := (blk_cell hg 1).trans rfl
  have HL := Aside0.mk hl
  have p1 := eq_true (show (i : Int) < (h.length : Int) from by omega)
  have p2 := eq_true (show (k : Int) < (h.length : Int) from by omega)
  have p3 := eq_true hi
  have p4 := eq_true hk
  have gl := blk_lt hg
  have n1 : (gr = w.heap.size) = False := eq_false (by omega)
  have n2 : (gr = w.heap.size + 1) = False := eq_false (by omega)
  have n3 : (g = w.heap.size) = False := eq_false (by omega)
  have n4 : (g = w.heap.size + 1) = False := eq_false (by omega)
  have al : ∀ (p : Addr) (v : Value), p.block < w.heap.size → w.cell? p = some v → (∀ o, (w.alloc o).cell? p = some v) ∧ ∀ o o', ((w.alloc o).alloc o').cell? p = some v := fun p v hp hv =>
    ⟨fun o => (Below.cell (below_alloc (Below.refl _ _) o) hp).trans hv, fun o o' => (Below.cell (below_alloc (below_alloc (Below.refl w.heap.size w) o) o') hp).trans hv⟩
  obtain ⟨c1a, c1b⟩ := al _ _ gl c1
  obtain ⟨a0a, a0b⟩ := al _ _ hgl a0
  obtain ⟨a1a, a1b⟩ := al _ _ hgl a1
  obtain ⟨a2a, a2b⟩ := al _ _ hgl a2
  obtain ⟨b0a, b0b⟩ := al _ _ hgl b0
  obtain ⟨b1a, b1b⟩ := al _ _ hgl b1
  obtain ⟨b2a, b2b⟩ := al _ _ hgl b2
  have HG := Aside0.mk gl
  clear al hb hl hg hR hgb hgl hcl hi hk gl
  obtain ⟨⟨a1_, a2_⟩, a3_⟩ := a
  obtain ⟨⟨b1_, b2_⟩, b3_⟩ := b
  have HLS := Aside0.mk (show ∀ (a b : S27) (w : World), Calls Try.prog K #[.agg #[.int .i64 a.f0, .int .i64 a.f1], .agg #[.int .i64 b.f0, .int .i64 b.f1]] w fun e w' => e = .returned (.bool (lt a b)) ∧ Below w.heap.size w w' from HLE.2)
  have hen := HLE.1
  have HC0 := Aside0.mk c0
  clear HLE c0
  go_enter Try.func34, Try.ntmps34
  go_upto_region 1 with (fail)
  go_cut [7, 8] (fun v7 v8 wx => ∃ g7 g8 : Nat, v7 = .pointer (some ⟨g7, 0, none⟩) ∧ v8 = .pointer (some ⟨g8, 0, none⟩) ∧ Aside0 (wx.heap[g7]? = some (.cells #[.int .i64 a1_, .int .i64 a2_, .int .i64 a3_] 62 (0, 0)) ∧ wx.heap[g8]? = some (.cells #[.int .i64 b1_, .int .i64 b2_, .int .i64 b3_] 62 (0, 0)) ∧ Below w.heap.size w wx))
  case first =>
    go_region
    all_goals (go_wp2; go_meet; first | exact ⟨w.heap.size, w.heap.size + 1, rfl, rfl, ⟨two_new w _ _⟩⟩ | exact ⟨w.heap.size + 1, w.heap.size, rfl, rfl, ⟨(two_new w _ _).2.1, (two_new w _ _).1, (two_new w _ _).2.2⟩⟩)
  case rest =>
    obtain ⟨g7, g8, rfl, rfl, HX⟩ := hcut
    have f0 : wc.drew.cell? ⟨g, 0, none⟩ = some (.func (.func K) #[] #[]) := (Below.cell HX.out.2.2 (p := ⟨g, 0, none⟩) HG.out).trans HC0.out
    have f1 : wc.drew.cell? ⟨g7, 0, none⟩ = some (.int .i64 a1_) := (blk_cell HX.out.1 0).trans rfl
    have f2 : wc.drew.cell? ⟨g7, 1, none⟩ = some (.int .i64 a2_) := (blk_cell HX.out.1 1).trans rfl
    have f3 : wc.drew.cell? ⟨g8, 0, none⟩ = some (.int .i64 b1_) := (blk_cell HX.out.2.1 0).trans rfl
    have f4 : wc.drew.cell? ⟨g8, 1, none⟩ = some (.int .i64 b2_) := (blk_cell HX.out.2.1 1).trans rfl
    clear a0 a1 a2 b0 b1 b2 c1 c1a c1b a0a a0b a1a a1b a2a a2b b0a b0b b1a b1b b2a b2b n1 n2 n3 n4
    go_wp2
    go_still_tail 8, (by kernel_rfl)
    generalize hwd : ({ heap := wc.heap, tape := wc.tape, drawn := wc.drawn + 1, os := wc.os, output := wc.output } : World) = wd
    have HY : Aside0 (wd.heap[g7]? = some (.cells #[.int .i64 a1_, .int .i64 a2_, .int .i64 a3_] 62 (0, 0)) ∧ wd.heap[g8]? = some (.cells #[.int .i64 b1_, .int .i64 b2_, .int .i64 b3_] 62 (0, 0)) ∧ Below w.heap.size w wd) := ⟨by rw [← hwd]; exact ⟨HX.out.1, HX.out.2.1, HX.out.2.2.drew⟩⟩
    clear hwd f0 f1 f2 f3 f4 HX
    obtain ⟨q1, hq1⟩ : ∃ q, lt ⟨a1_, a2_⟩ ⟨b1_, b2_⟩ = q := ⟨_, rfl⟩
    have HQ1 := Aside0.mk hq1
    clear hq1
    obtain ⟨q2, hq2⟩ : ∃ q, lt ⟨b1_, b2_⟩ ⟨a1_, a2_⟩ = q := ⟨_, rfl⟩
    have HQ2 := Aside0.mk hq2
    clear hq2
    have HR := Aside0.mk (show bef lt ((⟨a1_, a2_⟩ : S27), a3_) ((⟨b1_, b2_⟩ : S27), b3_) = (q1 || (decide (a3_ < b3_) && !q2)) from by unfold bef; rw [HQ1.out, HQ2.out])
    cases q1
    · go_wp2_with (first | ((with_reducible refine (HLS.out ⟨a1_, a2_⟩ ⟨b1_, b2_⟩ _).mono ?_); go_must (rw [HQ1.out]; rintro e w3 ⟨rfl, hb⟩; have HZ := Aside0.mk (show w3.heap[g7]? = some (.cells #[.int .i64 a1_, .int .i64 a2_, .int .i64 a3_] 62 (0, 0)) ∧ w3.heap[g8]? = some (.cells #[.int .i64 b1_, .int .i64 b2_, .int .i64 b3_] 62 (0, 0)) ∧ Below w.heap.size w w3 from ⟨blk_below HY.out.1 hb, blk_below HY.out.2.1 hb, below_step HY.out.2.2 hb⟩); clear hb HY)))
      have f0 : w3.drew.cell? ⟨g, 0, none⟩ = some (.func (.func K) #[] #[]) := (Below.cell HZ.out.2.2 (p := ⟨g, 0, none⟩) HG.out).trans HC0.out
      have f1 : w3.drew.cell? ⟨g7, 0, none⟩ = some (.int .i64 a1_) := (blk_cell HZ.out.1 0).trans rfl
      have f2 : w3.drew.cell? ⟨g7, 1, none⟩ = some (.int .i64 a2_) := (blk_cell HZ.out.1 1).trans rfl
      have f3 : w3.drew.cell? ⟨g7, 2, none⟩ = some (.int .i64 a3_) := (blk_cell HZ.out.1 2).trans rfl
      have f4 : w3.drew.cell? ⟨g8, 0, none⟩ = some (.int .i64 b1_) := (blk_cell HZ.out.2.1 0).trans rfl
      have f5 : w3.drew.cell? ⟨g8, 1, none⟩ = some (.int .i64 b2_) := (blk_cell HZ.out.2.1 1).trans rfl
      have f6 : w3.drew.cell? ⟨g8, 2, none⟩ = some (.int .i64 b3_) := (blk_cell HZ.out.2.1 2).trans rfl
      have f0' : w3.cell? ⟨g, 0, none⟩ = some (.func (.func K) #[] #[]) := f0
      have f3' : w3.cell? ⟨g7, 2, none⟩ = some (.int .i64 a3_) := f3
      have f6' : w3.cell? ⟨g8, 2, none⟩ = some (.int .i64 b3_) := f6
      by_cases hlt : a3_ < b3_
      · have d1 : decide (a3_ < b3_) = true := decide_eq_true hlt
        have HR2 := Aside0.mk (show bef lt ((⟨a1_, a2_⟩ : S27), a3_) ((⟨b1_, b2_⟩ : S27), b3_) = !q2 from by rw [HR.out, d1]; simp)
        clear hlt f0' f3' f6' HR
        go_still_tail 14, (by kernel_rfl)
        generalize hwd : ({ heap := w3.heap, tape := w3.tape, drawn := w3.drawn + 1, os := w3.os, output := w3.output } : World) = wd3
        have HY : Aside0 (Below w.heap.size w wd3) := ⟨by rw [← hwd]; exact HZ.out.2.2.drew⟩
        clear hwd f0 f1 f2 f3 f4 f5 f6 HZ
        go_wp2_with (first | ((with_reducible refine (HLS.out ⟨b1_, b2_⟩ ⟨a1_, a2_⟩ _).mono ?_); go_must (rw [HQ2.out]; rintro e w5 ⟨rfl, hb⟩; have HZ := Aside0.mk (show Below w.heap.size w w5 from below_step HY.out hb); clear hb HY)))
        go_ret
        exact ⟨by rw [HR2.out]; rfl, HZ.out⟩
      · have d1 : decide (a3_ < b3_) = false := decide_eq_false hlt
        have HR2 := Aside0.mk (show bef lt ((⟨a1_, a2_⟩ : S27), a3_) ((⟨b1_, b2_⟩ : S27), b3_) = false from by rw [HR.out, d1]; simp)
        clear hlt f0 f1 f2 f3 f4 f5 f6 HR
        go_quiet (fail)
        go_wp2
        go_ret
        exact ⟨by rw [HR2.out]; rfl, pw_below_drewN HZ.out.2.2 _⟩
    · go_wp2_with (first | ((with_reducible refine (HLS.out ⟨a1_, a2_⟩ ⟨b1_, b2_⟩ _).mono ?_); go_must (rw [HQ1.out]; rintro e w3 ⟨rfl, hb⟩; have HZ := Aside0.mk (show Below w.heap.size w w3 from below_step HY.out.2.2 hb); clear hb HY)))
      go_ret
      exact ⟨by rw [HR.out]; rfl, HZ.out⟩
end Go.Proofs.Ytnpndjdkdcbjcaa.Pq
