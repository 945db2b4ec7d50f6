/- A queue in memory. -/
import Derived.Test.YtnpndjdkdcbjcaaQ8
namespace Go.Proofs.Ytnpndjdkdcbjcaa.Pv
open Go.RowKit Go.Proofs.Ytnpndjdkdcbjcaa.Pq Go.Proofs.Ytnpndjdkdcbjcaa.PX Go.Proofs.YtnpndjdkdcbjcaaW.PrintWords Go.Proofs.YtnpndjdkdcbjcaaW.PrintLast Go.Proofs.YtnpndjdkdcbjcaaW.PrintMore
set_option linter.unusedVariables false
set_option linter.unusedSimpArgs false
/-- An entry: its value and its number. -/
def kI : Kd (ByteArray × Int) := Kd.pair Kd.string (Kd.int .i64)
/-- What an order answers of two values: a call of the function K. -/
def LessI (K : Nat) (lt : ByteArray → ByteArray → Bool) : Prop := (∀ args w, (callFunc K args).run Try.prog w = .ok (.enter K args) w) ∧ ∀ (a b : ByteArray) (w : World), Calls Try.prog K #[.string a, .string b] w fun e w' => e = .returned (.bool (lt a b)) ∧ Below w.heap.size w w'
theorem kI_open {w : World} {B : Nat} {ok : Nat → Prop} {x : ByteArray × Int} {cs : List Value} (h : kI.M w B ok x cs) : cs = [.string x.1, .int .i64 x.2] := by
  obtain ⟨c1, c2, rfl, h1, h2⟩ := h
  have h1 : c1 = [.string x.1] := h1
  have h2 : c2 = [.int .i64 x.2] := h2
  subst h1 h2
  rfl
theorem kI_mkM (w : World) (B : Nat) (ok : Nat → Prop) (x : ByteArray × Int) : kI.M w B ok x [.string x.1, .int .i64 x.2] := ⟨[.string x.1], [.int .i64 x.2], rfl, rfl, rfl⟩
def zI : ByteArray × Int := (ByteArray.empty, 0)
def atI (h : List (ByteArray × Int)) (i : Nat) : ByteArray × Int := h.getD i zI
theorem cells_I {w : World} {B gr cap n e : Nat} {ok : Nat → Prop} {h : List (ByteArray × Int)} (hR : kI.R e w B ok (.slice (some ⟨gr, 0, none⟩) n cap) h) (i : Nat) (hi : i < n) :
    w.cell? ⟨gr, i * 2, none⟩ = some (.string (atI h i).1) ∧ w.cell? ⟨gr, i * 2 + 1, none⟩ = some (.int .i64 (atI h i).2) ∧ ∀ j, w.frozen? ⟨gr, i * 2 + j, none⟩ = false := by
  obtain ⟨c, hl, hM, hc, hf⟩ := Kd.R_elem hR zI (i : Int) (by omega) (by omega)
  have he := kI_open hM
  subst he
  simp only [Int.toNat_natCast] at hc hf
  exact ⟨hc 0 _ rfl, hc 1 _ rfl, hf⟩
set_option maxHeartbeats 1000000 in
set_option maxRecDepth 100000 in
theorem before_calls (B g : Nat) (F : Nat → Prop) (K : Nat) (lt : ByteArray → ByteArray → Bool) (HLE : LessI K lt) (h : List (ByteArray × Int)) (num : Int) (i k : Nat) (w : World) (hQ : QI 69 71 kI w B g F K h num) (hi : i < h.length) (hk : k < h.length) :
    Calls Try.prog 40 #[.pointer (some ⟨g, 0, none⟩), .int .i64 (i : Int), .int .i64 (k : Int)] w fun e w' => e = .returned (.bool (bef lt (atI h i) (atI h k))) ∧ Below w.heap.size w w' := by
  obtain ⟨hb, hl, v, hg, hR⟩ := hQ
  obtain ⟨gr, cap, rfl, hgb, hgl, hcl⟩ := Kd.R_form hR (by omega)
  obtain ⟨a0, a1, _⟩ := cells_I hR i hi
  obtain ⟨b0, b1, _⟩ := cells_I hR k hk
  generalize atI h i = a at a0 a1
  generalize atI h k = b at b0 b1
  have c0 : w.cell? ⟨g, 0, none⟩ = some (.func (.func K) #[] #[]) := (blk_cell hg 0).trans rfl
  have c1 : w.cell? ⟨g, 1, none⟩ = some (.slice (some ⟨gr, 0, none⟩) h.length cap) := (blk_cell hg 1).trans rfl
  have HL := Aside0.mk hl
  have p1 := eq_true (show (i : Int) < (h.length : Int) from by omega)
  have p2 := eq_true (show (k : Int) < (h.length : Int) from by omega)
  have p3 := eq_true hi
  have p4 := eq_true hk
  have gl := blk_lt hg
  have n1 : (gr = w.heap.size) = False := eq_false (by omega)
  have n2 : (gr = w.heap.size + 1) = False := eq_false (by omega)
  have n3 : (g = w.heap.size) = False := eq_false (by omega)
  have n4 : (g = w.heap.size + 1) = False := eq_false (by omega)
  have al : ∀ (p : Addr) (v : Value), p.block < w.heap.size → w.cell? p = some v → (∀ o, (w.alloc o).cell? p = some v) ∧ ∀ o o', ((w.alloc o).alloc o').cell? p = some v := fun p v hp hv =>
    ⟨fun o => (Below.cell (below_alloc (Below.refl _ _) o) hp).trans hv, fun o o' => (Below.cell (below_alloc (below_alloc (Below.refl w.heap.size w) o) o') hp).trans hv⟩
  obtain ⟨c1a, c1b⟩ := al _ _ gl c1
  obtain ⟨a0a, a0b⟩ := al _ _ hgl a0
  obtain ⟨a1a, a1b⟩ := al _ _ hgl a1
  obtain ⟨b0a, b0b⟩ := al _ _ hgl b0
  obtain ⟨b1a, b1b⟩ := al _ _ hgl b1
  have HG := Aside0.mk gl
  clear al hb hl hg hR hgb hgl hcl hi hk gl
  obtain ⟨a1_, a3_⟩ := a
  obtain ⟨b1_, b3_⟩ := b
  have HLS := Aside0.mk (show ∀ (a b : ByteArray) (w : World), Calls Try.prog K #[.string a, .string b] w fun e w' => e = .returned (.bool (lt a b)) ∧ Below w.heap.size w w' from HLE.2)
  have hen := HLE.1
  have HC0 := Aside0.mk c0
  clear HLE c0
  go_enter Try.func40, Try.ntmps40
  go_upto_region 1 with (fail)
  go_cut [7, 8] (fun v7 v8 wx => ∃ g7 g8 : Nat, v7 = .pointer (some ⟨g7, 0, none⟩) ∧ v8 = .pointer (some ⟨g8, 0, none⟩) ∧ Aside0 (wx.heap[g7]? = some (.cells #[.string a1_, .int .i64 a3_] 71 (0, 0)) ∧ wx.heap[g8]? = some (.cells #[.string b1_, .int .i64 b3_] 71 (0, 0)) ∧ Below w.heap.size w wx))
  case first =>
    go_region
    all_goals (go_wp2; go_meet; first | exact ⟨w.heap.size, w.heap.size + 1, rfl, rfl, ⟨two_new w _ _⟩⟩ | exact ⟨w.heap.size + 1, w.heap.size, rfl, rfl, ⟨(two_new w _ _).2.1, (two_new w _ _).1, (two_new w _ _).2.2⟩⟩)
  case rest =>
    obtain ⟨g7, g8, rfl, rfl, HX⟩ := hcut
    have f0 : wc.drew.cell? ⟨g, 0, none⟩ = some (.func (.func K) #[] #[]) := (Below.cell HX.out.2.2 (p := ⟨g, 0, none⟩) HG.out).trans HC0.out
    have f1 : wc.drew.cell? ⟨g7, 0, none⟩ = some (.string a1_) := (blk_cell HX.out.1 0).trans rfl
    have f3 : wc.drew.cell? ⟨g8, 0, none⟩ = some (.string b1_) := (blk_cell HX.out.2.1 0).trans rfl
    clear a0 a1 b0 b1 c1 c1a c1b a0a a0b a1a a1b b0a b0b b1a b1b n1 n2 n3 n4
    go_wp2
    go_still_tail 8, (by kernel_rfl)
    generalize hwd : ({ heap := wc.heap, tape := wc.tape, drawn := wc.drawn + 1, os := wc.os, output := wc.output } : World) = wd
    have HY : Aside0 (wd.heap[g7]? = some (.cells #[.string a1_, .int .i64 a3_] 71 (0, 0)) ∧ wd.heap[g8]? = some (.cells #[.string b1_, .int .i64 b3_] 71 (0, 0)) ∧ Below w.heap.size w wd) := ⟨by rw [← hwd]; exact ⟨HX.out.1, HX.out.2.1, HX.out.2.2.drew⟩⟩
    clear hwd f0 f1 f3 HX
    obtain ⟨q1, hq1⟩ : ∃ q, lt a1_ b1_ = q := ⟨_, rfl⟩
    have HQ1 := Aside0.mk hq1
    clear hq1
    obtain ⟨q2, hq2⟩ : ∃ q, lt b1_ a1_ = q := ⟨_, rfl⟩
    have HQ2 := Aside0.mk hq2
    clear hq2
    have HR := Aside0.mk (show bef lt (a1_, a3_) (b1_, b3_) = (q1 || (decide (a3_ < b3_) && !q2)) from by unfold bef; rw [HQ1.out, HQ2.out])
    cases q1
    · go_wp2_with (first | ((with_reducible refine (HLS.out a1_ b1_ _).mono ?_); go_must (rw [HQ1.out]; rintro e w3 ⟨rfl, hb⟩; have HZ := Aside0.mk (show w3.heap[g7]? = some (.cells #[.string a1_, .int .i64 a3_] 71 (0, 0)) ∧ w3.heap[g8]? = some (.cells #[.string b1_, .int .i64 b3_] 71 (0, 0)) ∧ Below w.heap.size w w3 from ⟨blk_below HY.out.1 hb, blk_below HY.out.2.1 hb, below_step HY.out.2.2 hb⟩); clear hb HY)))
      have f0 : w3.drew.cell? ⟨g, 0, none⟩ = some (.func (.func K) #[] #[]) := (Below.cell HZ.out.2.2 (p := ⟨g, 0, none⟩) HG.out).trans HC0.out
      have f1 : w3.drew.cell? ⟨g7, 0, none⟩ = some (.string a1_) := (blk_cell HZ.out.1 0).trans rfl
      have f3 : w3.drew.cell? ⟨g7, 1, none⟩ = some (.int .i64 a3_) := (blk_cell HZ.out.1 1).trans rfl
      have f4 : w3.drew.cell? ⟨g8, 0, none⟩ = some (.string b1_) := (blk_cell HZ.out.2.1 0).trans rfl
      have f6 : w3.drew.cell? ⟨g8, 1, none⟩ = some (.int .i64 b3_) := (blk_cell HZ.out.2.1 1).trans rfl
      have f0' : w3.cell? ⟨g, 0, none⟩ = some (.func (.func K) #[] #[]) := f0
      have f3' : w3.cell? ⟨g7, 1, none⟩ = some (.int .i64 a3_) := f3
      have f6' : w3.cell? ⟨g8, 1, none⟩ = some (.int .i64 b3_) := f6
      by_cases hlt : a3_ < b3_
      · have d1 : decide (a3_ < b3_) = true := decide_eq_true hlt
        have HR2 := Aside0.mk (show bef lt (a1_, a3_) (b1_, b3_) = !q2 from by rw [HR.out, d1]; simp)
        clear hlt f0' f3' f6' HR
        go_still_tail 14, (by kernel_rfl)
        generalize hwd : ({ heap := w3.heap, tape := w3.tape, drawn := w3.drawn + 1, os := w3.os, output := w3.output } : World) = wd3
        have HY : Aside0 (Below w.heap.size w wd3) := ⟨by rw [← hwd]; exact HZ.out.2.2.drew⟩
        clear hwd f0 f1 f3 f4 f6 HZ
        go_wp2_with (first | ((with_reducible refine (HLS.out b1_ a1_ _).mono ?_); go_must (rw [HQ2.out]; rintro e w5 ⟨rfl, hb⟩; have HZ := Aside0.mk (show Below w.heap.size w w5 from below_step HY.out hb); clear hb HY)))
        go_ret
        exact ⟨by rw [HR2.out]; rfl, HZ.out⟩
      · have d1 : decide (a3_ < b3_) = false := decide_eq_false hlt
        have HR2 := Aside0.mk (show bef lt (a1_, a3_) (b1_, b3_) = false from by rw [HR.out, d1]; simp)
        clear hlt f0 f1 f3 f4 f6 HR
        go_quiet (fail)
        go_wp2
        go_ret
        exact ⟨by rw [HR2.out]; rfl, pw_below_drewN HZ.out.2.2 _⟩
    · go_wp2_with (first | ((with_reducible refine (HLS.out a1_ b1_ _).mono ?_); go_must (rw [HQ1.out]; rintro e w3 ⟨rfl, hb⟩; have HZ := Aside0.mk (show Below w.heap.size w w3 from below_step HY.out.2.2 hb); clear hb HY)))
      go_ret
      exact ⟨by rw [HR.out]; rfl, HZ.out⟩
end Go.Proofs.Ytnpndjdkdcbjcaa.Pv
