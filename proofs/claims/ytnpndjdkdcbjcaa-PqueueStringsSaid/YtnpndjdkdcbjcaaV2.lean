/- Two entries of a queue are exchanged. -/
import Derived.Test.YtnpndjdkdcbjcaaV1
namespace Go.Proofs.Ytnpndjdkdcbjcaa.Pv
open Go.RowKit Go.Proofs.Ytnpndjdkdcbjcaa.Pq Go.Proofs.Ytnpndjdkdcbjcaa.PX Go.Proofs.YtnpndjdkdcbjcaaW.PrintWords Go.Proofs.YtnpndjdkdcbjcaaW.PrintLast Go.Proofs.YtnpndjdkdcbjcaaW.PrintMore
set_option linter.unusedVariables false
set_option linter.unusedSimpArgs false
def swpI (h : List (ByteArray × Int)) (i k : Nat) : List (ByteArray × Int) := (h.set i (atI h k)).set k (atI h i)
theorem setCells_two (w : World) (gr o : Nat) (a b : Value) : w.setCells gr o [a, b] = (w.setCell ⟨gr, o, none⟩ a).setCell ⟨gr, o + 1, none⟩ b := rfl
theorem put_I {w : World} {B gr cap n : Nat} {ok : Nat → Prop} {h : List (ByteArray × Int)} (hR : kI.R 71 w B ok (.slice (some ⟨gr, 0, none⟩) n cap) h) (i : Nat) (hi : i < n) (a : ByteArray) (c : Int) :
    kI.R 71 ((w.setCell ⟨gr, i * 2, none⟩ (.string a)).setCell ⟨gr, i * 2 + 1, none⟩ (.int .i64 c)) B ok (.slice (some ⟨gr, 0, none⟩) n cap) (h.set i (a, c)) ∧
      w.grownBy ((w.setCell ⟨gr, i * 2, none⟩ (.string a)).setCell ⟨gr, i * 2 + 1, none⟩ (.int .i64 c)) (some gr) := by
  obtain ⟨c_, hl, hM, hc, hf⟩ := Kd.R_elem hR zI (i : Int) (by omega) (by omega)
  have he := kI_open hM
  subst he
  have := Kd.R_seg hR (i : Int) (by omega) (by omega) hl hc (j := 0) (seg := [.string a, .int .i64 c]) (Nat.le_refl 2) (x' := (a, c)) (okp := fun _ => False) (kI_mkM w B _ _) (fun _ h => h.elim)
  rw [Int.toNat_natCast, show i * kI.sz + 0 = i * 2 from rfl, setCells_two] at this
  exact this
set_option maxHeartbeats 2000000 in
set_option maxRecDepth 100000 in
theorem swap_calls (B g : Nat) (F : Nat → Prop) (K : Nat) (h : List (ByteArray × Int)) (num : Int) (i k : Nat) (w : World) (hQ : QI 69 71 kI w B g F K h num) (hi : i < h.length) (hk : k < h.length) :
    Calls Try.prog 41 #[.pointer (some ⟨g, 0, none⟩), .int .i64 (i : Int), .int .i64 (k : Int)] w fun e w' => e = .returned (.tuple #[]) ∧ QI 69 71 kI w' B g F K (swpI h i k) num ∧ Keeps F w w' ∧ Below B w w' := by
  obtain ⟨hb, hl, v, hg, hR⟩ := hQ
  obtain ⟨gr, cap, rfl, hgb, hgl, hcl⟩ := Kd.R_form hR (by omega)
  obtain ⟨a0, a1, fa⟩ := cells_I hR i hi
  obtain ⟨b0, b1, fb⟩ := cells_I hR k hk
  have HQ := Aside0.mk (show (B ≤ g ∧ F g) ∧ h.length ≤ 1000 ∧ w.heap[g]? = some (.cells #[.func (.func K) #[] #[], .slice (some ⟨gr, 0, none⟩) h.length cap, .int .i64 num] 69 (0, 0)) ∧ kI.R 71 w B (fun k => k ≠ g ∧ F k) (.slice (some ⟨gr, 0, none⟩) h.length cap) h from ⟨hb, hl, hg, hR⟩)
  have HA := Aside0.mk (show atI h i = atI h i from rfl)
  generalize hai : atI h i = a at a0 a1
  generalize hbk : atI h k = b at b0 b1
  have HAI := Aside0.mk hai
  have HBK := Aside0.mk hbk
  have c1 : w.cell? ⟨g, 1, none⟩ = some (.slice (some ⟨gr, 0, none⟩) h.length cap) := (blk_cell hg 1).trans rfl
  obtain ⟨a1_, a3_⟩ := a
  obtain ⟨b1_, b3_⟩ := b
  have fa0 := fa 0
  have fa1 := fa 1
  have fb0 := fb 0
  have fb1 := fb 1
  simp only [Nat.add_zero] at fa0 fb0
  have HI := Aside0.mk (show i < h.length ∧ k < h.length from ⟨hi, hk⟩)
  have n1 : (gr = g) = False := eq_false (fun e => (hR.1 gr rfl).1 e)
  have n2 : (g = gr) = False := eq_false (fun e => (hR.1 gr rfl).1 e.symm)
  obtain ⟨v0, z0⟩ := cell?_setCell_some (w := w) (p := ⟨gr, i * 2, none⟩) (x := .string b1_) (q := ⟨gr, k * 2, none⟩) (v := .string b1_) b0
  obtain ⟨v1, z1⟩ := cell?_setCell_some (w := w) (p := ⟨gr, i * 2, none⟩) (x := .string b1_) (q := ⟨gr, k * 2 + 1, none⟩) (v := .int .i64 b3_) b1
  obtain ⟨v2, z2⟩ := cell?_setCell_some (p := ⟨gr, i * 2 + 1, none⟩) (x := .int .i64 b3_) (q := ⟨gr, k * 2 + 1, none⟩) z1
  have p1 := eq_true (show (i : Int) < (h.length : Int) from by omega)
  have p2 := eq_true (show (k : Int) < (h.length : Int) from by omega)
  have p3 := eq_true hi
  have p4 := eq_true hk
  have HGL := Aside0.mk hgl
  clear hb hl hg hR hgb hgl hcl hi hk fa fb hai hbk HA
  go_enter Try.func41, Try.ntmps41
  go_wp2
  go_region
  go_wp2
  obtain ⟨hb, hl, hg, hR⟩ := HQ.out
  have h1 := put_I hR i HI.out.1 b1_ b3_
  have h2 := put_I h1.1 k HI.out.2 a1_ a3_
  have hfr : F gr := (hR.1 gr rfl).2
  have hng : gr ≠ g := (hR.1 gr rfl).1
  have hlt : gr < w.heap.size := HGL.out
  have hbr : B ≤ gr := Kd.R_base hR gr rfl
  generalize (w.setCell ⟨gr, i * 2, none⟩ (.string b1_)).setCell ⟨gr, i * 2 + 1, none⟩ (.int .i64 b3_) = W1 at h1 h2 ⊢
  generalize (W1.setCell ⟨gr, k * 2, none⟩ (.string a1_)).setCell ⟨gr, k * 2 + 1, none⟩ (.int .i64 a3_) = W2 at h2 ⊢
  refine ⟨rfl, .tuple #[], results_none rfl _ _ _, rfl, ?_⟩
  refine ⟨⟨hb, by unfold swpI; simp; omega, .slice (some ⟨gr, 0, none⟩) h.length cap, ?_, ?_⟩, ?_, ?_⟩
  · exact (h2.2.block g (Nat.lt_of_lt_of_le (blk_lt hg) h1.2.size) (fun e => hng (Option.some.inj e).symm)).trans ((h1.2.block g (blk_lt hg) (fun e => hng (Option.some.inj e).symm)).trans hg)
  · unfold swpI
    rw [HAI.out, HBK.out]
    exact Kd.R_drew h2.1
  · exact ((Keeps.grown h1.2 (fun j e => (Option.some.inj e) ▸ hfr)).trans (Keeps.grown h2.2 (fun j e => (Option.some.inj e) ▸ hfr))).drew
  · have hs : B ≤ w.heap.size := by omega
    exact (((Below.refl B w).grown h1.2 hs (fun j e => (Option.some.inj e) ▸ hbr)).grown h2.2 (by have := h1.2.size; omega) (fun j e => (Option.some.inj e) ▸ hbr)).drew
end Go.Proofs.Ytnpndjdkdcbjcaa.Pv
