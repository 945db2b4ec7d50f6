/- What all collects of a table. -/
import Derived.Test.YtoleenfipnbjkaaT14
import Derived.BigQuiet
import Derived.Deep.QuietTactic
namespace Go.Proofs.Ytoleenfipnbjkaa.Tab
open Go.RowKit Go.Maps Go.Proofs.Ytoleenfipnbjkaa.PX Go.Proofs.YtoleenfipnbjkaaW.PrintWords Go.Proofs.YtoleenfipnbjkaaW.PrintLast Go.Proofs.YtoleenfipnbjkaaW.PrintMore
set_option linter.unusedVariables false
set_option linter.unusedSimpArgs false
/-- The indices of so many names. -/
def upto (n : Nat) : List Int := (List.range n).map (fun k : Nat => (k : Int))
theorem upto_length (n : Nat) : (upto n).length = n := by simp [upto]
theorem C_nil (w : World) : Kd.C Kd.string w none 0 [] := by
  obtain ⟨A, c, hv, _, hc⟩ := Kd.R_reads (Kd.R_nil Kd.string 9 w 0 (fun _ => True))
  cases hv
  exact hc
theorem eqlFunc (a : Addr) (w : World) : (binOp .eql 55 (.func (.func 31) #[] #[.pointer (some a)]) .nilFunc).run Try.prog w = .ok (.bool false) w := by kernel_rfl
def AllPost (w : World) (names : List ByteArray) (e : Ending) (w' : World) : Prop :=
  ∃ Al cl An cn, e = .returned (.tuple #[.slice Al names.length cl, .slice An names.length cn]) ∧ Kd.C (Kd.int .i64) w' Al names.length (upto names.length) ∧ Kd.C Kd.string w' An names.length names ∧ Below w.heap.size w w'
set_option maxHeartbeats 2000000 in
set_option maxRecDepth 100000 in
/-- What all collects, where All's contract is known. -/
theorem all_of (t : Option Addr) (names : List ByteArray) (most : Int) (w : World) (hl : names.length ≤ 1000) (hm : (names.length : Int) < most)
    (hall : ∀ w1, Below w.heap.size w w1 → Calls Try.prog 25 #[.pointer t] w1 fun e w' => ∃ gb A c, e = .returned (.func (.func 31) #[] #[.pointer (some ⟨gb, 0, none⟩)]) ∧ w1.heap.size ≤ gb ∧ w'.heap[gb]? = some (.cells #[.slice A names.length c] 24 (0, 0)) ∧ Kd.C Kd.string w' A names.length names ∧ (∀ ad, A = some ad → ad.block < w.heap.size) ∧ Below w1.heap.size w1 w') :
    Calls Try.prog 30 #[.pointer t, .int .i64 most] w (AllPost w names) := by
  have HL := Aside0.mk hl
  have HM := Aside0.mk hm
  have HALL := Aside0.mk hall
  have HB := Aside0.mk (Below.refl w.heap.size w)
  clear hl hm hall
  have q55 := eqlFunc
  go_enter Try.func30, Try.ntmps30
  go_wp2_with (first
    | ((with_reducible refine gate_dst (N := 3) rfl ?_); go_must (refine box_event ?hg (N := 3) ?hd (cs := #[.int .i64 most]) (t := 3) ?hr ?_; (case hd => rfl); (case hg => rfl); (case hr => first | (go_simp; done) | (go_simp; rfl)); intro gm hg w1 hbox hb; have BM1 := Aside0.mk hbox; have GM := Aside0.mk (show w.heap.size ≤ gm from Nat.le_trans HB.out.size (Nat.le_of_eq hg.symm)); have HBn := Aside0.mk (below_step HB.out hb); clear hbox hb hg HB; have HB := HBn; clear HBn))
    | ((with_reducible refine gate_dst (N := 6) rfl ?_); go_must (refine box_event ?hg (N := 6) ?hd (cs := #[.slice none 0 0]) (t := 64) ?hr ?_; (case hd => rfl); (case hg => rfl); (case hr => first | (go_simp; done) | (go_simp; rfl)); intro gl hg w2 hbox hb; have BL2 := Aside0.mk hbox; have BM2 := Aside0.mk (blk_below BM1.out hb); have NE1 := Aside0.mk (show gl ≠ gm from fun e => absurd (blk_lt BM1.out) (by omega)); have GL := Aside0.mk (show w.heap.size ≤ gl from Nat.le_trans HB.out.size (Nat.le_of_eq hg.symm)); have HBn := Aside0.mk (below_step HB.out hb); clear hbox hb hg HB BM1; have HB := HBn; clear HBn))
    | ((with_reducible refine gate_dst (N := 7) rfl ?_); go_must (refine box_event ?hg (N := 7) ?hd (cs := #[.slice none 0 0]) (t := 24) ?hr ?_; (case hd => rfl); (case hg => rfl); (case hr => first | (go_simp; done) | (go_simp; rfl)); intro gn hg w3 hbox hb; have BN3 := Aside0.mk hbox; have BM3 := Aside0.mk (blk_below BM2.out hb); have BL3 := Aside0.mk (blk_below BL2.out hb); have NE2 := Aside0.mk (show gl ≠ gn ∧ gm ≠ gn from ⟨fun e => absurd (blk_lt BL2.out) (by omega), fun e => absurd (blk_lt BM2.out) (by omega)⟩); have GN := Aside0.mk (show w.heap.size ≤ gn from Nat.le_trans HB.out.size (Nat.le_of_eq hg.symm)); have HBn := Aside0.mk (below_step HB.out hb); clear hbox hb hg HB BM2 BL2; have HB := HBn; clear HBn))
    | (go_at_call 25; go_must (refine (HALL.out _ HB.out).mono ?_; rintro e w4 ⟨gb, A, c, rfl, hgb, hblk, hC, hA, hb⟩; have GB := Aside0.mk (show gb ≠ gl ∧ gb ≠ gm ∧ gb ≠ gn from ⟨fun e => absurd (blk_lt BL3.out) (by omega), fun e => absurd (blk_lt BM3.out) (by omega), fun e => absurd (blk_lt BN3.out) (by omega)⟩); have BB := Aside0.mk hblk; have HC := Aside0.mk hC; have HA := Aside0.mk hA; have BL4 := Aside0.mk (blk_below BL3.out hb); have BM4 := Aside0.mk (blk_below BM3.out hb); have BN4 := Aside0.mk (blk_below BN3.out hb); have HBn := Aside0.mk (below_step HB.out hb); clear hblk hC hA hb hgb HB BL3 BM3 BN3; have HB := HBn; clear HBn))
    | (go_at_call 31; go_must (refine (iter32 (fun k => w.heap.size ≤ k ∧ k ≠ gb) gl gm gn gb most names A c _ ?i1 ?i2 BB.out HC.out ?i3 ?i4 HL.out HM.out).mono ?_; (case i1 => exact ⟨_, _, BL4.out, BM4.out, BN4.out, Kd.R_nil _ _ _ _ _, Kd.R_nil _ _ _ _ _, ⟨NE1.out, NE2.out⟩, ⟨GL.out, fun e => GB.out.1 e.symm⟩, ⟨GM.out, fun e => GB.out.2.1 e.symm⟩, ⟨GN.out, fun e => GB.out.2.2 e.symm⟩⟩); (case i2 => exact fun k hk => ⟨Nat.le_trans HB.out.size hk, fun e => absurd (blk_lt BB.out) (by omega)⟩); (case i3 => exact fun ad e hf => absurd (HA.out ad e) (by omega)); (case i4 => exact fun hf => hf.2 rfl); rintro e w5 ⟨rfl, ⟨vl, vn, bl, bm, bn, rl, rn, _⟩, hk⟩; obtain ⟨Al, cl, hvl, _, hcl⟩ := Kd.R_reads rl; obtain ⟨An, cn, hvn, _, hcn⟩ := Kd.R_reads rn; subst hvl; subst hvn; have HCL := Aside0.mk hcl; have HCN := Aside0.mk hcn; have c5l := (blk_cell bl 0).trans rfl; have c5n := (blk_cell bn 0).trans rfl; have HBn := Aside0.mk (HB.out.trans (hk.to_below HB.out.size (fun k h => h.1))); clear HB bl bm bn rl rn hk hcl hcn; have HB := HBn; clear HBn)))
  go_quiet (fail)
  go_wp2
  go_ret2
  have hcl := HCL.out
  rw [show ((List.range names.length).map (fun k : Nat => (k : Int))).length = names.length by simp] at hcl
  exact ⟨Al, cl, An, cn, rfl, hcl, HCN.out, pw_below_drewN HB.out nq⟩
theorem all_some (base g : Nat) (F : Nat → Prop) (names : List ByteArray) (most : Int) (w : World) (h : TabI w base g F names) (hl : names.length ≤ 1000) (hm : (names.length : Int) < most) :
    Calls Try.prog 30 #[.pointer (some ⟨g, 0, none⟩), .int .i64 most] w (AllPost w names) := by
  refine all_of _ names most w hl hm (fun w1 hb => ?_)
  have h1 := h.below hb
  obtain ⟨A, c, hA, hc, hC, hF⟩ := h1.row
  have hlt : ∀ ad, A = some ad → ad.block < w.heap.size := by
    intro ad e
    obtain ⟨A', c', hA', _, _, _⟩ := h.row
    have h2 := (Below.cell hb (p := ⟨g, 0, none⟩) h.lt.1).trans hA'
    rw [hA] at h2
    injection h2 with h2
    injection h2 with h2
    obtain ⟨_, _, v, m, n, D, hg, hm, hR, _⟩ := h
    have hv : v = .slice A' names.length c' := by have := (blk_cell hg 0).trans rfl; rw [hA'] at this; injection this with this; exact this.symm
    subst hv
    obtain ⟨inner, ho⟩ := Kd.R_own hR
    exact (ho.lt ad.block (by rw [← h2, e]; rfl)).2
  exact (All_some base g F names A c w1 h1 hA hc).mono fun e w' ⟨gb, he, hgb, hblk, hb'⟩ => ⟨gb, A, names.length, he, hgb, hblk, Kd.C_below hC hb', hlt, hb'⟩
theorem all_nil (most : Int) (w : World) (hm : 0 < most) : Calls Try.prog 30 #[.pointer none, .int .i64 most] w (AllPost w []) := by
  refine all_of none [] most w (by simp) (by simpa using hm) (fun w1 hb => ?_)
  exact (All_nil w1).mono fun e w' ⟨gb, he, hgb, hblk, hb'⟩ => ⟨gb, none, 0, he, hgb, hblk, C_nil _, (fun ad e => by cases e), hb'⟩
end Go.Proofs.Ytoleenfipnbjkaa.Tab
