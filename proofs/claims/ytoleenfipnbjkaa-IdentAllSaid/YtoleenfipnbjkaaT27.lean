/- IdentAll: the iterator's state between two rounds. -/
import Derived.Test.YtoleenfipnbjkaaT26
namespace Go.Proofs.Ytoleenfipnbjkaa.Tab
open Go.RowKit Go.Maps Go.Proofs.Ytoleenfipnbjkaa.PX Go.Proofs.YtoleenfipnbjkaaW.PrintWords Go.Proofs.YtoleenfipnbjkaaW.PrintLast Go.Proofs.YtoleenfipnbjkaaW.PrintMore
set_option linter.unusedVariables false
set_option linter.unusedSimpArgs false
/-- What holds of the blocks that stay. -/
def SM (X : Cfg) : Prop :=
  X.B ≤ X.wc.heap.size ∧ (∀ ad, X.A = some ad → ad.block < X.wc.heap.size) ∧ (∀ k, X.Pr k → k < X.wc.heap.size) ∧
  (X.Pr X.g3 ∧ X.wc.heap[X.g3]? = some (.cells #[.slice X.A0 X.names.length X.c0] 24 (0, 0))) ∧ (X.Pr X.g7 ∧ X.wc.heap[X.g7]? = some (.cells #[.pointer (some ⟨X.g, 0, none⟩)] 25 (0, 0))) ∧
  (X.Pr X.g5 ∧ X.wc.heap[X.g5]? = some (.cells #[.string X.added] 9 (0, 0))) ∧ (X.Pr X.g4 ∧ X.wc.heap[X.g4]? = some (.cells #[.int .u8 X.take] 5 (0, 0))) ∧ (X.Pr X.gb ∧ X.wc.heap[X.gb]? = some (.cells #[.slice X.A X.names.length X.names.length] 24 (0, 0))) ∧
  Kd.C Kd.string X.wc X.A0 X.names.length X.names ∧ (∀ ad, X.A0 = some ad → 0 < X.names.length → X.Pr ad.block) ∧ X.names.length ≤ 60 ∧ 0 ≤ X.take ∧ X.take ≤ 255
def MI (X : Cfg) (N : Nat) (w : World) : Prop :=
  X.wc.heap.size ≤ N ∧ N ≤ w.heap.size ∧ ∃ (ns : List ByteArray) (F : Nat → Prop), TabI w X.B X.g F ns ∧ (∀ k, F k → k < N ∧ ¬ X.Pr k) ∧ (∀ k, X.Pr k → w.heap[k]? = X.wc.heap[k]?) ∧ Kd.C Kd.string w X.A X.names.length X.names ∧
    ((addF ns X.added).2.1 ≠ 0 ∨ (ns = X.names ∧ ∃ c, w.cell? ⟨X.g, 0, none⟩ = some (.slice X.A X.names.length c)))
def Cfg.put (X : Cfg) (gg gn : Nat) : Cfg := { X with gg := gg, gn := gn }
theorem SM.static {X : Cfg} (h : SM X) {gg gn : Nat} (h1 : gg ≠ gn) (h2 : X.wc.heap.size ≤ gg) (h3 : X.wc.heap.size ≤ gn) : Static (X.put gg gn) := by
  obtain ⟨a1, a2, a3, a4, a5, a6, a7, a8, a9, a10, a11, a12, a13⟩ := h
  refine ⟨h1, fun hp => ?_, fun hp => ?_, Nat.le_trans a1 h2, Nat.le_trans a1 h3, fun ad e => ⟨fun e2 => ?_, fun e2 => ?_⟩, a3, a4, a5, a6, a7, a8, a9, a10, a11, a12, a13⟩
  · have h0 : gg < X.wc.heap.size := a3 gg hp
    omega
  · have h0 : gn < X.wc.heap.size := a3 gn hp
    omega
  · have h0 : ad.block < X.wc.heap.size := a2 ad e
    have e3 : ad.block = gg := e2
    omega
  · have h0 : ad.block < X.wc.heap.size := a2 ad e
    have e3 : ad.block = gn := e2
    omega
theorem MI.keep {X : Cfg} (S : SM X) {N : Nat} {w w' : World} (h : MI X N w) (hs : w.heap.size ≤ w'.heap.size) (hk : ∀ k, k < N → w'.heap[k]? = w.heap[k]?) : MI X N w' := by
  obtain ⟨h1, h2, ns, F, hT, hF, hP, hC, hq⟩ := h
  obtain ⟨a1, a2, a3, _⟩ := S
  refine ⟨h1, Nat.le_trans h2 hs, ns, F, hT.keep (fun k _ hf => hk k (hF k hf).1), hF, fun k hp => (hk k (Nat.lt_of_lt_of_le (a3 k hp) h1)).trans (hP k hp), C_same hC (SameCells.of_block (fun ad e _ => hk _ (Nat.lt_of_lt_of_le (a2 ad e) h1))), ?_⟩
  rcases hq with hq | ⟨hq, c, hc⟩
  · exact .inl hq
  · refine .inr ⟨hq, c, (World.cell?_of_block (hk _ ?_)).trans hc⟩
    obtain ⟨⟨_, hg⟩, _⟩ := hT
    exact (hF _ hg).1
theorem MI.below {X : Cfg} (S : SM X) {N : Nat} {w w' : World} (h : MI X N w) (hb : Below w.heap.size w w') : MI X N w' := h.keep S hb.size (fun k hk => hb.block k (Nat.lt_of_lt_of_le hk h.2.1))
theorem MI.set {X : Cfg} (S : SM X) {N : Nat} {w : World} (h : MI X N w) {p : Addr} (hp : N ≤ p.block) (u : Value) : MI X N (w.setCell p u) := h.keep S (by simp [World.setCell]) (fun k hk => Below.heap_setCell w p u k (by omega))
theorem MI.ci {X : Cfg} {N : Nat} {w : World} (h : MI X N w) {gg gn : Nat} (h1 : N ≤ gg) (h2 : N ≤ gn) {K : Int} (hgg : w.heap[gg]? = some (.cells #[.bool true] 4 (0, 0))) (hgn : w.heap[gn]? = some (.cells #[.int .i64 K] 3 (0, 0))) : CI (X.put gg gn) w K := by
  obtain ⟨a1, a2, ns, F, hT, hF, hP, hC, hq⟩ := h
  exact ⟨ns, F, hT, fun k hf => ⟨Nat.lt_of_lt_of_le (hF k hf).1 a2, (hF k hf).2, fun e => by have e2 : k = gg := e; have := (hF k hf).1; omega, fun e => by have e2 : k = gn := e; have := (hF k hf).1; omega⟩, hgg, hgn, hP, hC, hq⟩
theorem CI.mi {X : Cfg} {w : World} {gg gn : Nat} {K : Int} (h : CI (X.put gg gn) w K) (hs : X.wc.heap.size ≤ w.heap.size) : MI X w.heap.size w := by
  obtain ⟨ns, F, hT, hF, hgg, hgn, hP, hC, hq⟩ := h
  exact ⟨hs, Nat.le_refl _, ns, F, hT, fun k hf => ⟨(hF k hf).1, (hF k hf).2.1⟩, hP, hC, hq⟩
theorem TabI.row_lt {w : World} {base g : Nat} {F : Nat → Prop} {names : List ByteArray} (h : TabI w base g F names) {A : Option Addr} {c : Nat} (hA : w.cell? ⟨g, 0, none⟩ = some (.slice A names.length c)) : ∀ ad, A = some ad → ad.block < w.heap.size := by
  intro ad e
  obtain ⟨_, _, v, m, n, D, hg, hm, hR, _⟩ := h
  have hv : v = .slice A names.length c := by have := (blk_cell hg 0).trans rfl; rw [hA] at this; injection this with this; exact this.symm
  subst hv
  obtain ⟨inner, ho⟩ := Kd.R_own hR
  exact (ho.lt ad.block (by rw [e]; rfl)).2
theorem TabI.lower2 {w : World} {base base' g : Nat} {F : Nat → Prop} {names : List ByteArray} (h : TabI w base g F names) (hb : base' ≤ base) : TabI w base' g F names := by
  obtain ⟨h1, hl, v, m, n, D, hg, hm, hR, hown, hn, hD⟩ := h
  exact ⟨⟨Nat.le_trans hb h1.1, h1.2⟩, hl, v, m, n, D, hg, ⟨Nat.le_trans hb hm.1, hm.2⟩, Kd.R_lower hR hb, hown, hn, hD⟩
theorem want_mn (n : Nat) (take : Int) (h0 : 0 ≤ take) : ((wantN n take : Nat) : Int) = mn (mx 1 take) (n : Int) := by unfold wantN mn mx; omega
end Go.Proofs.Ytoleenfipnbjkaa.Tab
