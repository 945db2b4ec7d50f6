/- The iterator over the closure that adds a name meanwhile. -/
import Derived.Test.YtoleenfipnbjkaaT23
import Derived.Test.YtoleenfipnbjkaaT16
namespace Go.Proofs.Ytoleenfipnbjkaa.Tab
open Go.RowKit Go.Maps Go.Proofs.Ytoleenfipnbjkaa.PX Go.Proofs.YtoleenfipnbjkaaW.PrintWords Go.Proofs.YtoleenfipnbjkaaW.PrintLast Go.Proofs.YtoleenfipnbjkaaW.PrintMore
set_option linter.unusedVariables false
set_option linter.unusedSimpArgs false
theorem Add_quiet (base g : Nat) (F : Nat → Prop) (ns : List ByteArray) (s : ByteArray) (w : World) (h : TabI w base g F ns) (hq : (addF ns s).2.1 ≠ 0) :
    Calls Try.prog 17 #[.pointer (some ⟨g, 0, none⟩), .string s] w fun e w' => (∃ a b, e = .returned (.tuple #[.int .i64 a, .int .i64 b])) ∧ TabI w' base g F ns ∧ Below w.heap.size w w' := by
  unfold addF at hq
  split at hq
  · rename_i hv
    exact (Add_bad base g F ns s w h hv).mono fun e w' ⟨h1, h2, h3⟩ => ⟨⟨_, _, h1⟩, h2, h3⟩
  · rename_i hv
    have hv' : validB s = true := by simpa using hv
    split at hq
    · rename_i hi
      exact (Add_there base g F ns s w h hv' hi).mono fun e w' ⟨h1, h2, h3⟩ => ⟨⟨_, _, h1⟩, h2, h3⟩
    · rename_i hi
      have hi' : (idx s ns).isSome = false := by simpa using hi
      split at hq
      · rename_i hf
        exact (Add_full base g F ns s w h hv' hi' hf).mono fun e w' ⟨h1, h2, h3⟩ => ⟨⟨_, _, h1⟩, h2, h3⟩
      · exact absurd rfl hq
/-- What the closure's blocks are: Pr are those that stay as they are in wc. -/
structure Cfg where
  B : Nat
  g : Nat
  gg : Nat
  gn : Nat
  g3 : Nat
  g7 : Nat
  g5 : Nat
  g4 : Nat
  gb : Nat
  A : Option Addr
  A0 : Option Addr
  c0 : Nat
  names : List ByteArray
  added : ByteArray
  take : Int
  wc : World
  Pr : Nat → Prop
def Static (X : Cfg) : Prop :=
  X.gg ≠ X.gn ∧ ¬ X.Pr X.gg ∧ ¬ X.Pr X.gn ∧ X.B ≤ X.gg ∧ X.B ≤ X.gn ∧ (∀ ad, X.A = some ad → ad.block ≠ X.gg ∧ ad.block ≠ X.gn) ∧ (∀ k, X.Pr k → k < X.wc.heap.size) ∧
  (X.Pr X.g3 ∧ X.wc.heap[X.g3]? = some (.cells #[.slice X.A0 X.names.length X.c0] 24 (0, 0))) ∧ (X.Pr X.g7 ∧ X.wc.heap[X.g7]? = some (.cells #[.pointer (some ⟨X.g, 0, none⟩)] 25 (0, 0))) ∧
  (X.Pr X.g5 ∧ X.wc.heap[X.g5]? = some (.cells #[.string X.added] 9 (0, 0))) ∧ (X.Pr X.g4 ∧ X.wc.heap[X.g4]? = some (.cells #[.int .u8 X.take] 5 (0, 0))) ∧ (X.Pr X.gb ∧ X.wc.heap[X.gb]? = some (.cells #[.slice X.A X.names.length X.names.length] 24 (0, 0))) ∧
  Kd.C Kd.string X.wc X.A0 X.names.length X.names ∧ (∀ ad, X.A0 = some ad → 0 < X.names.length → X.Pr ad.block) ∧ X.names.length ≤ 60 ∧ 0 ≤ X.take ∧ X.take ≤ 255
def CI (X : Cfg) (w : World) (K : Int) : Prop :=
  ∃ (ns : List ByteArray) (F : Nat → Prop), TabI w X.B X.g F ns ∧ (∀ k, F k → k < w.heap.size ∧ ¬ X.Pr k ∧ k ≠ X.gg ∧ k ≠ X.gn) ∧ w.heap[X.gg]? = some (.cells #[.bool true] 4 (0, 0)) ∧ w.heap[X.gn]? = some (.cells #[.int .i64 K] 3 (0, 0)) ∧
    (∀ k, X.Pr k → w.heap[k]? = X.wc.heap[k]?) ∧ Kd.C Kd.string w X.A X.names.length X.names ∧ ((addF ns X.added).2.1 ≠ 0 ∨ (ns = X.names ∧ ∃ c, w.cell? ⟨X.g, 0, none⟩ = some (.slice X.A X.names.length c)))
theorem SameCells.of_pos {A : Option Addr} {n : Nat} {w w' : World} (h : ∀ ad, A = some ad → 0 < n → ad.block < w.heap.size → w'.heap[ad.block]? = w.heap[ad.block]?) : SameCells A n w w' := by
  by_cases hn : 0 < n
  · exact SameCells.of_block (fun ad e => h ad e hn)
  · intro ad he j hj
    omega
theorem CI.cells {X : Cfg} (S : Static X) {w : World} {K : Int} (h : CI X w K) :
    w.cell? ⟨X.gg, 0, none⟩ = some (.bool true) ∧ w.frozen? ⟨X.gg, 0, none⟩ = false ∧ w.cell? ⟨X.gn, 0, none⟩ = some (.int .i64 K) ∧ w.frozen? ⟨X.gn, 0, none⟩ = false ∧ w.cell? ⟨X.g3, 0, none⟩ = some (.slice X.A0 X.names.length X.c0) ∧
      w.cell? ⟨X.g7, 0, none⟩ = some (.pointer (some ⟨X.g, 0, none⟩)) ∧ w.cell? ⟨X.g5, 0, none⟩ = some (.string X.added) ∧ w.cell? ⟨X.g4, 0, none⟩ = some (.int .u8 X.take) ∧ w.cell? ⟨X.gb, 0, none⟩ = some (.slice X.A X.names.length X.names.length) ∧
      Kd.C Kd.string w X.A0 X.names.length X.names ∧ Kd.C Kd.string w X.A X.names.length X.names := by
  obtain ⟨ns, F, hT, hF, hgg, hgn, hP, hC, _⟩ := h
  obtain ⟨s1, s2, s3, s4, s5, s6, s7, ⟨p3, b3⟩, ⟨p7, b7⟩, ⟨p5, b5⟩, ⟨p4, b4⟩, ⟨pb, bb⟩, sC, sA, _⟩ := S
  exact ⟨(blk_cell hgg 0).trans rfl, blk_frozen hgg 0, (blk_cell hgn 0).trans rfl, blk_frozen hgn 0, (blk_cell ((hP _ p3).trans b3) 0).trans rfl, (blk_cell ((hP _ p7).trans b7) 0).trans rfl, (blk_cell ((hP _ p5).trans b5) 0).trans rfl, (blk_cell ((hP _ p4).trans b4) 0).trans rfl, (blk_cell ((hP _ pb).trans bb) 0).trans rfl,
    C_same sC (SameCells.of_pos (fun ad e h0 _ => hP _ (sA ad e h0))), hC⟩
theorem CI.setN {X : Cfg} (S : Static X) {w : World} {K : Int} (h : CI X w K) (K' : Int) : CI X (w.setCell ⟨X.gn, 0, none⟩ (.int .i64 K')) K' := by
  obtain ⟨ns, F, hT, hF, hgg, hgn, hP, hC, hq⟩ := h
  obtain ⟨s1, s2, s3, s4, s5, s6, _⟩ := S
  have hk : ∀ k, k ≠ X.gn → (w.setCell ⟨X.gn, 0, none⟩ (.int .i64 K')).heap[k]? = w.heap[k]? := fun k hk => Below.heap_setCell w ⟨X.gn, 0, none⟩ _ k hk
  refine ⟨ns, F, hT.keep (fun k _ hf => hk k (hF k hf).2.2.2), fun k hf => ⟨by simpa [World.setCell] using (hF k hf).1, (hF k hf).2⟩, (hk _ s1).trans hgg, blk_put hgn 0 _ rfl, fun k hp => (hk k (fun e => s3 (e ▸ hp))).trans (hP k hp), C_same hC (SameCells.of_block (fun ad e _ => hk _ (s6 ad e).2)), ?_⟩
  rcases hq with hq | ⟨hq, c, hc⟩
  · exact .inl hq
  · refine .inr ⟨hq, c, (World.cell?_of_block (hk _ ?_)).trans hc⟩
    obtain ⟨⟨_, hg⟩, _⟩ := hT
    exact (hF _ hg).2.2.2
theorem CI.setG {X : Cfg} (S : Static X) {w : World} {K : Int} (h : CI X w K) : CI X (w.setCell ⟨X.gg, 0, none⟩ (.bool true)) K := by
  obtain ⟨ns, F, hT, hF, hgg, hgn, hP, hC, hq⟩ := h
  obtain ⟨s1, s2, s3, s4, s5, s6, _⟩ := S
  have hk : ∀ k, k ≠ X.gg → (w.setCell ⟨X.gg, 0, none⟩ (.bool true)).heap[k]? = w.heap[k]? := fun k hk => Below.heap_setCell w ⟨X.gg, 0, none⟩ _ k hk
  refine ⟨ns, F, hT.keep (fun k _ hf => hk k (hF k hf).2.2.1), fun k hf => ⟨by simpa [World.setCell] using (hF k hf).1, (hF k hf).2⟩, blk_put hgg 0 _ rfl, (hk _ (fun e => s1 e.symm)).trans hgn, fun k hp => (hk k (fun e => s2 (e ▸ hp))).trans (hP k hp), C_same hC (SameCells.of_block (fun ad e _ => hk _ (s6 ad e).1)), ?_⟩
  rcases hq with hq | ⟨hq, c, hc⟩
  · exact .inl hq
  · refine .inr ⟨hq, c, (World.cell?_of_block (hk _ ?_)).trans hc⟩
    obtain ⟨⟨_, hg⟩, _⟩ := hT
    exact (hF _ hg).2.2.1
theorem CI.quiet {X : Cfg} {w : World} {K : Int} {ns : List ByteArray} {F : Nat → Prop} (hT : TabI w X.B X.g F ns) (hF : ∀ k, F k → k < w.heap.size ∧ ¬ X.Pr k ∧ k ≠ X.gg ∧ k ≠ X.gn) (hgg : w.heap[X.gg]? = some (.cells #[.bool true] 4 (0, 0))) (hgn : w.heap[X.gn]? = some (.cells #[.int .i64 K] 3 (0, 0)))
    (hS : ∀ k, X.Pr k → k < X.wc.heap.size) (hP : ∀ k, X.Pr k → w.heap[k]? = X.wc.heap[k]?) (hC : Kd.C Kd.string w X.A X.names.length X.names) (hq : (addF ns X.added).2.1 ≠ 0) (hB : X.B ≤ w.heap.size) :
    Calls Try.prog 17 #[.pointer (some ⟨X.g, 0, none⟩), .string X.added] w fun e w' => (∃ a b, e = .returned (.tuple #[.int .i64 a, .int .i64 b])) ∧ CI X w' K ∧ Below X.B w w' := by
  refine (Add_quiet X.B X.g F ns X.added w hT hq).mono ?_
  rintro e w' ⟨he, ht, hb⟩
  have hlt : ∀ k, X.Pr k → k < w.heap.size := fun k hp => by
    have h1 := hP k hp
    rw [Array.getElem?_eq_getElem (hS k hp)] at h1
    exact (Array.getElem?_eq_some_iff.1 h1).1
  exact ⟨he, ⟨ns, F, ht, fun k hf => ⟨Nat.lt_of_lt_of_le (hF k hf).1 hb.size, (hF k hf).2⟩, blk_below hgg hb, blk_below hgn hb, fun k hp => (hb.block k (hlt k hp)).trans (hP k hp), Kd.C_below hC hb, .inl hq⟩, hb.mono hB⟩
theorem CI.add {X : Cfg} (S : Static X) {w : World} {K : Int} (h : CI X w K) :
    Calls Try.prog 17 #[.pointer (some ⟨X.g, 0, none⟩), .string X.added] w fun e w' => (∃ a b, e = .returned (.tuple #[.int .i64 a, .int .i64 b])) ∧ CI X w' K ∧ Below X.B w w' := by
  obtain ⟨ns, F, hT, hF, hgg, hgn, hP, hC, hq⟩ := h
  obtain ⟨s1, s2, s3, s4, s5, s6, s7, rest⟩ := S
  have hB : X.B ≤ w.heap.size := Nat.le_trans hT.lt.2 (Nat.le_of_lt hT.lt.1)
  rcases hq with hq | ⟨rfl, c, hc⟩
  · exact CI.quiet hT hF hgg hgn s7 hP hC hq hB
  · by_cases hz : (addF X.names X.added).2.1 = 0
    · have hz' := hz
      unfold addF at hz
      split at hz
      · cases hz
      · rename_i hv
        split at hz
        · cases hz
        · rename_i hi
          split at hz
          · cases hz
          · rename_i hf
            have hv' : validB X.added = true := by simpa using hv
            have hi' : (idx X.added X.names).isSome = false := by simpa using hi
            refine (Add_new2 X.B X.g (fun k => F k ∨ w.heap.size ≤ k) X.names X.added w (hT.narrow (fun k _ hf => .inl hf)) (fun k hk => .inr hk) hv' hi' (by omega) X.A c hc).mono ?_
            rintro e w' ⟨he, ht, hb, hk, hs⟩
            have hlt : ∀ k, X.Pr k → k < w.heap.size := fun k hp => by
              have h1 := hP k hp
              rw [Array.getElem?_eq_getElem (s7 k hp)] at h1
              exact (Array.getElem?_eq_some_iff.1 h1).1
            have hkeep : ∀ k, k < w.heap.size → ¬ F k → w'.heap[k]? = w.heap[k]? := fun k hlt hf => hk.2 k hlt (fun hx => by rcases hx with hx | hx; (exact hf hx); (omega))
            have hnF : ∀ k, X.Pr k → ¬ F k := fun k hp hf => (hF k hf).2.1 hp
            have hngg : ¬ F X.gg := fun hf => (hF _ hf).2.2.1 rfl
            have hngn : ¬ F X.gn := fun hf => (hF _ hf).2.2.2 rfl
            refine ⟨⟨_, _, he⟩, ⟨X.names ++ [X.added], fun k => (F k ∨ w.heap.size ≤ k) ∧ k < w'.heap.size, ht.narrow (fun k hk hf => ⟨hf, hk⟩), ?_, (hkeep _ (blk_lt hgg) hngg).trans hgg, (hkeep _ (blk_lt hgn) hngn).trans hgn, fun k hp => (hkeep k (hlt k hp) (hnF k hp)).trans (hP k hp), C_same hC hs, .inl ?_⟩, hb⟩
            · rintro k ⟨hx | hx, hlt'⟩
              · exact ⟨hlt', (hF k hx).2⟩
              · exact ⟨hlt', fun hp => absurd (hlt k hp) (by omega), fun e => absurd (blk_lt hgg) (by omega), fun e => absurd (blk_lt hgn) (by omega)⟩
            · rw [addF_there hv' (by simp)]
              show (6 : Int) ≠ 0
              decide
    · exact CI.quiet hT hF hgg hgn s7 hP hC hz hB
end Go.Proofs.Ytoleenfipnbjkaa.Tab
