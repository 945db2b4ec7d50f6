/- A table's map under a new name; a table is kept where its blocks are. -/
import Derived.Test.YtoleenfipnbjkaaT1
namespace Go.Proofs.Ytoleenfipnbjkaa.Tab
open Go.RowKit Go.Maps Go.Proofs.YtoleenfipnbjkaaW.PrintWords Go.Proofs.YtoleenfipnbjkaaW.PrintLast Go.Proofs.YtoleenfipnbjkaaW.PrintMore
set_option linter.unusedVariables false
set_option linter.unusedSimpArgs false
theorem idx_snoc (s x : ByteArray) (l : List ByteArray) : idx s (l ++ [x]) = (match idx s l with | some i => some i | none => if x.data = s.data then some l.length else none) := by
  induction l with
  | nil => simp [idx]
  | cons y l ih =>
    simp only [List.cons_append, idx]
    split
    · rfl
    · rw [ih]
      cases h : idx s l with
      | some i => rfl
      | none =>
        simp only [Option.map_none]
        split
        · simp
        · rfl
theorem kl_ne {s x : ByteArray} (h : ¬ x.data = s.data) : kl s ≠ kl x := by
  intro e
  unfold kl at e
  injection e with e
  exact h (by cases hs : s.data; cases hx : x.data; simp_all)
theorem kl_key (s : ByteArray) : WideAt.IsKeyLit (kl s) := by
  unfold kl
  first | trivial | exact True.intro | simp [WideAt.IsKeyLit]
theorem MapIs.put {D : DataW Unit} {names : List ByteArray} (h : MapIs D names) (hD : IsMap D) (x : ByteArray) (hx : idx x names = none) : MapIs (D.put (kl x) (.lit (.int .i64 (names.length : Nat)))) (names ++ [x]) := by
  intro s
  rw [idx_snoc]
  by_cases he : x.data = s.data
  · have hk : kl s = kl x := by unfold kl; rw [he]
    have hi : idx s names = none := by
      have : s = x := by cases s; cases x; simp_all
      rw [this]; exact hx
    rw [hk, hi, if_pos he]
    exact ⟨has_put_same hD (kl_key x) _, atKey_put_same hD (kl_key x) _ _⟩
  · have hk := kl_ne he
    rw [has_put_other hk, atKey_put_other hk]
    obtain ⟨h1, h2⟩ := h s
    rw [h1, h2]
    cases hi : idx s names with
    | some i => exact ⟨rfl, rfl⟩
    | none => simp [he]
theorem TabI.lt {w : World} {base g : Nat} {F : Nat → Prop} {names : List ByteArray} (h : TabI w base g F names) : g < w.heap.size ∧ base ≤ g := by
  obtain ⟨hb, hl, v, m, n, D, hg, _⟩ := h
  exact ⟨blk_lt hg, hb.1⟩
theorem ownsMap_at {w w' : World} {P : Program} {k : TypeId} {R : Value → Option (DataW Unit × List MemPlace)} {b n : Nat} {D : DataW Unit} (h : w.ownsMap P k R b n D) (hB : w'.heap[b]? = w.heap[b]?) : w'.ownsMap P k R b n D := by
  obtain ⟨es, clock, hb, F, hs, hD⟩ := h
  exact ⟨es, clock, hB.trans hb, F, hs, hD⟩
theorem ownsMap_below {w w' : World} {P : Program} {k : TypeId} {R : Value → Option (DataW Unit × List MemPlace)} {b n : Nat} {D : DataW Unit} (h : w.ownsMap P k R b n D) (hB : Below w.heap.size w w') : w'.ownsMap P k R b n D := ownsMap_at h (hB.block b h.lt)
/-- What is kept where no block of F is written: all others are as they were. -/
def Keeps (F : Nat → Prop) (w w' : World) : Prop := Below 0 w w' ∧ ∀ k, k < w.heap.size → ¬ F k → w'.heap[k]? = w.heap[k]?
theorem Keeps.trans {F : Nat → Prop} {w w1 w2 : World} (h : Keeps F w w1) (h' : Keeps F w1 w2) : Keeps F w w2 := ⟨h.1.trans h'.1, fun k hk hf => (h'.2 k (Nat.lt_of_lt_of_le hk h.1.size) hf).trans (h.2 k hk hf)⟩
theorem Keeps.below {F : Nat → Prop} {w w1 : World} (h : Below w.heap.size w w1) : Keeps F w w1 := ⟨h.mono (Nat.zero_le _), fun k hk _ => h.block k hk⟩
theorem Keeps.grown {F : Nat → Prop} {w w1 : World} {row : Option Nat} (h : w.grownBy w1 row) (hr : ∀ k, row = some k → F k) : Keeps F w w1 := ⟨(Below.refl 0 w).grown h (Nat.zero_le _) (fun _ _ => Nat.zero_le _), fun k hk hf => h.block k hk (fun e => hf (hr k e.symm))⟩
theorem Keeps.setCell {F : Nat → Prop} (w : World) {p : Addr} (hp : F p.block) (u : Value) : Keeps F w (w.setCell p u) := ⟨(Below.refl 0 w).setCell (Nat.zero_le _) _, fun k hk hf => Below.heap_setCell w p u k (fun e => hf (e ▸ hp))⟩
theorem Keeps.mono {F F' : Nat → Prop} {w w1 : World} (h : Keeps F w w1) (hf : ∀ k, k < w.heap.size → F k → F' k) : Keeps F' w w1 := ⟨h.1, fun k hk hn => h.2 k hk (fun hF => hn (hf k hk hF))⟩
theorem Keeps.refl (F : Nat → Prop) (w : World) : Keeps F w w := ⟨Below.refl 0 w, fun _ _ _ => rfl⟩
theorem Keeps.to_below {F : Nat → Prop} {w w' : World} {B : Nat} (h : Keeps F w w') (hB : B ≤ w.heap.size) (hF : ∀ k, F k → B ≤ k) : Below B w w' := ⟨h.1.os, h.1.tape, h.1.output, h.1.size, fun k hk => h.2 k (Nat.lt_of_lt_of_le hk hB) (fun hf => absurd (hF k hf) (by omega))⟩
/-- A table is kept where its blocks are. -/
theorem TabI.keep {w w' : World} {base g : Nat} {F : Nat → Prop} {names : List ByteArray} (h : TabI w base g F names) (hB : ∀ k, k < w.heap.size → F k → w'.heap[k]? = w.heap[k]?) : TabI w' base g F names := by
  obtain ⟨hb, hl, v, m, n, D, hg, hm, hR, hown, hn, hD⟩ := h
  exact ⟨hb, hl, v, m, n, D, (hB g (blk_lt hg) hb.2).trans hg, hm, Kd.R_step hR (fun k hk hlt => hB k hlt hk.2), ownsMap_at hown (hB m hown.lt hm.2), hn, hD⟩
theorem TabI.below {w w' : World} {base g : Nat} {F : Nat → Prop} {names : List ByteArray} (h : TabI w base g F names) (hB : Below w.heap.size w w') : TabI w' base g F names := h.keep (fun k hk _ => hB.block k hk)
/-- Other blocks may be those of a table as far as they are there. -/
theorem TabI.narrow {w : World} {base g : Nat} {F F' : Nat → Prop} {names : List ByteArray} (h : TabI w base g F names) (hF : ∀ k, k < w.heap.size → F k → F' k) : TabI w base g F' names := by
  obtain ⟨hb, hl, v, m, n, D, hg, hm, hR, hown, hn, hD⟩ := h
  exact ⟨⟨hb.1, hF g (blk_lt hg) hb.2⟩, hl, v, m, n, D, hg, ⟨hm.1, hF m hown.lt hm.2⟩, Kd.R_mono (Kd.R_bound hR) (fun k hk => ⟨hk.1.1, hF k hk.2.2.1 hk.1.2⟩), hown, hn, hD⟩
end Go.Proofs.Ytoleenfipnbjkaa.Tab
