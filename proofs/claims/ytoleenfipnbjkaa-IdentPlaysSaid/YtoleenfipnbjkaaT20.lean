/- Any calls of a table, and of a nil table, return the specified results. -/
import Derived.Test.YtoleenfipnbjkaaT19
namespace Go.Proofs.Ytoleenfipnbjkaa.Tab
open Go.RowKit Go.Maps Go.Proofs.Ytoleenfipnbjkaa.PX Go.Proofs.YtoleenfipnbjkaaW.PrintWords Go.Proofs.YtoleenfipnbjkaaW.PrintLast Go.Proofs.YtoleenfipnbjkaaW.PrintMore
set_option linter.unusedVariables false
set_option linter.unusedSimpArgs false
/-- A step: its kind, its index, its name. -/
def kStep : Kd (Int × Int × ByteArray) := Kd.iso (Kd.pair (Kd.int .i64) (Kd.pair (Kd.int .i64) Kd.string)) (fun x => x)
theorem step_at {w : World} {A : Option Addr} {l : List (Int × Int × ByteArray)} (h : Kd.C kStep w A l.length l) (K : Nat) (hK : K < l.length) :
    ∃ ad, A = some ad ∧ ∀ w', Below w.heap.size w w' → w'.cell? (ad.add (K * 3)) = some (.int .i64 (l[K]).1) ∧ w'.cell? ⟨(ad.add (K * 3)).block, (ad.add (K * 3)).off + 1, none⟩ = some (.int .i64 (l[K]).2.1) ∧ w'.cell? ⟨(ad.add (K * 3)).block, (ad.add (K * 3)).off + 2, none⟩ = some (.string (l[K]).2.2) := by
  obtain ⟨ad, c, hA, _, _, _⟩ := Kd.C_get h (0, 0, E0) (K : Int) (by omega) (by omega)
  refine ⟨ad, hA, fun w' hb => ?_⟩
  obtain ⟨ad', c, hA', hl, hk, hc⟩ := Kd.C_get (Kd.C_below h hb) (0, 0, E0) (K : Int) (by omega) (by omega)
  rw [hA] at hA'
  injection hA' with hA'
  subst hA'
  have hg : l.getD (K : Int).toNat (0, 0, E0) = l[K] := by simp [List.getD_eq_getElem?_getD, List.getElem?_eq_getElem hK]
  rw [hg] at hk
  generalize l[K] = x at hk
  obtain ⟨c1, c2, rfl, h1, h2⟩ := hk
  obtain ⟨c3, c4, rfl, h3, h4⟩ := h2
  have h1 : c1 = [.int .i64 x.1] := h1
  have h3 : c3 = [.int .i64 x.2.1] := h3
  have h4 : c4 = [.string x.2.2] := h4
  subst h1; subst h3; subst h4
  have e0 := hc 0 _ rfl
  have e1 := hc 1 _ rfl
  have e2 := hc 2 _ rfl
  simp only [Int.toNat_natCast] at e0 e1 e2
  rw [show kStep.sz = 3 from rfl] at e0 e1 e2
  rw [add_field _ _ _ (by decide)] at e1 e2
  exact ⟨e0, e1, e2⟩
theorem addF_good {ns : List ByteArray} {s : ByteArray} (hv : ns.all validB = true) (hn : ns.Nodup) : (addF ns s).2.2.all validB = true ∧ (addF ns s).2.2.Nodup := by
  unfold addF
  split
  · exact ⟨hv, hn⟩
  · rename_i h1
    split
    · exact ⟨hv, hn⟩
    · rename_i h2
      split
      · exact ⟨hv, hn⟩
      · have h1' : validB s = true := by simpa using h1
        rw [idx_mem] at h2
        refine ⟨by rw [List.all_append, hv]; simp [h1'], ?_⟩
        rw [List.nodup_append]
        exact ⟨hn, by simp, fun a ha b hb e => h2 (by simp at hb; rw [← hb, ← e]; exact ha)⟩
theorem TabI.lower {w : World} {base base' g : Nat} {F : Nat → Prop} {names : List ByteArray} (h : TabI w base g F names) (hb : base' ≤ base) : TabI w base' g F names := by
  obtain ⟨h1, hl, v, m, n, D, hg, hm, hR, hown, hn, hD⟩ := h
  exact ⟨⟨Nat.le_trans hb h1.1, h1.2⟩, hl, v, m, n, D, hg, ⟨Nat.le_trans hb hm.1, hm.2⟩, Kd.R_lower hR hb, hown, hn, hD⟩
theorem RTabI.lower {w : World} {base base' g : Nat} {F : Nat → Prop} {names : List ByteArray} (h : RTabI w base g F names) (hb : base' ≤ base) : RTabI w base' g F names := by
  obtain ⟨h1, hl, v, hg, hR⟩ := h
  exact ⟨⟨Nat.le_trans hb h1.1, h1.2⟩, hl, v, hg, Kd.R_lower hR hb⟩
/-- Both tables, side by side. -/
def Two (w : World) (B g gr : Nat) (ns ns' : List ByteArray) : Prop :=
  ∃ F1 F2 : Nat → Prop, TabI w B g F1 ns ∧ RTabI w B gr F2 ns' ∧ (∀ k, F1 k → ¬ F2 k) ∧ (∀ k, F1 k → k < w.heap.size) ∧ ∀ k, F2 k → k < w.heap.size
theorem Two.below {w w' : World} {B g gr : Nat} {ns ns' : List ByteArray} (h : Two w B g gr ns ns') (hb : Below w.heap.size w w') : Two w' B g gr ns ns' := by
  obtain ⟨F1, F2, h1, h2, h3, h4, h5⟩ := h
  exact ⟨F1, F2, h1.below hb, h2.below hb, h3, fun k hk => Nat.lt_of_lt_of_le (h4 k hk) hb.size, fun k hk => Nat.lt_of_lt_of_le (h5 k hk) hb.size⟩
theorem Two.start {w w1 w2 : World} {g gr : Nat} {ns : List ByteArray} (h1 : TabI w1 w.heap.size g (fun k => w.heap.size ≤ k) ns) (hb1 : Below w.heap.size w w1) (h2 : RTabI w2 w1.heap.size gr (fun k => w1.heap.size ≤ k) ns) (hb2 : Below w1.heap.size w1 w2) : Two w2 w.heap.size g gr ns ns :=
  ⟨fun k => k < w1.heap.size, fun k => w1.heap.size ≤ k ∧ k < w2.heap.size, (h1.narrow (fun k hk _ => hk)).below hb2, (h2.narrow (fun k hk hf => ⟨hf, hk⟩)).lower hb1.size, fun k h h' => by omega, fun k hk => Nat.lt_of_lt_of_le hk hb2.size, fun k hk => hk.2⟩
theorem Two.add {w : World} {B g gr : Nat} {ns ns' : List ByteArray} (h : Two w B g gr ns ns') (s : ByteArray) :
    Calls Try.prog 17 #[.pointer (some ⟨g, 0, none⟩), .string s] w fun e w' => e = .returned (.tuple #[.int .i64 (addF ns s).1, .int .i64 (addF ns s).2.1]) ∧ Two w' B g gr (addF ns s).2.2 ns' ∧ Below B w w' := by
  obtain ⟨F1, F2, h1, h2, h3, h4, h5⟩ := h
  refine (Add_calls B g (fun k => F1 k ∨ w.heap.size ≤ k) ns s w (h1.narrow (fun k _ hf => .inl hf)) (fun k hk => .inr hk)).mono ?_
  rintro e w' ⟨he, ht, hb, hk⟩
  refine ⟨he, ⟨fun k => (F1 k ∨ w.heap.size ≤ k) ∧ k < w'.heap.size, F2, ht.narrow (fun k hk hf => ⟨hf, hk⟩), h2.keep (fun k hlt hf => hk.2 k hlt (fun hx => ?_)), ?_, fun k hk => hk.2, fun k hf => Nat.lt_of_lt_of_le (h5 k hf) hk.1.size⟩, hb⟩
  · rcases hx with hx | hx
    · exact h3 k hx hf
    · omega
  · rintro k ⟨hx | hx, _⟩ hf
    · exact h3 k hx hf
    · exact absurd (h5 k hf) (by omega)
theorem Two.radd {w : World} {B g gr : Nat} {ns ns' : List ByteArray} (h : Two w B g gr ns ns') (s : ByteArray) :
    Calls Try.prog 20 #[.pointer (some ⟨gr, 0, none⟩), .string s] w fun e w' => e = .returned (.tuple #[.int .i64 (addF ns' s).1, .int .i64 (addF ns' s).2.1]) ∧ Two w' B g gr ns (addF ns' s).2.2 ∧ Below B w w' := by
  obtain ⟨F1, F2, h1, h2, h3, h4, h5⟩ := h
  refine (RAdd_calls B gr (fun k => F2 k ∨ w.heap.size ≤ k) ns' s w (h2.narrow (fun k _ hf => .inl hf)) (fun k hk => .inr hk)).mono ?_
  rintro e w' ⟨he, ht, hb, hk⟩
  refine ⟨he, ⟨F1, fun k => (F2 k ∨ w.heap.size ≤ k) ∧ k < w'.heap.size, h1.keep (fun k hlt hf => hk.2 k hlt (fun hx => ?_)), ht.narrow (fun k hk hf => ⟨hf, hk⟩), ?_, fun k hf => Nat.lt_of_lt_of_le (h4 k hf) hk.1.size, fun k hk => hk.2⟩, hb⟩
  · rcases hx with hx | hx
    · exact h3 k hf hx
    · omega
  · rintro k hf ⟨hx | hx, _⟩
    · exact h3 k hf hx
    · exact absurd (h4 k hf) (by omega)
theorem Two.find {w : World} {B g gr : Nat} {ns ns' : List ByteArray} (h : Two w B g gr ns ns') {s : ByteArray} (hs : s.size ≤ maxLen) :
    Calls Try.prog 16 #[.pointer (some ⟨g, 0, none⟩), .string s] w fun e w' => e = .returned (.tuple #[.int .i64 ((idx s ns).getD 0 : Nat), .bool (idx s ns).isSome]) ∧ w' = w := by
  obtain ⟨F1, F2, h1, h2, h3, h4, h5⟩ := h
  exact Find_calls B g F1 ns s hs w h1
theorem Two.rfind {w : World} {B g gr : Nat} {ns ns' : List ByteArray} (h : Two w B g gr ns ns') (s : ByteArray) :
    Calls Try.prog 21 #[.pointer (some ⟨gr, 0, none⟩), .string s] w fun e w' => e = .returned (.tuple #[.int .i64 ((idx s ns').getD 0 : Nat), .bool (idx s ns').isSome]) ∧ Below w.heap.size w w' := by
  obtain ⟨F1, F2, h1, h2, h3, h4, h5⟩ := h
  exact RFind_calls B gr F2 ns' s w h2
theorem Two.name {w : World} {B g gr : Nat} {ns ns' : List ByteArray} (h : Two w B g gr ns ns') (i : Int) :
    Calls Try.prog 15 #[.pointer (some ⟨g, 0, none⟩), .int .i64 i] w fun e w' => e = .returned (.tuple #[.string (nameF ns i).1, .bool (nameF ns i).2]) ∧ w' = w := by
  obtain ⟨F1, F2, h1, h2, h3, h4, h5⟩ := h
  exact Name_calls B g F1 ns i w h1
theorem Two.rname {w : World} {B g gr : Nat} {ns ns' : List ByteArray} (h : Two w B g gr ns ns') (i : Int) :
    Calls Try.prog 22 #[.pointer (some ⟨gr, 0, none⟩), .int .i64 i] w fun e w' => e = .returned (.tuple #[.string (nameF ns' i).1, .bool (nameF ns' i).2]) ∧ w' = w := by
  obtain ⟨F1, F2, h1, h2, h3, h4, h5⟩ := h
  exact RName_calls B gr F2 ns' i w h2
theorem Two.len {w : World} {B g gr : Nat} {ns ns' : List ByteArray} (h : Two w B g gr ns ns') :
    Calls Try.prog 14 #[.pointer (some ⟨g, 0, none⟩)] w fun e w' => e = .returned (.int .i64 ns.length) ∧ w' = w := by
  obtain ⟨F1, F2, h1, h2, h3, h4, h5⟩ := h
  exact Len_calls B g F1 ns w h1
theorem Two.rlen {w : World} {B g gr : Nat} {ns ns' : List ByteArray} (h : Two w B g gr ns ns') :
    Calls Try.prog 23 #[.pointer (some ⟨gr, 0, none⟩)] w fun e w' => e = .returned (.int .i64 ns'.length) ∧ w' = w := by
  obtain ⟨F1, F2, h1, h2, h3, h4, h5⟩ := h
  exact RLen_calls B gr F2 ns' w h2
theorem Two.same {w : World} {B g gr : Nat} {ns : List ByteArray} (h : Two w B g gr ns ns) (hv : ns.all validB = true) (hn : ns.Nodup) :
    ∃ A c, w.cell? ⟨gr, 0, none⟩ = some (.slice A ns.length c) ∧ Calls Try.prog 19 #[.pointer (some ⟨g, 0, none⟩), .slice A ns.length c] w fun e w' => e = .returned (.bool true) ∧ Below w.heap.size w w' := by
  obtain ⟨F1, F2, h1, h2, h3, h4, h5⟩ := h
  obtain ⟨A, c, hg, _, hC⟩ := h2.row
  exact ⟨A, c, (blk_cell hg 0).trans rfl, same_calls B g F1 ns A c w h1 hC hv hn⟩
end Go.Proofs.Ytoleenfipnbjkaa.Tab
