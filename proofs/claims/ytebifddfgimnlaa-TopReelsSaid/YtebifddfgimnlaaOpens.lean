/- What an argument reads as gives the cells of a kind: one word for each shape of a type, so that a row's arguments of any shape come in by one term. -/
import Derived.Test.YtebifddfgimnlaaWWords
import Derived.Deep.Slices
import Derived.ChangeArms
import Derived.OpenShut
namespace Go.Proofs.Ytebifddfgimnlaa.Opens
open Go.RowKit Go.Proofs.YtebifddfgimnlaaW.PrintWords Go.Deep

/-- What cells of type t read as in a row's beginning, is of the kind d, and Q holds of it. -/
def Opens (P : Program) (t : TypeId) {α : Type} (d : Kd α) (Q : α → Prop) : Prop :=
  ∀ (H : Type) (enc : TypeId × Value → H) (w : World) (base : Nat) (spare : Nat → Bool) (held : Bool) (fuel : Nat) (cs : List Value) (x : DataW H × List MemPlace),
    DataW.trod enc P w base spare held fuel t cs = some x → ∃ y, d.K w y cs ∧ Q y

theorem Opens.imp {P : Program} {t : TypeId} {α : Type} {d : Kd α} {Q Q' : α → Prop} (h : Opens P t d Q) (hq : ∀ y, Q y → Q' y) : Opens P t d Q' := by
  intro H enc w base spare held fuel cs x hx
  obtain ⟨y, h1, h2⟩ := h H enc w base spare held fuel cs x hx
  exact ⟨y, h1, hq y h2⟩

theorem opens_int {P : Program} {t : TypeId} {k : IntKind} (hu : P.underlying t = some (.int k)) : Opens P t (Kd.int k) (fun n => (Lit.int k n).wf = true) := by
  intro H enc w base spare held fuel cs x hx
  obtain ⟨n, rfl, _, hw⟩ := DataW.trod_int hu hx
  exact ⟨n, rfl, hw⟩

theorem opens_bool {P : Program} {t : TypeId} (hu : P.underlying t = some .bool) : Opens P t Kd.bool (fun _ => True) := by
  intro H enc w base spare held fuel cs x hx
  obtain ⟨n, rfl, _⟩ := DataW.trod_bool hu hx
  exact ⟨n, rfl, trivial⟩

theorem opens_string {P : Program} {t : TypeId} (hu : P.underlying t = some .string) : Opens P t Kd.string (fun s => s.size ≤ maxLen) := by
  intro H enc w base spare held fuel cs x hx
  obtain ⟨n, rfl, _, hw⟩ := DataW.trod_string hu hx
  exact ⟨n, rfl, hw⟩

theorem opens_slice {P : Program} {t e : TypeId} {α : Type} {d : Kd α} {Q : α → Prop} (hu : P.underlying t = some (.slice e)) (hc : P.cellsOf e = d.sz) (ho : Opens P e d Q) :
    Opens P t (Kd.slice e d) (fun ys => ys.length ≤ maxLen ∧ ∀ y ∈ ys, Q y) := by
  intro H enc w base spare held fuel cs x hx
  rcases open_slice hu hx with ⟨rfl, _⟩ | ⟨a, len, cap, m, n, D, Pl, rfl, _, hl, hm, hmm, _, hel⟩
  · exact ⟨[], ⟨none, 0, rfl, Nat.le_refl _, rfl, by simp, fun h => by simp at h⟩, by simp [maxLen], by simp⟩
  · have key : ∀ k, k ≤ len → ∃ ys : List α, ys.length = k ∧ (∀ y ∈ ys, Q y) ∧ ∀ j p, ys[j]? = some p → ∃ c : List Value, c.length = d.sz ∧ d.K w p c ∧ ∀ i u, c[i]? = some u → w.cell? (a.add (j * d.sz + i)) = some u := by
      intro k
      induction k with
      | zero => exact fun _ => ⟨[], rfl, by simp, by simp⟩
      | succ k ih =>
        intro hk
        obtain ⟨ys, hy1, hy2, hy3⟩ := ih (by omega)
        obtain ⟨cs', h1, h2⟩ := hel k (by have : k < len := by omega
                                          rw [hmm]; split <;> omega)
        obtain ⟨y, h3, h4⟩ := ho H enc w base spare held n cs' _ h2
        obtain ⟨_, hlen, hcell⟩ := World.cells?_some h1
        refine ⟨ys ++ [y], by simp [hy1], ?_, ?_⟩
        · intro z hz
          rcases List.mem_append.1 hz with hz | hz
          · exact hy2 z hz
          · rw [List.mem_singleton.1 hz]; exact h4
        · intro j p hp
          rcases Nat.lt_or_ge j k with hj | hj
          · rw [List.getElem?_append_left (by omega)] at hp
            exact hy3 j p hp
          · rw [List.getElem?_append_right (by omega)] at hp
            have hj' : j - ys.length = 0 := by
              rcases Nat.eq_zero_or_pos (j - ys.length) with h0 | h0
              · exact h0
              · rw [List.getElem?_eq_none (show [y].length ≤ j - ys.length from h0)] at hp
                cases hp
            obtain rfl : j = k := by omega
            rw [hj'] at hp
            obtain rfl : y = p := by simpa using hp
            refine ⟨cs', by rw [hlen, hc], h3, fun i u hi => ?_⟩
            have hi' : i < P.cellsOf e := by rw [← hlen]; exact (List.getElem?_eq_some_iff.1 hi).1
            have := hcell i hi'
            rw [hi, Go.Deep.add_add, hc] at this
            exact this
    obtain ⟨ys, hy1, hy2, hy3⟩ := key len (Nat.le_refl _)
    have hmx : len ≤ maxLen := Nat.le_trans hl hm
    subst hy1
    refine ⟨ys, ⟨some a, cap, rfl, hl, rfl, by simpa [maxLen] using hmx, fun _ => ⟨a, rfl, hy3⟩⟩, hmx, hy2⟩

/-- The fields from one on, one behind the other. -/
def OpensF (P : Program) (off : Nat) (fs : List Field) {α : Type} (d : Kd α) (Q : α → Prop) : Prop :=
  ∀ (H : Type) (enc : TypeId × Value → H) (w : World) (base : Nat) (spare : Nat → Bool) (held : Bool) (n : Nat) (cs : List Value),
    (∀ f ∈ fs, ∃ y, DataW.trod enc P w base spare held n f.type ((cs.drop f.offset).take (P.cellsOf f.type)) = some y) → ∃ y, d.K w y ((cs.drop off).take d.sz) ∧ Q y

theorem opensF_one {P : Program} {off : Nat} {f : Field} {α : Type} {d : Kd α} {Q : α → Prop} (hf : f.offset = off) (hc : P.cellsOf f.type = d.sz) (h : Opens P f.type d Q) : OpensF P off [f] d Q := by
  intro H enc w base spare held n cs hx
  obtain ⟨y, hy⟩ := hx f (by simp)
  rw [hf, hc] at hy
  exact h H enc w base spare held n _ _ hy

theorem opensF_cons {P : Program} {off : Nat} {f : Field} {fs : List Field} {α β : Type} {a : Kd α} {b : Kd β} {Q : α → Prop} {R : β → Prop} (hf : f.offset = off) (hc : P.cellsOf f.type = a.sz) (h : Opens P f.type a Q) (hs : OpensF P (off + a.sz) fs b R) :
    OpensF P off (f :: fs) (Kd.pair a b) (fun y => Q y.1 ∧ R y.2) := by
  intro H enc w base spare held n cs hx
  obtain ⟨y0, hy⟩ := hx f (by simp)
  rw [hf, hc] at hy
  obtain ⟨y, h1, h2⟩ := h H enc w base spare held n _ _ hy
  obtain ⟨z, h3, h4⟩ := hs H enc w base spare held n cs (fun g hg => hx g (List.mem_cons_of_mem _ hg))
  refine ⟨(y, z), ⟨_, _, ?_, h1, h3⟩, h2, h4⟩
  show (cs.drop off).take (a.sz + b.sz) = _
  rw [List.take_add, List.drop_drop]

theorem opens_struct {P : Program} {t : TypeId} {fs : List Field} {α β : Type} {d : Kd α} {Q : α → Prop} (f : β → α) (g : α → β) (hg : ∀ y, f (g y) = y) (hu : P.underlying t = some (.struct fs.toArray)) (hc : P.cellsOf t = d.sz) (h : OpensF P 0 fs d Q) :
    Opens P t (Kd.iso d f) (fun z => Q (f z)) := by
  intro H enc w base spare held fuel cs x hx
  obtain ⟨xs, n, _, _, hl, hlen, hf⟩ := DataW.trod_struct hu hx
  obtain ⟨y, h1, h2⟩ := h H enc w base spare held n cs (fun fl hfl => by
    obtain ⟨i, hi, he⟩ := List.mem_iff_getElem.1 hfl
    have h0 := hf i fl (by simp [List.getElem?_eq_getElem hi, he])
    have hi' : i < xs.length := by rw [hlen]; simpa using hi
    rw [List.getElem?_eq_getElem hi'] at h0
    exact ⟨_, h0⟩)
  refine ⟨g y, ?_, by show Q (f (g y)); rw [hg]; exact h2⟩
  show d.K w (f (g y)) cs
  rw [hg, ← show (cs.drop 0).take d.sz = cs by rw [List.drop_zero, List.take_of_length_le (by omega)]]
  exact h1

/-- A slice that came in, as the printed contracts ask it. -/
theorem opens_row {P : Program} {t e : TypeId} {α : Type} {d : Kd α} {Q : List α → Prop} (h : Opens P t (Kd.slice e d) Q) {H : Type} {enc : TypeId × Value → H} {w : World} {base : Nat} {spare : Nat → Bool} {held : Bool} {v : Value} {x : DataW H} {p : List MemPlace}
    (hv : DataW.Trod enc P w base spare held t v x p) : ∃ A c ys, v.cells = #[.slice A ys.length c] ∧ ys.length ≤ c ∧ d.C w A ys.length ys ∧ Q ys := by
  obtain ⟨fuel, hx⟩ := hv
  obtain ⟨ys, ⟨A, c, h1, h2, h3⟩, h4⟩ := h H enc w base spare held fuel _ _ hx
  exact ⟨A, c, ys, Array.toList_inj.1 (by simpa using h1), h2, h3, h4⟩

/-- A value that came in, by its cells. -/
theorem opens_val {P : Program} {t : TypeId} {α : Type} {d : Kd α} {Q : α → Prop} (h : Opens P t d Q) {H : Type} {enc : TypeId × Value → H} {w : World} {base : Nat} {spare : Nat → Bool} {held : Bool} {v : Value} {x : DataW H} {p : List MemPlace}
    (hv : DataW.Trod enc P w base spare held t v x p) : ∃ y, d.K w y v.cells.toList ∧ Q y := by
  obtain ⟨fuel, hx⟩ := hv
  exact h H enc w base spare held fuel _ _ hx

end Go.Proofs.Ytebifddfgimnlaa.Opens
