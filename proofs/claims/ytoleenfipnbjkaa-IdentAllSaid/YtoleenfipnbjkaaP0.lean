/- Plain laws of tables of names, as lists. -/
import Derived.Test.YtoleenfipnbjkaaT7
namespace Go.Proofs.Ytoleenfipnbjkaa.Tab
open Go.RowKit Go.Proofs.YtoleenfipnbjkaaW.PrintWords
set_option linter.unusedVariables false
set_option linter.unusedSimpArgs false
theorem data_inj {x y : ByteArray} : x.data = y.data ↔ x = y := by
  constructor
  · intro h; cases x; cases y; simp_all
  · intro h; rw [h]
theorem idx_none {s : ByteArray} {l : List ByteArray} : idx s l = none ↔ s ∉ l := by
  induction l with
  | nil => simp [idx]
  | cons x l ih =>
    simp only [idx]
    by_cases h : x.data = s.data
    · rw [if_pos h]
      have := data_inj.1 h
      simp [this]
    · rw [if_neg h, Option.map_eq_none_iff, ih]
      have hn : ¬ s = x := fun e => h (by rw [e])
      simp [hn]
theorem idx_some {s : ByteArray} {l : List ByteArray} {i : Nat} (h : idx s l = some i) : l[i]? = some s := by
  induction l generalizing i with
  | nil => simp [idx] at h
  | cons x l ih =>
    simp only [idx] at h
    by_cases hx : x.data = s.data
    · rw [if_pos hx] at h
      cases h
      simp [data_inj.1 hx]
    · rw [if_neg hx] at h
      obtain ⟨j, hj, rfl⟩ := Option.map_eq_some_iff.1 h
      simpa using ih hj
theorem idx_lt {s : ByteArray} {l : List ByteArray} {i : Nat} (h : idx s l = some i) : i < l.length := (List.getElem?_eq_some_iff.1 (idx_some h)).1
theorem idx_mem {s : ByteArray} {l : List ByteArray} : (idx s l).isSome = true ↔ s ∈ l := by
  cases h : idx s l with
  | none => simp [idx_none.1 h]
  | some i => simp [List.mem_of_getElem? (idx_some h)]
theorem idx_nodup {l : List ByteArray} (h : l.Nodup) {i : Nat} {s : ByteArray} (hi : l[i]? = some s) : idx s l = some i := by
  induction l generalizing i with
  | nil => simp at hi
  | cons x l ih =>
    rw [List.nodup_cons] at h
    cases i with
    | zero =>
      simp at hi
      subst hi
      simp [idx]
    | succ i =>
      simp at hi
      have hm := List.mem_of_getElem? hi
      have hx : ¬ x.data = s.data := fun e => h.1 (data_inj.1 e ▸ hm)
      simp only [idx, if_neg hx, ih h.2 hi, Option.map_some]
theorem addF_new {acc : List ByteArray} {s : ByteArray} (hv : validB s = true) (hn : s ∉ acc) (hl : acc.length < 512) : addF acc s = ((acc.length : Int), 0, acc ++ [s]) := by
  unfold addF
  rw [if_neg (by simp [hv]), if_neg (by rw [idx_mem]; exact hn), if_neg (by omega)]
theorem addF_there {acc : List ByteArray} {s : ByteArray} (hv : validB s = true) (hn : s ∈ acc) : addF acc s = (0, 6, acc) := by
  unfold addF
  rw [if_neg (by simp [hv]), if_pos (idx_mem.2 hn)]
theorem addF_bad {acc : List ByteArray} {s : ByteArray} (hv : validB s = false) : addF acc s = (0, 5, acc) := by
  unfold addF
  rw [if_pos hv]
theorem newL_good : ∀ (l acc : List ByteArray), l.all validB = true → acc.length + l.length ≤ 512 → (acc ++ l).Nodup → newL acc l = (0, acc ++ l)
  | [], acc, _, _, _ => by simp [newL]
  | s :: l, acc, hv, hl, hn => by
    rw [List.all_cons, Bool.and_eq_true] at hv
    simp only [List.length_cons] at hl
    have hs : s ∉ acc := by
      intro hm
      rw [List.nodup_append] at hn
      exact hn.2.2 s hm s (by simp) rfl
    simp only [newL, addF_new hv.1 hs (by omega), if_true]
    rw [newL_good l (acc ++ [s]) hv.2 (by simp; omega) (by simpa using hn)]
    simp
theorem newL_twice : ∀ (l acc : List ByteArray), l.all validB = true → acc.length + l.length ≤ 512 → acc.Nodup → ¬ (acc ++ l).Nodup → (newL acc l).1 = 6
  | [], acc, _, _, ha, hn => absurd (by simpa using ha) hn
  | s :: l, acc, hv, hl, ha, hn => by
    rw [List.all_cons, Bool.and_eq_true] at hv
    simp only [List.length_cons] at hl
    by_cases hs : s ∈ acc
    · simp only [newL, addF_there hv.1 hs]
      simp
    · simp only [newL, addF_new hv.1 hs (by omega), if_true]
      refine newL_twice l (acc ++ [s]) hv.2 (by simp; omega) ?_ (by simpa using hn)
      rw [List.nodup_append]
      exact ⟨ha, by simp, fun a h b hb e => hs (by simp at hb; rw [← hb, ← e]; exact h)⟩
/-- What New answers. -/
theorem newF_spec (l : List ByteArray) : (newF l).1 = (if 512 < l.length then 8 else if l.all validB = false then 5 else if l.Nodup then 0 else 6) := by
  unfold newF
  split
  · rfl
  · split
    · rfl
    · rename_i h1 h2
      have h2' : l.all validB = true := by simpa using h2
      split
      · rename_i h3
        rw [newL_good l [] h2' (by simp; omega) (by simpa using h3)]
      · rename_i h3
        exact newL_twice l [] h2' (by simp; omega) (by simp) (by simpa using h3)
theorem newF_ok {l : List ByteArray} (h : (newF l).1 = 0) : newF l = (0, l) ∧ l.length ≤ 512 ∧ l.all validB = true ∧ l.Nodup := by
  rw [newF_spec] at h
  split at h
  · cases h
  · split at h
    · cases h
    · split at h
      · rename_i h1 h2 h3
        have h2' : l.all validB = true := by simpa using h2
        refine ⟨?_, by omega, h2', h3⟩
        unfold newF
        rw [if_neg h1, if_neg h2, newL_good l [] h2' (by simp; omega) (by simpa using h3)]
        simp
      · cases h
end Go.Proofs.Ytoleenfipnbjkaa.Tab
