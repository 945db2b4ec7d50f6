/- Jobs of the program and of the reference come to the same. -/
import Derived.Test.YthdbnoeaiafniaaNFun0
namespace Go.Proofs.Ythdbnoeaiafniaa.Wind
open Go.RowKit Go.Proofs.Ythdbnoeaiafniaa.PX Go.Proofs.YthdbnoeaiafniaaW.PrintWords Go.Proofs.YthdbnoeaiafniaaW.PrintLast Go.Proofs.YthdbnoeaiafniaaW.PrintMore
set_option linter.unusedVariables false

structure Inv (size : Int) (reels left : List Int) (n : Nat) : Prop where
  len : left.length = reels.length
  nn : ∀ x ∈ left, 0 ≤ x
  le : ∀ i : Nat, i < left.length → rd left (i : Int) ≤ rd reels (i : Int)
  enough : (n : Int) ≤ tot size left
theorem Inv.start {size : Int} {reels : List Int} (hr : ∀ x ∈ reels, Long x) {n : Nat} (h : (n : Int) ≤ tot size reels) : Inv size reels reels n :=
  ⟨rfl, fun x hx => by have := hr x hx; unfold Long at this; omega, fun _ _ => Int.le_refl _, h⟩
theorem Inv.lt {size : Int} (hs : Long size) {reels left : List Int} {n : Nat} (h : Inv size reels left (n + 1)) : fnd size left < left.length :=
  fnd_lt size hs.1 left h.nn (by have := h.enough; omega)
theorem Inv.get {size : Int} {reels left : List Int} {n : Nat} (h : Inv size reels left n) (hr : ∀ x ∈ reels, Long x) (i : Nat) (hi : i < left.length) : 0 ≤ rd left (i : Int) ∧ rd left (i : Int) ≤ rd reels (i : Int) ∧ rd reels (i : Int) ≤ 17179869184 :=
  ⟨h.nn _ (rd_mem left i hi), h.le i hi, (hr _ (rd_mem reels i (by rw [← h.len]; exact hi))).2⟩
theorem Inv.step {size : Int} (hs : Long size) {reels left : List Int} {n : Nat} (h : Inv size reels left (n + 1)) :
    Inv size reels (left.set (fnd size left) (rd left (fnd size left : Int) - size)) n ∧ fnd size left ≤ fnd size (left.set (fnd size left) (rd left (fnd size left : Int) - size)) := by
  have hf := h.lt hs
  have hat := fnd_at size left hf
  refine ⟨⟨by simp [h.len], set_nonneg h.nn hf hat, fun i hi => ?_, ?_⟩, ?_⟩
  · rw [List.length_set] at hi
    by_cases he : fnd size left = i
    · subst he
      rw [rd_set_same _ _ _ hf]
      have := h.le _ hf
      have := hs.1
      omega
    · rw [rd_set_ne _ _ _ _ he]
      exact h.le i hi
  · rw [tot_set size hs.1 left _ hf]
    have := h.enough
    omega
  · refine Nat.le_of_not_lt fun hlt => ?_
    have hlt2 : fnd size (left.set (fnd size left) (rd left (fnd size left : Int) - size)) < (left.set (fnd size left) (rd left (fnd size left : Int) - size)).length := by
      rw [List.length_set]; omega
    have h1 := fnd_at size _ hlt2
    rw [rd_set_ne _ _ _ _ (by omega)] at h1
    have h2 := fnd_before size left _ hlt
    omega

/-- The patterns, as often as there are sets of each. -/
def patsFrom : Int → List Int → List Int
  | _, [] => []
  | i, n :: t => List.replicate n.toNat i ++ patsFrom (i + 1) t
def Small (sets : List Int) : Prop := ∀ n ∈ sets, 0 ≤ n ∧ n ≤ 512
theorem patsFrom_len (sets : List Int) (h : Small sets) : ∀ i, ((patsFrom i sets).length : Int) = sets.sum := by
  induction sets with
  | nil => intro i; rfl
  | cons n t ih =>
    intro i
    have h1 := h n (by simp)
    have h2 := ih (fun x hx => h x (List.mem_cons_of_mem _ hx)) (i + 1)
    simp only [patsFrom, List.length_append, List.length_replicate, List.sum_cons]
    omega
theorem patsFrom_drop (sets : List Int) (i : Nat) (h : i < sets.length) : patsFrom (i : Int) (sets.drop i) = List.replicate (rd sets (i : Int)).toNat (i : Int) ++ patsFrom ((i + 1 : Nat) : Int) (sets.drop (i + 1)) := by
  rw [drop_rd sets i h, patsFrom]
  push_cast
  rfl

/-! ### The program -/
section
variable (reels : List Int) (size : Int) (sets : List Int) (hL : reels.length ≤ 60) (hr : ∀ x ∈ reels, Long x) (hs : Long size)
include hL hr hs
theorem wj2 (left : List Int) (n : Nat) (hI : Inv size reels left (n + 1)) (out : List S43) (ho : out.length ≤ 100000) (p : Nat) (i m j : Nat) (hj : j < 1000) (mz : Int) (R : Option (List S43 × Int)) :
    ∀ (d at_ k : Nat), at_ + d = fnd size left → d + 1 ≤ k →
      (∀ k', k' + d + 1 = k → winder_Jobs.l1 k' reels size (left.set (fnd size left) (rd left (fnd size left : Int) - size)) (fnd size left : Int) (out ++ [⟨(fnd size left : Int), rd reels (fnd size left : Int) - rd left (fnd size left : Int), (p : Int)⟩]) (p : Int) sets (m : Int) (i : Int) mz ((j + 1 : Nat) : Int) = R) →
      winder_Jobs.l2 k reels size left (at_ : Int) out (p : Int) sets (m : Int) (i : Int) mz (j : Int) = R := by
  have hf := hI.lt hs
  intro d
  induction d with
  | zero =>
    intro at_ k h1 hk h
    obtain ⟨k, rfl⟩ : ∃ m, k = m + 1 := ⟨k - 1, by omega⟩
    obtain rfl : at_ = fnd size left := by omega
    simp only [winder_Jobs.l2]
    have hat := fnd_at size left hf
    obtain ⟨b1, b2, b3⟩ := hI.get hr _ hf
    have hlen := hI.len
    have hs1 := hs.1
    rw [if_pos (by omega), if_pos (by omega), if_neg (by omega), if_pos (by omega), if_pos (by omega), wrap64_id (by omega) (by omega), wrap64_id (by omega) (by omega), w1 j (by omega), show ((fnd size left : Nat) : Int).toNat = fnd size left by omega]
    exact h k (by omega)
  | succ d ih =>
    intro at_ k h1 hk h
    obtain ⟨k, rfl⟩ : ∃ m, k = m + 1 := ⟨k - 1, by omega⟩
    simp only [winder_Jobs.l2]
    have hb := fnd_before size left at_ (by omega)
    rw [if_pos (by omega), if_pos (by omega), if_pos hb, w1 at_ (by have := hI.len; omega)]
    exact ih (at_ + 1) k (by omega) (by omega) (fun k' hk' => h k' (by omega))
theorem wj1 (hm : sets.length ≤ 30) (i : Nat) (hi : i < sets.length) (hSm : Small sets)
    (h0 : ∀ (k at_ : Nat) (left : List Int) (out : List S43), Inv size reels left (patsFrom ((i + 1 : Nat) : Int) (sets.drop (i + 1))).length → at_ ≤ fnd size left → out.length + (patsFrom ((i + 1 : Nat) : Int) (sets.drop (i + 1))).length ≤ 20000 → 64 * (patsFrom ((i + 1 : Nat) : Int) (sets.drop (i + 1))).length + 3 * (sets.length - (i + 1)) + 5 ≤ k →
      winder_Jobs.l0 k reels size left (at_ : Int) out sets (sets.length : Int) ((i + 1 : Nat) : Int) = some (out ++ jobsS size reels left (patsFrom ((i + 1 : Nat) : Int) (sets.drop (i + 1))), 0)) (d : Nat) :
    ∀ (j k at_ : Nat) (left : List Int) (out : List S43), (rd sets (i : Int)) = (j + d : Nat) → Inv size reels left (d + (patsFrom ((i + 1 : Nat) : Int) (sets.drop (i + 1))).length) → at_ ≤ fnd size left → out.length + d + (patsFrom ((i + 1 : Nat) : Int) (sets.drop (i + 1))).length ≤ 20000 → 64 * (d + (patsFrom ((i + 1 : Nat) : Int) (sets.drop (i + 1))).length) + 3 * (sets.length - (i + 1)) + 6 ≤ k →
      winder_Jobs.l1 k reels size left (at_ : Int) out (i : Int) sets (sets.length : Int) (i : Int) (rd sets (i : Int)) (j : Int) = some (out ++ jobsS size reels left (List.replicate d (i : Int) ++ patsFrom ((i + 1 : Nat) : Int) (sets.drop (i + 1))), 0) := by
  induction d with
  | zero =>
    intro j k at_ left out hn hI hat ho hk
    obtain ⟨k, rfl⟩ : ∃ m, k = m + 1 := ⟨k - 1, by omega⟩
    simp only [winder_Jobs.l1]
    rw [if_neg (by omega), w1 i (by omega)]
    simp only [List.replicate_zero, List.nil_append]
    rw [Nat.zero_add] at hI
    exact h0 k at_ left out hI hat (by omega) (by omega)
  | succ d ih =>
    intro j k at_ left out hn hI hat ho hk
    obtain ⟨k, rfl⟩ : ∃ m, k = m + 1 := ⟨k - 1, by omega⟩
    have hsm := hSm _ (rd_mem sets i hi)
    rw [show d + 1 + (patsFrom ((i + 1 : Nat) : Int) (sets.drop (i + 1))).length = (d + (patsFrom ((i + 1 : Nat) : Int) (sets.drop (i + 1))).length) + 1 by omega] at hI
    have hf := hI.lt hs
    have hlen := hI.len
    obtain ⟨hI', hle⟩ := hI.step hs
    simp only [winder_Jobs.l1]
    rw [if_pos (by omega)]
    refine wj2 reels size sets hL hr hs left _ hI out (by omega) i i sets.length j (by omega) _ _ (fnd size left - at_) at_ k (by omega) (by omega) (fun k' hk' => ?_)
    rw [ih (j + 1) k' (fnd size left) _ _ (by omega) hI' hle (by rw [List.length_append, List.length_singleton]; omega) (by omega)]
    rw [List.replicate_succ, List.cons_append, jobsS, List.append_assoc, List.singleton_append]
theorem wj0 (hm : sets.length ≤ 30) (hSm : Small sets) (e : Nat) : ∀ (i k at_ : Nat) (left : List Int) (out : List S43), sets.length - i = e → i ≤ sets.length → Inv size reels left (patsFrom (i : Int) (sets.drop i)).length → at_ ≤ fnd size left → out.length + (patsFrom (i : Int) (sets.drop i)).length ≤ 20000 → 64 * (patsFrom (i : Int) (sets.drop i)).length + 3 * (sets.length - i) + 5 ≤ k →
      winder_Jobs.l0 k reels size left (at_ : Int) out sets (sets.length : Int) (i : Int) = some (out ++ jobsS size reels left (patsFrom (i : Int) (sets.drop i)), 0) := by
  induction e with
  | zero =>
    intro i k at_ left out he hi hI hat ho hk
    obtain ⟨k, rfl⟩ : ∃ m, k = m + 1 := ⟨k - 1, by omega⟩
    simp only [winder_Jobs.l0]
    rw [if_neg (by omega), List.drop_eq_nil_of_le (by omega)]
    simp [patsFrom, jobsS]
  | succ e ih =>
    intro i k at_ left out he hi hI hat ho hk
    obtain ⟨k, rfl⟩ : ∃ m, k = m + 1 := ⟨k - 1, by omega⟩
    have hlt : i < sets.length := by omega
    have hsm := hSm _ (rd_mem sets i hlt)
    rw [patsFrom_drop sets i hlt] at hI ho hk ⊢
    rw [List.length_append, List.length_replicate] at hI ho hk
    simp only [winder_Jobs.l0]
    rw [if_pos (by omega), if_pos (by omega), if_pos (by omega)]
    exact wj1 reels size sets hL hr hs hm i hlt hSm (fun k at_ left out => ih (i + 1) k at_ left out (by omega) (by omega)) (rd sets (i : Int)).toNat 0 k at_ left out (by omega) hI hat (by omega) (by omega)
end

/-! ### The reference -/
section
variable (reels : List Int) (size : Int) (np : List (List Int)) (sets : List Int) (bd : Int) (hL : reels.length ≤ 60) (hr : ∀ x ∈ reels, Long x) (hs : Long size)
include hL hr hs
def UsedOf (reels left used : List Int) : Prop := used.length = reels.length ∧ ∀ i : Nat, i < reels.length → rd used (i : Int) = rd reels (i : Int) - rd left (i : Int)
omit hL hr hs in
theorem UsedOf.step {reels left used : List Int} (h : UsedOf reels left used) (size : Int) (hll : left.length = reels.length) (f : Nat) (hf : f < left.length) : UsedOf reels (left.set f (rd left (f : Int) - size)) (used.set f (rd used (f : Int) + size)) := by
  refine ⟨by simp [h.1], fun i hi => ?_⟩
  by_cases he : f = i
  · subst he
    rw [rd_set_same _ _ _ hf, rd_set_same _ _ _ (by rw [h.1]; omega), h.2 f hi]
    omega
  · rw [rd_set_ne _ _ _ _ he, rd_set_ne _ _ _ _ he]
    exact h.2 i hi
theorem rj4 (left used : List Int) (hu : UsedOf reels left used) (n : Nat) (hI : Inv size reels left (n + 1)) (out : List S43) (ho : out.length ≤ 100000) (i j : Nat) (hj : j < 1000) (R : Option (List S43 × Int)) :
    ∀ (d r k : Nat), r + d = fnd size left → d + 1 ≤ k →
      (∀ k', k' + d + 1 = k → papermillref50_Jobs.l3 k' reels size (used.set (fnd size left) (rd used (fnd size left : Int) + size)) (out ++ [⟨(fnd size left : Int), rd reels (fnd size left : Int) - rd left (fnd size left : Int), (i : Int)⟩]) (i : Int) ((j + 1 : Nat) : Int) np sets bd = R) →
      papermillref50_Jobs.l4 k reels size used out (i : Int) (j : Int) (r : Int) np sets bd = R := by
  have hf := hI.lt hs
  have hlen := hI.len
  have hul := hu.1
  have hs1 := hs.1
  have hs2 := hs.2
  intro d
  induction d with
  | zero =>
    intro r k h1 hk h
    obtain ⟨k, rfl⟩ : ∃ m, k = m + 1 := ⟨k - 1, by omega⟩
    obtain rfl : r = fnd size left := by omega
    simp only [papermillref50_Jobs.l4]
    have hat := fnd_at size left hf
    obtain ⟨b1, b2, b3⟩ := hI.get hr _ hf
    have hue := hu.2 (fnd size left) (by omega)
    rw [if_pos (by omega), if_pos (by omega), if_pos (by omega), wrap64_id (n := rd reels (fnd size left : Int) - rd used (fnd size left : Int)) (by omega) (by omega), if_neg (by omega), if_pos (by omega), wrap64_id (n := rd used (fnd size left : Int) + size) (by omega) (by omega), w1 j (by omega), show ((fnd size left : Nat) : Int).toNat = fnd size left by omega]
    have := h k (by omega)
    rw [← hue] at this
    exact this
  | succ d ih =>
    intro r k h1 hk h
    obtain ⟨k, rfl⟩ : ∃ m, k = m + 1 := ⟨k - 1, by omega⟩
    simp only [papermillref50_Jobs.l4]
    have hb := fnd_before size left r (by omega)
    obtain ⟨b1, b2, b3⟩ := hI.get hr r (by omega)
    have hue := hu.2 r (by omega)
    rw [if_pos (by omega), if_pos (by omega), if_pos (by omega), wrap64_id (n := rd reels (r : Int) - rd used (r : Int)) (by omega) (by omega), if_pos (by omega), w1 r (by omega)]
    exact ih (r + 1) k (by omega) (by omega) (fun k' hk' => h k' (by omega))
theorem rj3 (hm : sets.length ≤ 30) (i : Nat) (hi : i < sets.length) (hSm : Small sets)
    (h0 : ∀ (k : Nat) (left used : List Int) (out : List S43), UsedOf reels left used → Inv size reels left (patsFrom ((i + 1 : Nat) : Int) (sets.drop (i + 1))).length → out.length + (patsFrom ((i + 1 : Nat) : Int) (sets.drop (i + 1))).length ≤ 20000 → 64 * (patsFrom ((i + 1 : Nat) : Int) (sets.drop (i + 1))).length + 3 * (sets.length - (i + 1)) + 5 ≤ k →
      papermillref50_Jobs.l2 k reels size used out ((i + 1 : Nat) : Int) np sets bd = some (out ++ jobsS size reels left (patsFrom ((i + 1 : Nat) : Int) (sets.drop (i + 1))), 0)) (d : Nat) :
    ∀ (j k : Nat) (left used : List Int) (out : List S43), UsedOf reels left used → (rd sets (i : Int)) = (j + d : Nat) → Inv size reels left (d + (patsFrom ((i + 1 : Nat) : Int) (sets.drop (i + 1))).length) → out.length + d + (patsFrom ((i + 1 : Nat) : Int) (sets.drop (i + 1))).length ≤ 20000 → 64 * (d + (patsFrom ((i + 1 : Nat) : Int) (sets.drop (i + 1))).length) + 3 * (sets.length - (i + 1)) + 6 ≤ k →
      papermillref50_Jobs.l3 k reels size used out (i : Int) (j : Int) np sets bd = some (out ++ jobsS size reels left (List.replicate d (i : Int) ++ patsFrom ((i + 1 : Nat) : Int) (sets.drop (i + 1))), 0) := by
  induction d with
  | zero =>
    intro j k left used out hu hn hI ho hk
    obtain ⟨k, rfl⟩ : ∃ m, k = m + 1 := ⟨k - 1, by omega⟩
    simp only [papermillref50_Jobs.l3]
    rw [if_pos (by omega), if_pos (by omega), if_neg (by omega), w1 i (by omega)]
    simp only [List.replicate_zero, List.nil_append]
    rw [Nat.zero_add] at hI
    exact h0 k left used out hu hI (by omega) (by omega)
  | succ d ih =>
    intro j k left used out hu hn hI ho hk
    obtain ⟨k, rfl⟩ : ∃ m, k = m + 1 := ⟨k - 1, by omega⟩
    have hsm := hSm _ (rd_mem sets i hi)
    rw [show d + 1 + (patsFrom ((i + 1 : Nat) : Int) (sets.drop (i + 1))).length = (d + (patsFrom ((i + 1 : Nat) : Int) (sets.drop (i + 1))).length) + 1 by omega] at hI
    have hf := hI.lt hs
    have hlen := hI.len
    obtain ⟨hI', hle⟩ := hI.step hs
    simp only [papermillref50_Jobs.l3]
    rw [if_pos (by omega), if_pos (by omega), if_pos (by omega)]
    refine rj4 reels size np sets bd hL hr hs left used hu _ hI out (by omega) i j (by omega) _ (fnd size left) 0 k (by omega) (by omega) (fun k' hk' => ?_)
    rw [ih (j + 1) k' _ _ _ (hu.step size hlen _ hf) (by omega) hI' (by rw [List.length_append, List.length_singleton]; omega) (by omega)]
    rw [List.replicate_succ, List.cons_append, jobsS, List.append_assoc, List.singleton_append]
theorem rj2 (hm : sets.length ≤ 30) (hSm : Small sets) (e : Nat) : ∀ (i k : Nat) (left used : List Int) (out : List S43), UsedOf reels left used → sets.length - i = e → i ≤ sets.length → Inv size reels left (patsFrom (i : Int) (sets.drop i)).length → out.length + (patsFrom (i : Int) (sets.drop i)).length ≤ 20000 → 64 * (patsFrom (i : Int) (sets.drop i)).length + 3 * (sets.length - i) + 5 ≤ k →
      papermillref50_Jobs.l2 k reels size used out (i : Int) np sets bd = some (out ++ jobsS size reels left (patsFrom (i : Int) (sets.drop i)), 0) := by
  induction e with
  | zero =>
    intro i k left used out hu he hi hI ho hk
    obtain ⟨k, rfl⟩ : ∃ m, k = m + 1 := ⟨k - 1, by omega⟩
    simp only [papermillref50_Jobs.l2]
    rw [if_neg (by omega), List.drop_eq_nil_of_le (by omega)]
    simp [patsFrom, jobsS]
  | succ e ih =>
    intro i k left used out hu he hi hI ho hk
    obtain ⟨k, rfl⟩ : ∃ m, k = m + 1 := ⟨k - 1, by omega⟩
    have hlt : i < sets.length := by omega
    have hsm := hSm _ (rd_mem sets i hlt)
    rw [patsFrom_drop sets i hlt] at hI ho hk ⊢
    rw [List.length_append, List.length_replicate] at hI ho hk
    simp only [papermillref50_Jobs.l2]
    rw [if_pos (by omega)]
    exact rj3 reels size np sets bd hL hr hs hm i hlt hSm (fun k left used out hu => ih (i + 1) k left used out hu (by omega) (by omega)) (rd sets (i : Int)).toNat 0 k left used out hu (by omega) hI (by omega) (by omega)
end

/-! ### How many sets -/
instance (sets : List Int) : Decidable (Small sets) := by unfold Small; exact inferInstance
theorem sum_bound (l : List Int) (h : Small l) : 0 ≤ l.sum ∧ l.sum ≤ 512 * l.length := by
  induction l with
  | nil => simp
  | cons n t ih =>
    have h1 := h n (by simp)
    have h2 := ih (fun x hx => h x (List.mem_cons_of_mem _ hx))
    simp only [List.sum_cons, List.length_cons]
    omega
theorem small_drop (l : List Int) (i : Nat) (h : i < l.length) : Small (l.drop i) ↔ (0 ≤ rd l (i : Int) ∧ rd l (i : Int) ≤ 512) ∧ Small (l.drop (i + 1)) := by
  unfold Small
  exact all_drop l i h
theorem sum_drop (l : List Int) (i : Nat) (h : i < l.length) : (l.drop i).sum = rd l (i : Int) + (l.drop (i + 1)).sum := by
  rw [drop_rd l i h, List.sum_cons]
def setsS (sets : List Int) (i : Nat) (acc : Int) : Int × Int := if Small (sets.drop i) then (if acc + (sets.drop i).sum > 512 then (0, 8) else (acc + (sets.drop i).sum, 0)) else (0, 1)
theorem wsets_l (sets : List Int) (hm : sets.length ≤ 30) (d : Nat) : ∀ (i k : Nat) (acc : Int), sets.length - i = d → i ≤ sets.length → 0 ≤ acc → acc ≤ 512 * i → d + 1 ≤ k → winder_sets.l0 k acc sets (sets.length : Int) (i : Int) = some (setsS sets i acc) := by
  induction d with
  | zero =>
    intro i k acc h0 h1 h2 h3 hk
    obtain ⟨k, rfl⟩ : ∃ m, k = m + 1 := ⟨k - 1, by omega⟩
    simp only [winder_sets.l0, setsS]
    rw [if_neg (by omega), List.drop_eq_nil_of_le (by omega)]
    simp only [Small, List.not_mem_nil, false_implies, implies_true, if_true, List.sum_nil, Int.add_zero]
    split <;> rfl
  | succ d ih =>
    intro i k acc h0 h1 h2 h3 hk
    obtain ⟨k, rfl⟩ : ∃ m, k = m + 1 := ⟨k - 1, by omega⟩
    have hlt : i < sets.length := by omega
    simp only [winder_sets.l0]
    rw [if_pos (by omega), if_pos (by omega), if_pos (by omega)]
    by_cases hx : 0 ≤ rd sets (i : Int) ∧ rd sets (i : Int) ≤ 512
    · rw [if_neg (by omega), if_neg (by omega), wrap64_id (by omega) (by omega), w1 i (by omega), ih (i + 1) k _ (by omega) (by omega) (by omega) (by push_cast; omega) (by omega)]
      unfold setsS
      simp only [small_drop sets i hlt, hx, true_and, sum_drop sets i hlt, and_self, Int.add_assoc]
    · have hns : ¬ Small (sets.drop i) := by rw [small_drop sets i hlt]; exact fun h => hx h.1
      unfold setsS
      rw [if_neg hns]
      by_cases h4 : rd sets (i : Int) < 0
      · rw [if_pos h4]
      · rw [if_neg h4, if_pos (by omega)]
def setsR (np : Int) (sets : List Int) : Int × Int := if (sets.length : Int) = np then setsS sets 0 0 else (0, 3)
theorem wsets (np : List (List Int)) (sets : List Int) (bd : Int) (hm : sets.length ≤ 30) (k : Nat) (hk : 31 ≤ k) : winder_sets.f k np sets bd = some (setsR np.length sets) := by
  unfold winder_sets.f setsR
  split
  · exact wsets_l sets hm _ 0 k 0 rfl (Nat.zero_le _) (by omega) (by omega) (by omega)
  · rfl
theorem rj1 (reels : List Int) (size : Int) (cap : Int) (np : List (List Int)) (sets : List Int) (bd : Int) (hL : reels.length ≤ 60) (hm : sets.length ≤ 30) (hSm : Small sets) (R : List S43 × Int) (hR : sets.sum ≤ 512 → sets.sum ≤ cap → ∀ k, 40000 ≤ k → papermillref50_Jobs.l2 k reels size (List.replicate reels.length 0) [] 0 np sets bd = some R) (d : Nat) :
    ∀ (i k : Nat) (acc : Int), sets.length - i = d → i ≤ sets.length → acc = mn ((sets.take i).sum) 1024 → 40000 + d + 1 ≤ k →
      papermillref50_Jobs.l1 k reels size cap acc (i : Int) np sets bd = some (if sets.sum > 512 then ([], 8) else if sets.sum > cap then ([], 19) else R) := by
  have hb := sum_bound sets hSm
  induction d with
  | zero =>
    intro i k acc h0 h1 h2 hk
    obtain ⟨k, rfl⟩ : ∃ m, k = m + 1 := ⟨k - 1, by omega⟩
    simp only [papermillref50_Jobs.l1]
    rw [List.take_of_length_le (by omega)] at h2
    unfold mn at h2
    rw [if_neg (by omega)]
    by_cases h3 : sets.sum > 512
    · rw [if_pos (by split at h2 <;> omega), if_pos h3]
    · obtain rfl : acc = sets.sum := by split at h2 <;> omega
      rw [if_neg h3, if_neg h3]
      by_cases h4 : sets.sum > cap
      · rw [if_pos h4, if_pos h4]
      · rw [if_neg h4, if_neg h4, if_pos (by omega), if_pos (by omega), show ((reels.length : Int)).toNat = reels.length by omega]
        exact hR (by omega) (by omega) k (by omega)
  | succ d ih =>
    intro i k acc h0 h1 h2 hk
    obtain ⟨k, rfl⟩ : ∃ m, k = m + 1 := ⟨k - 1, by omega⟩
    have hlt : i < sets.length := by omega
    have hx := hSm _ (rd_mem sets i hlt)
    have ht := sum_bound (sets.take i) (fun x hx => hSm x (List.mem_of_mem_take hx))
    simp only [papermillref50_Jobs.l1]
    have hacc : 0 ≤ acc ∧ acc ≤ 1024 := by rw [h2]; unfold mn; split <;> omega
    rw [if_pos (by omega), if_pos (by omega), wrap64_id (by omega) (by omega), w1 i (by omega)]
    refine ih (i + 1) k _ (by omega) (by omega) ?_ (by omega)
    have : (sets.take (i + 1)).sum = (sets.take i).sum + rd sets (i : Int) := by
      rw [List.take_add_one, List.getElem?_eq_getElem hlt, List.sum_append, rd_nat sets i hlt]
      simp
    rw [this, h2]
    unfold mn
    (repeat' split) <;> omega
theorem rj0 (reels : List Int) (size : Int) (cap : Int) (np : List (List Int)) (sets : List Int) (bd : Int) (hm : sets.length ≤ 30) (R : List S43 × Int) (hR : Small sets → ∀ k, 40100 ≤ k → papermillref50_Jobs.l1 k reels size cap 0 0 np sets bd = some R) (d : Nat) :
    ∀ (i k : Nat), sets.length - i = d → i ≤ sets.length → Small (sets.take i) → 40100 + d + 1 ≤ k → papermillref50_Jobs.l0 k reels size cap (i : Int) np sets bd = some (if Small (sets.drop i) then R else ([], 1)) := by
  induction d with
  | zero =>
    intro i k h0 h1 h2 hk
    obtain ⟨k, rfl⟩ : ∃ m, k = m + 1 := ⟨k - 1, by omega⟩
    simp only [papermillref50_Jobs.l0]
    rw [List.take_of_length_le (by omega)] at h2
    rw [if_neg (by omega), List.drop_eq_nil_of_le (by omega), if_pos (by intro x hx; simp at hx)]
    exact hR h2 k (by omega)
  | succ d ih =>
    intro i k h0 h1 h2 hk
    obtain ⟨k, rfl⟩ : ∃ m, k = m + 1 := ⟨k - 1, by omega⟩
    have hlt : i < sets.length := by omega
    simp only [papermillref50_Jobs.l0]
    rw [if_pos (by omega), if_pos (by omega)]
    by_cases hx : 0 ≤ rd sets (i : Int) ∧ rd sets (i : Int) ≤ 512
    · rw [if_neg (by omega), if_neg (by omega), w1 i (by omega), ih (i + 1) k (by omega) (by omega) ?_ (by omega)]
      · simp only [small_drop sets i hlt, hx, true_and, and_self]
      · intro x hx'
        rw [List.take_add_one, List.getElem?_eq_getElem hlt] at hx'
        rcases List.mem_append.1 hx' with h | h
        · exact h2 x h
        · simp at h
          rw [h, ← rd_nat sets i hlt]
          exact hx
    · rw [if_neg (show ¬ Small (sets.drop i) by rw [small_drop sets i hlt]; exact fun h => hx h.1)]
      by_cases h4 : rd sets (i : Int) < 0
      · rw [if_pos h4]
      · rw [if_neg h4, if_pos (by omega)]

/-! ### Jobs -/
def jobsR (reels : List Int) (size : Int) (np : Int) (sets : List Int) : List S43 × Int :=
  if (capS reels size).2 = 0 then (if (sets.length : Int) = np then (if Small sets then (if sets.sum > 512 then ([], 8) else if sets.sum > (capS reels size).1 then ([], 19) else (jobsS size reels reels (patsFrom 0 sets), 0)) else ([], 1)) else ([], 3)) else ([], (capS reels size).2)
theorem copied (l : List Int) (h : l.length ≤ 60) : winder_copied.f l = some l := by
  unfold winder_copied.f
  rw [if_pos (by omega)]
theorem wjobs (reels : List Int) (size : Int) (np : List (List Int)) (sets : List Int) (bd : Int) (hL : reels.length ≤ 60) (hm : sets.length ≤ 30) (k : Nat) (hk : 50000 ≤ k) : winder_Jobs.f k reels size np sets bd = some (jobsR reels size np.length sets) := by
  unfold winder_Jobs.f jobsR
  rw [wcap reels size k (by omega)]
  simp only [Option.bind_some]
  rcases capS_ok reels size with ⟨h0, h1⟩ | ⟨h1, h2, h3, h4⟩
  · rw [if_neg h0, if_neg h0]
  · rw [h4]
    simp only [if_true]
    rw [wsets np sets bd hm k (by omega)]
    simp only [Option.bind_some]
    unfold setsR
    by_cases h5 : (sets.length : Int) = np.length
    · rw [if_pos h5, if_pos h5]
      unfold setsS
      rw [List.drop_zero]
      by_cases h6 : Small sets
      · rw [if_pos h6, if_pos h6, Int.zero_add]
        have hpl := patsFrom_len sets h6 ((0 : Nat) : Int)
        by_cases h7 : sets.sum > 512
        · rw [if_pos h7, if_pos h7]; rfl
        · rw [if_neg h7, if_neg h7]
          simp only [if_true]
          by_cases h8 : sets.sum > tot size reels
          · rw [if_pos h8, if_pos h8]
          · rw [if_neg h8, if_neg h8, copied reels hL]
            simp only [Option.bind_some]
            have := wj0 reels size sets hL h2 h3 hm h6 sets.length 0 k 0 reels [] (by omega) (Nat.zero_le _) (Inv.start h2 (by rw [List.drop_zero]; omega)) (Nat.zero_le _) (by rw [List.drop_zero, List.length_nil]; omega) (by rw [List.drop_zero]; omega)
            rw [List.drop_zero, List.nil_append] at this
            exact this
      · rw [if_neg h6, if_neg h6]; rfl
    · rw [if_neg h5, if_neg h5]; rfl
theorem rjobs (reels : List Int) (size : Int) (np : List (List Int)) (sets : List Int) (bd : Int) (hL : reels.length ≤ 60) (hm : sets.length ≤ 30) (k : Nat) (hk : 50000 ≤ k) : papermillref50_Jobs.f k reels size np sets bd = some (jobsR reels size np.length sets) := by
  unfold papermillref50_Jobs.f jobsR
  rw [rcap reels size k (by omega)]
  simp only [Option.bind_some]
  rcases capS_ok reels size with ⟨h0, h1⟩ | ⟨h1, h2, h3, h4⟩
  · rw [if_neg h0, if_neg h0]
  · rw [h4]
    simp only [if_true]
    by_cases h5 : (sets.length : Int) = np.length
    · rw [if_pos h5, if_pos h5]
      have := rj0 reels size (tot size reels) np sets bd hm (if sets.sum > 512 then ([], 8) else if sets.sum > tot size reels then ([], 19) else (jobsS size reels reels (patsFrom 0 sets), 0)) ?_ sets.length 0 k (by omega) (Nat.zero_le _) (by intro x hx; simp at hx) (by omega)
      · rw [List.drop_zero] at this
        exact this
      · intro h6 k hk
        have hpl := patsFrom_len sets h6 ((0 : Nat) : Int)
        refine rj1 reels size (tot size reels) np sets bd hL hm h6 _ (fun h7 h8 k hk => ?_) sets.length 0 k 0 (by omega) (Nat.zero_le _) (by simp [mn]) (by omega)
        have := rj2 reels size np sets bd hL h2 h3 hm h6 sets.length 0 k reels (List.replicate reels.length 0) [] ⟨by simp, fun i hi => by rw [rd_nat _ _ (by simpa using hi)]; simp⟩ (by omega) (Nat.zero_le _) (Inv.start h2 (by rw [List.drop_zero]; omega)) (by rw [List.drop_zero, List.length_nil]; omega) (by rw [List.drop_zero]; omega)
        rw [List.drop_zero, List.nil_append] at this
        exact this
    · rw [if_neg h5, if_neg h5]
theorem few_iff (np : List (List Int)) (sets : List Int) (bd : Int) (k : Nat) (hk : 50 ≤ k) : ∃ b, papermilllaw50_few.f k np sets bd = some b ∧ (b = true → sets.length ≤ 30 ∧ np.length ≤ 30) := by
  have key : ∀ (d i k : Nat), np.length - i = d → i ≤ np.length → np.length ≤ 30 → d + 1 ≤ k → ∃ b, papermilllaw50_few.l0 k (i : Int) np sets bd = some b := by
    intro d
    induction d with
    | zero =>
      intro i k h0 h1 h2 hk
      obtain ⟨k, rfl⟩ : ∃ m, k = m + 1 := ⟨k - 1, by omega⟩
      simp only [papermilllaw50_few.l0]
      rw [if_neg (by omega)]
      exact ⟨_, rfl⟩
    | succ d ih =>
      intro i k h0 h1 h2 hk
      obtain ⟨k, rfl⟩ : ∃ m, k = m + 1 := ⟨k - 1, by omega⟩
      simp only [papermilllaw50_few.l0]
      rw [if_pos (by omega), if_pos (by omega)]
      split
      · exact ⟨_, rfl⟩
      · rw [w1 i (by omega)]
        exact ih (i + 1) k (by omega) (by omega) h2 (by omega)
  obtain ⟨k, rfl⟩ : ∃ m, k = m + 1 := ⟨k - 1, by omega⟩
  unfold papermilllaw50_few.f
  by_cases h1 : (np.length : Int) > 30
  · rw [if_pos h1]
    simp only [papermilllaw50_few.j0, if_true]
    exact ⟨false, rfl, by simp⟩
  · rw [if_neg h1]
    by_cases h2 : (sets.length : Int) > 30
    · rw [decide_eq_true h2]
      simp only [papermilllaw50_few.j0, if_true]
      exact ⟨false, rfl, by simp⟩
    · rw [decide_eq_false h2]
      simp only [papermilllaw50_few.j0]
      rw [if_neg (by decide)]
      obtain ⟨b, hb⟩ := key np.length 0 k (by omega) (Nat.zero_le _) (by omega) (by omega)
      exact ⟨b, hb, fun _ => ⟨by omega, by omega⟩⟩
end Go.Proofs.Ythdbnoeaiafniaa.Wind
