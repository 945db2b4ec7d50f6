/- What the comparisons answer. -/
import Derived.Test.YtnpndjdkdcbjcaaQ11
namespace Go.Proofs.Ytnpndjdkdcbjcaa.Pq
open Go.RowKit Go.Proofs.Ytnpndjdkdcbjcaa.PX Go.Proofs.YtnpndjdkdcbjcaaW.PrintWords Go.Proofs.YtnpndjdkdcbjcaaW.PrintLast Go.Proofs.YtnpndjdkdcbjcaaW.PrintMore
set_option linter.unusedVariables false
set_option linter.unusedSimpArgs false
def cntP (a b : Int) (x : S27) : Bool := x.f0 == a && x.f1 == b
theorem rd_at (l : List S27) (i : Nat) (h : i < l.length) : rd_T27 l (i : Int) = l[i] := by
  unfold rd_T27
  rw [Int.toNat_natCast, List.getD_eq_getElem?_getD, List.getElem?_eq_getElem h]
  rfl
theorem wrap_succ (i : Nat) (h : i ≤ 1000) : wrap64 ((i : Int) + 1) = ((i + 1 : Nat) : Int) := by unfold wrap64; omega
theorem count_go (l : List S27) (a b : Int) (hl : l.length ≤ 1000) : ∀ (k i c : Nat), i ≤ l.length → l.length - i < k → c ≤ i → papermilllaw11_count.l0 k l c i a b = some (((c + (l.drop i).countP (cntP a b) : Nat)) : Int) := by
  intro k
  induction k with
  | zero => intro i c hi hk; omega
  | succ k ih =>
    intro i c hi hk hc
    rw [papermilllaw11_count.l0]
    by_cases h : i < l.length
    · rw [if_pos (by omega), if_pos (by omega), rd_at l i h, List.drop_eq_getElem_cons h]
      by_cases hp : (l[i].f0 == a && l[i].f1 == b) = true
      · rw [if_pos hp, wrap_succ c (by omega), wrap_succ i (by omega), ih (i + 1) (c + 1) (by omega) (by omega) (by omega), List.countP_cons_of_pos (p := cntP a b) hp]
        congr 2
        omega
      · rw [if_neg hp, wrap_succ i (by omega), ih (i + 1) c (by omega) (by omega) (by omega), List.countP_cons_of_neg (p := cntP a b) hp]
    · rw [if_neg (by omega), List.drop_eq_nil_of_le (by omega)]
      rfl
theorem count_f (l : List S27) (a b : Int) (hl : l.length ≤ 1000) (k : Nat) (hk : l.length < k) : papermilllaw11_count.f k l a b = some ((l.countP (cntP a b) : Nat) : Int) := by
  have := count_go l a b hl k 0 0 (by omega) (by omega) (by omega)
  simpa [papermilllaw11_count.f] using this
theorem same_go (l1 l2 : List S27) (hp : l1.Perm l2) (hl : l1.length ≤ 1000) : ∀ (k i : Nat), i ≤ l1.length → l1.length - i + l1.length + 1 < k → papermilllaw11_same.l0 k l1 l2 i = some true := by
  have hlen := hp.length_eq
  intro k
  induction k with
  | zero => intro i hi hk; omega
  | succ k ih =>
    intro i hi hk
    rw [papermilllaw11_same.l0]
    by_cases h : i < l1.length
    · rw [if_pos (by omega), if_pos (by omega), count_f l1 _ _ hl k (by omega), count_f l2 _ _ (by omega) k (by omega)]
      simp only [Option.bind_some]
      rw [if_pos (by rw [hp.countP_eq]), wrap_succ i (by omega)]
      exact ih (i + 1) (by omega) (by omega)
    · rw [if_neg (by omega), hlen]
      simp
theorem same_f (l1 l2 : List S27) (hp : l1.Perm l2) (hl : l1.length ≤ 1000) : ∃ k, papermilllaw11_same.f k l1 l2 = some true := ⟨l1.length + l1.length + 2, same_go l1 l2 hp hl _ 0 (by omega) (by omega)⟩
theorem Same_go (l : List S27) (hl : l.length ≤ 1000) : ∀ (k i : Nat), i ≤ l.length → l.length - i < k → papermillref11_Same.l0 k l l i = some true := by
  intro k
  induction k with
  | zero => intro i hi hk; omega
  | succ k ih =>
    intro i hi hk
    rw [papermillref11_Same.l0]
    by_cases h : i < l.length
    · rw [if_pos (by omega), if_pos (by omega), if_pos (by omega), if_neg (by simp), wrap_succ i (by omega)]
      exact ih (i + 1) (by omega) (by omega)
    · rw [if_neg (by omega)]
theorem Same_f (l : List S27) (hl : l.length ≤ 1000) : papermillref11_Same.f (l.length + 1) l l = some true := by
  rw [papermillref11_Same.f, if_pos rfl]
  exact Same_go l hl _ 0 (by omega) (by omega)
theorem same_calls (v1 v2 : Value) (l1 l2 : List S27) (w : World) (h1 : ∃ A c, v1 = .slice A l1.length c ∧ l1.length ≤ c ∧ k27.C w A l1.length l1) (h2 : ∃ A c, v2 = .slice A l2.length c ∧ l2.length ≤ c ∧ k27.C w A l2.length l2) (hp : l1.Perm l2) (hl : l1.length ≤ 1000) :
    Calls Try.prog 24 #[v1, v2] w fun e w' => e = .returned (.bool true) ∧ Below w.heap.size w w' := by
  obtain ⟨A1, c1, rfl, hc1, hr1⟩ := h1
  obtain ⟨A2, c2, rfl, hc2, hr2⟩ := h2
  obtain ⟨k, hk⟩ := same_f l1 l2 hp hl
  exact papermilllaw11_same.calls k A1 c1 l1 A2 c2 l2 true w hr1 hc1 hr2 hc2 hk
theorem Same_calls (v1 v2 : Value) (l1 l2 : List S27) (w : World) (h1 : ∃ A c, v1 = .slice A l1.length c ∧ l1.length ≤ c ∧ k27.C w A l1.length l1) (h2 : ∃ A c, v2 = .slice A l2.length c ∧ l2.length ≤ c ∧ k27.C w A l2.length l2) (hp : l1 = l2) (hl : l1.length ≤ 1000) :
    Calls Try.prog 20 #[v1, v2] w fun e w' => e = .returned (.bool true) ∧ Below w.heap.size w w' := by
  subst hp
  obtain ⟨A1, c1, rfl, hc1, hr1⟩ := h1
  obtain ⟨A2, c2, rfl, hc2, hr2⟩ := h2
  refine (papermillref11_Same.calls (l1.length + 1) A1 c1 l1 A2 c2 l1 true w hr1 hc1 hr2 hc2 (Same_f l1 hl)).mono ?_
  rintro e w' ⟨rfl, hd⟩
  exact ⟨rfl, hd.below⟩
end Go.Proofs.Ytnpndjdkdcbjcaa.Pq
