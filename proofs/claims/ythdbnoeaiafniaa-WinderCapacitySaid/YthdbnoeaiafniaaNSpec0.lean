/- What the winder computes, over lists of numbers: capacity, the first reel with enough left, jobs. -/
import Derived.Test.YthdbnoeaiafniaaPXx0
namespace Go.Proofs.Ythdbnoeaiafniaa.Wind
open Go.RowKit Go.Proofs.Ythdbnoeaiafniaa.PX Go.Proofs.YthdbnoeaiafniaaW.PrintWords Go.Proofs.YthdbnoeaiafniaaW.PrintLast Go.Proofs.YthdbnoeaiafniaaW.PrintMore
set_option linter.unusedVariables false

theorem wrap64_id {n : Int} (h0 : -9223372036854775808 ≤ n) (h1 : n < 9223372036854775808) : wrap64 n = n := by unfold wrap64; omega
def InI (n : Int) : Prop := -9223372036854775808 ≤ n ∧ n < 9223372036854775808
theorem inI_of_wf {x : Int} (h : (Lit.int .i64 x).wf = true) : InI x := by
  simp [Lit.wf, IntKind.min, IntKind.max, IntKind.signed, IntKind.bits] at h
  unfold InI
  omega
theorem rd_nat (l : List Int) (i : Nat) (h : i < l.length) : rd l (i : Int) = l[i] := by simp [rd, List.getElem?_eq_getElem h]
theorem rd_mem (l : List Int) (i : Nat) (h : i < l.length) : rd l (i : Int) ∈ l := by rw [rd_nat l i h]; exact List.getElem_mem h
theorem rd_zero (x : Int) (l : List Int) : rd (x :: l) ((0 : Nat) : Int) = x := by simp [rd]
theorem rd_succ (x : Int) (l : List Int) (i : Nat) : rd (x :: l) ((i + 1 : Nat) : Int) = rd l (i : Int) := by
  unfold rd
  rw [show ((i + 1 : Nat) : Int).toNat = i + 1 by omega, show ((i : Nat) : Int).toNat = i by omega]
  rfl
theorem rd_set_same (l : List Int) (i : Nat) (v : Int) (h : i < l.length) : rd (l.set i v) (i : Int) = v := by
  rw [rd_nat _ _ (by simpa using h)]
  simp
theorem rd_set_ne (l : List Int) (i j : Nat) (v : Int) (h : i ≠ j) : rd (l.set i v) (j : Int) = rd l (j : Int) := by
  unfold rd
  rw [show ((j : Nat) : Int).toNat = j by omega, List.getD_eq_getElem?_getD, List.getD_eq_getElem?_getD, List.getElem?_set_ne h]
theorem drop_rd (l : List Int) (i : Nat) (h : i < l.length) : l.drop i = rd l (i : Int) :: l.drop (i + 1) := by
  rw [List.drop_eq_getElem_cons h, rd_nat l i h]
theorem ext_rd {l m : List Int} (hl : l.length = m.length) (h : ∀ i : Nat, i < l.length → rd l (i : Int) = rd m (i : Int)) : l = m := by
  apply List.ext_getElem hl
  intro i h1 h2
  have := h i h1
  rwa [rd_nat l i h1, rd_nat m i h2] at this

def Long (n : Int) : Prop := 1 ≤ n ∧ n ≤ 17179869184
def tot (size : Int) (l : List Int) : Int := (l.map (· / size)).sum
theorem tot_cons (size x : Int) (l : List Int) : tot size (x :: l) = x / size + tot size l := by simp [tot]
theorem tot_bound (size : Int) (hs : Long size) (l : List Int) (h : ∀ x ∈ l, Long x) : 0 ≤ tot size l ∧ tot size l ≤ 17179869184 * l.length := by
  unfold Long at *
  induction l with
  | nil => simp [tot]
  | cons x l ih =>
    have h1 := ih (fun y hy => h y (List.mem_cons_of_mem _ hy))
    have h2 := h x (by simp)
    rw [tot_cons, List.length_cons]
    have h3 : 0 ≤ x / size := Int.ediv_nonneg (by omega) (by omega)
    have h4 : x / size ≤ x := Int.ediv_le_self _ (by omega)
    omega
/-- The first place with enough left. -/
def fnd (size : Int) : List Int → Nat
  | [] => 0
  | x :: l => if size ≤ x then 0 else fnd size l + 1
theorem fnd_le (size : Int) (l : List Int) : fnd size l ≤ l.length := by
  induction l with
  | nil => simp [fnd]
  | cons x l ih => simp only [fnd]; split <;> simp; omega
theorem fnd_at (size : Int) (l : List Int) (h : fnd size l < l.length) : size ≤ rd l (fnd size l : Int) := by
  induction l with
  | nil => simp at h
  | cons x l ih =>
    simp only [fnd] at h ⊢
    split
    · rw [rd_zero]; assumption
    · rename_i hx
      rw [if_neg hx] at h
      rw [rd_succ]
      exact ih (by simpa using h)
theorem fnd_before (size : Int) (l : List Int) (j : Nat) (h : j < fnd size l) : rd l (j : Int) < size := by
  induction l generalizing j with
  | nil => simp [fnd] at h
  | cons x l ih =>
    simp only [fnd] at h
    split at h
    · omega
    · rename_i hx
      cases j with
      | zero => rw [rd_zero]; omega
      | succ j => rw [rd_succ]; exact ih j (by omega)
theorem fnd_eq (size : Int) (l : List Int) (i : Nat) (hi : i < l.length) (h1 : size ≤ rd l (i : Int)) (h2 : ∀ j : Nat, j < i → rd l (j : Int) < size) : fnd size l = i := by
  rcases Nat.lt_trichotomy (fnd size l) i with h | h | h
  · have := fnd_at size l (by omega)
    have := h2 _ h
    omega
  · exact h
  · have := fnd_before size l i h
    omega
/-- Where something remains there is such a place. -/
theorem fnd_lt (size : Int) (hs : 1 ≤ size) (l : List Int) (hl : ∀ x ∈ l, 0 ≤ x) (h : 0 < tot size l) : fnd size l < l.length := by
  induction l with
  | nil => simp [tot] at h
  | cons x l ih =>
    simp only [fnd]
    split
    · simp
    · rename_i hx
      rw [tot_cons, Int.ediv_eq_zero_of_lt (hl x (by simp)) (by omega)] at h
      have := ih (fun y hy => hl y (List.mem_cons_of_mem _ hy)) (by omega)
      simp
      omega
theorem tot_set (size : Int) (hs : 1 ≤ size) (l : List Int) (i : Nat) (hi : i < l.length) : tot size (l.set i (rd l (i : Int) - size)) = tot size l - 1 := by
  induction l generalizing i with
  | nil => simp at hi
  | cons x l ih =>
    cases i with
    | zero =>
      rw [rd_zero, List.set_cons_zero, tot_cons, tot_cons]
      have : (x - size) / size = x / size - 1 := by
        rw [Int.sub_ediv_of_dvd x (Int.dvd_refl size), Int.ediv_self (by omega)]
      omega
    | succ i =>
      rw [rd_succ, List.set_cons_succ, tot_cons, tot_cons, ih i (by simpa using hi)]
      omega
theorem set_nonneg {size : Int} {l : List Int} (hl : ∀ x ∈ l, 0 ≤ x) {i : Nat} (hi : i < l.length) (h : size ≤ rd l (i : Int)) : ∀ x ∈ l.set i (rd l (i : Int) - size), 0 ≤ x := by
  intro x hx
  rcases List.mem_or_eq_of_mem_set hx with hx | rfl
  · exact hl x hx
  · omega
/-- The jobs for a list of patterns, one after the other. -/
def jobsS (size : Int) (reels : List Int) : List Int → List Int → List S43
  | _, [] => []
  | left, p :: ps => ⟨(fnd size left : Int), rd reels (fnd size left : Int) - rd left (fnd size left : Int), p⟩ :: jobsS size reels (left.set (fnd size left) (rd left (fnd size left : Int) - size)) ps
/-- What is left behind them. -/
def leftS (size : Int) : List Int → Nat → List Int
  | left, 0 => left
  | left, n + 1 => leftS size (left.set (fnd size left) (rd left (fnd size left : Int) - size)) n
theorem jobsS_len (size : Int) (reels ps : List Int) : ∀ left, (jobsS size reels left ps).length = ps.length := by
  induction ps with
  | nil => intro left; rfl
  | cons p ps ih => intro left; simp [jobsS, ih]
theorem jobsS_append (size : Int) (reels ps qs : List Int) : ∀ left, jobsS size reels left (ps ++ qs) = jobsS size reels left ps ++ jobsS size reels (leftS size left ps.length) qs := by
  induction ps with
  | nil => intro left; rfl
  | cons p ps ih => intro left; simp [jobsS, leftS, ih]
theorem jobsS_f2 (size : Int) (reels ps : List Int) : ∀ left, (jobsS size reels left ps).map (·.f2) = ps := by
  induction ps with
  | nil => intro left; rfl
  | cons p ps ih => intro left; simp [jobsS, ih]
end Go.Proofs.Ythdbnoeaiafniaa.Wind
