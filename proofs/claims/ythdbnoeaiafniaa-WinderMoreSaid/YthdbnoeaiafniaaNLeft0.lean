/- Left of the program and of the reference come to the same; what Left says of the jobs that Jobs returns. -/
import Derived.Test.YthdbnoeaiafniaaNJobs0
namespace Go.Proofs.Ythdbnoeaiafniaa.Wind
open Go.RowKit Go.Proofs.Ythdbnoeaiafniaa.PX Go.Proofs.YthdbnoeaiafniaaW.PrintWords Go.Proofs.YthdbnoeaiafniaaW.PrintLast Go.Proofs.YthdbnoeaiafniaaW.PrintMore
set_option linter.unusedVariables false

theorem at_nat (l : List S43) (i : Nat) (h : i < l.length) : rd_T43 l (i : Int) = l[i] := by simp [rd_T43, List.getElem?_eq_getElem h]
theorem drop_at (l : List S43) (i : Nat) (h : i < l.length) : l.drop i = rd_T43 l (i : Int) :: l.drop (i + 1) := by rw [List.drop_eq_getElem_cons h, at_nat l i h]
theorem same43_l (l : List S43) (hl : l.length ≤ 100000) (d : Nat) : ∀ (i k : Nat), l.length - i = d → i ≤ l.length → d + 1 ≤ k → papermillref50_Same.l0 k l l (i : Int) = some true := by
  induction d with
  | zero =>
    intro i k h0 h1 hk
    obtain ⟨k, rfl⟩ : ∃ m, k = m + 1 := ⟨k - 1, by omega⟩
    simp only [papermillref50_Same.l0]
    rw [if_neg (by omega)]
  | succ d ih =>
    intro i k h0 h1 hk
    obtain ⟨k, rfl⟩ : ∃ m, k = m + 1 := ⟨k - 1, by omega⟩
    simp only [papermillref50_Same.l0]
    rw [if_pos (by omega), if_pos (by omega), if_pos (by omega), if_neg (by simp), w1 i (by omega)]
    exact ih (i + 1) k (by omega) (by omega) (by omega)
theorem same43 (l : List S43) (hl : l.length ≤ 100000) (k : Nat) (hk : l.length + 1 ≤ k) : papermillref50_Same.f k l l = some true := by
  unfold papermillref50_Same.f
  rw [if_pos rfl]
  exact same43_l l hl _ 0 k rfl (Nat.zero_le _) (by omega)
theorem same12_l (l : List Int) (hl : l.length ≤ 100000) (d : Nat) : ∀ (i k : Nat), l.length - i = d → i ≤ l.length → d + 1 ≤ k → papermillref12_Same.l0 k l l (i : Int) = some true := by
  induction d with
  | zero =>
    intro i k h0 h1 hk
    obtain ⟨k, rfl⟩ : ∃ m, k = m + 1 := ⟨k - 1, by omega⟩
    simp only [papermillref12_Same.l0]
    rw [if_neg (by omega)]
  | succ d ih =>
    intro i k h0 h1 hk
    obtain ⟨k, rfl⟩ : ∃ m, k = m + 1 := ⟨k - 1, by omega⟩
    simp only [papermillref12_Same.l0]
    rw [if_pos (by omega), if_pos (by omega), if_pos (by omega), if_pos True.intro, w1 i (by omega)]
    exact ih (i + 1) k (by omega) (by omega) (by omega)
theorem same12 (l : List Int) (hl : l.length ≤ 100000) (k : Nat) (hk : l.length + 1 ≤ k) : papermillref12_Same.f k l l = some true := by
  unfold papermillref12_Same.f
  rw [if_pos rfl]
  exact same12_l l hl _ 0 k rfl (Nat.zero_le _) (by omega)

/-- What is left of the reels behind jobs, or the error. -/
def leftR (reels : List Int) (size : Int) : List Int → List S43 → List Int × Int
  | left, [] => (left, 0)
  | left, j :: js => if j.f0 < 0 ∨ (reels.length : Int) ≤ j.f0 then ([], 7) else if j.f1 = rd reels j.f0 - rd left j.f0 then (if rd left j.f0 < size then ([], 21) else leftR reels size (left.set j.f0.toNat (rd left j.f0 - size)) js) else ([], 9)
structure Inv0 (reels left : List Int) : Prop where
  len : left.length = reels.length
  nn : ∀ x ∈ left, 0 ≤ x
  le : ∀ i : Nat, i < left.length → rd left (i : Int) ≤ rd reels (i : Int)
theorem Inv0.start {reels : List Int} (hr : ∀ x ∈ reels, Long x) : Inv0 reels reels := ⟨rfl, fun x hx => by have := hr x hx; unfold Long at this; omega, fun _ _ => Int.le_refl _⟩
theorem Inv0.get {reels left : List Int} (h : Inv0 reels left) (hr : ∀ x ∈ reels, Long x) (i : Nat) (hi : i < left.length) : 0 ≤ rd left (i : Int) ∧ rd left (i : Int) ≤ rd reels (i : Int) ∧ rd reels (i : Int) ≤ 17179869184 :=
  ⟨h.nn _ (rd_mem left i hi), h.le i hi, (hr _ (rd_mem reels i (by rw [← h.len]; exact hi))).2⟩
theorem Inv0.step {reels left : List Int} (h : Inv0 reels left) {size : Int} (hs : 1 ≤ size) (i : Nat) (hi : i < left.length) (hv : size ≤ rd left (i : Int)) : Inv0 reels (left.set i (rd left (i : Int) - size)) := by
  refine ⟨by simp [h.len], set_nonneg h.nn hi hv, fun j hj => ?_⟩
  rw [List.length_set] at hj
  by_cases he : i = j
  · subst he
    rw [rd_set_same _ _ _ hi]
    have := h.le _ hi
    omega
  · rw [rd_set_ne _ _ _ _ he]
    exact h.le j hj
section
variable (reels : List Int) (size : Int) (jobs : List S43) (hr : ∀ x ∈ reels, Long x) (hs : Long size) (hj : jobs.length ≤ 512)
include hr hs hj
theorem wleft_l (d : Nat) : ∀ (i k : Nat) (left : List Int), jobs.length - i = d → i ≤ jobs.length → Inv0 reels left → 2 * d + 1 ≤ k →
    winder_Left.l0 k reels size left jobs (jobs.length : Int) (i : Int) = some (leftR reels size left (jobs.drop i)) := by
  induction d with
  | zero =>
    intro i k left h0 h1 hI hk
    obtain ⟨k, rfl⟩ : ∃ m, k = m + 1 := ⟨k - 1, by omega⟩
    simp only [winder_Left.l0]
    rw [if_neg (by omega), List.drop_eq_nil_of_le (by omega), leftR]
  | succ d ih =>
    intro i k left h0 h1 hI hk
    obtain ⟨k, rfl⟩ : ∃ m, k = m + 2 := ⟨k - 2, by omega⟩
    have hlt : i < jobs.length := by omega
    simp only [winder_Left.l0]
    rw [if_pos (by omega), if_pos (by omega), if_pos (by omega), drop_at jobs i hlt]
    generalize rd_T43 jobs (i : Int) = j
    have key : winder_Left.j1 (k + 1) reels size left jobs (jobs.length : Int) (i : Int) (decide (j.f0 < 0 ∨ (reels.length : Int) ≤ j.f0)) j.f0 j.f1 j.f2 = some (leftR reels size left (j :: jobs.drop (i + 1))) := by
      simp only [winder_Left.j1, leftR]
      by_cases hb : j.f0 < 0 ∨ (reels.length : Int) ≤ j.f0
      · rw [if_pos (decide_eq_true hb), if_pos hb]
      · rw [if_neg (by simpa using hb), if_neg hb]
        have hlen := hI.len
        obtain ⟨r, hr0⟩ : ∃ r : Nat, j.f0 = (r : Int) := ⟨j.f0.toNat, by omega⟩
        have hrl : r < left.length := by omega
        rw [hr0]
        obtain ⟨b1, b2, b3⟩ := hI.get hr r hrl
        have hs1 := hs.1
        have hs2 := hs.2
        rw [if_pos (by omega), if_pos (by omega), if_pos (by omega), wrap64_id (n := rd reels (r : Int) - rd left (r : Int)) (by omega) (by omega)]
        by_cases hu : j.f1 = rd reels (r : Int) - rd left (r : Int)
        · rw [if_pos hu, if_pos hu]
          by_cases hv : rd left (r : Int) < size
          · rw [if_pos hv, if_pos hv]
          · rw [if_neg hv, if_neg hv, wrap64_id (n := rd left (r : Int) - size) (by omega) (by omega), w1 i (by omega), show (r : Int).toNat = r by omega]
            exact ih (i + 1) k _ (by omega) (by omega) (hI.step hs.1 r hrl (by omega)) (by omega)
        · rw [if_neg hu, if_neg hu]
    by_cases h2 : j.f0 < 0
    · rw [if_pos h2]
      rw [decide_eq_true (Or.inl h2)] at key
      exact key
    · rw [if_neg h2, ← key]
      congr 1
      rw [decide_eq_decide]
      omega

theorem rleft_l (l1 : ∀ (k : Nat) (left used : List Int), 100 ≤ k → Inv0 reels left → UsedOf reels left used → papermillref50_Left.l1 k reels used [] 0 = some (left, 0)) (d : Nat) : ∀ (i k : Nat) (left used : List Int), jobs.length - i = d → i ≤ jobs.length → Inv0 reels left → UsedOf reels left used → 2 * d + 101 ≤ k →
    papermillref50_Left.l0 k reels size jobs used (i : Int) = some (leftR reels size left (jobs.drop i)) := by
  induction d with
  | zero =>
    intro i k left used h0 h1 hI hu hk
    obtain ⟨k, rfl⟩ : ∃ m, k = m + 1 := ⟨k - 1, by omega⟩
    simp only [papermillref50_Left.l0]
    rw [if_neg (by omega), List.drop_eq_nil_of_le (by omega), leftR]
    exact l1 k left used (by omega) hI hu
  | succ d ih =>
    intro i k left used h0 h1 hI hu hk
    obtain ⟨k, rfl⟩ : ∃ m, k = m + 2 := ⟨k - 2, by omega⟩
    have hlt : i < jobs.length := by omega
    simp only [papermillref50_Left.l0]
    rw [if_pos (by omega), if_pos (by omega), drop_at jobs i hlt]
    have key : papermillref50_Left.j1 (k + 1) reels size jobs used (i : Int) (rd_T43 jobs (i : Int)).f0 (decide ((rd_T43 jobs (i : Int)).f0 < 0 ∨ (reels.length : Int) ≤ (rd_T43 jobs (i : Int)).f0)) = some (leftR reels size left (rd_T43 jobs (i : Int) :: jobs.drop (i + 1))) := by
      simp only [papermillref50_Left.j1, leftR]
      generalize rd_T43 jobs (i : Int) = j
      by_cases hb : j.f0 < 0 ∨ (reels.length : Int) ≤ j.f0
      · rw [if_pos (decide_eq_true hb), if_pos hb]
      · rw [if_neg (by simpa using hb), if_neg hb, if_pos (by omega), if_pos (by omega)]
        have hlen := hI.len
        have hul := hu.1
        obtain ⟨r, hr0⟩ : ∃ r : Nat, j.f0 = (r : Int) := ⟨j.f0.toNat, by omega⟩
        have hrl : r < left.length := by omega
        rw [hr0]
        obtain ⟨b1, b2, b3⟩ := hI.get hr r hrl
        have hue := hu.2 r (by omega)
        have hs1 := hs.1
        have hs2 := hs.2
        rw [if_pos (by omega), if_pos (by omega)]
        by_cases h5 : j.f1 = rd reels (r : Int) - rd left (r : Int)
        · rw [if_pos (by omega), if_pos h5, if_pos (by omega), wrap64_id (n := rd reels (r : Int) - rd used (r : Int)) (by omega) (by omega)]
          by_cases hv : rd left (r : Int) < size
          · rw [if_pos (by omega), if_pos hv]
          · rw [if_neg (by omega), if_neg hv, wrap64_id (n := rd used (r : Int) + size) (by omega) (by omega), w1 i (by omega), show (r : Int).toNat = r by omega]
            exact ih (i + 1) k _ _ (by omega) (by omega) (hI.step hs.1 r hrl (by omega)) (hu.step size hlen r hrl) (by omega)
        · rw [if_neg (by omega), if_neg h5]
    by_cases h2 : (rd_T43 jobs (i : Int)).f0 < 0
    · rw [if_pos h2]
      rw [decide_eq_true (Or.inl h2)] at key
      exact key
    · rw [if_neg h2, ← key]
      congr 1
      rw [decide_eq_decide]
      omega
end
theorem rleft_1 (reels : List Int) (hL : reels.length ≤ 60) (hr : ∀ x ∈ reels, Long x) (left used : List Int) (hI : Inv0 reels left) (hu : UsedOf reels left used) (d : Nat) : ∀ (i k : Nat), reels.length - i = d → i ≤ reels.length → d + 1 ≤ k → papermillref50_Left.l1 k reels used (left.take i) (i : Int) = some (left, 0) := by
  have hlen := hI.len
  have hul := hu.1
  induction d with
  | zero =>
    intro i k h0 h1 hk
    obtain ⟨k, rfl⟩ : ∃ m, k = m + 1 := ⟨k - 1, by omega⟩
    simp only [papermillref50_Left.l1]
    rw [if_neg (by omega), List.take_of_length_le (by omega)]
  | succ d ih =>
    intro i k h0 h1 hk
    obtain ⟨k, rfl⟩ : ∃ m, k = m + 1 := ⟨k - 1, by omega⟩
    have hlt : i < left.length := by omega
    obtain ⟨b1, b2, b3⟩ := hI.get hr i hlt
    have hue := hu.2 i (by omega)
    simp only [papermillref50_Left.l1]
    rw [if_pos (by omega), if_pos (by omega), if_pos (by omega), if_pos (by rw [List.length_take]; omega), wrap64_id (by omega) (by omega), w1 i (by omega)]
    have : left.take i ++ [rd reels (i : Int) - rd used (i : Int)] = left.take (i + 1) := by
      rw [List.take_add_one, List.getElem?_eq_getElem hlt, hue, show rd reels (i : Int) - (rd reels (i : Int) - rd left (i : Int)) = rd left (i : Int) by omega, rd_nat left i hlt]
      rfl
    rw [this]
    exact ih (i + 1) k (by omega) (by omega) (by omega)
def leftT (reels : List Int) (size : Int) (jobs : List S43) : List Int × Int :=
  if (capS reels size).2 = 0 then (if (jobs.length : Int) > 512 then ([], 8) else leftR reels size reels jobs) else ([], (capS reels size).2)
theorem wleft (reels : List Int) (size : Int) (jobs : List S43) (hL : reels.length ≤ 60) (k : Nat) (hk : 2000 ≤ k) : winder_Left.f k reels size jobs = some (leftT reels size jobs) := by
  unfold winder_Left.f leftT
  rw [wcap reels size k (by omega)]
  simp only [Option.bind_some]
  rcases capS_ok reels size with ⟨h0, h1⟩ | ⟨h1, h2, h3, h4⟩
  · rw [if_neg h0, if_neg h0]
  · rw [h4]
    simp only [if_true]
    by_cases h5 : (jobs.length : Int) > 512
    · rw [if_pos h5, if_pos h5]
    · rw [if_neg h5, if_neg h5, copied reels hL]
      simp only [Option.bind_some]
      have := wleft_l reels size jobs h2 h3 (by omega) jobs.length 0 k reels (by omega) (Nat.zero_le _) (Inv0.start h2) (by omega)
      rw [List.drop_zero] at this
      exact this
theorem rleft (reels : List Int) (size : Int) (jobs : List S43) (hL : reels.length ≤ 60) (k : Nat) (hk : 2000 ≤ k) : papermillref50_Left.f k reels size jobs = some (leftT reels size jobs) := by
  unfold papermillref50_Left.f leftT
  rw [rcap reels size k (by omega)]
  simp only [Option.bind_some]
  rcases capS_ok reels size with ⟨h0, h1⟩ | ⟨h1, h2, h3, h4⟩
  · rw [if_neg h0, if_neg h0]
  · rw [h4]
    simp only [if_true]
    by_cases h5 : (jobs.length : Int) > 512
    · rw [if_pos h5, if_pos h5]
    · rw [if_neg h5, if_neg h5, if_pos (by omega), if_pos (by omega), show ((reels.length : Int)).toNat = reels.length by omega]
      have := rleft_l reels size jobs h2 h3 (by omega) (fun k left used hk hI hu => by have := rleft_1 reels hL h2 left used hI hu _ 0 k rfl (Nat.zero_le _) (by omega); rw [List.take_zero] at this; exact this) jobs.length 0 k reels (List.replicate reels.length 0) (by omega) (Nat.zero_le _) (Inv0.start h2) ⟨by simp, fun i hi => by rw [rd_nat _ _ (by simpa using hi)]; simp⟩ (by omega)
      rw [List.drop_zero] at this
      exact this
theorem sum_set (size : Int) (left : List Int) : ∀ r : Nat, r < left.length → (left.set r (rd left (r : Int) - size)).sum = left.sum - size := by
  induction left with
  | nil => intro r hrl; simp at hrl
  | cons x l ih =>
    intro r hrl
    cases r with
    | zero => rw [rd_zero, List.set_cons_zero, List.sum_cons, List.sum_cons]; omega
    | succ r => rw [rd_succ, List.set_cons_succ, List.sum_cons, List.sum_cons, ih r (by simpa using hrl)]; omega
/-- What a list of jobs without error leaves. -/
theorem leftR_ok (reels : List Int) (size : Int) (hr : ∀ x ∈ reels, Long x) (hs : Long size) (jobs : List S43) : ∀ left, Inv0 reels left →
    ((leftR reels size left jobs).2 ≠ 0 ∧ (leftR reels size left jobs).1 = []) ∨ ((leftR reels size left jobs).2 = 0 ∧ Inv0 reels (leftR reels size left jobs).1 ∧ tot size (leftR reels size left jobs).1 = tot size left - jobs.length ∧ (leftR reels size left jobs).1.sum = left.sum - size * jobs.length) := by
  induction jobs with
  | nil => intro left hI; exact .inr ⟨rfl, hI, by simp [leftR], by simp [leftR]⟩
  | cons j js ih =>
    intro left hI
    simp only [leftR]
    split
    · exact .inl ⟨by decide, rfl⟩
    · rename_i hb
      split
      · split
        · exact .inl ⟨by decide, rfl⟩
        · rename_i hv
          have hlen := hI.len
          obtain ⟨r, hr0⟩ : ∃ r : Nat, j.f0 = (r : Int) := ⟨j.f0.toNat, by omega⟩
          have hrl : r < left.length := by omega
          rw [hr0] at hv ⊢
          rw [show (r : Int).toNat = r by omega]
          rcases ih _ (hI.step hs.1 r hrl (by omega)) with h | ⟨h1, h2, h3, h4⟩
          · exact .inl h
          · refine .inr ⟨h1, h2, ?_, ?_⟩
            · rw [h3, tot_set size hs.1 left r hrl, List.length_cons]
              push_cast
              omega
            · have hsum := sum_set size left r hrl
              rw [h4, hsum, List.length_cons]
              push_cast
              rw [Int.mul_add]
              omega
      · exact .inl ⟨by decide, rfl⟩
/-- Jobs' jobs leave what they say. -/
theorem leftR_jobs (reels : List Int) (size : Int) (hr : ∀ x ∈ reels, Long x) (hs : Long size) (ps : List Int) : ∀ left, Inv size reels left ps.length → (leftR reels size left (jobsS size reels left ps)).2 = 0 ∧ (leftR reels size left (jobsS size reels left ps)).1.length = reels.length := by
  induction ps with
  | nil => intro left hI; exact ⟨rfl, hI.len⟩
  | cons p ps ih =>
    intro left hI
    have hf := hI.lt hs
    have hlen := hI.len
    have hat := fnd_at size left hf
    simp only [jobsS, leftR]
    rw [if_neg (by omega), if_pos True.intro, if_neg (by omega), show ((fnd size left : Nat) : Int).toNat = fnd size left by omega]
    exact ih _ (hI.step hs).1
theorem jobsR_len (reels : List Int) (size np : Int) (sets : List Int) : (jobsR reels size np sets).1.length ≤ 512 := by
  unfold jobsR
  split
  · split
    · split
      · rename_i h6
        split
        · simp
        · split
          · simp
          · have := patsFrom_len sets h6 0
            simp only [jobsS_len]
            omega
      · simp
    · simp
  · simp
theorem leftT_len (reels : List Int) (size : Int) (jobs : List S43) : (leftT reels size jobs).1.length ≤ 512 := by
  unfold leftT
  rcases capS_ok reels size with ⟨e0, e1⟩ | ⟨c1, c2, c3, c4⟩
  · rw [if_neg e0]; simp
  · rw [c4]
    simp only [if_true]
    split
    · simp
    · rcases leftR_ok reels size c2 c3 jobs reels (Inv0.start c2) with ⟨e0, e1⟩ | ⟨d1, d2, d3, d4⟩
      · rw [e1]; simp
      · rw [d2.len]; exact c1
theorem jobsR_cases (reels : List Int) (size : Int) (np : Nat) (sets : List Int) : ((jobsR reels size np sets).2 ≠ 0 ∧ (jobsR reels size np sets).1 = []) ∨
    ((∀ x ∈ reels, Long x) ∧ Long size ∧ capS reels size = (tot size reels, 0) ∧ (sets.length : Int) = np ∧ Small sets ∧ sets.sum ≤ 512 ∧ sets.sum ≤ tot size reels ∧ jobsR reels size np sets = (jobsS size reels reels (patsFrom 0 sets), 0)) := by
  unfold jobsR
  rcases capS_ok reels size with ⟨e0, e1⟩ | ⟨c1, c2, c3, c4⟩
  · rw [if_neg e0]; exact .inl ⟨e0, rfl⟩
  · rw [c4]
    simp only [if_true]
    split
    · rename_i h1
      split
      · rename_i h2
        split
        · exact .inl ⟨by decide, rfl⟩
        · split
          · exact .inl ⟨by decide, rfl⟩
          · exact .inr ⟨c2, c3, trivial, h1, h2, by omega, by omega, rfl⟩
      · exact .inl ⟨by decide, rfl⟩
    · exact .inl ⟨by decide, rfl⟩
end Go.Proofs.Ythdbnoeaiafniaa.Wind
