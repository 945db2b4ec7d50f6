/- The winder's laws: what a check of the jobs, one after the other, comes to. -/
import Derived.Test.YthdbnoeaiafniaaNLeft0
import Derived.Test.YthdbnoeaiafniaaPXx14
import Derived.Test.YthdbnoeaiafniaaPXx15
import Derived.Test.YthdbnoeaiafniaaPXx16
namespace Go.Proofs.Ythdbnoeaiafniaa.Wind
open Go.RowKit Go.Proofs.Ythdbnoeaiafniaa.PX Go.Proofs.YthdbnoeaiafniaaW.PrintWords Go.Proofs.YthdbnoeaiafniaaW.PrintLast Go.Proofs.YthdbnoeaiafniaaW.PrintMore
set_option linter.unusedVariables false

/-! ### WinderJobs -/
structure Reach (size : Int) (reels left : List Int) (at_ : Nat) (used : Int) : Prop where
  before : ∀ i : Nat, i < at_ → rd left (i : Int) < size
  here : at_ < reels.length → used = rd reels (at_ : Int) - rd left (at_ : Int)
  behind : ∀ i : Nat, at_ < i → i < reels.length → rd left (i : Int) = rd reels (i : Int)
theorem lj1 (reels : List Int) (size : Int) (jobs : List S43) (hL : reels.length ≤ 60) (hr : ∀ x ∈ reels, Long x) (hs : Long size) (left : List Int) (n : Nat) (hI : Inv size reels left (n + 1)) (i : Nat) (R : Option Bool) :
    ∀ (d at_ k : Nat) (used : Int), at_ + d = fnd size left → Reach size reels left at_ used → d + 1 ≤ k →
      (∀ k', k' + d = k → papermilllaw50_WinderJobs.l1 k' reels size jobs (fnd size left : Int) (rd reels (fnd size left : Int) - rd left (fnd size left : Int)) (i : Int) (fnd size left : Int) = R) →
      papermilllaw50_WinderJobs.l1 k reels size jobs (at_ : Int) used (i : Int) (fnd size left : Int) = R := by
  have hf := hI.lt hs
  have hlen := hI.len
  intro d
  induction d with
  | zero =>
    intro at_ k used h1 hR hk h
    obtain rfl : at_ = fnd size left := by omega
    rw [hR.here (by omega)]
    exact h k rfl
  | succ d ih =>
    intro at_ k used h1 hR hk h
    obtain ⟨k, rfl⟩ : ∃ m, k = m + 1 := ⟨k - 1, by omega⟩
    have hb := fnd_before size left at_ (by omega)
    obtain ⟨b1, b2, b3⟩ := hI.get hr at_ (by omega)
    have hu := hR.here (by omega)
    simp only [papermilllaw50_WinderJobs.l1]
    rw [if_pos (by omega), if_pos (by omega), if_pos (by omega), wrap64_id (n := rd reels (at_ : Int) - used) (by omega) (by omega), if_neg (by omega), w1 at_ (by omega)]
    refine ih (at_ + 1) k 0 (by omega) ⟨fun j hj => ?_, fun hj => ?_, fun j hj hj2 => hR.behind j (by omega) hj2⟩ (by omega) (fun k' hk' => h k' (by omega))
    · exact fnd_before size left j (by omega)
    · rw [hR.behind (at_ + 1) (by omega) hj]; omega
theorem lj0 (reels : List Int) (size : Int) (jobs : List S43) (hL : reels.length ≤ 60) (hr : ∀ x ∈ reels, Long x) (hs : Long size) (hj : jobs.length ≤ 512) (hend : leftT reels size jobs = ((leftT reels size jobs).1, 0) ∧ (leftT reels size jobs).1.length = reels.length) (ps : List Int) :
    ∀ (i k at_ : Nat) (used : Int) (left : List Int), jobs.drop i = jobsS size reels left ps → i + ps.length = jobs.length → Inv size reels left ps.length → Reach size reels left at_ used → at_ ≤ 60 → 64 * ps.length + 3000 ≤ k →
      papermilllaw50_WinderJobs.l0 k reels size jobs (at_ : Int) used (i : Int) = some true := by
  induction ps with
  | nil =>
    intro i k at_ used left hd hi hI hR hat hk
    obtain ⟨k, rfl⟩ : ∃ m, k = m + 1 := ⟨k - 1, by omega⟩
    simp only [List.length_nil] at hi hk
    simp only [papermilllaw50_WinderJobs.l0]
    rw [if_neg (by omega), wleft reels size jobs hL k (by omega), hend.1]
    simp only [Option.bind_some, if_true]
    rw [if_pos (by rw [hend.2]), awake_true k (by omega)]
    rfl
  | cons p ps ih =>
    intro i k at_ used left hd hi hI hR hat hk
    obtain ⟨k, rfl⟩ : ∃ m, k = m + 2 := ⟨k - 2, by omega⟩
    simp only [List.length_cons] at hi hk hI
    have hlt : i < jobs.length := by omega
    have hf := hI.lt hs
    have hlen := hI.len
    have hat2 := fnd_at size left hf
    obtain ⟨b1, b2, b3⟩ := hI.get hr _ hf
    have hs1 := hs.1
    have hs2 := hs.2
    rw [drop_at jobs i hlt, jobsS] at hd
    injection hd with hj0 hd
    have hge : at_ ≤ fnd size left := Nat.le_of_not_lt fun h => by have := hR.before _ h; omega
    simp only [papermilllaw50_WinderJobs.l0]
    rw [if_pos (by omega), if_pos (by omega), hj0]
    simp only
    have key : papermilllaw50_WinderJobs.j2 (k + 1) reels size jobs (at_ : Int) used (i : Int) (fnd size left : Int) false = some true := by
      simp only [papermilllaw50_WinderJobs.j2]
      rw [if_neg (by decide)]
      refine lj1 reels size jobs hL hr hs left _ hI i _ (fnd size left - at_) at_ k used (by omega) hR (by omega) (fun k' hk' => ?_)
      obtain ⟨k', rfl⟩ : ∃ m, k' = m + 1 := ⟨k' - 1, by omega⟩
      simp only [papermilllaw50_WinderJobs.l1]
      rw [if_neg (by omega), if_pos (by omega), if_pos (by omega), hj0]
      simp only [if_true]
      rw [if_pos (by omega), if_pos (by omega), wrap64_id (n := rd reels (fnd size left : Int) - (rd reels (fnd size left : Int) - rd left (fnd size left : Int))) (by omega) (by omega), if_neg (by omega), wrap64_id (by omega) (by omega), w1 i (by omega)]
      refine ih (i + 1) k' (fnd size left) _ _ hd (by omega) (hI.step hs).1 ⟨fun j hj => ?_, fun _ => ?_, fun j hj hj2 => ?_⟩ (by omega) (by omega)
      · rw [rd_set_ne _ _ _ _ (by omega)]
        exact fnd_before size left j hj
      · rw [rd_set_same _ _ _ hf]; omega
      · rw [rd_set_ne _ _ _ _ (by omega)]
        exact hR.behind j (by omega) hj2
    rw [if_neg (by omega), decide_eq_false (by omega)]
    exact key

/-! ### WinderSets -/
theorem ls0 (jobs : List S43) (np : List (List Int)) (sets : List Int) (bd : Int) (hm : sets.length ≤ 30) (hS : Small sets) (hj : jobs.length ≤ 512) (e : Nat) : ∀ (i k q : Nat), sets.length - i = e → i ≤ sets.length → q ≤ jobs.length → (jobs.drop q).map (·.f2) = patsFrom (i : Int) (sets.drop i) → (jobs.length - q) + 3 * e + 1000 ≤ k →
    papermilllaw50_WinderSets.l0 k jobs (q : Int) (i : Int) np sets bd = some true := by
  induction e with
  | zero =>
    intro i k q h0 h1 hq hd hk
    obtain ⟨k, rfl⟩ : ∃ m, k = m + 1 := ⟨k - 1, by omega⟩
    rw [show sets.drop i = [] from List.drop_eq_nil_of_le (by omega)] at hd
    have := congrArg List.length hd
    simp [patsFrom] at this
    simp only [papermilllaw50_WinderSets.l0]
    rw [if_neg (by omega), if_pos (by omega), awake_true k (by omega)]
    rfl
  | succ e ih =>
    intro i k q h0 h1 hq hd hk
    obtain ⟨k, rfl⟩ : ∃ m, k = m + 1 := ⟨k - 1, by omega⟩
    have hlt : i < sets.length := by omega
    have hsm := hS _ (rd_mem sets i hlt)
    simp only [papermilllaw50_WinderSets.l0]
    rw [if_pos (by omega)]
    rw [patsFrom_drop sets i hlt] at hd
    have key : ∀ (d n q k : Nat), rd sets (i : Int) = ((n + d : Nat) : Int) → q ≤ jobs.length → (jobs.drop q).map (·.f2) = List.replicate d (i : Int) ++ patsFrom ((i + 1 : Nat) : Int) (sets.drop (i + 1)) → (jobs.length - q) + 3 * e + 1002 ≤ k →
        papermilllaw50_WinderSets.l1 k jobs (q : Int) (i : Int) (n : Int) np sets bd = some true := by
      intro d
      induction d with
      | zero =>
        intro n q k hn hq hd hk
        obtain ⟨k, rfl⟩ : ∃ m, k = m + 1 := ⟨k - 1, by omega⟩
        simp only [papermilllaw50_WinderSets.l1]
        rw [if_pos (by omega), if_pos (by omega), if_neg (by omega), w1 i (by omega)]
        exact ih (i + 1) k q (by omega) (by omega) hq (by simpa using hd) (by omega)
      | succ d ih2 =>
        intro n q k hn hq hd hk
        obtain ⟨k, rfl⟩ : ∃ m, k = m + 1 := ⟨k - 1, by omega⟩
        have hql : q < jobs.length := by
          refine Nat.lt_of_not_le fun h => ?_
          rw [List.drop_eq_nil_of_le h, List.replicate_succ] at hd
          cases hd
        rw [drop_at jobs q hql, List.map_cons, List.replicate_succ, List.cons_append] at hd
        injection hd with hd0 hd
        simp only [papermilllaw50_WinderSets.l1]
        rw [if_pos (by omega), if_pos (by omega), if_pos (by omega), if_neg (by omega), if_pos (by omega), if_pos (by omega), if_pos hd0, w1 q (by omega), w1 n (by omega)]
        exact ih2 (n + 1) (q + 1) k (by rw [hn]; congr 1; omega) (by omega) hd (by omega)
    exact key (rd sets (i : Int)).toNat 0 q k (by omega) hq hd (by omega)

/-! ### WinderSum -/
theorem tot_zero (size : Int) (hs : 1 ≤ size) (l : List Int) (hl : ∀ x ∈ l, 0 ≤ x) (h : tot size l = 0) : ∀ x ∈ l, x < size := by
  induction l with
  | nil => intro x hx; simp at hx
  | cons y l ih =>
    rw [tot_cons] at h
    have h1 : 0 ≤ y / size := Int.ediv_nonneg (hl y (by simp)) (by omega)
    have h2 : 0 ≤ tot size l := by
      clear ih h
      induction l with
      | nil => simp [tot]
      | cons z l ih =>
        rw [tot_cons]
        have := ih (fun x hx => hl x (by simp at hx ⊢; rcases hx with hx | hx <;> simp [hx]))
        have := Int.ediv_nonneg (hl z (by simp)) (show (0 : Int) ≤ size by omega)
        omega
    intro x hx
    rcases List.mem_cons.1 hx with rfl | hx
    · have h3 : x / size = 0 := by omega
      have h4 := Int.emod_lt_of_pos x (show 0 < size by omega)
      have h5 := Int.mul_ediv_add_emod x size
      rw [h3, Int.mul_zero] at h5
      omega
    · exact ih (fun z hz => hl z (List.mem_cons_of_mem _ hz)) (by omega) x hx
theorem tot_nonneg (size : Int) (hs : 1 ≤ size) (l : List Int) (hl : ∀ x ∈ l, 0 ≤ x) : 0 ≤ tot size l := by
  induction l with
  | nil => simp [tot]
  | cons z l ih =>
    rw [tot_cons]
    have := ih (fun x hx => hl x (List.mem_cons_of_mem _ hx))
    have := Int.ediv_nonneg (hl z (by simp)) (show (0 : Int) ≤ size by omega)
    omega
theorem sum_take (l : List Int) (i : Nat) (h : i < l.length) : (l.take (i + 1)).sum = (l.take i).sum + rd l (i : Int) := by
  rw [List.take_add_one, List.getElem?_eq_getElem h, List.sum_append, rd_nat l i h]
  simp
theorem lsum (reels left : List Int) (size n : Int) (jobs : List S43) (hL : reels.length ≤ 60) (hr : ∀ x ∈ reels, Long x) (hs : Long size) (hI : Inv0 reels left) (hj : jobs.length ≤ 520) (hn : (jobs.length : Int) = n → ∀ x ∈ left, x < size) (hsum : left.sum = reels.sum - size * jobs.length) (d : Nat) :
    ∀ (i k : Nat) (acc : Int), reels.length - i = d → i ≤ reels.length → acc = size * jobs.length + (left.take i).sum - (reels.take i).sum → -(17179869184 * (i : Int)) ≤ acc → acc ≤ 8933531975680 → d + 101 ≤ k →
      papermilllaw50_WinderSum.l0 k reels size jobs left n acc (i : Int) = some true := by
  have hlen := hI.len
  induction d with
  | zero =>
    intro i k acc h0 h1 h2 h3 h4 hk
    obtain ⟨k, rfl⟩ : ∃ m, k = m + 1 := ⟨k - 1, by omega⟩
    simp only [papermilllaw50_WinderSum.l0]
    rw [List.take_of_length_le (by omega), List.take_of_length_le (by omega)] at h2
    rw [if_neg (by omega), if_pos (by omega), awake_true k (by omega)]
    rfl
  | succ d ih =>
    intro i k acc h0 h1 h2 h3 h4 hk
    obtain ⟨k, rfl⟩ : ∃ m, k = m + 1 := ⟨k - 1, by omega⟩
    have hlt : i < left.length := by omega
    obtain ⟨b1, b2, b3⟩ := hI.get hr i hlt
    simp only [papermilllaw50_WinderSum.l0]
    rw [if_pos (by omega), if_pos (by omega), if_pos (by omega), if_neg (by omega), if_neg (by omega)]
    have nxt : papermilllaw50_WinderSum.l0 k reels size jobs left n (wrap64 (wrap64 (acc + rd left (i : Int)) - rd reels (i : Int))) (wrap64 ((i : Int) + 1)) = some true := by
      rw [wrap64_id (n := acc + rd left (i : Int)) (by omega) (by omega), wrap64_id (n := acc + rd left (i : Int) - rd reels (i : Int)) (by omega) (by omega), w1 i (by omega)]
      refine ih (i + 1) k _ (by omega) (by omega) ?_ (by push_cast; omega) (by omega) (by omega)
      rw [sum_take left i hlt, sum_take reels i (by omega)]
      omega
    by_cases h5 : (jobs.length : Int) = n
    · have := hn h5 _ (rd_mem left i hlt)
      rw [if_pos h5, if_neg (by omega)]
      exact nxt
    · rw [if_neg h5]
      exact nxt
end Go.Proofs.Ythdbnoeaiafniaa.Wind
