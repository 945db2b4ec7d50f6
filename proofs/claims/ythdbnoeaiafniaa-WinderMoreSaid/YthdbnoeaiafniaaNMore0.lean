/- The loop over the sets and the dropping of the last job. -/
import Derived.Test.YthdbnoeaiafniaaNLaws0
import Derived.Test.YthdbnoeaiafniaaPXx17
namespace Go.Proofs.Ythdbnoeaiafniaa.Wind
open Go.RowKit Go.Proofs.Ythdbnoeaiafniaa.PX Go.Proofs.YthdbnoeaiafniaaW.PrintWords Go.Proofs.YthdbnoeaiafniaaW.PrintLast Go.Proofs.YthdbnoeaiafniaaW.PrintMore
set_option linter.unusedVariables false

theorem mj3_bad (reels : List Int) (size : Int) (jobs : List S43) (code acc : Int) (hc : code ≠ 0) (np : List (List Int)) (sets : List Int) (bd : Int) (k : Nat) (hk : 200 ≤ k) :
    papermilllaw50_WinderMore.j3 k reels size jobs code acc ((code == 0) != false) np sets bd = some true := by
  obtain ⟨k, rfl⟩ : ∃ m, k = m + 1 := ⟨k - 1, by omega⟩
  simp only [papermilllaw50_WinderMore.j3]
  rw [show (code == 0) = false by simpa using hc, if_neg (by decide), if_neg hc]
  obtain ⟨k, rfl⟩ : ∃ m, k = m + 1 := ⟨k - 1, by omega⟩
  simp only [papermilllaw50_WinderMore.j4, if_true]
  rw [awake_true k (by omega)]
  rfl

theorem ml0_bad (reels : List Int) (size cap : Int) (jobs : List S43) (code : Int) (hc : code ≠ 0) (np : List (List Int)) (sets : List Int) (bd : Int) (hm : sets.length ≤ 30) (d : Nat) : ∀ (i k : Nat) (acc : Int) (b : Bool), sets.length - i = d → i ≤ sets.length → 0 ≤ acc → acc ≤ 512 * i → d + 300 ≤ k →
    (b = true → Small (sets.drop i) → acc + (sets.drop i).sum ≤ 512 → ¬ acc + (sets.drop i).sum ≤ cap) →
    papermilllaw50_WinderMore.l0 k reels size cap jobs code b acc (i : Int) np sets bd = some true := by
  induction d with
  | zero =>
    intro i k acc b h0 h1 h2 h3 hk hb
    obtain ⟨k, rfl⟩ : ∃ m, k = m + 1 := ⟨k - 1, by omega⟩
    rw [List.drop_eq_nil_of_le (by omega)] at hb
    simp only [papermilllaw50_WinderMore.l0]
    rw [if_neg (by omega)]
    have h5 := mj3_bad reels size jobs code acc hc np sets bd k (by omega)
    split
    · rename_i hbt
      split
      · rename_i h6
        have := hb hbt (by simp [Small]) (by simpa using h6)
        rw [decide_eq_false (by simpa using this)]
        exact h5
      · exact h5
    · exact h5
  | succ d ih =>
    intro i k acc b h0 h1 h2 h3 hk hb
    obtain ⟨k, rfl⟩ : ∃ m, k = m + 1 := ⟨k - 1, by omega⟩
    have hlt : i < sets.length := by omega
    simp only [papermilllaw50_WinderMore.l0]
    rw [if_pos (by omega)]
    rw [w1 i (by omega)]
    split
    · rename_i hbt
      rw [if_pos (by omega)]
      split
      · rename_i h6
        split
        · rename_i h7
          rw [decide_eq_true h7, wrap64_id (by omega) (by omega)]
          refine ih (i + 1) k _ true (by omega) (by omega) (by omega) (by push_cast; omega) (by omega) (fun _ hs hn => ?_)
          have := hb hbt ((small_drop sets i hlt).2 ⟨⟨h6, h7⟩, hs⟩)
          rw [sum_drop sets i hlt] at this
          have h8 := this (by omega)
          omega
        · rename_i h7
          rw [decide_eq_false h7]
          exact ih (i + 1) k _ false (by omega) (by omega) (by omega) (by push_cast; omega) (by omega) (fun h => by cases h)
      · exact ih (i + 1) k _ false (by omega) (by omega) (by omega) (by push_cast; omega) (by omega) (fun h => by cases h)
    · exact ih (i + 1) k _ false (by omega) (by omega) (by omega) (by push_cast; omega) (by omega) (fun h => by cases h)

theorem ml0_ok (reels : List Int) (size cap : Int) (jobs : List S43) (np : List (List Int)) (sets : List Int) (bd : Int) (hm : sets.length ≤ 30) (n : Int) (hcap : n ≤ cap) (hn : n ≤ 512) (R : Option Bool)
    (hR : ∀ k, 60000 ≤ k → papermilllaw50_WinderMore.j3 k reels size jobs 0 n false np sets bd = R) (d : Nat) : ∀ (i k : Nat) (acc : Int), sets.length - i = d → i ≤ sets.length → 0 ≤ acc → acc ≤ 512 * i → d + 60001 ≤ k → Small (sets.drop i) → acc + (sets.drop i).sum = n →
    papermilllaw50_WinderMore.l0 k reels size cap jobs 0 true acc (i : Int) np sets bd = R := by
  induction d with
  | zero =>
    intro i k acc h0 h1 h2 h3 hk hs hsum
    obtain ⟨k, rfl⟩ : ∃ m, k = m + 1 := ⟨k - 1, by omega⟩
    rw [List.drop_eq_nil_of_le (by omega), List.sum_nil, Int.add_zero] at hsum
    subst hsum
    simp only [papermilllaw50_WinderMore.l0, if_true]
    rw [if_neg (by omega), if_pos hn, decide_eq_true hcap]
    exact hR k (by omega)
  | succ d ih =>
    intro i k acc h0 h1 h2 h3 hk hs hsum
    obtain ⟨k, rfl⟩ : ∃ m, k = m + 1 := ⟨k - 1, by omega⟩
    have hlt : i < sets.length := by omega
    obtain ⟨⟨h6, h7⟩, hs'⟩ := (small_drop sets i hlt).1 hs
    rw [sum_drop sets i hlt] at hsum
    simp only [papermilllaw50_WinderMore.l0, if_true]
    rw [if_pos (by omega), if_pos (by omega), if_pos h6, if_pos h7, decide_eq_true h7, w1 i (by omega), wrap64_id (by omega) (by omega)]
    exact ih (i + 1) k _ (by omega) (by omega) (by omega) (by push_cast; omega) (by omega) hs' (by omega)

theorem pats_last (sets : List Int) : ∀ (i : Int) (m : Nat), sets.length = m + 1 → 0 < rd sets (m : Int) → ∃ p, patsFrom i sets = patsFrom i (sets.set m (rd sets (m : Int) - 1)) ++ [p] := by
  induction sets with
  | nil => intro i m h; simp at h
  | cons x t ih =>
    intro i m h hp
    cases m with
    | zero =>
      obtain rfl : t = [] := List.length_eq_zero_iff.1 (by simpa using h)
      rw [rd_zero] at hp ⊢
      obtain ⟨n, hn⟩ : ∃ n : Nat, x = (n : Int) + 1 := ⟨(x - 1).toNat, by omega⟩
      subst hn
      refine ⟨i, ?_⟩
      simp only [List.set_cons_zero, patsFrom, List.append_nil]
      rw [show ((n : Int) + 1).toNat = n + 1 by omega, show ((n : Int) + 1 - 1).toNat = n by omega, List.replicate_succ']
    | succ m =>
      rw [rd_succ] at hp ⊢
      obtain ⟨p, hq⟩ := ih (i + 1) m (by simpa using h) hp
      refine ⟨p, ?_⟩
      simp only [List.set_cons_succ, patsFrom]
      rw [hq, List.append_assoc]

theorem small_set (sets : List Int) (h : Small sets) (m : Nat) (v : Int) (hv : 0 ≤ v ∧ v ≤ 512) : Small (sets.set m v) := by
  intro x hx
  rcases List.mem_or_eq_of_mem_set hx with hx | rfl
  · exact h x hx
  · exact hv

theorem mj4_ok (reels : List Int) (size : Int) (np : List (List Int)) (sets : List Int) (bd : Int) (hL : reels.length ≤ 60) (hm : sets.length ≤ 30)
    (c2 : ∀ x ∈ reels, Long x) (c3 : Long size) (c4 : capS reels size = (tot size reels, 0)) (c5 : (sets.length : Int) = np.length) (c6 : Small sets) (c7 : sets.sum ≤ 512) (c8 : sets.sum ≤ tot size reels)
    (m : Nat) (hlen : sets.length = m + 1) (hp : 0 < rd sets (m : Int)) (k : Nat) (hk : 59000 ≤ k) :
    papermilllaw50_WinderMore.j4 k reels size (jobsS size reels reels (patsFrom 0 sets)) sets.sum false np sets bd = some true := by
  obtain ⟨k, rfl⟩ : ∃ m, k = m + 1 := ⟨k - 1, by omega⟩
  have hmem := c6 _ (rd_mem sets m (by omega))
  obtain ⟨p, hpt⟩ := pats_last sets 0 m hlen hp
  have hsum : (sets.set m (rd sets (m : Int) - 1)).sum = sets.sum - 1 := sum_set 1 sets m (by omega)
  have hsm : Small (sets.set m (rd sets (m : Int) - 1)) := small_set sets c6 m _ (by omega)
  have hw : wrap64 ((sets.length : Int) - 1) = (m : Int) := by rw [wrap64_id (by omega) (by omega)]; omega
  have hn := patsFrom_len sets c6 0
  have hn' := patsFrom_len _ hsm 0
  have hjl : (jobsS size reels reels (patsFrom 0 (sets.set m (rd sets (m : Int) - 1)))).length = (patsFrom 0 (sets.set m (rd sets (m : Int) - 1))).length := jobsS_len ..
  have hjob : jobsR reels size np.length (sets.set m (rd sets (m : Int) - 1)) = (jobsS size reels reels (patsFrom 0 (sets.set m (rd sets (m : Int) - 1))), 0) := by
    unfold jobsR
    rw [c4]
    simp only [if_true, List.length_set]
    rw [if_pos c5, if_pos hsm, if_neg (by omega), if_neg (by omega)]
  have hwl : wrap64 ((((jobsS size reels reels (patsFrom 0 sets)).length : Nat) : Int) - 1) = ((patsFrom 0 (sets.set m (rd sets (m : Int) - 1))).length : Int) := by
    rw [jobsS_len, wrap64_id (by omega) (by omega)]
    omega
  have htake : (jobsS size reels reels (patsFrom 0 sets)).take (patsFrom 0 (sets.set m (rd sets (m : Int) - 1))).length = jobsS size reels reels (patsFrom 0 (sets.set m (rd sets (m : Int) - 1))) := by
    rw [hpt, jobsS_append, ← hjl, List.take_left]
  simp only [papermilllaw50_WinderMore.j4, List.nil_append, Option.bind_some, List.length_nil, Nat.zero_add]
  rw [if_neg (by decide), if_pos (by omega), hw, if_pos (by omega), if_pos (by omega), wrap64_id (n := rd sets (m : Int) - 1) (by omega) (by omega), Int.toNat_natCast, wjobs reels size np _ 0 hL (by simpa using hm) k (by omega), hjob]
  simp only [Option.bind_some, if_true]
  rw [if_pos (by rw [jobsS_len]; exact hn), hwl, show mx 0 ((patsFrom 0 (sets.set m (rd sets (m : Int) - 1))).length : Int) = ((patsFrom 0 (sets.set m (rd sets (m : Int) - 1))).length : Int) by unfold mx; omega, if_pos (by omega), if_pos (by rw [jobsS_len]; omega), Int.toNat_natCast, htake, same43 _ (by omega) k (by omega)]
  simp only [Option.bind_some, if_true]
  rw [awake_true k (by omega)]
  rfl
end Go.Proofs.Ythdbnoeaiafniaa.Wind
