/- TakeInt of the program and of the reference come to the same, the integer at the beginning of any bytes. -/
import Derived.Test.YtpcicooogiialaaDoorWSpec0G
import Derived.Test.YtpcicooogiialaaDoorPGx4
namespace Go.Proofs.YtpcicooogiialaaDoor.Wire
open Go.RowKit Go.Proofs.YtpcicooogiialaaDoor.PG Go.Proofs.YtpcicooogiialaaDoorW.PrintWords Go.Proofs.YtpcicooogiialaaDoorW.PrintLast Go.Proofs.YtpcicooogiialaaDoorW.PrintMore
set_option linter.unusedVariables false

theorem rd_cons (b : List Int) (i : Nat) (h : i < b.length) : b.drop i = rd b (i : Int) :: b.drop (i + 1) := by
  rw [List.drop_eq_getElem_cons h]
  simp [rd, List.getElem?_eq_getElem h]
theorem rd_byte {b : List Int} (hb : Bytes b) (i : Nat) (h : i < b.length) : 0 ≤ rd b (i : Int) ∧ rd b (i : Int) < 256 := by
  have : rd b (i : Int) = b[i] := by simp [rd, List.getElem?_eq_getElem h]
  rw [this]
  exact hb _ (List.getElem_mem h)
theorem wrap64_id {n : Int} (h0 : -9223372036854775808 ≤ n) (h1 : n < 9223372036854775808) : wrap64 n = n := by unfold wrap64; omega
theorem and1 (x : Int) (h0 : 0 ≤ x) (h1 : x < 18446744073709551616) : Go.bits .and .u64 x 1 = x % 2 := by
  rw [u64_and _ _ h0 h1 (by decide) (by decide)]
  have := nat_mask1 x.toNat
  rw [show (1 : Int).toNat = 1 from rfl, this]
  omega

theorem wire_j2 (k : Nat) (u : Int) (i : Nat) (hi : i < 10) (h0 : 0 ≤ u) (h1 : u < 18446744073709551616) (c : Int) (fl : Bool) (hf : fl = decide (c = 0 ∧ 0 < i)) :
    wire_TakeInt.j2 (k + 1) u (i : Int) fl = some (if c = 0 ∧ 0 < i then (0, 0, 3) else (dec u, (i : Int) + 1, 0)) := by
  subst hf
  simp only [wire_TakeInt.j2]
  by_cases hc : c = 0 ∧ 0 < i
  · rw [if_pos (decide_eq_true hc), if_pos hc]
  · rw [if_neg (by simpa using hc), if_neg hc, and1 _ h0 h1]
    unfold dec
    have e1 : wrap64 (u / 2) = u / 2 := wrap64_id (by omega) (by omega)
    have e2 : wrap64 ((i : Int) + 1) = (i : Int) + 1 := wrap64_id (by omega) (by omega)
    have e3 : wrap64 (-(u / 2)) = -(u / 2) := wrap64_id (by omega) (by omega)
    have e4 : wrap64 (-(u / 2) - 1) = -(u / 2) - 1 := wrap64_id (by omega) (by omega)
    rw [e1, e2, e3, e4]
    split <;> rfl

theorem wire_take (b : List Int) (hb : Bytes b) : ∀ (f i : Nat) (acc : Int) (k : Nat), f + i = 10 → i ≤ b.length → 0 ≤ acc → acc < 2 ^ (7 * i) → 3 * f + 3 ≤ k →
    wire_TakeInt.l0 k b acc (i : Int) = some (tk f i acc (b.drop i)) := by
  intro f
  induction f with
  | zero =>
    intro i acc k hf hi h0 h1 hk
    obtain ⟨k, rfl⟩ : ∃ m, k = m + 1 := ⟨k - 1, by omega⟩
    simp only [wire_TakeInt.l0]
    rw [if_neg (by omega)]
    rfl
  | succ f ih =>
    intro i acc k hf hi h0 h1 hk
    obtain ⟨k, rfl⟩ : ∃ m, k = m + 3 := ⟨k - 3, by omega⟩
    simp only [wire_TakeInt.l0]
    rw [if_pos (by omega)]
    by_cases hlen : b.length ≤ i
    · rw [if_pos (by omega), List.drop_eq_nil_of_le hlen]
      rfl
    · rw [if_neg (by omega), if_pos (by omega), if_pos (by omega)]
      have hlt : i < b.length := by omega
      rw [rd_cons b i hlt]
      obtain ⟨hc0, hc1⟩ := rd_byte hb i hlt
      generalize rd b (i : Int) = c at hc0 hc1 ⊢
      have key : wire_TakeInt.j1 (k + 2) b acc (i : Int) c (i : Int) (decide (f = 0 ∧ c > 1)) = some (tk (f + 1) i acc (c :: b.drop (i + 1))) := by
        simp only [wire_TakeInt.j1, tk]
        by_cases h9 : f = 0 ∧ c > 1
        · rw [if_pos (decide_eq_true h9), if_pos h9]
        · rw [if_neg (by simpa using h9), if_neg h9]
          have e2 : wrap64 (7 * (i : Int)) = 7 * (i : Int) := wrap64_id (by omega) (by omega)
          rw [if_pos (show 0 ≤ wrap64 (7 * (i : Int)) by rw [e2]; omega)]
          obtain ⟨q1, q2, q3, q4⟩ := or_step acc c i (by omega) h0 h1 hc0 hc1 (by omega)
          rw [q1]
          by_cases hc : c ≥ 128
          · rw [if_pos hc, if_pos hc, show wrap64 ((i : Int) + 1) = ((i + 1 : Nat) : Int) by rw [wrap64_id (by omega) (by omega)]; omega]
            exact ih (i + 1) _ (k + 1) (by omega) (by omega) (by omega) q2 (by omega)
          · rw [if_neg hc, if_neg hc]
            by_cases hz : c = 0
            · rw [if_pos hz]
              rw [wire_j2 k _ i (by omega) (by omega) q4 c _ (by rw [hz]; simp)]
            · rw [if_neg hz]
              rw [wire_j2 k _ i (by omega) (by omega) q4 c _ (by simp [hz])]
      by_cases hi9 : (i : Int) = 9
      · rw [if_pos hi9]
        rw [show decide (c > 1) = decide (f = 0 ∧ c > 1) by have h_ : f = 0 := (by omega); simp [h_]]
        exact key
      · rw [if_neg hi9]
        rw [show (false : Bool) = decide (f = 0 ∧ c > 1) by have h_ : f ≠ 0 := (by omega); simp [h_]]
        exact key

theorem wire_tk (b : List Int) (hb : Bytes b) (k : Nat) (hk : 40 ≤ k) : wire_TakeInt.f k b = some (tkI b) := by
  have := wire_take b hb 10 0 0 k rfl (Nat.zero_le _) (by omega) (by decide) (by omega)
  rw [List.drop_zero] at this
  exact this
/-! ### One encoding -/
theorem tk_enc (rest : List Int) : ∀ (f i : Nat) (acc c : Int), f + i = 9 → 0 ≤ c → Fit f c → c < 2 ^ (64 - 7 * i) → (0 < i → 0 < c) → tk (f + 1) i acc (encU f c ++ rest) = (dec (acc + c * 2 ^ (7 * i)), (i : Int) + (encU f c).length, 0) := by
  intro f
  induction f with
  | zero =>
    intro i acc c hf h0 hF hb hp
    obtain rfl : i = 9 := by omega
    have hc1 : c ≤ 1 := by
      have : (2 : Int) ^ (64 - 7 * 9) = 2 := by decide
      omega
    simp only [encU, tk, List.cons_append, List.nil_append]
    rw [if_neg (by omega), if_neg (by omega), if_neg (by omega), show c % 128 = c by omega]
    simp
  | succ f ih =>
    intro i acc c hf h0 hF hb hp
    simp only [encU]
    by_cases hc : c ≥ 128
    · rw [if_pos hc]
      simp only [tk, List.cons_append]
      rw [if_neg (by omega), if_pos (by omega), ih (i + 1) _ (c / 128) (by omega) (by omega) hF ?_ (fun _ => by omega)]
      · have e : acc + (c % 128 + 128) % 128 * 2 ^ (7 * i) + c / 128 * 2 ^ (7 * (i + 1)) = acc + c * 2 ^ (7 * i) := by
          rw [show 7 * (i + 1) = 7 * i + 7 by omega, Int.pow_add, show (2 : Int) ^ 7 = 128 from rfl, show (c % 128 + 128) % 128 = c % 128 by omega]
          have : c = c % 128 + 128 * (c / 128) := by omega
          conv => rhs; rw [this]
          rw [Int.add_mul, Int.add_assoc]
          congr 2
          rw [Int.mul_comm (2 ^ (7 * i)) 128, ← Int.mul_assoc, Int.mul_comm (c / 128) 128]
        rw [e]
        simp
        omega
      · have : (2 : Int) ^ (64 - 7 * i) = 2 ^ (64 - 7 * (i + 1)) * 128 := by
          rw [show 64 - 7 * i = 64 - 7 * (i + 1) + 7 by omega, Int.pow_add]
          rfl
        omega
    · rw [if_neg hc]
      simp only [tk, List.cons_append, List.nil_append]
      rw [if_neg (by omega), if_neg (by omega), if_neg (by omega), show c % 128 = c by omega]
      simp
theorem tkI_enc (u : Int) (h0 : 0 ≤ u) (h1 : u < 18446744073709551616) (rest : List Int) : tkI (encU 9 u ++ rest) = (dec u, ((encU 9 u).length : Int), 0) := by
  have := tk_enc rest 9 0 0 u rfl h0 (by simp only [Fit]; omega) (by simpa using h1) (by omega)
  unfold tkI
  rw [this]
  simp
theorem encU_len (f : Nat) (c : Int) : 1 ≤ (encU f c).length ∧ (encU f c).length ≤ f + 1 := by
  induction f generalizing c with
  | zero => simp [encU]
  | succ f ih =>
    simp only [encU]
    split
    · have := ih (c / 128)
      simp
      omega
    · simp
theorem encU_bytes (f : Nat) (c : Int) (h0 : 0 ≤ c) (hF : Fit f c) : Bytes (encU f c) := by
  induction f generalizing c with
  | zero => 
    intro x hx
    simp only [encU, List.mem_singleton] at hx
    simp only [Fit] at hF
    omega
  | succ f ih =>
    simp only [encU]
    split
    · intro x hx
      rcases List.mem_cons.1 hx with rfl | hx
      · omega
      · exact ih _ (by omega) hF x hx
    · intro x hx
      rw [List.mem_singleton.1 hx]
      omega
/-- What is taken is what is put. -/
theorem tk_once : ∀ (f i : Nat) (acc : Int) (l : List Int) (x n : Int), f + i = 9 → Bytes l → tk (f + 1) i acc l = (x, n, 0) →
    ∃ (c : Int) (m : Nat), 0 ≤ c ∧ c < 2 ^ (64 - 7 * i) ∧ (0 < i → 0 < c) ∧ 1 ≤ m ∧ m ≤ l.length ∧ n = (i : Int) + m ∧ l.take m = encU f c ∧ x = dec (acc + c * 2 ^ (7 * i)) := by
  intro f
  induction f with
  | zero =>
    intro i acc l x n hf hb h
    obtain rfl : i = 9 := by omega
    cases l with
    | nil => simp [tk] at h
    | cons c t =>
      obtain ⟨b0, b1⟩ := hb c (by simp)
      simp only [tk, true_and] at h
      by_cases h1 : c > 1
      · rw [if_pos h1] at h; simp at h
      · rw [if_neg h1, if_neg (by omega)] at h
        by_cases h2 : c = 0 ∧ 0 < 9
        · rw [if_pos h2] at h; simp at h
        · rw [if_neg h2] at h
          simp only [Prod.mk.injEq] at h
          refine ⟨c, 1, b0, by have h_ : (2 : Int) ^ (64 - 7 * 9) = 2 := (by decide); omega, fun _ => by omega, Nat.le_refl _, by simp, by omega, by simp [encU], ?_⟩
          rw [← h.1, show c % 128 = c by omega]
  | succ f ih =>
    intro i acc l x n hf hb h
    cases l with
    | nil => simp [tk] at h
    | cons c t =>
      obtain ⟨b0, b1⟩ := hb c (by simp)
      rw [tk] at h
      rw [if_neg (by omega)] at h
      have hpw : (2 : Int) ^ (64 - 7 * i) = 2 ^ (64 - 7 * (i + 1)) * 128 := by
        rw [show 64 - 7 * i = 64 - 7 * (i + 1) + 7 by omega, Int.pow_add]
        rfl
      have hpos : (0 : Int) < 2 ^ (64 - 7 * (i + 1)) := Int.pow_pos (by decide)
      by_cases hc : c ≥ 128
      · rw [if_pos hc] at h
        obtain ⟨c', m, h1, h2, h3, h4, h5, h6, h7, h8⟩ := ih (i + 1) _ t x n (by omega) (fun y hy => hb y (List.mem_cons_of_mem _ hy)) h
        have hc' := h3 (by omega)
        refine ⟨c' * 128 + c % 128, m + 1, by omega, by omega, fun _ => by omega, by omega, by simp; omega, by omega, ?_, ?_⟩
        · simp only [encU, List.take_succ_cons]
          rw [if_pos (by omega), h7, show (c' * 128 + c % 128) / 128 = c' by omega, show (c' * 128 + c % 128) % 128 + 128 = c by omega]
        · rw [h8, show 7 * (i + 1) = 7 * i + 7 by omega, Int.pow_add, show (2 : Int) ^ 7 = 128 from rfl, Int.add_mul]
          congr 1
          rw [Int.add_assoc]
          congr 1
          rw [Int.add_comm]
          congr 1
          rw [Int.mul_assoc, Int.mul_comm 128]
      · rw [if_neg hc] at h
        by_cases h2 : c = 0 ∧ 0 < i
        · rw [if_pos h2] at h; simp at h
        · rw [if_neg h2] at h
          simp only [Prod.mk.injEq] at h
          refine ⟨c, 1, b0, by omega, fun _ => by omega, Nat.le_refl _, by simp, by omega, ?_, ?_⟩
          · simp only [encU, List.take_succ_cons, List.take_zero]
            rw [if_neg (by omega)]
          · rw [← h.1, show c % 128 = c by omega]
theorem tkI_once (l : List Int) (hb : Bytes l) (x n : Int) (h : tkI l = (x, n, 0)) : ∃ m : Nat, InI x ∧ 1 ≤ m ∧ m ≤ l.length ∧ n = (m : Int) ∧ l.take m = encU 9 (codeOf x) := by
  obtain ⟨c, m, h1, h2, _, h4, h5, h6, h7, h8⟩ := tk_once 9 0 0 l x n rfl hb h
  have h2' : c < 18446744073709551616 := by simpa using h2
  have h8' : x = dec c := by simpa using h8
  refine ⟨m, by rw [h8']; exact dec_range c h1 h2', h4, h5, by simpa using h6, ?_⟩
  rw [h7, h8', code_dec c h1]
/-- Where nothing is taken nothing is given. -/
theorem tk_err : ∀ (f i : Nat) (acc : Int) (l : List Int), (tk f i acc l).2.2 ≠ 0 → tk f i acc l = (0, 0, (tk f i acc l).2.2) := by
  intro f
  induction f with
  | zero => intro i acc l h; rfl
  | succ f ih =>
    intro i acc l h
    cases l with
    | nil => rfl
    | cons c t =>
      simp only [tk] at h ⊢
      split at h <;> rename_i h1
      · rw [if_pos h1]
      · rw [if_neg h1]
        split at h <;> rename_i h2
        · rw [if_pos h2]
          exact ih _ _ _ h
        · rw [if_neg h2]
          split at h <;> rename_i h3
          · rw [if_pos h3]
          · simp at h
end Go.Proofs.YtpcicooogiialaaDoor.Wire
