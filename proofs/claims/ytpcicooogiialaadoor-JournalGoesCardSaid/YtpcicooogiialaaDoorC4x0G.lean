/- Frames, one behind the other; frames cut off; frames with a changed byte. -/
import Derived.Test.YtpcicooogiialaaDoorC3x0G
namespace Go.Proofs.YtpcicooogiialaaDoor.Crc
open Go.RowKit Go.Proofs.YtpcicooogiialaaDoor.PG Go.Proofs.YtpcicooogiialaaDoor.Wire Go.Proofs.YtpcicooogiialaaDoorW.PrintWords Go.Proofs.YtpcicooogiialaaDoorW.PrintLast Go.Proofs.YtpcicooogiialaaDoorW.PrintMore
set_option linter.unusedVariables false

theorem tk_cut (f : Nat) : ∀ (i : Nat) (acc c : Int) (j : Nat), j < (encU f c).length → tk (f + 1) i acc ((encU f c).take j) = (0, 0, 4) := by
  induction f with
  | zero =>
    intro i acc c j h
    obtain rfl : j = 0 := by simp [encU] at h; omega
    rfl
  | succ f ih =>
    intro i acc c j h
    cases j with
    | zero => rfl
    | succ j =>
      simp only [encU] at h ⊢
      by_cases hc : c ≥ 128
      · rw [if_pos hc] at h ⊢
        simp only [List.take_succ_cons, tk]
        rw [if_neg (by omega), if_pos (by omega)]
        exact ih (i + 1) _ (c / 128) j (by simpa using h)
      · rw [if_neg hc] at h
        simp at h
theorem enc_cut (n : Int) (j : Nat) (h : j < (enc n).length) : tkI ((enc n).take j) = (0, 0, 4) := tk_cut 9 0 0 _ j h
theorem frameS_len (l : List Int) : (frameS l).length = (enc l.length).length + l.length + 4 := by unfold frameS; simp only [List.length_append, fourS_len]
theorem fourS_bytes (s : Nat) : Bytes (fourS s) := by
  intro x hx
  unfold fourS at hx
  simp only [List.mem_cons, List.not_mem_nil, or_false] at hx
  omega
theorem frameS_bytes (l : List Int) (hl : Bytes l) (hn : l.length ≤ 1000000) : Bytes (frameS l) := ((enc_bytes _ (inI_nat _ (by omega))).append hl).append (fourS_bytes _)
theorem cont_at (A B R : List Int) (m n : Nat) (hm : A.length = m) (hn : B.length = n) : cont (A ++ B ++ R) m n = B := by
  unfold cont
  subst hm; subst hn
  rw [List.take_left' (by simp), List.drop_left' rfl]
theorem tail4_at (A B F R : List Int) (m n : Nat) (hm : A.length = m) (hn : B.length = n) (hf : F.length = 4) : tail4 (A ++ B ++ F ++ R) m n = F := by
  unfold tail4
  subst hm; subst hn
  rw [List.take_left' (by simp only [List.length_append, hf]), List.drop_left' (by simp)]
/-- What stands behind a beginning that is a length of n bytes. -/
theorem open_at (n : Nat) (hn : n ≤ 65536) (b R : List Int) (hb : b = enc (n : Int) ++ R) :
    openS b = if R.length < n + 4 then ([], 0, 4) else if tail4 b (enc (n : Int)).length n = fourS (sumN (cont b (enc (n : Int)).length n)) then (cont b (enc (n : Int)).length n, ((enc (n : Int)).length : Int) + (n : Int) + 4, 0) else ([], 0, 15) := by
  have ht : tkI b = ((n : Int), ((enc (n : Int)).length : Int), 0) := by rw [hb]; exact enc_taken _ (inI_nat _ (by omega)) R
  have hl : b.length = (enc (n : Int)).length + R.length := by rw [hb, List.length_append]
  unfold openS
  rw [ht]
  simp only [if_true, Int.toNat_natCast]
  rw [if_neg (by omega), if_neg (by omega)]
  by_cases h : R.length < n + 4
  · rw [if_pos (by omega), if_pos h]
  · rw [if_neg (by omega), if_neg h]
theorem open_frame (l rest : List Int) (hn : l.length ≤ 65536) : openS (frameS l ++ rest) = (l, ((frameS l).length : Int), 0) := by
  have hb : frameS l ++ rest = enc (l.length : Int) ++ (l ++ fourS (sumN l) ++ rest) := by unfold frameS; simp only [List.append_assoc]
  rw [open_at l.length hn _ _ hb, if_neg (by simp only [List.length_append, fourS_len]; omega)]
  have e1 : cont (frameS l ++ rest) (enc (l.length : Int)).length l.length = l := by
    rw [show frameS l ++ rest = enc (l.length : Int) ++ l ++ (fourS (sumN l) ++ rest) by unfold frameS; simp only [List.append_assoc]]
    exact cont_at _ _ _ _ _ rfl rfl
  have e2 : tail4 (frameS l ++ rest) (enc (l.length : Int)).length l.length = fourS (sumN l) := by
    rw [show frameS l ++ rest = enc (l.length : Int) ++ l ++ fourS (sumN l) ++ rest by unfold frameS; rfl]
    exact tail4_at _ _ _ _ _ _ rfl rfl rfl
  rw [e1, e2, if_pos rfl, frameS_len]
  push_cast
  rfl
theorem open_cut (l : List Int) (hn : l.length ≤ 65536) (i : Nat) (hi : i < (frameS l).length) : openS ((frameS l).take i) = ([], 0, 4) := by
  have hlen := frameS_len l
  by_cases h : i < (enc (l.length : Int)).length
  · have e : (frameS l).take i = (enc (l.length : Int)).take i := by
      unfold frameS
      rw [List.append_assoc, List.take_append_of_le_length (by omega)]
    rw [e]
    unfold openS
    rw [enc_cut _ i h]
    rfl
  · have e : (frameS l).take i = enc (l.length : Int) ++ (l ++ fourS (sumN l)).take (i - (enc (l.length : Int)).length) := by
      unfold frameS
      rw [List.append_assoc, List.take_append, List.take_of_length_le (by omega)]
    rw [open_at l.length hn _ _ e, if_pos (by rw [List.length_take, List.length_append, fourS_len]; omega)]
theorem open_once (b : List Int) (hb : Bytes b) (h : (openS b).2.2 = 0) : ∃ n : Nat, (openS b).2.1 = (n : Int) ∧ n ≤ b.length ∧ (openS b).1.length ≤ 65536 ∧ b.take n = frameS (openS b).1 := by
  rcases tkI_cases b hb with ⟨e, he, h0⟩ | ⟨x, m, h0, hx, h1, h2, h3⟩
  · unfold openS at h
    rw [h0] at h
    simp only [if_neg he] at h
    exact absurd h he
  · have h' := h
    unfold openS at h'
    rw [h0] at h'
    simp only [if_true] at h'
    by_cases hx0 : x < 0
    · rw [if_pos hx0] at h'; simp at h'
    · rw [if_neg hx0] at h'
      by_cases hx1 : x > 65536
      · rw [if_pos hx1] at h'; simp at h'
      · obtain ⟨n, rfl⟩ : ∃ n : Nat, x = (n : Int) := ⟨x.toNat, by omega⟩
        have hml : m = (enc (n : Int)).length := by rw [← h3, List.length_take]; omega
        have hbb : b = enc (n : Int) ++ b.drop m := by rw [← h3, List.take_append_drop]
        have ho := open_at n (by omega) b _ hbb
        have hdl : (b.drop m).length = b.length - m := List.length_drop
        rw [ho] at h ⊢
        by_cases hs : (b.drop m).length < n + 4
        · rw [if_pos hs] at h; simp at h
        · rw [if_neg hs] at h ⊢
          split at h
          · rename_i hq
            rw [if_pos hq, ← hml]
            rw [← hml] at hq
            have hcl : (cont b m n).length = n := by unfold cont; rw [List.length_drop, List.length_take]; omega
            refine ⟨m + n + 4, by push_cast; rfl, by omega, by rw [hcl]; omega, ?_⟩
            unfold frameS
            rw [hcl, ← h3, ← hq]
            unfold cont tail4
            have e1 : b.take (m + n) = b.take m ++ (b.take (m + n)).drop m := by
              have := List.take_append_drop m (b.take (m + n))
              rw [List.take_take, Nat.min_eq_left (by omega)] at this
              exact this.symm
            have e2 : b.take (m + n + 4) = b.take (m + n) ++ (b.take (m + n + 4)).drop (m + n) := by
              have := List.take_append_drop (m + n) (b.take (m + n + 4))
              rw [List.take_take, Nat.min_eq_left (by omega)] at this
              exact this.symm
            rw [← e1, ← e2]
          · simp at h
/-! ### One byte changed -/
theorem xor_left_inj (r a b : Nat) (h : r ^^^ a = r ^^^ b) : a = b := by
  have := congrArg (fun z => r ^^^ z) h
  simpa [← Nat.xor_assoc] using this
theorem sum_byte (p q : List Nat) (a b s : Nat) (hs : s < 4294967296) (hp : NB p) (hq : NB q) (ha : a < 256) (hb : b < 256) (h : extN s (p ++ a :: q) = extN s (p ++ b :: q)) : a = b := by
  unfold extN at h
  have h1 := xor_left_inj _ _ _ h
  rw [runN_append, runN_append] at h1
  have hr := runN_lt p (FF ^^^ s) (xor_lt _ _ (by decide) hs) hp
  have h2 : byN (runN (FF ^^^ s) p) a = byN (runN (FF ^^^ s) p) b := runN_inj q hq _ _ (byN_lt _ _ hr ha) (byN_lt _ _ hr hb) h1
  exact xor_left_inj _ _ _ (stN_inj 8 _ _ (xor_lt _ _ hr (by omega)) (xor_lt _ _ hr (by omega)) h2)
theorem set_split (l : List Int) (i : Nat) (h : i < l.length) (v : Int) : l = l.take i ++ rd l (i : Int) :: l.drop (i + 1) ∧ l.set i v = l.take i ++ v :: l.drop (i + 1) := by
  have h1 := rd_cons l i h
  refine ⟨?_, ?_⟩
  · rw [← h1, List.take_append_drop]
  · exact List.set_eq_take_append_cons_drop.trans (if_pos h)
theorem fourS_inj (s t : Nat) (hs : s < 4294967296) (ht : t < 4294967296) (h : fourS s = fourS t) : s = t := by
  unfold fourS at h
  simp only [List.cons.injEq, and_true] at h
  omega
theorem set_bytes {l : List Int} (hl : Bytes l) (i : Nat) (v : Int) (hv : 0 ≤ v ∧ v < 256) : Bytes (l.set i v) := by
  intro x hx
  rcases List.mem_or_eq_of_mem_set hx with hx | rfl
  · exact hl x hx
  · exact hv
theorem rd_right (A B : List Int) (i : Nat) (h : A.length ≤ i) : rd (A ++ B) (i : Int) = rd B ((i - A.length : Nat) : Int) := by
  simp [rd, List.getElem?_append_right h]
theorem rd_left (A B : List Int) (i : Nat) (h : i < A.length) : rd (A ++ B) (i : Int) = rd A (i : Int) := by
  simp [rd, List.getElem?_append_left h]
theorem rd_set_same (l : List Int) (i : Nat) (v : Int) (h : i < l.length) : rd (l.set i v) (i : Int) = v := by
  simp [rd, h]
end Go.Proofs.YtpcicooogiialaaDoor.Crc
