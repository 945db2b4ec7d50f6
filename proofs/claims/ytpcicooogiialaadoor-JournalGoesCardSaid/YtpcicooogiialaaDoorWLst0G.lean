/- PutInt, PutText, PutList, TakeText and TakeList of the program and of the reference, over lists of numbers. -/
import Derived.Test.YtpcicooogiialaaDoorWPut0G
import Derived.Test.YtpcicooogiialaaDoorWTakeRG
import Derived.Test.YtpcicooogiialaaDoorPGx4
import Derived.Test.YtpcicooogiialaaDoorPGx10
namespace Go.Proofs.YtpcicooogiialaaDoor.Wire
open Go.RowKit Go.Proofs.YtpcicooogiialaaDoor.PG Go.Proofs.YtpcicooogiialaaDoorW.PrintWords Go.Proofs.YtpcicooogiialaaDoorW.PrintLast Go.Proofs.YtpcicooogiialaaDoorW.PrintMore
set_option linter.unusedVariables false

theorem lengths (b : List Int) (hb : Bytes b) (most : Int) (k : Nat) (hk : 40 ≤ k) : ∃ r, wire_length.f k b most = some r ∧ papermillref08_length.f k b most = some r ∧
    ((∃ e, e ≠ 0 ∧ r = (0, 0, e)) ∨ ∃ (x : Int) (m : Nat), tkI b = (x, (m : Int), 0) ∧ r = (x, (m : Int), 0) ∧ 0 ≤ x ∧ x ≤ most ∧ InI x ∧ 1 ≤ m ∧ m ≤ b.length ∧ b.take m = enc x) := by
  unfold wire_length.f papermillref08_length.f
  rw [wire_tk b hb k hk, ref_tk b hb k hk]
  simp only [Option.bind_some]
  rcases tkI_cases b hb with ⟨e, h0, he⟩ | ⟨x, m, he, h1, h2, h3, h4⟩
  · rw [he]
    simp only
    rw [if_neg h0]
    exact ⟨_, rfl, rfl, .inl ⟨e, h0, rfl⟩⟩
  · rw [he]
    simp only [if_true]
    by_cases hx : x < 0
    · rw [if_pos hx]
      exact ⟨_, rfl, rfl, .inl ⟨3, by decide, rfl⟩⟩
    · rw [if_neg hx]
      by_cases hm : x > most
      · rw [if_pos hm]
        exact ⟨_, rfl, rfl, .inl ⟨8, by decide, rfl⟩⟩
      · rw [if_neg hm]
        exact ⟨_, rfl, rfl, .inr ⟨x, m, rfl, rfl, by omega, by omega, h1, h2, h3, h4⟩⟩
theorem lists_l (b : List Int) (hb : Bytes b) (hl : b.length ≤ 1000000) (n : Int) (d : Nat) : ∀ (k at_ : Nat) (acc : List Int), b.length - at_ = d → at_ ≤ b.length → acc.length ≤ at_ → (acc.length : Int) ≤ n → d + 60 ≤ k →
    ∃ r, wire_TakeList.l0 k b n (at_ : Int) acc = some r ∧ papermillref08_TakeList.l0 k b n (at_ : Int) acc (acc.length : Int) = some r ∧
      ((∃ e, e ≠ 0 ∧ r = ([], 0, e)) ∨ ∃ (ys : List Int) (m : Nat), r = (acc ++ ys, ((at_ + m : Nat) : Int), 0) ∧ ((acc ++ ys).length : Int) = n ∧ at_ + m ≤ b.length ∧ (b.drop at_).take m = encL ys ∧ ∀ y ∈ ys, InI y) := by
  induction d using Nat.strongRecOn with
  | _ d ih =>
    intro k at_ acc hd ha hc hn hk
    obtain ⟨k, rfl⟩ : ∃ m, k = m + 1 := ⟨k - 1, by omega⟩
    simp only [wire_TakeList.l0, papermillref08_TakeList.l0]
    by_cases hlt : (acc.length : Int) < n
    · rw [if_pos hlt, if_pos hlt, if_pos (by omega), if_pos (by omega), if_pos (by omega), if_pos (by omega), show (at_ : Int).toNat = at_ by omega, wire_tk _ (hb.drop _) k (by omega), ref_tk _ (hb.drop _) k (by omega)]
      simp only [Option.bind_some]
      rcases tkI_cases (b.drop at_) (hb.drop _) with ⟨e, h0, he⟩ | ⟨x, m, he, h1, h2, h3, h4⟩
      · rw [he]
        simp only
        rw [if_neg h0, if_neg h0]
        exact ⟨_, rfl, rfl, .inl ⟨e, h0, rfl⟩⟩
      · rw [he]
        rw [List.length_drop] at h3
        simp only [if_true]
        rw [if_pos (by omega), if_pos (by omega), show wrap64 ((at_ : Int) + (m : Int)) = ((at_ + m : Nat) : Int) by rw [wrap64_id (by omega) (by omega)]; omega, show wrap64 ((acc.length : Int) + 1) = ((acc ++ [x]).length : Int) by rw [wrap64_id (by omega) (by omega)]; simp]
        obtain ⟨r, h5, h6, h7⟩ := ih (b.length - (at_ + m)) (by omega) k (at_ + m) (acc ++ [x]) rfl (by omega) (by simp; omega) (by simp; omega) (by omega)
        refine ⟨r, h5, h6, ?_⟩
        rcases h7 with h7 | ⟨ys, m', h8, h9, h10, h11, h12⟩
        · exact .inl h7
        · refine .inr ⟨x :: ys, m + m', by rw [h8, List.append_assoc, List.singleton_append, Nat.add_assoc], by rw [← h9]; simp, by omega, ?_, ?_⟩
          · rw [encL_cons, List.take_add, h4, List.drop_drop, h11]
          · intro y hy
            rcases List.mem_cons.1 hy with rfl | hy
            · exact h1
            · exact h12 y hy
    · rw [if_neg hlt, if_neg hlt]
      exact ⟨_, rfl, rfl, .inr ⟨[], 0, by simp, by simp; omega, by omega, by simp [encL], by simp⟩⟩
theorem lists (b : List Int) (hb : Bytes b) (hl : b.length ≤ 1000000) (most : Int) (k : Nat) (hk : b.length + 60 ≤ k) : ∃ r, wire_TakeList.f k b most = some r ∧ papermillref08_TakeList.f k b most = some r ∧
    ((∃ e, e ≠ 0 ∧ r = ([], 0, e)) ∨ ∃ (ys : List Int) (m : Nat), r = (ys, (m : Int), 0) ∧ (ys.length : Int) ≤ most ∧ 1 ≤ m ∧ m ≤ b.length ∧ b.take m = enc ys.length ++ encL ys ∧ ∀ y ∈ ys, InI y) := by
  obtain ⟨r, h1, h2, h3⟩ := lengths b hb most k (by omega)
  unfold wire_TakeList.f papermillref08_TakeList.f
  rw [h1, h2]
  simp only [Option.bind_some]
  rcases h3 with ⟨e, h0, rfl⟩ | ⟨x, m, he, rfl, h4, h5, h6, h7, h8, h9⟩
  · simp only
    rw [if_neg h0, if_neg h0]
    exact ⟨_, rfl, rfl, .inl ⟨e, h0, rfl⟩⟩
  · simp only [if_true]
    obtain ⟨r, h10, h11, h12⟩ := lists_l b hb hl x _ k m [] rfl h8 (by simp) (by simpa using h4) (by omega)
    refine ⟨r, h10, by simpa using h11, ?_⟩
    rcases h12 with h12 | ⟨ys, m', h13, h14, h15, h16, h17⟩
    · exact .inl h12
    · rw [List.nil_append] at h13 h14
      refine .inr ⟨ys, m + m', h13, by omega, by omega, h15, ?_, h17⟩
      rw [List.take_add, h9, h16, h14]
theorem list_taken_l (b : List Int) (hb : Bytes b) (hl : b.length ≤ 100000) (n : Nat) (hn1 : n ≤ 1000) (l : List Int) : ∀ (hi : ∀ x ∈ l, InI x) (rest : List Int) (k at_ : Nat) (acc : List Int), at_ + (encL l ++ rest).length = b.length → b.drop at_ = encL l ++ rest → acc.length + l.length = n → l.length + 60 ≤ k →
    wire_TakeList.l0 k b (n : Int) (at_ : Int) acc = some (acc ++ l, ((at_ + (encL l).length : Nat) : Int), 0) := by
  induction l with
  | nil =>
    intro hi rest k at_ acc ha hd hn hk
    obtain ⟨k, rfl⟩ : ∃ m, k = m + 1 := ⟨k - 1, by omega⟩
    simp only [wire_TakeList.l0]
    simp only [List.length_nil] at hn
    rw [if_neg (by omega)]
    simp [encL]
  | cons x l ih =>
    intro hi rest k at_ acc ha hd hn hk
    obtain ⟨k, rfl⟩ : ∃ m, k = m + 1 := ⟨k - 1, by omega⟩
    simp only [List.length_cons] at hn hk
    rw [encL_cons] at hd ha ⊢
    have e1 := enc_len x
    simp only [List.length_append] at ha
    simp only [wire_TakeList.l0]
    rw [if_pos (by omega), if_pos (by omega), if_pos (by omega), show (at_ : Int).toNat = at_ by omega, wire_tk _ (hb.drop _) k (by omega), hd, List.append_assoc, enc_taken x (hi x (by simp))]
    simp only [Option.bind_some, if_true]
    rw [if_pos (by omega), show wrap64 ((at_ : Int) + ((enc x).length : Int)) = ((at_ + (enc x).length : Nat) : Int) by rw [wrap64_id (by omega) (by omega)]; omega]
    rw [ih (fun y hy => hi y (List.mem_cons_of_mem _ hy)) rest k (at_ + (enc x).length) (acc ++ [x]) (by rw [List.length_append]; omega) ?_ (by simp; omega) (by omega)]
    · rw [List.append_assoc, List.singleton_append, List.length_append, Nat.add_assoc]
    · rw [← List.drop_drop, hd, List.append_assoc, List.drop_left' rfl]
theorem list_taken (l : List Int) (hi : ∀ x ∈ l, InI x) (rest : List Int) (hr : Bytes rest) (hl : l.length ≤ 1000) (hlr : rest.length ≤ 1000) (k : Nat) (hk : l.length + 60 ≤ k) :
    wire_TakeList.f k (enc l.length ++ encL l ++ rest) (l.length : Int) = some (l, ((enc l.length ++ encL l).length : Int), 0) := by
  have e1 := enc_len l.length
  have e2 := encL_len l
  have hb : Bytes (enc l.length ++ encL l ++ rest) := ((enc_bytes _ (inI_nat _ (by omega))).append (encL_bytes l hi)).append hr
  have ht : tkI (enc l.length ++ encL l ++ rest) = ((l.length : Int), ((enc l.length).length : Int), 0) := by
    rw [List.append_assoc, enc_taken _ (inI_nat _ (by omega))]
  unfold wire_TakeList.f wire_length.f
  rw [wire_tk _ hb k (by omega), ht]
  simp only [Option.bind_some, if_true]
  rw [if_neg (by omega), if_neg (by omega)]
  simp only [Option.bind_some, if_true]
  rw [list_taken_l _ hb (by simp only [List.length_append]; omega) l.length hl l hi rest k _ [] (by simp only [List.length_append]; omega) (by rw [List.append_assoc, List.drop_left' rfl]) (by simp) hk]
  simp
end Go.Proofs.YtpcicooogiialaaDoor.Wire
