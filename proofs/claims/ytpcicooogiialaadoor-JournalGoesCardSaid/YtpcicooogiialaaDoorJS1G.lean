/- Get of the program, over lists of numbers, comes to one closed answer; Put and Get are inverse. Conditions: bytes from 0 to 255, lists of at most 1000000 numbers. -/
import Derived.Test.YtpcicooogiialaaDoorJP1G
import Derived.Test.YtpcicooogiialaaDoorWLst0G
import Derived.Test.YtpcicooogiialaaDoorPGx5
namespace Go.Proofs.YtpcicooogiialaaDoor.Jr
open Go.RowKit Go.Proofs.YtpcicooogiialaaDoor.PG Go.Proofs.YtpcicooogiialaaDoor.Wire Go.Proofs.YtpcicooogiialaaDoorW.PrintWords Go.Proofs.YtpcicooogiialaaDoorW.PrintLast Go.Proofs.YtpcicooogiialaaDoorW.PrintMore
set_option linter.unusedVariables false

/-! ### Get -/
abbrev Ev8 := Int × Int × Int × Int × Int × Int × List Int × Int
def tkL (b : List Int) : List Int × Int × Int := (wire_TakeList.f (b.length + 60) b 32).getD ([], 0, 4)
theorem tkL_eq (b : List Int) (hb : Bytes b) (hl : b.length ≤ 1000000) (k : Nat) (hk : b.length + 60 ≤ k) : wire_TakeList.f k b 32 = some (tkL b) ∧ papermillref08_TakeList.f k b 32 = some (tkL b) := by
  obtain ⟨r, h1, _, _⟩ := lists b hb hl 32 (b.length + 60) (by omega)
  obtain ⟨r', h1', h2', _⟩ := lists b hb hl 32 k hk
  have h3 := at_rounds (fun k => wire_TakeList.mono b 32 k) hk h1
  have e : tkL b = r := by unfold tkL; rw [h1]; rfl
  rw [h1'] at h3
  rw [e, h1', h2', Option.some.inj h3]
  exact ⟨rfl, rfl⟩
theorem tkL_cases (b : List Int) (hb : Bytes b) (hl : b.length ≤ 1000000) : (∃ e, e ≠ 0 ∧ tkL b = ([], 0, e)) ∨ ∃ (ys : List Int) (m : Nat), tkL b = (ys, (m : Int), 0) ∧ ys.length ≤ 32 ∧ 1 ≤ m ∧ m ≤ b.length ∧ b.take m = enc ys.length ++ encL ys ∧ ∀ y ∈ ys, InI y := by
  obtain ⟨r, h1, _, h3⟩ := lists b hb hl 32 (b.length + 60) (by omega)
  have e : tkL b = r := by unfold tkL; rw [h1]; rfl
  rw [e]
  rcases h3 with h3 | ⟨ys, m, h4, h5, h6, h7, h8, h9⟩
  · exact .inl h3
  · exact .inr ⟨ys, m, h4, by omega, h6, h7, h8, h9⟩
theorem tkL_taken (l : List Int) (hi : ∀ x ∈ l, InI x) (rest : List Int) (hr : Bytes rest) (hl : l.length ≤ 32) (hlr : rest.length ≤ 1000) : tkL (enc l.length ++ encL l ++ rest) = (l, ((enc l.length ++ encL l).length : Int), 0) := by
  have e1 := enc_len l.length
  have e2 := encL_len l
  have hb : Bytes (enc l.length ++ encL l ++ rest) := ((enc_bytes _ (inI_nat _ (by omega))).append (encL_bytes l hi)).append hr
  have ht : tkI (enc l.length ++ encL l ++ rest) = ((l.length : Int), ((enc l.length).length : Int), 0) := by
    rw [List.append_assoc, enc_taken _ (inI_nat _ (by omega))]
  have h := (tkL_eq _ hb (by simp only [List.length_append]; omega) _ (Nat.le_refl _)).1
  unfold wire_TakeList.f wire_length.f at h
  rw [wire_tk _ hb _ (by omega), ht] at h
  simp only [Option.bind_some, if_true] at h
  rw [if_neg (by omega), if_neg (by omega)] at h
  simp only [Option.bind_some, if_true] at h
  rw [list_taken_l _ hb (by simp only [List.length_append]; omega) l.length (by omega) l hi rest _ _ [] (by simp only [List.length_append]; omega) (by rw [List.append_assoc, List.drop_left' rfl]) (by simp) (by simp only [List.length_append]; have := encL_ge l; omega)] at h
  rw [← Option.some.inj h]
  simp
def getL : Nat → List Int → List Int → Ev8
  | 0, b, xs => if (tkL b).2.2 = 0 then (if (tkL b).2.1 < (b.length : Int) then (0, 0, 0, 0, 0, 0, [], 3) else if chk (rd xs 0) (rd xs 1) (rd xs 2) (rd xs 3) (rd xs 4) (rd xs 5) (tkL b).1 = 0 then (rd xs 0, rd xs 1, rd xs 2, rd xs 3, rd xs 4, rd xs 5, (tkL b).1, 0) else (0, 0, 0, 0, 0, 0, [], chk (rd xs 0) (rd xs 1) (rd xs 2) (rd xs 3) (rd xs 4) (rd xs 5) (tkL b).1)) else (0, 0, 0, 0, 0, 0, [], (tkL b).2.2)
  | m + 1, b, xs => if (tkI b).2.2 = 0 then getL m (b.drop (tkI b).2.1.toNat) (xs.set (5 - m) (tkI b).1) else (0, 0, 0, 0, 0, 0, [], (tkI b).2.2)
def getS (b : List Int) : Ev8 := getL 6 b [0, 0, 0, 0, 0, 0]
theorem tkL_len (b : List Int) (hb : Bytes b) (hl : b.length ≤ 1000000) : (tkL b).1.length ≤ 32 := by
  rcases tkL_cases b hb hl with ⟨e, _, h⟩ | ⟨ys, m, h, h1, _⟩ <;> rw [h]
  · simp
  · exact h1
theorem jget_l : ∀ (m : Nat) (b xs : List Int) (k : Nat), Bytes b → b.length ≤ 1000000 → b.length + 200 ≤ k → journal_Get.l0 k m b xs = some (getL m b xs) := by
  intro m
  induction m with
  | zero =>
    intro b xs k hb hl hk
    rw [journal_Get.l0, getL, (tkL_eq b hb hl k (by omega)).1]
    simp only [Option.bind_some]
    by_cases c : (tkL b).2.2 = 0
    · rw [if_pos c, if_pos c]
      by_cases c2 : (tkL b).2.1 < (b.length : Int)
      · rw [if_pos c2, if_pos c2]
      · rw [if_neg c2, if_neg c2, jchk_eq _ _ _ _ _ _ _ (by have := tkL_len b hb hl; omega) k (by have := tkL_len b hb hl; omega)]
        simp only [Option.bind_some]
        split <;> rfl
    · rw [if_neg c, if_neg c]
  | succ m ih =>
    intro b xs k hb hl hk
    rw [journal_Get.l0, getL, wire_tk b hb k (by omega)]
    simp only [Option.bind_some]
    by_cases c : (tkI b).2.2 = 0
    · rw [if_pos c, if_pos c]
      rcases tkI_cases b hb with ⟨e, h0, h⟩ | ⟨x, n, h, _, h1, h2, _⟩
      · rw [h] at c
        exact absurd c h0
      · rw [h]
        simp only
        rw [if_pos (by omega), ih _ _ k (hb.drop _) (by rw [List.length_drop]; omega) (by rw [List.length_drop]; omega)]
    · rw [if_neg c, if_neg c]
theorem jget_eq (b : List Int) (hb : Bytes b) (hl : b.length ≤ 1000000) (k : Nat) (hk : b.length + 200 ≤ k) : journal_Get.f k b = some (getS b) := jget_l 6 b _ k hb hl hk
/-! ### Put and Get are inverse -/
theorem getL_enc (m : Nat) (x : Int) (hx : InI x) (rest xs : List Int) : getL (m + 1) (enc x ++ rest) xs = getL m rest (xs.set (5 - m) x) := by
  rw [getL, enc_taken x hx, if_pos rfl, Int.toNat_natCast, List.drop_left' rfl]
theorem getS_cont {a0 a1 a2 a3 a4 a5 : Int} {l : List Int} (h : Okc a0 a1 a2 a3 a4 a5 l) : getS (contS a0 a1 a2 a3 a4 a5 l) = (a0, a1, a2, a3, a4, a5, l, 0) := by
  have hs := h.six
  have e : contS a0 a1 a2 a3 a4 a5 l = enc a0 ++ (enc a1 ++ (enc a2 ++ (enc a3 ++ (enc a4 ++ (enc a5 ++ (enc l.length ++ encL l ++ [])))))) := by
    unfold contS
    simp [encL, List.append_assoc]
  have ht := tkL_taken l h.list [] (fun _ hx => by simp at hx) h.kl (by simp)
  unfold getS
  rw [e, getL_enc 5 a0 (hs a0 (by simp)), getL_enc 4 a1 (hs a1 (by simp)), getL_enc 3 a2 (hs a2 (by simp)), getL_enc 2 a3 (hs a3 (by simp)), getL_enc 1 a4 (hs a4 (by simp)), getL_enc 0 a5 (hs a5 (by simp))]
  rw [getL, ht, if_pos rfl, if_neg (by rw [List.append_nil]; exact Int.lt_irrefl _)]
  have hc := chk_ok.2 h
  exact if_pos hc
theorem getL_err : ∀ (m : Nat) (b xs : List Int), (getL m b xs).2.2.2.2.2.2.2 ≠ 0 → getL m b xs = (0, 0, 0, 0, 0, 0, [], (getL m b xs).2.2.2.2.2.2.2) := by
  intro m
  induction m with
  | zero =>
    intro b xs h
    rw [getL] at h ⊢
    by_cases c : (tkL b).2.2 = 0
    · rw [if_pos c] at h ⊢
      by_cases c2 : (tkL b).2.1 < (b.length : Int)
      · rw [if_pos c2]
      · rw [if_neg c2] at h ⊢
        by_cases c3 : chk (rd xs 0) (rd xs 1) (rd xs 2) (rd xs 3) (rd xs 4) (rd xs 5) (tkL b).1 = 0
        · rw [if_pos c3] at h
          exact absurd rfl h
        · rw [if_neg c3]
    · rw [if_neg c]
  | succ m ih =>
    intro b xs h
    rw [getL] at h ⊢
    by_cases c : (tkI b).2.2 = 0
    · rw [if_pos c] at h ⊢
      exact ih _ _ h
    · rw [if_neg c]
theorem getL_step (m : Nat) (b xs : List Int) (hb : Bytes b) (h : (getL (m + 1) b xs).2.2.2.2.2.2.2 = 0) : ∃ (x : Int) (rest : List Int), InI x ∧ b = enc x ++ rest ∧ Bytes rest ∧ getL (m + 1) b xs = getL m rest (xs.set (5 - m) x) := by
  rw [getL] at h ⊢
  rcases tkI_cases b hb with ⟨e, h0, h1⟩ | ⟨x, n, h1, h2, h3, h4, h5⟩
  · rw [h1] at h
    simp only at h
    rw [if_neg h0] at h
    exact absurd h h0
  · rw [h1]
    simp only [if_true, Int.toNat_natCast]
    exact ⟨x, b.drop n, h2, by rw [← h5, List.take_append_drop], hb.drop n, rfl⟩
/-- What Get takes is what Put puts. -/
theorem getS_once (b : List Int) (hb : Bytes b) (hl : b.length ≤ 1000000) (h : (getS b).2.2.2.2.2.2.2 = 0) : ∃ a0 a1 a2 a3 a4 a5 l, getS b = (a0, a1, a2, a3, a4, a5, l, 0) ∧ Okc a0 a1 a2 a3 a4 a5 l ∧ contS a0 a1 a2 a3 a4 a5 l = b := by
  unfold getS at h ⊢
  obtain ⟨a0, b0, i0, e0, hb0, g0⟩ := getL_step 5 b _ hb h
  rw [g0] at h ⊢
  obtain ⟨a1, b1, i1, e1, hb1, g1⟩ := getL_step 4 b0 _ hb0 h
  rw [g1] at h ⊢
  obtain ⟨a2, b2, i2, e2, hb2, g2⟩ := getL_step 3 b1 _ hb1 h
  rw [g2] at h ⊢
  obtain ⟨a3, b3, i3, e3, hb3, g3⟩ := getL_step 2 b2 _ hb2 h
  rw [g3] at h ⊢
  obtain ⟨a4, b4, i4, e4, hb4, g4⟩ := getL_step 1 b3 _ hb3 h
  rw [g4] at h ⊢
  obtain ⟨a5, b5, i5, e5, hb5, g5⟩ := getL_step 0 b4 _ hb4 h
  rw [g5] at h ⊢
  have hl5 : b5.length ≤ 1000000 := by
    have := congrArg List.length e0
    have := congrArg List.length e1
    have := congrArg List.length e2
    have := congrArg List.length e3
    have := congrArg List.length e4
    have := congrArg List.length e5
    simp only [List.length_append] at *
    omega
  rw [getL] at h ⊢
  rcases tkL_cases b5 hb5 hl5 with ⟨e, h0, h1⟩ | ⟨ys, n, h1, h2, h3, h4, h5, h6⟩
  · rw [h1] at h
    simp only at h
    rw [if_neg h0] at h
    exact absurd h h0
  · rw [h1] at h ⊢
    simp only [if_true] at h ⊢
    by_cases c : (n : Int) < (b5.length : Int)
    · rw [if_pos c] at h
      simp at h
    · rw [if_neg c] at h ⊢
      by_cases c2 : chk a0 a1 a2 a3 a4 a5 ys = 0
      · refine ⟨a0, a1, a2, a3, a4, a5, ys, if_pos c2, chk_ok.1 c2, ?_⟩
        rw [List.take_of_length_le (by omega)] at h5
        rw [e0, e1, e2, e3, e4, e5, h5]
        unfold contS
        simp [encL, List.append_assoc]
      · have : (if chk a0 a1 a2 a3 a4 a5 ys = 0 then (a0, a1, a2, a3, a4, a5, ys, (0 : Int)) else (0, 0, 0, 0, 0, 0, [], chk a0 a1 a2 a3 a4 a5 ys)).2.2.2.2.2.2.2 = 0 := h
        rw [if_neg c2] at this
        exact absurd this c2
theorem getS_err (b : List Int) (h : (getS b).2.2.2.2.2.2.2 ≠ 0) : getS b = (0, 0, 0, 0, 0, 0, [], (getS b).2.2.2.2.2.2.2) := getL_err 6 b _ h

end Go.Proofs.YtpcicooogiialaaDoor.Jr
