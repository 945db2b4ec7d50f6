/- Open and All of the program and of the reference come to the same. -/
import Derived.Test.YtpcicooogiialaaDoorC2x0G
import Derived.Test.YtpcicooogiialaaDoorPGx6
namespace Go.Proofs.YtpcicooogiialaaDoor.Crc
open Go.RowKit Go.Proofs.YtpcicooogiialaaDoor.PG Go.Proofs.YtpcicooogiialaaDoor.Wire Go.Proofs.YtpcicooogiialaaDoorW.PrintWords Go.Proofs.YtpcicooogiialaaDoorW.PrintLast Go.Proofs.YtpcicooogiialaaDoorW.PrintMore
set_option linter.unusedVariables false

/-- The content of n bytes behind the first m, and the four bytes behind it. -/
def cont (b : List Int) (m n : Nat) : List Int := (b.take (m + n)).drop m
def tail4 (b : List Int) (m n : Nat) : List Int := (b.take (m + n + 4)).drop (m + n)
def openS (b : List Int) : List Int × Int × Int :=
  if (tkI b).2.2 = 0 then (if (tkI b).1 < 0 then ([], 0, 3) else if (tkI b).1 > 65536 then ([], 0, 8) else if (b.length : Int) < (tkI b).2.1 + (tkI b).1 + 4 then ([], 0, 4) else
    if tail4 b (tkI b).2.1.toNat (tkI b).1.toNat = fourS (sumN (cont b (tkI b).2.1.toNat (tkI b).1.toNat)) then (cont b (tkI b).2.1.toNat (tkI b).1.toNat, (tkI b).2.1 + (tkI b).1 + 4, 0) else ([], 0, 15)) else ([], 0, (tkI b).2.2)
theorem len4 (l : List Int) (h : l.length = 4) : l = [rd l 0, rd l 1, rd l 2, rd l 3] := by
  match l, h with
  | [a, b, c, d], _ => rfl
theorem or4 (a b c d : Int) (ha : 0 ≤ a ∧ a < 256) (hb : 0 ≤ b ∧ b < 256) (hc : 0 ≤ c ∧ c < 256) (hd : 0 ≤ d ∧ d < 256) :
    Go.bits .or .u32 (Go.bits .or .u32 (Go.bits .or .u32 ((((a) % 4294967296) * 16777216) % 4294967296) ((((b) % 4294967296) * 65536) % 4294967296)) ((((c) % 4294967296) * 256) % 4294967296)) ((d) % 4294967296) = a * 16777216 + b * 65536 + c * 256 + d := by
  obtain ⟨a, rfl⟩ : ∃ n : Nat, a = (n : Int) := ⟨a.toNat, by omega⟩
  obtain ⟨b, rfl⟩ : ∃ n : Nat, b = (n : Int) := ⟨b.toNat, by omega⟩
  obtain ⟨c, rfl⟩ : ∃ n : Nat, c = (n : Int) := ⟨c.toNat, by omega⟩
  obtain ⟨d, rfl⟩ : ∃ n : Nat, d = (n : Int) := ⟨d.toNat, by omega⟩
  have e1 : 16777216 * a ||| b * 65536 = 16777216 * a + b * 65536 := (Nat.two_pow_add_eq_or_of_lt (i := 24) (b := b * 65536) (by omega) a).symm
  have e2 : 65536 * (256 * a + b) ||| c * 256 = 65536 * (256 * a + b) + c * 256 := (Nat.two_pow_add_eq_or_of_lt (i := 16) (b := c * 256) (by omega) (256 * a + b)).symm
  have e3 : 256 * (65536 * a + 256 * b + c) ||| d = 256 * (65536 * a + 256 * b + c) + d := (Nat.two_pow_add_eq_or_of_lt (i := 8) (b := d) (by omega) (65536 * a + 256 * b + c)).symm
  rw [show (((a : Int)) % 4294967296 * 16777216) % 4294967296 = ((16777216 * a : Nat) : Int) by omega, show (((b : Int)) % 4294967296 * 65536) % 4294967296 = ((b * 65536 : Nat) : Int) by omega, show (((c : Int)) % 4294967296 * 256) % 4294967296 = ((c * 256 : Nat) : Int) by omega, show ((d : Int)) % 4294967296 = ((d : Nat) : Int) by omega]
  rw [or_u32 _ _ (by omega) (by omega), e1, show 16777216 * a + b * 65536 = 65536 * (256 * a + b) by omega, or_u32 _ _ (by omega) (by omega), e2, show 65536 * (256 * a + b) + c * 256 = 256 * (65536 * a + 256 * b + c) by omega, or_u32 _ _ (by omega) (by omega), e3]
  omega
theorem be_four (l : List Int) (hl : Bytes l) (h : l.length = 4) (s : Nat) (hs : s < 4294967296) : rd l 0 * 16777216 + rd l 1 * 65536 + rd l 2 * 256 + rd l 3 = (s : Int) ↔ l = fourS s := by
  match l, h with
  | [a, b, c, d], _ =>
    have ha := hl a (by simp)
    have hb := hl b (by simp)
    have hc := hl c (by simp)
    have hd := hl d (by simp)
    show a * 16777216 + b * 65536 + c * 256 + d = (s : Int) ↔ [a, b, c, d] = fourS s
    unfold fourS
    simp only [List.cons.injEq, and_true]
    omega
theorem cont_bytes {b : List Int} (hb : Bytes b) (m n : Nat) : Bytes (cont b m n) := (hb.take _).drop _
theorem cont_len (b : List Int) (m n : Nat) : (cont b m n).length ≤ b.length := by unfold cont; rw [List.length_drop, List.length_take]; omega
theorem tail4_bytes {b : List Int} (hb : Bytes b) (m n : Nat) : Bytes (tail4 b m n) := (hb.take _).drop _
theorem tail4_len (b : List Int) (m n : Nat) (h : m + n + 4 ≤ b.length) : (tail4 b m n).length = 4 := by unfold tail4; rw [List.length_drop, List.length_take]; omega
theorem open_eq (b : List Int) (hb : Bytes b) (hl : b.length ≤ 10000000) (k : Nat) (hk : 40 ≤ k) : crc_Open.f k b = some (openS b) := by
  unfold crc_Open.f openS
  rw [wire_tk b hb k hk]
  simp only [Option.bind_some]
  rcases tkI_cases b hb with ⟨e, he, h⟩ | ⟨x, m, h, hx, h1, h2, _⟩
  · rw [h]
    simp only [if_neg he]
  · rw [h]
    simp only [if_true]
    unfold InI at hx
    by_cases hx0 : x < 0
    · rw [if_pos hx0, if_pos hx0]
    · rw [if_neg hx0, if_neg hx0]
      by_cases hx1 : x > 65536
      · rw [if_pos hx1, if_pos hx1]
      · rw [if_neg hx1, if_neg hx1]
        obtain ⟨n, rfl⟩ : ∃ n : Nat, x = (n : Int) := ⟨x.toNat, by omega⟩
        have e1 : wrap64 ((m : Int) + (n : Int)) = ((m + n : Nat) : Int) := by rw [wrap64_id (by omega) (by omega)]; omega
        have e2 : wrap64 (((m + n : Nat) : Int) + 4) = ((m + n + 4 : Nat) : Int) := by rw [wrap64_id (by omega) (by omega)]; omega
        rw [e1, e2, wrap64_id (n := (b.length : Int) - (m : Int)) (by omega) (by omega), wrap64_id (n := (n : Int) + 4) (by omega) (by omega)]
        simp only [Int.toNat_natCast]
        by_cases hc : (b.length : Int) < (m : Int) + (n : Int) + 4
        · rw [if_pos (by omega), if_pos hc]
        · rw [if_neg (by omega), if_neg hc]
          have ht := tail4_len b m n (by omega)
          have htb := tail4_bytes hb m n
          have hcb := cont_bytes hb m n
          have hcl := cont_len b m n
          rw [if_pos (by omega), if_pos (by omega), if_pos (by omega), if_pos (by omega), if_pos (by omega), if_pos (by omega)]
          show (if 0 < ((tail4 b m n).length : Int) then (if 1 < ((tail4 b m n).length : Int) then (if 2 < ((tail4 b m n).length : Int) then (if 3 < ((tail4 b m n).length : Int) then ((crc_Sum.f (cont b m n)).bind fun t130 => (if (Go.bits .or .u32 (Go.bits .or .u32 (Go.bits .or .u32 ((((rd (tail4 b m n) 0) % 4294967296) * 16777216) % 4294967296) ((((rd (tail4 b m n) 1) % 4294967296) * 65536) % 4294967296)) ((((rd (tail4 b m n) 2) % 4294967296) * 256) % 4294967296)) ((rd (tail4 b m n) 3) % 4294967296)) = t130 then (if ([] : List Int).length + (cont b m n).length < 140737488355328 then (some ((([] : List Int) ++ (cont b m n)), ((m + n + 4 : Nat) : Int), 0)) else (none)) else (some (([] : List Int), 0, 15)))) else none) else none) else none) else none) = _
          rw [if_pos (by omega), if_pos (by omega), if_pos (by omega), if_pos (by omega), sum_eq _ hcb (by omega)]
          simp only [Option.bind_some]
          rw [or4 (rd (tail4 b m n) 0) (rd (tail4 b m n) 1) (rd (tail4 b m n) 2) (rd (tail4 b m n) 3) (rd_byte htb 0 (by omega)) (rd_byte htb 1 (by omega)) (rd_byte htb 2 (by omega)) (rd_byte htb 3 (by omega))]
          have hiff := be_four _ htb ht (sumN (cont b m n)) (sumN_lt _ hcb)
          by_cases hq : tail4 b m n = fourS (sumN (cont b m n))
          · rw [if_pos (hiff.2 hq), if_pos hq, if_pos (by simp only [List.length_nil]; omega), List.nil_append]
            rfl
          · rw [if_neg (fun h => hq (hiff.1 h)), if_neg hq]
theorem open_err (b : List Int) : (openS b).2.2 ≠ 0 → (openS b).1 = [] ∧ (openS b).2.1 = 0 := by
  unfold openS
  repeat' split
  all_goals simp
theorem open_len (b : List Int) (hb : Bytes b) (h : (openS b).2.2 = 0) : ∃ n : Nat, (openS b).2.1 = (n : Int) ∧ 5 ≤ n ∧ n ≤ b.length ∧ Bytes (openS b).1 ∧ (openS b).1.length ≤ b.length := by
  unfold openS at h ⊢
  rcases tkI_cases b hb with ⟨e, he, h0⟩ | ⟨x, m, h0, hx, h1, h2, _⟩
  · rw [h0] at h
    simp only [if_neg he] at h
    exact absurd h he
  · rw [h0] at h ⊢
    simp only [if_true] at h ⊢
    by_cases hx0 : x < 0
    · rw [if_pos hx0] at h; simp at h
    · rw [if_neg hx0] at h ⊢
      by_cases hx1 : x > 65536
      · rw [if_pos hx1] at h; simp at h
      · rw [if_neg hx1] at h ⊢
        by_cases hc : (b.length : Int) < (m : Int) + x + 4
        · rw [if_pos hc] at h; simp at h
        · rw [if_neg hc] at h ⊢
          split at h
          · rename_i hq
            rw [if_pos hq]
            exact ⟨m + x.toNat + 4, by push_cast; omega, by omega, by omega, cont_bytes hb _ _, cont_len _ _ _⟩
          · simp at h
end Go.Proofs.YtpcicooogiialaaDoor.Crc
