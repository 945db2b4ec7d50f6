/- What the encoding of integers is, over lists of numbers: taken, put, and one the inverse of the other. Conditions: bytes from 0 to 255, integers of 64 bits. -/
import Derived.Test.YtdnjbakhnnckbaaDoorPBx1
import Derived.Laws.BitsAllLaws
namespace Go.Proofs.YtdnjbakhnnckbaaDoor.Wire
open Go.RowKit Go.Proofs.YtdnjbakhnnckbaaDoor.PB Go.Proofs.YtdnjbakhnnckbaaDoorW.PrintWords Go.Proofs.YtdnjbakhnnckbaaDoorW.PrintLast Go.Proofs.YtdnjbakhnnckbaaDoorW.PrintMore
set_option linter.unusedVariables false

def dec (u : Int) : Int := if u % 2 = 1 then -(u / 2) - 1 else u / 2
/-- Ten bytes at the most: f are left, i have been taken. -/
def tk : Nat → Nat → Int → List Int → Int × Int × Int
  | 0, _, _, _ => (0, 0, 2)
  | f + 1, i, acc, [] => (0, 0, 4)
  | f + 1, i, acc, c :: t => if f = 0 ∧ c > 1 then (0, 0, 2) else if c ≥ 128 then tk f (i + 1) (acc + c % 128 * 2 ^ (7 * i)) t else if c = 0 ∧ 0 < i then (0, 0, 3) else (dec (acc + c % 128 * 2 ^ (7 * i)), (i : Int) + 1, 0)
def tkI (l : List Int) : Int × Int × Int := tk 10 0 0 l
def Bytes (l : List Int) : Prop := ∀ x ∈ l, 0 ≤ x ∧ x < 256
theorem Bytes.drop {l : List Int} (h : Bytes l) (n : Nat) : Bytes (l.drop n) := fun x hx => h x (List.mem_of_mem_drop hx)
theorem Bytes.take {l : List Int} (h : Bytes l) (n : Nat) : Bytes (l.take n) := fun x hx => h x (List.mem_of_mem_take hx)
theorem Bytes.append {l m : List Int} (h : Bytes l) (k : Bytes m) : Bytes (l ++ m) := fun x hx => (List.mem_append.1 hx).elim (h x) (k x)
def InI (n : Int) : Prop := -9223372036854775808 ≤ n ∧ n < 9223372036854775808

theorem dec_range (u : Int) (h0 : 0 ≤ u) (h1 : u < 18446744073709551616) : InI (dec u) := by
  unfold dec InI
  split <;> omega
theorem dec_code (n : Int) : dec (codeOf n) = n := by
  unfold dec codeOf
  split <;> split <;> omega
theorem code_dec (u : Int) (h0 : 0 ≤ u) : codeOf (dec u) = u := by
  unfold dec codeOf
  split <;> split <;> omega
theorem code_range (n : Int) (h : InI n) : 0 ≤ codeOf n ∧ codeOf n < 18446744073709551616 := by
  unfold InI at h
  unfold codeOf
  split <;> omega

theorem pow7 (i : Nat) (h : i < 10) : (i = 0 ∧ (2 : Int) ^ (7 * i) = 1) ∨ (i = 1 ∧ (2 : Int) ^ (7 * i) = 128) ∨ (i = 2 ∧ (2 : Int) ^ (7 * i) = 16384) ∨ (i = 3 ∧ (2 : Int) ^ (7 * i) = 2097152) ∨ (i = 4 ∧ (2 : Int) ^ (7 * i) = 268435456) ∨ (i = 5 ∧ (2 : Int) ^ (7 * i) = 34359738368) ∨ (i = 6 ∧ (2 : Int) ^ (7 * i) = 4398046511104) ∨ (i = 7 ∧ (2 : Int) ^ (7 * i) = 562949953421312) ∨ (i = 8 ∧ (2 : Int) ^ (7 * i) = 72057594037927936) ∨ (i = 9 ∧ (2 : Int) ^ (7 * i) = 9223372036854775808) := by
  have : i = 0 ∨ i = 1 ∨ i = 2 ∨ i = 3 ∨ i = 4 ∨ i = 5 ∨ i = 6 ∨ i = 7 ∨ i = 8 ∨ i = 9 := by omega
  rcases this with rfl | rfl | rfl | rfl | rfl | rfl | rfl | rfl | rfl | rfl <;> decide

/-- A byte's seven bits laid on those before it. -/
theorem or_step (acc c : Int) (i : Nat) (hi : i < 10) (h0 : 0 ≤ acc) (h1 : acc < 2 ^ (7 * i)) (hc0 : 0 ≤ c) (hc : c < 256) (h9 : i = 9 → c ≤ 1) :
    Go.bits .or .u64 acc (shl .u64 (IntKind.u64.wrap (Int.tmod c 128)) (wrap64 (7 * (i : Int)))) = acc + c % 128 * 2 ^ (7 * i) ∧ acc + c % 128 * 2 ^ (7 * i) < 2 ^ (7 * (i + 1)) ∧ 0 ≤ c % 128 * 2 ^ (7 * i) ∧ acc + c % 128 * 2 ^ (7 * i) < 18446744073709551616 := by
  have e1 : IntKind.u64.wrap (Int.tmod c 128) = c % 128 := by
    rw [IntKind.wrap_u64, Int.tmod_eq_emod_of_nonneg hc0]; omega
  have e2 : wrap64 (7 * (i : Int)) = 7 * (i : Int) := by unfold wrap64; omega
  have e3 : (7 * (i : Int)).toNat = 7 * i := by omega
  have e4 : min (7 * i) IntKind.u64.bits = 7 * i := by
    have : IntKind.u64.bits = 64 := rfl
    omega
  rw [e1, e2]
  unfold shl
  rw [e3, e4, IntKind.wrap_u64]
  have hp : (2 : Int) ^ (7 * (i + 1)) = 2 ^ (7 * i) * 128 := by rw [show 7 * (i + 1) = 7 * i + 7 by omega, Int.pow_add]; rfl
  have hq : (c % 128 * 2 ^ (7 * i)) % 18446744073709551616 = c % 128 * 2 ^ (7 * i) ∧ acc + c % 128 * 2 ^ (7 * i) < 2 ^ (7 * i) * 128 ∧ 0 ≤ c % 128 * 2 ^ (7 * i) ∧ acc + c % 128 * 2 ^ (7 * i) < 18446744073709551616 := by
    rcases pow7 i hi with ⟨_, e⟩ | ⟨_, e⟩ | ⟨_, e⟩ | ⟨_, e⟩ | ⟨_, e⟩ | ⟨_, e⟩ | ⟨_, e⟩ | ⟨_, e⟩ | ⟨_, e⟩ | ⟨e9, e⟩ <;> rw [e] at h1 ⊢
    all_goals first
      | omega
      | (have := h9 e9; omega)
  obtain ⟨q1, q2, q3, q4⟩ := hq
  rw [q1, hp]
  refine ⟨?_, q2, q3, q4⟩
  rw [u64_or _ _ h0 (by omega) q3 (by omega), Nat.or_comm]
  rw [nat_join (7 * i) _ _ ?_ ?_]
  · omega
  · have : (c % 128 * 2 ^ (7 * i)).toNat = (c % 128).toNat * 2 ^ (7 * i) := by
      rw [Int.toNat_mul (by omega) (by exact_mod_cast Nat.zero_le _)]
      congr 1
    rw [this]
    exact Nat.mul_mod_left _ _
  · have : ((2 : Int) ^ (7 * i)) = ((2 ^ (7 * i) : Nat) : Int) := by norm_cast
    omega
theorem add_step (acc c : Int) (i : Nat) (hi : i < 10) (h0 : 0 ≤ acc) (h1 : acc < 2 ^ (7 * i)) (hc0 : 0 ≤ c) (hc : c < 256) (h9 : i = 9 → c ≤ 1) :
    IntKind.u64.wrap (acc + IntKind.u64.wrap (IntKind.u64.wrap (Int.tmod c 128) * 2 ^ (7 * i))) = acc + c % 128 * 2 ^ (7 * i) := by
  obtain ⟨_, q2, q3, q4⟩ := or_step acc c i hi h0 h1 hc0 hc h9
  have e1 : IntKind.u64.wrap (Int.tmod c 128) = c % 128 := by
    rw [IntKind.wrap_u64, Int.tmod_eq_emod_of_nonneg hc0]; omega
  rw [e1, IntKind.wrap_u64, IntKind.wrap_u64]
  omega
end Go.Proofs.YtdnjbakhnnckbaaDoor.Wire
