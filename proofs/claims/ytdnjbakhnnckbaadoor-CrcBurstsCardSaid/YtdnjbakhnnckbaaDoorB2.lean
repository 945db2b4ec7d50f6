/- Two strings that differ in at most four neighbouring bytes, and are not equal, have different checksums. Conditions: bytes from 0 to 255. -/
import Derived.Test.YtdnjbakhnnckbaaDoorB1
namespace Go.Proofs.YtdnjbakhnnckbaaDoor.Crc
open Go.RowKit Go.Proofs.YtdnjbakhnnckbaaDoor.PB Go.Proofs.YtdnjbakhnnckbaaDoor.Wire Go.Proofs.YtdnjbakhnnckbaaDoorW.PrintWords Go.Proofs.YtdnjbakhnnckbaaDoorW.PrintLast Go.Proofs.YtdnjbakhnnckbaaDoorW.PrintMore
set_option linter.unusedVariables false

theorem xor_left_inj (r a b : Nat) (h : r ^^^ a = r ^^^ b) : a = b := by
  have := congrArg (fun z => r ^^^ z) h
  simpa [← Nat.xor_assoc] using this
/-- Some bytes as one number, the first one lowest. -/
def wordN : List Nat → Nat
  | [] => 0
  | c :: l => c ^^^ (256 * wordN l)
theorem wordN_lt (l : List Nat) (h : NB l) : wordN l < 2 ^ (8 * l.length) := by
  induction l with
  | nil => decide
  | cons c l ih =>
    have hc := h c (by simp)
    have hl := ih (fun x hx => h x (List.mem_cons_of_mem _ hx))
    unfold wordN
    refine Nat.xor_lt_two_pow ?_ ?_
    · exact Nat.lt_of_lt_of_le (show c < 2 ^ 8 by omega) (Nat.pow_le_pow_right (by decide) (by rw [List.length_cons]; omega))
    · rw [List.length_cons, show 8 * (l.length + 1) = 8 + 8 * l.length by omega, Nat.pow_add]
      show 256 * wordN l < 256 * 2 ^ (8 * l.length)
      omega
theorem runN_word (l : List Nat) : ∀ r, runN r l = stN (8 * l.length) (r ^^^ wordN l) := by
  induction l with
  | nil => intro r; simp [runN, wordN, stN]
  | cons c l ih =>
    intro r
    have h1 : runN r (c :: l) = runN (byN r c) l := rfl
    have h2 : stN 8 (256 * wordN l) = wordN l := stN_pow 8 (wordN l)
    rw [h1, ih, List.length_cons, show 8 * (l.length + 1) = 8 + 8 * l.length by omega, stN_add]
    congr 1
    unfold byN
    have hw : wordN (c :: l) = c ^^^ 256 * wordN l := rfl
    rw [hw, ← Nat.xor_assoc, stN_xor 8 (r ^^^ c) (256 * wordN l), h2]
theorem wordN_inj : ∀ (a b : List Nat), a.length = b.length → NB a → NB b → wordN a = wordN b → a = b := by
  intro a
  induction a with
  | nil => intro b h _ _ _; exact (List.length_eq_zero_iff.1 h.symm).symm
  | cons x a ih =>
    intro b h ha hb he
    cases b with
    | nil => simp at h
    | cons y b =>
      have hx := ha x (by simp)
      have hy := hb y (by simp)
      unfold wordN at he
      have hm : ∀ c w : Nat, c < 256 → (c ^^^ (256 * w)) % 256 = c := by
        intro c w hc
        have := @Nat.xor_mod_two_pow c (256 * w) 8
        rw [show (2 : Nat) ^ 8 = 256 by decide] at this
        rw [this, show 256 * w % 256 = 0 by omega, Nat.xor_zero]
        omega
      have h1 : x = y := by
        have := congrArg (· % 256) he
        simp only [hm x _ hx, hm y _ hy] at this
        exact this
      subst h1
      have h2 := xor_left_inj _ _ _ he
      rw [ih b (by simpa using h) (fun z hz => ha z (List.mem_cons_of_mem _ hz)) (fun z hz => hb z (List.mem_cons_of_mem _ hz)) (by omega)]
theorem burst_inj (p q a b : List Nat) (s : Nat) (hs : s < 4294967296) (hp : NB p) (hq : NB q) (ha : NB a) (hb : NB b) (hl : a.length = b.length) (h4 : a.length ≤ 4) (h : extN s (p ++ a ++ q) = extN s (p ++ b ++ q)) : a = b := by
  unfold extN at h
  have h1 := xor_left_inj _ _ _ h
  rw [runN_append, runN_append, runN_append, runN_append] at h1
  have hr := runN_lt p _ (xor_lt FF s (by decide) hs) hp
  have h2 := runN_inj q hq _ _ (runN_lt a _ hr ha) (runN_lt b _ hr hb) h1
  rw [runN_word a, runN_word b, ← hl] at h2
  have w32 : ∀ c : List Nat, NB c → c.length ≤ 4 → wordN c < 4294967296 := by
    intro c hc hc4
    have := wordN_lt c hc
    exact Nat.lt_of_lt_of_le this (Nat.le_trans (Nat.pow_le_pow_right (by decide) (show 8 * c.length ≤ 32 by omega)) (by decide))
  have h3 := stN_inj _ _ _ (xor_lt _ _ hr (w32 a ha h4)) (xor_lt _ _ hr (w32 b hb (by omega))) h2
  exact wordN_inj a b hl ha hb (xor_left_inj _ _ _ h3)
theorem xor_u8 (a b : Int) (ha : 0 ≤ a ∧ a < 256) (hb : 0 ≤ b ∧ b < 256) : (0 ≤ Go.bits .xor .u8 a b ∧ Go.bits .xor .u8 a b < 256) ∧ (Go.bits .xor .u8 a b = a ↔ b = 0) := by
  obtain ⟨a, rfl⟩ : ∃ n : Nat, a = (n : Int) := ⟨a.toNat, by omega⟩
  obtain ⟨b, rfl⟩ : ∃ n : Nat, b = (n : Int) := ⟨b.toNat, by omega⟩
  have hx : a ^^^ b < 256 := Nat.xor_lt_two_pow (n := 8) (by omega) (by omega)
  have he : Go.bits .xor .u8 (a : Int) (b : Int) = ((a ^^^ b : Nat) : Int) := by
    have h1 : (BitVec.ofInt 8 (a : Int)).toNat = a := by rw [BitVec.toNat_ofInt]; omega
    have h2 : (BitVec.ofInt 8 (b : Int)).toNat = b := by rw [BitVec.toNat_ofInt]; omega
    refine Eq.trans (congrArg (fun z : Nat => IntKind.u8.wrap (z : Int)) ((BitVec.toNat_xor (BitVec.ofInt 8 (a : Int)) (BitVec.ofInt 8 (b : Int))).trans (congr (congrArg (· ^^^ ·) h1) h2))) ?_
    show IntKind.u8.wrap ((a ^^^ b : Nat) : Int) = _
    rw [IntKind.wrap_u8]
    omega
  rw [he]
  refine ⟨by omega, fun h => ?_, fun h => ?_⟩
  · have h3 : a ^^^ b = a := by omega
    have := xor_left_inj a b 0 (by rw [h3, Nat.xor_zero])
    omega
  · obtain rfl : b = 0 := by omega
    rw [Nat.xor_zero]
/-- Four rounds at the most: a byte of X on each byte from i on. -/
def bL (X : List Int) (i : Nat) : Nat → Nat → List Int → Bool → List Int × Bool
  | 0, _, xs, ch => (xs, ch)
  | f + 1, k, xs, ch => if i + k < xs.length then bL X i f (k + 1) (xs.set (i + k) (Go.bits .xor .u8 (rd xs ((i + k : Nat) : Int)) (rd X (k : Int)))) (ch || (rd X (k : Int) != 0)) else (xs, ch)
theorem set_bytes {l : List Int} (hl : Bytes l) (i : Nat) (v : Int) (hv : 0 ≤ v ∧ v < 256) : Bytes (l.set i v) := by
  intro x hx
  rcases List.mem_or_eq_of_mem_set hx with hx | rfl
  · exact hl x hx
  · exact hv
theorem rd_at (l : List Int) (i : Nat) (h : i < l.length) : l[i]? = some (rd l (i : Int)) := by
  simp [rd, List.getElem?_eq_getElem h]
theorem bL_spec (X l : List Int) (i : Nat) (hX : ∀ k : Nat, k < 4 → 0 ≤ rd X (k : Int) ∧ rd X (k : Int) < 256) (f : Nat) : ∀ (k : Nat) (xs : List Int) (ch : Bool), k + f ≤ 4 → Bytes xs → xs.length = l.length →
    (∀ j, j < i ∨ i + k ≤ j → xs[j]? = l[j]?) → (xs = l ↔ ch = false) →
    Bytes (bL X i f k xs ch).1 ∧ (bL X i f k xs ch).1.length = l.length ∧ (∀ j, j < i ∨ i + 4 ≤ j → (bL X i f k xs ch).1[j]? = l[j]?) ∧ ((bL X i f k xs ch).1 = l ↔ (bL X i f k xs ch).2 = false) := by
  induction f with
  | zero => intro k xs ch hk hb hl hj hc; exact ⟨hb, hl, fun j h => hj j (by omega), hc⟩
  | succ f ih =>
    intro k xs ch hk hb hl hj hc
    unfold bL
    split
    case isFalse => exact ⟨hb, hl, fun j h => hj j (by omega), hc⟩
    case isTrue hlt =>
      have hv := rd_at xs (i + k) hlt
      have hvb := hb _ (List.mem_of_getElem? hv)
      obtain ⟨hx1, hx2⟩ := xor_u8 (rd xs ((i + k : Nat) : Int)) (rd X (k : Int)) hvb (hX k (by omega))
      refine ih (k + 1) _ _ (by omega) (set_bytes hb _ _ hx1) (by rw [List.length_set]; exact hl) (fun j h => ?_) ?_
      · rw [List.getElem?_set_ne (by omega)]
        exact hj j (by omega)
      · have hsame : rd X (k : Int) = 0 → xs.set (i + k) (Go.bits .xor .u8 (rd xs ((i + k : Nat) : Int)) (rd X (k : Int))) = xs := by
          intro h0
          rw [hx2.2 h0]
          refine List.ext_getElem? fun j => ?_
          rcases Nat.eq_or_lt_of_le (Nat.zero_le (if i + k = j then 0 else 1)) with h | h
          · by_cases e : i + k = j
            · subst e
              rw [List.getElem?_set_self hlt, hv]
            · rw [List.getElem?_set_ne e]
          · by_cases e : i + k = j
            · rw [if_pos e] at h; omega
            · rw [List.getElem?_set_ne e]
        constructor
        · intro he
          have h1 := congrArg (fun z : List Int => z[i + k]?) he
          simp only [List.getElem?_set_self hlt] at h1
          rw [← hj (i + k) (by omega), hv] at h1
          have h0 := hx2.1 (Option.some.inj h1)
          rw [hsame h0] at he
          rw [hc.1 he, h0]
          rfl
        · intro he
          rw [Bool.or_eq_false_iff] at he
          have h0 : rd X (k : Int) = 0 := by simpa using he.2
          rw [hsame h0]
          exact hc.2 he.1
theorem bursts (X l : List Int) (i : Nat) (hX : ∀ k : Nat, k < 4 → 0 ≤ rd X (k : Int) ∧ rd X (k : Int) < 256) (hl : Bytes l) :
    Bytes (bL X i 4 0 l false).1 ∧ (bL X i 4 0 l false).1.length = l.length ∧ (sumN (bL X i 4 0 l false).1 = sumN l ↔ (bL X i 4 0 l false).2 = false) := by
  obtain ⟨h1, h2, h3, h4⟩ := bL_spec X l i hX 4 0 l false (by omega) hl rfl (fun _ _ => rfl) (by simp)
  refine ⟨h1, h2, ?_⟩
  rw [← h4]
  refine ⟨fun h => ?_, fun h => by rw [h]⟩
  generalize (bL X i 4 0 l false).1 = m at h1 h2 h3 h
  have c : ∀ z : List Int, z = z.take i ++ (z.drop i).take 4 ++ z.drop (i + 4) := by
    intro z
    rw [List.append_assoc, ← List.drop_drop, List.take_append_drop, List.take_append_drop]
  have p1 : m.take i = l.take i := by
    refine List.ext_getElem? fun j => ?_
    rw [List.getElem?_take, List.getElem?_take]
    split
    · exact h3 j (by omega)
    · rfl
  have p2 : m.drop (i + 4) = l.drop (i + 4) := by
    refine List.ext_getElem? fun j => ?_
    rw [List.getElem?_drop, List.getElem?_drop]
    exact h3 _ (by omega)
  have e1 : nats m = nats (l.take i) ++ nats ((m.drop i).take 4) ++ nats (l.drop (i + 4)) := by
    conv => lhs; rw [c m, p1, p2]
    rw [nats_append, nats_append]
  have e2 : nats l = nats (l.take i) ++ nats ((l.drop i).take 4) ++ nats (l.drop (i + 4)) := by
    conv => lhs; rw [c l]
    rw [nats_append, nats_append]
  unfold sumN at h
  rw [e1, e2] at h
  have q := burst_inj _ _ _ _ 0 (by decide) (nats_bytes (hl.take i)) (nats_bytes (hl.drop (i + 4))) (nats_bytes ((h1.drop i).take 4)) (nats_bytes ((hl.drop i).take 4)) (by simp [nats, h2]) (by simp [nats]; omega) h
  have inj : ∀ (a b : List Int), Bytes a → Bytes b → nats a = nats b → a = b := by
    intro a
    induction a with
    | nil => intro b _ _ h; cases b with
      | nil => rfl
      | cons y b => simp [nats] at h
    | cons x a ih =>
      intro b ha hb h
      cases b with
      | nil => simp [nats] at h
      | cons y b =>
        simp only [nats, List.map_cons, List.cons.injEq] at h
        have hx := ha x (by simp)
        have hy := hb y (by simp)
        rw [ih b (fun z hz => ha z (List.mem_cons_of_mem _ hz)) (fun z hz => hb z (List.mem_cons_of_mem _ hz)) h.2, show x = y by omega]
  have q2 := inj _ _ ((h1.drop i).take 4) ((hl.drop i).take 4) q
  rw [c m, c l, p1, p2, q2]
end Go.Proofs.YtdnjbakhnnckbaaDoor.Crc
