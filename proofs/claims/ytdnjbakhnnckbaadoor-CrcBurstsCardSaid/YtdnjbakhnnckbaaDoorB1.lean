/- The register of the checksum as a natural number: a linear map, one to one. -/
import Derived.Test.YtdnjbakhnnckbaaDoorB0
namespace Go.Proofs.YtdnjbakhnnckbaaDoor.Crc
open Go.RowKit Go.Proofs.YtdnjbakhnnckbaaDoor.PB Go.Proofs.YtdnjbakhnnckbaaDoor.Wire Go.Proofs.YtdnjbakhnnckbaaDoorW.PrintWords Go.Proofs.YtdnjbakhnnckbaaDoorW.PrintLast Go.Proofs.YtdnjbakhnnckbaaDoorW.PrintMore
set_option linter.unusedVariables false

def P32 : Nat := 3988292384
def sel (b : Nat) : Nat := if b % 2 = 1 then P32 else 0
def st1 (r : Nat) : Nat := r / 2 ^^^ sel r
theorem sel_xor (a b : Nat) : sel (a ^^^ b) = sel a ^^^ sel b := by
  have h : (a ^^^ b) % 2 = a % 2 ^^^ b % 2 := @Nat.xor_mod_two_pow a b 1
  unfold sel
  rw [h]
  rcases Nat.mod_two_eq_zero_or_one a with ha | ha <;> rcases Nat.mod_two_eq_zero_or_one b with hb | hb <;> rw [ha, hb] <;> decide
theorem half_xor (a b : Nat) : (a ^^^ b) / 2 = a / 2 ^^^ b / 2 := by
  have h := @Nat.shiftRight_xor_distrib 1 a b
  simpa [Nat.shiftRight_eq_div_pow] using h
theorem xor_swap4 (a b c d : Nat) : (a ^^^ b) ^^^ (c ^^^ d) = (a ^^^ c) ^^^ (b ^^^ d) := by
  rw [Nat.xor_assoc, Nat.xor_assoc, ← Nat.xor_assoc b c d, Nat.xor_comm b c, Nat.xor_assoc c b d]
theorem st1_xor (a b : Nat) : st1 (a ^^^ b) = st1 a ^^^ st1 b := by
  unfold st1
  rw [sel_xor, half_xor, xor_swap4]
def stN : Nat → Nat → Nat
  | 0, r => r
  | n + 1, r => stN n (st1 r)
theorem stN_xor (n : Nat) : ∀ a b, stN n (a ^^^ b) = stN n a ^^^ stN n b := by
  induction n with
  | zero => intro a b; rfl
  | succ n ih => intro a b; simp only [stN, st1_xor, ih]
theorem stN_add (m n : Nat) : ∀ a, stN (m + n) a = stN n (stN m a) := by
  induction m with
  | zero => intro a; rw [Nat.zero_add]; rfl
  | succ m ih => intro a; rw [Nat.add_right_comm]; exact ih _
theorem st1_lt (r : Nat) (h : r < 4294967296) : st1 r < 4294967296 := by
  unfold st1 sel
  refine Nat.xor_lt_two_pow (n := 32) (by omega) ?_
  split <;> decide
theorem stN_lt (n : Nat) : ∀ r, r < 4294967296 → stN n r < 4294967296 := by
  induction n with
  | zero => intro r h; exact h
  | succ n ih => intro r h; exact ih _ (st1_lt r h)
theorem st1_zero (r : Nat) (h : r < 4294967296) (h0 : st1 r = 0) : r = 0 := by
  unfold st1 sel at h0
  split at h0
  · rename_i h1
    have : r / 2 = P32 := by
      have := congrArg (fun z => z ^^^ P32) h0
      simpa [Nat.xor_assoc] using this
    unfold P32 at this
    omega
  · rw [Nat.xor_zero] at h0
    omega
theorem stN_zero (n : Nat) : ∀ r, r < 4294967296 → stN n r = 0 → r = 0 := by
  induction n with
  | zero => intro r _ h; exact h
  | succ n ih => intro r h h0; exact st1_zero r h (ih _ (st1_lt r h) h0)
theorem xor_lt (a b : Nat) (ha : a < 4294967296) (hb : b < 4294967296) : a ^^^ b < 4294967296 := Nat.xor_lt_two_pow (n := 32) ha hb
theorem xor_eq (a b : Nat) (h : a ^^^ b = 0) : a = b := by
  have := congrArg (fun z => z ^^^ b) h
  simpa [Nat.xor_assoc] using this
theorem stN_inj (n a b : Nat) (ha : a < 4294967296) (hb : b < 4294967296) (h : stN n a = stN n b) : a = b := by
  refine xor_eq a b (stN_zero n _ (xor_lt a b ha hb) ?_)
  rw [stN_xor, h, Nat.xor_self]
theorem st1_double (q : Nat) : st1 (2 * q) = q := by
  unfold st1 sel
  rw [if_neg (by omega), Nat.xor_zero]
  omega
theorem stN_pow (n : Nat) : ∀ q, stN n (2 ^ n * q) = q := by
  induction n with
  | zero => intro q; simp [stN]
  | succ n ih => intro q; rw [Nat.pow_succ, Nat.mul_comm (2 ^ n) 2, Nat.mul_assoc]; simp only [stN]; rw [st1_double]; exact ih q
/-- Four bits of the register are one number of the table. -/
def tabN (n : Nat) : Nat := stN 4 n
theorem split4 (r : Nat) : r = (16 * (r / 16)) ^^^ (r % 16) := by
  have h1 : 16 * (r / 16) ||| (r % 16) = 16 * (r / 16) + r % 16 := by
    have := Nat.two_pow_add_eq_or_of_lt (i := 4) (b := r % 16) (by omega) (r / 16)
    simpa using this.symm
  have h2 : 16 * (r / 16) ^^^ r % 16 = 16 * (r / 16) + r % 16 := by
    rw [← h1]
    refine Nat.eq_of_testBit_eq fun i => ?_
    rw [Nat.testBit_xor, Nat.testBit_or]
    rcases Nat.lt_or_ge i 4 with hi | hi
    · rw [show 16 * (r / 16) = 2 ^ 4 * (r / 16) by rfl, Nat.testBit_two_pow_mul, decide_eq_false (by omega)]
      simp
    · rw [Nat.testBit_lt_two_pow (x := r % 16) (Nat.lt_of_lt_of_le (by omega : r % 16 < 2 ^ 4) (Nat.pow_le_pow_right (by decide) hi))]
      simp
  rw [h2]
  omega
theorem st4 (r : Nat) : stN 4 r = r / 16 ^^^ tabN (r % 16) := by
  conv => lhs; rw [split4 r]
  rw [stN_xor]
  have := stN_pow 4 (r / 16)
  rw [show (2 : Nat) ^ 4 = 16 by decide] at this
  rw [this]
  rfl
theorem tab_at : ∀ n : Nat, n < 16 → rd crcTab (n : Int) = (tabN n : Int) := by
  intro n h
  have : ∀ n : Fin 16, rd crcTab ((n.1 : Nat) : Int) = (tabN n.1 : Int) := by decide +kernel
  exact this ⟨n, h⟩

/-! ### From the numbers of the program to natural numbers -/
theorem bits_u32 (op : BinOp) (a b : Nat) (ha : a < 4294967296) (hb : b < 4294967296) (f : Nat → Nat → Nat) (hf : f a b < 4294967296)
    (h : ∀ x y : BitVec 32, (match op with | .and => x &&& y | .or => x ||| y | .xor => x ^^^ y | _ => x &&& ~~~y).toNat = f x.toNat y.toNat) : Go.bits op .u32 (a : Int) (b : Int) = ((f a b : Nat) : Int) := by
  unfold Go.bits
  simp only
  have h1 : (BitVec.ofInt 32 (a : Int)).toNat = a := by
    rw [BitVec.toNat_ofInt]
    omega
  have h2 : (BitVec.ofInt 32 (b : Int)).toNat = b := by
    rw [BitVec.toNat_ofInt]
    omega
  refine Eq.trans (congrArg (fun z : Nat => IntKind.u32.wrap (z : Int)) ((h (BitVec.ofInt 32 (a : Int)) (BitVec.ofInt 32 (b : Int))).trans (congr (congrArg f h1) h2))) ?_
  show IntKind.u32.wrap ((f a b : Nat) : Int) = _
  rw [IntKind.wrap_u32]
  omega
theorem xor_u32 (a b : Nat) (ha : a < 4294967296) (hb : b < 4294967296) : Go.bits .xor .u32 (a : Int) (b : Int) = ((a ^^^ b : Nat) : Int) :=
  bits_u32 .xor a b ha hb (· ^^^ ·) (xor_lt a b ha hb) (fun x y => BitVec.toNat_xor x y)
theorem or_u32 (a b : Nat) (ha : a < 4294967296) (hb : b < 4294967296) : Go.bits .or .u32 (a : Int) (b : Int) = ((a ||| b : Nat) : Int) :=
  bits_u32 .or a b ha hb (· ||| ·) (Nat.or_lt_two_pow (n := 32) ha hb) (fun x y => BitVec.toNat_or x y)
theorem and_u32 (a b : Nat) (ha : a < 4294967296) (hb : b < 4294967296) : Go.bits .and .u32 (a : Int) (b : Int) = ((a &&& b : Nat) : Int) :=
  bits_u32 .and a b ha hb (· &&& ·) (Nat.and_lt_two_pow (n := 32) _ hb) (fun x y => BitVec.toNat_and x y)
theorem nib_eq (r : Nat) (h : r < 4294967296) : crcNib (r : Int) = ((stN 4 r : Nat) : Int) := by
  unfold crcNib
  have h1 : Go.bits .and .u32 (r : Int) 15 = ((r % 16 : Nat) : Int) := by
    rw [show (15 : Int) = ((15 : Nat) : Int) by rfl, and_u32 r 15 h (by decide)]
    congr 1
    exact Nat.and_two_pow_sub_one_eq_mod r 4
  rw [h1, tab_at _ (by omega), show (r : Int) / 16 = ((r / 16 : Nat) : Int) by omega, xor_u32 (r / 16) (tabN (r % 16)) (by omega) (stN_lt 4 _ (by omega)), st4]
def byN (r c : Nat) : Nat := stN 8 (r ^^^ c)
theorem byN_lt (r c : Nat) (h : r < 4294967296) (hc : c < 256) : byN r c < 4294967296 := stN_lt 8 _ (xor_lt r c h (by omega))
theorem byte_eq (r c : Nat) (h : r < 4294967296) (hc : c < 256) : crcByte (r : Int) (c : Int) = ((byN r c : Nat) : Int) := by
  unfold crcByte byN
  have hx := xor_lt r c h (by omega)
  rw [show (c : Int) % 4294967296 = (c : Int) by omega, xor_u32 r c h (by omega), nib_eq _ hx, nib_eq _ (stN_lt 4 _ hx), ← stN_add 4 4]
def nats (l : List Int) : List Nat := l.map Int.toNat
theorem nats_append (l m : List Int) : nats (l ++ m) = nats l ++ nats m := List.map_append
def runN (r : Nat) (l : List Nat) : Nat := l.foldl byN r
theorem runN_append (r : Nat) (l m : List Nat) : runN r (l ++ m) = runN (runN r l) m := List.foldl_append
def NB (l : List Nat) : Prop := ∀ c ∈ l, c < 256
theorem nats_bytes {l : List Int} (h : Bytes l) : NB (nats l) := by
  intro c hc
  obtain ⟨x, hx, rfl⟩ := List.mem_map.1 hc
  have := h x hx
  omega
theorem runN_lt (l : List Nat) : ∀ r, r < 4294967296 → NB l → runN r l < 4294967296 := by
  induction l with
  | nil => intro r h _; exact h
  | cons c l ih => intro r h hl; exact ih _ (byN_lt r c h (hl c (by simp))) (fun x hx => hl x (List.mem_cons_of_mem _ hx))
theorem run_eq (l : List Int) : ∀ r : Nat, r < 4294967296 → Bytes l → crcRun (r : Int) l = ((runN r (nats l) : Nat) : Int) := by
  induction l with
  | nil => intro r _ _; rfl
  | cons c l ih =>
    intro r h hl
    have hc := hl c (by simp)
    have hcn : c = ((c.toNat : Nat) : Int) := by omega
    show crcRun (crcByte (r : Int) c) l = _
    rw [hcn, byte_eq r c.toNat h (by omega), ih _ (byN_lt r _ h (by omega)) (fun x hx => hl x (List.mem_cons_of_mem _ hx))]
    rfl
def FF : Nat := 4294967295
/-- The checksum. -/
def extN (s : Nat) (l : List Nat) : Nat := FF ^^^ runN (FF ^^^ s) l
theorem extN_lt (s : Nat) (l : List Nat) (hs : s < 4294967296) (hl : NB l) : extN s l < 4294967296 := xor_lt _ _ (by decide) (runN_lt l _ (xor_lt _ _ (by decide) hs) hl)
theorem extend_eq (s : Nat) (hs : s < 4294967296) (l : List Int) (hl : Bytes l) (hn : l.length ≤ 17592186044416) : crc_Extend.f (s : Int) l = some ((extN s (nats l) : Nat) : Int) := by
  unfold crc_Extend.f
  rw [if_pos hn, show IntKind.u32.max = ((FF : Nat) : Int) by rfl, xor_u32 FF s (by decide) hs, run_eq l _ (xor_lt _ _ (by decide) hs) hl, xor_u32 FF _ (by decide) (runN_lt _ _ (xor_lt _ _ (by decide) hs) (nats_bytes hl))]
  rfl
def sumN (l : List Int) : Nat := extN 0 (nats l)
theorem sumN_lt (l : List Int) (hl : Bytes l) : sumN l < 4294967296 := extN_lt 0 _ (by decide) (nats_bytes hl)
theorem sum_eq (l : List Int) (hl : Bytes l) (hn : l.length ≤ 17592186044416) : crc_Sum.f l = some ((sumN l : Nat) : Int) := by
  unfold crc_Sum.f
  rw [show (0 : Int) = ((0 : Nat) : Int) by rfl, extend_eq 0 (by decide) l hl hn]
  rfl
theorem runN_inj (l : List Nat) (hl : NB l) : ∀ a b, a < 4294967296 → b < 4294967296 → runN a l = runN b l → a = b := by
  induction l with
  | nil => intro a b _ _ h; exact h
  | cons c l ih =>
    intro a b ha hb h
    have hc := hl c (by simp)
    have h1 := ih (fun x hx => hl x (List.mem_cons_of_mem _ hx)) _ _ (byN_lt a c ha hc) (byN_lt b c hb hc) h
    have h2 := stN_inj 8 _ _ (xor_lt a c ha (by omega)) (xor_lt b c hb (by omega)) h1
    have := congrArg (fun z => z ^^^ c) h2
    simpa [Nat.xor_assoc] using this
end Go.Proofs.YtdnjbakhnnckbaaDoor.Crc
