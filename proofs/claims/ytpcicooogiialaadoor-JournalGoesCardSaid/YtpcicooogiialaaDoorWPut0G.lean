/- PutInt, PutText, PutList, TakeText and TakeList of the program and of the reference, over lists of numbers. -/
import Derived.Test.YtpcicooogiialaaDoorWTake0G
import Derived.Test.YtpcicooogiialaaDoorPGx2
import Derived.Test.YtpcicooogiialaaDoorPGx3
namespace Go.Proofs.YtpcicooogiialaaDoor.Wire
open Go.RowKit Go.Proofs.YtpcicooogiialaaDoor.PG Go.Proofs.YtpcicooogiialaaDoorW.PrintWords Go.Proofs.YtpcicooogiialaaDoorW.PrintLast Go.Proofs.YtpcicooogiialaaDoorW.PrintMore
set_option linter.unusedVariables false

def enc (n : Int) : List Int := encU 9 (codeOf n)
def encL (l : List Int) : List Int := l.flatMap enc
theorem fit9 (u : Int) (h1 : u < 18446744073709551616) : Fit 9 u := by simp only [Fit]; omega
theorem enc_len (n : Int) : 1 ≤ (enc n).length ∧ (enc n).length ≤ 10 := encU_len 9 _
theorem enc_bytes (n : Int) (h : InI n) : Bytes (enc n) := by
  obtain ⟨h0, h1⟩ := code_range n h
  exact encU_bytes 9 _ h0 (fit9 _ h1)
theorem encL_cons (n : Int) (l : List Int) : encL (n :: l) = enc n ++ encL l := by simp [encL]
theorem encL_len (l : List Int) : (encL l).length ≤ 10 * l.length := by
  induction l with
  | nil => simp [encL]
  | cons n l ih =>
    have := (enc_len n).2
    rw [encL_cons]
    simp
    omega
theorem encL_bytes (l : List Int) (h : ∀ x ∈ l, InI x) : Bytes (encL l) := by
  induction l with
  | nil => intro x hx; simp [encL] at hx
  | cons n l ih =>
    rw [encL_cons]
    exact (enc_bytes n (h n (by simp))).append (ih (fun x hx => h x (List.mem_cons_of_mem _ hx)))
theorem wire_app (l : List Int) (n : Int) (hl : l.length ≤ 140737488355000) (hn : InI n) : wire_appended.f l n = some (l ++ enc n) := by
  unfold wire_appended.f InI at *
  rw [if_pos ⟨hl, hn⟩]
  rfl
theorem wire_put (l : List Int) (n : Int) (hl : l.length ≤ 140737488355000) (hn : InI n) : wire_PutInt.f l n = some (l ++ enc n) := by
  unfold wire_PutInt.f
  rw [wire_app l n hl hn]
  rfl
theorem bytesOf_len (s : ByteArray) : (bytesOf s).length = s.size := bytesOf_length s
theorem inI_nat (n : Nat) (h : n ≤ 140737488351232) : InI (n : Int) := by unfold InI; omega
theorem wire_list_l (l : List Int) (hl : l.length ≤ 1000000) (hi : ∀ x ∈ l, InI x) (d : Nat) : ∀ (i k : Nat) (acc : List Int), i ≤ l.length → l.length - i = d → acc.length + 10 * d ≤ 100000000 → d + 1 ≤ k → wire_PutList.l0 k acc l (l.length : Int) (i : Int) = some (acc ++ encL (l.drop i)) := by
  induction d with
  | zero =>
    intro i k acc h0 h1 ha hk
    obtain ⟨k, rfl⟩ : ∃ m, k = m + 1 := ⟨k - 1, by omega⟩
    simp only [wire_PutList.l0]
    rw [if_neg (by omega), List.drop_eq_nil_of_le (by omega)]
    simp [encL]
  | succ d ih =>
    intro i k acc h0 h1 ha hk
    obtain ⟨k, rfl⟩ : ∃ m, k = m + 1 := ⟨k - 1, by omega⟩
    have hlt : i < l.length := by omega
    simp only [wire_PutList.l0]
    rw [if_pos (by omega), if_pos (by omega), if_pos (by omega), wire_app acc _ (by omega) (hi _ (by simp [rd, List.getElem?_eq_getElem hlt]))]
    simp only [Option.bind_some]
    have := enc_len (rd l i)
    rw [show wrap64 ((i : Int) + 1) = ((i + 1 : Nat) : Int) by rw [wrap64_id (by omega) (by omega)]; omega, ih (i + 1) k _ (by omega) (by omega) (by simp; omega) (by omega), rd_cons l i hlt, encL_cons, List.append_assoc]
theorem wire_list (b l : List Int) (hb : b.length ≤ 1000000) (hl : l.length ≤ 1000000) (hi : ∀ x ∈ l, InI x) (k : Nat) (hk : l.length + 40 ≤ k) : wire_PutList.f k b l = some (b ++ enc l.length ++ encL l) := by
  unfold wire_PutList.f
  rw [wire_app b _ (by omega) (inI_nat _ (by omega))]
  simp only [Option.bind_some]
  have := enc_len l.length
  have h := wire_list_l l hl hi l.length 0 k (b ++ enc l.length) (Nat.zero_le _) rfl (by simp; omega) (by omega)
  rw [List.drop_zero] at h
  exact h
/-! ### Taken -/
theorem tkI_cases (b : List Int) (hb : Bytes b) : (∃ e, e ≠ 0 ∧ tkI b = (0, 0, e)) ∨ ∃ (x : Int) (m : Nat), tkI b = (x, (m : Int), 0) ∧ InI x ∧ 1 ≤ m ∧ m ≤ b.length ∧ b.take m = enc x := by
  obtain ⟨x, n, e, he⟩ : ∃ x n e, tkI b = (x, n, e) := ⟨(tkI b).1, _, _, rfl⟩
  by_cases h0 : e = 0
  · subst h0
    obtain ⟨m, h1, h2, h3, h4, h5⟩ := tkI_once b hb x n he
    subst h4
    exact .inr ⟨x, m, he, h1, h2, h3, h5⟩
  · have h1 := tk_err 10 0 0 b (by show (tkI b).2.2 ≠ 0; rw [he]; exact h0)
    have h2 : tkI b = (0, 0, (tkI b).2.2) := h1
    rw [he] at h2
    exact .inl ⟨e, h0, by rw [he]; exact h2⟩
theorem bytes_of_wf (l : List Int) (h : ∀ x ∈ l, (Lit.int .u8 x).wf = true) : Bytes l := by
  intro x hx
  have := h x hx
  simp [Lit.wf, IntKind.min, IntKind.max, IntKind.signed, IntKind.bits] at this
  omega
theorem inI_of_wf (x : Int) (h : (Lit.int .i64 x).wf = true) : InI x := by
  simp [Lit.wf, IntKind.min, IntKind.max, IntKind.signed, IntKind.bits] at h
  unfold InI
  omega
theorem encL_ge (l : List Int) : l.length ≤ (encL l).length := by
  induction l with
  | nil => simp
  | cons n l ih =>
    have := (enc_len n).1
    rw [encL_cons]
    simp
    omega
theorem enc_taken (n : Int) (h : InI n) (rest : List Int) : tkI (enc n ++ rest) = (n, ((enc n).length : Int), 0) := by
  obtain ⟨h0, h1⟩ := code_range n h
  unfold enc
  rw [tkI_enc _ h0 h1, dec_code]
theorem bytesOf_strOfNums (l : List Int) (h : Bytes l) : bytesOf (strOfNums l) = l := by
  unfold bytesOf
  rw [strOfNums_data, List.map_map]
  conv => rhs; rw [← List.map_id l]
  refine List.map_congr_left fun x hx => ?_
  obtain ⟨h0, h1⟩ := h x hx
  simp
  omega
theorem strOfNums_bytesOf (s : ByteArray) : strOfNums (bytesOf s) = s := by
  unfold bytesOf strOfNums
  rw [List.map_map]
  have : (s.data.toList.map ((fun n : Int => UInt8.ofNat n.toNat) ∘ fun b : UInt8 => (b.toNat : Int))) = s.data.toList := by
    conv => rhs; rw [← List.map_id s.data.toList]
    refine List.map_congr_left fun x _ => ?_
    simp
  rw [this]
theorem bytesOf_bytes (s : ByteArray) : Bytes (bytesOf s) := by
  intro x hx
  unfold bytesOf at hx
  obtain ⟨b, _, rfl⟩ := List.mem_map.1 hx
  have := b.toNat_lt
  omega
end Go.Proofs.YtpcicooogiialaaDoor.Wire
