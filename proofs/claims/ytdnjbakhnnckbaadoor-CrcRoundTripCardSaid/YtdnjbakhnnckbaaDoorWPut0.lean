/- PutInt, PutText, PutList, TakeText and TakeList of the program and of the reference, over lists of numbers. -/
import Derived.Test.YtdnjbakhnnckbaaDoorWTake0
import Derived.Test.YtdnjbakhnnckbaaDoorPXx1
import Derived.Test.YtdnjbakhnnckbaaDoorPXx6
namespace Go.Proofs.YtdnjbakhnnckbaaDoor.Wire
open Go.RowKit Go.Proofs.YtdnjbakhnnckbaaDoor.PX Go.Proofs.YtdnjbakhnnckbaaDoorW.PrintWords Go.Proofs.YtdnjbakhnnckbaaDoorW.PrintLast Go.Proofs.YtdnjbakhnnckbaaDoorW.PrintMore
set_option linter.unusedVariables false

def enc (n : Int) : List Int := encU 9 (codeOf n)
theorem fit9 (u : Int) (h1 : u < 18446744073709551616) : Fit 9 u := by simp only [Fit]; omega
theorem enc_len (n : Int) : 1 ≤ (enc n).length ∧ (enc n).length ≤ 10 := encU_len 9 _
theorem enc_bytes (n : Int) (h : InI n) : Bytes (enc n) := by
  obtain ⟨h0, h1⟩ := code_range n h
  exact encU_bytes 9 _ h0 (fit9 _ h1)
theorem wire_app (l : List Int) (n : Int) (hl : l.length ≤ 140737488355000) (hn : InI n) : wire_appended.f l n = some (l ++ enc n) := by
  unfold wire_appended.f InI at *
  rw [if_pos ⟨hl, hn⟩]
  rfl
theorem wire_put (l : List Int) (n : Int) (hl : l.length ≤ 140737488355000) (hn : InI n) : wire_PutInt.f l n = some (l ++ enc n) := by
  unfold wire_PutInt.f
  rw [wire_app l n hl hn]
  rfl
theorem ref_code (n : Int) (hn : InI n) : papermillref08_code.f n = some (codeOf n) := by
  unfold papermillref08_code.f codeOf InI at *
  split
  · rw [wrap64_id (n := n + 1) (by omega) (by omega), wrap64_id (n := -(n + 1)) (by omega) (by omega)]
    simp only [IntKind.wrap_u64]
    congr 1
    omega
  · simp only [IntKind.wrap_u64]
    congr 1
    omega
theorem ref_put_l (f : Nat) : ∀ (xs : List Int) (u : Int) (k : Nat), 0 ≤ u → u < 18446744073709551616 → Fit f u → xs.length + f < 140737488355000 → f + 1 ≤ k → papermillref08_PutInt.l0 k xs u = some (xs ++ encU f u) := by
  induction f with
  | zero =>
    intro xs u k h0 h1 hF hl hk
    obtain ⟨k, rfl⟩ : ∃ m, k = m + 1 := ⟨k - 1, by omega⟩
    simp only [Fit] at hF
    simp only [papermillref08_PutInt.l0, encU]
    rw [if_neg (by omega), if_pos (by omega), show u % 256 = u by omega]
  | succ f ih =>
    intro xs u k h0 h1 hF hl hk
    obtain ⟨k, rfl⟩ : ∃ m, k = m + 1 := ⟨k - 1, by omega⟩
    simp only [papermillref08_PutInt.l0, encU]
    by_cases hu : u ≥ 128
    · rw [if_pos hu, if_pos hu, if_pos (by omega), Int.tmod_eq_emod_of_nonneg h0, Int.tdiv_eq_ediv_of_nonneg h0, show IntKind.u64.wrap (u / 128) = u / 128 by rw [IntKind.wrap_u64]; omega, show (u % 128 + 128) % 256 = u % 128 + 128 by omega]
      rw [ih (xs ++ [u % 128 + 128]) (u / 128) k (by omega) (by omega) hF (by simp; omega) (by omega)]
      simp
    · rw [if_neg hu, if_neg hu, if_pos (by omega), show u % 256 = u by omega]
theorem ref_put (l : List Int) (n : Int) (hl : l.length ≤ 140737488350000) (hn : InI n) (k : Nat) (hk : 40 ≤ k) : papermillref08_PutInt.f k l n = some (l ++ enc n) := by
  obtain ⟨h0, h1⟩ := code_range n hn
  unfold papermillref08_PutInt.f
  simp only [Option.bind_some, List.nil_append, List.length_nil, Nat.zero_add]
  rw [if_pos (by omega), ref_code n hn]
  simp only [Option.bind_some]
  exact ref_put_l 9 l _ k h0 h1 (fit9 _ h1) (by omega) (by omega)
theorem inI_nat (n : Nat) (h : n ≤ 140737488351232) : InI (n : Int) := by unfold InI; omega
theorem tkI_cases (b : List Int) (hb : Bytes b) : (∃ e, e ≠ 0 ∧ tkI b = (0, 0, e)) ∨ ∃ (x : Int) (m : Nat), tkI b = (x, (m : Int), 0) ∧ InI x ∧ 1 ≤ m ∧ m ≤ b.length ∧ b.take m = enc x := by
  obtain ⟨x, n, e, he⟩ : ∃ x n e, tkI b = (x, n, e) := ⟨(tkI b).1, _, _, rfl⟩
  by_cases h0 : e = 0
  · subst h0
    obtain ⟨m, h1, h2, h3, h4, h5⟩ := tkI_once b hb x n he
    subst h4
    exact .inr ⟨x, m, he, h1, h2, h3, h5⟩
  · have h1 := tk_err 10 0 0 b (by show (tkI b).2.2 ≠ 0; rw [he]; exact h0)
    have h2 : tkI b = (0, 0, (tkI b).2.2) := h1
    rw [he] at h2
    exact .inl ⟨e, h0, by rw [he]; exact h2⟩
/-- The length at the beginning of bytes. -/
theorem bytes_of_wf (l : List Int) (h : ∀ x ∈ l, (Lit.int .u8 x).wf = true) : Bytes l := by
  intro x hx
  have := h x hx
  simp [Lit.wf, IntKind.min, IntKind.max, IntKind.signed, IntKind.bits] at this
  omega
theorem inI_of_wf (x : Int) (h : (Lit.int .i64 x).wf = true) : InI x := by
  simp [Lit.wf, IntKind.min, IntKind.max, IntKind.signed, IntKind.bits] at h
  unfold InI
  omega
theorem enc_taken (n : Int) (h : InI n) (rest : List Int) : tkI (enc n ++ rest) = (n, ((enc n).length : Int), 0) := by
  obtain ⟨h0, h1⟩ := code_range n h
  unfold enc
  rw [tkI_enc _ h0 h1, dec_code]
end Go.Proofs.YtdnjbakhnnckbaaDoor.Wire
