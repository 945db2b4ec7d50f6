/- Check's and Put's closed answers over lists of numbers. Conditions: numbers of 64 bits, lists of at most 1000000 numbers. -/
import Derived.Test.YtpcicooogiialaaDoorJS0G
import Derived.Test.YtpcicooogiialaaDoorPGx3
namespace Go.Proofs.YtpcicooogiialaaDoor.Jr
open Go.RowKit Go.Proofs.YtpcicooogiialaaDoor.PG Go.Proofs.YtpcicooogiialaaDoor.Wire Go.Proofs.YtpcicooogiialaaDoorW.PrintWords Go.Proofs.YtpcicooogiialaaDoorW.PrintLast Go.Proofs.YtpcicooogiialaaDoorW.PrintMore
set_option linter.unusedVariables false

theorem mny_in {x : Int} (h : mny x) : InI x := by unfold mny at h; unfold InI; omega
structure Okc (a0 a1 a2 a3 a4 a5 : Int) (l : List Int) : Prop where
  k0 : 1 ≤ a0 ∧ a0 ≤ 18
  k1 : 0 ≤ a1 ∧ a1 ≤ 2147483647
  k2 : mny a2 ∧ mny a3 ∧ mny a4 ∧ mny a5
  kl : l.length ≤ 32
  km : ∀ x ∈ l, mny x
theorem chk_ok {a0 a1 a2 a3 a4 a5 : Int} {l : List Int} : chk a0 a1 a2 a3 a4 a5 l = 0 ↔ Okc a0 a1 a2 a3 a4 a5 l := by
  constructor
  · intro h
    unfold chk at h
    by_cases c0 : a0 < 1 ∨ a0 > 18
    · rw [if_pos c0] at h; simp at h
    rw [if_neg c0] at h
    unfold chk1 at h
    by_cases c1 : a1 < 0 ∨ a1 > 2147483647 ∨ ¬ (mny a2 ∧ mny a3 ∧ mny a4 ∧ mny a5)
    · rw [if_pos c1] at h; simp at h
    rw [if_neg c1] at h
    unfold chk2 at h
    by_cases c2 : l.length > 32
    · rw [if_pos c2] at h; simp at h
    rw [if_neg c2] at h
    by_cases c3 : ∀ x ∈ l, mny x
    · exact ⟨by omega, by omega, Decidable.of_not_not (fun x => c1 (Or.inr (Or.inr x))), by omega, c3⟩
    · rw [if_neg c3] at h; simp at h
  · intro ⟨k0, k1, k2, kl, km⟩
    unfold chk chk1 chk2
    have c1 : ¬ (a1 < 0 ∨ a1 > 2147483647 ∨ ¬ (mny a2 ∧ mny a3 ∧ mny a4 ∧ mny a5)) := fun h => h.elim (fun h => by omega) (fun h => h.elim (fun h => by omega) (fun h => h k2))
    rw [if_neg (by omega), if_neg c1, if_neg (by omega), if_pos km]
theorem Okc.six {a0 a1 a2 a3 a4 a5 : Int} {l : List Int} (h : Okc a0 a1 a2 a3 a4 a5 l) : ∀ x ∈ [a0, a1, a2, a3, a4, a5], InI x := by
  obtain ⟨k0, k1, ⟨m2, m3, m4, m5⟩, kl, km⟩ := h
  have h2 := mny_in m2
  have h3 := mny_in m3
  have h4 := mny_in m4
  have h5 := mny_in m5
  intro x hx
  simp only [List.mem_cons, List.not_mem_nil, or_false] at hx
  rcases hx with rfl | rfl | rfl | rfl | rfl | rfl
  · unfold InI; omega
  · unfold InI; omega
  all_goals assumption
theorem Okc.list {a0 a1 a2 a3 a4 a5 : Int} {l : List Int} (h : Okc a0 a1 a2 a3 a4 a5 l) : ∀ x ∈ l, InI x := fun x hx => mny_in (h.km x hx)

/-! ### Put -/
theorem puts_eq (xs : List Int) : ∀ (b : List Int), b.length + 10 * xs.length ≤ 1000000 → (∀ x ∈ xs, InI x) → putsF b xs = some (b ++ encL xs) := by
  induction xs with
  | nil => intro b _ _; simp [putsF, encL]
  | cons x xs ih =>
    intro b hl hi
    have h1 := enc_len x
    rw [List.length_cons] at hl
    rw [putsF, wire_put b x (by omega) (hi x (by simp))]
    simp only [Option.bind_some]
    rw [ih _ (by rw [List.length_append]; omega) (fun y hy => hi y (List.mem_cons_of_mem _ hy)), encL_cons, List.append_assoc]
def contS (a0 a1 a2 a3 a4 a5 : Int) (l : List Int) : List Int := encL [a0, a1, a2, a3, a4, a5] ++ enc l.length ++ encL l
def putS (a0 a1 a2 a3 a4 a5 : Int) (l : List Int) : List Int × Int := if chk a0 a1 a2 a3 a4 a5 l = 0 then (contS a0 a1 a2 a3 a4 a5 l, 0) else ([], chk a0 a1 a2 a3 a4 a5 l)
theorem contS_len (a0 a1 a2 a3 a4 a5 : Int) (l : List Int) : (contS a0 a1 a2 a3 a4 a5 l).length ≤ 70 + 10 * l.length := by
  have h1 := encL_len [a0, a1, a2, a3, a4, a5]
  have h2 := enc_len l.length
  have h3 := encL_len l
  unfold contS
  simp only [List.length_append]
  simp at h1
  omega
theorem contS_bytes {a0 a1 a2 a3 a4 a5 : Int} {l : List Int} (h : Okc a0 a1 a2 a3 a4 a5 l) : Bytes (contS a0 a1 a2 a3 a4 a5 l) :=
  ((encL_bytes _ h.six).append (enc_bytes _ (inI_nat _ (by have := h.kl; omega)))).append (encL_bytes _ h.list)
theorem jput_eq (a0 a1 a2 a3 a4 a5 : Int) (l : List Int) (hl : l.length ≤ 1000000) (k : Nat) (hk : l.length + 200 ≤ k) : journal_Put.f k a0 a1 a2 a3 a4 a5 l = some (putS a0 a1 a2 a3 a4 a5 l) := by
  unfold journal_Put.f putS
  rw [jchk_eq a0 a1 a2 a3 a4 a5 l hl k (by omega)]
  simp only [Option.bind_some]
  by_cases c : chk a0 a1 a2 a3 a4 a5 l = 0
  · have ok := chk_ok.1 c
    rw [if_pos c, if_pos c, puts_eq _ _ (by simp) ok.six]
    simp only [Option.bind_some, List.nil_append]
    have h1 := encL_len [a0, a1, a2, a3, a4, a5]
    simp at h1
    rw [wire_list _ l (by omega) hl ok.list k (by omega)]
    rfl
  · rw [if_neg c, if_neg c]
theorem putS_ok {a0 a1 a2 a3 a4 a5 : Int} {l : List Int} (c : chk a0 a1 a2 a3 a4 a5 l = 0) : putS a0 a1 a2 a3 a4 a5 l = (contS a0 a1 a2 a3 a4 a5 l, 0) := if_pos c
theorem putS_no {a0 a1 a2 a3 a4 a5 : Int} {l : List Int} (c : ¬ chk a0 a1 a2 a3 a4 a5 l = 0) : putS a0 a1 a2 a3 a4 a5 l = ([], chk a0 a1 a2 a3 a4 a5 l) := if_neg c
end Go.Proofs.YtpcicooogiialaaDoor.Jr
