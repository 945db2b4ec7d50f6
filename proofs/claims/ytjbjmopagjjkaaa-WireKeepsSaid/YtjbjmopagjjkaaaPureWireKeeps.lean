/- For any bytes, integer, string and list PutInt, PutText and PutList of a part of a slice leave the bytes behind that part as they were, and what they return begins with it. Conditions: none. -/
import Derived.Test.YtjbjmopagjjkaaaPKx3
namespace Go.Proofs.Ytjbjmopagjjkaaa.Pure
open Go.RowKit Go.Proofs.Ytjbjmopagjjkaaa.PK Go.Proofs.YtjbjmopagjjkaaaW.PrintWords Go.Proofs.YtjbjmopagjjkaaaW.PrintLast
set_option linter.unusedVariables false
namespace Keeps
def InI (n : Int) : Prop := -9223372036854775808 ≤ n ∧ n < 9223372036854775808
theorem inI_of_wf (x : Int) (h : (Lit.int .i64 x).wf = true) : InI x := by
  simp [Lit.wf, IntKind.min, IntKind.max, IntKind.signed, IntKind.bits] at h
  unfold InI
  omega
theorem awake_true (k : Nat) (hk : 40 ≤ k) : papermilllaw08_awake.f k = some true := by
  have h : papermilllaw08_awake.f 40 = some true := by decide +kernel
  exact at_rounds (fun k => papermilllaw08_awake.mono k) hk h
theorem wrap64_id {n : Int} (h0 : -9223372036854775808 ≤ n) (h1 : n < 9223372036854775808) : wrap64 n = n := by unfold wrap64; omega
theorem rd_cons (b : List Int) (i : Nat) (h : i < b.length) : b.drop i = rd b (i : Int) :: b.drop (i + 1) := by
  rw [List.drop_eq_getElem_cons h]
  simp [rd, List.getElem?_eq_getElem h]
theorem encU_len (f : Nat) (c : Int) : 1 ≤ (encU f c).length ∧ (encU f c).length ≤ f + 1 := by
  induction f generalizing c with
  | zero => simp [encU]
  | succ f ih =>
    simp only [encU]
    split
    · have := ih (c / 128)
      simp
      omega
    · simp
def enc (n : Int) : List Int := encU 9 (codeOf n)
def encL (l : List Int) : List Int := l.flatMap enc
theorem enc_len (n : Int) : 1 ≤ (enc n).length ∧ (enc n).length ≤ 10 := encU_len 9 _
theorem encL_cons (n : Int) (l : List Int) : encL (n :: l) = enc n ++ encL l := by simp [encL]
theorem wire_app (l : List Int) (n : Int) (hl : l.length ≤ 140737488355000) (hn : InI n) : wire_appended.f l n = some (l ++ enc n) := by
  unfold wire_appended.f InI at *
  rw [if_pos ⟨hl, hn⟩]
  rfl
theorem wire_put (l : List Int) (n : Int) (hl : l.length ≤ 140737488355000) (hn : InI n) : wire_PutInt.f l n = some (l ++ enc n) := by
  unfold wire_PutInt.f
  rw [wire_app l n hl hn]
  rfl
theorem inI_nat (n : Nat) (h : n ≤ 140737488351232) : InI (n : Int) := by unfold InI; omega
theorem wire_text (l : List Int) (s : ByteArray) (hl : l.length ≤ 1000000) (hs : s.size ≤ 1000000) : wire_PutText.f l s = some (l ++ enc s.size ++ bytesOf s) := by
  unfold wire_PutText.f
  rw [wire_app l _ (by omega) (inI_nat _ (by omega))]
  have := enc_len s.size
  simp only [Option.bind_some]
  rw [if_pos (by simp; omega)]
theorem wire_list_l (l : List Int) (hl : l.length ≤ 1000000) (hi : ∀ x ∈ l, InI x) (d : Nat) : ∀ (i k : Nat) (acc : List Int), i ≤ l.length → l.length - i = d → acc.length + 10 * d ≤ 100000000 → d + 1 ≤ k → wire_PutList.l0 k acc l (l.length : Int) (i : Int) = some (acc ++ encL (l.drop i)) := by
  induction d with
  | zero =>
    intro i k acc h0 h1 ha hk
    obtain ⟨k, rfl⟩ : ∃ m, k = m + 1 := ⟨k - 1, by omega⟩
    simp only [wire_PutList.l0]
    rw [if_neg (by omega), List.drop_eq_nil_of_le (by omega)]
    simp [encL]
  | succ d ih =>
    intro i k acc h0 h1 ha hk
    obtain ⟨k, rfl⟩ : ∃ m, k = m + 1 := ⟨k - 1, by omega⟩
    have hlt : i < l.length := by omega
    simp only [wire_PutList.l0]
    rw [if_pos (by omega), if_pos (by omega), if_pos (by omega), wire_app acc _ (by omega) (hi _ (by simp [rd, List.getElem?_eq_getElem hlt]))]
    simp only [Option.bind_some]
    have := enc_len (rd l i)
    rw [show wrap64 ((i : Int) + 1) = ((i + 1 : Nat) : Int) by rw [wrap64_id (by omega) (by omega)]; omega, ih (i + 1) k _ (by omega) (by omega) (by simp; omega) (by omega), rd_cons l i hlt, encL_cons, List.append_assoc]
theorem wire_list (b l : List Int) (hb : b.length ≤ 1000000) (hl : l.length ≤ 1000000) (hi : ∀ x ∈ l, InI x) (k : Nat) (hk : l.length + 40 ≤ k) : wire_PutList.f k b l = some (b ++ enc l.length ++ encL l) := by
  unfold wire_PutList.f
  rw [wire_app b _ (by omega) (inI_nat _ (by omega))]
  simp only [Option.bind_some]
  have := enc_len l.length
  have h := wire_list_l l hl hi l.length 0 k (b ++ enc l.length) (Nat.zero_le _) rfl (by simp; omega) (by omega)
  rw [List.drop_zero] at h
  exact h
theorem same_refl (l : List Int) : papermillref08_Same.f l l = some true := by
  unfold papermillref08_Same.f
  simp
end Keeps
open Keeps
theorem WireKeeps : papermilllaw08_WireKeeps.Pure := by
  intro l0 a1 a2 l3 hl1 hl2 hw hw1 hs hl3 hl4 hw3
  have hi := inI_of_wf a1 hw1
  have hi3 : ∀ x ∈ l3, InI x := fun x hx => inI_of_wf x (hw3 x hx)
  obtain ⟨K, hK⟩ : ∃ K : Nat, 1000 ≤ K := ⟨1000, Nat.le_refl _⟩
  refine ⟨K + 1, ?_⟩
  have key : papermilllaw08_WireKeeps.j0 (K + 1) l0 a1 a2 l3 true = some true := by
    simp only [papermilllaw08_WireKeeps.j0, if_true]
    rw [awake_true K (by omega)]
    rfl
  unfold papermilllaw08_WireKeeps.f
  split
  · exact key
  · split
    · exact key
    · by_cases h3 : (l3.length : Int) > 100
      · rw [decide_eq_true h3]
        exact key
      · rw [decide_eq_false h3]
        have e0 := enc_len a1
        have e1 := enc_len a2.size
        have e2 := enc_len l3.length
        simp only [papermilllaw08_WireKeeps.j0]
        rw [if_neg (by decide)]
        refine Option.bind_eq_some_iff.mpr ⟨_, rfl, ?_⟩
        rw [if_pos (by simp only [List.length_nil]; omega)]
        refine Option.bind_eq_some_iff.mpr ⟨_, rfl, ?_⟩
        refine Option.bind_eq_some_iff.mpr ⟨_, rfl, ?_⟩
        rw [if_pos (by simp only [List.length_append, List.length_nil, List.length_cons]; omega)]
        refine Option.bind_eq_some_iff.mpr ⟨_, rfl, ?_⟩
        rw [if_pos (by omega), if_pos (by simp only [List.length_append, List.length_nil, List.length_cons]; omega)]
        have ht : List.take (((l0.length : Int)).toNat) (([] : List Int) ++ l0 ++ [1, 2, 3, 4]) = l0 := by
          rw [show ((l0.length : Int)).toNat = l0.length by omega, List.nil_append, List.take_left' rfl]
        rw [ht]
        refine Option.bind_eq_some_iff.mpr ⟨_, wire_put l0 a1 (by omega) hi, ?_⟩
        refine Option.bind_eq_some_iff.mpr ⟨_, wire_text l0 a2 (by omega) (by omega), ?_⟩
        refine Option.bind_eq_some_iff.mpr ⟨_, wire_list l0 l3 (by omega) (by omega) hi3 K (by omega), ?_⟩
        refine Option.bind_eq_some_iff.mpr ⟨_, rfl, ?_⟩
        rw [if_pos (by simp only [List.length_nil]; omega)]
        refine Option.bind_eq_some_iff.mpr ⟨_, rfl, ?_⟩
        refine Option.bind_eq_some_iff.mpr ⟨_, rfl, ?_⟩
        rw [if_pos (by simp only [List.length_append, List.length_nil, List.length_cons]; omega)]
        refine Option.bind_eq_some_iff.mpr ⟨_, same_refl _, ?_⟩
        rw [if_pos rfl, if_pos (by simp only [List.length_append]; omega), if_pos (by simp only [List.length_append]; omega), if_pos (by simp only [List.length_append]; omega), if_pos (by simp only [List.length_append]; omega)]
        have hx : List.take (((l0.length : Int)).toNat) (l0 ++ enc a1) = l0 := by
          rw [show ((l0.length : Int)).toNat = l0.length by omega, List.take_left' rfl]
        rw [hx]
        refine Option.bind_eq_some_iff.mpr ⟨_, same_refl _, ?_⟩
        rw [if_pos rfl]
        refine Option.bind_eq_some_iff.mpr ⟨_, awake_true K (by omega), rfl⟩
end Go.Proofs.Ytjbjmopagjjkaaa.Pure
