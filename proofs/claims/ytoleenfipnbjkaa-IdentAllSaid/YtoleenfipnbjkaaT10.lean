/- What Name and Find answer, told by what is in the table. -/
import Derived.Test.YtoleenfipnbjkaaT9
import Derived.Test.YtoleenfipnbjkaaP0
namespace Go.Proofs.Ytoleenfipnbjkaa.Tab
open Go.RowKit Go.Maps Go.Proofs.Ytoleenfipnbjkaa.PX Go.Proofs.YtoleenfipnbjkaaW.PrintWords Go.Proofs.YtoleenfipnbjkaaW.PrintLast Go.Proofs.YtoleenfipnbjkaaW.PrintMore
set_option linter.unusedVariables false
set_option linter.unusedSimpArgs false
section
variable {base g : Nat} {F : Nat → Prop} {names : List ByteArray} {w : World}
theorem Name_at (h : TabI w base g F names) {n : Nat} {x : ByteArray} (hx : names[n]? = some x) :
    Calls Try.prog 15 #[.pointer (some ⟨g, 0, none⟩), .int .i64 (n : Int)] w fun e w' => e = .returned (.tuple #[.string x, .bool true]) ∧ w' = w := by
  have hl := (List.getElem?_eq_some_iff.1 hx).1
  have he : nameF names (n : Int) = (x, true) := by
    unfold nameF
    rw [if_pos ⟨by omega, by omega⟩, Int.toNat_natCast, List.getD_eq_getElem?_getD, hx]
    rfl
  have := Name_calls base g F names n w h
  rw [he] at this
  exact this
theorem Name_no (h : TabI w base g F names) {i : Int} (hi : ¬ (0 ≤ i ∧ i < names.length)) :
    Calls Try.prog 15 #[.pointer (some ⟨g, 0, none⟩), .int .i64 i] w fun e w' => e = .returned (.tuple #[.string E0, .bool false]) ∧ w' = w := by
  have he : nameF names i = (E0, false) := if_neg hi
  have := Name_calls base g F names i w h
  rw [he] at this
  exact this
theorem Find_at (h : TabI w base g F names) {s : ByteArray} (hs : s.size ≤ maxLen) {n : Nat} (hx : idx s names = some n) :
    Calls Try.prog 16 #[.pointer (some ⟨g, 0, none⟩), .string s] w fun e w' => e = .returned (.tuple #[.int .i64 (n : Int), .bool true]) ∧ w' = w := by
  have := Find_calls base g F names s hs w h
  rw [hx] at this
  exact this
theorem Find_no (h : TabI w base g F names) {s : ByteArray} (hs : s.size ≤ maxLen) (hx : idx s names = none) :
    Calls Try.prog 16 #[.pointer (some ⟨g, 0, none⟩), .string s] w fun e w' => e = .returned (.tuple #[.int .i64 0, .bool false]) ∧ w' = w := by
  have := Find_calls base g F names s hs w h
  rw [hx] at this
  exact this
end
theorem valid_max {s : ByteArray} (h : validB s = true) : s.size ≤ maxLen := Nat.le_trans (valid_size h) (by decide)
theorem New_ok (A0 : Option Addr) (c0 : Nat) (l0 : List ByteArray) (w : World) (hr0 : Kd.C Kd.string w A0 l0.length l0) (h : (newF l0).1 = 0) :
    Calls Try.prog 13 #[.slice A0 l0.length c0] w fun e w' => ∃ g, e = .returned (.tuple #[.pointer (some ⟨g, 0, none⟩), .int .i64 0]) ∧ TabI w' w.heap.size g (fun k => w.heap.size ≤ k) l0 ∧ Below w.heap.size w w' := by
  have hc := New_calls A0 c0 l0 w hr0
  rw [(newF_ok h).1] at hc
  refine hc.mono ?_
  rintro e w' ⟨v, rfl, hv, hb⟩
  obtain ⟨g, rfl, hT⟩ := NewV.yes hv
  exact ⟨g, rfl, hT, hb⟩
theorem New_no (A0 : Option Addr) (c0 : Nat) (l0 : List ByteArray) (w : World) (hr0 : Kd.C Kd.string w A0 l0.length l0) (h : ¬ (newF l0).1 = 0) :
    Calls Try.prog 13 #[.slice A0 l0.length c0] w fun e w' => e = .returned (.tuple #[.pointer none, .int .i64 (newF l0).1]) ∧ Below w.heap.size w w' := by
  refine (New_calls A0 c0 l0 w hr0).mono ?_
  rintro e w' ⟨v, rfl, hv, hb⟩
  unfold NewV at hv
  rw [if_neg h] at hv
  exact ⟨by rw [hv], hb⟩
end Go.Proofs.Ytoleenfipnbjkaa.Tab
