/- A table of identifiers in memory, and what Len, Name and Find answer of it. -/
import Derived.Test.YtoleenfipnbjkaaWMore
import Derived.Test.YtoleenfipnbjkaaWLast
import Derived.Test.YtoleenfipnbjkaaProg
import Derived.Maps.OwnSet
import Derived.WalkKit
import Derived.Deep.DeepMust
namespace Go.Proofs.Ytoleenfipnbjkaa.Tab
open Go.RowKit Go.Maps Go.Proofs.YtoleenfipnbjkaaW.PrintWords Go.Proofs.YtoleenfipnbjkaaW.PrintLast Go.Proofs.YtoleenfipnbjkaaW.PrintMore
set_option linter.unusedVariables false
set_option linter.unusedSimpArgs false

theorem law9 : Keyed Try.prog 9 := string_keyed Try.underlying9
theorem zero3 (w : World) : (zeroValue 3).run Try.prog w = .ok (.int .i64 0) w := by kernel_rfl
def kl (s : ByteArray) : Lit := .string s.data.toList
/-- The place of the first name that is s. -/
def idx (s : ByteArray) : List ByteArray → Option Nat
  | [] => none
  | x :: l => if x.data = s.data then some 0 else (idx s l).map (· + 1)
/-- What the map holds: each name's place. -/
def MapIs (D : DataW Unit) (names : List ByteArray) : Prop :=
  ∀ s : ByteArray, Maps.has D (kl s) = (idx s names).isSome ∧ D.atKey (kl s) (.lit (.int .i64 0)) = .lit (.int .i64 ((idx s names).getD 0 : Nat))
/-- The table at the block g; its blocks are of F. -/
def TabI (w : World) (base g : Nat) (F : Nat → Prop) (names : List ByteArray) : Prop :=
  (base ≤ g ∧ F g) ∧ names.length ≤ 512 ∧ ∃ (v : Value) (m n : Nat) (D : DataW Unit), w.heap[g]? = some (.cells #[v, .map (some m)] 62 (0, 0)) ∧ (base ≤ m ∧ F m) ∧ Kd.R Kd.string 9 w base (fun k => k ≠ g ∧ F k) v names ∧ w.ownsMap Try.prog 9 (plainElem Try.prog 3) m n D ∧ n ≤ names.length ∧ MapIs D names

set_option maxHeartbeats 400000 in
theorem Len_calls (base g : Nat) (F : Nat → Prop) (names : List ByteArray) (w : World) (h : TabI w base g F names) :
    Calls Try.prog 14 #[.pointer (some ⟨g, 0, none⟩)] w fun e w' => e = .returned (.int .i64 names.length) ∧ w' = w := by
  obtain ⟨hb, hl, v, m, n, D, hg, hm, hR, hown, hn, hD⟩ := h
  obtain ⟨A, c, rfl⟩ := Kd.R_slice hR
  have c0 : w.cell? ⟨g, 0, none⟩ = some (.slice A names.length c) := (blk_cell hg 0).trans rfl
  clear hg hR hown hD
  go_enter Try.func14, Try.ntmps14
  go_wp2
  go_ret
  exact ⟨rfl, rfl⟩
theorem Len_nil (w : World) : Calls Try.prog 14 #[.pointer none] w fun e w' => e = .returned (.int .i64 0) ∧ w' = w := by
  go_enter Try.func14, Try.ntmps14
  go_wp2
  go_ret
  exact ⟨rfl, rfl⟩
set_option maxHeartbeats 400000 in
theorem Find_calls (base g : Nat) (F : Nat → Prop) (names : List ByteArray) (s : ByteArray) (hs : s.size ≤ maxLen) (w : World) (h : TabI w base g F names) :
    Calls Try.prog 16 #[.pointer (some ⟨g, 0, none⟩), .string s] w fun e w' => e = .returned (.tuple #[.int .i64 ((idx s names).getD 0 : Nat), .bool (idx s names).isSome]) ∧ w' = w := by
  obtain ⟨hb, hl, v, m, n, D, hg, hm, hR, hown, hn, hD⟩ := h
  have c1 : w.cell? ⟨g, 1, none⟩ = some (.map (some m)) := (blk_cell hg 1).trans rfl
  have hkey : keyOf Try.prog 9 (.string s) = some (kl s) := Go.WideMaps.keyOf_string_mk Try.underlying9 hs
  have hh := (hD s).1
  have ha := (hD s).2
  clear hg hR hD hb hl hm hn
  go_enter Try.func16, Try.ntmps16
  go_wp2_with (first
    | (at_lookup; refine wpList_lookup_own_ok_int _ rfl _ _ 60 rfl 9 3 .i64 law9 Try.underlying60 Try.underlying3 (zero3 _) m n D rfl hown _ _ rfl hkey ?_; intro c hat hwc))
  go_ret2
  have hc : c = (((idx s names).getD 0 : Nat) : Int) := by
    rw [ha] at hat
    injection hat with hat
    injection hat with _ hat
    exact hat.symm
  subst hc
  exact ⟨rfl, rfl⟩
theorem Find_nil (s : ByteArray) (w : World) : Calls Try.prog 16 #[.pointer none, .string s] w fun e w' => e = .returned (.tuple #[.int .i64 0, .bool false]) ∧ w' = w := by
  go_enter Try.func16, Try.ntmps16
  go_wp2
  go_ret2
  exact ⟨rfl, rfl⟩
end Go.Proofs.Ytoleenfipnbjkaa.Tab
