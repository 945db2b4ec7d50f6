/- What Add answers of a table and makes of it. -/
import Derived.Test.YtoleenfipnbjkaaT2
import Derived.Test.YtoleenfipnbjkaaV0
import Derived.Maps.OwnOps
import Derived.StillTailTactics
namespace Go.Proofs.Ytoleenfipnbjkaa.Tab
open Go.RowKit Go.Maps Go.Proofs.Ytoleenfipnbjkaa.PX Go.Proofs.YtoleenfipnbjkaaW.PrintWords Go.Proofs.YtoleenfipnbjkaaW.PrintLast Go.Proofs.YtoleenfipnbjkaaW.PrintMore
set_option linter.unusedVariables false
set_option linter.unusedSimpArgs false
theorem valid_size {s : ByteArray} (h : validB s = true) : s.size ≤ 32 := by
  unfold validB at h
  rw [Bool.and_eq_true] at h
  have := of_decide_eq_true h.1
  omega
theorem Valid_calls (s : ByteArray) (w : World) : Calls Try.prog 10 #[.string s] w fun e w' => e = .returned (.bool (validB s)) ∧ Below w.heap.size w w' := by
  refine (ident_Valid.calls 40 s _ w (valid_p s 40 (by decide))).mono ?_
  rintro e w' ⟨h1, h2⟩
  exact ⟨h1, h2.below⟩
theorem Add_nil (s : ByteArray) (w : World) : Calls Try.prog 17 #[.pointer none, .string s] w fun e w' => e = .returned (.tuple #[.int .i64 0, .int .i64 14]) ∧ w' = w := by
  go_enter Try.func17, Try.ntmps17
  go_wp2
  go_ret2
  exact ⟨rfl, rfl⟩
set_option maxHeartbeats 400000 in
theorem Add_bad (base g : Nat) (F : Nat → Prop) (names : List ByteArray) (s : ByteArray) (w : World) (h : TabI w base g F names) (hv : validB s = false) :
    Calls Try.prog 17 #[.pointer (some ⟨g, 0, none⟩), .string s] w fun e w' => e = .returned (.tuple #[.int .i64 0, .int .i64 5]) ∧ TabI w' base g F names ∧ Below w.heap.size w w' := by
  have HI := Aside0.mk h
  clear h
  go_enter Try.func17, Try.ntmps17
  go_wp2_with (first | (go_at_call 10; (with_reducible refine (Valid_calls s _).mono ?_); rintro e w1 ⟨rfl, hb⟩; have HB := Aside0.mk hb; clear hb))
  go_ret2
  exact ⟨rfl, HI.out.below HB.out, HB.out⟩
set_option maxHeartbeats 400000 in
theorem Add_there (base g : Nat) (F : Nat → Prop) (names : List ByteArray) (s : ByteArray) (w : World) (h : TabI w base g F names) (hv : validB s = true) (hi : (idx s names).isSome = true) :
    Calls Try.prog 17 #[.pointer (some ⟨g, 0, none⟩), .string s] w fun e w' => e = .returned (.tuple #[.int .i64 0, .int .i64 6]) ∧ TabI w' base g F names ∧ Below w.heap.size w w' := by
  have HI := Aside0.mk h
  have hkey : keyOf Try.prog 9 (.string s) = some (kl s) := Go.WideMaps.keyOf_string_mk Try.underlying9 (Nat.le_trans (valid_size hv) (by decide))
  clear h
  go_enter Try.func17, Try.ntmps17
  go_wp2_with (first | (go_at_call 10; (with_reducible refine (Valid_calls s _).mono ?_); rintro e w1 ⟨rfl, hb⟩; have HB := Aside0.mk hb; obtain ⟨_, hl_, v, m, n, D, hg_, _, hR_, hown, _, hD⟩ := HI.out.below hb; have c1 : w1.cell? ⟨g, 1, none⟩ = some (.map (some m)) := (blk_cell hg_ 1).trans rfl; have hh := (hD s).1; clear hb hg_ hR_ hD) | (at_lookup; refine wpList_lookup_own_ok_int _ rfl _ _ 60 rfl 9 3 .i64 law9 Try.underlying60 Try.underlying3 (zero3 _) m n D rfl hown _ _ rfl hkey ?_; intro c hat hwc))
  go_ret2
  exact ⟨rfl, HI.out.below HB.out, HB.out⟩
set_option maxHeartbeats 400000 in
theorem Add_full (base g : Nat) (F : Nat → Prop) (names : List ByteArray) (s : ByteArray) (w : World) (h : TabI w base g F names) (hv : validB s = true) (hi : (idx s names).isSome = false) (hf : 512 ≤ names.length) :
    Calls Try.prog 17 #[.pointer (some ⟨g, 0, none⟩), .string s] w fun e w' => e = .returned (.tuple #[.int .i64 0, .int .i64 8]) ∧ TabI w' base g F names ∧ Below w.heap.size w w' := by
  have HI := Aside0.mk h
  have hkey : keyOf Try.prog 9 (.string s) = some (kl s) := Go.WideMaps.keyOf_string_mk Try.underlying9 (Nat.le_trans (valid_size hv) (by decide))
  have d1 : decide ((512 : Int) ≤ (names.length : Int)) = true := decide_eq_true (by omega)
  clear h hf
  go_enter Try.func17, Try.ntmps17
  go_wp2_with (first | (go_at_call 10; (with_reducible refine (Valid_calls s _).mono ?_); rintro e w1 ⟨rfl, hb⟩; have HB := Aside0.mk hb; obtain ⟨_, hl_, v, m, n, D, hg_, _, hR_, hown, _, hD⟩ := HI.out.below hb; obtain ⟨A, cp, rfl⟩ := Kd.R_slice hR_; have c0 : w1.cell? ⟨g, 0, none⟩ = some (.slice A names.length cp) := (blk_cell hg_ 0).trans rfl; have c1 : w1.cell? ⟨g, 1, none⟩ = some (.map (some m)) := (blk_cell hg_ 1).trans rfl; have hh := (hD s).1; clear hb hg_ hR_ hD hl_) | (at_lookup; refine wpList_lookup_own_ok_int _ rfl _ _ 60 rfl 9 3 .i64 law9 Try.underlying60 Try.underlying3 (zero3 _) m n D rfl hown _ _ rfl hkey ?_; intro c hat hwc))
  go_ret2
  exact ⟨rfl, HI.out.below HB.out, HB.out⟩
end Go.Proofs.Ytoleenfipnbjkaa.Tab
