/- New of names. -/
import Derived.Test.YtoleenfipnbjkaaT4
namespace Go.Proofs.Ytoleenfipnbjkaa.Tab
open Go.RowKit Go.Maps Go.Proofs.Ytoleenfipnbjkaa.PX Go.Proofs.YtoleenfipnbjkaaW.PrintWords Go.Proofs.YtoleenfipnbjkaaW.PrintLast Go.Proofs.YtoleenfipnbjkaaW.PrintMore
set_option linter.unusedVariables false
set_option linter.unusedSimpArgs false
/-- What Add answers, and the names behind it. -/
def addF (names : List ByteArray) (s : ByteArray) : Int × Int × List ByteArray :=
  if validB s = false then (0, 5, names) else if (idx s names).isSome = true then (0, 6, names) else if 512 ≤ names.length then (0, 8, names) else ((names.length : Int), 0, names ++ [s])
theorem Add_calls (base g : Nat) (F : Nat → Prop) (names : List ByteArray) (s : ByteArray) (w : World) (h : TabI w base g F names) (hF : ∀ k, w.heap.size ≤ k → F k) :
    Calls Try.prog 17 #[.pointer (some ⟨g, 0, none⟩), .string s] w fun e w' => e = .returned (.tuple #[.int .i64 (addF names s).1, .int .i64 (addF names s).2.1]) ∧ TabI w' base g F (addF names s).2.2 ∧ Below base w w' ∧ Keeps F w w' := by
  have hle : base ≤ w.heap.size := Nat.le_trans h.lt.2 (Nat.le_of_lt h.lt.1)
  unfold addF
  split
  · rename_i hv
    exact (Add_bad base g F names s w h hv).mono fun e w' ⟨h1, h2, h3⟩ => ⟨h1, h2, h3.mono hle, Keeps.below h3⟩
  · rename_i hv
    have hv' : validB s = true := by simpa using hv
    split
    · rename_i hi
      exact (Add_there base g F names s w h hv' hi).mono fun e w' ⟨h1, h2, h3⟩ => ⟨h1, h2, h3.mono hle, Keeps.below h3⟩
    · rename_i hi
      have hi' : (idx s names).isSome = false := by simpa using hi
      split
      · rename_i hf
        exact (Add_full base g F names s w h hv' hi' hf).mono fun e w' ⟨h1, h2, h3⟩ => ⟨h1, h2, h3.mono hle, Keeps.below h3⟩
      · rename_i hf
        exact Add_new base g F names s w h hF hv' hi' (by omega)
end Go.Proofs.Ytoleenfipnbjkaa.Tab
