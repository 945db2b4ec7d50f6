/- What Name answers of a table. -/
import Derived.Test.YtoleenfipnbjkaaT0
namespace Go.Proofs.Ytoleenfipnbjkaa.Tab
open Go.RowKit Go.Maps Go.Proofs.YtoleenfipnbjkaaW.PrintWords Go.Proofs.YtoleenfipnbjkaaW.PrintLast Go.Proofs.YtoleenfipnbjkaaW.PrintMore
set_option linter.unusedVariables false
set_option linter.unusedSimpArgs false
def E0 : ByteArray := ⟨#[]⟩
/-- What Name answers. -/
def nameF (names : List ByteArray) (i : Int) : ByteArray × Bool := if 0 ≤ i ∧ i < names.length then (names.getD i.toNat E0, true) else (E0, false)
set_option maxHeartbeats 400000 in
theorem Name_calls (base g : Nat) (F : Nat → Prop) (names : List ByteArray) (i : Int) (w : World) (h : TabI w base g F names) :
    Calls Try.prog 15 #[.pointer (some ⟨g, 0, none⟩), .int .i64 i] w fun e w' => e = .returned (.tuple #[.string (nameF names i).1, .bool (nameF names i).2]) ∧ w' = w := by
  obtain ⟨hb, hl, v, m, n, D, hg, hm, hR, hown, hn, hD⟩ := h
  by_cases hi : 0 ≤ i
  · by_cases hi2 : i < names.length
    · obtain ⟨gr, cap, rfl, hgb, hgl, hcl⟩ := Kd.R_form hR (by omega)
      have c0 : w.cell? ⟨g, 0, none⟩ = some (.slice (some ⟨gr, 0, none⟩) names.length cap) := (blk_cell hg 0).trans rfl
      obtain ⟨hx, _⟩ := Kd.R_celln E0 hR i hi hi2
      have hx1 : w.cell? ⟨gr, i.toNat, none⟩ = some (.string (names.getD i.toNat E0)) := hx
      have he : nameF names i = (names.getD i.toNat E0, true) := if_pos ⟨hi, hi2⟩
      clear hx
      generalize names.getD i.toNat E0 = s at hx1 he
      rw [he]
      have d1 : decide (i < 0) = false := decide_eq_false (by omega)
      have d2 : decide ((names.length : Int) ≤ i) = false := decide_eq_false (by omega)
      clear hg hR hown hD he hcl
      replace hi := eq_true hi
      replace hi2 := eq_true hi2
      go_enter Try.func15, Try.ntmps15
      go_wp2
      go_ret2
      exact ⟨rfl, rfl⟩
    · obtain ⟨A, c, rfl⟩ := Kd.R_slice hR
      have c0 : w.cell? ⟨g, 0, none⟩ = some (.slice A names.length c) := (blk_cell hg 0).trans rfl
      have he : nameF names i = (E0, false) := if_neg (fun h => hi2 h.2)
      rw [he]
      have d1 : decide (i < 0) = false := decide_eq_false (by omega)
      have d2 : decide ((names.length : Int) ≤ i) = true := decide_eq_true (by omega)
      clear hg hR hown hD he
      go_enter Try.func15, Try.ntmps15
      go_wp2
      go_ret2
      exact ⟨rfl, rfl⟩
  · have he : nameF names i = (E0, false) := if_neg (fun h => hi h.1)
    rw [he]
    have d1 : decide (i < 0) = true := decide_eq_true (by omega)
    clear hg hR hown hD he
    go_enter Try.func15, Try.ntmps15
    go_wp2
    go_ret2
    exact ⟨rfl, rfl⟩
theorem Name_nil (i : Int) (w : World) : Calls Try.prog 15 #[.pointer none, .int .i64 i] w fun e w' => e = .returned (.tuple #[.string E0, .bool false]) ∧ w' = w := by
  go_enter Try.func15, Try.ntmps15
  go_wp2
  go_ret2
  exact ⟨rfl, rfl⟩
end Go.Proofs.Ytoleenfipnbjkaa.Tab
