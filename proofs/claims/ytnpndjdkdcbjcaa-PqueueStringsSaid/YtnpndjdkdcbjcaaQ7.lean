/- The orders; the chapter's values. -/
import Derived.Test.YtnpndjdkdcbjcaaQ6
namespace Go.Proofs.Ytnpndjdkdcbjcaa.Pq
open Go.RowKit Go.Proofs.Ytnpndjdkdcbjcaa.PX Go.Proofs.YtnpndjdkdcbjcaaW.PrintWords Go.Proofs.YtnpndjdkdcbjcaaW.PrintLast Go.Proofs.YtnpndjdkdcbjcaaW.PrintMore
set_option linter.unusedVariables false
set_option linter.unusedSimpArgs false
/-- What an order looks at. -/
def keyM (mode : Int) (a : S27) : Int := if mode = 0 then a.f0 else if mode = 1 then -a.f0 else if mode = 2 then wrap64 (Int.tdiv a.f0 10) else 0
def ltM (mode : Int) (a b : S27) : Bool := decide (keyM mode a < keyM mode b)
def KM (mode : Int) : Nat := if mode = 0 then 25 else if mode = 1 then 32 else if mode = 2 then 31 else 33
theorem swo_key {A : Type} (f : A → Int) : Swo (fun a b => decide (f a < f b)) :=
  ⟨fun a b h => by have := of_decide_eq_true h; exact decide_eq_false (by omega), fun a b c h1 h2 => by have := of_decide_eq_false h1; have := of_decide_eq_false h2; exact decide_eq_false (by omega)⟩
theorem swo_ltM (mode : Int) : Swo (ltM mode) := swo_key (keyM mode)
theorem lessM (mode : Int) : LessI (KM mode) (ltM mode) := by
  unfold KM ltM keyM
  split
  · refine ⟨fun args w => enters_ Try.func25 (by kernel_rfl) rfl args w, fun a b w => ?_⟩
    exact papermilllaw11_up.calls a.f0 a.f1 b.f0 b.f1 _ w rfl
  · split
    · refine ⟨fun args w => enters_ Try.func32 (by kernel_rfl) rfl args w, fun a b w => ?_⟩
      refine papermilllaw11_down.calls a.f0 a.f1 b.f0 b.f1 _ w ?_
      show some (decide (a.f0 > b.f0)) = some (decide (-a.f0 < -b.f0))
      rw [decide_eq_decide.2 (show a.f0 > b.f0 ↔ -a.f0 < -b.f0 by omega)]
    · split
      · refine ⟨fun args w => enters_ Try.func31 (by kernel_rfl) rfl args w, fun a b w => ?_⟩
        exact papermilllaw11_tens.calls a.f0 a.f1 b.f0 b.f1 _ w rfl
      · refine ⟨fun args w => enters_ Try.func33 (by kernel_rfl) rfl args w, fun a b w => ?_⟩
        exact papermilllaw11_alike.calls a.f0 a.f1 b.f0 b.f1 _ w rfl
def ltO (a b : S27) : Bool := (papermilllaw11_odd.f a.f0 a.f1 b.f0 b.f1).getD false
theorem lessO : LessI 23 ltO := by
  refine ⟨fun args w => enters_ Try.func23 (by kernel_rfl) rfl args w, fun a b w => ?_⟩
  refine papermilllaw11_odd.calls a.f0 a.f1 b.f0 b.f1 _ w ?_
  unfold ltO papermilllaw11_odd.f
  split <;> rfl
theorem order_calls (mode : Int) (w : World) : Calls Try.prog 12 #[.int .i64 mode] w fun e w' => e = .returned (.func (.func (KM mode)) #[] #[]) ∧ w' = w := by
  unfold KM
  by_cases h0 : mode = 0
  · rw [if_pos h0]
    subst h0
    go_enter Try.func12, Try.ntmps12
    go_wp2
    go_ret
    exact ⟨rfl, rfl⟩
  · rw [if_neg h0]
    have d0 : (mode == 0) = false := by simpa using h0
    by_cases h1 : mode = 1
    · rw [if_pos h1]
      subst h1
      clear h0
      go_enter Try.func12, Try.ntmps12
      go_wp2
      go_ret
      exact ⟨rfl, rfl⟩
    · rw [if_neg h1]
      have d1 : (mode == 1) = false := by simpa using h1
      by_cases h2 : mode = 2
      · rw [if_pos h2]
        subst h2
        clear h0 h1
        go_enter Try.func12, Try.ntmps12
        go_wp2
        go_ret
        exact ⟨rfl, rfl⟩
      · rw [if_neg h2]
        have d2 : (mode == 2) = false := by simpa using h2
        clear h0 h1 h2
        go_enter Try.func12, Try.ntmps12
        go_wp2
        go_ret
        exact ⟨rfl, rfl⟩
/-- The heap of a list of items, pushed one by one. -/
abbrev pushL (lt : S27 → S27 → Bool) (l : List S27) : List (S27 × Int) := pushAll lt Prod.fst Prod.snd Prod.mk zI l [] 0
def L4 : List S27 := [⟨31, 0⟩, ⟨12, 1⟩, ⟨35, 2⟩, ⟨10, 3⟩]
theorem awP1 : (pushL (ltM 2) L4).getD 0 zI = (⟨12, 1⟩, 1) := by kernel_rfl
theorem awP2 : (popS (bI (ltM 2)) zI (pushL (ltM 2) L4)).getD 0 zI = (⟨10, 3⟩, 3) := by kernel_rfl
theorem awP3 : (popS (bI (ltM 2)) zI (popS (bI (ltM 2)) zI (pushL (ltM 2) L4))).getD 0 zI = (⟨31, 0⟩, 0) := by kernel_rfl
end Go.Proofs.Ytnpndjdkdcbjcaa.Pq
