/- CrcBursts answers true. -/
import Derived.Test.YtdnjbakhnnckbaaDoorB3
namespace Go.Proofs.YtdnjbakhnnckbaaDoor.PB
open Go.RowKit Go.Proofs.YtdnjbakhnnckbaaDoor.Crc Go.Proofs.YtdnjbakhnnckbaaDoor.Wire Go.Proofs.YtdnjbakhnnckbaaDoorW.PrintWords Go.Proofs.YtdnjbakhnnckbaaDoorW.PrintLast Go.Proofs.YtdnjbakhnnckbaaDoorW.PrintMore
set_option linter.unusedVariables false

theorem byte_wf (x : Int) (h : (Lit.int .u8 x).wf = true) : 0 ≤ x ∧ x < 256 := by
  simp [Lit.wf, IntKind.min, IntKind.max, IntKind.signed, IntKind.bits] at h
  omega
theorem bursts_walk (a0 : Option Addr) (len0 cap0 : Nat) (z0 : List Int) (a1 x0 x1 x2 x3 : Int) (w : World) (hT : Kd.C (Kd.int .u32) w TabA crcTab.length crcTab) (w0 : (a0 = none ∧ len0 = 0 ∧ cap0 = 0 ∧ z0 = []) ∨ ∃ x, a0 = some x ∧ len0 ≤ cap0 ∧ cap0 ≤ maxLen ∧ z0.length = cap0 ∧ (∀ i, i < z0.length → w.cell? (x.add i) = some (.int .u8 (z0.getD i 0))) ∧ ∀ n ∈ z0, (Lit.int .u8 n).wf = true) (w1 : (Lit.int .u16 a1).wf = true) (e0 : (Lit.int .u8 x0).wf = true) (e1 : (Lit.int .u8 x1).wf = true) (e2 : (Lit.int .u8 x2).wf = true) (e3 : (Lit.int .u8 x3).wf = true) :
    Calls Tryd.prog 9 #[.slice a0 len0 cap0, .int .u16 a1, .agg #[.int .u8 x0, .int .u8 x1, .int .u8 x2, .int .u8 x3]] w fun e w' => e = .returned (.bool true) ∧ Below w.heap.size w w' := by
  obtain ⟨l0, rfl, hr0, hm0, hw0, hc0⟩ := ReadsInt.ofRowC w0
  have hC := Kd.C_of_reads (d := (0 : Int)) (h1 := fun _ => rfl) hr0
  by_cases hl : 4000 < l0.length
  · exact bursts_long _ _ l0 a1 x0 x1 x2 x3 w hC hc0 hT hl
  · by_cases h0 : l0.length = 0
    · exact bursts_none _ _ l0 a1 x0 x1 x2 x3 w hC hc0 hT h0
    · have hb : Bytes l0 := fun x hx => byte_wf x (hw0 x hx)
      have ha : 0 ≤ a1 ∧ a1 < 65536 := by
        simp [Lit.wf, IntKind.min, IntKind.max, IntKind.signed, IntKind.bits] at w1
        omega
      have hX : ∀ k : Nat, k < 4 → 0 ≤ rd [x0, x1, x2, x3] (k : Int) ∧ rd [x0, x1, x2, x3] (k : Int) < 256 := by
        intro k hk
        have : k = 0 ∨ k = 1 ∨ k = 2 ∨ k = 3 := by omega
        rcases this with rfl | rfl | rfl | rfl
        · exact byte_wf _ e0
        · exact byte_wf _ e1
        · exact byte_wf _ e2
        · exact byte_wf _ e3
      obtain ⟨h1, h2, h3⟩ := bursts [x0, x1, x2, x3] l0 (Int.tmod a1 (l0.length : Int)).toNat hX hb
      obtain ⟨xs, ch, he⟩ : ∃ xs ch, bL [x0, x1, x2, x3] (Int.tmod a1 (l0.length : Int)).toNat 4 0 l0 false = (xs, ch) := ⟨_, _, rfl⟩
      rw [he] at h1 h2 h3
      refine bursts_some _ _ l0 a1 x0 x1 x2 x3 w hC hc0 hT ha (by omega) xs ch _ _ he (sum_eq l0 hb (by omega)) (sum_eq xs h1 (by simp only at h2; omega)) ?_
      simp only at h3
      cases ch with
      | false =>
        rw [h3.2 rfl]
        simp
      | true =>
        have hne : ((sumN xs : Nat) : Int) ≠ ((sumN l0 : Nat) : Int) := fun e => by
          have := h3.1 (by omega)
          cases this
        rw [show (((sumN xs : Nat) : Int) != ((sumN l0 : Nat) : Int)) = true from bne_iff_ne.mpr hne]
        rfl
end Go.Proofs.YtdnjbakhnnckbaaDoor.PB
