/- A frame with one changed byte behind its length is refused with ErrChecksum; with one in its length it is refused, or opened with a content of another length. Conditions: none. -/
import Derived.Test.YtdnjbakhnnckbaaDoorC4x0
import Derived.Test.YtdnjbakhnnckbaaDoorPXx14
namespace Go.Proofs.YtdnjbakhnnckbaaDoor.Pure
open Go.RowKit Go.Proofs.YtdnjbakhnnckbaaDoor.PX Go.Proofs.YtdnjbakhnnckbaaDoor.Wire Go.Proofs.YtdnjbakhnnckbaaDoor.Crc Go.Proofs.YtdnjbakhnnckbaaDoorW.PrintWords Go.Proofs.YtdnjbakhnnckbaaDoorW.PrintLast
set_option linter.unusedVariables false
theorem damaged_1 (l0 : List Int) (hb : Bytes l0) (hl : l0.length ≤ 4000) (a1 a2 : Int) (h3' : 0 ≤ a1 ∧ a1 < 65536) (h4' : 0 < a2 ∧ a2 < 256) (k : Nat) (hk : 60 ≤ k) :
    papermilllaw09_CrcDamaged.j1 (k + 1) l0 a1 a2 (frameS l0) ((enc (l0.length : Int)).length : Int) false = some true := by
  have hlen := frameS_len l0
  have hel := enc_len (l0.length : Int)
  have hfb := frameS_bytes l0 hb (by omega)
  simp only [papermilllaw09_CrcDamaged.j1, List.nil_append, List.length_nil, Nat.zero_add, Option.bind_some]
  have ht : Int.tmod (wrap64 a1) ((frameS l0).length : Int) = ((a1.toNat % (frameS l0).length : Nat) : Int) := by
    rw [wrap64_id (by omega) (by omega), show a1 = ((a1.toNat : Nat) : Int) by omega]
    rfl
  have hlt : a1.toNat % (frameS l0).length < (frameS l0).length := Nat.mod_lt _ (by omega)
  rw [ht]
  generalize a1.toNat % (frameS l0).length = i at hlt ⊢
  obtain ⟨hv, hne⟩ := xor_u8 (rd (frameS l0) (i : Int)) a2 (rd_byte hfb i hlt) (by omega)
  generalize Go.bits .xor .u8 (rd (frameS l0) (i : Int)) a2 = v at hv hne ⊢
  rw [if_neg (by decide), if_neg (by omega), if_pos (by omega), if_pos (by omega), if_pos (by omega), Int.toNat_natCast, open_eq _ (set_bytes hfb i v hv) (by rw [List.length_set]; omega) k (by omega)]
  simp only [Option.bind_some]
  have haw := awake_true k hk
  by_cases him : (enc (l0.length : Int)).length ≤ i
  · rw [if_pos (by omega), damaged_behind l0 hb (by omega) i hlt him v hv hne]
    simp only [if_true, List.length_nil]
    rw [if_pos (by decide), haw]
    rfl
  · rw [if_neg (by omega)]
    have hd := damaged_ahead l0 hb (by omega) i (by omega) v hv hne
    by_cases he : (openS ((frameS l0).set i v)).2.2 = 0
    · have := hd he
      rw [if_pos he, if_neg (by omega), haw]
      rfl
    · rw [if_neg he, haw]
      rfl
theorem damaged_0 (l0 : List Int) (hb : Bytes l0) (hl : l0.length ≤ 4000) (a1 a2 : Int) (h3' : 0 ≤ a1 ∧ a1 < 65536) (h4' : 0 < a2 ∧ a2 < 256) (k : Nat) (hk : 60 ≤ k) :
    papermilllaw09_CrcDamaged.j0 (k + 2) l0 a1 a2 false = some true := by
  have hlen := frameS_len l0
  have hel := enc_len (l0.length : Int)
  have hfb := frameS_bytes l0 hb (by omega)
  have htk : wire_TakeInt.f (k + 1) (frameS l0) = some ((l0.length : Int), ((enc (l0.length : Int)).length : Int), 0) := by
    rw [wire_tk _ hfb _ (by omega)]
    unfold frameS
    rw [List.append_assoc]
    exact congrArg some (enc_taken _ (inI_nat _ (by omega)) _)
  have hfr : crc_Frame.f l0 = some (frameS l0, 0) := by
    rw [frame_eq l0 hb (by omega)]
    unfold frS
    rw [if_neg (by omega)]
  have hw : wrap64 ((wrap64 (((enc (l0.length : Int)).length : Int) + (l0.length : Int))) + 4) = ((frameS l0).length : Int) := by
    rw [wrap64_id (n := ((enc (l0.length : Int)).length : Int) + (l0.length : Int)) (by omega) (by omega), wrap64_id (by omega) (by omega)]
    omega
  have h1 := damaged_1 l0 hb hl a1 a2 h3' h4' k hk
  rw [papermilllaw09_CrcDamaged.j0, if_neg (by decide), hfr, Option.bind_some, htk, Option.bind_some]
  dsimp only
  rw [if_pos rfl, if_pos rfl, hw, bne_self_eq_false]
  exact h1
theorem CrcDamaged : papermilllaw09_CrcDamaged.Pure := by
  intro l0 a1 a2 h0 h1 h2 h3 h4
  refine ⟨4998 + 2, ?_⟩
  have hb := bytes_of_wf l0 h2
  have h3' : 0 ≤ a1 ∧ a1 < 65536 := by
    simp [Lit.wf, IntKind.min, IntKind.max, IntKind.signed, IntKind.bits] at h3
    omega
  have h4' : 0 ≤ a2 ∧ a2 < 256 := by
    simp [Lit.wf, IntKind.min, IntKind.max, IntKind.signed, IntKind.bits] at h4
    omega
  have key : papermilllaw09_CrcDamaged.j0 (4998 + 2) l0 a1 a2 true = some true := by
    rw [papermilllaw09_CrcDamaged.j0, if_pos rfl, awake_true _ (by decide)]
    rfl
  unfold papermilllaw09_CrcDamaged.f
  split
  · exact key
  · by_cases hz : a2 = 0
    · rw [show (a2 == 0) = true by simpa using hz]
      exact key
    · rw [show (a2 == 0) = false by simpa using hz]
      exact damaged_0 l0 hb (by omega) a1 a2 h3' (by omega) 4998 (by decide)
end Go.Proofs.YtdnjbakhnnckbaaDoor.Pure
