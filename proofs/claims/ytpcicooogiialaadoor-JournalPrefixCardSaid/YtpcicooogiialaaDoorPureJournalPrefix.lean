/- A journal that is cut off anywhere gives exactly the events whose frames are complete. Conditions: none. -/
import Derived.Test.YtpcicooogiialaaDoorJS4
import Derived.Test.YtpcicooogiialaaDoorPXx9
namespace Go.Proofs.YtpcicooogiialaaDoor.Pure
open Go.RowKit Go.Proofs.YtpcicooogiialaaDoor.PX Go.Proofs.YtpcicooogiialaaDoor.Wire Go.Proofs.YtpcicooogiialaaDoor.Crc Go.Proofs.YtpcicooogiialaaDoor.Jr Go.Proofs.YtpcicooogiialaaDoorW.PrintWords Go.Proofs.YtpcicooogiialaaDoorW.PrintLast
set_option linter.unusedVariables false
theorem cut_rec (es : List S24) (e2 : ∀ e ∈ es, OkE e) (e3 : Chn [] es) (e4 : es.length ≤ 30) (c j : Nat) (hc : c ≤ (framesE es).length) (hj : j ≤ es.length) (ha : (framesE (es.take j)).length ≤ c) (hs : j < es.length → c < (framesE (es.take (j + 1))).length) (k : Nat) (hk : 90000 ≤ k) :
    journal_Recover.f k ((framesE es).take c) = some (es.take j, ((framesE (es.take j)).length : Int)) := by
  have hfl := framesE_len es e2
  have es1 : framesE es = framesE (es.take j) ++ framesE (es.drop j) := by rw [← framesE_append, List.take_append_drop]
  have hok : ∀ e ∈ es.take j, OkE e := fun e he => e2 e (List.mem_of_mem_take he)
  have hch : Chn [] (es.take j) := by
    have h := e3
    rw [← List.take_append_drop j es, Chn_append] at h
    exact h.1
  have hcut : (framesE es).take c = framesE (es.take j) ++ (framesE (es.drop j)).take (c - (framesE (es.take j)).length) := by
    conv => lhs; rw [es1]
    rw [List.take_append, List.take_of_length_le ha]
  rw [hcut]
  have hlen : (framesE (es.take j) ++ (framesE (es.drop j)).take (c - (framesE (es.take j)).length)).length ≤ 20000 := by rw [← hcut, List.length_take]; omega
  have hR : Bytes ((framesE (es.drop j)).take (c - (framesE (es.take j)).length)) := (framesE_bytes _ (fun e he => e2 e (List.mem_of_mem_drop he))).take _
  refine recover_frames _ _ hok hch hR (by omega) ?_ k (by omega)
  by_cases hjl : j < es.length
  · have h1 := hs hjl
    have hd : framesE (es.drop j) = frE es[j] ++ framesE (es.drop (j + 1)) := by rw [List.drop_eq_getElem_cons hjl, framesE_cons]
    have ht : (framesE (es.take (j + 1))).length = (framesE (es.take j)).length + (frE es[j]).length := by rw [List.take_succ_eq_append_getElem hjl, framesE_append, framesE_cons, framesE_nil, List.append_nil, List.length_append]
    rw [hd, List.take_append_of_le_length (by omega), show (openS ((frE es[j]).take (c - (framesE (es.take j)).length))) = ([], 0, 4) from open_cut _ (cont_small _ (e2 _ (List.getElem_mem _))) _ (by show _ < (frE es[j]).length; omega)]
    decide
  · rw [List.drop_eq_nil_of_le (by omega), framesE_nil, List.take_nil, open_nil]
    decide
theorem pre_l (es : List S24) (e2 : ∀ e ∈ es, OkE e) (e3 : Chn [] es) (e4 : es.length ≤ 30) (c : Nat) (hc : c ≤ (framesE es).length) (d : Nat) : ∀ (j k : Nat), es.length - j = d → j ≤ es.length → (framesE (es.take j)).length ≤ c → 90000 + d + 1 ≤ k →
    papermilllaw61_JournalPrefix.l0 k (framesE es) es (endsL es) (c : Int) (j : Int) ((framesE (es.take j)).length : Int) = some true := by
  have same : ∀ (j k : Nat), papermillref61_Same.f k (es.take j) (es.take j) = some true := fun j k => evs_refl _ (by rw [List.length_take]; omega) (fun e he => by have := (e2 e (List.mem_of_mem_take he)).kl; omega) k
  induction d with
  | zero =>
    intro j k h hj ha hk
    obtain ⟨k, rfl⟩ : ∃ m, k = m + 1 := ⟨k - 1, by omega⟩
    rw [papermilllaw61_JournalPrefix.l0, if_neg (by rw [endsL_len]; omega), if_pos (by omega), if_pos (by omega), Int.toNat_natCast, cut_rec es e2 e3 e4 c j hc hj ha (fun h => by omega) k (by omega)]
    simp only [Option.bind_some, Int.toNat_natCast]
    rw [if_pos (by omega), if_pos (by omega), same]
    simp only [Option.bind_some, if_true]
    rw [awake_true _ (by omega)]
    rfl
  | succ d ih =>
    intro j k h hj ha hk
    obtain ⟨k, rfl⟩ : ∃ m, k = m + 1 := ⟨k - 1, by omega⟩
    have hjl : j < es.length := by omega
    rw [papermilllaw61_JournalPrefix.l0, if_pos (by rw [endsL_len]; omega), if_pos (by omega), endsL_rd es j hjl]
    by_cases hs : ((framesE (es.take (j + 1))).length : Int) ≤ (c : Int)
    · rw [if_pos hs, Jr.w1 j (by omega)]
      exact ih (j + 1) k (by omega) (by omega) (by omega) (by omega)
    · rw [if_neg hs, if_pos (by omega), if_pos (by omega), Int.toNat_natCast, cut_rec es e2 e3 e4 c j hc hj ha (fun h => by omega) k (by omega)]
      simp only [Option.bind_some, Int.toNat_natCast]
      rw [if_pos (by omega), same]
      simp only [Option.bind_some, if_true]
      rw [awake_true _ (by omega)]
      rfl
theorem JournalPrefix : papermilllaw61_JournalPrefix.Pure := by
  intro l0 a1 h0 h1
  obtain ⟨K, hK⟩ : ∃ K, 100000 ≤ K := ⟨100000, Nat.le_refl _⟩
  refine ⟨K, ?_⟩
  unfold papermilllaw61_JournalPrefix.f
  obtain ⟨g, g1, g2⟩ := great_eq l0 K (by omega)
  rw [g1]
  simp only [Option.bind_some]
  cases g with
  | true => rw [if_pos rfl, awake_true _ (by omega)]; rfl
  | false =>
    obtain ⟨hl, hs⟩ := g2 rfl
    rw [if_neg (by decide)]
    obtain ⟨es, e1, e2, e3, e4⟩ := appended_eq l0 hl hs K (by omega)
    have hfl := framesE_len es e2
    refine Option.bind_eq_some_iff.mpr ⟨_, e1, ?_⟩
    show (if wrap64 (((framesE es).length : Int) + 1) = 0 then none else papermilllaw61_JournalPrefix.l0 K (framesE es) es (endsL es) (Int.tmod (wrap64 a1) (wrap64 (((framesE es).length : Int) + 1))) 0 0) = some true
    have hw : wrap64 (((framesE es).length : Int) + 1) = ((framesE es).length : Int) + 1 := wrap64_id (by omega) (by omega)
    have ha : 0 ≤ a1 ∧ a1 < 65536 := by
      simp [Lit.wf, IntKind.min, IntKind.max, IntKind.signed, IntKind.bits] at h1
      omega
    have hwa : wrap64 a1 = a1 := wrap64_id (by omega) (by omega)
    rw [hw, hwa, if_neg (by omega), Int.tmod_eq_emod_of_nonneg ha.1]
    obtain ⟨c, hc⟩ : ∃ c : Nat, a1 % (((framesE es).length : Int) + 1) = (c : Int) := ⟨(a1 % (((framesE es).length : Int) + 1)).toNat, by have := Int.emod_nonneg a1 (show ((framesE es).length : Int) + 1 ≠ 0 by omega); omega⟩
    have hcl := Int.emod_lt_of_pos a1 (show 0 < ((framesE es).length : Int) + 1 by omega)
    rw [hc] at hcl ⊢
    exact pre_l es e2 e3 e4 c (by omega) es.length 0 K rfl (Nat.zero_le _) (by simp [framesE_nil]) (by omega)
end Go.Proofs.YtpcicooogiialaaDoor.Pure
