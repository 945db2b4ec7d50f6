/- An event that is appended to what Recover accepted is recovered too. Conditions: none. -/
import Derived.Test.YtpcicooogiialaaDoorJS3G
import Derived.Test.YtpcicooogiialaaDoorPGx8
namespace Go.Proofs.YtpcicooogiialaaDoor.Pure
open Go.RowKit Go.Proofs.YtpcicooogiialaaDoor.PG Go.Proofs.YtpcicooogiialaaDoor.Wire Go.Proofs.YtpcicooogiialaaDoor.Crc Go.Proofs.YtpcicooogiialaaDoor.Jr Go.Proofs.YtpcicooogiialaaDoorW.PrintWords Go.Proofs.YtpcicooogiialaaDoorW.PrintLast
set_option linter.unusedVariables false
theorem ord_next (es : List S24) (hn : es.length ≤ 1000000) (hc : Chn [] es) (i : Nat) (hi : i < es.length) (h0 : 0 < i) : (rd_T24 es ((i : Int) - 1)).f1 ≤ (rd_T24 es (i : Int)).f1 := by
  have h := hc
  rw [← List.take_append_drop i es, Chn_append, List.nil_append, List.drop_eq_getElem_cons hi] at h
  have h1 := h.2.1
  rw [ordB_eq _ (by rw [List.length_take]; omega)] at h1
  have hl : (es.take i).length = i := by rw [List.length_take]; omega
  rw [hl] at h1
  have h2 : ¬ (0 < i ∧ es[i].f1 < (rd_T24 (es.take i) ((i : Int) - 1)).f1) := by
    intro h3
    rw [decide_eq_true h3] at h1
    cases h1
  have e1 : rd_T24 es (i : Int) = es[i] := by simp [rd_T24, List.getElem?_eq_getElem hi]
  have e2 : rd_T24 (es.take i) ((i : Int) - 1) = rd_T24 es ((i : Int) - 1) := by
    unfold rd_T24
    rw [List.getD_eq_getElem?_getD, List.getD_eq_getElem?_getD, List.getElem?_take, if_pos (by omega)]
  rw [e1, ← e2]
  omega
theorem goes_j3 (es : List S24) (hok : ∀ e ∈ es, OkE e) (hc : Chn [] es) (hfl : (framesE es).length ≤ 3000) (a0 a1 a2 a3 a4 a5 : Int) (l : List Int) (c : chk a0 a1 a2 a3 a4 a5 l = 0) (ho : ordB es ⟨a0, a1, a2, a3, a4, a5, l⟩ = true) (k : Nat) (hk : 50000 ≤ k) :
    papermilllaw61_JournalGoes.j3 (k + 1) es (framesE es ++ frameS (contS a0 a1 a2 a3 a4 a5 l)) false a0 a1 a2 a3 a4 a5 l = some true := by
  have hfl2 := framesE_len es hok
  have hoke : OkE ⟨a0, a1, a2, a3, a4, a5, l⟩ := chk_ok.1 c
  have hok' : ∀ e ∈ es ++ [(⟨a0, a1, a2, a3, a4, a5, l⟩ : S24)], OkE e := by
    intro e he
    rcases List.mem_append.1 he with he | he
    · exact hok e he
    · rw [List.mem_singleton.1 he]; exact hoke
  have hc' : Chn [] (es ++ [(⟨a0, a1, a2, a3, a4, a5, l⟩ : S24)]) := (Chn_append _ _ _).2 ⟨hc, by rw [List.nil_append]; exact ⟨ho, True.intro⟩⟩
  have hfr : framesE es ++ frameS (contS a0 a1 a2 a3 a4 a5 l) = framesE (es ++ [(⟨a0, a1, a2, a3, a4, a5, l⟩ : S24)]) := by
    rw [framesE_append, framesE_cons, framesE_nil, List.append_nil]
    rfl
  have hle := frE_len _ hoke
  have hlen : (framesE (es ++ [(⟨a0, a1, a2, a3, a4, a5, l⟩ : S24)])).length ≤ 4000 := by
    rw [framesE_append, framesE_cons, framesE_nil, List.append_nil, List.length_append]
    omega
  have hrec := recover_frames _ [] hok' hc' (fun _ h => by simp at h) (by rw [List.append_nil]; omega) (by rw [open_nil]; decide) k (by rw [List.append_nil]; omega)
  rw [List.append_nil] at hrec
  rw [papermilllaw61_JournalGoes.j3, if_neg (by decide), hfr]
  refine Option.bind_eq_some_iff.mpr ⟨_, hrec, ?_⟩
  refine Option.bind_eq_some_iff.mpr ⟨_, rfl, ?_⟩
  rw [if_pos (by simp; omega)]
  refine Option.bind_eq_some_iff.mpr ⟨_, rfl, ?_⟩
  refine Option.bind_eq_some_iff.mpr ⟨_, rfl, ?_⟩
  rw [if_pos (by simp; omega)]
  have hsame : papermillref61_Same.f k (es ++ [(⟨a0, a1, a2, a3, a4, a5, l⟩ : S24)]) (es ++ [(⟨a0, a1, a2, a3, a4, a5, l⟩ : S24)]) = some true := evs_refl _ (by simp; omega) (fun e he => by have := (hok' e he).kl; omega) k
  refine Option.bind_eq_some_iff.mpr ⟨true, by simpa using hsame, ?_⟩
  rw [if_pos rfl, if_pos rfl]
  exact Option.bind_eq_some_iff.mpr ⟨true, awake_true k (by omega), rfl⟩
theorem goes_j3t (es : List S24) (x8 : List Int) (a0 a1 a2 a3 a4 a5 : Int) (l : List Int) (k : Nat) (hk : 100 ≤ k) : papermilllaw61_JournalGoes.j3 (k + 1) es x8 true a0 a1 a2 a3 a4 a5 l = some true := by
  rw [papermilllaw61_JournalGoes.j3, if_pos rfl]
  exact Option.bind_eq_some_iff.mpr ⟨true, awake_true k hk, rfl⟩
theorem goes_l (l0 : List Int) (hl0 : l0.length ≤ 3000) (es : List S24) (n : Nat) (hn : n ≤ l0.length) (hok : ∀ e ∈ es, OkE e) (hc : Chn [] es) (ht : l0.take n = framesE es) (a0 a1 a2 a3 a4 a5 : Int) (l : List Int) (hs : l.length ≤ 60) (d : Nat) : ∀ (i k : Nat), es.length - i = d → i ≤ es.length → d + 60000 ≤ k →
    papermilllaw61_JournalGoes.l0 k l0 es (n : Int) (i : Int) a0 a1 a2 a3 a4 a5 l = some true := by
  have hfl := framesE_len es hok
  have hfn : (framesE es).length = n := by rw [← ht, List.length_take]; omega
  induction d with
  | zero =>
    intro i k h hi hk
    obtain ⟨k, rfl⟩ : ∃ m, k = m + 2 := ⟨k - 2, by omega⟩
    rw [papermilllaw61_JournalGoes.l0, if_neg (by omega), if_pos (by omega), if_pos (by omega), Int.toNat_natCast, ht]
    refine Option.bind_eq_some_iff.mpr ⟨_, japp_eq _ (by omega) a0 a1 a2 a3 a4 a5 l (by omega) (k + 1) (by omega), ?_⟩
    unfold appS
    by_cases c : chk a0 a1 a2 a3 a4 a5 l = 0
    · rw [if_pos c]
      show (if (0 : Int) = 0 then _ else _) = _
      rw [if_pos rfl]
      by_cases c2 : (es.length : Int) > 0
      · have hw : wrap64 ((es.length : Int) - 1) = (es.length : Int) - 1 := wrap64_id (by omega) (by omega)
        rw [if_pos c2, hw, if_pos (by omega), if_pos (by omega)]
        by_cases c3 : a1 < (rd_T24 es ((es.length : Int) - 1)).f1
        · rw [decide_eq_true c3]
          exact goes_j3t es _ a0 a1 a2 a3 a4 a5 l k (by omega)
        · rw [decide_eq_false c3]
          refine goes_j3 es hok hc (by omega) a0 a1 a2 a3 a4 a5 l c ?_ k (by omega)
          rw [ordB_eq es (by omega), decide_eq_false (fun h => c3 h.2)]
          rfl
      · rw [if_neg c2]
        refine goes_j3 es hok hc (by omega) a0 a1 a2 a3 a4 a5 l c ?_ k (by omega)
        rw [List.length_eq_zero_iff.1 (by omega : es.length = 0)]
        rfl
    · rw [if_neg c]
      show (if chk a0 a1 a2 a3 a4 a5 l = 0 then _ else _) = _
      rw [if_neg c]
      exact goes_j3t es _ a0 a1 a2 a3 a4 a5 l k (by omega)
  | succ d ih =>
    intro i k h hi hk
    obtain ⟨k, rfl⟩ : ∃ m, k = m + 1 := ⟨k - 1, by omega⟩
    have hlt : i < es.length := by omega
    have hr : rd_T24 es (i : Int) = es[i] := by simp [rd_T24, List.getElem?_eq_getElem hlt]
    have hoki := hok _ (List.getElem_mem hlt)
    rw [← hr] at hoki
    rw [papermilllaw61_JournalGoes.l0, if_pos (by omega), if_pos (by omega)]
    refine Option.bind_eq_some_iff.mpr ⟨_, jchk_eq _ _ _ _ _ _ _ (by have := hoki.kl; omega) k (by have := hoki.kl; omega), ?_⟩
    rw [if_pos (chk_ok.2 hoki), Jr.w1 i (by omega)]
    by_cases c : (i : Int) > 0
    · have hw : wrap64 ((i : Int) - 1) = (i : Int) - 1 := wrap64_id (by omega) (by omega)
      have hord := ord_next es (by omega) hc i hlt (by omega)
      rw [if_pos c, hw, if_pos (by omega), if_pos (by omega), if_neg (by omega)]
      exact ih (i + 1) k (by omega) (by omega) (by omega)
    · rw [if_neg c]
      exact ih (i + 1) k (by omega) (by omega) (by omega)
theorem JournalGoes : papermilllaw61_JournalGoes.Pure := by
  intro l0 a0 a1 a2 a3 a4 a5 l h0 w0 w1_ w2 w3 w4 w5 hl
  have hb := bytes_of_wf l0 h0.2
  obtain ⟨K, hK⟩ : ∃ K, 100000 ≤ K := ⟨100000, Nat.le_refl _⟩
  refine ⟨K + 2, ?_⟩
  have key : papermilllaw61_JournalGoes.j0 (K + 2) l0 true a0 a1 a2 a3 a4 a5 l = some true := by
    rw [papermilllaw61_JournalGoes.j0, if_pos rfl]
    exact Option.bind_eq_some_iff.mpr ⟨true, awake_true _ (by omega), rfl⟩
  unfold papermilllaw61_JournalGoes.f
  by_cases c : (l0.length : Int) > 3000
  · rw [if_pos c]
    exact key
  · rw [if_neg c]
    obtain ⟨g, g1, g2⟩ := great_eq [⟨a0, a1, a2, a3, a4, a5, l⟩] (K + 2) (by omega)
    refine Option.bind_eq_some_iff.mpr ⟨_, g1, ?_⟩
    cases g with
    | true => exact key
    | false =>
      have hs : l.length ≤ 60 := (g2 rfl).2 _ (List.mem_singleton.2 rfl)
      obtain ⟨es, n, r1, r2, r3, r4, r5⟩ := recover_spec l0 hb (by omega)
      have hfl := framesE_len es r4
      rw [← r3, List.length_take] at hfl
      rw [papermilllaw61_JournalGoes.j0, if_neg (by decide)]
      refine Option.bind_eq_some_iff.mpr ⟨_, r1 (K + 1) (by omega), ?_⟩
      show (if (n : Int) < 0 then _ else if (n : Int) > (l0.length : Int) then _ else papermilllaw61_JournalGoes.j1 (K + 1) l0 es (n : Int) (decide ((es.length : Int) > (n : Int))) a0 a1 a2 a3 a4 a5 l) = some true
      rw [if_neg (by omega), if_neg (by omega), decide_eq_false (by omega), papermilllaw61_JournalGoes.j1, if_neg (by decide)]
      exact goes_l l0 (by omega) es n r2 r4 r5 r3 a0 a1 a2 a3 a4 a5 l hs es.length 0 K rfl (Nat.zero_le _) (by omega)
end Go.Proofs.YtpcicooogiialaaDoor.Pure
