/- Which events are appended to a journal, and its bytes: what the law's own appended answers. Conditions: at most 30 events. -/
import Derived.Test.YtpcicooogiialaaDoorJS3
import Derived.Test.YtpcicooogiialaaDoorPXx8
namespace Go.Proofs.YtpcicooogiialaaDoor.Jr
open Go.RowKit Go.Proofs.YtpcicooogiialaaDoor.PX Go.Proofs.YtpcicooogiialaaDoor.Wire Go.Proofs.YtpcicooogiialaaDoor.Crc Go.Proofs.YtpcicooogiialaaDoorW.PrintWords Go.Proofs.YtpcicooogiialaaDoorW.PrintLast Go.Proofs.YtpcicooogiialaaDoorW.PrintMore
set_option linter.unusedVariables false

def chkE (e : S24) : Int := chk e.f0 e.f1 e.f2 e.f3 e.f4 e.f5 e.f6
def appL : List S24 → List S24 → List S24
  | acc, [] => acc
  | acc, e :: l => if ordB acc e = true ∧ chkE e = 0 then appL (acc ++ [e]) l else appL acc l
theorem appL_spec : ∀ (l acc : List S24), ∃ es, appL acc l = acc ++ es ∧ (∀ e ∈ es, OkE e) ∧ Chn acc es ∧ es.length ≤ l.length := by
  intro l
  induction l with
  | nil => intro acc; exact ⟨[], by simp [appL], fun e he => by simp at he, True.intro, Nat.le_refl _⟩
  | cons e l ih =>
    intro acc
    unfold appL
    by_cases c : ordB acc e = true ∧ chkE e = 0
    · rw [if_pos c]
      obtain ⟨es, h1, h2, h3, h4⟩ := ih (acc ++ [e])
      refine ⟨e :: es, by rw [h1]; simp, fun x hx => ?_, ⟨c.1, h3⟩, by simp; omega⟩
      rcases List.mem_cons.1 hx with rfl | hx
      · exact chk_ok.1 c.2
      · exact h2 x hx
    · rw [if_neg c]
      obtain ⟨es, h1, h2, h3, h4⟩ := ih acc
      exact ⟨es, h1, h2, h3, by simp; omega⟩
/-- Where the frames end. -/
def endsL (es : List S24) : List Int := (List.range es.length).map (fun i => ((framesE (es.take (i + 1))).length : Int))
theorem endsL_len (es : List S24) : (endsL es).length = es.length := by simp [endsL]
theorem endsL_snoc (es : List S24) (e : S24) : endsL (es ++ [e]) = endsL es ++ [((framesE (es ++ [e])).length : Int)] := by
  unfold endsL
  rw [List.length_append, List.length_singleton, List.range_succ, List.map_append]
  congr 1
  · refine List.map_congr_left (fun i hi => ?_)
    have := List.mem_range.1 hi
    rw [List.take_append_of_le_length (by omega)]
  · simp only [List.map_cons, List.map_nil]
    rw [List.take_of_length_le (by simp)]
theorem endsL_rd (es : List S24) (i : Nat) (h : i < es.length) : rd (endsL es) (i : Int) = ((framesE (es.take (i + 1))).length : Int) := by
  unfold rd
  rw [Int.toNat_natCast, List.getD_eq_getElem?_getD, List.getElem?_eq_getElem (by rw [endsL_len]; exact h)]
  simp [endsL]
theorem app_j1 (l acc : List S24) (hl : l.length ≤ 30) (hacc : ∀ e ∈ acc, OkE e) (han : acc.length ≤ 30) (i k : Nat) (hi : i < l.length) (hs : l[i].f6.length ≤ 60) (hk : 700 ≤ k) (fl : Bool) (hf : fl = !ordB acc l[i]) :
    papermilllaw61_appended.j1 (k + 1) l (framesE acc) acc (endsL acc) (i : Int) fl = papermilllaw61_appended.l0 k l (framesE (if ordB acc l[i] = true ∧ chkE l[i] = 0 then acc ++ [l[i]] else acc)) (if ordB acc l[i] = true ∧ chkE l[i] = 0 then acc ++ [l[i]] else acc) (endsL (if ordB acc l[i] = true ∧ chkE l[i] = 0 then acc ++ [l[i]] else acc)) ((i + 1 : Nat) : Int) := by
  have hfl := framesE_len acc hacc
  have hr : rd_T24 l (i : Int) = l[i] := by simp [rd_T24, List.getElem?_eq_getElem hi]
  rw [papermilllaw61_appended.j1, hr, w1 i (by omega), hf]
  by_cases c : ordB acc l[i] = true
  · rw [c, if_neg (by decide), if_pos (by omega), if_pos (by omega), japp_eq _ (by omega) _ _ _ _ _ _ _ (by omega) k (by omega)]
    simp only [Option.bind_some]
    unfold appS
    by_cases c2 : chkE l[i] = 0
    · have c3 : chk l[i].f0 l[i].f1 l[i].f2 l[i].f3 l[i].f4 l[i].f5 l[i].f6 = 0 := c2
      rw [if_pos c3, if_pos rfl, if_pos (by omega), if_pos (by rw [endsL_len]; omega), if_pos ⟨by first | rfl | trivial, c2⟩, endsL_snoc, framesE_append, framesE_cons, framesE_nil, List.append_nil]
      rfl
    · have c3 : ¬ chk l[i].f0 l[i].f1 l[i].f2 l[i].f3 l[i].f4 l[i].f5 l[i].f6 = 0 := c2
      rw [if_neg c3]
      simp only
      rw [if_neg c3, if_neg (fun h => c2 h.2)]
  · rw [Bool.eq_false_iff.2 c, if_pos (by decide), if_neg (fun h => by simp at h)]
theorem ordB_eq (acc : List S24) (hacc : acc.length ≤ 1000000) (e : S24) : ordB acc e = !decide (0 < acc.length ∧ e.f1 < (rd_T24 acc ((acc.length : Int) - 1)).f1) := by
  unfold ordB
  by_cases c3 : 0 < acc.length
  · rw [last_rd acc c3 hacc]
    show decide ((rd_T24 acc ((acc.length : Int) - 1)).f1 ≤ e.f1) = _
    by_cases c4 : e.f1 < (rd_T24 acc ((acc.length : Int) - 1)).f1
    · rw [decide_eq_false (by omega), decide_eq_true ⟨c3, c4⟩]
      rfl
    · rw [decide_eq_true (by omega), decide_eq_false (fun h => c4 h.2)]
      rfl
  · rw [List.length_eq_zero_iff.1 (by omega : acc.length = 0)]
    simp
theorem app_l (l : List S24) (hl : l.length ≤ 30) (hs : ∀ e ∈ l, e.f6.length ≤ 60) (d : Nat) : ∀ (i k : Nat) (acc : List S24), l.length - i = d → i ≤ l.length → acc.length ≤ i → (∀ e ∈ acc, OkE e) → 2 * d + 710 ≤ k →
    papermilllaw61_appended.l0 k l (framesE acc) acc (endsL acc) (i : Int) = some (framesE (appL acc (l.drop i)), appL acc (l.drop i), endsL (appL acc (l.drop i))) := by
  induction d with
  | zero =>
    intro i k acc h h1 hacc hok hk
    obtain ⟨k, rfl⟩ : ∃ m, k = m + 1 := ⟨k - 1, by omega⟩
    rw [papermilllaw61_appended.l0, if_neg (by omega), List.drop_eq_nil_of_le (by omega)]
    rfl
  | succ d ih =>
    intro i k acc h h1 hacc hok hk
    obtain ⟨k, rfl⟩ : ∃ m, k = m + 2 := ⟨k - 2, by omega⟩
    have hlt : i < l.length := by omega
    have hr : rd_T24 l (i : Int) = l[i] := by simp [rd_T24, List.getElem?_eq_getElem hlt]
    have key : ∀ fl, fl = !ordB acc l[i] → papermilllaw61_appended.j1 (k + 1) l (framesE acc) acc (endsL acc) (i : Int) fl = some (framesE (appL acc (l.drop i)), appL acc (l.drop i), endsL (appL acc (l.drop i))) := by
      intro fl hf
      rw [app_j1 l acc hl hok (by omega) i k hlt (hs _ (List.getElem_mem _)) (by omega) fl hf, List.drop_eq_getElem_cons hlt, appL]
      by_cases c : ordB acc l[i] = true ∧ chkE l[i] = 0
      · simp only [if_pos c]
        refine ih (i + 1) k _ (by omega) (by omega) (by simp; omega) (fun x hx => ?_) (by omega)
        rcases List.mem_append.1 hx with hx | hx
        · exact hok x hx
        · rw [List.mem_singleton.1 hx]
          exact chk_ok.1 c.2
      · simp only [if_neg c]
        exact ih (i + 1) k _ (by omega) (by omega) (by omega) hok (by omega)
    have hw : wrap64 ((acc.length : Int) - 1) = (acc.length : Int) - 1 := wrap64_id (by omega) (by omega)
    rw [papermilllaw61_appended.l0, if_pos (by omega), hr, hw]
    by_cases c : (acc.length : Int) > 0
    · rw [if_pos c, if_pos (by omega), if_pos (by omega), if_pos (by omega)]
      refine key _ ?_
      rw [ordB_eq acc (by omega), Bool.not_not]
      refine decide_eq_decide.2 ⟨fun h => ⟨by omega, h⟩, fun h => h.2⟩
    · rw [if_neg c]
      refine key _ ?_
      rw [List.length_eq_zero_iff.1 (by omega : acc.length = 0)]
      rfl
theorem appended_eq (l : List S24) (hl : l.length ≤ 30) (hs : ∀ e ∈ l, e.f6.length ≤ 60) (k : Nat) (hk : 800 ≤ k) : ∃ es, papermilllaw61_appended.f k l = some (framesE es, es, endsL es) ∧ (∀ e ∈ es, OkE e) ∧ Chn [] es ∧ es.length ≤ 30 := by
  obtain ⟨es, h1, h2, h3, h4⟩ := appL_spec l []
  rw [List.nil_append] at h1
  refine ⟨es, ?_, h2, h3, by omega⟩
  have := app_l l hl hs l.length 0 k [] rfl (Nat.zero_le _) (Nat.le_refl _) (fun e he => by simp at he) (by omega)
  rw [List.drop_zero, h1] at this
  exact this
end Go.Proofs.YtpcicooogiialaaDoor.Jr
