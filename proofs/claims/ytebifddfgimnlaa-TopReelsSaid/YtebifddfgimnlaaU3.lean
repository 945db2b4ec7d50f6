/- Plain laws of the paper, and the walk of reel.Cut. No condition. -/
import Derived.Test.YtebifddfgimnlaaU2
import Derived.Test.YtebifddfgimnlaaU1
import Derived.Stop.RegionWithIn
import Derived.Deep.CutBlock
import Derived.Sort.LoopGhostIn
import Derived.Sort.CutIn
section
/- Plain law: the phases, the changes, and that the attributes are the same from one change to the next one. -/
namespace Go.Proofs.Ytebifddfgimnlaa.Rl
open Go.RowKit Go.Proofs.Ytebifddfgimnlaa.PX Go.Proofs.Ytebifddfgimnlaa.Rd Go.Proofs.YtebifddfgimnlaaW.PrintWords Go.Proofs.YtebifddfgimnlaaW.PrintLast
set_option linter.unusedVariables false
set_option linter.unusedSimpArgs false
/-- Phases, one after the other, from T to F. -/
def Ch : Int → List S77 → Int → Prop
  | T, [], F => T = F
  | T, x :: xs, F => x.f1 = T ∧ T < x.f2 ∧ Ch x.f2 xs F
theorem ch_snoc : ∀ (xs : List S77) (T F a : Int) (st : Int), Ch T xs F → F < a → Ch T (xs ++ [⟨st, F, a⟩]) a := by
  intro xs
  induction xs with
  | nil => intro T F a st h ha; obtain rfl : T = F := h; exact ⟨rfl, ha, rfl⟩
  | cons x xs ih => intro T F a st h ha; exact ⟨h.1, h.2.1, ih _ _ _ _ h.2.2 ha⟩
theorem ch_turn {out : List S77} {T F a st : Int} (h : Ch T out F) (ha : F ≤ a) : Ch T (turnS a st F out) a := by
  unfold turnS
  by_cases hc : F < a
  · rw [if_pos hc]; exact ch_snoc _ _ _ _ _ h hc
  · rw [if_neg hc]; obtain rfl : F = a := by omega
    exact h
theorem ch_le : ∀ (xs : List S77) (T F : Int), Ch T xs F → T ≤ F ∧ ∀ x ∈ xs, T ≤ x.f1 ∧ x.f1 < x.f2 ∧ x.f2 ≤ F := by
  intro xs
  induction xs with
  | nil => intro T F h; exact ⟨Int.le_of_eq h, fun x hx => (List.not_mem_nil hx).elim⟩
  | cons y xs ih =>
    intro T F h
    obtain ⟨h1, h2, h3⟩ := h
    obtain ⟨k1, k2⟩ := ih _ _ h3
    refine ⟨by omega, fun x hx => ?_⟩
    rcases List.mem_cons.1 hx with rfl | hx
    · exact ⟨by omega, by omega, k1⟩
    · have := k2 x hx; exact ⟨by omega, this.2.1, this.2.2⟩
theorem ch_to : ∀ (xs : List S77) (T F : Int), Ch T xs F → ∀ x ∈ xs, x.f2 = F ∨ ∃ q ∈ xs, q.f1 = x.f2 := by
  intro xs
  induction xs with
  | nil => intro T F h x hx; exact (List.not_mem_nil hx).elim
  | cons y xs ih =>
    intro T F h x hx
    obtain ⟨h1, h2, h3⟩ := h
    rcases List.mem_cons.1 hx with rfl | hx
    · cases xs with
      | nil => exact .inl h3
      | cons z xs => exact .inr ⟨z, by simp, h3.1⟩
    · rcases ih _ _ h3 x hx with h | ⟨q, hq, h⟩
      · exact .inl h
      · exact .inr ⟨q, List.mem_cons_of_mem _ hq, h⟩
theorem fold_ch {th cl en : Int} : ∀ (l : List S50) (s b : Int) (out : List S77), wk th cl l s b = 0 → Ch 0 out b → (l = [] → b ≤ en) → (0 < l.length → (rd_T50 l ((l.length : Int) - 1)).f1 < en) →
    Ch 0 (List.foldl pstep (s, b, out) l).2.2 (List.foldl pstep (s, b, out) l).2.1 ∧ (List.foldl pstep (s, b, out) l).2.1 ≤ en ∧ (List.foldl pstep (s, b, out) l).2.2.length ≤ out.length + l.length := by
  intro l
  induction l with
  | nil => intro s b out _ h h1 _; exact ⟨h, h1 rfl, Nat.le_refl _⟩
  | cons x l ih =>
    intro s b out hw h _ h2
    obtain ⟨_, hb, _, _, hw'⟩ := wk_cons hw
    have h3 := turnS_len x.f1 s b out
    have := ih (nx s x.f0).1 x.f1 (turnS x.f1 s b out) hw' (ch_turn h (by omega)) (fun e => by
      subst e
      have := h2 (by simp)
      simp only [List.length_cons, List.length_nil] at this
      have h4 : rd_T50 [x] (((0 + 1 : Nat) : Int) - 1) = x := rfl
      rw [h4] at this
      omega) (fun hl => by
      have := h2 (by simp)
      have h4 : rd_T50 (x :: l) (((x :: l).length : Int) - 1) = rd_T50 l ((l.length : Int) - 1) := by
        unfold rd_T50
        rw [show (((x :: l).length : Int) - 1).toNat = ((l.length : Int) - 1).toNat + 1 by simp only [List.length_cons]; omega]
        rfl
      rw [h4] at this
      exact this)
    refine ⟨this.1, this.2.1, ?_⟩
    have h5 := this.2.2
    rw [List.length_cons]
    have h6 : List.foldl pstep (s, b, out) (x :: l) = List.foldl pstep ((nx s x.f0).1, x.f1, turnS x.f1 s b out) l := rfl
    rw [h6]
    omega
theorem mom_iff (t : Int) : mom t = true ↔ 0 ≤ t ∧ t ≤ 2147483647 := by
  unfold mom
  split
  · rw [decide_eq_true_iff]; omega
  · constructor
    · intro h; cases h
    · intro h; omega
theorem dk1_zero : ∀ l : List S52, dk1 l = 0 → ∀ p ∈ l, (0 ≤ p.f0 ∧ p.f0 ≤ 2147483647) ∧ 0 ≤ p.f1 ∧ p.f1 ≤ 40000 := by
  intro l
  induction l with
  | nil => intro _ p hp; exact (List.not_mem_nil hp).elim
  | cons x l ih =>
    intro h p hp
    unfold dk1 at h
    split at h
    · rename_i h1
      split at h
      · simp at h
      · split at h
        · simp at h
        · rcases List.mem_cons.1 hp with rfl | hp
          · exact ⟨(mom_iff _).1 h1, by omega, by omega⟩
          · exact ih h p hp
    · simp at h
theorem ck1_zero : ∀ l : List S54, ck1 l = 0 → ∀ s ∈ l, (0 ≤ s.f0 ∧ s.f0 ≤ 2147483647) ∧ 0 ≤ s.f2 ∧ s.f2 ≤ 2147483647 := by
  intro l
  induction l with
  | nil => intro _ p hp; exact (List.not_mem_nil hp).elim
  | cons x l ih =>
    intro h p hp
    unfold ck1 at h
    split at h
    · simp at h
    · rename_i h1
      split at h
      · simp at h
      · split at h
        · simp at h
        · split at h
          · simp at h
          · rename_i h2
            rcases List.mem_cons.1 hp with rfl | hp
            · exact ⟨(mom_iff _).1 (by simpa using h1), (mom_iff _).1 (by simpa using h2)⟩
            · exact ih h p hp
/-- What holds of a course of which the phases are known. -/
structure Fine (c : Cs) (P : List S77) : Prop where
  en0 : 0 ≤ c.en
  en1 : c.en ≤ 2147483648
  ch : Ch 0 P c.en
  len : P.length ≤ c.acts.length + 1
  pac : ∀ q ∈ c.pac, 0 ≤ q.f0 ∧ q.f0 < c.en ∧ 0 ≤ q.f1 ∧ q.f1 ≤ 40000
  sw : ∀ q ∈ c.sw, 0 ≤ q.f0 ∧ q.f0 < c.en ∧ 0 ≤ q.f2 ∧ q.f2 ≤ 2147483647
theorem phF_fine {c : Cs} {P : List S77} (h : phF c = (P, 0)) : Fine c P := by
  unfold phF at h
  by_cases h1 : (phs (chk c.th c.cl c.acts) c.acts c.en).2 = 0
  rotate_left
  · rw [if_neg h1] at h; exact absurd (Prod.mk.inj h).2 h1
  rw [if_pos h1] at h
  by_cases h2 : dck c.pac = 0
  rotate_left
  · rw [if_neg h2] at h; exact absurd (Prod.mk.inj h).2 h2
  rw [if_pos h2] at h
  by_cases h3 : c.pac.any (fun q => decide (c.en ≤ q.f0)) = true
  · rw [if_pos h3] at h; exact absurd (Prod.mk.inj h).2 (by decide)
  rw [if_neg h3] at h
  obtain ⟨hP, h4⟩ := Prod.mk.inj h
  have hck : chk c.th c.cl c.acts = 0 := by
    by_cases hk : chk c.th c.cl c.acts = 0
    · exact hk
    · unfold phs at h1; rw [if_neg hk] at h1; exact absurd h1 hk
  obtain ⟨_, _, _, _, _, hv⟩ := chk_zero hck
  unfold phs at h1 hP
  rw [if_pos hck] at h1 hP
  by_cases k0 : c.en < 0
  · rw [if_pos k0] at h1; simp at h1
  rw [if_neg k0] at h1 hP
  by_cases k1 : c.en > 2147483648
  · rw [if_pos k1] at h1; simp at h1
  rw [if_neg k1] at h1 hP
  by_cases k2 : 0 < c.acts.length ∧ (rd_T50 c.acts ((c.acts.length : Int) - 1)).f1 ≥ c.en
  · rw [if_pos k2] at h1; simp at h1
  rw [if_neg k2] at hP
  have hf := fold_ch (en := c.en) c.acts 0 0 [] hv rfl (fun _ => by omega) (fun hl => by
    have : ¬ (rd_T50 c.acts ((c.acts.length : Int) - 1)).f1 ≥ c.en := fun x => k2 ⟨hl, x⟩
    omega)
  simp only at hP
  have hl := turnS_len c.en (List.foldl pstep (0, 0, []) c.acts).1 (List.foldl pstep (0, 0, []) c.acts).2.1 (List.foldl pstep (0, 0, []) c.acts).2.2
  refine ⟨by omega, by omega, ?_, ?_, ?_, ?_⟩
  · rw [← hP]; exact ch_turn hf.1 hf.2.1
  · rw [← hP]; have := hf.2.2; simp only [List.length_nil] at this; omega
  · intro q hq
    have hd : dk1 c.pac = 0 := by
      by_cases hd : dk1 c.pac = 0
      · exact hd
      · unfold dck at h2; rw [if_neg hd] at h2; exact absurd h2 hd
    have ha := dk1_zero _ hd q hq
    have hb : ¬ c.en ≤ q.f0 := fun x => h3 (List.any_eq_true.2 ⟨q, hq, decide_eq_true x⟩)
    exact ⟨ha.1.1, by omega, ha.2⟩
  · intro q hq
    have hd : ck1 c.sw = 0 := by
      by_cases hd : ck1 c.sw = 0
      · exact hd
      · unfold ckS at h4; rw [if_neg hd] at h4; exact absurd h4 hd
    unfold ckS at h4
    rw [if_pos hd] at h4
    split at h4
    · split at h4
      · simp at h4
      · rename_i hn
        have ha := ck1_zero _ hd q hq
        have hb : ¬ c.en ≤ q.f0 := fun x => hn (List.any_eq_true.2 ⟨q, hq, decide_eq_true x⟩)
        exact ⟨ha.1.1, by omega, ha.2⟩
    · simp at h4
theorem stP_eq (t u : Int) : ∀ (P : List S77) (i : Int) (r : Int × Int), (∀ p ∈ P, (p.f1 ≤ t ↔ p.f1 ≤ u) ∧ (t < p.f2 ↔ u < p.f2)) → stP t P i r = stP u P i r := by
  intro P
  induction P with
  | nil => intro i r _; rfl
  | cons p P ih =>
    intro i r h
    have hp := h p (by simp)
    unfold stP
    have hi := fun r => ih (i + 1) r (fun q hq => h q (List.mem_cons_of_mem _ hq))
    by_cases h1 : p.f1 ≤ u ∧ u < p.f2
    · rw [if_pos h1, if_pos ⟨hp.1.2 h1.1, hp.2.2 h1.2⟩]; exact hi _
    · rw [if_neg h1, if_neg (fun k => h1 ⟨hp.1.1 k.1, hp.2.1 k.2⟩)]; exact hi _
theorem swK_eq (t u : Int) : ∀ (l : List S54) (r : Int × Int), (∀ x ∈ l, (x.f0 > t ↔ x.f0 > u) ∧ (¬ x.f0 > u → (wrap64 (t - x.f0) < x.f2 ↔ wrap64 (u - x.f0) < x.f2))) → swK t l r = swK u l r := by
  intro l
  induction l with
  | nil => intro r _; rfl
  | cons x l ih =>
    intro r h
    have hx := h x (by simp)
    have hi := fun r => ih r (fun q hq => h q (List.mem_cons_of_mem _ hq))
    unfold swK
    by_cases h1 : x.f0 > u
    · rw [if_pos h1, if_pos (hx.1.2 h1)]; exact hi _
    · rw [if_neg h1, if_neg (fun k => h1 (hx.1.1 k))]
      by_cases h2 : wrap64 (u - x.f0) < x.f2
      · rw [if_pos h2, if_pos ((hx.2 h1).2 h2)]; exact hi _
      · rw [if_neg h2, if_neg (fun k => h2 ((hx.2 h1).1 k))]; exact hi _
theorem atr_eq (c : Cs) (P : List S77) (t u : Int) (h1 : ∀ p ∈ P, (p.f1 ≤ t ↔ p.f1 ≤ u) ∧ (t < p.f2 ↔ u < p.f2)) (h2 : ∀ x ∈ c.sw, (x.f0 > t ↔ x.f0 > u) ∧ (¬ x.f0 > u → (wrap64 (t - x.f0) < x.f2 ↔ wrap64 (u - x.f0) < x.f2))) : atr c P t = atr c P u := by
  unfold atr
  rw [stP_eq t u P _ _ h1, swK_eq t u _ _ h2]
theorem spP_rng (t : Int) : ∀ (l : List S52) (r : Int), (∀ q ∈ l, 0 ≤ q.f1 ∧ q.f1 ≤ 40000) → 0 ≤ r → r ≤ 40000 → 0 ≤ spP t l r ∧ spP t l r ≤ 40000 := by
  intro l
  induction l with
  | nil => intro r _ h1 h2; exact ⟨h1, h2⟩
  | cons x l ih =>
    intro r h h1 h2
    unfold spP
    have hx := h x (by simp)
    split
    · exact ih _ (fun q hq => h q (List.mem_cons_of_mem _ hq)) hx.1 hx.2
    · exact ih _ (fun q hq => h q (List.mem_cons_of_mem _ hq)) h1 h2
theorem mem_chR {c : Cs} {P : List S77} {z : Int} : z ∈ chR c P ↔ z = 0 ∨ z = c.en ∨ (∃ p ∈ P, z = p.f1) ∨ (∃ p ∈ c.pac, z = p.f0) ∨ ∃ s ∈ c.sw, z = s.f0 ∨ z = min c.en (wrap64 (s.f0 + s.f2)) := by
  unfold chR chS chQ chP
  simp only [List.take_length, List.mem_append, List.mem_cons, List.not_mem_nil, or_false, List.mem_map, List.mem_flatMap]
  constructor
  · rintro ((((h | h) | ⟨p, hp, rfl⟩) | ⟨p, hp, rfl⟩) | ⟨s, hs, h⟩)
    · exact .inl h
    · exact .inr (.inl h)
    · exact .inr (.inr (.inl ⟨p, hp, rfl⟩))
    · exact .inr (.inr (.inr (.inl ⟨p, hp, rfl⟩)))
    · exact .inr (.inr (.inr (.inr ⟨s, hs, h⟩)))
  · rintro (h | h | h | h | h)
    · exact .inl (.inl (.inl (.inl h)))
    · exact .inl (.inl (.inl (.inr h)))
    · obtain ⟨p, hp, e⟩ := h; exact .inl (.inl (.inr ⟨p, hp, e.symm⟩))
    · obtain ⟨p, hp, e⟩ := h; exact .inl (.inr ⟨p, hp, e.symm⟩)
    · exact .inr h
theorem w64_id {x : Int} (h0 : 0 ≤ x) (h1 : x ≤ 9000000000000000000) : wrap64 x = x := by unfold wrap64; omega
theorem chR_rng {c : Cs} {P : List S77} (h : Fine c P) {z : Int} (hz : z ∈ chR c P) : 0 ≤ z ∧ z ≤ c.en := by
  have he := h.en0
  have he1 := h.en1
  rcases mem_chR.1 hz with rfl | rfl | ⟨p, hp, rfl⟩ | ⟨p, hp, rfl⟩ | ⟨s, hs, rfl | rfl⟩
  · omega
  · omega
  · have := (ch_le _ _ _ h.ch).2 p hp; omega
  · have := h.pac p hp; omega
  · have := h.sw s hs; omega
  · have := h.sw s hs
    rw [w64_id (x := s.f0 + s.f2) (by omega) (by omega)]
    omega
/-- Where no change lies, the attributes are the same. -/
theorem atr_same {c : Cs} {P : List S77} (h : Fine c P) (t u : Int) (hu : 0 ≤ u) (hut : u ≤ t) (ht : t < c.en) (hz : ∀ z ∈ chR c P, z ≤ t ↔ z ≤ u) : atr c P t = atr c P u := by
  have he1 := h.en1
  refine atr_eq c P t u (fun p hp => ⟨hz _ (mem_chR.2 (.inr (.inr (.inl ⟨p, hp, rfl⟩)))), ?_⟩) (fun x hx => ?_)
  · rcases ch_to _ _ _ h.ch p hp with e | ⟨q, hq, e⟩
    · rw [e]; constructor <;> intro _ <;> omega
    · have := hz _ (mem_chR.2 (.inr (.inr (.inl ⟨q, hq, rfl⟩))))
      rw [e] at this
      constructor
      · intro k; have := mt this.2; omega
      · intro k; have := mt this.1; omega
  · have hx1 := hz _ (mem_chR.2 (.inr (.inr (.inr (.inr ⟨x, hx, .inl rfl⟩)))))
    have hx2 := hz _ (mem_chR.2 (.inr (.inr (.inr (.inr ⟨x, hx, .inr rfl⟩)))))
    have hr := h.sw x hx
    rw [w64_id (x := x.f0 + x.f2) (by omega) (by omega)] at hx2
    refine ⟨?_, fun hn => ?_⟩
    · constructor
      · intro k; have := mt hx1.2; omega
      · intro k; have := mt hx1.1; omega
    · rw [w64_id (x := t - x.f0) (by omega) (by omega), w64_id (x := u - x.f0) (by omega) (by omega)]
      constructor
      · intro k; omega
      · intro k
        have : ¬ min c.en (x.f0 + x.f2) ≤ u := by omega
        have := mt hx2.1 this
        omega
/-- What holds of a stretch. -/
structure Ok (c : Cs) (P : List S77) (s : Str) : Prop where
  fr0 : 0 ≤ s.fr
  le : s.fr ≤ s.to_
  to1 : s.to_ ≤ c.en
  sp0 : 0 < s.sp
  sp1 : s.sp ≤ 40000
  at_ : ∀ t, s.fr ≤ t → t < s.to_ → atr c P t = (s.p, true)
theorem chL_get {c : Cs} {P : List S77} (h : Fine c P) (i : Nat) (hi : i + 1 < (chL c P).length) :
    0 ≤ (chL c P).getD i 0 ∧ (chL c P).getD i 0 ≤ (chL c P).getD (i + 1) 0 ∧ (chL c P).getD (i + 1) 0 ≤ c.en ∧ ∀ t, (chL c P).getD i 0 ≤ t → t < (chL c P).getD (i + 1) 0 → ∀ z ∈ chR c P, z ≤ t ↔ z ≤ (chL c P).getD i 0 := by
  have hs : (chL c P).Pairwise (· ≤ ·) := chZ_sorted _
  have hg : ∀ a b : Nat, a ≤ b → b < (chL c P).length → (chL c P).getD a 0 ≤ (chL c P).getD b 0 := by
    intro a b hab hb
    rcases Nat.lt_or_eq_of_le hab with hlt | rfl
    · have := List.pairwise_iff_getElem.1 hs a b (by omega) hb hlt
      rw [List.getD_eq_getElem?_getD, List.getD_eq_getElem?_getD, List.getElem?_eq_getElem (by omega), List.getElem?_eq_getElem hb]
      exact this
    · exact Int.le_refl _
  have hm : ∀ a : Nat, a < (chL c P).length → 0 ≤ (chL c P).getD a 0 ∧ (chL c P).getD a 0 ≤ c.en := by
    intro a ha
    rw [List.getD_eq_getElem?_getD, List.getElem?_eq_getElem ha]
    exact chR_rng h (mem_chZ.1 (List.getElem_mem ha))
  refine ⟨(hm i (by omega)).1, hg i (i + 1) (by omega) hi, (hm (i + 1) hi).2, fun t h1 h2 z hz => ?_⟩
  obtain ⟨j, hj, rfl⟩ := List.mem_iff_getElem.1 (show z ∈ chL c P from mem_chZ.2 hz)
  have e : (chL c P)[j] = (chL c P).getD j 0 := by rw [List.getD_eq_getElem?_getD, List.getElem?_eq_getElem hj]; rfl
  rw [e]
  by_cases hji : j ≤ i
  · have := hg j i hji (by omega)
    constructor <;> intro _ <;> omega
  · have := hg (i + 1) j (by omega) hj
    constructor <;> intro _ <;> omega
theorem pcF_ok {c : Cs} {P : List S77} (h : Fine c P) (i : Nat) (hi : i + 1 < (chL c P).length) : ∀ s ∈ pcF c P ((chL c P).getD i 0) ((chL c P).getD (i + 1) 0), Ok c P s ∧ s.fr = (chL c P).getD i 0 ∧ s.to_ = (chL c P).getD (i + 1) 0 ∧ s.p.f0 = 0 ∧ s.p.f1 = 0 := by
  intro s hs
  unfold pcF at hs
  split at hs
  · rename_i hc
    rw [List.mem_singleton.1 hs]
    obtain ⟨g0, g1, g2, g3⟩ := chL_get h i hi
    refine ⟨⟨g0, g1, g2, hc.2, (spP_rng _ _ _ (fun q hq => (h.pac q hq).2.2) (by omega) (by omega)).2, fun t h1 h2 => ?_⟩, rfl, rfl, rfl, rfl⟩
    rw [atr_same h t ((chL c P).getD i 0) g0 h1 (by simp only at h2; omega) (g3 t h1 h2)]
    exact Prod.ext rfl hc.1
  · exact (List.not_mem_nil hs).elim
theorem upS_ok {c : Cs} {P : List S77} (h : Fine c P) : ∀ k, k < (chL c P).length → (∀ s ∈ upS c P (chL c P) k, Ok c P s ∧ s.to_ ≤ (chL c P).getD k 0 ∧ s.p.f0 = 0 ∧ s.p.f1 = 0) ∧ (upS c P (chL c P) k).Pairwise (fun a b => a.to_ ≤ b.fr) := by
  intro k
  induction k with
  | zero => intro _; exact ⟨fun s hs => (List.not_mem_nil hs).elim, List.Pairwise.nil⟩
  | succ k ih =>
    intro hk
    obtain ⟨h1, h2⟩ := ih (by omega)
    have hp := pcF_ok h k hk
    obtain ⟨g0, g1, g2, g3⟩ := chL_get h k hk
    rw [upS_succ]
    refine ⟨fun s hs => ?_, ?_⟩
    · rcases List.mem_append.1 hs with hs | hs
      · have := h1 s hs; exact ⟨this.1, by omega, this.2.2⟩
      · have := hp s hs; exact ⟨this.1, by rw [this.2.2.1]; exact Int.le_refl _, this.2.2.2⟩
    · refine List.pairwise_append.2 ⟨h2, ?_, fun a ha b hb => ?_⟩
      · unfold pcF; split <;> simp
      · have := h1 a ha; have hb := hp b hb; rw [hb.2.1]; exact this.2.1
theorem US_ok {c : Cs} {P : List S77} (h : Fine c P) (h0 : 0 < (chL c P).length) : (∀ s ∈ US c P, Ok c P s ∧ s.p.f0 = 0 ∧ s.p.f1 = 0) ∧ (US c P).Pairwise (fun a b => a.to_ ≤ b.fr) := by
  have := upS_ok h ((chL c P).length - 1) (by omega)
  exact ⟨fun s hs => ⟨(this.1 s hs).1, (this.1 s hs).2.2⟩, this.2⟩
end Go.Proofs.Ytebifddfgimnlaa.Rl
end
section
/- Plain law: what the stretches sum to, the moment of a millimetre, and what the sections say of it. -/
namespace Go.Proofs.Ytebifddfgimnlaa.Rl
open Go.RowKit Go.Proofs.Ytebifddfgimnlaa.PX Go.Proofs.Ytebifddfgimnlaa.Rd Go.Proofs.YtebifddfgimnlaaW.PrintWords Go.Proofs.YtebifddfgimnlaaW.PrintLast
set_option linter.unusedVariables false
set_option linter.unusedSimpArgs false
def ln (s : Str) : Int := (s.to_ - s.fr) * s.sp
def sumL : List Str → Int
  | [] => 0
  | s :: l => ln s + sumL l
theorem sumL_app : ∀ a b : List Str, sumL (a ++ b) = sumL a + sumL b := by
  intro a
  induction a with
  | nil => intro b; exact (Int.zero_add _).symm
  | cons x a ih => intro b; show ln x + sumL (a ++ b) = ln x + sumL a + sumL b; rw [ih, Int.add_assoc]
/-- The range of a stretch. -/
structure Rg (s : Str) : Prop where
  fr0 : 0 ≤ s.fr
  le : s.fr ≤ s.to_
  to1 : s.to_ ≤ 2147483648
  sp0 : 0 < s.sp
  sp1 : s.sp ≤ 40000
theorem Ok.rg {c : Cs} {P : List S77} {s : Str} (h : Ok c P s) (hf : Fine c P) : Rg s := ⟨h.fr0, h.le, Int.le_trans h.to1 hf.en1, h.sp0, h.sp1⟩
theorem ln_rng {s : Str} (h : Rg s) : 0 ≤ ln s ∧ ln s ≤ 85899345920000 := by
  have h1 := h.fr0
  have h2 := h.le
  have h3 := h.to1
  have h4 := h.sp0
  have h5 := h.sp1
  unfold ln
  refine ⟨Int.mul_nonneg (by omega) (by omega), ?_⟩
  exact Int.mul_le_mul (a := s.to_ - s.fr) (b := s.sp) (c := 2147483648) (d := 40000) (by omega) h5 (by omega) (by decide)
theorem sumL_rng : ∀ l : List Str, (∀ s ∈ l, Rg s) → 0 ≤ sumL l ∧ sumL l ≤ (l.length : Int) * 85899345920000 := by
  intro l
  induction l with
  | nil => intro _; exact ⟨Int.le_refl _, Int.le_refl _⟩
  | cons x l ih =>
    intro h
    have h1 := ln_rng (h x (by simp))
    have h2 := ih (fun s hs => h s (List.mem_cons_of_mem _ hs))
    refine ⟨Int.add_nonneg h1.1 h2.1, ?_⟩
    show ln x + sumL l ≤ _
    rw [List.length_cons]
    omega
theorem moreS_eq {s : Str} (h : Rg s) : moreS s = ln s := by
  have h1 := ln_rng h
  have h2 := h.fr0
  have h3 := h.le
  have h4 := h.to1
  unfold moreS
  rw [w64_id (x := s.to_ - s.fr) (by omega) (by omega)]
  exact w64_id h1.1 (by unfold ln at h1; omega)
theorem lenF_eq (en : Int) : ∀ (l : List Str) (n : Int), (∀ s ∈ l, Rg s ∧ s.to_ ≤ en) → l.length ≤ 500 → 0 ≤ n → n + sumL l ≤ 500 * 85899345920000 → List.foldl (lstep en) n l = n + sumL l := by
  intro l
  induction l with
  | nil => intro n _ _ _ _; exact (Int.add_zero n).symm
  | cons x l ih =>
    intro n h hl h0 h1
    have hx := h x (by simp)
    have k1 := ln_rng hx.1
    have k2 := sumL_rng l (fun s hs => (h s (List.mem_cons_of_mem _ hs)).1)
    have h1' : n + (ln x + sumL l) ≤ 500 * 85899345920000 := h1
    have hf := hx.1.fr0
    have ht := hx.1.to1
    have hle := hx.1.le
    rw [List.foldl_cons]
    have e : lstep en n x = n + ln x := by
      unfold lstep
      rw [show min en x.to_ = x.to_ from Int.min_eq_right hx.2, w64_id (x := x.to_ - x.fr) (by omega) (by omega), show max 0 (x.to_ - x.fr) = x.to_ - x.fr from Int.max_eq_right (by omega)]
      have e2 : (x.to_ - x.fr) * x.sp = ln x := rfl
      rw [e2, w64_id (x := ln x) (by omega) (by omega), w64_id (by omega) (by omega)]
    rw [e, ih (n + ln x) (fun s hs => h s (List.mem_cons_of_mem _ hs)) (by simp only [List.length_cons] at hl; omega) (by omega) (by omega)]
    show _ = n + (ln x + sumL l)
    omega
theorem div_rng {x n : Int} {s : Str} (h : Rg s) (h0 : n ≤ x) (h1 : x < n + ln s) : 0 ≤ (x - n) / s.sp ∧ s.fr + (x - n) / s.sp < s.to_ := by
  refine ⟨Int.ediv_nonneg (by omega) (by have := h.sp0; omega), ?_⟩
  have : (x - n) / s.sp < s.to_ - s.fr := Int.ediv_lt_of_lt_mul h.sp0 (by unfold ln at h1; omega)
  omega
theorem whF_cons (x : Int) (s : Str) (l : List Str) (n : Int) : whF x (s :: l) n = if wrap64 (n + moreS s) ≤ x then whF x l (wrap64 (n + moreS s)) else some (wrap64 (s.fr + wrap64 (Int.tdiv (wrap64 (x - n)) s.sp))) := rfl
theorem wh_here {x n : Int} {s : Str} (h : Rg s) (h0 : 0 ≤ n) (hn : n ≤ x) (hx : x ≤ 17179869184) (h1 : x < n + ln s) : wrap64 (s.fr + wrap64 (Int.tdiv (wrap64 (x - n)) s.sp)) = s.fr + (x - n) / s.sp := by
  have hd := div_rng h hn h1
  have hf := h.fr0
  have ht := h.to1
  rw [w64_id (x := x - n) (by omega) (by omega), Int.tdiv_eq_ediv_of_nonneg (by omega), w64_id (x := (x - n) / s.sp) (by omega) (by omega), w64_id (by omega) (by omega)]
theorem wh_in (x : Int) (hx : x ≤ 17179869184) : ∀ (l : List Str) (n b : Int), (∀ s ∈ l, Rg s) → 0 ≤ n → n ≤ x → whF x l n = some b → ∃ s ∈ l, s.fr ≤ b ∧ b < s.to_ := by
  intro l
  induction l with
  | nil => intro n b _ _ _ h; cases h
  | cons s l ih =>
    intro n b hr h0 hn h
    have hs := hr s (by simp)
    have k1 := ln_rng hs
    rw [whF_cons, moreS_eq hs, w64_id (x := n + ln s) (by omega) (by omega)] at h
    by_cases hc : n + ln s ≤ x
    · rw [if_pos hc] at h
      obtain ⟨q, hq, h1⟩ := ih (n + ln s) b (fun q hq => hr q (List.mem_cons_of_mem _ hq)) (by omega) hc h
      exact ⟨q, List.mem_cons_of_mem _ hq, h1⟩
    · rw [if_neg hc, wh_here hs h0 hn hx (by omega)] at h
      have hd := div_rng hs hn (show x < n + ln s by omega)
      obtain rfl := Option.some.inj h
      exact ⟨s, by simp, by omega, hd.2⟩
theorem wh_mono (x y : Int) (hxy : x ≤ y) (hy : y ≤ 17179869184) : ∀ (l : List Str) (n a b : Int), (∀ s ∈ l, Rg s) → l.Pairwise (fun a b => a.to_ ≤ b.fr) → 0 ≤ n → n ≤ x → whF x l n = some a → whF y l n = some b → a ≤ b := by
  intro l
  induction l with
  | nil => intro n a b _ _ _ _ h; cases h
  | cons s l ih =>
    intro n a b hr hp h0 hn ha hb
    have hs := hr s (by simp)
    have hr' : ∀ q ∈ l, Rg q := fun q hq => hr q (List.mem_cons_of_mem _ hq)
    have k1 := ln_rng hs
    obtain ⟨hp1, hp2⟩ := List.pairwise_cons.1 hp
    rw [whF_cons, moreS_eq hs, w64_id (x := n + ln s) (by omega) (by omega)] at ha hb
    by_cases hc : n + ln s ≤ x
    · rw [if_pos hc] at ha
      rw [if_pos (by omega)] at hb
      exact ih _ a b hr' hp2 (by omega) hc ha hb
    · rw [if_neg hc, wh_here hs h0 hn (by omega) (by omega)] at ha
      obtain rfl := Option.some.inj ha
      have hd := div_rng hs hn (show x < n + ln s by omega)
      by_cases hc2 : n + ln s ≤ y
      · rw [if_pos hc2] at hb
        obtain ⟨q, hq, h1⟩ := wh_in y hy l (n + ln s) b hr' (by omega) hc2 hb
        have := hp1 q hq
        omega
      · rw [if_neg hc2, wh_here hs h0 (by omega) hy (by omega)] at hb
        obtain rfl := Option.some.inj hb
        have := Int.ediv_le_ediv hs.sp0 (show x - n ≤ y - n by omega)
        omega
theorem wh_loc (x : Int) (hx : x ≤ 17179869184) (s : Str) (b : List Str) : ∀ (a : List Str) (n : Int), (∀ q ∈ a ++ s :: b, Rg q) → 0 ≤ n → n + sumL a ≤ x → x < n + sumL a + ln s → ∃ t, whF x (a ++ s :: b) n = some t ∧ s.fr ≤ t ∧ t < s.to_ := by
  intro a
  induction a with
  | nil =>
    intro n hr h0 h1 h2
    have hs := hr s (by simp)
    have k1 := ln_rng hs
    simp only [sumL] at h1 h2
    rw [List.nil_append, whF_cons, moreS_eq hs, w64_id (x := n + ln s) (by omega) (by omega), if_neg (by omega), wh_here hs h0 (by omega) hx (by omega)]
    have hd := div_rng hs (show n ≤ x by omega) (show x < n + ln s by omega)
    exact ⟨_, rfl, by omega, hd.2⟩
  | cons q a ih =>
    intro n hr h0 h1 h2
    have hq := hr q (by simp)
    have k1 := ln_rng hq
    have k2 := sumL_rng a (fun z hz => hr z (by simp [hz]))
    have h1 : n + (ln q + sumL a) ≤ x := h1
    have h2 : x < n + (ln q + sumL a) + ln s := h2
    rw [List.cons_append, whF_cons, moreS_eq hq, w64_id (x := n + ln q) (by omega) (by omega), if_pos (by omega)]
    exact ih (n + ln q) (fun z hz => hr z (List.mem_cons_of_mem _ hz)) (by omega) (by omega) (by omega)
theorem eq45_kind {a b : S45} (h : eq45 a b = true) : a.f2 = b.f2 ∧ a.f3 = b.f3 ∧ a.f4 = b.f4 := by
  unfold eq45 at h
  simp only [Bool.and_eq_true, beq_iff_eq] at h
  exact ⟨h.2.2.1, h.2.2.2.1, h.2.2.2.2⟩
/-- What holds of the sections of a beginning of the stretches. -/
def SInv (pre : List Str) (r : List S45 × S45 × Int) : Prop :=
  r.2.2 = sumL pre ∧ ((pre = [] ∧ r.1 = []) ∨ ∃ l q, r.1 = l ++ [q] ∧ q.f1 = sumL pre ∧ q.f2 = r.2.1.f2 ∧ q.f3 = r.2.1.f3 ∧ q.f4 = r.2.1.f4) ∧
    ∀ q ∈ r.1, ∀ x, q.f0 ≤ x → x < q.f1 → ∃ a s b, pre = a ++ s :: b ∧ sumL a ≤ x ∧ x < sumL a + ln s ∧ q.f2 = s.p.f2 ∧ q.f3 = s.p.f3 ∧ q.f4 = s.p.f4
theorem rd45_last (l : List S45) (q : S45) : rd_T45 (l ++ [q]) (((l ++ [q]).length - 1 : Nat) : Int) = q := by
  unfold rd_T45
  rw [Int.toNat_natCast, List.length_append, List.length_singleton, Nat.add_sub_cancel, List.getD_eq_getElem?_getD, List.getElem?_append_right (Nat.le_refl _), Nat.sub_self]
  rfl
theorem set_last (l : List S45) (q q' : S45) : (l ++ [q]).set ((l ++ [q]).length - 1) q' = l ++ [q'] := by
  rw [List.length_append, List.length_singleton, Nat.add_sub_cancel, List.set_append_right _ _ (Nat.le_refl _), Nat.sub_self]
  rfl
theorem SInv.step {pre : List Str} {r : List S45 × S45 × Int} (h : SInv pre r) (x : Str) (hr : ∀ s ∈ pre ++ [x], Rg s) (hl : (pre ++ [x]).length ≤ 500) : SInv (pre ++ [x]) (sstep r x) := by
  obtain ⟨l0, la, en⟩ := r
  obtain ⟨h1, h2, h3⟩ := h
  obtain rfl : en = sumL pre := h1
  have hx := hr x (by simp)
  have k1 := ln_rng hx
  have k2 := sumL_rng pre (fun s hs => hr s (by simp [hs]))
  have k3 : sumL (pre ++ [x]) = sumL pre + ln x := by rw [sumL_app]; simp [sumL]
  rw [List.length_append, List.length_singleton] at hl
  have k4 : wrap64 (sumL pre + moreS x) = sumL pre + ln x := by rw [moreS_eq hx]; exact w64_id (by omega) (by omega)
  have old : ∀ q ∈ l0, ∀ y, q.f0 ≤ y → y < q.f1 → ∃ a s b, pre ++ [x] = a ++ s :: b ∧ sumL a ≤ y ∧ y < sumL a + ln s ∧ q.f2 = s.p.f2 ∧ q.f3 = s.p.f3 ∧ q.f4 = s.p.f4 := by
    intro q hq y hy1 hy2
    obtain ⟨a, s, b, e, m1, m2, m3⟩ := h3 q hq y hy1 hy2
    exact ⟨a, s, b ++ [x], by rw [e]; simp, m1, m2, m3⟩
  by_cases hc : 0 < l0.length ∧ eq45 x.p la = true
  · have he := eq45_kind hc.2
    rcases h2 with ⟨_, h2⟩ | ⟨l, q, h2, h4, h5, h6, h7⟩
    · have h2 : l0 = [] := h2
      rw [h2] at hc; exact absurd hc.1 (by simp)
    · have h2 : l0 = l ++ [q] := h2
      have h5 : q.f2 = la.f2 := h5
      have h6 : q.f3 = la.f3 := h6
      have h7 : q.f4 = la.f4 := h7
      have e : sstep (l0, la, sumL pre) x = (l ++ [⟨q.f0, sumL pre + ln x, q.f2, q.f3, q.f4⟩], x.p, sumL pre + ln x) := by
        unfold sstep
        dsimp only
        rw [if_pos hc, k4, h2, rd45_last, set_last, h4, k4]
      rw [e]
      refine ⟨k3.symm, .inr ⟨l, _, rfl, k3.symm, ?_, ?_, ?_⟩, ?_⟩
      · show q.f2 = x.p.f2; rw [he.1, h5]
      · show q.f3 = x.p.f3; rw [he.2.1, h6]
      · show q.f4 = x.p.f4; rw [he.2.2, h7]
      · intro z hz y hy1 hy2
        rcases List.mem_append.1 hz with hz | hz
        · exact old z (by rw [h2]; simp [hz]) y hy1 hy2
        · obtain rfl := List.mem_singleton.1 hz
          simp only at hy1 hy2 ⊢
          by_cases hy : y < sumL pre
          · exact old q (by rw [h2]; simp) y hy1 (by rw [h4]; exact hy)
          · exact ⟨pre, x, [], rfl, by omega, by omega, by rw [he.1, h5], by rw [he.2.1, h6], by rw [he.2.2, h7]⟩
  · have e : sstep (l0, la, sumL pre) x = (l0 ++ [⟨sumL pre, sumL pre + ln x, x.p.f2, x.p.f3, x.p.f4⟩], x.p, sumL pre + ln x) := by
      unfold sstep
      dsimp only
      rw [if_neg hc, k4]
    rw [e]
    refine ⟨k3.symm, .inr ⟨l0, _, rfl, k3.symm, rfl, rfl, rfl⟩, ?_⟩
    intro z hz y hy1 hy2
    rcases List.mem_append.1 hz with hz | hz
    · exact old z hz y hy1 hy2
    · obtain rfl := List.mem_singleton.1 hz
      simp only at hy1 hy2 ⊢
      exact ⟨pre, x, [], rfl, by omega, by omega, rfl, rfl, rfl⟩
theorem SInv.all : ∀ (post pre : List Str) (r : List S45 × S45 × Int), SInv pre r → (∀ s ∈ pre ++ post, Rg s) → (pre ++ post).length ≤ 500 → SInv (pre ++ post) (post.foldl sstep r) := by
  intro post
  induction post with
  | nil => intro pre r h _ _; rw [List.append_nil]; exact h
  | cons x post ih =>
    intro pre r h hr hl
    have h1 := h.step x (fun s hs => hr s (by rcases List.mem_append.1 hs with hs | hs <;> simp_all)) (by simp only [List.length_append, List.length_cons, List.length_nil] at hl ⊢; omega)
    have h2 := ih (pre ++ [x]) _ h1 (by simpa using hr) (by simpa using hl)
    rw [List.append_assoc] at h2
    exact h2
theorem sf_inv (us : List Str) (hr : ∀ s ∈ us, Rg s) (hl : us.length ≤ 500) : SInv us (sf us) := by
  have := SInv.all us [] ([], z45, 0) ⟨rfl, .inl ⟨rfl, rfl⟩, fun q hq => (List.not_mem_nil hq).elim⟩ hr hl
  exact this
/-- What the sections say of a millimetre. -/
theorem sec_at {c : Cs} {P : List S77} (hf : Fine c P) (hlp : P.length ≤ 100) (hls : c.sw.length ≤ 100) (hlq : c.pac.length ≤ 100) (q : S45) (hq : q ∈ (sf (US c P)).1) (x : Int) (h0 : q.f0 ≤ x) (h1 : x < q.f1) (hx : x ≤ 17179869184) :
    ∃ t, whF x (US c P) 0 = some t ∧ 0 ≤ t ∧ t < c.en ∧ (atr c P t).2 = true ∧ (atr c P t).1.f2 = q.f2 ∧ (atr c P t).1.f4 = q.f4 := by
  have hu := US_ok hf (chL_len c P hlp hls hlq).1
  have hl := US_len c P hlp hls hlq
  have hR : ∀ s ∈ US c P, Rg s := fun s hs => (hu.1 s hs).1.rg hf
  obtain ⟨_, _, h3⟩ := sf_inv (US c P) hR (by omega)
  obtain ⟨a, s, b, e, m1, m2, m3, m4, m5⟩ := h3 q hq x h0 h1
  obtain ⟨t, ht, t0, t1⟩ := wh_loc x hx s b a 0 (by rw [← e]; exact hR) (Int.le_refl _) (by omega) (by omega)
  have hs := (hu.1 s (by rw [e]; simp)).1
  have ha := hs.at_ t t0 t1
  have h6 := hs.fr0
  have h7 := hs.to1
  exact ⟨t, by rw [e]; exact ht, by omega, by omega, by rw [ha], by rw [ha]; exact m3.symm, by rw [ha]; exact m5.symm⟩
/-- The length is the end of the sections. -/
theorem len_sum {c : Cs} {P : List S77} (hf : Fine c P) (hlp : P.length ≤ 100) (hls : c.sw.length ≤ 100) (hlq : c.pac.length ≤ 100) : lenF c.en (US c P) = (sf (US c P)).2.2 ∧ 0 ≤ (sf (US c P)).2.2 ∧
    (((sf (US c P)).1 = [] ∧ (sf (US c P)).2.2 = 0) ∨ ∃ l q, (sf (US c P)).1 = l ++ [q] ∧ q.f1 = (sf (US c P)).2.2) := by
  have hu := US_ok hf (chL_len c P hlp hls hlq).1
  have hl := US_len c P hlp hls hlq
  have hR : ∀ s ∈ US c P, Rg s := fun s hs => (hu.1 s hs).1.rg hf
  have hs := sumL_rng _ hR
  obtain ⟨h1, h2, _⟩ := sf_inv (US c P) hR (by omega)
  have h3 := lenF_eq c.en (US c P) 0 (fun s hs => ⟨hR s hs, (hu.1 s hs).1.to1⟩) (by omega) (Int.le_refl _) (by omega)
  rw [h1]
  refine ⟨by unfold lenF; rw [h3, Int.zero_add], hs.1, ?_⟩
  rcases h2 with ⟨h2, h4⟩ | ⟨l, q, h2, h4, _⟩
  · exact .inl ⟨h4, by rw [h2]; rfl⟩
  · exact .inr ⟨l, q, h2, h4⟩
theorem wh_le {c : Cs} {P : List S77} (hf : Fine c P) (hlp : P.length ≤ 100) (hls : c.sw.length ≤ 100) (hlq : c.pac.length ≤ 100) {x y a b : Int} (h0 : 0 ≤ x) (hxy : x ≤ y) (hy : y ≤ 17179869184) (ha : whF x (US c P) 0 = some a) (hb : whF y (US c P) 0 = some b) : a ≤ b := by
  have hu := US_ok hf (chL_len c P hlp hls hlq).1
  exact wh_mono x y hxy hy (US c P) 0 a b (fun s hs => (hu.1 s hs).1.rg hf) hu.2 (Int.le_refl _) h0 ha hb
end Go.Proofs.Ytebifddfgimnlaa.Rl
end
section
/- Plain law: the checks of package reel, and what is lost, told in closed form. -/
namespace Go.Proofs.Ytebifddfgimnlaa.Rl
open Go.RowKit Go.Proofs.Ytebifddfgimnlaa.PX Go.Proofs.Ytebifddfgimnlaa.Rd Go.Proofs.YtebifddfgimnlaaW.PrintWords Go.Proofs.YtebifddfgimnlaaW.PrintLast
set_option linter.unusedVariables false
set_option linter.unusedSimpArgs false
theorem wrap_i' {i n : Nat} (h : i ≤ n) (hn : n ≤ 1000) : wrap64 ((i : Int) + 1) = ((i + 1 : Nat) : Int) := by unfold wrap64; omega
theorem drop45 (l : List S45) (i : Nat) (h : i < l.length) : l.drop i = rd_T45 l i :: l.drop (i + 1) := by
  rw [List.drop_eq_getElem_cons h]
  congr 1
  unfold rd_T45
  rw [Int.toNat_natCast, List.getD_eq_getElem?_getD, List.getElem?_eq_getElem h]
  rfl
theorem dropZ (l : List Int) (i : Nat) (h : i < l.length) : l.drop i = rd l i :: l.drop (i + 1) := by
  rw [List.drop_eq_getElem_cons h]
  congr 1
  unfold rd
  rw [Int.toNat_natCast, List.getD_eq_getElem?_getD, List.getElem?_eq_getElem h]
  rfl
/-- A good section. -/
def G45 (q : S45) : Prop := 0 ≤ q.f0 ∧ q.f0 < q.f1 ∧ q.f1 ≤ 17179869184
theorem one_some (q : S45) : ∃ r, (∀ k, reel_checkOne.f (k + 3) q.f0 q.f1 q.f2 q.f3 q.f4 = some r) ∧ (r = 0 → G45 q) := by
  have j2 : ∀ (b : Bool) (x0 x1 x2 x3 x4 : Int), ∃ r, ∀ k, reel_checkOne.j2 (k + 1) b x0 x1 x2 x3 x4 = some r := by
    intro b x0 x1 x2 x3 x4
    by_cases h1 : b = true
    · exact ⟨22, fun k => by rw [reel_checkOne.j2, if_pos h1]⟩
    · by_cases h2 : x4 < 0
      · exact ⟨1, fun k => by rw [reel_checkOne.j2, if_neg h1, if_pos h2]⟩
      · by_cases h3 : x4 > 2048
        · exact ⟨1, fun k => by rw [reel_checkOne.j2, if_neg h1, if_neg h2, if_pos h3]⟩
        · exact ⟨0, fun k => by rw [reel_checkOne.j2, if_neg h1, if_neg h2, if_neg h3]⟩
  have j1 : ∀ (b : Bool) (x0 x1 x2 x3 x4 : Int), ∃ r, ∀ k, reel_checkOne.j1 (k + 2) b x0 x1 x2 x3 x4 = some r := by
    intro b x0 x1 x2 x3 x4
    by_cases h1 : b = true
    · exact ⟨17, fun k => by rw [reel_checkOne.j1, if_pos h1]⟩
    · by_cases h2 : x3 < (-1)
      · obtain ⟨r, hr⟩ := j2 true x0 x1 x2 x3 x4
        exact ⟨r, fun k => by rw [reel_checkOne.j1, if_neg h1, if_pos h2]; exact hr k⟩
      · obtain ⟨r, hr⟩ := j2 (decide (x3 ≥ 16)) x0 x1 x2 x3 x4
        exact ⟨r, fun k => by rw [reel_checkOne.j1, if_neg h1, if_neg h2]; exact hr k⟩
  have j0 : ∀ (b : Bool) (x0 x1 x2 x3 x4 : Int), ∃ r, (∀ k, reel_checkOne.j0 (k + 3) b x0 x1 x2 x3 x4 = some r) ∧ (r = 0 → b = false) := by
    intro b x0 x1 x2 x3 x4
    by_cases h1 : b = true
    · exact ⟨1, fun k => by rw [reel_checkOne.j0, if_pos h1], fun h => by simp at h⟩
    · by_cases h2 : x2 < 1
      · obtain ⟨r, hr⟩ := j1 true x0 x1 x2 x3 x4
        exact ⟨r, fun k => by rw [reel_checkOne.j0, if_neg h1, if_pos h2]; exact hr k, fun _ => by simpa using h1⟩
      · obtain ⟨r, hr⟩ := j1 (decide (x2 > 3)) x0 x1 x2 x3 x4
        exact ⟨r, fun k => by rw [reel_checkOne.j0, if_neg h1, if_neg h2]; exact hr k, fun _ => by simpa using h1⟩
  unfold reel_checkOne.f
  by_cases h1 : q.f0 < 0
  · obtain ⟨r, hr, hz⟩ := j0 true q.f0 q.f1 q.f2 q.f3 q.f4
    exact ⟨r, fun k => by rw [if_pos h1]; exact hr k, fun h => absurd (hz h) (by decide)⟩
  · by_cases h2 : q.f0 ≥ q.f1
    · obtain ⟨r, hr, hz⟩ := j0 true q.f0 q.f1 q.f2 q.f3 q.f4
      exact ⟨r, fun k => by rw [if_neg h1, if_pos h2]; exact hr k, fun h => absurd (hz h) (by decide)⟩
    · obtain ⟨r, hr, hz⟩ := j0 (decide (q.f1 > 17179869184)) q.f0 q.f1 q.f2 q.f3 q.f4
      exact ⟨r, fun k => by rw [if_neg h1, if_neg h2]; exact hr k, fun h => ⟨by omega, by omega, by have := of_decide_eq_false (hz h); omega⟩⟩
/-- Sections, one after the other, from a to b. -/
def SC : Int → List S45 → Int → Prop
  | a, [], b => a = b
  | a, q :: l, b => q.f0 = a ∧ SC q.f1 l b
theorem chk_l1 (l : List S45) (hl : l.length ≤ 512) : ∀ (d i : Nat) (e ph : Int), i + d = l.length → ∃ r, (∀ k, reel_Check.l1 (k + d + 1) e ph l (l.length : Int) (i : Int) = some r) ∧ (r = 0 → ∃ b, SC e (l.drop i) b) := by
  intro d
  induction d with
  | zero =>
    intro i e ph h
    exact ⟨0, fun k => by unfold reel_Check.l1; rw [if_neg (by omega)], fun _ => ⟨e, by rw [show i = l.length by omega, List.drop_length]; rfl⟩⟩
  | succ d ih =>
    intro i e ph h
    have hs : ∀ k, reel_Check.l1 (k + (d + 1) + 1) e ph l (l.length : Int) (i : Int) = (if (rd_T45 l (i : Int)).f0 = e then (if (rd_T45 l (i : Int)).f4 < ph then some 9 else reel_Check.l1 (k + d + 1) (rd_T45 l (i : Int)).f1 (rd_T45 l (i : Int)).f4 l (l.length : Int) ((i + 1 : Nat) : Int)) else some 9) := by
      intro k
      rw [show k + (d + 1) + 1 = (k + d + 1) + 1 by omega]
      rw [reel_Check.l1, if_pos (by omega), if_pos (by omega), if_pos (by omega), wrap_i' (n := l.length) (by omega) (by omega)]
    by_cases h1 : (rd_T45 l (i : Int)).f0 = e
    · by_cases h2 : (rd_T45 l (i : Int)).f4 < ph
      · exact ⟨9, fun k => by rw [hs k, if_pos h1, if_pos h2], fun h => by simp at h⟩
      · obtain ⟨r, hr, hz⟩ := ih (i + 1) (rd_T45 l (i : Int)).f1 (rd_T45 l (i : Int)).f4 (by omega)
        exact ⟨r, fun k => by rw [hs k, if_pos h1, if_neg h2]; exact hr k, fun h => by obtain ⟨b, hb⟩ := hz h; exact ⟨b, by rw [drop45 l i (by omega)]; exact ⟨h1, hb⟩⟩⟩
    · exact ⟨9, fun k => by rw [hs k, if_neg h1], fun h => by simp at h⟩
theorem chk_l0 (l : List S45) (hl : l.length ≤ 512) : ∀ (d i : Nat), i + d = l.length → ∃ r, (∀ k, reel_Check.l0 (k + l.length + 4 + d) l l (l.length : Int) (i : Int) = some r) ∧ (r = 0 → (∀ q ∈ l.drop i, G45 q) ∧ ∃ b, SC 0 l b) := by
  intro d
  induction d with
  | zero =>
    intro i h
    obtain ⟨r, hr, hz⟩ := chk_l1 l hl l.length 0 0 0 (by omega)
    refine ⟨r, fun k => ?_, fun h0 => ⟨fun q hq => ?_, hz h0⟩⟩
    · rw [show k + l.length + 4 + 0 = (k + l.length + 3) + 1 by omega]
      rw [reel_Check.l0, if_neg (by omega)]
      have := hr (k + 2)
      rw [show k + 2 + l.length + 1 = k + l.length + 3 by omega] at this
      exact this
    · rw [show i = l.length by omega, List.drop_length] at hq; exact (List.not_mem_nil hq).elim
  | succ d ih =>
    intro i h
    obtain ⟨r1, hr1, hz1⟩ := one_some (rd_T45 l (i : Int))
    have hs : ∀ k, reel_Check.l0 (k + l.length + 4 + (d + 1)) l l (l.length : Int) (i : Int) = (if r1 = 0 then reel_Check.l0 (k + l.length + 4 + d) l l (l.length : Int) ((i + 1 : Nat) : Int) else some r1) := by
      intro k
      rw [show k + l.length + 4 + (d + 1) = (k + l.length + 4 + d) + 1 by omega]
      rw [reel_Check.l0, if_pos (by omega), if_pos (by omega), if_pos (by omega), wrap_i' (n := l.length) (by omega) (by omega)]
      have := hr1 (k + l.length + 1 + d)
      rw [show k + l.length + 1 + d + 3 = k + l.length + 4 + d by omega] at this
      rw [this]
      rfl
    by_cases h1 : r1 = 0
    · obtain ⟨r, hr, hz⟩ := ih (i + 1) (by omega)
      refine ⟨r, fun k => by rw [hs k, if_pos h1]; exact hr k, fun h0 => ⟨fun q hq => ?_, (hz h0).2⟩⟩
      rw [drop45 l i (by omega)] at hq
      rcases List.mem_cons.1 hq with rfl | hq
      · exact hz1 h1
      · exact (hz h0).1 q hq
    · exact ⟨r1, fun k => by rw [hs k, if_neg h1], fun h0 => absurd h0 h1⟩
/-- reel.Check answers; where it answers OK, the sections are good and lie one after the other. -/
theorem rchk (l : List S45) : ∃ r, (∀ k, reel_Check.f (k + 2 * l.length + 4) l = some r) ∧ (r = 0 → l.length ≤ 512 ∧ (∀ q ∈ l, G45 q) ∧ ∃ b, SC 0 l b) := by
  by_cases hl : (l.length : Int) > 512
  · exact ⟨8, fun k => by unfold reel_Check.f; rw [if_pos hl], fun h => by simp at h⟩
  · obtain ⟨r, hr, hz⟩ := chk_l0 l (by omega) l.length 0 (by omega)
    refine ⟨r, fun k => ?_, fun h => ⟨by omega, (hz h)⟩⟩
    unfold reel_Check.f
    rw [if_neg hl]
    have := hr k
    rw [show k + l.length + 4 + l.length = k + 2 * l.length + 4 by omega] at this
    exact this
theorem tur_l1 (l : List Int) (hl : l.length ≤ 512) : ∀ (d i : Nat), i + d = l.length → ∃ r, (∀ k, reel_checkTurns.l1 (k + d + 1) l (l.length : Int) (i : Int) = some r) ∧ (r = 0 → (l.drop (i - 1)).Pairwise (· < ·)) := by
  intro d
  induction d with
  | zero =>
    intro i h
    refine ⟨0, fun k => by unfold reel_checkTurns.l1; rw [if_neg (by omega)], fun _ => ?_⟩
    by_cases h0 : i = 0
    · rw [show l = [] from List.length_eq_zero_iff.1 (by omega)]; simp
    · rw [dropZ l (i - 1) (by omega), show i - 1 + 1 = l.length by omega, List.drop_length]
      exact List.pairwise_singleton _ _
  | succ d ih =>
    intro i h
    by_cases h0 : i = 0
    · subst h0
      obtain ⟨r, hr, hz⟩ := ih 1 (by omega)
      refine ⟨r, fun k => ?_, fun h => hz h⟩
      rw [show k + (d + 1) + 1 = (k + d + 1) + 1 by omega]
      rw [reel_checkTurns.l1, if_pos (by omega), if_neg (by omega), wrap_i' (n := l.length) (by omega) (by omega)]
      exact hr k
    · have hw : wrap64 ((i : Int) - 1) = ((i - 1 : Nat) : Int) := by unfold wrap64; omega
      have hs : ∀ k, reel_checkTurns.l1 (k + (d + 1) + 1) l (l.length : Int) (i : Int) = (if rd l (i : Int) ≤ rd l ((i - 1 : Nat) : Int) then some 9 else reel_checkTurns.l1 (k + d + 1) l (l.length : Int) ((i + 1 : Nat) : Int)) := by
        intro k
        rw [show k + (d + 1) + 1 = (k + d + 1) + 1 by omega]
        rw [reel_checkTurns.l1, hw, if_pos (by omega), if_pos (by omega), if_pos (by omega), if_pos (by omega), if_pos (by omega), if_pos (by omega), wrap_i' (n := l.length) (by omega) (by omega)]
      by_cases h1 : rd l (i : Int) ≤ rd l ((i - 1 : Nat) : Int)
      · exact ⟨9, fun k => by rw [hs k, if_pos h1], fun h => by simp at h⟩
      · obtain ⟨r, hr, hz⟩ := ih (i + 1) (by omega)
        refine ⟨r, fun k => by rw [hs k, if_neg h1]; exact hr k, fun hr0 => ?_⟩
        have hp := hz hr0
        rw [show i + 1 - 1 = i by omega] at hp
        rw [dropZ l (i - 1) (by omega), show i - 1 + 1 = i by omega]
        refine List.pairwise_cons.2 ⟨fun y hy => ?_, hp⟩
        rw [dropZ l i (by omega)] at hy hp
        have hp1 := (List.pairwise_cons.1 hp).1
        rcases List.mem_cons.1 hy with rfl | hy
        · omega
        · have := hp1 y hy; omega
theorem tur_l0 (l : List Int) (hl : l.length ≤ 512) : ∀ (d i : Nat), i + d = l.length → ∃ r, (∀ k, reel_checkTurns.l0 (k + l.length + 2 + d) l l (l.length : Int) (i : Int) = some r) ∧ (r = 0 → l.Pairwise (· < ·)) := by
  intro d
  induction d with
  | zero =>
    intro i h
    obtain ⟨r, hr, hz⟩ := tur_l1 l hl l.length 0 (by omega)
    refine ⟨r, fun k => ?_, fun h0 => hz h0⟩
    rw [show k + l.length + 2 + 0 = (k + l.length + 1) + 1 by omega]
    rw [reel_checkTurns.l0, if_neg (by omega)]
    exact hr k
  | succ d ih =>
    intro i h
    have hs : ∀ k, reel_checkTurns.l0 (k + l.length + 2 + (d + 1)) l l (l.length : Int) (i : Int) = (if rd l (i : Int) < 0 then some 1 else if rd l (i : Int) > 17179869184 then some 1 else reel_checkTurns.l0 (k + l.length + 2 + d) l l (l.length : Int) ((i + 1 : Nat) : Int)) := by
      intro k
      rw [show k + l.length + 2 + (d + 1) = (k + l.length + 2 + d) + 1 by omega]
      rw [reel_checkTurns.l0, if_pos (by omega), if_pos (by omega), if_pos (by omega), wrap_i' (n := l.length) (by omega) (by omega)]
    by_cases h1 : rd l (i : Int) < 0
    · exact ⟨1, fun k => by rw [hs k, if_pos h1], fun h => by simp at h⟩
    · by_cases h2 : rd l (i : Int) > 17179869184
      · exact ⟨1, fun k => by rw [hs k, if_neg h1, if_pos h2], fun h => by simp at h⟩
      · obtain ⟨r, hr, hz⟩ := ih (i + 1) (by omega)
        exact ⟨r, fun k => by rw [hs k, if_neg h1, if_neg h2]; exact hr k, hz⟩
theorem rtur (l : List Int) : ∃ r, (∃ k, reel_checkTurns.f k l = some r) ∧ (r = 0 → l.length ≤ 512 ∧ l.Pairwise (· < ·)) := by
  by_cases hl : (l.length : Int) > 512
  · exact ⟨8, ⟨0, by unfold reel_checkTurns.f; rw [if_pos hl]⟩, fun h => by simp at h⟩
  · obtain ⟨r, hr, hz⟩ := tur_l0 l (by omega) l.length 0 (by omega)
    refine ⟨r, ⟨0 + l.length + 2 + l.length, ?_⟩, fun h => ⟨by omega, hz h⟩⟩
    unfold reel_checkTurns.f
    rw [if_neg hl]
    exact hr 0
/-- What is lost, section by section. -/
def lostS (out : List S43) (q : S45) : List S43 :=
  if q.f2 = 3 then (if 0 < out.length ∧ (rd_T43 out ((out.length - 1 : Nat) : Int)).f1 = q.f0 then out.set (out.length - 1) ⟨(rd_T43 out ((out.length - 1 : Nat) : Int)).f0, q.f1⟩ else out ++ [⟨q.f0, q.f1⟩]) else out
theorem lostS_len (out : List S43) (q : S45) : (lostS out q).length ≤ out.length + 1 := by
  unfold lostS
  split
  · split <;> simp
  · omega
theorem lost_l0 (l : List S45) (hl : l.length ≤ 512) : ∀ (d i : Nat) (out : List S43) (k : Nat), i + d = l.length → out.length ≤ i → reel_Lost.l0 (k + d + 1) out l (l.length : Int) (i : Int) = some ((l.drop i).foldl lostS out, 0) := by
  intro d
  induction d with
  | zero =>
    intro i out k h _
    rw [show i = l.length by omega, List.drop_length]
    rw [reel_Lost.l0, if_neg (by omega)]
    rfl
  | succ d ih =>
    intro i out k h ho
    rw [show k + (d + 1) + 1 = (k + d + 1) + 1 by omega, drop45 l i (by omega), List.foldl_cons]
    rw [reel_Lost.l0, if_pos (by omega), if_pos (by omega), if_pos (by omega), wrap_i' (n := l.length) (by omega) (by omega)]
    have hn := lostS_len out (rd_T45 l (i : Int))
    have hi := ih (i + 1) (lostS out (rd_T45 l (i : Int))) k (by omega) (by omega)
    by_cases h1 : (rd_T45 l (i : Int)).f2 = 3
    · rw [if_pos h1]
      by_cases h2 : 0 < out.length
      · have hw : wrap64 ((out.length : Int) - 1) = ((out.length - 1 : Nat) : Int) := by unfold wrap64; omega
        rw [if_pos (by omega), hw, if_pos (by omega), if_pos (by omega)]
        by_cases h3 : (rd_T43 out ((out.length - 1 : Nat) : Int)).f1 = (rd_T45 l (i : Int)).f0
        · rw [if_pos h3, Int.toNat_natCast]
          have e : lostS out (rd_T45 l (i : Int)) = out.set (out.length - 1) ⟨(rd_T43 out ((out.length - 1 : Nat) : Int)).f0, (rd_T45 l (i : Int)).f1⟩ := by unfold lostS; rw [if_pos h1, if_pos ⟨h2, h3⟩]
          rw [e] at hi ⊢
          exact hi
        · rw [if_neg h3, if_pos (by omega)]
          have e : lostS out (rd_T45 l (i : Int)) = out ++ [⟨(rd_T45 l (i : Int)).f0, (rd_T45 l (i : Int)).f1⟩] := by unfold lostS; rw [if_pos h1, if_neg (fun x => h3 x.2)]
          rw [e] at hi ⊢
          exact hi
      · rw [if_neg (by omega), if_pos (by omega)]
        have e : lostS out (rd_T45 l (i : Int)) = out ++ [⟨(rd_T45 l (i : Int)).f0, (rd_T45 l (i : Int)).f1⟩] := by unfold lostS; rw [if_pos h1, if_neg (fun x => h2 x.1)]
        rw [e] at hi ⊢
        exact hi
    · rw [if_neg h1]
      have e : lostS out (rd_T45 l (i : Int)) = out := by unfold lostS; rw [if_neg h1]
      rw [e] at hi ⊢
      exact hi
/-- reel.Lost answers as reel.Check does, or with what is lost. -/
theorem rlost (l : List S45) (r : Int) (h : ∀ k, reel_Check.f (k + 2 * l.length + 4) l = some r) (hl : r = 0 → l.length ≤ 512) : ∃ k, reel_Lost.f k l = some (if r = 0 then l.foldl lostS [] else [], r) := by
  refine ⟨0 + 2 * l.length + 4, ?_⟩
  unfold reel_Lost.f
  rw [h 0, Option.bind_some]
  by_cases h0 : r = 0
  · rw [if_pos h0, if_pos h0, h0]
    have := lost_l0 l (hl h0) l.length 0 [] (l.length + 3) (by omega) (Nat.zero_le _)
    rw [show l.length + 3 + l.length + 1 = 0 + 2 * l.length + 4 by omega] at this
    exact this
  · rw [if_neg h0, if_neg h0]
end Go.Proofs.Ytebifddfgimnlaa.Rl
end
section
/- Plain law: reels, short pieces and lost stretches tile the paper. -/
namespace Go.Proofs.Ytebifddfgimnlaa.Rl
open Go.RowKit Go.Proofs.Ytebifddfgimnlaa.PX Go.Proofs.Ytebifddfgimnlaa.Rd Go.Proofs.YtebifddfgimnlaaW.PrintWords Go.Proofs.YtebifddfgimnlaaW.PrintLast
set_option linter.unusedVariables false
set_option linter.unusedSimpArgs false
/-- How many sections, from the first one, are not lost and of the phase. -/
def runW (ph : Int) : List S45 → Nat
  | [] => 0
  | q :: l => if q.f2 ≠ 3 ∧ q.f4 = ph then runW ph l + 1 else 0
/-- The stretches of the web. -/
def webF : Nat → List S45 → List S43
  | 0, _ => []
  | _ + 1, [] => []
  | n + 1, q :: l => if q.f2 = 3 then webF n l else ⟨q.f0, (rd_T45 (q :: l) ((runW q.f4 (q :: l) - 1 : Nat) : Int)).f1⟩ :: webF n ((q :: l).drop (runW q.f4 (q :: l)))
theorem runW_le (ph : Int) : ∀ l : List S45, runW ph l ≤ l.length := by
  intro l
  induction l with
  | nil => exact Nat.le_refl _
  | cons q l ih => unfold runW; split <;> simp only [List.length_cons] <;> omega
theorem runW_pos {q : S45} {l : List S45} (h : q.f2 ≠ 3) : 0 < runW q.f4 (q :: l) := by unfold runW; rw [if_pos ⟨h, rfl⟩]; omega
theorem webF_eq : ∀ (n m : Nat) (l : List S45), l.length ≤ n → l.length ≤ m → webF n l = webF m l := by
  intro n
  induction n with
  | zero => intro m l h _; rw [show l = [] from List.length_eq_zero_iff.1 (by omega)]; cases m <;> rfl
  | succ n ih =>
    intro m l hn hm
    cases l with
    | nil => cases m <;> rfl
    | cons q l =>
      simp only [List.length_cons] at hn hm
      obtain ⟨m, rfl⟩ : ∃ m', m = m' + 1 := ⟨m - 1, by omega⟩
      unfold webF
      by_cases h : q.f2 = 3
      · rw [if_pos h, if_pos h]; exact ih m l (by omega) (by omega)
      · rw [if_neg h, if_neg h]
        have := runW_pos (l := l) h
        rw [ih m ((q :: l).drop (runW q.f4 (q :: l))) (by rw [List.length_drop, List.length_cons]; omega) (by rw [List.length_drop, List.length_cons]; omega)]
theorem webF_len : ∀ (n : Nat) (l : List S45), (webF n l).length ≤ l.length := by
  intro n
  induction n with
  | zero => intro l; exact Nat.zero_le _
  | succ n ih =>
    intro l
    cases l with
    | nil => exact Nat.le_refl _
    | cons q l =>
      unfold webF
      by_cases h : q.f2 = 3
      · rw [if_pos h]; have := ih l; simp only [List.length_cons]; omega
      · rw [if_neg h]
        have := runW_pos (l := l) h
        have := ih ((q :: l).drop (runW q.f4 (q :: l)))
        rw [List.length_drop, List.length_cons] at this
        simp only [List.length_cons]
        omega
def web (l : List S45) : List S43 := webF l.length l
theorem web_end (l : List S45) : webF l.length (l.drop l.length) = [] := by rw [List.drop_length]; cases l.length <;> rfl
theorem web_lost (l : List S45) (i : Nat) (hi : i < l.length) (h : (rd_T45 l (i : Int)).f2 = 3) : webF l.length (l.drop i) = webF l.length (l.drop (i + 1)) := by
  obtain ⟨m, hm⟩ : ∃ m, l.length = m + 1 := ⟨l.length - 1, by omega⟩
  rw [drop45 l i hi]
  rw [show webF l.length (rd_T45 l (i : Int) :: l.drop (i + 1)) = webF (m + 1) (rd_T45 l (i : Int) :: l.drop (i + 1)) by rw [hm]]
  rw [webF, if_pos h]
  exact webF_eq _ _ _ (by rw [List.length_drop]; omega) (by rw [List.length_drop]; omega)
theorem rd45_drop (l : List S45) (i j : Nat) : rd_T45 (l.drop i) (j : Int) = rd_T45 l ((i + j : Nat) : Int) := by
  unfold rd_T45
  rw [Int.toNat_natCast, Int.toNat_natCast, List.getD_eq_getElem?_getD, List.getD_eq_getElem?_getD, List.getElem?_drop]
theorem web_step (l : List S45) (i k : Nat) (hi : i < l.length) (h : (rd_T45 l (i : Int)).f2 ≠ 3) (hk : k = i + runW (rd_T45 l (i : Int)).f4 (l.drop i)) : webF l.length (l.drop i) = ⟨(rd_T45 l (i : Int)).f0, (rd_T45 l ((k - 1 : Nat) : Int)).f1⟩ :: webF l.length (l.drop k) := by
  obtain ⟨m, hm⟩ : ∃ m, l.length = m + 1 := ⟨l.length - 1, by omega⟩
  have hd := drop45 l i hi
  have hp := runW_pos (l := l.drop (i + 1)) h
  rw [hd] at hk
  rw [hd]
  rw [show webF l.length (rd_T45 l (i : Int) :: l.drop (i + 1)) = webF (m + 1) (rd_T45 l (i : Int) :: l.drop (i + 1)) by rw [hm]]
  rw [webF, if_neg h]
  generalize runW (rd_T45 l (i : Int)).f4 (rd_T45 l (i : Int) :: l.drop (i + 1)) = n at *
  rw [← hd, rd45_drop, List.drop_drop, show i + (n - 1) = k - 1 by omega, show i + n = k by omega]
  exact congrArg _ (webF_eq _ _ _ (by rw [List.length_drop]; omega) (by rw [List.length_drop]; omega))
/-- The count goes on. -/
theorem runW_more (l : List S45) (ph : Int) (k : Nat) (hk : k < l.length) (h : (rd_T45 l (k : Int)).f2 ≠ 3 ∧ (rd_T45 l (k : Int)).f4 = ph) : k + runW ph (l.drop k) = k + 1 + runW ph (l.drop (k + 1)) := by
  rw [drop45 l k hk, runW, if_pos h]; omega
theorem runW_stop (l : List S45) (ph : Int) (k : Nat) (h : k < l.length → ¬ ((rd_T45 l (k : Int)).f2 ≠ 3 ∧ (rd_T45 l (k : Int)).f4 = ph)) : k + runW ph (l.drop k) = k := by
  by_cases hk : k < l.length
  · rw [drop45 l k hk, runW, if_neg (h hk)]; rfl
  · rw [List.drop_eq_nil_of_le (by omega)]; rfl
/-- A piece ends. -/
def piece (least : Int) (st : (List S43 × List S43) × Int) (e : Int) : (List S43 × List S43) × Int :=
  (if wrap64 (e - st.2) ≥ least then (st.1.1 ++ [⟨st.2, e⟩], st.1.2) else (st.1.1, st.1.2 ++ [⟨st.2, e⟩]), e)
def cutT (least : Int) (s : S43) (st : (List S43 × List S43) × Int) (x : Int) : (List S43 × List S43) × Int := if x > s.f0 ∧ x < s.f1 then piece least st x else st
def cutS (turns : List Int) (least : Int) (r : List S43 × List S43) (s : S43) : List S43 × List S43 := (piece least (turns.foldl (cutT least s) (r, s.f0)) s.f1).1
/-- The reels and the short pieces. -/
def cutF (l : List S45) (turns : List Int) (least : Int) : List S43 × List S43 := (web l).foldl (cutS turns least) ([], [])
theorem piece_len (least : Int) (st : (List S43 × List S43) × Int) (e : Int) : (piece least st e).1.1.length + (piece least st e).1.2.length = st.1.1.length + st.1.2.length + 1 := by
  unfold piece
  dsimp only
  split <;> simp <;> omega
theorem cutT_len (least : Int) (s : S43) : ∀ (l : List Int) (st : (List S43 × List S43) × Int), (l.foldl (cutT least s) st).1.1.length + (l.foldl (cutT least s) st).1.2.length ≤ st.1.1.length + st.1.2.length + l.length := by
  intro l
  induction l with
  | nil => intro st; exact Nat.le_refl _
  | cons x l ih =>
    intro st
    have h1 := ih (cutT least s st x)
    have h2 : (cutT least s st x).1.1.length + (cutT least s st x).1.2.length ≤ st.1.1.length + st.1.2.length + 1 := by
      unfold cutT
      split
      · rw [piece_len]; exact Nat.le_refl _
      · omega
    rw [List.foldl_cons, List.length_cons]
    omega
theorem cutS_len (turns : List Int) (least : Int) (r : List S43 × List S43) (s : S43) : (cutS turns least r s).1.length + (cutS turns least r s).2.length ≤ r.1.length + r.2.length + (turns.length + 1) := by
  unfold cutS
  rw [piece_len]
  have := cutT_len least s turns (r, s.f0)
  dsimp only at this
  omega
theorem cuts_len (turns : List Int) (least : Int) : ∀ (W : List S43) (r : List S43 × List S43), (W.foldl (cutS turns least) r).1.length + (W.foldl (cutS turns least) r).2.length ≤ r.1.length + r.2.length + W.length * (turns.length + 1) := by
  intro W
  induction W with
  | nil => intro r; simp
  | cons s W ih =>
    intro r
    have h1 := ih (cutS turns least r s)
    have h2 := cutS_len turns least r s
    rw [List.foldl_cons, List.length_cons, Nat.add_mul]
    omega
/-- Spans, one after the other, from a to b. -/
def Cn : Int → List S43 → Int → Prop
  | a, [], b => a = b
  | a, s :: l, b => s.f0 = a ∧ a < s.f1 ∧ Cn s.f1 l b
theorem Cn.app : ∀ {l m : List S43} {a b c : Int}, Cn a l b → Cn b m c → Cn a (l ++ m) c := by
  intro l
  induction l with
  | nil => intro m a b c h k; obtain rfl : a = b := h; exact k
  | cons s l ih => intro m a b c h k; exact ⟨h.1, h.2.1, ih h.2.2 k⟩
theorem Cn.split : ∀ {l m : List S43} {a c : Int}, Cn a (l ++ m) c → ∃ b, Cn a l b ∧ Cn b m c := by
  intro l
  induction l with
  | nil => intro m a c h; exact ⟨a, rfl, h⟩
  | cons s l ih => intro m a c h; obtain ⟨b, h1, h2⟩ := ih h.2.2; exact ⟨b, ⟨h.1, h.2.1, h1⟩, h2⟩
theorem Cn.le : ∀ {l : List S43} {a b : Int}, Cn a l b → a ≤ b ∧ ∀ s ∈ l, a ≤ s.f0 ∧ s.f0 < s.f1 ∧ s.f1 ≤ b := by
  intro l
  induction l with
  | nil => intro a b h; exact ⟨Int.le_of_eq h, fun s hs => (List.not_mem_nil hs).elim⟩
  | cons s l ih =>
    intro a b h
    obtain ⟨h1, h2, h3⟩ := h
    obtain ⟨k1, k2⟩ := ih h3
    refine ⟨by omega, fun t ht => ?_⟩
    rcases List.mem_cons.1 ht with rfl | ht
    · omega
    · have := k2 t ht; omega
theorem Cn.apart : ∀ {l : List S43} {a b : Int}, Cn a l b → l.Pairwise (fun s t => s.f1 ≤ t.f0 ∨ t.f1 ≤ s.f0) := by
  intro l
  induction l with
  | nil => intro a b _; exact List.Pairwise.nil
  | cons s l ih =>
    intro a b h
    exact List.pairwise_cons.2 ⟨fun t ht => .inl (h.2.2.le.2 t ht).1, ih h.2.2⟩
def tot : List S43 → Int
  | [] => 0
  | s :: l => (s.f1 - s.f0) + tot l
theorem Cn.tot : ∀ {l : List S43} {a b : Int}, Cn a l b → tot l = b - a := by
  intro l
  induction l with
  | nil => intro a b h; obtain rfl : a = b := h; exact (Int.sub_self _).symm
  | cons s l ih => intro a b h; have := ih h.2.2; have h1 := h.1; show (s.f1 - s.f0) + Rl.tot l = _; omega
theorem tot_perm {l m : List S43} (h : l.Perm m) : tot l = tot m := by
  induction h with
  | nil => rfl
  | cons x _ ih => show _ + tot _ = _ + tot _; rw [ih]
  | swap x y l => show _ + (_ + tot l) = _ + (_ + tot l); omega
  | trans _ _ h1 h2 => exact h1.trans h2
/-- Spans that tile what lies between a and b, in any order. -/
def Tl (L : List S43) (a b : Int) : Prop := ∃ C, L.Perm C ∧ Cn a C b
theorem Tl.perm {L M : List S43} {a b : Int} (h : Tl L a b) (p : M.Perm L) : Tl M a b := by obtain ⟨C, h1, h2⟩ := h; exact ⟨C, p.trans h1, h2⟩
theorem Tl.snoc {L : List S43} {a b e : Int} (h : Tl L a b) (hb : b < e) : Tl (L ++ [⟨b, e⟩]) a e := by
  obtain ⟨C, h1, h2⟩ := h
  exact ⟨C ++ [⟨b, e⟩], h1.append_right _, h2.app (show Cn b [⟨b, e⟩] e from ⟨rfl, hb, rfl⟩)⟩
theorem Tl.last {L : List S43} {x : S43} {a : Int} {z : Int} (h : Tl (x :: L) z a) (hx : x.f1 = a) : Tl L z x.f0 ∧ x.f0 < a := by
  obtain ⟨C, h1, h2⟩ := h
  obtain ⟨C1, C2, rfl⟩ := List.append_of_mem (h1.subset (List.mem_cons_self))
  obtain ⟨b, k1, k2⟩ := h2.split
  obtain ⟨e1, e2, e3⟩ := k2
  cases C2 with
  | cons y C2 =>
    obtain ⟨f1, f2, f3⟩ := e3
    have := f3.le.1
    omega
  | nil =>
    refine ⟨⟨C1, ?_, by rw [e1]; exact k1⟩, by omega⟩
    exact (h1.trans (List.perm_append_comm (l₁ := C1) (l₂ := [x]))).cons_inv
theorem Tl.put {L M : List S43} {s : S43} {a b : Int} (h : Tl (s :: L) a b) (k : Tl M s.f0 s.f1) : Tl (M ++ L) a b := by
  obtain ⟨C, h1, h2⟩ := h
  obtain ⟨D, k1, k2⟩ := k
  obtain ⟨C1, C2, rfl⟩ := List.append_of_mem (h1.subset (List.mem_cons_self))
  obtain ⟨c, m1, m2⟩ := h2.split
  obtain ⟨e1, e2, e3⟩ := m2
  refine ⟨C1 ++ (D ++ C2), ?_, m1.app ((show Cn c D s.f1 from by rw [← e1]; exact k2).app e3)⟩
  have hL : L.Perm (C1 ++ C2) := (h1.trans List.perm_middle).cons_inv
  exact (k1.append hL).trans (by
    rw [← List.append_assoc, ← List.append_assoc]
    exact (List.perm_append_comm (l₁ := D) (l₂ := C1)).append_right _)
/-- A stretch of one phase without what is lost. -/
def WebS (l : List S45) (s : S43) : Prop := ∃ ph, ∀ x, s.f0 ≤ x → x < s.f1 → ∃ q ∈ l, q.f0 ≤ x ∧ x < q.f1 ∧ q.f2 ≠ 3 ∧ q.f4 = ph
theorem run_law (ph : Int) : ∀ (l : List S45) (a b : Int) (out : List S43), (∀ q ∈ l, G45 q) → SC a l b → ∃ e, SC e (l.drop (runW ph l)) b ∧ a ≤ e ∧ (0 < runW ph l → a < e ∧ (rd_T45 l ((runW ph l - 1 : Nat) : Int)).f1 = e) ∧
    l.foldl lostS out = (l.drop (runW ph l)).foldl lostS out ∧ ∀ x, a ≤ x → x < e → ∃ q ∈ l, q.f0 ≤ x ∧ x < q.f1 ∧ q.f2 ≠ 3 ∧ q.f4 = ph := by
  intro l
  induction l with
  | nil => intro a b out _ h; exact ⟨a, h, Int.le_refl _, fun h => absurd h (by simp [runW]), rfl, fun x h1 h2 => by omega⟩
  | cons q l ih =>
    intro a b out hg h
    have hq := hg q (by simp)
    obtain ⟨h1, h2⟩ := h
    by_cases hc : q.f2 ≠ 3 ∧ q.f4 = ph
    · obtain ⟨e, k1, k2, k3, k4, k5⟩ := ih q.f1 b out (fun z hz => hg z (List.mem_cons_of_mem _ hz)) h2
      have hlt := hq.2.1
      have hr : runW ph (q :: l) = runW ph l + 1 := by rw [runW, if_pos hc]
      rw [hr]
      refine ⟨e, k1, by omega, fun _ => ⟨by omega, ?_⟩, ?_, fun x x1 x2 => ?_⟩
      · rw [Nat.add_sub_cancel]
        cases hm : runW ph l with
        | zero =>
          rw [hm] at k1
          have k1 : SC e l b := k1
          cases l with
          | nil =>
            have h2 : q.f1 = b := h2
            have k1 : e = b := k1
            show q.f1 = e
            omega
          | cons y l => show q.f1 = e; rw [← h2.1]; exact k1.1
        | succ m =>
          have := (k3 (by omega)).2
          rw [hm, Nat.add_sub_cancel] at this
          exact this
      · have : lostS out q = out := by unfold lostS; rw [if_neg hc.1]
        rw [List.foldl_cons, this, k4]
        rfl
      · by_cases hx : x < q.f1
        · exact ⟨q, by simp, by omega, hx, hc⟩
        · obtain ⟨z, hz, hz1⟩ := k5 x (by omega) x2
          exact ⟨z, List.mem_cons_of_mem _ hz, hz1⟩
    · have hr : runW ph (q :: l) = 0 := by rw [runW, if_neg hc]
      rw [hr]
      exact ⟨a, ⟨h1, h2⟩, Int.le_refl _, fun h => absurd h (by omega), rfl, fun x h1 h2 => by omega⟩
theorem rd43_last (l : List S43) (q : S43) : rd_T43 (l ++ [q]) (((l ++ [q]).length - 1 : Nat) : Int) = q := by
  unfold rd_T43
  rw [Int.toNat_natCast, List.length_append, List.length_singleton, Nat.add_sub_cancel, List.getD_eq_getElem?_getD, List.getElem?_append_right (Nat.le_refl _), Nat.sub_self]
  rfl
theorem set43_last (l : List S43) (q q' : S43) : (l ++ [q]).set ((l ++ [q]).length - 1) q' = l ++ [q'] := by
  rw [List.length_append, List.length_singleton, Nat.add_sub_cancel, List.set_append_right _ _ (Nat.le_refl _), Nat.sub_self]
  rfl
theorem lost_tl {W out : List S43} {z a : Int} {q : S45} (h : Tl (W ++ out) z a) (h3 : q.f2 = 3) (h0 : q.f0 = a) (h1 : a < q.f1) : Tl (W ++ lostS out q) z q.f1 := by
  unfold lostS
  rw [if_pos h3]
  split
  · rename_i hc
    rcases List.eq_nil_or_concat out with e | ⟨o, x, e⟩
    · rw [e] at hc; exact absurd hc.1 (by simp)
    · rw [List.concat_eq_append] at e
      subst e
      rw [rd43_last] at hc
      rw [rd43_last, set43_last]
      have hp : (x :: (W ++ o)).Perm (W ++ (o ++ [x])) := by
        rw [← List.append_assoc]
        exact (List.perm_append_comm (l₁ := W ++ o) (l₂ := [x])).symm
      obtain ⟨k1, k2⟩ := (h.perm hp).last (by rw [hc.2, h0])
      have := k1.snoc (e := q.f1) (by omega)
      rw [List.append_assoc] at this
      exact this
  · rw [← List.append_assoc, h0]
    exact h.snoc h1
theorem web_law : ∀ (n : Nat) (l : List S45) (W out : List S43) (a b : Int), l.length ≤ n → (∀ q ∈ l, G45 q) → SC a l b → Tl (W ++ out) 0 a → 0 ≤ a →
    Tl (W ++ webF n l ++ l.foldl lostS out) 0 b ∧ ∀ s ∈ webF n l, 0 ≤ s.f0 ∧ s.f0 < s.f1 ∧ s.f1 ≤ 17179869184 ∧ WebS l s := by
  intro n
  induction n with
  | zero =>
    intro l W out a b hl _ hc ht _
    obtain rfl : l = [] := List.length_eq_zero_iff.1 (by omega)
    obtain rfl : a = b := hc
    refine ⟨by simpa [webF] using ht, fun s hs => (List.not_mem_nil hs).elim⟩
  | succ n ih =>
    intro l W out a b hl hg hc ht ha
    cases l with
    | nil =>
      obtain rfl : a = b := hc
      refine ⟨by simpa [webF] using ht, fun s hs => (List.not_mem_nil hs).elim⟩
    | cons q l =>
      have hq := hg q (by simp)
      have hg' : ∀ z ∈ l, G45 z := fun z hz => hg z (List.mem_cons_of_mem _ hz)
      simp only [List.length_cons] at hl
      unfold webF
      by_cases h3 : q.f2 = 3
      · rw [if_pos h3, List.foldl_cons]
        obtain ⟨h0, h2⟩ := hc
        have := hq.2.1
        obtain ⟨k1, k2⟩ := ih l W (lostS out q) q.f1 b (by omega) hg' h2 (lost_tl ht h3 h0 (by omega)) (by omega)
        refine ⟨k1, fun s hs => ?_⟩
        obtain ⟨m1, m2, m3, ph, m4⟩ := k2 s hs
        exact ⟨m1, m2, m3, ph, fun x x1 x2 => by obtain ⟨z, hz, hz1⟩ := m4 x x1 x2; exact ⟨z, List.mem_cons_of_mem _ hz, hz1⟩⟩
      · rw [if_neg h3]
        have hp := runW_pos (l := l) h3
        obtain ⟨e, r1, r2, r3, r4, r5⟩ := run_law q.f4 (q :: l) a b out hg hc
        obtain ⟨r3, r6⟩ := r3 hp
        rw [r6, r4]
        have h0 : q.f0 = a := hc.1
        have hle : e ≤ 17179869184 := by
          rw [← r6]
          have hm := runW_le q.f4 (q :: l)
          unfold rd_T45
          rw [Int.toNat_natCast, List.getD_eq_getElem?_getD, List.getElem?_eq_getElem (by omega)]
          exact (hg _ (List.getElem_mem _)).2.2
        have ht2 : Tl (W ++ [⟨q.f0, e⟩] ++ out) 0 e := by
          rw [h0]
          refine (ht.snoc r3).perm ?_
          rw [List.append_assoc, List.append_assoc]
          exact (List.perm_append_comm (l₁ := [⟨a, e⟩]) (l₂ := out)).append_left W
        obtain ⟨k1, k2⟩ := ih ((q :: l).drop (runW q.f4 (q :: l))) (W ++ [⟨q.f0, e⟩]) out e b (by rw [List.length_drop, List.length_cons]; omega) (fun z hz => hg z (List.mem_of_mem_drop hz)) r1 ht2 (by omega)
        refine ⟨by rw [List.append_assoc W] at k1; exact k1, fun s hs => ?_⟩
        rcases List.mem_cons.1 hs with rfl | hs
        · exact ⟨by simp only; omega, by simp only; omega, hle, q.f4, fun x x1 x2 => r5 x (by simp only at x1; omega) x2⟩
        · obtain ⟨m1, m2, m3, ph, m4⟩ := k2 s hs
          exact ⟨m1, m2, m3, ph, fun x x1 x2 => by obtain ⟨z, hz, hz1⟩ := m4 x x1 x2; exact ⟨z, List.mem_of_mem_drop hz, hz1⟩⟩
theorem w64_id' {x : Int} (h0 : -9000000000000000000 ≤ x) (h1 : x ≤ 9000000000000000000) : wrap64 x = x := by unfold wrap64; omega
theorem piece_law (least : Int) (R S : List S43) (a e : Int) (h0 : 0 ≤ a) (h1 : a < e) (h2 : e ≤ 17179869184) :
    ∃ R1 S1, piece least ((R, S), a) e = ((R ++ R1, S ++ S1), e) ∧ Tl (R1 ++ S1) a e ∧ ∀ r ∈ R1, least ≤ r.f1 - r.f0 ∧ a ≤ r.f0 ∧ r.f1 ≤ e := by
  unfold piece
  dsimp only
  rw [w64_id' (x := e - a) (by omega) (by omega)]
  by_cases hc : e - a ≥ least
  · rw [if_pos hc]
    refine ⟨[⟨a, e⟩], [], by rw [List.append_nil], ⟨_, List.Perm.refl _, rfl, h1, rfl⟩, fun r hr => ?_⟩
    rw [List.mem_singleton.1 hr]
    exact ⟨hc, Int.le_refl _, Int.le_refl _⟩
  · rw [if_neg hc]
    exact ⟨[], [⟨a, e⟩], by rw [List.append_nil], ⟨_, List.Perm.refl _, rfl, h1, rfl⟩, fun r hr => (List.not_mem_nil hr).elim⟩
theorem perm_four (A B C D : List S43) : ((A ++ C) ++ (B ++ D)).Perm ((A ++ B) ++ (C ++ D)) := by
  rw [List.append_assoc, List.append_assoc]
  refine List.Perm.append_left A ?_
  rw [← List.append_assoc, ← List.append_assoc]
  exact (List.perm_append_comm (l₁ := C) (l₂ := B)).append_right D
theorem Tl.app {L M : List S43} {a b c : Int} (h : Tl L a b) (k : Tl M b c) : Tl (L ++ M) a c := by
  obtain ⟨C, h1, h2⟩ := h
  obtain ⟨D, k1, k2⟩ := k
  exact ⟨C ++ D, h1.append k1, h2.app k2⟩
theorem cutT_law (least : Int) (s : S43) (hs0 : 0 ≤ s.f0) (hs1 : s.f1 ≤ 17179869184) : ∀ (l : List Int) (R S : List S43) (a : Int), l.Pairwise (· < ·) → s.f0 ≤ a → a < s.f1 → (∀ x ∈ l, s.f0 < x → a < x) →
    ∃ R1 S1 a', l.foldl (cutT least s) ((R, S), a) = ((R ++ R1, S ++ S1), a') ∧ Tl (R1 ++ S1) a a' ∧ a ≤ a' ∧ a' < s.f1 ∧ ∀ r ∈ R1, least ≤ r.f1 - r.f0 ∧ a ≤ r.f0 ∧ r.f1 ≤ a' := by
  intro l
  induction l with
  | nil => intro R S a _ h1 h2 _; exact ⟨[], [], a, by rw [List.append_nil, List.append_nil]; rfl, ⟨[], List.Perm.refl _, rfl⟩, Int.le_refl _, h2, fun r hr => (List.not_mem_nil hr).elim⟩
  | cons x l ih =>
    intro R S a hp h1 h2 h3
    obtain ⟨hp1, hp2⟩ := List.pairwise_cons.1 hp
    rw [List.foldl_cons]
    unfold cutT
    by_cases hc : x > s.f0 ∧ x < s.f1
    · rw [if_pos hc]
      have hax := h3 x (by simp) hc.1
      obtain ⟨R1, S1, e1, t1, r1⟩ := piece_law least R S a x (by omega) hax (by omega)
      rw [e1]
      obtain ⟨R2, S2, a', e2, t2, m1, m2, r2⟩ := ih (R ++ R1) (S ++ S1) x hp2 (by omega) hc.2 (fun y hy _ => hp1 y hy)
      unfold cutT at e2
      refine ⟨R1 ++ R2, S1 ++ S2, a', by rw [e2, List.append_assoc, List.append_assoc], (t1.app t2).perm (perm_four R1 S1 R2 S2), by omega, m2, fun r hr => ?_⟩
      rcases List.mem_append.1 hr with hr | hr
      · have := r1 r hr; omega
      · have := r2 r hr; omega
    · rw [if_neg hc]
      have := ih R S a hp2 h1 h2 (fun y hy hy1 => h3 y (List.mem_cons_of_mem _ hy) hy1)
      unfold cutT at this
      exact this
theorem cutS_law (turns : List Int) (least : Int) (hp : turns.Pairwise (· < ·)) (s : S43) (hs0 : 0 ≤ s.f0) (hs : s.f0 < s.f1) (hs1 : s.f1 ≤ 17179869184) (R S : List S43) :
    ∃ R1 S1, cutS turns least (R, S) s = (R ++ R1, S ++ S1) ∧ Tl (R1 ++ S1) s.f0 s.f1 ∧ ∀ r ∈ R1, least ≤ r.f1 - r.f0 ∧ s.f0 ≤ r.f0 ∧ r.f1 ≤ s.f1 := by
  unfold cutS
  obtain ⟨R1, S1, a', e1, t1, m1, m2, r1⟩ := cutT_law least s hs0 hs1 turns R S s.f0 hp (Int.le_refl _) hs (fun x _ h => h)
  rw [e1]
  obtain ⟨R2, S2, e2, t2, r2⟩ := piece_law least (R ++ R1) (S ++ S1) a' s.f1 (by omega) m2 hs1
  rw [e2]
  refine ⟨R1 ++ R2, S1 ++ S2, by rw [List.append_assoc, List.append_assoc], (t1.app t2).perm (perm_four R1 S1 R2 S2), fun r hr => ?_⟩
  rcases List.mem_append.1 hr with hr | hr
  · have := r1 r hr; omega
  · have := r2 r hr; omega
theorem cuts_law (l : List S45) (turns : List Int) (least : Int) (hp : turns.Pairwise (· < ·)) : ∀ (W R S : List S43), (∀ s ∈ W, 0 ≤ s.f0 ∧ s.f0 < s.f1 ∧ s.f1 ≤ 17179869184 ∧ WebS l s) →
    ∃ R1 S1, W.foldl (cutS turns least) (R, S) = (R ++ R1, S ++ S1) ∧ (∀ L a b, Tl (W ++ L) a b → Tl (R1 ++ S1 ++ L) a b) ∧ ∀ r ∈ R1, least ≤ r.f1 - r.f0 ∧ WebS l r := by
  intro W
  induction W with
  | nil => intro R S _; exact ⟨[], [], by rw [List.append_nil, List.append_nil]; rfl, fun L a b h => h, fun r hr => (List.not_mem_nil hr).elim⟩
  | cons s W ih =>
    intro R S h
    obtain ⟨s0, s1, s2, s3⟩ := h s (by simp)
    obtain ⟨R1, S1, e1, t1, r1⟩ := cutS_law turns least hp s s0 s1 s2 R S
    rw [List.foldl_cons, e1]
    obtain ⟨R2, S2, e2, t2, r2⟩ := ih (R ++ R1) (S ++ S1) (fun t ht => h t (List.mem_cons_of_mem _ ht))
    refine ⟨R1 ++ R2, S1 ++ S2, by rw [e2, List.append_assoc, List.append_assoc], fun L a b hL => ?_, fun r hr => ?_⟩
    · have h1 : Tl ((R1 ++ S1) ++ (W ++ L)) a b := Tl.put (s := s) hL t1
      have h2 : Tl (W ++ ((R1 ++ S1) ++ L)) a b := h1.perm (by
        rw [← List.append_assoc, ← List.append_assoc (R1 ++ S1)]
        exact (List.perm_append_comm (l₁ := W) (l₂ := R1 ++ S1)).append_right L)
      have h3 := t2 _ _ _ h2
      refine h3.perm ?_
      rw [← List.append_assoc (R2 ++ S2) (R1 ++ S1) L]
      refine List.Perm.append_right L ?_
      refine (perm_four R1 S1 R2 S2).trans ?_
      exact List.perm_append_comm
    · rcases List.mem_append.1 hr with hr | hr
      · have := r1 r hr
        obtain ⟨ph, hph⟩ := s3
        exact ⟨this.1, ph, fun x x1 x2 => hph x (by omega) (by omega)⟩
      · exact r2 r hr
/-- THE LAW: reels, short pieces and lost stretches tile the paper; a reel is long enough and lies in one phase. -/
theorem tiles (l : List S45) (turns : List Int) (least b : Int) (hg : ∀ q ∈ l, G45 q) (hc : SC 0 l b) (hp : turns.Pairwise (· < ·)) :
    Tl ((cutF l turns least).1 ++ (cutF l turns least).2 ++ l.foldl lostS []) 0 b ∧ ∀ r ∈ (cutF l turns least).1, least ≤ r.f1 - r.f0 ∧ WebS l r := by
  obtain ⟨k1, k2⟩ := web_law l.length l [] [] 0 b (Nat.le_refl _) hg hc ⟨[], List.Perm.refl _, rfl⟩ (Int.le_refl _)
  obtain ⟨R1, S1, e1, t1, r1⟩ := cuts_law l turns least hp (web l) [] [] k2
  unfold cutF
  rw [e1]
  rw [List.nil_append] at k1
  exact ⟨t1 _ _ _ k1, r1⟩
end Go.Proofs.Ytebifddfgimnlaa.Rl
end
section
/- Plain law: what TopReels asks holds. -/
namespace Go.Proofs.Ytebifddfgimnlaa.Rl
open Go.RowKit Go.Proofs.Ytebifddfgimnlaa.PX Go.Proofs.Ytebifddfgimnlaa.Rd Go.Proofs.YtebifddfgimnlaaW.PrintWords Go.Proofs.YtebifddfgimnlaaW.PrintLast
set_option linter.unusedVariables false
set_option linter.unusedSimpArgs false
theorem SC_last : ∀ (l : List S45) (q : S45) (a b : Int), SC a (l ++ [q]) b → q.f1 = b := by
  intro l
  induction l with
  | nil => intro q a b h; exact h.2
  | cons x l ih => intro q a b h; exact ih q _ b h.2
theorem tot_take {L : List S43} (h : ∀ s ∈ L, s.f0 < s.f1) : ∀ i, i < L.length → tot (L.take (i + 1)) = tot (L.take i) + ((L.getD i z43).f1 - (L.getD i z43).f0) := by
  intro i hi
  have key : ∀ (a b : List S43), tot (a ++ b) = tot a + tot b := by
    intro a
    induction a with
    | nil => intro b; exact (Int.zero_add _).symm
    | cons x a ih => intro b; show _ + tot (a ++ b) = (_ + tot a) + tot b; rw [ih, Int.add_assoc]
  rw [List.take_succ_eq_append_getElem hi, key, List.getD_eq_getElem?_getD, List.getElem?_eq_getElem hi]
  show _ + (_ + 0) = _
  rw [Int.add_zero]
  rfl
theorem tot_le {L : List S43} (h : ∀ s ∈ L, s.f0 < s.f1) : (L.length : Int) ≤ tot L := by
  induction L with
  | nil => exact Int.le_refl _
  | cons x L ih =>
    have h1 := h x (by simp)
    have h2 := ih (fun s hs => h s (List.mem_cons_of_mem _ hs))
    show _ ≤ (x.f1 - x.f0) + tot L
    rw [List.length_cons]
    omega
theorem tot_mono {L : List S43} (h : ∀ s ∈ L, s.f0 < s.f1) : ∀ d i, i + d = L.length → 0 ≤ tot (L.take i) ∧ tot (L.take i) ≤ tot L := by
  intro d
  induction d with
  | zero =>
    intro i hi
    rw [show i = L.length by omega, List.take_length]
    exact ⟨by have := tot_le h; omega, Int.le_refl _⟩
  | succ d ih =>
    intro i hi
    have h1 := ih (i + 1) (by omega)
    have h2 := tot_take h i (by omega)
    have h3 : (L.getD i z43).f0 < (L.getD i z43).f1 := by
      rw [List.getD_eq_getElem?_getD, List.getElem?_eq_getElem (show i < L.length by omega)]
      exact h _ (List.getElem_mem _)
    have h4 : ∀ j, j ≤ L.length → 0 ≤ tot (L.take j) := by
      intro j hj
      have := tot_le (L := L.take j) (fun s hs => h s (List.mem_of_mem_take hs))
      omega
    have := h4 i (by omega)
    omega
/-- What the spans together are. -/
structure AllOk (L : List S43) (n : Int) : Prop where
  n0 : 0 ≤ n
  n1 : n ≤ 17179869184
  len : (L.length : Int) ≤ n
  one : ∀ i, i < L.length → 0 ≤ (L.getD i z43).f0 ∧ (L.getD i z43).f0 < (L.getD i z43).f1 ∧ (L.getD i z43).f1 ≤ n
  two : ∀ i k, k < i → i < L.length → (L.getD i z43).f1 ≤ (L.getD k z43).f0 ∨ (L.getD k z43).f1 ≤ (L.getD i z43).f0
  sum : tot L = n
  pre : ∀ i, i ≤ L.length → 0 ≤ tot (L.take i) ∧ tot (L.take i) ≤ n
  step : ∀ i, i < L.length → tot (L.take (i + 1)) = tot (L.take i) + ((L.getD i z43).f1 - (L.getD i z43).f0)
theorem all_ok {L : List S43} {n : Int} (h : Tl L 0 n) (hn : n ≤ 17179869184) : AllOk L n := by
  obtain ⟨C, hp, hc⟩ := h
  have h1 := hc.le
  have hm : ∀ s ∈ L, 0 ≤ s.f0 ∧ s.f0 < s.f1 ∧ s.f1 ≤ n := fun s hs => h1.2 s (hp.subset hs)
  have hlt : ∀ s ∈ L, s.f0 < s.f1 := fun s hs => (hm s hs).2.1
  have hs : tot L = n := by rw [tot_perm hp, hc.tot, Int.sub_zero]
  have hpw : L.Pairwise (fun s t => s.f1 ≤ t.f0 ∨ t.f1 ≤ s.f0) := (hp.pairwise_iff (fun h => h.symm)).2 hc.apart
  have hg : ∀ i, (hi : i < L.length) → L.getD i z43 = L[i] := fun i hi => by rw [List.getD_eq_getElem?_getD, List.getElem?_eq_getElem hi]; rfl
  refine ⟨h1.1, hn, by have := tot_le hlt; omega, fun i hi => ?_, fun i k hk hi => ?_, hs, fun i hi => ?_, fun i hi => tot_take hlt i hi⟩
  · rw [hg i hi]; exact hm _ (List.getElem_mem _)
  · rw [hg i hi, hg k (by omega)]
    exact (List.pairwise_iff_getElem.1 hpw k i (by omega) hi hk).symm
  · rw [← hs]; exact tot_mono hlt (L.length - i) i (by omega)
/-- What a reel is. -/
structure ReelOk (c : Cs) (P : List S77) (least : Int) (r : S43) (a b : Int) : Prop where
  len : least ≤ r.f1 - r.f0
  f0 : 0 ≤ r.f0
  lt : r.f0 < r.f1
  f1 : r.f1 ≤ 17179869184
  wa : whF r.f0 (US c P) 0 = some a
  wb : whF (r.f1 - 1) (US c P) 0 = some b
  ab : a ≤ b
  a0 : 0 ≤ a
  a1 : a < c.en
  b0 : 0 ≤ b
  b1 : b < c.en
  ma : (atr c P a).2 = true
  mb : (atr c P b).2 = true
  ph : (atr c P a).1.f4 = (atr c P b).1.f4
  ka : (atr c P a).1.f2 ≠ 3
  kb : (atr c P b).1.f2 ≠ 3
theorem top_law {c : Cs} {P : List S77} (hf : Fine c P) (hlp : P.length ≤ 100) (hls : c.sw.length ≤ 100) (hlq : c.pac.length ≤ 100) (turns : List Int) (least : Int) (hn : (sf (US c P)).2.2 ≤ 17179869184)
    (hg : ∀ q ∈ (sf (US c P)).1, G45 q) (hc : ∃ b, SC 0 (sf (US c P)).1 b) (hp : turns.Pairwise (· < ·)) :
    AllOk ((cutF (sf (US c P)).1 turns least).1 ++ (cutF (sf (US c P)).1 turns least).2 ++ (sf (US c P)).1.foldl lostS []) (sf (US c P)).2.2 ∧
      ∀ r ∈ (cutF (sf (US c P)).1 turns least).1, ∃ a b, ReelOk c P least r a b := by
  obtain ⟨b, hc⟩ := hc
  obtain ⟨_, h0, h1⟩ := len_sum hf hlp hls hlq
  have hb : b = (sf (US c P)).2.2 := by
    rcases h1 with ⟨h1, h2⟩ | ⟨l, q, h1, h2⟩
    · rw [h1] at hc
      rw [h2]; exact hc.symm
    · rw [h1] at hc
      rw [← h2]; exact (SC_last _ _ _ _ hc).symm
  obtain ⟨t1, t2⟩ := tiles _ turns least b hg hc hp
  rw [hb] at t1
  have ha := all_ok t1 hn
  refine ⟨ha, fun r hr => ?_⟩
  obtain ⟨hl, ph, hph⟩ := t2 r hr
  obtain ⟨j, hj, hjr⟩ := List.mem_iff_getElem.1 hr
  have hone := ha.one j (by rw [List.length_append, List.length_append]; omega)
  have hgd : ((cutF (sf (US c P)).1 turns least).1 ++ (cutF (sf (US c P)).1 turns least).2 ++ (sf (US c P)).1.foldl lostS []).getD j z43 = r := by
    rw [List.append_assoc, List.getD_eq_getElem?_getD, List.getElem?_append_left hj, List.getElem?_eq_getElem hj, hjr]
    rfl
  rw [hgd] at hone
  obtain ⟨q1, m1, m2, m3, m4, m5⟩ := hph r.f0 (Int.le_refl _) hone.2.1
  obtain ⟨q2, n1, n2, n3, n4, n5⟩ := hph (r.f1 - 1) (by omega) (by omega)
  obtain ⟨a, wa, a0, a1, ma, ka, pa⟩ := sec_at hf hlp hls hlq q1 m1 r.f0 m2 m3 (by omega)
  obtain ⟨b, wb, b0, b1, mb, kb, pb⟩ := sec_at hf hlp hls hlq q2 n1 (r.f1 - 1) n2 n3 (by omega)
  exact ⟨a, b, hl, hone.1, hone.2.1, by omega, wa, wb, wh_le hf hlp hls hlq hone.1 (by omega) (by omega) wa wb, a0, a1, b0, b1, ma, mb, by rw [pa, pb, m5, n5], by rw [ka]; exact m4, by rw [kb]; exact n4⟩
end Go.Proofs.Ytebifddfgimnlaa.Rl
end
section
/- The stretches of the web: what the iterator of package reel yields. -/
namespace Go.Proofs.Ytebifddfgimnlaa.Rl
open Go.RowKit Go.Proofs.Ytebifddfgimnlaa.PX Go.Proofs.Ytebifddfgimnlaa.Rd Go.Proofs.YtebifddfgimnlaaW.PrintWords Go.Proofs.YtebifddfgimnlaaW.PrintLast
attribute [local go_sem] Oper.semAt_some
set_option linter.unusedVariables false
set_option linter.unusedSimpArgs false
def encW (s : S43) : Array Value := #[.agg #[.int .i64 s.f0, .int .i64 s.f1]]
/-- What the closure has: the sections. -/
def RwC (w : World) (gl : Nat) (L : List S45) (A : Option Addr) (cl : Nat) : Prop := w.heap[gl]? = some (.cells #[.slice A L.length cl] 31 (0, 0)) ∧ Kd.C k45 w A L.length L
theorem RwC.below {w w' : World} {gl : Nat} {L : List S45} {A : Option Addr} {cl : Nat} (h : RwC w gl L A cl) (hb : Below w.heap.size w w') : RwC w' gl L A cl := ⟨blk_below h.1 hb, Kd.C_below h.2 hb⟩
def KqR (Kq : World → World → Prop) (w : World) (gl : Nat) (L : List S45) (A : Option Addr) (cl : Nat) : Prop :=
  (∀ W', Kq w W' → RwC W' gl L A cl) ∧ (∀ {A B C}, Kq A B → Kq B C → Kq A C) ∧ (∀ {A B}, Below w.heap.size A B → Kq A B) ∧ (∀ {A B}, Kq A B → A.heap.size ≤ B.heap.size)
set_option maxHeartbeats 4000000 in
set_option maxRecDepth 100000 in
/-- stretches$1 of package reel. -/
theorem rst_in (n l : Nat) (w : World) (gl : Nat) (L : List S45) (A : Option Addr) (cl : Nat) (hL : L.length ≤ 512) (hS : RwC w gl L A cl)
    (J Jx : List S43 → World → Prop) (W : World) (hW : Below w.heap.size w W) (Kq : World → World → Prop) (hKq : KqR Kq w gl L A cl) (hJ : AbidesFrom W.heap.size J)
    (hY : ∀ pre x W1, J pre W1 → pre.length < (web L).length → YieldAt Fence.wide (n - 1) Try.prog l (encW x) W1 fun e W' =>
      (e = .returned (.bool true) ∧ J (pre ++ [x]) W' ∧ Kq W1 W') ∨ (e = .returned (.bool false) ∧ Jx (pre ++ [x]) W')) (h0 : J [] W) :
    CallsIn Fence.wide n Try.prog 27 #[.func (.yield l) #[] #[], .pointer (some ⟨gl, 0, none⟩)] W fun e W' => (∃ v, e = .returned v) ∧
      ((∃ ys, ys = web L ∧ J ys W') ∨ (∃ pre, pre <+: web L ∧ Jx pre W')) := by
  have HSW := Aside0.mk hS
  have HLN := Aside0.mk hL
  have HY := Aside0.mk hY
  have HJ := Aside0.mk hJ
  have HKQ := Aside0.mk hKq
  have HW := Aside0.mk (hKq.2.2.1 hW)
  have HJ0 := Aside0.mk h0
  clear hS hL hY hJ hW h0 hKq
  refine callsIn_wide.2 ?_
  go_enter Try.func27, Try.ntmps27
  go_wp2
  go_loopg [3, 4] L.length (fun kq v3 v4 wr => ∃ i : Nat, v3 = .int .i64 (i : Int) ∧ Aside0 (i ≤ L.length ∧ kq = L.length - i) ∧ Aside0 (Kq w wr) ∧ Aside0 (∃ pre, J pre wr ∧ pre ++ webF L.length (L.drop i) = web L) ∧ Aside0 (W.heap.size ≤ wr.heap.size))
  case atStart => exact ⟨0, rfl, ⟨by simp⟩, HW, ⟨[], HJ0.out, rfl⟩, ⟨Nat.le_refl _⟩⟩
  case round =>
    clear HJ0
    obtain ⟨i, rfl, HI, HB, HJP, HSZ⟩ := hrel
    have HS := Aside0.mk (HKQ.out.1 _ HB.out)
    have f0 : wr.cell? ⟨gl, 0, none⟩ = some (.slice A L.length cl) := (blk_cell HS.out.1 0).trans rfl
    by_cases hi : i < L.length
    · have HII := Aside0.mk hi
      have p1 := eq_true (show (i : Int) < (L.length : Int) by omega)
      have p2 := eq_true hi
      have p3 : wrap64 ((i : Int) + 1) = ((i + 1 : Nat) : Int) := by have := HLN.out; unfold wrap64; omega
      have p4 : IntKind.i64.wrap ((i : Int) + 1) = ((i + 1 : Nat) : Int) := by rw [w64, p3]
      obtain ⟨ad, rfl, g0, g1, g2, g3, g4⟩ := at_T45 HS.out.2 (i : Int) (by omega) (by omega)
      simp only [Int.toNat_natCast] at g0 g1 g2 g3 g4
      obtain ⟨q, hq⟩ : ∃ q, rd_T45 L (i : Int) = q := ⟨_, rfl⟩
      have HQ := Aside0.mk hq
      rw [hq] at g0 g1 g2 g3 g4
      clear hq hi
      by_cases h3 : q.f2 = 3
      · have HP := Aside0.mk (web_lost L i HII.out (by rw [HQ.out]; exact h3))
        rw [h3] at g2
        clear h3
        go_wp2
        go_roundg (L.length - (i + 1))
        case measure => have := HI.out; have := HII.out; omega
        case rel => obtain ⟨pre, hj, hp⟩ := HJP.out; exact ⟨i + 1, rfl, ⟨by have := HII.out; omega⟩, HB, ⟨pre, hj, by rw [← HP.out]; exact hp⟩, HSZ⟩
      · have H3 := Aside0.mk h3
        have k3 := eq_false h3
        have k3b : (q.f2 == 3) = false := beq_eq_false_iff_ne.2 h3
        clear h3
        have HPOS := Aside0.mk (show 0 < runW q.f4 (L.drop i) from by rw [drop45 L i HII.out, HQ.out]; exact runW_pos H3.out)
        go_upto_block 2 with (fail)
        go_cut [4] from 18 to 60 (fun v4 wc => ∃ nd K : Nat, v4 = .int .i64 (K : Int) ∧ wc = wr.drewN nd ∧ Aside0 (K = i + runW q.f4 (L.drop i) ∧ i < K ∧ K ≤ L.length))
        case first =>
          go_upto_region 5 with (fail)
          go_loopg [4] L.length (fun kq v4 wx => ∃ nd k : Nat, v4 = .int .i64 (k : Int) ∧ wx = wr.drewN nd ∧ Aside0 (i ≤ k ∧ k ≤ L.length ∧ L.length - k ≤ kq ∧ k + runW q.f4 (L.drop k) = i + runW q.f4 (L.drop i)))
          case atStart => exact ⟨0, i, rfl, rfl, ⟨by have := HII.out; omega⟩⟩
          case round =>
            obtain ⟨nd, k, rfl, rfl, HK⟩ := hrel
            by_cases hk : k < L.length
            · have HKK := Aside0.mk hk
              have p5 := eq_true (show (k : Int) < (L.length : Int) by omega)
              have p6 := eq_true hk
              have p7 : wrap64 ((k : Int) + 1) = ((k + 1 : Nat) : Int) := by have := HLN.out; unfold wrap64; omega
              have p8 : IntKind.i64.wrap ((k : Int) + 1) = ((k + 1 : Nat) : Int) := by rw [w64, p7]
              obtain ⟨ad2, had, y0, y1, y2, y3, y4⟩ := at_T45 HS.out.2 (k : Int) (by omega) (by omega)
              obtain rfl := Option.some.inj had
              simp only [Int.toNat_natCast] at y0 y1 y2 y3 y4
              obtain ⟨z, hz⟩ : ∃ z, rd_T45 L (k : Int) = z := ⟨_, rfl⟩
              have HZ := Aside0.mk hz
              rw [hz] at y0 y1 y2 y3 y4
              clear hz hk had y0 y1 y3
              by_cases hz3 : z.f2 = 3
              · have HST := Aside0.mk (runW_stop L q.f4 k (fun _ h => h.1 (by rw [HZ.out]; exact hz3)))
                rw [hz3] at y2
                clear hz3
                go_wp2
                go_quiet (fail)
                go_wp2
                go_meet
                exact ⟨_, k, rfl, World.drewN_drewN _ _ _, ⟨by have := HK.out; have := HST.out; have := HPOS.out; omega⟩⟩
              · have HZ3 := Aside0.mk hz3
                have m3 := eq_false hz3
                have m3b : (z.f2 == 3) = false := beq_eq_false_iff_ne.2 hz3
                have m3c : (z.f2 != 3) = true := by simp [hz3]
                clear hz3
                by_cases hz4 : z.f4 = q.f4
                · have HMO := Aside0.mk (runW_more L q.f4 k HKK.out (by rw [HZ.out]; exact ⟨HZ3.out, hz4⟩))
                  rw [hz4] at y4
                  clear hz4
                  go_wp2
                  go_quiet (fail)
                  go_wp2
                  go_roundg (L.length - (k + 1))
                  case measure => have := HK.out; have := HKK.out; omega
                  case rel => exact ⟨_, k + 1, rfl, rfl, ⟨by have := HK.out; have := HMO.out; have := HKK.out; omega⟩⟩
                · have HST := Aside0.mk (runW_stop L q.f4 k (fun _ h => hz4 (by rw [← HZ.out]; exact h.2)))
                  have m4 := eq_false hz4
                  have m4b : (z.f4 == q.f4) = false := beq_eq_false_iff_ne.2 hz4
                  clear hz4
                  go_wp2
                  go_quiet (fail)
                  go_wp2
                  go_meet
                  exact ⟨_, k, rfl, World.drewN_drewN _ _ _, ⟨by have := HK.out; have := HST.out; have := HPOS.out; omega⟩⟩
            · have HST := Aside0.mk (runW_stop L q.f4 k (fun h _ => hk h))
              have p5 := eq_false (show ¬ (k : Int) < (L.length : Int) by omega)
              have p6 := eq_false hk
              clear hk
              go_wp2
              go_quiet (fail)
              go_wp2
              go_meet
              exact ⟨_, k, rfl, World.drewN_drewN _ _ _, ⟨by have := HK.out; have := HST.out; have := HPOS.out; omega⟩⟩
        case rest =>
          obtain ⟨nd, K, rfl, rfl, HK⟩ := hcut
          have HST := Aside0.mk (web_step L i K HII.out (by rw [HQ.out]; exact H3.out) (by rw [HQ.out]; exact HK.out.1))
          obtain ⟨ad2, had, y0, y1, y2, y3, y4⟩ := at_T45 HS.out.2 ((K - 1 : Nat) : Int) (by omega) (by have := HK.out; omega)
          obtain rfl := Option.some.inj had
          simp only [Int.toNat_natCast] at y0 y1 y2 y3 y4
          obtain ⟨z, hz⟩ : ∃ z, rd_T45 L ((K - 1 : Nat) : Int) = z := ⟨_, rfl⟩
          have HZ := Aside0.mk hz
          rw [hz] at y0 y1 y2 y3 y4
          clear hz had y0 y2 y3 y4 g1 g2 g3 g4
          obtain ⟨j, hj⟩ : ∃ j, K = j + 1 := ⟨K - 1, by have := HK.out; omega⟩
          subst hj
          rw [Nat.add_sub_cancel] at y1
          have p5 := eq_true (show (j : Int) < (L.length : Int) by have := HK.out; omega)
          have p6 := eq_true (show j < L.length by have := HK.out; omega)
          have p7 : wrap64 (((j + 1 : Nat) : Int) - 1) = (j : Int) := by have := HK.out; have := HLN.out; unfold wrap64; omega
          have p8 : IntKind.i64.wrap (((j + 1 : Nat) : Int) - 1) = (j : Int) := by rw [w64, p7]
          have p9 : wrap64 ((j : Int) + 1 - 1) = (j : Int) := p7
          have p10 : IntKind.i64.wrap ((j : Int) + 1 - 1) = (j : Int) := p8
          have p12 : wrap64 (j : Int) = (j : Int) := by have := HK.out; have := HLN.out; unfold wrap64; omega
          have p11 : IntKind.i64.wrap (j : Int) = (j : Int) := by rw [w64, p12]
          have HJD := Aside0.mk (show ∃ pre, J pre (wr.drewN (nd + 1)) ∧ pre ++ webF L.length (L.drop i) = web L from by
            obtain ⟨pre, hj, hp⟩ := HJP.out
            exact ⟨pre, HJ.out _ _ _ none hj (grown_of (pw_below_drewN (Below.refl _ _) (nd + 1))) (fun _ h => by cases h), hp⟩)
          have HBD := Aside0.mk (show Kq w (wr.drewN (nd + 1)) from HKQ.out.2.1 HB.out (HKQ.out.2.2.1 ((pw_below_drewN (Below.refl _ _) (nd + 1)).mono (HKQ.out.2.2.2 HB.out))))
          have HXX := Aside0.mk (show (⟨(rd_T45 L (i : Int)).f0, (rd_T45 L ((j + 1 - 1 : Nat) : Int)).f1⟩ : S43) = ⟨q.f0, z.f1⟩ from by rw [HQ.out, HZ.out])
          have HSZ2 := Aside0.mk (show W.heap.size ≤ (wr.drewN (nd + 1)).heap.size from HSZ.out)
          obtain ⟨pre, hj, hp⟩ := HJD.out
          rw [HST.out, HXX.out] at hp
          have HP := Aside0.mk hp
          have HLL := Aside0.mk (show pre.length < (web L).length from by rw [← hp, List.length_append, List.length_cons]; omega)
          clear hp
          obtain ⟨fn, tmps, assign, body, hy, hR⟩ := HY.out pre ⟨q.f0, z.f1⟩ _ hj HLL.out
          clear hj
          dsimp only [encW] at hy
          go_upto_region 7 with (fail)
          refine (wpIn_wide (n := n)).1 ?_
          refine wpIn_region_any (by kernel_rfl) ?_
          change wpAnyIn _ _ _ _ _ _ _ _ _ (World.drew _)
          refine wpAnyIn_take (i := 0) (v := ?v_3) rfl rfl (by kernel_rfl) (by kernel_rfl) (by kernel_rfl) (fun _ _ _ h => h) ⟨Or.inl ⟨by rfl, ?h_3⟩, fun _ => rfl⟩ ?r_3
          case h_3 => intro w; (go_simp <;> with_reducible rfl)
          refine wpAnyIn_take (i := 2) (v := ?v_4) rfl rfl (by kernel_rfl) (by kernel_rfl) (by kernel_rfl) (fun _ _ _ h => h) ⟨Or.inl ⟨by rfl, ?h_4⟩, fun _ => rfl⟩ ?r_4
          case h_4 => intro w; (go_simp <;> with_reducible rfl)
          refine wpAnyIn_take (i := 7) (v := ?v_5) rfl rfl (by kernel_rfl) (by kernel_rfl) (by kernel_rfl) (fun _ _ _ h => h) ⟨Or.inl ⟨by rfl, ?h_5⟩, fun _ => rfl⟩ ?r_5
          case h_5 => intro w; (go_simp <;> with_reducible rfl)
          refine wpAnyIn_take (i := 8) (v := ?v_6) rfl rfl (by kernel_rfl) (by kernel_rfl) (by kernel_rfl) (fun _ _ _ h => h) ⟨Or.inl ⟨by rfl, ?h_6⟩, fun _ => rfl⟩ ?r_6
          case h_6 => intro w; (go_simp <;> with_reducible rfl)
          refine (fun hEnd : ?T => ?walk) ?pf
          case walk =>
            refine wpAnyIn_ready (rs := [1, 6]) (by kernel_rfl) (by simp) ?_
            refine AllReadyIn.cons rfl (fun K hK => ?b_31_1) (AllReadyIn.cons rfl (fun K hK => ?b_31_6) (AllReadyIn.nil))
            case b_31_1 =>
              go_simp
              refine hK _ _ ?_
              clear hK K
              refine wpAnyIn_take (i := 3) (v := ?v_17) rfl rfl (by kernel_rfl) (by kernel_rfl) (by kernel_rfl) (fun _ _ _ h => h) ⟨Or.inl ⟨by rfl, ?h_17⟩, fun _ => rfl⟩ ?r_17
              case h_17 => intro w; (go_simp <;> with_reducible rfl)
              refine wpAnyIn_take (i := 4) (v := ?v_18) rfl rfl (by kernel_rfl) (by kernel_rfl) (by kernel_rfl) (fun _ _ _ h => h) ⟨Or.inl ⟨by rfl, ?h_18⟩, fun _ => rfl⟩ ?r_18
              case h_18 => intro w; (go_simp <;> with_reducible rfl)
              refine wpAnyIn_ready (rs := [5, 6]) (by kernel_rfl) (by simp) ?_
              refine AllReadyIn.cons rfl (fun K hK => ?b_16_5) (AllReadyIn.cons rfl (fun K hK => ?b_16_6) (AllReadyIn.nil))
              case b_16_5 =>
                go_simp
                refine hK _ _ ?_
                clear hK K
                refine wpAnyIn_ready (rs := [6]) (by kernel_rfl) (by simp) ?_
                refine AllReadyIn.cons rfl (fun K hK => ?b_10_6) (AllReadyIn.nil)
                case b_10_6 =>
                  go_simp
                  refine hK _ _ ?_
                  clear hK K
                  refine wpAnyIn_take (i := 9) (v := ?v_8) rfl rfl (by kernel_rfl) (by kernel_rfl) (by kernel_rfl) (fun _ _ _ h => h) ⟨Or.inl ⟨by rfl, ?h_8⟩, fun _ => rfl⟩ ?r_8
                  case h_8 => intro w; (go_simp <;> with_reducible rfl)
                  refine wpAnyIn_take (i := 10) (v := ?v_9) rfl rfl (by kernel_rfl) (by kernel_rfl) (by kernel_rfl) (fun _ _ _ h => h) ⟨Or.inl ⟨by rfl, ?h_9⟩, fun _ => rfl⟩ ?r_9
                  case h_9 => intro w; (go_simp <;> with_reducible rfl)
                  refine wpAnyIn_ready (rs := [11]) (by kernel_rfl) (by simp) ?_
                  refine AllReadyIn.cons rfl (fun K hK => ?b_7_11) (AllReadyIn.nil)
                  case b_7_11 =>
                    go_simp
                    refine hK _ _ ?_
                    clear hK K
                    exact hEnd
              case b_16_6 =>
                go_simp
                refine hK _ _ ?_
                clear hK K
                refine wpAnyIn_take (i := 9) (v := ?v_14) rfl rfl (by kernel_rfl) (by kernel_rfl) (by kernel_rfl) (fun _ _ _ h => h) ⟨Or.inl ⟨by rfl, ?h_14⟩, fun _ => rfl⟩ ?r_14
                case h_14 => intro w; (go_simp <;> with_reducible rfl)
                refine wpAnyIn_take (i := 10) (v := ?v_15) rfl rfl (by kernel_rfl) (by kernel_rfl) (by kernel_rfl) (fun _ _ _ h => h) ⟨Or.inl ⟨by rfl, ?h_15⟩, fun _ => rfl⟩ ?r_15
                case h_15 => intro w; (go_simp <;> with_reducible rfl)
                refine wpAnyIn_ready (rs := [5, 11]) (by kernel_rfl) (by simp) ?_
                refine AllReadyIn.cons rfl (fun K hK => ?b_13_5) (AllReadyIn.cons rfl (fun K hK => ?b_13_11) (AllReadyIn.nil))
                case b_13_5 =>
                  go_simp
                  refine hK _ _ ?_
                  clear hK K
                  refine wpAnyIn_ready (rs := [11]) (by kernel_rfl) (by simp) ?_
                  refine AllReadyIn.cons rfl (fun K hK => ?b_11_11) (AllReadyIn.nil)
                  case b_11_11 =>
                    go_simp
                    refine hK _ _ ?_
                    clear hK K
                    exact hEnd
                case b_13_11 =>
                  go_simp
                  refine hK _ _ ?_
                  clear hK K
                  refine wpAnyIn_ready (rs := [5]) (by kernel_rfl) (by simp) ?_
                  refine AllReadyIn.cons rfl (fun K hK => ?b_12_5) (AllReadyIn.nil)
                  case b_12_5 =>
                    go_simp
                    refine hK _ _ ?_
                    clear hK K
                    exact hEnd
            case b_31_6 =>
              go_simp
              refine hK _ _ ?_
              clear hK K
              refine wpAnyIn_take (i := 9) (v := ?v_29) rfl rfl (by kernel_rfl) (by kernel_rfl) (by kernel_rfl) (fun _ _ _ h => h) ⟨Or.inl ⟨by rfl, ?h_29⟩, fun _ => rfl⟩ ?r_29
              case h_29 => intro w; (go_simp <;> with_reducible rfl)
              refine wpAnyIn_take (i := 10) (v := ?v_30) rfl rfl (by kernel_rfl) (by kernel_rfl) (by kernel_rfl) (fun _ _ _ h => h) ⟨Or.inl ⟨by rfl, ?h_30⟩, fun _ => rfl⟩ ?r_30
              case h_30 => intro w; (go_simp <;> with_reducible rfl)
              refine wpAnyIn_ready (rs := [1, 11]) (by kernel_rfl) (by simp) ?_
              refine AllReadyIn.cons rfl (fun K hK => ?b_28_1) (AllReadyIn.cons rfl (fun K hK => ?b_28_11) (AllReadyIn.nil))
              case b_28_1 =>
                go_simp
                refine hK _ _ ?_
                clear hK K
                refine wpAnyIn_take (i := 3) (v := ?v_22) rfl rfl (by kernel_rfl) (by kernel_rfl) (by kernel_rfl) (fun _ _ _ h => h) ⟨Or.inl ⟨by rfl, ?h_22⟩, fun _ => rfl⟩ ?r_22
                case h_22 => intro w; (go_simp <;> with_reducible rfl)
                refine wpAnyIn_take (i := 4) (v := ?v_23) rfl rfl (by kernel_rfl) (by kernel_rfl) (by kernel_rfl) (fun _ _ _ h => h) ⟨Or.inl ⟨by rfl, ?h_23⟩, fun _ => rfl⟩ ?r_23
                case h_23 => intro w; (go_simp <;> with_reducible rfl)
                refine wpAnyIn_ready (rs := [5, 11]) (by kernel_rfl) (by simp) ?_
                refine AllReadyIn.cons rfl (fun K hK => ?b_21_5) (AllReadyIn.cons rfl (fun K hK => ?b_21_11) (AllReadyIn.nil))
                case b_21_5 =>
                  go_simp
                  refine hK _ _ ?_
                  clear hK K
                  refine wpAnyIn_ready (rs := [11]) (by kernel_rfl) (by simp) ?_
                  refine AllReadyIn.cons rfl (fun K hK => ?b_19_11) (AllReadyIn.nil)
                  case b_19_11 =>
                    go_simp
                    refine hK _ _ ?_
                    clear hK K
                    exact hEnd
                case b_21_11 =>
                  go_simp
                  refine hK _ _ ?_
                  clear hK K
                  refine wpAnyIn_ready (rs := [5]) (by kernel_rfl) (by simp) ?_
                  refine AllReadyIn.cons rfl (fun K hK => ?b_20_5) (AllReadyIn.nil)
                  case b_20_5 =>
                    go_simp
                    refine hK _ _ ?_
                    clear hK K
                    exact hEnd
              case b_28_11 =>
                go_simp
                refine hK _ _ ?_
                clear hK K
                refine wpAnyIn_ready (rs := [1]) (by kernel_rfl) (by simp) ?_
                refine AllReadyIn.cons rfl (fun K hK => ?b_27_1) (AllReadyIn.nil)
                case b_27_1 =>
                  go_simp
                  refine hK _ _ ?_
                  clear hK K
                  refine wpAnyIn_take (i := 3) (v := ?v_25) rfl rfl (by kernel_rfl) (by kernel_rfl) (by kernel_rfl) (fun _ _ _ h => h) ⟨Or.inl ⟨by rfl, ?h_25⟩, fun _ => rfl⟩ ?r_25
                  case h_25 => intro w; (go_simp <;> with_reducible rfl)
                  refine wpAnyIn_take (i := 4) (v := ?v_26) rfl rfl (by kernel_rfl) (by kernel_rfl) (by kernel_rfl) (fun _ _ _ h => h) ⟨Or.inl ⟨by rfl, ?h_26⟩, fun _ => rfl⟩ ?r_26
                  case h_26 => intro w; (go_simp <;> with_reducible rfl)
                  refine wpAnyIn_ready (rs := [5]) (by kernel_rfl) (by simp) ?_
                  refine AllReadyIn.cons rfl (fun K hK => ?b_24_5) (AllReadyIn.nil)
                  case b_24_5 =>
                    go_simp
                    refine hK _ _ ?_
                    clear hK K
                    exact hEnd
          case pf =>
            refine wpAnyIn_take (i := 12) (v := ?v_33) rfl rfl (by kernel_rfl) (by kernel_rfl) (by kernel_rfl) (fun _ _ _ h => h) ⟨Or.inl ⟨by rfl, ?h_33⟩, fun _ => rfl⟩ ?r_33
            case h_33 => intro w; (go_simp <;> with_reducible rfl)
            refine wpAnyIn_ready (rs := [13]) (by kernel_rfl) (by simp) ?_
            refine AllReadyIn.cons rfl (fun K hK => ?c_32) AllReadyIn.nil
            case c_32 =>
              go_simp
              refine ⟨fun h_ => (by cases h_), hR.mono ?_⟩
              rintro e W3 (⟨rfl, hJ3, hk3⟩ | ⟨rfl, hJx3⟩)
              · have HK3 := Aside0.mk hk3
                have HJ3 := Aside0.mk hJ3
                clear hk3 hJ3 hy hR
                refine hK _ _ ?_
                clear hK K
                refine wpAnyIn_take (i := 14) (v := ?v_1) rfl rfl (by kernel_rfl) (by kernel_rfl) (by kernel_rfl) (fun _ _ _ h => h) ⟨Or.inl ⟨by rfl, ?h_1⟩, fun _ => rfl⟩ ?r_1
                case h_1 => intro w; (go_simp <;> with_reducible rfl)
                refine wpAnyIn_done (by kernel_rfl) ?_ _
                gi_wp2
                go_wp2
                go_roundg (L.length - (j + 1))
                case measure => have := HK.out; have := HI.out; omega
                case rel => exact ⟨j + 1, rfl, ⟨by have := HK.out; omega⟩, ⟨HKQ.out.2.1 HBD.out HK3.out⟩, ⟨pre ++ [⟨q.f0, z.f1⟩], HJ3.out, by rw [List.append_assoc]; exact HP.out⟩, ⟨Nat.le_trans HSZ2.out (HKQ.out.2.2.2 HK3.out)⟩⟩
              · have HJX3 := Aside0.mk hJx3
                clear hJx3 hy hR
                refine hK _ _ ?_
                clear hK K
                refine wpAnyIn_take (i := 14) (v := ?v_2) rfl rfl (by kernel_rfl) (by kernel_rfl) (by kernel_rfl) (fun _ _ _ h => h) ⟨Or.inl ⟨by rfl, ?h_2⟩, fun _ => rfl⟩ ?r_2
                case h_2 => intro w; (go_simp <;> with_reducible rfl)
                refine wpAnyIn_done (by kernel_rfl) ?_ _
                gi_wp2
                go_wp2
                exact bodyPost_ret (results_none rfl _ _ _) rfl ⟨⟨_, rfl⟩, .inr ⟨_, ⟨webF L.length (L.drop (j + 1)), by rw [List.append_assoc]; exact HP.out⟩, HJX3.out⟩⟩
    · have HIE := Aside0.mk (show i = L.length from by have := HI.out; omega)
      have p1 := eq_false (show ¬ (i : Int) < (L.length : Int) by omega)
      have p2 := eq_false hi
      clear hi
      go_wp2
      obtain ⟨pre, hj, hp⟩ := HJP.out
      rw [HIE.out, web_end, List.append_nil] at hp
      try simp only [Exit.inBlock, Exit.then]
      exact bodyPost_end (results_none rfl _ _ _) rfl ⟨⟨_, rfl⟩, .inl ⟨_, hp, hj⟩⟩
/-- The contract of the iterator. -/
theorem rst_stops (n : Nat) (w : World) (gl : Nat) (L : List S45) (A : Option Addr) (cl : Nat) (hL : L.length ≤ 512) (hS : RwC w gl L A cl) (Kq : World → World → Prop) (hKq : KqR Kq w gl L A cl) :
    SeqStopsK Fence.wide n Try.prog 27 #[.pointer (some ⟨gl, 0, none⟩)] encW Kq (fun ys => ys = web L) (fun pre => pre <+: web L) (web L).length w :=
  fun l J Jx W hW hJ _ hY h0 => rst_in n l w gl L A cl hL hS J Jx W hW Kq hKq hJ hY h0

end Go.Proofs.Ytebifddfgimnlaa.Rl
end
section
/- reel.stretches, and the closure of reel.Cut that ends a piece. -/
namespace Go.Proofs.Ytebifddfgimnlaa.Rl
open Go.RowKit Go.Proofs.Ytebifddfgimnlaa.PX Go.Proofs.Ytebifddfgimnlaa.Rd Go.Proofs.YtebifddfgimnlaaW.PrintWords Go.Proofs.YtebifddfgimnlaaW.PrintLast
set_option linter.unusedVariables false
set_option linter.unusedSimpArgs false
set_option maxHeartbeats 4000000 in
theorem rmade_calls (L : List S45) (A : Option Addr) (cl : Nat) (w : World) (hC : Kd.C k45 w A L.length L) :
    Calls Try.prog 15 #[.slice A L.length cl] w fun e w' => ∃ gl, e = .returned (.func (.func 27) #[] #[.pointer (some ⟨gl, 0, none⟩)]) ∧ RwC w' gl L A cl ∧ w.heap.size ≤ gl ∧ Below w.heap.size w w' := by
  have HC := Aside0.mk hC
  clear hC
  go_enter Try.func15, Try.ntmps15
  go_wp2_with (first
    | ((with_reducible refine gate_dst (N := 1) rfl ?_); go_must (refine box_event ?hg (N := 1) ?hd (cs := #[.slice A L.length cl]) (t := 31) ?hr ?_; (case hd => rfl); (case hg => rfl); (case hr => first | (go_simp; done) | (go_simp; rfl)); intro g1 hg w1 hbox hb; have BK1 := Aside0.mk hbox; have HB := Aside0.mk hb; have HG1 := Aside0.mk (Nat.le_of_eq hg.symm); clear hbox hb hg)))
  go_ret
  exact ⟨g1, rfl, ⟨BK1.out, Kd.C_below HC.out HB.out⟩, HG1.out, HB.out⟩
/-- Two rows that both grow, each in a box: blocks Ls are neither's. -/
def TwI (w : World) (Z g11 g12 : Nat) (Ls : List Nat) (R S : List S43) : Prop :=
  ∃ (F : Nat → Prop) (vR vS : Value), w.heap[g11]? = some (.cells #[vR] 35 (0, 0)) ∧ w.heap[g12]? = some (.cells #[vS] 35 (0, 0)) ∧
    Kd.R k43 43 w Z (fun k => F k ∧ k ∉ Ls) vR R ∧ Kd.R k43 43 w Z (fun k => ¬ F k ∧ k ∉ Ls) vS S ∧ g11 < Z ∧ g12 < Z ∧ g11 ≠ g12
theorem TwI.move {w w1 : World} {Z g11 g12 : Nat} {Ls : List Nat} {R S : List S43} (h : TwI w Z g11 g12 Ls R S) (h11 : w1.heap[g11]? = w.heap[g11]?) (h12 : w1.heap[g12]? = w.heap[g12]?) (hm : ∀ k, Z ≤ k → k < w.heap.size → k ∉ Ls → w1.heap[k]? = w.heap[k]?) : TwI w1 Z g11 g12 Ls R S := by
  obtain ⟨F, vR, vS, b1, b2, r1, r2, hz⟩ := h
  exact ⟨F, vR, vS, h11.trans b1, h12.trans b2, Kd.R_mono (Kd.R_step (Kd.R_bound r1) (fun k hk hlt => hm k hk.2.1 hlt hk.1.2)) (fun k hk => hk.1), Kd.R_mono (Kd.R_step (Kd.R_bound r2) (fun k hk hlt => hm k hk.2.1 hlt hk.1.2)) (fun k hk => hk.1), hz⟩
theorem TwI.below {w w1 : World} {Z g11 g12 : Nat} {Ls : List Nat} {R S : List S43} (h : TwI w Z g11 g12 Ls R S) (hb : Below w.heap.size w w1) : TwI w1 Z g11 g12 Ls R S := by
  obtain ⟨F, vR, vS, b1, b2, r1, r2, hz⟩ := h
  exact TwI.move ⟨F, vR, vS, b1, b2, r1, r2, hz⟩ (hb.block _ (blk_lt b1)) (hb.block _ (blk_lt b2)) (fun k _ hk _ => hb.block k hk)
theorem TwI.set {w : World} {Z g11 g12 : Nat} {Ls : List Nat} {R S : List S43} (h : TwI w Z g11 g12 Ls R S) {p : Addr} (hz : Z ≤ p.block) (hp : p.block ∈ Ls) (u : Value) : TwI (w.setCell p u) Z g11 g12 Ls R S := by
  obtain ⟨F, vR, vS, b1, b2, r1, r2, k1, k2, k3⟩ := h
  exact TwI.move ⟨F, vR, vS, b1, b2, r1, r2, k1, k2, k3⟩ (Below.heap_setCell w p u _ (by omega)) (Below.heap_setCell w p u _ (by omega)) (fun k _ _ hk => Below.heap_setCell w p u k (fun e => hk (e ▸ hp)))
theorem TwI.more {w : World} {Z g11 g12 : Nat} {Ls : List Nat} {R S : List S43} (h : TwI w Z g11 g12 Ls R S) {g : Nat} (hg : w.heap.size ≤ g) : TwI w Z g11 g12 (g :: Ls) R S := by
  obtain ⟨F, vR, vS, b1, b2, r1, r2, hz⟩ := h
  have key : ∀ k, k < w.heap.size → k ∉ Ls → k ∉ g :: Ls := fun k hk hl hm => by
    rcases List.mem_cons.1 hm with rfl | hm
    · omega
    · exact hl hm
  exact ⟨F, vR, vS, b1, b2, Kd.R_mono (Kd.R_bound r1) (fun k hk => ⟨hk.1.1, key k hk.2.2.1 hk.1.2⟩), Kd.R_mono (Kd.R_bound r2) (fun k hk => ⟨hk.1.1, key k hk.2.2.1 hk.1.2⟩), hz⟩
theorem TwI.less {w : World} {Z g11 g12 g : Nat} {Ls : List Nat} {R S : List S43} (h : TwI w Z g11 g12 (g :: Ls) R S) : TwI w Z g11 g12 Ls R S := by
  obtain ⟨F, vR, vS, b1, b2, r1, r2, hz⟩ := h
  exact ⟨F, vR, vS, b1, b2, Kd.R_mono r1 (fun k hk => ⟨hk.1, fun hm => hk.2 (List.mem_cons_of_mem _ hm)⟩), Kd.R_mono r2 (fun k hk => ⟨hk.1, fun hm => hk.2 (List.mem_cons_of_mem _ hm)⟩), hz⟩
theorem slice_form43 {w : World} {b : Nat} {ok : Nat → Prop} {v : Value} {l : List S43} (h : Kd.R k43 43 w b ok v l) : ∃ A n c, v = .slice A n c := by
  obtain ⟨A, c, rfl⟩ := Kd.R_slice h
  exact ⟨A, _, c, rfl⟩
theorem info43 : (Try.prog.info? 43).map (fun i => (i.zero, i.size, i.bytes)) = some (some (.agg #[.int .i64 0, .int .i64 0]), 2, 16) := by kernel_rfl
/-- What holds behind an append to the row of the box g1, which is then stored into it; g14 is set. -/
theorem piece_end {B0 B1 Z g1 g14 : Nat} {Ls : List Nat} {w w1 : World} {v v1 : Value} {xs xs' : List S43} {ok : Nat → Prop} {e : Int} {a : Value}
    (hr : Kd.R k43 43 w Z ok v xs) (h0 : B0 ≤ g1) (h1 : g1 < B1) (h2 : B1 ≤ Z) (h3 : Z ≤ g14) (hl : ∀ k, ok k → k ∉ Ls)
    (hb : Below Z w w1) (hg : w.grownBy w1 v.ownBlock) (b14 : w1.heap[g14]? = some (.cells #[a] 3 (0, 0))) :
    Stp B0 B1 Z w ((w1.setCell ⟨g1, 0, none⟩ v1).setCell ⟨g14, 0, none⟩ (.int .i64 e)) ∧ ((w1.setCell ⟨g1, 0, none⟩ v1).setCell ⟨g14, 0, none⟩ (.int .i64 e)).heap[g14]? = some (.cells #[.int .i64 e] 3 (0, 0)) ∧
      ∀ g ∈ Ls, g < w.heap.size → g ≠ g1 → g ≠ g14 → ((w1.setCell ⟨g1, 0, none⟩ v1).setCell ⟨g14, 0, none⟩ (.int .i64 e)).heap[g]? = w.heap[g]? := by
  have hst : Stp B0 B1 Z w w1 := ⟨⟨hb.mono (by omega), fun k _ hk => hb.block k hk⟩, KeepsOthers.of_grownBy hg (fun r o e ho => by obtain ⟨cells, hc⟩ := Kd.R_typed hr r e; rw [hc] at ho; cases ho; rfl)⟩
  refine ⟨(hst.set (p := ⟨g1, 0, none⟩) _ h0 (.inl h1)).set (p := ⟨g14, 0, none⟩) _ (show B0 ≤ g14 by omega) (.inr h3), ?_, fun g hg1 hlt n1 n14 => ?_⟩
  · exact put_one (a := a) (blk_far b14 (p := ⟨g1, 0, none⟩) (show g14 ≠ g1 by omega) _)
  · refine ((Below.heap_setCell _ ⟨g14, 0, none⟩ _ g n14).trans (Below.heap_setCell _ ⟨g1, 0, none⟩ _ g n1)).trans ?_
    exact hg.block g hlt (fun e => hl g (hr.1 g e.symm) hg1)
set_option maxHeartbeats 4000000 in
set_option maxRecDepth 100000 in
theorem piece_calls (B0 B1 Z g5 g11 g12 g14 : Nat) (Ls : List Nat) (R S : List S43) (at_ e least : Int) (w : World) (h11 : B0 ≤ g11 ∧ g11 < B1) (h12 : B0 ≤ g12 ∧ g12 < B1) (hB1 : B1 ≤ Z) (hZ : Z ≤ w.heap.size) (h14 : Z ≤ g14) (hm : g14 ∈ Ls) (hLs : ∀ g ∈ Ls, g < w.heap.size) (hLz : ∀ g ∈ Ls, Z ≤ g)
    (b5 : w.heap[g5]? = some (.cells #[.int .i64 least] 3 (0, 0))) (b14 : w.heap[g14]? = some (.cells #[.int .i64 at_] 3 (0, 0))) (hT : TwI w Z g11 g12 Ls R S) (hl : R.length + S.length ≤ 1000000) :
    Calls Try.prog 16 #[.int .i64 e, .pointer (some ⟨g14, 0, none⟩), .pointer (some ⟨g5, 0, none⟩), .pointer (some ⟨g11, 0, none⟩), .pointer (some ⟨g12, 0, none⟩)] w fun e' w' =>
      e' = .returned (.tuple #[]) ∧ Stp B0 B1 Z w w' ∧ w'.heap[g14]? = some (.cells #[.int .i64 e] 3 (0, 0)) ∧ TwI w' Z g11 g12 Ls (piece least ((R, S), at_) e).1.1 (piece least ((R, S), at_) e).1.2 ∧ ∀ g ∈ Ls, g ≠ g14 → w'.heap[g]? = w.heap[g]? := by
  obtain ⟨F, vR, vS, b11, b12, rR, rS, z11, z12, hne⟩ := hT
  have H11 := Aside0.mk h11
  have H12 := Aside0.mk h12
  have HB1 := Aside0.mk hB1
  have HZ := Aside0.mk hZ
  have H14 := Aside0.mk h14
  have HM := Aside0.mk hm
  have HLS := Aside0.mk hLs
  have HLZ := Aside0.mk hLz
  have K14 := Aside0.mk b14
  have K11 := Aside0.mk b11
  have K12 := Aside0.mk b12
  have RR := Aside0.mk rR
  have RS := Aside0.mk rS
  have HL := Aside0.mk hl
  have HNE := Aside0.mk hne
  have HZZ := Aside0.mk (show g11 < Z ∧ g12 < Z from ⟨z11, z12⟩)
  have d5 : w.cell? ⟨g5, 0, none⟩ = some (.int .i64 least) := (blk_cell b5 0).trans rfl
  have d14 : w.cell? ⟨g14, 0, none⟩ = some (.int .i64 at_) := (blk_cell b14 0).trans rfl
  have n1 : g14 ≠ g11 := by omega
  have n2 : g11 ≠ g14 := by omega
  have n3 : g14 ≠ g12 := by omega
  have n4 : g12 ≠ g14 := by omega
  by_cases hc : wrap64 (e - at_) ≥ least
  · have HP := Aside0.mk (show (piece least ((R, S), at_) e).1.1 = R ++ [⟨at_, e⟩] ∧ (piece least ((R, S), at_) e).1.2 = S from by unfold piece; dsimp only; rw [if_pos hc]; exact ⟨rfl, rfl⟩)
    have cb := eq_true hc
    have cb2 := eq_true (show least ≤ wrap64 (e - at_) from hc)
    have d11 : w.cell? ⟨g11, 0, none⟩ = some vR := (blk_cell b11 0).trans rfl
    obtain ⟨Ao, co, eo⟩ := Kd.R_slice rR
    have EO := Aside0.mk eo
    clear h11 h12 hB1 hZ h14 hm hLs hLz b5 b14 b11 b12 rR rS hl hne hc z11 z12 eo
    go_enter Try.func16, Try.ntmps16
    go_wp2_with (first | ((with_reducible refine gate_builtin (b := .append) (xs := #[.tmp 11, .tmp 15]) rfl ?_); go_must (refine Kd.R_append k43 (w0 := w) Z rfl (.tmp 11) (.tmp 15) 35 43 (.agg #[(.int .i64 0), (.int .i64 0)]) 16 rfl Try.underlying35 info43 rfl (by decide) (by decide) vR R (⟨at_, e⟩ : S43) [.int .i64 at_, .int .i64 e] (fun k => (F k ∨ w.heap.size ≤ k) ∧ k ∉ Ls) (fun _ => False) rfl rfl (k43_mkM _ _ _ (⟨at_, e⟩ : S43)) (fun _ hk => hk.elim) (fun k hk => ⟨.inr hk, fun hm => absurd (HLS.out k hm) (by omega)⟩) (Kd.R_mono RR.out (fun k hk => ⟨.inl hk.1, hk.2⟩)) (Below.refl _ _) HZ.out (by have := HL.out; omega) ?_; intro v1 w1 ho hb hg hat; obtain ⟨A1, n1_, c1, rfl⟩ := slice_form43 ho; have HO1 := Aside0.mk ho; have HBB := Aside0.mk hb; have HG := Aside0.mk hg; have K1 := Aside0.mk ((hb.block g11 HZZ.out.1).trans K11.out); have K2 := Aside0.mk ((hb.block g12 HZZ.out.2).trans K12.out); have K4 := Aside0.mk ((hg.block g14 (blk_lt K14.out) (fun e => (RR.out.1 g14 e.symm).2 HM.out)).trans K14.out); have q1 := blk_frozen K1.out 0; have q2 := (blk_cell K1.out 0).trans rfl; have q3 : w1.cell? ⟨g14, 0, none⟩ = some (.int .i64 at_) := (blk_cell K4.out 0).trans rfl; have q4 := blk_frozen K4.out 0; clear ho hb hg hat)))
    obtain ⟨e1, e2, e3⟩ := piece_end (v1 := .slice A1 n1_ c1) (xs' := R) (e := e) RR.out H11.out.1 H11.out.2 HB1.out H14.out (fun k hk => hk.2) HBB.out HG.out K4.out
    refine ⟨rfl, .tuple #[], results_none rfl _ _ _, rfl, e1, e2, ?_, fun g hg n => e3 g hg (HLS.out g hg) (by have := HLZ.out g hg; have := HZZ.out; omega) n⟩
    rw [HP.out.1, HP.out.2]
    refine TwI.set (p := ⟨g14, 0, none⟩) ?_ H14.out HM.out _
    refine ⟨fun k => F k ∨ w.heap.size ≤ k, .slice A1 n1_ c1, vS, put_one (a := vR) K1.out, blk_far K2.out (p := ⟨g11, 0, none⟩) (fun e => HNE.out e.symm) _, R_low HO1.out (p := ⟨g11, 0, none⟩) HZZ.out.1 _, R_low (p := ⟨g11, 0, none⟩) ?_ HZZ.out.1 _, HZZ.out.1, HZZ.out.2, HNE.out⟩
    refine Kd.R_mono (Kd.R_step (Kd.R_bound RS.out) (fun k hk hlt => HG.out.block k hlt (fun e => hk.1.1 (RR.out.1 k e.symm).1))) (fun k hk => ⟨?_, hk.1.2⟩)
    rintro (h | h)
    · exact hk.1.1 h
    · have := hk.2.2.1; omega
  · have HP := Aside0.mk (show (piece least ((R, S), at_) e).1.1 = R ∧ (piece least ((R, S), at_) e).1.2 = S ++ [⟨at_, e⟩] from by unfold piece; dsimp only; rw [if_neg hc]; exact ⟨rfl, rfl⟩)
    have cb := eq_false hc
    have cb2 := eq_false (show ¬ least ≤ wrap64 (e - at_) from hc)
    have d12 : w.cell? ⟨g12, 0, none⟩ = some vS := (blk_cell b12 0).trans rfl
    obtain ⟨Ao, co, eo⟩ := Kd.R_slice rS
    have EO := Aside0.mk eo
    clear h11 h12 hB1 hZ h14 hm hLs hLz b5 b14 b11 b12 rR rS hl hne hc z11 z12 eo
    go_enter Try.func16, Try.ntmps16
    go_wp2_with (first | ((with_reducible refine gate_builtin (b := .append) (xs := #[.tmp 17, .tmp 21]) rfl ?_); go_must (refine Kd.R_append k43 (w0 := w) Z rfl (.tmp 17) (.tmp 21) 35 43 (.agg #[(.int .i64 0), (.int .i64 0)]) 16 rfl Try.underlying35 info43 rfl (by decide) (by decide) vS S (⟨at_, e⟩ : S43) [.int .i64 at_, .int .i64 e] (fun k => (¬ F k ∨ w.heap.size ≤ k) ∧ k ∉ Ls) (fun _ => False) rfl rfl (k43_mkM _ _ _ (⟨at_, e⟩ : S43)) (fun _ hk => hk.elim) (fun k hk => ⟨.inr hk, fun hm => absurd (HLS.out k hm) (by omega)⟩) (Kd.R_mono RS.out (fun k hk => ⟨.inl hk.1, hk.2⟩)) (Below.refl _ _) HZ.out (by have := HL.out; omega) ?_; intro v1 w1 ho hb hg hat; obtain ⟨A1, n1_, c1, rfl⟩ := slice_form43 ho; have HO1 := Aside0.mk ho; have HBB := Aside0.mk hb; have HG := Aside0.mk hg; have K1 := Aside0.mk ((hb.block g11 HZZ.out.1).trans K11.out); have K2 := Aside0.mk ((hb.block g12 HZZ.out.2).trans K12.out); have K4 := Aside0.mk ((hg.block g14 (blk_lt K14.out) (fun e => (RS.out.1 g14 e.symm).2 HM.out)).trans K14.out); have q1 := blk_frozen K2.out 0; have q2 := (blk_cell K2.out 0).trans rfl; have q3 : w1.cell? ⟨g14, 0, none⟩ = some (.int .i64 at_) := (blk_cell K4.out 0).trans rfl; have q4 := blk_frozen K4.out 0; clear ho hb hg hat)))
    obtain ⟨e1, e2, e3⟩ := piece_end (v1 := .slice A1 n1_ c1) (xs' := R) (e := e) RS.out H12.out.1 H12.out.2 HB1.out H14.out (fun k hk => hk.2) HBB.out HG.out K4.out
    refine ⟨rfl, .tuple #[], results_none rfl _ _ _, rfl, e1, e2, ?_, fun g hg n => e3 g hg (HLS.out g hg) (by have := HLZ.out g hg; have := HZZ.out; omega) n⟩
    rw [HP.out.1, HP.out.2]
    refine TwI.set (p := ⟨g14, 0, none⟩) ?_ H14.out HM.out _
    refine ⟨fun k => F k ∧ k < w.heap.size, vR, .slice A1 n1_ c1, blk_far K1.out (p := ⟨g12, 0, none⟩) HNE.out _, put_one (a := vS) K2.out, R_low (p := ⟨g12, 0, none⟩) ?_ HZZ.out.2 _, R_low (p := ⟨g12, 0, none⟩) (Kd.R_mono HO1.out (fun k hk => ⟨?_, hk.2⟩)) HZZ.out.2 _, HZZ.out.1, HZZ.out.2, HNE.out⟩
    · exact Kd.R_mono (Kd.R_step (Kd.R_bound RR.out) (fun k hk hlt => HG.out.block k hlt (fun e => (RS.out.1 k e.symm).1 hk.1.1))) (fun k hk => ⟨⟨hk.1.1, hk.2.2.1⟩, hk.1.2⟩)
    · rintro ⟨h1, h2⟩
      rcases hk.1 with h | h
      · exact h h1
      · omega
end Go.Proofs.Ytebifddfgimnlaa.Rl
end
section
/- reel.Cut of good sections. -/
namespace Go.Proofs.Ytebifddfgimnlaa.Rl
open Go.RowKit Go.Proofs.Ytebifddfgimnlaa.PX Go.Proofs.Ytebifddfgimnlaa.Rd Go.Proofs.YtebifddfgimnlaaW.PrintWords Go.Proofs.YtebifddfgimnlaaW.PrintLast
attribute [local go_sem] Oper.semAt_some
set_option linter.unusedVariables false
set_option linter.unusedSimpArgs false
def cutP (turns : List Int) (least : Int) (pre : List S43) : List S43 × List S43 := pre.foldl (cutS turns least) ([], [])
theorem cutP_snoc (turns : List Int) (least : Int) (pre : List S43) (x : S43) : cutP turns least (pre ++ [x]) = cutS turns least (cutP turns least pre) x := by simp [cutP]
theorem cutP_len (turns : List Int) (least : Int) (pre : List S43) : (cutP turns least pre).1.length + (cutP turns least pre).2.length ≤ pre.length * (turns.length + 1) := by
  have := cuts_len turns least pre ([], [])
  simpa [cutP] using this
theorem R43_ok {w : World} {B : Nat} {ok ok' : Nat → Prop} {v : Value} {xs : List S43} (h : Kd.R k43 43 w B ok v xs) (h' : ∀ k, v.ownBlock = some k → ok' k) : Kd.R k43 43 w B ok' v xs := by
  obtain ⟨h0, inner, hown, hr⟩ := h
  exact ⟨h', inner, hown, hr.imp_ (fun _ _ hp => by obtain rfl := k43_open (k43.K_of_M hp); exact k43_mkM _ _ _ _)⟩
theorem TwI.frame {w w1 : World} {Z g11 g12 : Nat} {Ls : List Nat} {R S : List S43} {row : Option Nat} (h : TwI w Z g11 g12 Ls R S) (hg : w.grownBy w1 row) (hr : ∀ r, row = some r → ∃ o : Obj, w.heap[r]? = some o ∧ o.isCells = false) : TwI w1 Z g11 g12 Ls R S := by
  obtain ⟨F, vR, vS, b1, b2, r1, r2, hz⟩ := h
  exact ⟨F, vR, vS, blk_own (β := Unit) g11 35 (fun _ => #[vR]) () w w1 row b1 hg hr, blk_own (β := Unit) g12 35 (fun _ => #[vS]) () w w1 row b2 hg hr, R_frame r1 hg hr, R_frame r2 hg hr, hz⟩
/-- The block of the span that a round takes is no row's. -/
def SpB (W : World) (g11 g12 Bx : Nat) (x : S43) : Prop :=
  W.heap[Bx]? = some (.cells #[.int .i64 x.f0, .int .i64 x.f1] 43 (0, 0)) ∧ ∃ vR vS : Value, W.heap[g11]? = some (.cells #[vR] 35 (0, 0)) ∧ W.heap[g12]? = some (.cells #[vS] 35 (0, 0)) ∧ vR.ownBlock ≠ some Bx ∧ vS.ownBlock ≠ some Bx
theorem SpB.frame {w w1 : World} {g11 g12 Bx : Nat} {x : S43} {row : Option Nat} (h : SpB w g11 g12 Bx x) (hg : w.grownBy w1 row) (hr : ∀ r, row = some r → ∃ o : Obj, w.heap[r]? = some o ∧ o.isCells = false) : SpB w1 g11 g12 Bx x := by
  obtain ⟨b0, vR, vS, b1, b2, hn⟩ := h
  exact ⟨blk_own (β := Unit) Bx 43 (fun _ => #[.int .i64 x.f0, .int .i64 x.f1]) () w w1 row b0 hg hr, vR, vS, blk_own (β := Unit) g11 35 (fun _ => #[vR]) () w w1 row b1 hg hr, blk_own (β := Unit) g12 35 (fun _ => #[vS]) () w w1 row b2 hg hr, hn⟩
theorem SpB.two {w : World} {Z g11 g12 Bx : Nat} {x : S43} {R S : List S43} (h : SpB w g11 g12 Bx x) (k : TwI w Z g11 g12 [] R S) : TwI w Z g11 g12 [Bx] R S := by
  obtain ⟨b0, vR, vS, b1, b2, n1, n2⟩ := h
  obtain ⟨F, uR, uS, c1, c2, r1, r2, hz⟩ := k
  have e1 : uR = vR := by rw [b1] at c1; injection c1 with c1; injection c1 with c1; simpa using c1.symm
  have e2 : uS = vS := by rw [b2] at c2; injection c2 with c2; injection c2 with c2; simpa using c2.symm
  subst e1 e2
  refine ⟨F, uR, uS, c1, c2, R43_ok r1 (fun k hk => ⟨(r1.1 k hk).1, fun hm => ?_⟩), R43_ok r2 (fun k hk => ⟨(r2.1 k hk).1, fun hm => ?_⟩), hz⟩
  · rw [List.mem_singleton.1 hm] at hk; exact n1 hk
  · rw [List.mem_singleton.1 hm] at hk; exact n2 hk
theorem TwI.fresh {w : World} {Z g11 g12 : Nat} {R S : List S43} (h : TwI w Z g11 g12 [] R S) (x : S43) : SpB (w.alloc (.cells #[.int .i64 x.f0, .int .i64 x.f1] 43 (0, 0))) g11 g12 w.heap.size x := by
  obtain ⟨F, vR, vS, b1, b2, r1, r2, hz⟩ := h
  have hb : Below w.heap.size w (w.alloc (.cells #[.int .i64 x.f0, .int .i64 x.f1] 43 (0, 0))) := (Below.refl _ w).alloc (Nat.le_refl _) _
  refine ⟨World.alloc_heap_new w _, vR, vS, blk_below b1 hb, blk_below b2 hb, fun e => ?_, fun e => ?_⟩
  · obtain ⟨_, h⟩ := Kd.R_typed r1 _ e; exact absurd (blk_lt h) (by omega)
  · obtain ⟨_, h⟩ := Kd.R_typed r2 _ e; exact absurd (blk_lt h) (by omega)
theorem kqr_ok {B1 gl cl : Nat} {w w3 wz : World} {L : List S45} {A : Option Addr} (hC : Kd.C k45 w A L.length L) (h3 : Below w.heap.size w w3) (hb : Below w3.heap.size w3 wz) (hS : RwC wz gl L A cl) (hG : B1 ≤ gl) : KqR (KqI w3.heap.size B1 wz.heap.size) wz gl L A cl := by
  refine ⟨fun W' h => ?_, fun h k => h.trans k, fun h => KqI.of h hb.size, fun h => h.1.size⟩
  exact ⟨(h.2 gl hG (blk_lt hS.1)).trans hS.1, Kd.C_below hC (h3.trans ((hb.trans h.1).mono h3.size))⟩
set_option maxHeartbeats 4000000 in
set_option maxRecDepth 100000 in
theorem cut_ok (L : List S45) (turns : List Int) (least : Int) (A : Option Addr) (cl : Nat) (At : Option Addr) (ct : Nat) (w : World) (hC : Kd.C k45 w A L.length L) (hcl : L.length ≤ cl) (hCt : Kd.C (Kd.int .i64) w At turns.length turns) (hct : turns.length ≤ ct)
    (hck : ∀ k, reel_Check.f (k + 2 * L.length + 4) L = some 0) (hL : L.length ≤ 512) (htk : ∃ k, reel_checkTurns.f k turns = some 0) (htl : turns.length ≤ 512) (hl1 : 1 ≤ least) (hl2 : least ≤ 17179869184) :
    Calls Try.prog 6 #[.slice A L.length cl, .slice At turns.length ct, .int .i64 least] w fun e w' => ∃ v1 v2, e = .returned (.tuple #[v1, v2, .int .i64 0]) ∧ Kd.R k43 43 w' w.heap.size (fun _ => True) v1 (cutF L turns least).1 ∧ Kd.R k43 43 w' w.heap.size (fun _ => True) v2 (cutF L turns least).2 ∧ Below w.heap.size w w' := by
  obtain ⟨kt, htk⟩ := htk
  have HC := Aside0.mk hC
  have HCL := Aside0.mk hcl
  have HCT := Aside0.mk hCt
  have HTL := Aside0.mk hct
  have HCK := Aside0.mk hck
  have HTK := Aside0.mk htk
  have HLN := Aside0.mk hL
  have HTN := Aside0.mk htl
  have p1 := eq_false (show ¬ least < 1 by omega)
  have p2 := eq_false (show ¬ least > 17179869184 by omega)
  have p3 := eq_false (show ¬ 17179869184 < least by omega)
  clear hC hcl hCt hct hck hL htk htl hl1 hl2
  refine (callsIn_wide (n := 100)).1 ?_
  refine callsIn_of_wp_marks Try.func6 rfl trivial ?_ rfl
  simp only [Try.ntmps6, List.size_toArray, List.length_cons, List.length_nil, Nat.reduceAdd, Nat.reduceSub, Array.replicate_succ, Array.replicate_zero, List.push_toArray, List.append_toArray, List.nil_append, List.cons_append]
  refine wpIn_wide.2 ?_
  go_wp2_with (first
      | ((with_reducible refine gate_dst (N := 4) rfl ?_); go_must (refine box_event ?hg (N := 4) ?hd (cs := #[.slice At turns.length ct]) (t := 29) ?hr ?_; (case hd => rfl); (case hg => rfl); (case hr => first | (go_simp; done) | (go_simp; rfl)); intro g4 hg w1 hbox hb; have BK4 := Aside0.mk hbox; have HB := Aside0.mk hb; have HG4 := Aside0.mk (Nat.le_of_eq hg.symm); clear hbox hb hg))
      | ((with_reducible refine gate_dst (N := 5) rfl ?_); go_must (refine box_event ?hg (N := 5) ?hd (cs := #[.int .i64 least]) (t := 3) ?hr ?_; (case hd => rfl); (case hg => rfl); (case hr => first | (go_simp; done) | (go_simp; rfl)); intro g5 hg w2 hbox hb; have BK5 := Aside0.mk hbox; have nBK4 := Aside0.mk (blk_below BK4.out hb); have nHB := Aside0.mk (below_step HB.out hb); have HG5 := Aside0.mk (Nat.le_of_eq hg.symm); clear BK4; clear HB; have BK4 := nBK4; clear nBK4; have HB := nHB; clear nHB; clear hbox hb hg))
      | (go_at_call 13; go_must (refine (reel_Check.calls _ A cl L 0 _ (Kd.C_below HC.out HB.out) HCL.out (HCK.out 0)).mono ?_; rintro e w2c ⟨rfl, hb⟩; have nBK4 := Aside0.mk (blk_below BK4.out hb); have nBK5 := Aside0.mk (blk_below BK5.out hb); have nHB := Aside0.mk (below_step HB.out hb); clear BK4; clear BK5; clear HB; have BK4 := nBK4; clear nBK4; have BK5 := nBK5; clear nBK5; have HB := nHB; clear nHB; have x5 : w2c.cell? ⟨g5, 0, none⟩ = some (.int .i64 least) := (blk_cell BK5.out 0).trans rfl; have x4 : w2c.cell? ⟨g4, 0, none⟩ = some (.slice At turns.length ct) := (blk_cell BK4.out 0).trans rfl; clear hb))
      | (go_at_call 14; go_must (refine (reel_checkTurns.calls _ At ct turns 0 _ (Kd.C_below HCT.out HB.out) HTL.out HTK.out).mono ?_; rintro e w3 ⟨rfl, hd⟩; have hb : Below w2c.heap.size w2c w3 := (by obtain ⟨nd, hnd⟩ := hd; rw [hnd]; exact pw_below_drewN (Below.refl _ _) nd); clear hd x4 x5; have nBK4 := Aside0.mk (blk_below BK4.out hb); have nBK5 := Aside0.mk (blk_below BK5.out hb); have nHB := Aside0.mk (below_step HB.out hb); clear BK4; clear BK5; clear HB; have BK4 := nBK4; clear nBK4; have BK5 := nBK5; clear nBK5; have HB := nHB; clear nHB; have y5 : w3.cell? ⟨g5, 0, none⟩ = some (.int .i64 least) := (blk_cell BK5.out 0).trans rfl; have y4 : w3.cell? ⟨g4, 0, none⟩ = some (.slice At turns.length ct) := (blk_cell BK4.out 0).trans rfl; clear hb; clear y4 y5; have HBW := Aside0.mk HB.out; have B4 := Aside0.mk BK4.out; have B5 := Aside0.mk BK5.out; clear HB BK4 BK5))
      | ((with_reducible refine gate_dst (N := 11) rfl ?_); go_must (refine box_event ?hg (N := 11) ?hd (cs := #[.slice none 0 0]) (t := 35) ?hr ?_; (case hd => rfl); (case hg => rfl); (case hr => first | (go_simp; done) | (go_simp; rfl)); intro g11 hg w4 hbox hb; have BK11 := Aside0.mk hbox; have HZ := Aside0.mk hb; have HG11 := Aside0.mk (show w3.heap.size ≤ g11 from Nat.le_of_eq hg.symm); clear hbox hb hg))
      | ((with_reducible refine gate_dst (N := 12) rfl ?_); go_must (refine box_event ?hg (N := 12) ?hd (cs := #[.slice none 0 0]) (t := 35) ?hr ?_; (case hd => rfl); (case hg => rfl); (case hr => first | (go_simp; done) | (go_simp; rfl)); intro g12 hg w5 hbox hb; have BK12 := Aside0.mk hbox; have HG12 := Aside0.mk (show g11 < g12 from by rw [hg]; exact blk_lt BK11.out); have nBK11 := Aside0.mk (blk_below BK11.out hb); have nHZ := Aside0.mk (HZ.out.trans (hb.mono HZ.out.size)); clear BK11; clear HZ; have BK11 := nBK11; clear nBK11; have HZ := nHZ; clear nHZ; clear hbox hb hg))
      | (go_at_call 15; go_must (refine (rmade_calls L A cl _ (Kd.C_below HC.out (HBW.out.trans (HZ.out.mono HBW.out.size)))).mono ?_; rintro e w6 ⟨gl, rfl, hS, hG, hb⟩; have HS := Aside0.mk hS; have HGL := Aside0.mk hG; have HZ6 := Aside0.mk (HZ.out.trans (hb.mono HZ.out.size)); have HG12b := Aside0.mk (show g12 < w5.heap.size from blk_lt BK12.out); have nBK11 := Aside0.mk (blk_below BK11.out hb); have nBK12 := Aside0.mk (blk_below BK12.out hb); clear BK11; clear BK12; have BK11 := nBK11; clear nBK11; have BK12 := nBK12; clear nBK12; have HSZ6 := Aside0.mk hb.size; clear hS hG hb)))
  refine (wpIn_wide (n := 100)).1 ?_
  refine name_act ?_
  intro T hT
  have HT := Aside0.mk hT
  clear hT
  have HORD := Aside0.mk (show w.heap.size ≤ w3.heap.size ∧ w3.heap.size ≤ g11 ∧ g11 < g12 ∧ g12 < w5.heap.size ∧ w5.heap.size ≤ w6.heap.size ∧ w3.heap.size ≤ w6.heap.size ∧ g4 < w3.heap.size ∧ g5 < w3.heap.size from ⟨HBW.out.size, HG11.out, HG12.out, HG12b.out, HSZ6.out, HZ6.out.size, blk_lt B4.out, blk_lt B5.out⟩)
  refine wpIn_rangeFunc_ownH (F := Fence.wide) rfl (by decide) (gf := 27) (lb := #[.pointer (some ⟨gl, 0, none⟩)]) (by rw [HT.out]; rfl) trivial (enters_of Try.func27 (by kernel_rfl) rfl)
    (rst_stops (100 - 1) w6 gl L A cl HLN.out HS.out _ (kqr_ok HC.out HBW.out HZ6.out HS.out HGL.out)) KqI.trans (KqI.put HORD.out.2.2.2.2.2.1 (Nat.le_refl _)) (Below.refl _ _) (fun _ => rfl)
    (fun pre W => TwI W w6.heap.size g11 g12 [] (cutP turns least pre).1 (cutP turns least pre).2 ∧ Below w3.heap.size w6 W)
    (fun _ _ _ => False)
    (fun s X Y row hs hg hr => ⟨hs.1.frame hg (fun r e => (hr r e).2), ownFrom_below (β := Unit) HORD.out.2.2.2.2.2.1 HORD.out.2.2.2.2.2.1 () X Y row hs.2 hg hr⟩)
    (fun _ _ _ _ _ hs _ _ => hs)
    ⟨⟨fun _ => True, _, _, BK11.out, BK12.out, Kd.R_nil _ _ _ _ _, Kd.R_nil _ _ _ _ _, by have := HORD.out; omega, by have := HORD.out; omega, by have := HORD.out; omega⟩, Below.refl _ _⟩
    (fun x a' W => ∃ Bx, (SpB W g11 g12 Bx x ∧ w6.heap.size ≤ Bx) ∧ a' = { tmps := (T.tmps.setIfInBounds 36 (.agg #[.int .i64 x.f0, .int .i64 x.f1])).setIfInBounds 13 (.pointer (some ⟨Bx, 0, none⟩)), defers := [] })
    (fun x a' s X Y row hs hg hr => by obtain ⟨Bx, h1, h3⟩ := hs; exact ⟨Bx, ⟨h1.1.frame hg (fun r e => (hr r e).2), h1.2⟩, h3⟩)
    ?assign ?body ?done ?stop
  case assign =>
    rintro l pre x W K ⟨hT2, hB1⟩ hK
    simp only [List.zip_toArray, encW, List.zip_cons_cons, List.zip_nil_right, List.foldl_toArray, List.foldl_cons, List.foldl_nil]
    rw [HT.out]
    simp only [List.setIfInBounds_toArray, List.set_cons_zero, List.set_cons_succ]
    have HTW := Aside0.mk hT2
    have HBB := Aside0.mk hB1
    clear hT2 hB1
    gi_wp2
    exact hK _ _ ((KeepsOthers.alloc _ _).from _) (KqI.of ((Below.refl _ W).alloc HBB.out.size _) HORD.out.2.2.2.2.2.1) ⟨HTW.out.below ((Below.refl _ W).alloc (Nat.le_refl _) _), HBB.out.alloc (Nat.le_trans HORD.out.2.2.2.2.2.1 HBB.out.size) _⟩ ⟨W.heap.size, ⟨HTW.out.fresh x, HBB.out.size⟩, by rw [HT.out]; rfl⟩
  case body =>
    rintro l pre x a' W hl ⟨r, hr⟩ ⟨hT2, hB1⟩ ⟨Bx, ⟨hX, hXs⟩, rfl⟩ hlt
    rw [HT.out]
    simp only [List.setIfInBounds_toArray, List.set_cons_zero, List.set_cons_succ]
    have HCP := Aside0.mk (cutP_snoc turns least pre x)
    have HLEN := Aside0.mk (show (cutP turns least pre).1.length + (cutP turns least pre).2.length ≤ 300000 from by
      have h1 := cutP_len turns least pre
      have h2 := webF_len L.length L
      have h3 : (web L).length ≤ 512 := Nat.le_trans h2 HLN.out
      have h4 := HTN.out
      exact Nat.le_trans h1 (Nat.le_trans (Nat.mul_le_mul (show pre.length ≤ 512 by omega) (show turns.length + 1 ≤ 513 by omega)) (by decide)))
    obtain ⟨⟨R, S⟩, hcp⟩ : ∃ r, cutP turns least pre = r := ⟨_, rfl⟩
    rw [hcp] at hT2 HCP HLEN
    dsimp only at hT2 HLEN
    have HTW := Aside0.mk (hX.two hT2)
    have HBX := Aside0.mk (show W.heap[Bx]? = some (.cells #[.int .i64 x.f0, .int .i64 x.f1] 43 (0, 0)) ∧ w6.heap.size ≤ Bx from ⟨hX.1, hXs⟩)
    have HBB := Aside0.mk hB1
    have e0 : W.cell? ⟨Bx, 0, none⟩ = some (.int .i64 x.f0) := (blk_cell hX.1 0).trans rfl
    have e4 : W.cell? ⟨g4, 0, none⟩ = some (.slice At turns.length ct) := (blk_cell ((hB1.block g4 HORD.out.2.2.2.2.2.2.1).trans ((HZ6.out.block g4 HORD.out.2.2.2.2.2.2.1).trans B4.out)) 0).trans rfl
    have e4a : ∀ o, (W.alloc o).cell? ⟨g4, 0, none⟩ = some (.slice At turns.length ct) := fun o => (Below.cell ((Below.refl W.heap.size W).alloc (Nat.le_refl _) o) (World.block_lt_of_cell? W _ e4)).trans e4
    clear hcp hT2 hX hXs hB1 hlt hr hl
    gi_wp2
    obtain ⟨W2, hW2⟩ : ∃ W2, W.alloc (.cells #[.int .i64 x.f0] 3 (0, 0)) = W2 := ⟨_, rfl⟩
    obtain ⟨g14, hg14⟩ : ∃ g14, W.heap.size = g14 := ⟨_, rfl⟩
    rw [hW2, hg14]
    have D2 := Aside0.mk (show Below W.heap.size W W2 ∧ KeepsOthers W W2 from by rw [← hW2]; exact ⟨(Below.refl _ W).alloc (Nat.le_refl _) _, KeepsOthers.alloc _ _⟩)
    have G14 := Aside0.mk (show w6.heap.size ≤ g14 ∧ g14 < W2.heap.size ∧ g14 = W.heap.size ∧ Bx < g14 from ⟨by rw [← hg14]; exact HBB.out.size, by rw [← hW2, ← hg14]; simp, hg14.symm, by rw [← hg14]; exact blk_lt HBX.out.1⟩)
    have K14 := Aside0.mk (show W2.heap[g14]? = some (.cells #[.int .i64 x.f0] 3 (0, 0)) from by rw [← hW2, ← hg14]; exact World.alloc_heap_new W _)
    have HTW2 := Aside0.mk ((HTW.out.more (g := g14) (Nat.le_of_eq hg14)).below D2.out.1)
    have KBX := Aside0.mk (blk_below HBX.out.1 D2.out.1)
    have HS0 := Aside0.mk (show Stp w3.heap.size w5.heap.size w6.heap.size W W2 from ⟨⟨D2.out.1.mono (Nat.le_trans HORD.out.2.2.2.2.2.1 HBB.out.size), fun k _ hk => D2.out.1.block k (Nat.lt_of_lt_of_le hk HBB.out.size)⟩, D2.out.2⟩)
    have HB2 := Aside0.mk (show Below w3.heap.size w6 W2 from HBB.out.trans HS0.out.1.1)
    clear hW2 hg14 e0 e4 e4a
    gi_loopg [17, 42] turns.length (fun kq v17 v42 wr => ∃ (i : Nat) (Ri Si : List S43) (ai : Int), v42 = .int .i64 (i : Int) ∧ Aside0 (i ≤ turns.length ∧ kq = turns.length - i ∧ Ri.length + Si.length ≤ 300000 + i) ∧ Aside0 ((turns.take i).foldl (cutT least x) ((R, S), x.f0) = ((Ri, Si), ai)) ∧ Aside0 (Stp w3.heap.size w5.heap.size w6.heap.size W wr) ∧ Aside0 (wr.heap[g14]? = some (.cells #[.int .i64 ai] 3 (0, 0))) ∧ Aside0 (wr.heap[Bx]? = some (.cells #[.int .i64 x.f0, .int .i64 x.f1] 43 (0, 0))) ∧ Aside0 (TwI wr w6.heap.size g11 g12 [g14, Bx] Ri Si))
    case atStart => exact ⟨0, R, S, x.f0, rfl, ⟨by have := HLEN.out; omega⟩, ⟨rfl⟩, HS0, K14, KBX, HTW2⟩
    case round =>
      clear HS0 K14 KBX HTW2 HTW HB2
      obtain ⟨i, Ri, Si, ai, rfl, HI, HF, HST, K14, KBX, HTW⟩ := hrel
      have HBR := Aside0.mk (show Below w3.heap.size w6 wr from HBB.out.trans HST.out.1.1)
      have HCW := Aside0.mk (Kd.C_below HCT.out (HBW.out.trans ((HZ6.out.trans HBR.out).mono HBW.out.size)))
      have x0 : wr.cell? ⟨Bx, 0, none⟩ = some (.int .i64 x.f0) := (blk_cell KBX.out 0).trans rfl
      have x1 : wr.cell? ⟨Bx, 1, none⟩ = some (.int .i64 x.f1) := (blk_cell KBX.out 1).trans rfl
      by_cases hi : i < turns.length
      · have HII := Aside0.mk hi
        have q1 := eq_true (show (i : Int) < (turns.length : Int) by omega)
        have q2 := eq_true hi
        have q3 : wrap64 ((i : Int) + 1) = ((i + 1 : Nat) : Int) := by have := HTN.out; unfold wrap64; omega
        have q4 : IntKind.i64.wrap ((i : Int) + 1) = ((i + 1 : Nat) : Int) := by rw [w64, q3]
        obtain ⟨ad, had, y0⟩ := key_at HCW.out i hi
        subst had
        have HTA := Aside0.mk (show turns.take (i + 1) = turns.take i ++ [turns.getD i 0] from by rw [List.take_succ_eq_append_getElem hi, List.getD_eq_getElem?_getD, List.getElem?_eq_getElem hi]; rfl)
        obtain ⟨t, ht⟩ : ∃ t, turns.getD i 0 = t := ⟨_, rfl⟩
        rw [ht] at y0 HTA
        clear ht hi
        have HF2 := Aside0.mk (show (turns.take (i + 1)).foldl (cutT least x) ((R, S), x.f0) = cutT least x ((Ri, Si), ai) t from by rw [HTA.out, List.foldl_append, HF.out]; rfl)
        by_cases h1 : t > x.f0
        · have k1 := eq_true h1
          have k1b := eq_true (show x.f0 < t from h1)
          by_cases h2 : t < x.f1
          · have k2 := eq_true h2
            have HF3 := Aside0.mk (show (turns.take (i + 1)).foldl (cutT least x) ((R, S), x.f0) = piece least ((Ri, Si), ai) t from by rw [HF2.out]; unfold cutT; rw [if_pos ⟨h1, h2⟩])
            clear h1 h2
            gi_wp2
            refine ⟨trivial, ?_⟩
            gi_at_call 16
            refine (callsIn_at (piece_calls w3.heap.size w5.heap.size w6.heap.size g5 g11 g12 g14 [g14, Bx] Ri Si ai t least wr ⟨HORD.out.2.1, by have := HORD.out; omega⟩ ⟨by have := HORD.out; omega, HORD.out.2.2.2.1⟩ HORD.out.2.2.2.2.1 HBR.out.size G14.out.1 (by simp) (by intro g hg; simp at hg; rcases hg with rfl | rfl; exact blk_lt K14.out; exact blk_lt KBX.out) (by intro g hg; simp at hg; rcases hg with rfl | rfl; exact G14.out.1; exact HBX.out.2) ((HBR.out.block g5 HORD.out.2.2.2.2.2.2.2).trans ((HZ6.out.block g5 HORD.out.2.2.2.2.2.2.2).trans B5.out)) K14.out HTW.out (by have := HI.out; have := HTN.out; omega))).mono ?_; rintro e W4 ⟨rfl, hs, hk, ht, hg⟩; have HS4 := Aside0.mk hs; have K4 := Aside0.mk hk; have HT4 := Aside0.mk ht; have KX4 := Aside0.mk ((hg Bx (by simp) (by have := G14.out; omega)).trans KBX.out); clear hs hk ht hg
            gi_wp2
            gi_roundg (turns.length - (i + 1))
            case measure => have := HI.out; have := HII.out; omega
            case rel => exact ⟨i + 1, (piece least ((Ri, Si), ai) t).1.1, (piece least ((Ri, Si), ai) t).1.2, t, rfl, ⟨by have := HI.out; have := HII.out; have := piece_len least ((Ri, Si), ai) t; dsimp only at this; omega⟩, ⟨HF3.out⟩, ⟨⟨HST.out.1.trans HS4.out.1, HST.out.2.trans HS4.out.2⟩⟩, K4, KX4, HT4⟩
          · have k2 := eq_false h2
            have HF3 := Aside0.mk (show (turns.take (i + 1)).foldl (cutT least x) ((R, S), x.f0) = ((Ri, Si), ai) from by rw [HF2.out]; unfold cutT; rw [if_neg (fun h => h2 h.2)])
            clear h1 h2
            gi_wp2
            gi_roundg (turns.length - (i + 1))
            case measure => have := HI.out; have := HII.out; omega
            case rel => exact ⟨i + 1, Ri, Si, ai, rfl, ⟨by have := HI.out; have := HII.out; omega⟩, HF3, HST, K14, KBX, HTW⟩
        · have k1 := eq_false h1
          have k1b := eq_false (show ¬ x.f0 < t from h1)
          have HF3 := Aside0.mk (show (turns.take (i + 1)).foldl (cutT least x) ((R, S), x.f0) = ((Ri, Si), ai) from by rw [HF2.out]; unfold cutT; rw [if_neg (fun h => h1 h.1)])
          clear h1
          gi_wp2
          gi_roundg (turns.length - (i + 1))
          case measure => have := HI.out; have := HII.out; omega
          case rel => exact ⟨i + 1, Ri, Si, ai, rfl, ⟨by have := HI.out; have := HII.out; omega⟩, HF3, HST, K14, KBX, HTW⟩
      · have HIE := Aside0.mk (show i = turns.length from by have := HI.out; omega)
        have q1 := eq_false (show ¬ (i : Int) < (turns.length : Int) by omega)
        have q2 := eq_false hi
        clear hi
        gi_wp2
        refine ⟨trivial, ?_⟩
        gi_at_call 16
        refine (callsIn_at (piece_calls w3.heap.size w5.heap.size w6.heap.size g5 g11 g12 g14 [g14, Bx] Ri Si ai x.f1 least wr ⟨HORD.out.2.1, by have := HORD.out; omega⟩ ⟨by have := HORD.out; omega, HORD.out.2.2.2.1⟩ HORD.out.2.2.2.2.1 HBR.out.size G14.out.1 (by simp) (by intro g hg; simp at hg; rcases hg with rfl | rfl; exact blk_lt K14.out; exact blk_lt KBX.out) (by intro g hg; simp at hg; rcases hg with rfl | rfl; exact G14.out.1; exact HBX.out.2) ((HBR.out.block g5 HORD.out.2.2.2.2.2.2.2).trans ((HZ6.out.block g5 HORD.out.2.2.2.2.2.2.2).trans B5.out)) K14.out HTW.out (by have := HI.out; have := HTN.out; omega))).mono ?_; rintro e W4 ⟨rfl, hs, hk, ht, hg⟩; have HS4 := Aside0.mk hs; have K4 := Aside0.mk hk; have HT4 := Aside0.mk ht; have KX4 := Aside0.mk ((hg Bx (by simp) (by have := G14.out; omega)).trans KBX.out); clear hs hk ht hg
        gi_wp2
        have HCE := Aside0.mk (show cutP turns least (pre ++ [x]) = (piece least ((Ri, Si), ai) x.f1).1 from by rw [HCP.out]; unfold cutS; have h_ := HF.out; rw [HIE.out, List.take_length] at h_; rw [h_])
        exact ⟨(HST.out.2.trans HS4.out.2).from _, HST.out.1.trans HS4.out.1, by rw [HCE.out]; exact HT4.out.less.less, HBR.out.trans HS4.out.1.1⟩
  case done =>
    rintro D ys W hD rfl ⟨hT2, hB1⟩ hK
    rw [HT.out]
    obtain ⟨F, vR, vS, b1, b2, r1, r2, z⟩ := hT2
    have HR1 := Aside0.mk r1
    have HR2 := Aside0.mk r2
    have HBB := Aside0.mk hB1
    have c1 : W.cell? ⟨g11, 0, none⟩ = some vR := (blk_cell b1 0).trans rfl
    have c2 : W.cell? ⟨g12, 0, none⟩ = some vS := (blk_cell b2 0).trans rfl
    clear r1 r2 hB1 b1 b2 z
    go_wp2
    go_quiet (fail)
    go_wp2
    refine ⟨by simp, .inl ⟨_, _, rfl, run_takeDeferred (w := W.drewN nq) hK, ?_⟩⟩
    have HWD := Aside0.mk (show Below w3.heap.size w6 (W.drewN nq) from pw_below_drewN HBB.out nq)
    have HEND := Aside0.mk ((HBW.out.trans (HZ6.out.mono HBW.out.size)).trans ((HWD.out.mono HBW.out.size).trans (belowK_b (w := w6) (Nat.le_trans HORD.out.1 HORD.out.2.2.2.2.2.1) (W.drewN nq) D _ (.deferred none) hD hK rfl rfl)))
    have HQ1 := Aside0.mk (Kd.R_mono (Kd.R_lower (R_frame (Kd.R_drewN HR1.out nq) (grownBy_putObj' (W.drewN nq) D (.deferred none)) (fun r e => by cases e; exact ⟨_, hK, rfl⟩)) (Nat.le_trans HORD.out.1 HORD.out.2.2.2.2.2.1)) (fun _ _ => trivial) (ok' := fun _ => True))
    have HQ2 := Aside0.mk (Kd.R_mono (Kd.R_lower (R_frame (Kd.R_drewN HR2.out nq) (grownBy_putObj' (W.drewN nq) D (.deferred none)) (fun r e => by cases e; exact ⟨_, hK, rfl⟩)) (Nat.le_trans HORD.out.1 HORD.out.2.2.2.2.2.1)) (fun _ _ => trivial) (ok' := fun _ => True))
    exact ⟨.tuple #[vR, vS, .int .i64 0], by simp [results, Try.results6, go_sem], vR, vS, rfl, HQ1.out, HQ2.out, HEND.out⟩
  case stop =>
    rintro D c pre W _ _ h _
    exact h.elim
end Go.Proofs.Ytebifddfgimnlaa.Rl
end
section
/- reel.Cut where it answers an error. -/
namespace Go.Proofs.Ytebifddfgimnlaa.Rl
open Go.RowKit Go.Proofs.Ytebifddfgimnlaa.PX Go.Proofs.Ytebifddfgimnlaa.Rd Go.Proofs.YtebifddfgimnlaaW.PrintWords Go.Proofs.YtebifddfgimnlaaW.PrintLast
set_option linter.unusedVariables false
set_option linter.unusedSimpArgs false
set_option maxHeartbeats 4000000 in
set_option maxRecDepth 100000 in
theorem cut_err1 (L : List S45) (turns : List Int) (least : Int) (A : Option Addr) (cl : Nat) (At : Option Addr) (ct : Nat) (w : World) (hC : Kd.C k45 w A L.length L) (hcl : L.length ≤ cl) (hCt : Kd.C (Kd.int .i64) w At turns.length turns) (hct : turns.length ≤ ct) (r : Int) (hr : r ≠ 0) (hck : ∀ k, reel_Check.f (k + 2 * L.length + 4) L = some r) :
    Calls Try.prog 6 #[.slice A L.length cl, .slice At turns.length ct, .int .i64 least] w fun e w' => e = .returned (.tuple #[.slice none 0 0, .slice none 0 0, .int .i64 r]) ∧ Below w.heap.size w w' := by
  have HC := Aside0.mk hC
  have HCL := Aside0.mk hcl
  have HCT := Aside0.mk hCt
  have HTL := Aside0.mk hct
  have HCK := Aside0.mk hck
  have k1 : (r == 0) = false := beq_eq_false_iff_ne.2 hr
  have k2 := eq_false hr
  clear hC hcl hCt hct hck hr
  go_enter Try.func6, Try.ntmps6
  go_wp2_with (first
      | ((with_reducible refine gate_dst (N := 4) rfl ?_); go_must (refine box_event ?hg (N := 4) ?hd (cs := #[.slice At turns.length ct]) (t := 29) ?hr ?_; (case hd => rfl); (case hg => rfl); (case hr => first | (go_simp; done) | (go_simp; rfl)); intro g4 hg w1 hbox hb; have BK4 := Aside0.mk hbox; have HB := Aside0.mk hb; have HG4 := Aside0.mk (Nat.le_of_eq hg.symm); clear hbox hb hg))
      | ((with_reducible refine gate_dst (N := 5) rfl ?_); go_must (refine box_event ?hg (N := 5) ?hd (cs := #[.int .i64 least]) (t := 3) ?hr ?_; (case hd => rfl); (case hg => rfl); (case hr => first | (go_simp; done) | (go_simp; rfl)); intro g5 hg w2 hbox hb; have BK5 := Aside0.mk hbox; have nBK4 := Aside0.mk (blk_below BK4.out hb); have nHB := Aside0.mk (below_step HB.out hb); have HG5 := Aside0.mk (Nat.le_of_eq hg.symm); clear BK4; clear HB; have BK4 := nBK4; clear nBK4; have HB := nHB; clear nHB; clear hbox hb hg))
      | (go_at_call 13; go_must (refine (reel_Check.calls _ A cl L r _ (Kd.C_below HC.out HB.out) HCL.out (HCK.out 0)).mono ?_; rintro e w2c ⟨rfl, hb⟩; have nBK4 := Aside0.mk (blk_below BK4.out hb); have nBK5 := Aside0.mk (blk_below BK5.out hb); have nHB := Aside0.mk (below_step HB.out hb); clear BK4; clear BK5; clear HB; have BK4 := nBK4; clear nBK4; have BK5 := nBK5; clear nBK5; have HB := nHB; clear nHB; have x5 : w2c.cell? ⟨g5, 0, none⟩ = some (.int .i64 least) := (blk_cell BK5.out 0).trans rfl; have x4 : w2c.cell? ⟨g4, 0, none⟩ = some (.slice At turns.length ct) := (blk_cell BK4.out 0).trans rfl; clear hb)))
  exact bodyPost_ret (v := .tuple #[.slice none 0 0, .slice none 0 0, .int .i64 r]) (by simp [results, Try.results6, go_sem]) rfl ⟨rfl, HB.out⟩
set_option maxHeartbeats 4000000 in
set_option maxRecDepth 100000 in
theorem cut_err2 (L : List S45) (turns : List Int) (least : Int) (A : Option Addr) (cl : Nat) (At : Option Addr) (ct : Nat) (w : World) (hC : Kd.C k45 w A L.length L) (hcl : L.length ≤ cl) (hCt : Kd.C (Kd.int .i64) w At turns.length turns) (hct : turns.length ≤ ct) (hl : least < 1 ∨ 17179869184 < least) (hck : ∀ k, reel_Check.f (k + 2 * L.length + 4) L = some 0) :
    Calls Try.prog 6 #[.slice A L.length cl, .slice At turns.length ct, .int .i64 least] w fun e w' => e = .returned (.tuple #[.slice none 0 0, .slice none 0 0, .int .i64 1]) ∧ Below w.heap.size w w' := by
  have HC := Aside0.mk hC
  have HCL := Aside0.mk hcl
  have HCT := Aside0.mk hCt
  have HTL := Aside0.mk hct
  have HCK := Aside0.mk hck
  by_cases h1 : least < 1
  · have k1 := eq_true h1
    clear hC hcl hCt hct hck hl h1
    go_enter Try.func6, Try.ntmps6
    go_wp2_with (first
      | ((with_reducible refine gate_dst (N := 4) rfl ?_); go_must (refine box_event ?hg (N := 4) ?hd (cs := #[.slice At turns.length ct]) (t := 29) ?hr ?_; (case hd => rfl); (case hg => rfl); (case hr => first | (go_simp; done) | (go_simp; rfl)); intro g4 hg w1 hbox hb; have BK4 := Aside0.mk hbox; have HB := Aside0.mk hb; have HG4 := Aside0.mk (Nat.le_of_eq hg.symm); clear hbox hb hg))
      | ((with_reducible refine gate_dst (N := 5) rfl ?_); go_must (refine box_event ?hg (N := 5) ?hd (cs := #[.int .i64 least]) (t := 3) ?hr ?_; (case hd => rfl); (case hg => rfl); (case hr => first | (go_simp; done) | (go_simp; rfl)); intro g5 hg w2 hbox hb; have BK5 := Aside0.mk hbox; have nBK4 := Aside0.mk (blk_below BK4.out hb); have nHB := Aside0.mk (below_step HB.out hb); have HG5 := Aside0.mk (Nat.le_of_eq hg.symm); clear BK4; clear HB; have BK4 := nBK4; clear nBK4; have HB := nHB; clear nHB; clear hbox hb hg))
      | (go_at_call 13; go_must (refine (reel_Check.calls _ A cl L 0 _ (Kd.C_below HC.out HB.out) HCL.out (HCK.out 0)).mono ?_; rintro e w2c ⟨rfl, hb⟩; have nBK4 := Aside0.mk (blk_below BK4.out hb); have nBK5 := Aside0.mk (blk_below BK5.out hb); have nHB := Aside0.mk (below_step HB.out hb); clear BK4; clear BK5; clear HB; have BK4 := nBK4; clear nBK4; have BK5 := nBK5; clear nBK5; have HB := nHB; clear nHB; have x5 : w2c.cell? ⟨g5, 0, none⟩ = some (.int .i64 least) := (blk_cell BK5.out 0).trans rfl; have x4 : w2c.cell? ⟨g4, 0, none⟩ = some (.slice At turns.length ct) := (blk_cell BK4.out 0).trans rfl; clear hb)))
    exact bodyPost_ret (v := .tuple #[.slice none 0 0, .slice none 0 0, .int .i64 1]) (by simp [results, Try.results6, go_sem]) rfl ⟨rfl, HB.out⟩
  · have k1 := eq_false h1
    have k2 := eq_true (show least > 17179869184 by omega)
    have k3 := eq_true (show 17179869184 < least by omega)
    clear hC hcl hCt hct hck hl h1
    go_enter Try.func6, Try.ntmps6
    go_wp2_with (first
      | ((with_reducible refine gate_dst (N := 4) rfl ?_); go_must (refine box_event ?hg (N := 4) ?hd (cs := #[.slice At turns.length ct]) (t := 29) ?hr ?_; (case hd => rfl); (case hg => rfl); (case hr => first | (go_simp; done) | (go_simp; rfl)); intro g4 hg w1 hbox hb; have BK4 := Aside0.mk hbox; have HB := Aside0.mk hb; have HG4 := Aside0.mk (Nat.le_of_eq hg.symm); clear hbox hb hg))
      | ((with_reducible refine gate_dst (N := 5) rfl ?_); go_must (refine box_event ?hg (N := 5) ?hd (cs := #[.int .i64 least]) (t := 3) ?hr ?_; (case hd => rfl); (case hg => rfl); (case hr => first | (go_simp; done) | (go_simp; rfl)); intro g5 hg w2 hbox hb; have BK5 := Aside0.mk hbox; have nBK4 := Aside0.mk (blk_below BK4.out hb); have nHB := Aside0.mk (below_step HB.out hb); have HG5 := Aside0.mk (Nat.le_of_eq hg.symm); clear BK4; clear HB; have BK4 := nBK4; clear nBK4; have HB := nHB; clear nHB; clear hbox hb hg))
      | (go_at_call 13; go_must (refine (reel_Check.calls _ A cl L 0 _ (Kd.C_below HC.out HB.out) HCL.out (HCK.out 0)).mono ?_; rintro e w2c ⟨rfl, hb⟩; have nBK4 := Aside0.mk (blk_below BK4.out hb); have nBK5 := Aside0.mk (blk_below BK5.out hb); have nHB := Aside0.mk (below_step HB.out hb); clear BK4; clear BK5; clear HB; have BK4 := nBK4; clear nBK4; have BK5 := nBK5; clear nBK5; have HB := nHB; clear nHB; have x5 : w2c.cell? ⟨g5, 0, none⟩ = some (.int .i64 least) := (blk_cell BK5.out 0).trans rfl; have x4 : w2c.cell? ⟨g4, 0, none⟩ = some (.slice At turns.length ct) := (blk_cell BK4.out 0).trans rfl; clear hb)))
    exact bodyPost_ret (v := .tuple #[.slice none 0 0, .slice none 0 0, .int .i64 1]) (by simp [results, Try.results6, go_sem]) rfl ⟨rfl, HB.out⟩
set_option maxHeartbeats 4000000 in
set_option maxRecDepth 100000 in
theorem cut_err3 (L : List S45) (turns : List Int) (least : Int) (A : Option Addr) (cl : Nat) (At : Option Addr) (ct : Nat) (w : World) (hC : Kd.C k45 w A L.length L) (hcl : L.length ≤ cl) (hCt : Kd.C (Kd.int .i64) w At turns.length turns) (hct : turns.length ≤ ct) (r : Int) (hr : r ≠ 0) (hl1 : 1 ≤ least) (hl2 : least ≤ 17179869184) (hck : ∀ k, reel_Check.f (k + 2 * L.length + 4) L = some 0) (htk : ∃ k, reel_checkTurns.f k turns = some r) :
    Calls Try.prog 6 #[.slice A L.length cl, .slice At turns.length ct, .int .i64 least] w fun e w' => e = .returned (.tuple #[.slice none 0 0, .slice none 0 0, .int .i64 r]) ∧ Below w.heap.size w w' := by
  obtain ⟨kt, htk⟩ := htk
  have HTK := Aside0.mk htk
  have HC := Aside0.mk hC
  have HCL := Aside0.mk hcl
  have HCT := Aside0.mk hCt
  have HTL := Aside0.mk hct
  have HCK := Aside0.mk hck
  have k1 : (r == 0) = false := beq_eq_false_iff_ne.2 hr
  have k2 := eq_false hr
  have p1 := eq_false (show ¬ least < 1 by omega)
  have p2 := eq_false (show ¬ least > 17179869184 by omega)
  have p3 := eq_false (show ¬ 17179869184 < least by omega)
  clear hC hcl hCt hct hck hr hl1 hl2 htk
  go_enter Try.func6, Try.ntmps6
  go_wp2_with (first
      | ((with_reducible refine gate_dst (N := 4) rfl ?_); go_must (refine box_event ?hg (N := 4) ?hd (cs := #[.slice At turns.length ct]) (t := 29) ?hr ?_; (case hd => rfl); (case hg => rfl); (case hr => first | (go_simp; done) | (go_simp; rfl)); intro g4 hg w1 hbox hb; have BK4 := Aside0.mk hbox; have HB := Aside0.mk hb; have HG4 := Aside0.mk (Nat.le_of_eq hg.symm); clear hbox hb hg))
      | ((with_reducible refine gate_dst (N := 5) rfl ?_); go_must (refine box_event ?hg (N := 5) ?hd (cs := #[.int .i64 least]) (t := 3) ?hr ?_; (case hd => rfl); (case hg => rfl); (case hr => first | (go_simp; done) | (go_simp; rfl)); intro g5 hg w2 hbox hb; have BK5 := Aside0.mk hbox; have nBK4 := Aside0.mk (blk_below BK4.out hb); have nHB := Aside0.mk (below_step HB.out hb); have HG5 := Aside0.mk (Nat.le_of_eq hg.symm); clear BK4; clear HB; have BK4 := nBK4; clear nBK4; have HB := nHB; clear nHB; clear hbox hb hg))
      | (go_at_call 13; go_must (refine (reel_Check.calls _ A cl L 0 _ (Kd.C_below HC.out HB.out) HCL.out (HCK.out 0)).mono ?_; rintro e w2c ⟨rfl, hb⟩; have nBK4 := Aside0.mk (blk_below BK4.out hb); have nBK5 := Aside0.mk (blk_below BK5.out hb); have nHB := Aside0.mk (below_step HB.out hb); clear BK4; clear BK5; clear HB; have BK4 := nBK4; clear nBK4; have BK5 := nBK5; clear nBK5; have HB := nHB; clear nHB; have x5 : w2c.cell? ⟨g5, 0, none⟩ = some (.int .i64 least) := (blk_cell BK5.out 0).trans rfl; have x4 : w2c.cell? ⟨g4, 0, none⟩ = some (.slice At turns.length ct) := (blk_cell BK4.out 0).trans rfl; clear hb))
      | (go_at_call 14; go_must (refine (reel_checkTurns.calls _ At ct turns r _ (Kd.C_below HCT.out HB.out) HTL.out HTK.out).mono ?_; rintro e w3 ⟨rfl, hd⟩; have hb : Below w2c.heap.size w2c w3 := (by obtain ⟨nd, hnd⟩ := hd; rw [hnd]; exact pw_below_drewN (Below.refl _ _) nd); clear hd x4 x5; have nBK4 := Aside0.mk (blk_below BK4.out hb); have nBK5 := Aside0.mk (blk_below BK5.out hb); have nHB := Aside0.mk (below_step HB.out hb); clear BK4; clear BK5; clear HB; have BK4 := nBK4; clear nBK4; have BK5 := nBK5; clear nBK5; have HB := nHB; clear nHB; have y5 : w3.cell? ⟨g5, 0, none⟩ = some (.int .i64 least) := (blk_cell BK5.out 0).trans rfl; have y4 : w3.cell? ⟨g4, 0, none⟩ = some (.slice At turns.length ct) := (blk_cell BK4.out 0).trans rfl; clear hb; clear y4 y5)))
  exact bodyPost_ret (v := .tuple #[.slice none 0 0, .slice none 0 0, .int .i64 r]) (by simp [results, Try.results6, go_sem]) rfl ⟨rfl, HB.out⟩
end Go.Proofs.Ytebifddfgimnlaa.Rl
end
