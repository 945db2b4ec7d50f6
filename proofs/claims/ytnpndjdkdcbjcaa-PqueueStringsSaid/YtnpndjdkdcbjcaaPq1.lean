/- A heap of numbered values gives the values in the order in which the list of them, searched for the first least one, gives them; and so does the merge sort. Plain lists, no program. Conditions: as each theorem says. -/
import Derived.Test.YtnpndjdkdcbjcaaPq0
namespace Go.Proofs.Ytnpndjdkdcbjcaa.Pq
set_option linter.unusedVariables false
section
variable {A E : Type} (lt : A → A → Bool) (v : E → A) (no : E → Int) (mk : A → Int → E) (d : E) (da : A)

theorem Swo.irr {lt : A → A → Bool} (h : Swo lt) (a : A) : lt a a = false := by
  cases h1 : lt a a with
  | true => exact absurd (h.asym _ _ h1) (by rw [h1]; simp)
  | false => rfl
theorem Swo.tr {lt : A → A → Bool} (h : Swo lt) {a b c : A} (h1 : lt a b = true) (h2 : lt b c = true) : lt a c = true := by
  cases h3 : lt a c with
  | true => rfl
  | false =>
    have := h.ntr a c b h3 (h.asym _ _ h2)
    rw [h1] at this
    cases this
/-- The reference's search: n rounds are left. -/
def bestS (L : List A) : Nat → Nat → Nat → Nat
  | 0, _, best => best
  | n + 1, i, best => bestS L n (i + 1) (if lt (L.getD i da) (L.getD best da) = true then i else best)
def firstI (L : List A) : Nat := bestS lt da L (L.length - 1) 1 0
theorem bestS_spec (h : Swo lt) (L : List A) : ∀ (n i best : Nat), i + n = L.length → best < i → (∀ j, j < best → lt (L.getD best da) (L.getD j da) = true) → (∀ j, best ≤ j → j < i → lt (L.getD j da) (L.getD best da) = false) →
    bestS lt da L n i best < L.length ∧ (∀ j, j < bestS lt da L n i best → lt (L.getD (bestS lt da L n i best) da) (L.getD j da) = true) ∧ (∀ j, bestS lt da L n i best ≤ j → j < L.length → lt (L.getD j da) (L.getD (bestS lt da L n i best) da) = false) := by
  intro n
  induction n with
  | zero =>
    intro i best hn hb h1 h2
    unfold bestS
    exact ⟨by omega, h1, fun j a b => h2 j a (by omega)⟩
  | succ n ih =>
    intro i best hn hb h1 h2
    unfold bestS
    by_cases c : lt (L.getD i da) (L.getD best da) = true
    · rw [if_pos c]
      refine ih (i + 1) i (by omega) (by omega) (fun j hj => ?_) (fun j a b => ?_)
      · by_cases cj : j < best
        · exact h.tr c (h1 j cj)
        · cases h3 : lt (L.getD i da) (L.getD j da) with
          | true => rfl
          | false =>
            have := h.ntr _ _ _ h3 (h2 j (by omega) hj)
            rw [c] at this
            cases this
      · rw [show j = i by omega]
        exact h.irr _
    · rw [if_neg c]
      refine ih (i + 1) best (by omega) (by omega) h1 (fun j a b => ?_)
      by_cases cj : j = i
      · rw [cj]
        exact Bool.eq_false_iff.2 c
      · exact h2 j a (by omega)
theorem firstI_spec (h : Swo lt) (L : List A) (h0 : 0 < L.length) : firstI lt da L < L.length ∧ (∀ j, j < firstI lt da L → lt (L.getD (firstI lt da L) da) (L.getD j da) = true) ∧ (∀ j, firstI lt da L ≤ j → j < L.length → lt (L.getD j da) (L.getD (firstI lt da L) da) = false) :=
  bestS_spec lt da h L (L.length - 1) 1 0 (by omega) (by omega) (fun j hj => absurd hj (by omega)) (fun j _ hj => by rw [show j = 0 by omega]; exact h.irr _)

/-- The heap h holds the values L, in the order in which they came, under the numbers of their coming; the next number is n. -/
def QR (h : List E) (L : List A) (n : Int) : Prop := Hp (bfE lt v no) d h ∧ ∃ es : List E, es.map v = L ∧ es.Pairwise (fun a b => no a < no b) ∧ h.Perm es ∧ ∀ e ∈ es, no e < n
theorem QR.nil (n : Int) : QR lt v no d [] [] n := ⟨fun j _ h => by simp at h, [], rfl, List.Pairwise.nil, List.Perm.refl _, fun e h => by simp at h⟩
theorem QR.len {h : List E} {L : List A} {n : Int} (q : QR lt v no d h L n) : h.length = L.length := by
  obtain ⟨_, es, rfl, _, hp, _⟩ := q
  rw [List.length_map, hp.length_eq]
theorem QR.push (hs : Swo lt) (hv : ∀ x n, v (mk x n) = x) (hn : ∀ x n, no (mk x n) = n) {h : List E} {L : List A} {n : Int} (q : QR lt v no d h L n) (x : A) : QR lt v no d (pushS (bfE lt v no) d h (mk x n)) (L ++ [x]) (n + 1) := by
  obtain ⟨hh, es, rfl, hp, hpm, hlt⟩ := q
  refine ⟨pushS_hp (bfE_ord lt v no hs) d h _ hh, es ++ [mk x n], by simp [hv], ?_, (pushS_perm _ d h _).trans (hpm.append_right _), ?_⟩
  · refine List.pairwise_append.2 ⟨hp, by simp, fun a ha b hb => ?_⟩
    simp only [List.mem_singleton] at hb
    rw [hb, hn]
    exact hlt a ha
  · intro e he
    rcases List.mem_append.1 he with he | he
    · have := hlt e he
      omega
    · simp only [List.mem_singleton] at he
      rw [he, hn]
      omega
theorem map_erase (l : List E) : ∀ k, (l.eraseIdx k).map v = (l.map v).eraseIdx k := by
  induction l with
  | nil => intro k; simp
  | cons x l ih =>
    intro k
    cases k with
    | zero => simp
    | succ k => simp [ih]
theorem erase_perm (l : List E) : ∀ (k : Nat) (h : k < l.length), (l[k] :: l.eraseIdx k).Perm l := by
  induction l with
  | nil => intro k h; simp at h
  | cons x l ih =>
    intro k h
    cases k with
    | zero => simp
    | succ k =>
      simp only [List.getElem_cons_succ, List.eraseIdx_cons_succ]
      exact (List.Perm.swap _ _ _).trans (List.Perm.cons x (ih k (by simpa using h)))
theorem no_inj {es : List E} (hp : es.Pairwise (fun a b => no a < no b)) : ∀ x ∈ es, ∀ y ∈ es, no x = no y → x = y := by
  induction es with
  | nil => intro x hx; simp at hx
  | cons e es ih =>
    obtain ⟨h1, h2⟩ := List.pairwise_cons.1 hp
    intro x hx y hy hxy
    rcases List.mem_cons.1 hx with ex | hx2 <;> rcases List.mem_cons.1 hy with ey | hy2
    · rw [ex, ey]
    · have := h1 y hy2
      rw [ex] at hxy
      omega
    · have := h1 x hx2
      rw [ey] at hxy
      omega
    · exact ih h2 x hx2 y hy2 hxy
theorem QR.pop (hs : Swo lt) {h : List E} {L : List A} {n : Int} (q : QR lt v no d h L n) (h0 : 0 < L.length) :
    v (h.getD 0 d) = L.getD (firstI lt da L) da ∧ QR lt v no d (popS (bfE lt v no) d h) (L.eraseIdx (firstI lt da L)) n := by
  have hlen := q.len
  obtain ⟨hh, es, rfl, hp, hpm, hlt⟩ := q
  have ho := bfE_ord lt v no hs
  have hr := bfE_refl lt v no hs
  obtain ⟨f1, f2, f3⟩ := firstI_spec lt da hs (es.map v) h0
  generalize firstI lt da (es.map v) = k at *
  rw [List.length_map] at f1 hlen
  have atm : ∀ j, j < es.length → (es.map v).getD j da = v (es.getD j d) := by
    intro j hj
    rw [getD_lt da _ (by rw [List.length_map]; exact hj), getD_lt d _ hj, List.getElem_map]
  have hkm : es.getD k d ∈ es := by rw [getD_lt d _ f1]; exact List.getElem_mem _
  have least : ∀ e ∈ es, le (bfE lt v no) (es.getD k d) e := by
    intro e he
    obtain ⟨j, hj, rfl⟩ := List.mem_iff_getElem.1 he
    rw [← getD_lt d es hj]
    by_cases c : j < k
    · have := f2 j c
      rw [atm j hj, atm k f1] at this
      rw [le_iff]
      exact ⟨hs.asym _ _ this, fun _ => this⟩
    · have := f3 j (by omega) (by rw [List.length_map]; exact hj)
      rw [atm j hj, atm k f1] at this
      rw [le_iff]
      refine ⟨this, fun hx => ?_⟩
      exfalso
      by_cases ck : j = k
      · subst ck; omega
      · have := List.pairwise_iff_getElem.1 hp k j f1 hj (by omega)
        rw [getD_lt d es hj, getD_lt d es f1] at hx
        omega
  have hrm : h.getD 0 d ∈ es := hpm.mem_iff.1 (by rw [getD_lt d h (by omega)]; exact List.getElem_mem _)
  have hrl : le (bfE lt v no) (h.getD 0 d) (es.getD k d) := by
    obtain ⟨j, hj, e⟩ := List.mem_iff_getElem.1 (hpm.mem_iff.2 hkm)
    rw [← e, ← getD_lt d h hj]
    exact hp_least ho hr d h hh j hj
  have he : h.getD 0 d = es.getD k d := no_inj no hp _ hrm _ hkm (bfE_anti lt v no _ _ hrl (least _ hrm))
  refine ⟨by rw [he, atm k f1], popS_hp ho hr d h (by omega) hh, es.eraseIdx k, map_erase v es k, ?_, ?_, fun e hm => hlt e (List.mem_of_mem_eraseIdx hm)⟩
  · exact hp.sublist (List.eraseIdx_sublist _ _)
  · have h1 := (popS_perm (bfE lt v no) d h (by omega)).trans hpm
    have h2 : (es.getD k d :: es.eraseIdx k).Perm es := by rw [getD_lt d es f1]; exact erase_perm es k f1
    rw [he] at h1
    exact List.Perm.cons_inv (h1.trans h2.symm)
/-- The reference's Sort. -/
def selS : Nat → List A → List A
  | 0, _ => []
  | n + 1, L => L.getD (firstI lt da L) da :: selS n (L.eraseIdx (firstI lt da L))
theorem pops_sel (hs : Swo lt) (n : Int) : ∀ (m : Nat) (h : List E) (L : List A), L.length = m → QR lt v no d h L n → (popsS (bfE lt v no) d m h).map v = selS lt da m L := by
  intro m
  induction m with
  | zero => intro h L _ _; rfl
  | succ m ih =>
    intro h L hl q
    obtain ⟨p1, p2⟩ := q.pop lt v no d da hs (by omega)
    have hk := (firstI_spec lt da hs L (by omega)).1
    unfold popsS selS
    rw [List.map_cons, p1, ih _ _ (by rw [List.length_eraseIdx_of_lt hk]; omega) p2]
/-- The values as they came, numbered. -/
def numS : Int → List A → List E
  | _, [] => []
  | n, x :: l => mk x n :: numS (n + 1) l
theorem numS_map (hv : ∀ x n, v (mk x n) = x) : ∀ (l : List A) (n : Int), (numS mk n l).map v = l := by
  intro l
  induction l with
  | nil => intro n; rfl
  | cons x l ih => intro n; simp only [numS, List.map_cons, hv, ih]
theorem numS_ge (hn : ∀ x n, no (mk x n) = n) : ∀ (l : List A) (n : Int), ∀ e ∈ numS mk n l, n ≤ no e := by
  intro l
  induction l with
  | nil => intro n e he; simp [numS] at he
  | cons x l ih =>
    intro n e he
    rcases List.mem_cons.1 he with rfl | he
    · rw [hn]; omega
    · have := ih (n + 1) e he
      omega
theorem numS_inc (hn : ∀ x n, no (mk x n) = n) : ∀ (l : List A) (n : Int), (numS mk n l).Pairwise (fun a b => no a < no b) := by
  intro l
  induction l with
  | nil => intro n; exact List.Pairwise.nil
  | cons x l ih =>
    intro n
    refine List.pairwise_cons.2 ⟨fun e he => ?_, ih (n + 1)⟩
    have := numS_ge no mk hn l (n + 1) e he
    rw [hn]
    omega
/-- All values pushed. -/
def pushAll : List A → List E → Int → List E
  | [], h, _ => h
  | x :: l, h, n => pushAll l (pushS (bfE lt v no) d h (mk x n)) (n + 1)
theorem pushAll_snoc (x : A) : ∀ (l : List A) (h : List E) (n : Int), pushAll lt v no mk d (l ++ [x]) h n = pushS (bfE lt v no) d (pushAll lt v no mk d l h n) (mk x (n + l.length)) := by
  intro l
  induction l with
  | nil => intro h n; simp [pushAll]
  | cons y l ih =>
    intro h n
    simp only [List.cons_append, pushAll, ih, List.length_cons]
    congr 2
    omega
theorem pushAll_QR (hs : Swo lt) (hv : ∀ x n, v (mk x n) = x) (hn : ∀ x n, no (mk x n) = n) : ∀ (l : List A) (h : List E) (L : List A) (n : Int), QR lt v no d h L n → QR lt v no d (pushAll lt v no mk d l h n) (L ++ l) (n + l.length) := by
  intro l
  induction l with
  | nil => intro h L n q; simpa [pushAll] using q
  | cons x l ih =>
    intro h L n q
    have := ih _ _ _ (q.push lt v no mk d hs hv hn x)
    simp only [pushAll, List.length_cons]
    rw [List.append_assoc] at this
    rw [show n + ((l.length + 1 : Nat) : Int) = n + 1 + (l.length : Int) by omega]
    exact this
theorem pushAll_perm : ∀ (l : List A) (h : List E) (n : Int), (pushAll lt v no mk d l h n).Perm (h ++ numS mk n l) := by
  intro l
  induction l with
  | nil => intro h n; simp [pushAll, numS]
  | cons x l ih =>
    intro h n
    refine (ih _ _).trans (((pushS_perm _ d h _).append_right _).trans ?_)
    simp [numS]
/-- What leaves the heap is the sorted list. -/
theorem pops_srt (hs : Swo lt) (hv : ∀ x n, v (mk x n) = x) (hn : ∀ x n, no (mk x n) = n) (l : List A) (f : Nat) (hf : l.length ≤ f + 1) :
    popsS (bfE lt v no) d l.length (pushAll lt v no mk d l [] 0) = srt (fun x y => lt (v x) (v y)) f (numS mk 0 l) ∧ (srt (fun x y => lt (v x) (v y)) f (numS mk 0 l)).map v = srt lt f l ∧
      (srt (fun x y => lt (v x) (v y)) f (numS mk 0 l)).Pairwise (le (bfE lt v no)) ∧ (srt (fun x y => lt (v x) (v y)) f (numS mk 0 l)).Perm (numS mk 0 l) := by
  have ho := bfE_ord lt v no hs
  have hr := bfE_refl lt v no hs
  have hq := pushAll_QR lt v no mk d hs hv hn l [] [] 0 (QR.nil lt v no d 0)
  have hnl : (numS mk 0 l).length = l.length := by
    have := congrArg List.length (numS_map v mk hv l 0)
    rwa [List.length_map] at this
  have hpl : (pushAll lt v no mk d l [] 0).length = l.length := by simpa using hq.len
  have p1 := popsS_perm (bfE lt v no) d l.length _ hpl
  have p2 := pushAll_perm lt v no mk d l [] 0
  rw [List.nil_append] at p2
  have s1 := popsS_sorted ho hr d l.length _ hpl hq.1
  have s2 := srt_sorted (fun x y => lt (v x) (v y)) (le (bfE lt v no)) (fun a b => no a < no b) ho.trans (fun x y hxy => ⟨fun c => by
      rw [le_iff]
      exact ⟨hs.asym _ _ c, fun _ => c⟩, fun c => by
      rw [le_iff]
      exact ⟨c, fun z => absurd z (by omega)⟩⟩) f (numS mk 0 l) (by omega) (numS_inc no mk hn l 0)
  have p3 := srt_perm (fun x y => lt (v x) (v y)) f (numS mk 0 l)
  refine ⟨sorted_unique _ _ _ ((p1.trans p2).trans p3.symm) s1 s2 (fun x hx y hy a b => ?_), by rw [srt_map, numS_map v mk hv], s2, p3⟩
  have hx2 := (p1.trans p2).mem_iff.1 hx
  have hy2 := (p1.trans p2).mem_iff.1 hy
  exact no_inj no (numS_inc no mk hn l 0) x hx2 y hy2 (bfE_anti lt v no _ _ a b)
include d in
theorem sel_srt (hs : Swo lt) (hv : ∀ x n, v (mk x n) = x) (hn : ∀ x n, no (mk x n) = n) (l : List A) (f : Nat) (hf : l.length ≤ f + 1) : selS lt da l.length l = srt lt f l := by
  obtain ⟨h1, h2, _, _⟩ := pops_srt lt v no mk d hs hv hn l f hf
  have hq := pushAll_QR lt v no mk d hs hv hn l [] [] 0 (QR.nil lt v no d 0)
  rw [List.nil_append] at hq
  rw [← pops_sel lt v no d da hs _ l.length _ l rfl hq, h1, h2]
end
end Go.Proofs.Ytnpndjdkdcbjcaa.Pq
