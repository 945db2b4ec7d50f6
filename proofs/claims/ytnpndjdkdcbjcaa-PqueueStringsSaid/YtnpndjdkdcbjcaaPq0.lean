/- A heap of entries under an order that is total on them: its first entry is the least one, what is pushed and popped keeps the heap; a merge sort that takes the left one first is stable. Plain lists, no program. Conditions: as each theorem says. -/
namespace Go.Proofs.Ytnpndjdkdcbjcaa.Pq
set_option linter.unusedVariables false
variable {E : Type}

/-! ### Exchange of two elements -/
def swp (d : E) (h : List E) (i k : Nat) : List E := (h.set i (h.getD k d)).set k (h.getD i d)
theorem swp_len (d : E) (h : List E) (i k : Nat) : (swp d h i k).length = h.length := by simp [swp]
theorem getD_set (d : E) (h : List E) (i j : Nat) (v : E) (hi : i < h.length) : (h.set i v).getD j d = if j = i then v else h.getD j d := by
  rw [List.getD_eq_getElem?_getD, List.getElem?_set, List.getD_eq_getElem?_getD]
  by_cases e : i = j
  · subst e
    simp [hi]
  · rw [if_neg e, if_neg (fun x => e x.symm)]
theorem swp_at (d : E) (h : List E) (i k j : Nat) (hi : i < h.length) (hk : k < h.length) : (swp d h i k).getD j d = if j = k then h.getD i d else if j = i then h.getD k d else h.getD j d := by
  unfold swp
  rw [getD_set d _ k j _ (by simpa using hk), getD_set d h i j _ hi]
theorem getD_lt (d : E) (h : List E) {i : Nat} (hi : i < h.length) : h.getD i d = h[i] := by rw [List.getD_eq_getElem?_getD, List.getElem?_eq_getElem hi]; rfl
theorem set_perm (h : List E) : ∀ (i k : Nat) (hi : i < h.length) (hk : k < h.length), ((h.set i h[k]).set k h[i]).Perm h := by
  intro i k hi hk
  have := Array.swap_perm (xs := h.toArray) (i := i) (j := k) (by simpa using hi) (by simpa using hk)
  have h2 := this.toList
  simpa [Array.swap] using h2
theorem swp_perm (d : E) (h : List E) (i k : Nat) (hi : i < h.length) (hk : k < h.length) : (swp d h i k).Perm h := by
  have := set_perm h i k hi hk
  unfold swp
  rw [getD_lt d h hi, getD_lt d h hk]
  exact this

/-! ### The heap -/
/-- One entry does not leave behind another one. -/
def le (bf : E → E → Bool) (e f : E) : Prop := bf f e = false
structure Ord (bf : E → E → Bool) : Prop where
  trans : ∀ e f g, le bf e f → le bf f g → le bf e g
  total : ∀ e f, bf e f = true → le bf e f
def Hp (bf : E → E → Bool) (d : E) (h : List E) : Prop := ∀ j, 0 < j → j < h.length → le bf (h.getD ((j - 1) / 2) d) (h.getD j d)
def HpU (bf : E → E → Bool) (d : E) (h : List E) (i : Nat) : Prop :=
  (∀ j, 0 < j → j < h.length → j ≠ i → le bf (h.getD ((j - 1) / 2) d) (h.getD j d)) ∧
  (∀ j, 0 < j → j < h.length → (j - 1) / 2 = i → 0 < i → le bf (h.getD ((i - 1) / 2) d) (h.getD j d))
def HpD (bf : E → E → Bool) (d : E) (h : List E) (i : Nat) : Prop :=
  (∀ j, 0 < j → j < h.length → (j - 1) / 2 ≠ i → le bf (h.getD ((j - 1) / 2) d) (h.getD j d)) ∧
  (∀ j, 0 < j → j < h.length → (j - 1) / 2 = i → 0 < i → le bf (h.getD ((i - 1) / 2) d) (h.getD j d))
/-- Push's loop: f rounds at the most. -/
def upS (bf : E → E → Bool) (d : E) : Nat → List E → Nat → List E
  | 0, h, _ => h
  | f + 1, h, i => if 0 < i then (if bf (h.getD i d) (h.getD ((i - 1) / 2) d) = true then upS bf d f (swp d h i ((i - 1) / 2)) ((i - 1) / 2) else h) else h
theorem hpU_step {bf : E → E → Bool} (ho : Ord bf) (d : E) (h : List E) (i : Nat) (hi : i < h.length) (h0 : 0 < i) (hb : bf (h.getD i d) (h.getD ((i - 1) / 2) d) = true) (hu : HpU bf d h i) :
    HpU bf d (swp d h i ((i - 1) / 2)) ((i - 1) / 2) := by
  obtain ⟨u1, u2⟩ := hu
  generalize hp : (i - 1) / 2 = p at *
  have hpl : p < i := by omega
  have at_ := fun j => swp_at d h i p j hi (by omega)
  refine ⟨fun j j0 jl jp => ?_, fun j j0 jl jp p0 => ?_⟩
  · rw [swp_len] at jl
    rw [at_, at_ j, if_neg jp]
    by_cases ji : j = i
    · subst ji
      rw [if_pos hp, if_pos rfl]
      exact ho.total _ _ hb
    · rw [if_neg ji]
      by_cases c1 : (j - 1) / 2 = p
      · rw [if_pos c1]
        exact ho.trans _ _ _ (ho.total _ _ hb) (c1 ▸ u1 j j0 jl ji)
      · rw [if_neg c1]
        by_cases c2 : (j - 1) / 2 = i
        · rw [if_pos c2]
          exact u2 j j0 jl c2 h0
        · rw [if_neg c2]
          exact u1 j j0 jl ji
  · rw [swp_len] at jl
    have hg := u1 p p0 (by omega) (by omega)
    rw [at_, at_ j, if_neg (by omega), if_neg (by omega), if_neg (by omega)]
    by_cases ji : j = i
    · rw [if_pos ji]
      exact hg
    · rw [if_neg ji]
      exact ho.trans _ _ _ hg (jp ▸ u1 j j0 jl ji)
theorem upS_spec {bf : E → E → Bool} (ho : Ord bf) (d : E) : ∀ (f : Nat) (h : List E) (i : Nat), i < h.length → i < f → HpU bf d h i → Hp bf d (upS bf d f h i) := by
  intro f
  induction f with
  | zero => intro h i _ hf; omega
  | succ f ih =>
    intro h i hi hf hu
    unfold upS
    by_cases h0 : 0 < i
    · rw [if_pos h0]
      by_cases hb : bf (h.getD i d) (h.getD ((i - 1) / 2) d) = true
      · rw [if_pos hb]
        exact ih _ _ (by rw [swp_len]; omega) (by omega) (hpU_step ho d h i hi h0 hb hu)
      · rw [if_neg hb]
        intro j j0 jl
        by_cases ji : j = i
        · subst ji
          exact Bool.eq_false_iff.2 hb
        · exact hu.1 j j0 jl ji
    · rw [if_neg h0]
      intro j j0 jl
      exact hu.1 j j0 jl (by omega)
theorem upS_perm (bf : E → E → Bool) (d : E) : ∀ (f : Nat) (h : List E) (i : Nat), i < h.length → (upS bf d f h i).Perm h := by
  intro f
  induction f with
  | zero => intro h i _; exact List.Perm.refl _
  | succ f ih =>
    intro h i hi
    unfold upS
    split
    · split
      · exact (ih _ _ (by rw [swp_len]; omega)).trans (swp_perm d h i _ hi (by omega))
      · exact List.Perm.refl _
    · exact List.Perm.refl _
theorem upS_len (bf : E → E → Bool) (d : E) (f : Nat) (h : List E) (i : Nat) (hi : i < h.length) : (upS bf d f h i).length = h.length := (upS_perm bf d f h i hi).length_eq
def pushS (bf : E → E → Bool) (d : E) (h : List E) (e : E) : List E := upS bf d (h.length + 1) (h ++ [e]) h.length
theorem pushS_perm (bf : E → E → Bool) (d : E) (h : List E) (e : E) : (pushS bf d h e).Perm (h ++ [e]) := upS_perm bf d _ _ _ (by simp)
theorem pushS_hp {bf : E → E → Bool} (ho : Ord bf) (d : E) (h : List E) (e : E) (hh : Hp bf d h) : Hp bf d (pushS bf d h e) := by
  refine upS_spec ho d _ _ _ (by simp) (by omega) ⟨fun j j0 jl ji => ?_, fun j j0 jl jp i0 => ?_⟩
  · have jl' : j < h.length := by simp at jl; omega
    have := hh j j0 jl'
    simpa [List.getD_eq_getElem?_getD, List.getElem?_append_left jl', List.getElem?_append_left (show (j - 1) / 2 < h.length by omega)] using this
  · simp at jl
    omega
theorem hp_least {bf : E → E → Bool} (ho : Ord bf) (hr : ∀ e, le bf e e) (d : E) (h : List E) (hh : Hp bf d h) : ∀ j, j < h.length → le bf (h.getD 0 d) (h.getD j d) := by
  intro j
  induction j using Nat.strongRecOn with
  | _ j ih =>
    intro hj
    by_cases h0 : j = 0
    · subst h0
      exact hr _
    · exact ho.trans _ _ _ (ih ((j - 1) / 2) (by omega) (by omega)) (hh j (by omega) hj)
/-- The lesser one of two entries of which the second one may be missing. -/
def pick (bf : E → E → Bool) (d : E) (h : List E) (k first : Nat) : Nat := if k < h.length then (if bf (h.getD k d) (h.getD first d) = true then k else first) else first
def firstS (bf : E → E → Bool) (d : E) (h : List E) (i : Nat) : Nat := pick bf d h (2 * i + 2) (pick bf d h (2 * i + 1) i)
/-- sink's loop. -/
def sinkS (bf : E → E → Bool) (d : E) : Nat → List E → Nat → List E
  | 0, h, _ => h
  | f + 1, h, i => if firstS bf d h i = i then h else sinkS bf d f (swp d h i (firstS bf d h i)) (firstS bf d h i)
theorem pick_cases (bf : E → E → Bool) (d : E) (h : List E) (k first : Nat) : (pick bf d h k first = k ∧ k < h.length ∧ bf (h.getD k d) (h.getD first d) = true) ∨ (pick bf d h k first = first ∧ (k < h.length → bf (h.getD k d) (h.getD first d) = false)) := by
  unfold pick
  split
  · split
    · exact .inl ⟨rfl, by assumption, by assumption⟩
    · exact .inr ⟨rfl, fun _ => Bool.eq_false_iff.2 (by assumption)⟩
  · exact .inr ⟨rfl, fun x => absurd x (by assumption)⟩
theorem firstS_range (bf : E → E → Bool) (d : E) (h : List E) (i : Nat) (hi : i < h.length) : firstS bf d h i = i ∨ (i < firstS bf d h i ∧ firstS bf d h i < h.length ∧ (firstS bf d h i - 1) / 2 = i) := by
  unfold firstS
  rcases pick_cases bf d h (2 * i + 1) i with ⟨e1, l1, _⟩ | ⟨e1, _⟩ <;> rw [e1]
  · rcases pick_cases bf d h (2 * i + 2) (2 * i + 1) with ⟨e2, l2, _⟩ | ⟨e2, _⟩ <;> rw [e2] <;> omega
  · rcases pick_cases bf d h (2 * i + 2) i with ⟨e2, l2, _⟩ | ⟨e2, _⟩ <;> rw [e2] <;> omega
/-- The first one of an entry and its two followers is the least one. -/
theorem firstS_least {bf : E → E → Bool} (ho : Ord bf) (d : E) (h : List E) (i : Nat) (hr : ∀ e, le bf e e) :
    le bf (h.getD (firstS bf d h i) d) (h.getD i d) ∧ ∀ j, 0 < j → j < h.length → (j - 1) / 2 = i → le bf (h.getD (firstS bf d h i) d) (h.getD j d) := by
  have key : ∀ a b : Nat, le bf (h.getD a d) (h.getD i d) → (2 * i + 1 < h.length → le bf (h.getD a d) (h.getD (2 * i + 1) d)) → (2 * i + 2 < h.length → le bf (h.getD a d) (h.getD (2 * i + 2) d)) →
      le bf (h.getD a d) (h.getD i d) ∧ ∀ j, 0 < j → j < h.length → (j - 1) / 2 = i → le bf (h.getD a d) (h.getD j d) := by
    intro a b h1 h2 h3
    refine ⟨h1, fun j j0 jl jp => ?_⟩
    rcases (by omega : j = 2 * i + 1 ∨ j = 2 * i + 2) with rfl | rfl
    · exact h2 jl
    · exact h3 jl
  unfold firstS
  rcases pick_cases bf d h (2 * i + 1) i with ⟨e1, l1, b1⟩ | ⟨e1, b1⟩ <;> rw [e1]
  · rcases pick_cases bf d h (2 * i + 2) (2 * i + 1) with ⟨e2, l2, b2⟩ | ⟨e2, b2⟩ <;> rw [e2]
    · exact key _ 0 (ho.trans _ _ _ (ho.total _ _ b2) (ho.total _ _ b1)) (fun _ => ho.total _ _ b2) (fun _ => hr _)
    · exact key _ 0 (ho.total _ _ b1) (fun _ => hr _) b2
  · rcases pick_cases bf d h (2 * i + 2) i with ⟨e2, l2, b2⟩ | ⟨e2, b2⟩ <;> rw [e2]
    · exact key _ 0 (ho.total _ _ b2) (fun l => ho.trans _ _ _ (ho.total _ _ b2) (b1 l)) (fun _ => hr _)
    · exact key _ 0 (hr _) b1 b2
theorem hpD_step {bf : E → E → Bool} (ho : Ord bf) (hr : ∀ e, le bf e e) (d : E) (h : List E) (i : Nat) (hi : i < h.length) (hne : firstS bf d h i ≠ i) (hd : HpD bf d h i) :
    HpD bf d (swp d h i (firstS bf d h i)) (firstS bf d h i) := by
  obtain ⟨u1, u2⟩ := hd
  obtain ⟨l1, l2⟩ := firstS_least ho d h i hr
  have hf := (firstS_range bf d h i hi).resolve_left hne
  generalize firstS bf d h i = p at *
  obtain ⟨hip, hpl, hpp⟩ := hf
  have at_ := fun j => swp_at d h i p j hi hpl
  refine ⟨fun j j0 jl jp => ?_, fun j j0 jl jp p0 => ?_⟩
  · rw [swp_len] at jl
    rw [at_, at_ j, if_neg jp]
    by_cases c1 : (j - 1) / 2 = i
    · rw [if_pos c1]
      by_cases c2 : j = p
      · rw [if_pos c2]
        exact l1
      · rw [if_neg c2, if_neg (by omega)]
        exact l2 j j0 jl c1
    · rw [if_neg c1, if_neg (by omega)]
      by_cases c2 : j = i
      · subst c2
        rw [if_pos rfl]
        exact u2 p (by omega) hpl hpp j0
      · rw [if_neg c2]
        exact u1 j j0 jl c1
  · rw [swp_len] at jl
    rw [at_, at_ j, if_neg (by omega), if_pos hpp, if_neg (by omega), if_neg (by omega)]
    have := u1 j j0 jl (by omega)
    rw [jp] at this
    exact this
theorem sinkS_spec {bf : E → E → Bool} (ho : Ord bf) (hr : ∀ e, le bf e e) (d : E) : ∀ (f : Nat) (h : List E) (i : Nat), i < h.length → h.length ≤ f + i → HpD bf d h i → Hp bf d (sinkS bf d f h i) := by
  intro f
  induction f with
  | zero => intro h i hi hf; omega
  | succ f ih =>
    intro h i hi hf hd
    unfold sinkS
    by_cases he : firstS bf d h i = i
    · rw [if_pos he]
      obtain ⟨l1, l2⟩ := firstS_least ho d h i hr
      rw [he] at l2
      intro j j0 jl
      by_cases c : (j - 1) / 2 = i
      · rw [c]
        exact l2 j j0 jl c
      · exact hd.1 j j0 jl c
    · rw [if_neg he]
      have hr2 := (firstS_range bf d h i hi).resolve_left he
      exact ih _ _ (by rw [swp_len]; exact hr2.2.1) (by rw [swp_len]; omega) (hpD_step ho hr d h i hi he hd)
theorem sinkS_perm (bf : E → E → Bool) (d : E) : ∀ (f : Nat) (h : List E) (i : Nat), i < h.length → (sinkS bf d f h i).Perm h := by
  intro f
  induction f with
  | zero => intro h i _; exact List.Perm.refl _
  | succ f ih =>
    intro h i hi
    unfold sinkS
    split
    · exact List.Perm.refl _
    · rename_i he
      have hr2 := (firstS_range bf d h i hi).resolve_left he
      exact (ih _ _ (by rw [swp_len]; exact hr2.2.1)).trans (swp_perm d h i _ hi hr2.2.1)
/-- What Pop leaves. -/
def popS (bf : E → E → Bool) (d : E) (h : List E) : List E := sinkS bf d (h.length - 1) ((swp d h 0 (h.length - 1)).take (h.length - 1)) 0
theorem sinkS_nil (bf : E → E → Bool) (d : E) (f : Nat) : sinkS bf d f [] 0 = [] := by
  cases f with
  | zero => rfl
  | succ f => rfl
theorem take_swp (d : E) (h : List E) (h0 : 0 < h.length) : ∃ t, h.getD 0 d :: t = h.getD 0 d :: t ∧ (h.getD 0 d :: (swp d h 0 (h.length - 1)).take (h.length - 1)).Perm h := by
  refine ⟨[], rfl, ?_⟩
  have hl := swp_len d h 0 (h.length - 1)
  have hp := swp_perm d h 0 (h.length - 1) h0 (by omega)
  have e : swp d h 0 (h.length - 1) = (swp d h 0 (h.length - 1)).take (h.length - 1) ++ [h.getD 0 d] := by
    have h1 : (swp d h 0 (h.length - 1)).getD (h.length - 1) d = h.getD 0 d := by rw [swp_at d h 0 _ _ h0 (by omega), if_pos rfl]
    rw [getD_lt d _ (by omega)] at h1
    have h2 := List.take_append_getElem (l := swp d h 0 (h.length - 1)) (i := h.length - 1) (by omega)
    rw [h1] at h2
    rw [h2, List.take_of_length_le (by omega)]
  refine List.Perm.trans ?_ hp
  conv => rhs; rw [e]
  exact (List.perm_append_comm (l₁ := [h.getD 0 d]))
theorem popS_perm (bf : E → E → Bool) (d : E) (h : List E) (h0 : 0 < h.length) : (h.getD 0 d :: popS bf d h).Perm h := by
  obtain ⟨_, _, hp⟩ := take_swp d h h0
  refine List.Perm.trans (List.Perm.cons _ ?_) hp
  unfold popS
  by_cases h1 : h.length - 1 = 0
  · rw [h1, List.take_zero, sinkS_nil]
  · exact sinkS_perm bf d _ _ _ (by rw [List.length_take, swp_len]; omega)
theorem popS_hp {bf : E → E → Bool} (ho : Ord bf) (hr : ∀ e, le bf e e) (d : E) (h : List E) (h0 : 0 < h.length) (hh : Hp bf d h) : Hp bf d (popS bf d h) := by
  unfold popS
  by_cases h1 : h.length - 1 = 0
  · rw [h1, List.take_zero, sinkS_nil]
    intro j j0 jl
    simp at jl
  · have hl : ((swp d h 0 (h.length - 1)).take (h.length - 1)).length = h.length - 1 := by rw [List.length_take, swp_len]; omega
    have at_ : ∀ j, j < h.length - 1 → 0 < j → ((swp d h 0 (h.length - 1)).take (h.length - 1)).getD j d = h.getD j d := by
      intro j hj j0
      rw [List.getD_eq_getElem?_getD, List.getElem?_take, if_pos hj, ← List.getD_eq_getElem?_getD, swp_at d h 0 _ _ h0 (by omega), if_neg (by omega), if_neg (by omega)]
    refine sinkS_spec ho hr d _ _ 0 (by omega) (by omega) ⟨fun j j0 jl jp => ?_, fun j _ _ _ hx => absurd hx (Nat.lt_irrefl _)⟩
    rw [hl] at jl
    rw [at_ j jl j0, at_ _ (by omega) (by omega)]
    exact hh j j0 (by omega)
theorem popS_len (bf : E → E → Bool) (d : E) (h : List E) (h0 : 0 < h.length) : (popS bf d h).length = h.length - 1 := by
  have := (popS_perm bf d h h0).length_eq
  simp at this
  omega

/-! ### Lists in order -/
/-- A list in order is the only one that has its elements. -/
theorem sorted_unique (r : E → E → Prop) : ∀ (a b : List E), a.Perm b → a.Pairwise r → b.Pairwise r → (∀ x ∈ a, ∀ y ∈ a, r x y → r y x → x = y) → a = b := by
  intro a
  induction a with
  | nil => intro b hp _ _ _; exact (List.Perm.nil_eq hp)
  | cons x a ih =>
    intro b hp ha hb hu
    cases b with
    | nil => exact absurd hp.length_eq (by simp)
    | cons y b =>
      have hxy : x = y := by
        have hx : x ∈ y :: b := hp.mem_iff.1 (by simp)
        have hy : y ∈ x :: a := hp.mem_iff.2 (by simp)
        rcases List.mem_cons.1 hx with e | hx
        · exact e
        rcases List.mem_cons.1 hy with e | hy
        · exact e.symm
        exact hu x (by simp) y (List.mem_cons_of_mem _ hy) ((List.pairwise_cons.1 ha).1 y hy) ((List.pairwise_cons.1 hb).1 x hx)
      subst hxy
      rw [ih b (List.Perm.cons_inv hp) (List.pairwise_cons.1 ha).2 (List.pairwise_cons.1 hb).2 (fun p hp' q hq => hu p (List.mem_cons_of_mem _ hp') q (List.mem_cons_of_mem _ hq))]
/-- All entries, popped one after the other. -/
def popsS (bf : E → E → Bool) (d : E) : Nat → List E → List E
  | 0, _ => []
  | n + 1, h => h.getD 0 d :: popsS bf d n (popS bf d h)
theorem popsS_perm (bf : E → E → Bool) (d : E) : ∀ (n : Nat) (h : List E), h.length = n → (popsS bf d n h).Perm h := by
  intro n
  induction n with
  | zero => intro h hl; rw [List.length_eq_zero_iff.1 hl]; exact List.Perm.refl _
  | succ n ih =>
    intro h hl
    have := popS_len bf d h (by omega)
    exact (List.Perm.cons _ (ih _ (by omega))).trans (popS_perm bf d h (by omega))
theorem popsS_sorted {bf : E → E → Bool} (ho : Ord bf) (hr : ∀ e, le bf e e) (d : E) : ∀ (n : Nat) (h : List E), h.length = n → Hp bf d h → (popsS bf d n h).Pairwise (le bf) := by
  intro n
  induction n with
  | zero => intro h _ _; exact List.Pairwise.nil
  | succ n ih =>
    intro h hl hh
    have hl2 := popS_len bf d h (by omega)
    refine List.pairwise_cons.2 ⟨fun x hx => ?_, ih _ (by omega) (popS_hp ho hr d h (by omega) hh)⟩
    have hx2 : x ∈ h := (popS_perm bf d h (by omega)).mem_iff.1 (List.mem_cons_of_mem _ ((popsS_perm bf d n _ (by omega)).mem_iff.1 hx))
    obtain ⟨j, hj, rfl⟩ := List.mem_iff_getElem.1 hx2
    have := hp_least ho hr d h hh j hj
    rw [getD_lt d h hj] at this
    exact this

/-! ### Merge sort -/
def mrg (lt : E → E → Bool) : List E → List E → List E
  | [], b => b
  | a, [] => a
  | x :: a, y :: b => if lt y x = true then y :: mrg lt (x :: a) b else x :: mrg lt a (y :: b)
termination_by a b => a.length + b.length
theorem mrg_nil (lt : E → E → Bool) (a : List E) : mrg lt a [] = a := by cases a <;> simp [mrg]
theorem mrg_perm (lt : E → E → Bool) : ∀ (n : Nat) (a b : List E), a.length + b.length = n → (mrg lt a b).Perm (a ++ b) := by
  intro n
  induction n with
  | zero =>
    intro a b h
    rw [List.length_eq_zero_iff.1 (by omega : a.length = 0), List.length_eq_zero_iff.1 (by omega : b.length = 0)]
    simp [mrg]
  | succ n ih =>
    intro a b h
    cases a with
    | nil => simp [mrg]
    | cons x a =>
      cases b with
      | nil => simp [mrg]
      | cons y b =>
        rw [mrg]
        simp only [List.length_cons] at h
        split
        · exact (List.Perm.cons y (ih (x :: a) b (by simp; omega))).trans (List.perm_middle (l₁ := x :: a)).symm
        · exact List.Perm.cons x (ih a (y :: b) (by simp; omega))
theorem mrg_len (lt : E → E → Bool) (a b : List E) : (mrg lt a b).length = a.length + b.length := by rw [(mrg_perm lt _ a b rfl).length_eq, List.length_append]
/-- The left list's elements come first among equal ones: r x y for x of the left list and y of the right one where not lt y x. -/
theorem mrg_sorted (lt : E → E → Bool) (r : E → E → Prop) (tr : ∀ x y z, r x y → r y z → r x z) : ∀ (n : Nat) (a b : List E), a.length + b.length = n → a.Pairwise r → b.Pairwise r → (∀ x ∈ a, ∀ y ∈ b, (lt y x = true → r y x) ∧ (lt y x = false → r x y)) → (mrg lt a b).Pairwise r := by
  intro n
  induction n with
  | zero =>
    intro a b h _ _ _
    rw [List.length_eq_zero_iff.1 (by omega : a.length = 0), List.length_eq_zero_iff.1 (by omega : b.length = 0)]
    simp [mrg]
  | succ n ih =>
    intro a b h ha hb hc
    cases a with
    | nil => simpa [mrg] using hb
    | cons x a =>
      cases b with
      | nil => simpa [mrg] using ha
      | cons y b =>
        rw [mrg]
        simp only [List.length_cons] at h
        obtain ⟨a1, a2⟩ := List.pairwise_cons.1 ha
        obtain ⟨b1, b2⟩ := List.pairwise_cons.1 hb
        split
        · rename_i ht
          have hyx := (hc x (by simp) y (by simp)).1 ht
          refine List.pairwise_cons.2 ⟨fun z hz => ?_, ih (x :: a) b (by simp; omega) ha b2 (fun p hp q hq => hc p hp q (List.mem_cons_of_mem _ hq))⟩
          rcases List.mem_append.1 ((mrg_perm lt _ _ _ rfl).mem_iff.1 hz) with hz | hz
          · rcases List.mem_cons.1 hz with rfl | hz
            · exact hyx
            · exact tr _ _ _ hyx (a1 z hz)
          · exact b1 z hz
        · rename_i ht
          have hxy := (hc x (by simp) y (by simp)).2 (Bool.eq_false_iff.2 ht)
          refine List.pairwise_cons.2 ⟨fun z hz => ?_, ih a (y :: b) (by simp; omega) a2 hb (fun p hp q hq => hc p (List.mem_cons_of_mem _ hp) q hq)⟩
          rcases List.mem_append.1 ((mrg_perm lt _ _ _ rfl).mem_iff.1 hz) with hz | hz
          · exact a1 z hz
          · rcases List.mem_cons.1 hz with rfl | hz
            · exact hxy
            · exact tr _ _ _ hxy (b1 z hz)
theorem mrg_map {A : Type} (v : E → A) (lt : A → A → Bool) : ∀ (n : Nat) (a b : List E), a.length + b.length = n → (mrg (fun x y => lt (v x) (v y)) a b).map v = mrg lt (a.map v) (b.map v) := by
  intro n
  induction n with
  | zero =>
    intro a b h
    rw [List.length_eq_zero_iff.1 (by omega : a.length = 0), List.length_eq_zero_iff.1 (by omega : b.length = 0)]
    simp [mrg]
  | succ n ih =>
    intro a b h
    cases a with
    | nil => simp [mrg]
    | cons x a =>
      cases b with
      | nil => simp [mrg]
      | cons y b =>
        simp only [List.length_cons] at h
        rw [mrg, List.map_cons, List.map_cons, mrg]
        split
        · rw [List.map_cons, ih (x :: a) b (by simp; omega), List.map_cons]
        · rw [List.map_cons, ih a (y :: b) (by simp; omega), List.map_cons]
/-- Sort: f halvings at the most. -/
def srt (lt : E → E → Bool) : Nat → List E → List E
  | 0, l => l
  | f + 1, l => if l.length < 2 then l else mrg lt (srt lt f (l.take (l.length / 2))) (srt lt f (l.drop (l.length / 2)))
theorem srt_perm (lt : E → E → Bool) : ∀ (f : Nat) (l : List E), (srt lt f l).Perm l := by
  intro f
  induction f with
  | zero => intro l; exact List.Perm.refl _
  | succ f ih =>
    intro l
    unfold srt
    split
    · exact List.Perm.refl _
    · refine (mrg_perm lt _ _ _ rfl).trans (((ih _).append (ih _)).trans ?_)
      rw [List.take_append_drop]
theorem srt_len (lt : E → E → Bool) (f : Nat) (l : List E) : (srt lt f l).length = l.length := (srt_perm lt f l).length_eq
theorem srt_more (lt : E → E → Bool) : ∀ (f : Nat) (l : List E), l.length ≤ f + 1 → ∀ g, l.length ≤ g + 1 → srt lt f l = srt lt g l := by
  intro f
  induction f with
  | zero =>
    intro l hl g hg
    cases g with
    | zero => rfl
    | succ g => unfold srt; rw [if_pos (by omega)]
  | succ f ih =>
    intro l hl g hg
    cases g with
    | zero => unfold srt; rw [if_pos (by omega)]
    | succ g =>
      unfold srt
      split
      · rfl
      · rw [ih (l.take (l.length / 2)) (by rw [List.length_take]; omega) g (by rw [List.length_take]; omega), ih (l.drop (l.length / 2)) (by rw [List.length_drop]; omega) g (by rw [List.length_drop]; omega)]
theorem srt_map {A : Type} (v : E → A) (lt : A → A → Bool) : ∀ (f : Nat) (l : List E), (srt (fun x y => lt (v x) (v y)) f l).map v = srt lt f (l.map v) := by
  intro f
  induction f with
  | zero => intro l; rfl
  | succ f ih =>
    intro l
    unfold srt
    rw [List.length_map]
    split
    · rfl
    · rw [mrg_map v lt _ _ _ rfl, ih, ih, List.map_take, List.map_drop]
theorem srt_sorted (lt : E → E → Bool) (r n : E → E → Prop) (tr : ∀ x y z, r x y → r y z → r x z) (hc : ∀ x y, n x y → (lt y x = true → r y x) ∧ (lt y x = false → r x y)) :
    ∀ (f : Nat) (l : List E), l.length ≤ f + 1 → l.Pairwise n → (srt lt f l).Pairwise r := by
  intro f
  induction f with
  | zero =>
    intro l hl _
    match l, hl with
    | [], _ => exact List.Pairwise.nil
    | [x], _ => exact List.pairwise_cons.2 ⟨fun y hy => (by simp at hy), List.Pairwise.nil⟩
  | succ f ih =>
    intro l hl hn
    unfold srt
    split
    · rename_i h2
      match l, h2 with
      | [], _ => exact List.Pairwise.nil
      | [x], _ => exact List.pairwise_cons.2 ⟨fun y hy => (by simp at hy), List.Pairwise.nil⟩
      | _ :: _ :: _, h2 => exact absurd h2 (by simp)
    · have hs : (l.take (l.length / 2) ++ l.drop (l.length / 2)).Pairwise n := by rw [List.take_append_drop]; exact hn
      obtain ⟨s1, s2, s3⟩ := List.pairwise_append.1 hs
      refine mrg_sorted lt r tr _ _ _ rfl (ih _ (by rw [List.length_take]; omega) s1) (ih _ (by rw [List.length_drop]; omega) s2) (fun x hx y hy => hc x y ?_)
      exact s3 x ((srt_perm lt f _).mem_iff.1 hx) y ((srt_perm lt f _).mem_iff.1 hy)

/-! ### Entries: a value and its number -/
structure Swo {A : Type} (lt : A → A → Bool) : Prop where
  asym : ∀ a b, lt a b = true → lt b a = false
  ntr : ∀ a b c, lt a b = false → lt b c = false → lt a c = false
section
variable {A : Type} (lt : A → A → Bool) (v : E → A) (no : E → Int)
def bfE (e f : E) : Bool := lt (v e) (v f) || (decide (no e < no f) && !lt (v f) (v e))
theorem le_iff (e f : E) : le (bfE lt v no) e f ↔ lt (v f) (v e) = false ∧ (no f < no e → lt (v e) (v f) = true) := by
  unfold le bfE
  cases lt (v f) (v e) <;> cases lt (v e) (v f) <;> simp
theorem bfE_ord (h : Swo lt) : Ord (bfE lt v no) := by
  refine ⟨fun e f g h1 h2 => ?_, fun e f hb => ?_⟩
  · rw [le_iff] at h1 h2 ⊢
    refine ⟨h.ntr _ _ _ h2.1 h1.1, fun hg => ?_⟩
    cases hc : lt (v e) (v g) with
    | true => rfl
    | false =>
      by_cases c : no g < no f
      · rw [h.ntr _ _ _ h1.1 hc] at h2
        exact absurd (h2.2 c) (by simp)
      · have := h1.2 (by omega)
        rw [h.ntr _ _ _ hc h2.1] at this
        cases this
  · rw [le_iff]
    unfold bfE at hb
    cases h1 : lt (v e) (v f) with
    | true => exact ⟨h.asym _ _ h1, fun _ => rfl⟩
    | false =>
      rw [h1] at hb
      simp at hb
      exact ⟨hb.2, fun x => absurd x (by omega)⟩
theorem bfE_refl (h : Swo lt) (e : E) : le (bfE lt v no) e e := by
  rw [le_iff]
  refine ⟨?_, fun x => absurd x (by omega)⟩
  cases h1 : lt (v e) (v e) with
  | true => exact absurd (h.asym _ _ h1) (by rw [h1]; simp)
  | false => rfl
theorem bfE_anti (e f : E) (h1 : le (bfE lt v no) e f) (h2 : le (bfE lt v no) f e) : no e = no f := by
  rw [le_iff] at h1 h2
  rcases Int.lt_trichotomy (no e) (no f) with h | h | h
  · have := h2.2 h
    rw [h1.1] at this
    cases this
  · exact h
  · have := h1.2 h
    rw [h2.1] at this
    cases this
end
end Go.Proofs.Ytnpndjdkdcbjcaa.Pq
