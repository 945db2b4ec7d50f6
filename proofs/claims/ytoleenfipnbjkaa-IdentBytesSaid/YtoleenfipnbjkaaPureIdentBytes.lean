/- An identifier with one byte replaced is one exactly if the byte may stand there; beginnings of an identifier, and one followed by another up to MaxName bytes, are identifiers; no condition. -/
import Derived.Test.YtoleenfipnbjkaaPYx
namespace Go.Proofs.Ytoleenfipnbjkaa.Pure
open Go.RowKit Go.Proofs.Ytoleenfipnbjkaa.PY Go.Proofs.YtoleenfipnbjkaaW.PrintWords Go.Proofs.YtoleenfipnbjkaaW.PrintLast Go.Proofs.YtoleenfipnbjkaaW.PrintMore Go.Proofs.Ytoleenfipnbjkaa.Tab
set_option linter.unusedVariables false
set_option linter.unusedSimpArgs false
def hdB : List UInt8 → Bool
  | [] => false
  | b :: _ => letB (b.toNat : Int)
def vl (l : List UInt8) : Bool := decide (1 ≤ l.length ∧ l.length ≤ 32) && (hdB l && l.all (fun b => okB (b.toNat : Int)))
theorem bt_list (s : ByteArray) (i : Nat) (h : i < s.data.toList.length) : bt s (i : Int) = ((s.data.toList[i]).toNat : Int) := by
  have h' : i < s.size := by simpa using h
  unfold bt
  simp only [Int.toNat_natCast]
  rw [dif_pos h']
  rfl
theorem allB_list (s : ByteArray) (d : Nat) : ∀ i, i + d = s.size → allB s i d = (s.data.toList.drop i).all (fun b => okB (b.toNat : Int)) := by
  induction d with
  | zero =>
    intro i h
    rw [List.drop_eq_nil_of_le (by simp; omega)]
    rfl
  | succ d ih =>
    intro i h
    have hl : i < s.data.toList.length := by simp; omega
    rw [allB, ih (i + 1) (by omega), List.drop_eq_getElem_cons hl, List.all_cons, bt_list s i hl]
theorem hd_get (l : List UInt8) (h : 0 < l.length) : letB ((l[0]).toNat : Int) = hdB l := by
  cases l with
  | nil => simp at h
  | cons b t => rfl
theorem valid_list (s : ByteArray) : validB s = vl s.data.toList := by
  unfold validB vl
  rw [allB_list s s.size 0 (by omega), List.drop_zero, show s.data.toList.length = s.size by simp]
  by_cases h : 1 ≤ s.size ∧ s.size ≤ 32
  · congr 2
    have hl : 0 < s.data.toList.length := by simp; omega
    have := bt_list s 0 hl
    rw [show ((0 : Nat) : Int) = 0 from rfl] at this
    rw [this, hd_get _ hl]
  · rw [decide_eq_false h]; rfl
theorem let_ok {c : Int} (h : letB c = true) : okB c = true := by
  unfold letB at h; unfold okB
  have := of_decide_eq_true h
  exact decide_eq_true (by omega)
/-- Where a byte may stand. -/
def mayB (c : Int) (i : Nat) : Bool := if i = 0 then letB c else okB c
theorem vl_set (l : List UInt8) (b : UInt8) (i : Nat) (h : vl l = true) (hi : i < l.length) : vl (l.take i ++ b :: l.drop (i + 1)) = mayB (b.toNat : Int) i := by
  unfold vl at h ⊢
  simp only [Bool.and_eq_true] at h
  obtain ⟨h1, h2, h3⟩ := h
  have h1 := of_decide_eq_true h1
  have hlen : (l.take i ++ b :: l.drop (i + 1)).length = l.length := by simp; omega
  have ht : (l.take i).all (fun b => okB (b.toNat : Int)) = true := List.all_eq_true.2 (fun x hx => List.all_eq_true.1 h3 x (List.mem_of_mem_take hx))
  have hd : (l.drop (i + 1)).all (fun b => okB (b.toNat : Int)) = true := List.all_eq_true.2 (fun x hx => List.all_eq_true.1 h3 x (List.mem_of_mem_drop hx))
  rw [hlen, decide_eq_true h1, List.all_append, List.all_cons, ht, hd]
  simp only [Bool.true_and, Bool.and_true]
  unfold mayB
  cases i with
  | zero =>
    simp only [List.take_zero, List.nil_append, hdB, if_pos]
    cases hb : letB (b.toNat : Int) with
    | false => rfl
    | true => rw [let_ok hb]; rfl
  | succ i =>
    cases l with
    | nil => simp at hi
    | cons a t =>
      simp only [hdB] at h2
      simp [hdB, h2]
theorem vl_take (l : List UInt8) (i : Nat) (h : vl l = true) (hi : i < l.length) (h0 : 0 < i) : vl (l.take i) = true := by
  unfold vl at h ⊢
  simp only [Bool.and_eq_true] at h ⊢
  obtain ⟨h1, h2, h3⟩ := h
  have h1 := of_decide_eq_true h1
  refine ⟨decide_eq_true (by rw [List.length_take]; omega), ?_, List.all_eq_true.2 (fun x hx => List.all_eq_true.1 h3 x (List.mem_of_mem_take hx))⟩
  cases i with
  | zero => omega
  | succ i =>
    cases l with
    | nil => simp at hi
    | cons a t => simpa [hdB] using h2
theorem vl_append (l m : List UInt8) (h : vl l = true) (h' : vl m = true) : vl (l ++ m) = decide (l.length + m.length ≤ 32) := by
  unfold vl at h h' ⊢
  simp only [Bool.and_eq_true] at h h'
  obtain ⟨h1, h2, h3⟩ := h
  obtain ⟨h1', h2', h3'⟩ := h'
  have h1 := of_decide_eq_true h1
  rw [List.all_append, h3, h3']
  cases l with
  | nil => simp at h1
  | cons a t =>
    simp only [hdB] at h2
    simp only [List.cons_append, hdB, h2, Bool.and_self, Bool.and_true]
    exact decide_eq_decide.2 (by simp only [List.length_cons, List.length_append] at *; omega)
theorem vl_len {l : List UInt8} (h : vl l = true) : 1 ≤ l.length ∧ l.length ≤ 32 := by
  unfold vl at h
  simp only [Bool.and_eq_true] at h
  exact of_decide_eq_true h.1
theorem data_append (a b : ByteArray) : (a ++ b).data.toList = a.data.toList ++ b.data.toList := by simp [ByteArray.data_append]
theorem wid {n : Int} (h0 : -9223372036854775808 ≤ n) (h1 : n < 9223372036854775808) : wrap64 n = n := by unfold wrap64; omega
theorem u8_range {c : Int} (h : (Lit.int .u8 c).wf = true) : 0 ≤ c ∧ c ≤ 255 := by
  simp [Lit.wf, IntKind.min, IntKind.max, IntKind.signed, IntKind.bits] at h
  omega
theorem one_data (c : Int) : (strOfNums [c]).data.toList = [UInt8.ofNat c.toNat] := rfl
theorem size_list (s : ByteArray) : s.size = s.data.toList.length := by simp
theorem extract_data (s : ByteArray) (i j : Nat) (h : j ≤ s.size) : (s.extract i j).data.toList = (s.data.toList.take j).drop i := by
  rw [ByteArray.data_extract, Array.toList_extract, List.extract_eq_take_drop, List.drop_take]
theorem j2_true (k : Nat) (a0 a1 : ByteArray) (hv : validB a0 = true) (h1 : a1.size ≤ maxLen) : papermilllaw06_IdentBytes.j2 (k + 1) a0 a1 false = some true := by
  have hl := vl_len (valid_list a0 ▸ hv)
  have hz : a0.size = a0.data.toList.length := size_list a0
  simp only [papermilllaw06_IdentBytes.j2]
  rw [if_neg (by simp)]
  show (if validB a1 = true then _ else _) = some true
  have hle : (a0.size : Int) ≤ 32 := by omega
  unfold maxLen at h1
  cases hw : validB a1 with
  | false => rw [if_neg (by simp), if_pos hle]; rfl
  | true =>
    have hl1 := vl_len (valid_list a1 ▸ hw)
    have hz1 : a1.size = a1.data.toList.length := size_list a1
    rw [if_pos rfl, if_pos (by omega)]
    show (if (validB (a0 ++ a1) != _) = true then _ else _) = some true
    have he : validB (a0 ++ a1) = decide (wrap64 ((a0.size : Int) + (a1.size : Int)) ≤ 32) := by
      rw [valid_list, data_append, vl_append _ _ (valid_list a0 ▸ hv) (valid_list a1 ▸ hw), wid (by omega) (by omega), hz, hz1]
      exact decide_eq_decide.2 (by omega)
    rw [he, if_neg (by simp), if_pos hle]
    rfl
theorem j1_true (k : Nat) (a0 a1 : ByteArray) (c : Int) (i : Nat) (hv : validB a0 = true) (h1 : a1.size ≤ maxLen) (hc : 0 ≤ c ∧ c ≤ 255) (hi : i < a0.size) : papermilllaw06_IdentBytes.j1 (k + 2) a0 a1 c (i : Int) (mayB c i) = some true := by
  have hl := vl_len (valid_list a0 ▸ hv)
  have hz : a0.size = a0.data.toList.length := size_list a0
  have hw : wrap64 ((i : Int) + 1) = ((i + 1 : Nat) : Int) := by rw [wid (by omega) (by omega)]; omega
  have hs : (strOfNums [c]).size = 1 := by rw [size_list, one_data]; rfl
  simp only [papermilllaw06_IdentBytes.j1]
  rw [if_pos (by omega), if_pos (by omega)]
  simp only [Option.bind_some, hw, Int.toNat_natCast]
  rw [if_pos (by rw [ByteArray.size_extract, hs]; omega), if_pos (by omega), if_pos (by omega), if_pos (by rw [ByteArray.size_append, ByteArray.size_extract, ByteArray.size_extract, hs]; omega)]
  show (if (validB (a0.extract 0 i ++ strOfNums [c] ++ a0.extract (i + 1) a0.size) != _) = true then _ else _) = some true
  have hb : ((UInt8.ofNat c.toNat).toNat : Int) = c := by rw [UInt8.toNat_ofNat']; omega
  have he : validB (a0.extract 0 i ++ strOfNums [c] ++ a0.extract (i + 1) a0.size) = mayB c i := by
    rw [valid_list, data_append, data_append, extract_data _ _ _ (by omega), extract_data _ _ _ (by omega), one_data, List.drop_zero, hz, List.take_length, List.append_assoc, List.singleton_append, vl_set _ _ _ (valid_list a0 ▸ hv) (by omega), hb]
  rw [he, if_neg (by simp)]
  by_cases h0 : (i : Int) > 0
  · rw [if_pos h0]
    have ht : validB (a0.extract 0 i) = true := by
      rw [valid_list, extract_data _ _ _ (by omega), List.drop_zero]
      exact vl_take _ _ (valid_list a0 ▸ hv) (by omega) (by omega)
    show papermilllaw06_IdentBytes.j2 (k + 1) a0 a1 (!validB (a0.extract 0 i)) = some true
    rw [ht]
    exact j2_true k a0 a1 hv h1
  · rw [if_neg h0]
    exact j2_true k a0 a1 hv h1
theorem j0_true (k : Nat) (a0 a1 : ByteArray) (c : Int) (i : Nat) (hv : validB a0 = true) (h1 : a1.size ≤ maxLen) (hc : 0 ≤ c ∧ c ≤ 255) (hi : i < a0.size) : papermilllaw06_IdentBytes.j0 (k + 3) a0 a1 c (i : Int) (letB c) = some true := by
  have h := j1_true k a0 a1 c i hv h1 hc hi
  simp only [papermilllaw06_IdentBytes.j0]
  by_cases hl : letB c = true
  · rw [if_pos hl, ← h]
    congr 1
    unfold mayB
    rw [hl, let_ok hl]
    simp
  · rw [if_neg hl]
    by_cases h0 : (i : Int) > 0
    · rw [if_pos h0]
      have hm : mayB c i = okB c := if_neg (by omega)
      have hn : ¬ (97 ≤ c ∧ c ≤ 122 ∨ 65 ≤ c ∧ c ≤ 90) := fun hh => hl (decide_eq_true hh)
      rw [hm] at h
      have key : ∀ b, b = okB c → papermilllaw06_IdentBytes.j1 (k + 2) a0 a1 c (i : Int) b = some true := fun b hb => by rw [hb]; exact h
      unfold okB at key
      repeat' split
      all_goals (apply key; first | exact (decide_eq_true (by omega)).symm | (rw [Bool.eq_iff_iff]; simp only [beq_iff_eq, decide_eq_true_eq]; omega))
    · rw [if_neg h0, ← h]
      congr 1
      have : letB c = false := by simpa using hl
      rw [mayB, if_pos (by omega), this]
theorem IdentBytes : papermilllaw06_IdentBytes.Pure := by
  intro a0 a1 x c h0 h1 hx hc
  have hx := u8_range hx
  have hc := u8_range hc
  refine ⟨3, ?_⟩
  have hf : ∀ s, ident_Valid.f s = some (validB s) := fun _ => rfl
  rw [papermilllaw06_IdentBytes.f, hf, Option.bind_some]
  cases hv : validB a0 with
  | false =>
    rw [if_neg (by simp), hf, Option.bind_some, if_pos (by kernel_rfl)]
    rfl
  | true =>
    have hl := vl_len (valid_list a0 ▸ hv)
    have hz : a0.size = a0.data.toList.length := size_list a0
    obtain ⟨i, hi, hlt⟩ : ∃ i : Nat, Int.tmod (wrap64 x) (a0.size : Int) = (i : Int) ∧ i < a0.size := by
      refine ⟨(x % (a0.size : Int)).toNat, ?_, ?_⟩
      · rw [wid (by omega) (by omega), Int.tmod_eq_emod_of_nonneg hx.1, Int.toNat_of_nonneg (Int.emod_nonneg _ (by omega))]
      · have := Int.emod_lt_of_pos x (b := (a0.size : Int)) (by omega)
        have := Int.emod_nonneg x (b := (a0.size : Int)) (by omega)
        omega
    rw [if_pos rfl, if_neg (by omega), hi]
    have h := j0_true 0 a0 a1 c i hv h1 hc hlt
    have key : ∀ b, b = letB c → papermilllaw06_IdentBytes.j0 (0 + 3) a0 a1 c (i : Int) b = some true := fun b hb => by rw [hb]; exact h
    unfold letB at key
    repeat' split
    all_goals (apply key; first | exact (decide_eq_true (by omega)).symm | exact (decide_eq_false (by omega)).symm | exact decide_eq_decide.2 (by omega))
end Go.Proofs.Ytoleenfipnbjkaa.Pure
