/- Recover of the program and of the reference: one closed description of what they recover. Conditions: at most 100000 bytes from 0 to 255. -/
import Derived.Test.YtpcicooogiialaaDoorJS2G
import Derived.Test.YtpcicooogiialaaDoorJA1G
import Derived.Test.YtpcicooogiialaaDoorC4x0G
import Derived.Test.YtpcicooogiialaaDoorPGx6
namespace Go.Proofs.YtpcicooogiialaaDoor.Jr
open Go.RowKit Go.Proofs.YtpcicooogiialaaDoor.PG Go.Proofs.YtpcicooogiialaaDoor.Wire Go.Proofs.YtpcicooogiialaaDoor.Crc Go.Proofs.YtpcicooogiialaaDoorW.PrintWords Go.Proofs.YtpcicooogiialaaDoorW.PrintLast Go.Proofs.YtpcicooogiialaaDoorW.PrintMore
set_option linter.unusedVariables false

def evOf (t : Ev8) : S24 := ⟨t.1, t.2.1, t.2.2.1, t.2.2.2.1, t.2.2.2.2.1, t.2.2.2.2.2.1, t.2.2.2.2.2.2.1⟩
def OkE (e : S24) : Prop := Okc e.f0 e.f1 e.f2 e.f3 e.f4 e.f5 e.f6
def contE (e : S24) : List Int := contS e.f0 e.f1 e.f2 e.f3 e.f4 e.f5 e.f6
def frE (e : S24) : List Int := frameS (contE e)
def framesE (es : List S24) : List Int := es.flatMap frE
theorem framesE_nil : framesE [] = [] := rfl
theorem framesE_cons (e : S24) (es : List S24) : framesE (e :: es) = frE e ++ framesE es := by simp [framesE]
theorem framesE_append (a b : List S24) : framesE (a ++ b) = framesE a ++ framesE b := by simp [framesE]
theorem frE_len (e : S24) (h : OkE e) : 5 ≤ (frE e).length ∧ (frE e).length ≤ 500 := by
  have h1 := contS_len e.f0 e.f1 e.f2 e.f3 e.f4 e.f5 e.f6
  have h2 := h.kl
  have h3 := frameS_len (contE e)
  have h4 := enc_len ((contE e).length : Int)
  unfold frE
  unfold contE at *
  omega
theorem cont_small (e : S24) (h : OkE e) : (contE e).length ≤ 65536 := by
  have h1 := contS_len e.f0 e.f1 e.f2 e.f3 e.f4 e.f5 e.f6
  have h2 := h.kl
  unfold contE
  omega
theorem frE_bytes (e : S24) (h : OkE e) : Bytes (frE e) := frameS_bytes _ (contS_bytes h) (by have := cont_small e h; omega)
theorem framesE_bytes (es : List S24) (h : ∀ e ∈ es, OkE e) : Bytes (framesE es) := by
  induction es with
  | nil => intro x hx; simp [framesE] at hx
  | cons e es ih =>
    rw [framesE_cons]
    exact (frE_bytes e (h e (by simp))).append (ih (fun x hx => h x (List.mem_cons_of_mem _ hx)))
theorem framesE_len (es : List S24) (h : ∀ e ∈ es, OkE e) : 5 * es.length ≤ (framesE es).length ∧ (framesE es).length ≤ 500 * es.length := by
  induction es with
  | nil => simp [framesE]
  | cons e es ih =>
    have h1 := frE_len e (h e (by simp))
    have h2 := ih (fun x hx => h x (List.mem_cons_of_mem _ hx))
    rw [framesE_cons, List.length_append, List.length_cons]
    omega
def ordB (acc : List S24) (e : S24) : Bool := match acc.getLast? with
  | none => true
  | some l => decide (l.f1 ≤ e.f1)
theorem last_rd (acc : List S24) (h : 0 < acc.length) (hl : acc.length ≤ 1000000) : acc.getLast? = some (rd_T24 acc ((acc.length : Int) - 1)) := by
  rw [List.getLast?_eq_getElem?]
  unfold rd_T24
  rw [show ((acc.length : Int) - 1).toNat = acc.length - 1 by omega, List.getD_eq_getElem?_getD, List.getElem?_eq_getElem (by omega)]
  rfl
/-- What stands at a place of a journal: whether an event stands there that goes on. -/
def stepB (b : List Int) (acc : List S24) (at_ : Nat) : Bool := decide ((openS (b.drop at_)).2.2 = 0) && (decide ((getS (openS (b.drop at_)).1).2.2.2.2.2.2.2 = 0) && ordB acc (evOf (getS (openS (b.drop at_)).1)))
def stepE (b : List Int) (at_ : Nat) : S24 := evOf (getS (openS (b.drop at_)).1)
def stepN (b : List Int) (at_ : Nat) : Nat := (openS (b.drop at_)).2.1.toNat
theorem jrec_step (b : List Int) (acc : List S24) (at_ k : Nat) (hb : Bytes b) (hl : b.length ≤ 100000) (ha : at_ ≤ b.length) (hacc : acc.length ≤ 1000000) (hk : b.length + 300 ≤ k) :
    journal_Recover.l0 (k + 1) b acc (at_ : Int) = if stepB b acc at_ = true then journal_Recover.l0 k b (acc ++ [stepE b at_]) ((at_ + stepN b at_ : Nat) : Int) else some (acc, (at_ : Int)) := by
  have hdl : (b.drop at_).length = b.length - at_ := List.length_drop
  rw [journal_Recover.l0, if_pos ⟨by omega, by omega, by omega, hacc⟩, Int.toNat_natCast, open_eq (b.drop at_) (hb.drop at_) (by omega) k (by omega)]
  simp only [Option.bind_some]
  unfold stepB stepN stepE
  by_cases c : (openS (b.drop at_)).2.2 = 0
  · obtain ⟨n, h1, h2, h3, h4, h5⟩ := open_len _ (hb.drop at_) c
    rw [if_pos c, decide_eq_true c, jget_eq _ h4 (by omega) k (by omega), h1, Int.toNat_natCast]
    simp only [Option.bind_some]
    by_cases c2 : (getS (openS (b.drop at_)).1).2.2.2.2.2.2.2 = 0
    · have ho : ordB acc (evOf (getS (openS (b.drop at_)).1)) = !decide (0 < acc.length ∧ (getS (openS (b.drop at_)).1).2.1 < (rd_T24 acc ((acc.length : Int) - 1)).f1) := by
        unfold ordB
        by_cases c3 : 0 < acc.length
        · rw [last_rd acc c3 hacc]
          show decide ((rd_T24 acc ((acc.length : Int) - 1)).f1 ≤ (getS (openS (b.drop at_)).1).2.1) = _
          by_cases c4 : (getS (openS (b.drop at_)).1).2.1 < (rd_T24 acc ((acc.length : Int) - 1)).f1
          · rw [decide_eq_false (by omega), decide_eq_true ⟨c3, c4⟩]
            rfl
          · rw [decide_eq_true (by omega), decide_eq_false (fun h => c4 h.2)]
            rfl
        · rw [List.length_eq_zero_iff.1 (by omega : acc.length = 0)]
          simp
      rw [if_pos c2, decide_eq_true c2, ho]
      by_cases c3 : 0 < acc.length ∧ (getS (openS (b.drop at_)).1).2.1 < (rd_T24 acc ((acc.length : Int) - 1)).f1
      · rw [if_pos c3, decide_eq_true c3]
        rfl
      · rw [if_neg c3, decide_eq_false c3, if_pos ⟨by omega, by omega⟩, show (at_ : Int) + (n : Int) = ((at_ + n : Nat) : Int) by omega]
        rfl
    · rw [if_neg c2, decide_eq_false c2]
      rfl
  · rw [if_neg c, decide_eq_false c]
    rfl
/-- The moments do not decrease, from the last one of acc on. -/
def Chn : List S24 → List S24 → Prop
  | _, [] => True
  | acc, e :: es => ordB acc e = true ∧ Chn (acc ++ [e]) es
theorem Chn_append : ∀ (es fs acc : List S24), Chn acc (es ++ fs) ↔ Chn acc es ∧ Chn (acc ++ es) fs := by
  intro es
  induction es with
  | nil => intro fs acc; simp [Chn]
  | cons e es ih =>
    intro fs acc
    simp only [List.cons_append, Chn, ih, List.append_assoc, List.nil_append, and_assoc]
theorem step_frame (b : List Int) (acc : List S24) (at_ : Nat) (e : S24) (rest : List Int) (hd : b.drop at_ = frE e ++ rest) (h : OkE e) (ho : ordB acc e = true) : stepB b acc at_ = true ∧ stepE b at_ = e ∧ stepN b at_ = (frE e).length := by
  have h1 : openS (b.drop at_) = (contE e, ((frE e).length : Int), 0) := by rw [hd]; exact open_frame _ _ (cont_small e h)
  have h2 : getS (contE e) = (e.f0, e.f1, e.f2, e.f3, e.f4, e.f5, e.f6, 0) := getS_cont h
  unfold stepB stepE stepN
  rw [h1]
  simp only [decide_true, Bool.true_and, Int.toNat_natCast]
  rw [h2]
  exact ⟨by simpa [evOf] using ho, rfl, trivial⟩
/-- What is read at a place. -/
theorem step_read (b : List Int) (hb : Bytes b) (hl : b.length ≤ 100000) (acc : List S24) (at_ : Nat) (h : stepB b acc at_ = true) : OkE (stepE b at_) ∧ ordB acc (stepE b at_) = true ∧ stepN b at_ = (frE (stepE b at_)).length ∧ at_ + stepN b at_ ≤ b.length + (at_ - b.length) ∧ (b.drop at_).take (stepN b at_) = frE (stepE b at_) := by
  unfold stepB at h
  rw [Bool.and_eq_true, Bool.and_eq_true, decide_eq_true_eq, decide_eq_true_eq] at h
  obtain ⟨c1, c2, c3⟩ := h
  have hdl : (b.drop at_).length = b.length - at_ := List.length_drop
  obtain ⟨n, h1, h2, h3, h4⟩ := open_once _ (hb.drop at_) c1
  obtain ⟨n', e1, e2, e3, e4, e5⟩ := open_len _ (hb.drop at_) c1
  obtain ⟨a0, a1, a2, a3, a4, a5, l, g1, g2, g3⟩ := getS_once _ e4 (by omega) c2
  unfold stepE stepN
  rw [g1, h1]
  have e : frE (evOf (a0, a1, a2, a3, a4, a5, l, 0)) = (b.drop at_).take n := by
    rw [h4]
    show frameS (contS a0 a1 a2 a3 a4 a5 l) = _
    rw [g3]
  rw [e, Int.toNat_natCast, List.length_take]
  rw [g1] at c3
  exact ⟨g2, c3, by omega, by omega, rfl⟩
theorem rec_spec (b : List Int) (hb : Bytes b) (hl : b.length ≤ 100000) (d : Nat) : ∀ (at_ : Nat) (acc : List S24), b.length - at_ = d → at_ ≤ b.length → acc.length ≤ at_ → ∃ (es : List S24) (n : Nat),
    (∀ k, d + b.length + 400 ≤ k → journal_Recover.l0 k b acc (at_ : Int) = some (acc ++ es, (n : Int))) ∧
    at_ ≤ n ∧ n ≤ b.length ∧ (b.take n).drop at_ = framesE es ∧ (∀ e ∈ es, OkE e) ∧ Chn acc es := by
  induction d using Nat.strongRecOn with
  | _ d ih =>
    intro at_ acc hd ha hacc
    by_cases c : stepB b acc at_ = true
    · obtain ⟨s1, s2, s3, s4, s5⟩ := step_read b hb hl acc at_ c
      have h5 := frE_len _ s1
      obtain ⟨es, n, r1, r2, r3, r4, r5, r6⟩ := ih (b.length - (at_ + stepN b at_)) (by omega) (at_ + stepN b at_) (acc ++ [stepE b at_]) rfl (by omega) (by simp; omega)
      refine ⟨stepE b at_ :: es, n, fun k hk => ?_, by omega, r3, ?_, fun e he => ?_, ⟨s2, r6⟩⟩
      · obtain ⟨k, rfl⟩ : ∃ m, k = m + 1 := ⟨k - 1, by omega⟩
        rw [jrec_step b acc at_ k hb hl ha (by omega) (by omega), if_pos c]
        have := r1 k (by omega)
        rw [List.append_assoc] at this
        exact this
      · rw [framesE_cons, ← r4, ← s5, List.drop_take, List.drop_take, ← List.take_append_drop (stepN b at_) ((b.drop at_).take (n - at_)), List.take_take, List.drop_take, List.drop_drop]
        rw [show min (stepN b at_) (n - at_) = stepN b at_ by omega, show n - at_ - stepN b at_ = n - (at_ + stepN b at_) by omega]
      · rcases List.mem_cons.1 he with rfl | he
        · exact s1
        · exact r5 e he
    · refine ⟨[], at_, fun k hk => ?_, Nat.le_refl _, ha, ?_, fun e he => by simp at he, True.intro⟩
      · obtain ⟨k, rfl⟩ : ∃ m, k = m + 1 := ⟨k - 1, by omega⟩
        rw [jrec_step b acc at_ k hb hl ha (by omega) (by omega), if_neg c, List.append_nil]
      · rw [List.drop_take, Nat.sub_self, List.take_zero]
        rfl
theorem recover_spec (b : List Int) (hb : Bytes b) (hl : b.length ≤ 100000) : ∃ (es : List S24) (n : Nat), (∀ k, 2 * b.length + 400 ≤ k → journal_Recover.f k b = some (es, (n : Int))) ∧
    n ≤ b.length ∧ b.take n = framesE es ∧ (∀ e ∈ es, OkE e) ∧ Chn [] es := by
  obtain ⟨es, n, r1, r2, r3, r4, r5, r6⟩ := rec_spec b hb hl b.length 0 [] rfl (Nat.zero_le _) (by simp)
  refine ⟨es, n, fun k hk => ?_, r3, by simpa using r4, r5, r6⟩
  have := r1 k (by omega)
  simpa [journal_Recover.f] using this
/-- Frames that lie one behind the other are recovered one after the other. -/
theorem rec_frames (b : List Int) (hb : Bytes b) (hl : b.length ≤ 100000) : ∀ (es : List S24) (at_ : Nat) (acc : List S24) (R : List Int) (k : Nat), b.drop at_ = framesE es ++ R → at_ ≤ b.length → acc.length + es.length ≤ 1000000 → (∀ e ∈ es, OkE e) → Chn acc es → b.length + 300 ≤ k →
    journal_Recover.l0 (k + es.length) b acc (at_ : Int) = journal_Recover.l0 k b (acc ++ es) ((at_ + (framesE es).length : Nat) : Int) ∧ b.drop (at_ + (framesE es).length) = R ∧ at_ + (framesE es).length ≤ b.length := by
  intro es
  induction es with
  | nil =>
    intro at_ acc R k hd ha _ _ _ _
    rw [framesE_nil, List.nil_append] at hd
    exact ⟨by simp [framesE_nil], by simpa [framesE_nil] using hd, by simpa [framesE_nil] using ha⟩
  | cons e es ih =>
    intro at_ acc R k hd ha hn hok hc hk
    rw [framesE_cons, List.append_assoc] at hd
    obtain ⟨c1, c2⟩ := hc
    rw [List.length_cons] at hn
    obtain ⟨s1, s2, s3⟩ := step_frame b acc at_ e _ hd (hok e (by simp)) c1
    have hlen := congrArg List.length hd
    rw [List.length_drop, List.length_append] at hlen
    have hfl := frE_len e (hok e (by simp))
    have hd2 : b.drop (at_ + (frE e).length) = framesE es ++ R := by rw [← List.drop_drop, hd, List.drop_left' rfl]
    obtain ⟨i1, i2, i3⟩ := ih (at_ + (frE e).length) (acc ++ [e]) R k hd2 (by omega) (by rw [List.length_append, List.length_singleton]; omega) (fun x hx => hok x (List.mem_cons_of_mem _ hx)) c2 hk
    rw [List.length_cons, show k + (es.length + 1) = (k + es.length) + 1 by omega, jrec_step b acc at_ _ hb hl ha (by omega) (by omega), if_pos s1, s2, s3, i1, framesE_cons, List.length_append, List.append_assoc, List.singleton_append, ← Nat.add_assoc]
    exact ⟨rfl, i2, i3⟩
theorem rec_stop (b : List Int) (hb : Bytes b) (hl : b.length ≤ 100000) (acc : List S24) (at_ k : Nat) (ha : at_ ≤ b.length) (hn : acc.length ≤ 1000000) (hk : b.length + 300 ≤ k) (h : (openS (b.drop at_)).2.2 ≠ 0) : journal_Recover.l0 (k + 1) b acc (at_ : Int) = some (acc, (at_ : Int)) := by
  rw [jrec_step b acc at_ k hb hl ha hn hk, if_neg]
  unfold stepB
  rw [decide_eq_false h]
  simp
theorem open_nil : openS [] = ([], 0, 4) := by
  unfold openS
  rw [show tkI [] = (0, 0, 4) from rfl]
  rfl
/-- A journal of frames is recovered whole, whatever cannot be opened follows. -/
theorem recover_frames (es : List S24) (R : List Int) (hok : ∀ e ∈ es, OkE e) (hc : Chn [] es) (hR : Bytes R) (hl : (framesE es ++ R).length ≤ 100000) (h : (openS R).2.2 ≠ 0) (k : Nat) (hk : 2 * (framesE es ++ R).length + 400 ≤ k) : journal_Recover.f k (framesE es ++ R) = some (es, ((framesE es).length : Int)) := by
  have hb : Bytes (framesE es ++ R) := (framesE_bytes es hok).append hR
  have hfl := framesE_len es hok
  rw [List.length_append] at hl hk
  obtain ⟨m, rfl⟩ : ∃ m, k = m + 1 + es.length := ⟨k - 1 - es.length, by omega⟩
  obtain ⟨i1, i2, i3⟩ := rec_frames _ hb (by rw [List.length_append]; exact hl) es 0 [] R (m + 1) (by rw [List.drop_zero]) (Nat.zero_le _) (by simp; omega) hok hc (by rw [List.length_append]; omega)
  have hs := rec_stop _ hb (by rw [List.length_append]; exact hl) es (0 + (framesE es).length) m i3 (by omega) (by rw [List.length_append]; omega) (by rw [i2]; exact h)
  unfold journal_Recover.f
  rw [List.nil_append] at i1
  rw [show (0 : Int) = ((0 : Nat) : Int) by rfl, i1, hs, Nat.zero_add]
theorem ordB_eq (acc : List S24) (hacc : acc.length ≤ 1000000) (e : S24) : ordB acc e = !decide (0 < acc.length ∧ e.f1 < (rd_T24 acc ((acc.length : Int) - 1)).f1) := by
  unfold ordB
  by_cases c3 : 0 < acc.length
  · rw [last_rd acc c3 hacc]
    show decide ((rd_T24 acc ((acc.length : Int) - 1)).f1 ≤ e.f1) = _
    by_cases c4 : e.f1 < (rd_T24 acc ((acc.length : Int) - 1)).f1
    · rw [decide_eq_false (by omega), decide_eq_true ⟨c3, c4⟩]
      rfl
    · rw [decide_eq_true (by omega), decide_eq_false (fun h => c4 h.2)]
      rfl
  · rw [List.length_eq_zero_iff.1 (by omega : acc.length = 0)]
    simp
end Go.Proofs.YtpcicooogiialaaDoor.Jr
