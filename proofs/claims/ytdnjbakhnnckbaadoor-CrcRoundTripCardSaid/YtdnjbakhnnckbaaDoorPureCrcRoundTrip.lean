/- Open of a frame, whatever follows it, returns its content and its length; what can be opened is a frame; All of frames, one after the other, returns their contents. Conditions: none. -/
import Derived.Test.YtdnjbakhnnckbaaDoorC4x0
import Derived.Test.YtdnjbakhnnckbaaDoorPXx13
namespace Go.Proofs.YtdnjbakhnnckbaaDoor.Pure
open Go.RowKit Go.Proofs.YtdnjbakhnnckbaaDoor.PX Go.Proofs.YtdnjbakhnnckbaaDoor.Wire Go.Proofs.YtdnjbakhnnckbaaDoor.Crc Go.Proofs.YtdnjbakhnnckbaaDoorW.PrintWords Go.Proofs.YtdnjbakhnnckbaaDoorW.PrintLast
set_option linter.unusedVariables false
def framesS (ls : List (List Int)) : List Int := ls.flatMap frameS
theorem framesS_cons (l : List Int) (ls : List (List Int)) : framesS (l :: ls) = frameS l ++ framesS ls := by simp [framesS]
def Okl (ls : List (List Int)) : Prop := ∀ l ∈ ls, Bytes l ∧ l.length ≤ 600
theorem framesS_len (ls : List (List Int)) (h : Okl ls) : (framesS ls).length ≤ 614 * ls.length := by
  induction ls with
  | nil => simp [framesS]
  | cons l ls ih =>
    have h1 := (h l (by simp)).2
    have h2 := ih (fun x hx => h x (List.mem_cons_of_mem _ hx))
    have h3 := frameS_len l
    have h4 := enc_len (l.length : Int)
    rw [framesS_cons, List.length_append, List.length_cons]
    omega
theorem framesS_bytes (ls : List (List Int)) (h : Okl ls) : Bytes (framesS ls) := by
  induction ls with
  | nil => intro x hx; simp [framesS] at hx
  | cons l ls ih =>
    rw [framesS_cons]
    obtain ⟨h1, h2⟩ := h l (by simp)
    exact (frameS_bytes l h1 (by omega)).append (ih (fun x hx => h x (List.mem_cons_of_mem _ hx)))
theorem open_nil : openS [] = ([], 0, 4) := by
  unfold openS
  rw [show tkI [] = (0, 0, 4) from rfl]
  rfl
theorem all_frames (ls : List (List Int)) : ∀ (b : List Int) (at_ : Nat) (acc : List (List Int)) (k : Nat), Okl ls → Bytes b → b.length ≤ 1000000 → at_ ≤ b.length → b.drop at_ = framesS ls → acc.length + ls.length ≤ 1000 → ls.length + 50 ≤ k →
    crc_All.l0 k b acc (at_ : Int) = some (acc ++ ls, (b.length : Int)) := by
  induction ls with
  | nil =>
    intro b at_ acc k ho hb hl hat hd ha hk
    obtain ⟨k, rfl⟩ : ∃ m, k = m + 1 := ⟨k - 1, by simp at hk; omega⟩
    have he : at_ = b.length := by
      have := congrArg List.length hd
      simp [framesS] at this
      omega
    simp only [crc_All.l0, Int.toNat_natCast]
    rw [if_pos (by omega), if_pos (by omega), hd, show framesS [] = [] from rfl, open_eq [] (fun _ h => by cases h) (by simp) k (by simp at hk; omega), open_nil]
    simp only [Option.bind_some, List.append_nil]
    rw [if_neg (by decide), he]
  | cons l ls ih =>
    intro b at_ acc k ho hb hl hat hd ha hk
    rw [List.length_cons] at ha hk
    obtain ⟨k, rfl⟩ : ∃ m, k = m + 1 := ⟨k - 1, by omega⟩
    obtain ⟨h1, h2⟩ := ho l (by simp)
    have hf := frameS_len l
    rw [framesS_cons] at hd
    have hdl := congrArg List.length hd
    rw [List.length_drop, List.length_append] at hdl
    simp only [crc_All.l0, Int.toNat_natCast]
    rw [if_pos (by omega), if_pos (by omega), hd, open_eq _ (by rw [← hd]; exact hb.drop _) (by rw [← hd, List.length_drop]; omega) k (by omega), open_frame l _ (by omega)]
    simp only [Option.bind_some, if_true]
    rw [if_pos (by omega), show wrap64 ((at_ : Int) + ((frameS l).length : Int)) = ((at_ + (frameS l).length : Nat) : Int) by rw [wrap64_id (by omega) (by omega)]; omega]
    have hd2 : b.drop (at_ + (frameS l).length) = framesS ls := by
      rw [← List.drop_drop, hd, List.drop_left' rfl]
    rw [ih b _ _ k (fun x hx => ho x (List.mem_cons_of_mem _ hx)) hb hl (by omega) hd2 (by rw [List.length_append, List.length_cons, List.length_nil]; omega) (by omega)]
    simp
theorem l2_at (ls : List (List Int)) (i : Nat) (h : i < ls.length) : rd_L2 ls (i : Int) = ls[i] := by simp [rd_L2, List.getElem?_eq_getElem h]
theorem rt_l1 (ls : List (List Int)) (tail : List Int) (hls : ls.length ≤ 20) (hok : Okl ls) (ht : Bytes tail) (htl : tail.length ≤ 600) (d : Nat) : ∀ (i k : Nat), ls.length - i = d → i ≤ ls.length → d + 100000 ≤ k → papermilllaw09_CrcRoundTrip.l1 k ls tail ls (i : Int) = some true := by
  induction d with
  | zero =>
    intro i k h h1 hk
    obtain ⟨k, rfl⟩ : ∃ m, k = m + 1 := ⟨k - 1, by omega⟩
    have haw := awake_true k (by omega)
    simp only [papermilllaw09_CrcRoundTrip.l1]
    rw [if_neg (by omega), open_eq tail ht (by omega) k (by omega)]
    simp only [Option.bind_some]
    by_cases he : (openS tail).2.2 = 0
    · obtain ⟨n, e1, e2, e3, e4⟩ := open_once tail ht he
      obtain ⟨n', f1, f2, f3, f4, f5⟩ := open_len tail ht he
      rw [if_pos he, frame_eq _ f4 (by omega), show frS (openS tail).1 = (frameS (openS tail).1, 0) by unfold frS; rw [if_neg (by omega)], e1]
      simp only [Option.bind_some, if_true]
      have hfl := frameS_len (openS tail).1
      have hel := enc_len ((openS tail).1.length : Int)
      rw [if_pos (by omega), show mx (n : Int) 0 = (n : Int) by unfold mx; omega, if_pos (by omega), if_pos (by omega), Int.toNat_natCast, ← e4, same_eq _ _ (by rw [List.length_take]; omega) k (by rw [List.length_take]; omega)]
      simp only [Option.bind_some, decide_true, if_true]
      rw [haw]
      rfl
    · obtain ⟨g1, g2⟩ := open_err tail he
      rw [if_neg he, g1, g2, if_pos (by simp), if_pos rfl, haw]
      rfl
  | succ d ih =>
    intro i k h h1 hk
    obtain ⟨k, rfl⟩ : ∃ m, k = m + 1 := ⟨k - 1, by omega⟩
    have hlt : i < ls.length := by omega
    obtain ⟨b1, b2⟩ := hok _ (List.getElem_mem hlt)
    simp only [papermilllaw09_CrcRoundTrip.l1]
    rw [if_pos (by omega), if_pos (by omega), if_pos (by omega), l2_at ls i hlt, same_eq _ _ (by omega) k (by omega)]
    simp only [Option.bind_some, decide_true, if_true]
    rw [w1 i (by omega)]
    exact ih (i + 1) k (by omega) (by omega) (by omega)
theorem rt_l0 (ls : List (List Int)) (tail : List Int) (hls : ls.length ≤ 20) (hb : ∀ l ∈ ls, Bytes l) (ht : Bytes tail) (htl : tail.length ≤ 600) (d : Nat) : ∀ (i k : Nat), ls.length - i = d → i ≤ ls.length → Okl (ls.take i) → d + 150000 ≤ k →
    papermilllaw09_CrcRoundTrip.l0 k ls tail (framesS (ls.take i)) (i : Int) = some true := by
  induction d with
  | zero =>
    intro i k h h1 hok hk
    obtain ⟨k, rfl⟩ : ∃ m, k = m + 1 := ⟨k - 1, by omega⟩
    rw [List.take_of_length_le (by omega)] at hok ⊢
    have hfl := framesS_len ls hok
    simp only [papermilllaw09_CrcRoundTrip.l0]
    have hall := all_frames ls (framesS ls) 0 [] k hok (framesS_bytes ls hok) (by omega) (Nat.zero_le _) rfl (by simp; omega) (by omega)
    rw [if_neg (by omega)]
    unfold crc_All.f
    rw [show crc_All.l0 k (framesS ls) [] 0 = some (ls, ((framesS ls).length : Int)) by simpa using hall]
    simp only [Option.bind_some, if_true, bne_self_eq_false]
    obtain ⟨k, rfl⟩ : ∃ m, k = m + 1 := ⟨k - 1, by omega⟩
    simp only [papermilllaw09_CrcRoundTrip.j2]
    rw [if_neg (by decide)]
    exact rt_l1 ls tail hls hok ht htl _ 0 k rfl (Nat.zero_le _) (by omega)
  | succ d ih =>
    intro i k h h1 hok hk
    obtain ⟨k, rfl⟩ : ∃ m, k = m + 1 := ⟨k - 1, by omega⟩
    have hlt : i < ls.length := by omega
    have hbi := hb _ (List.getElem_mem hlt)
    have haw := awake_true k (by omega)
    simp only [papermilllaw09_CrcRoundTrip.l0]
    rw [if_pos (by omega), if_pos (by omega), l2_at ls i hlt]
    by_cases hlong : (ls[i].length : Int) > 600
    · rw [if_pos hlong, haw]
      rfl
    · have hfl := framesS_len (ls.take i) hok
      have htk : (ls.take i).length ≤ 20 := by rw [List.length_take]; omega
      have hf := frameS_len ls[i]
      have he := enc_len (ls[i].length : Int)
      rw [if_neg hlong, frame_eq _ hbi (by omega), show frS ls[i] = (frameS ls[i], 0) by unfold frS; rw [if_neg (by omega)]]
      simp only [Option.bind_some, if_true, List.nil_append, List.length_nil, Nat.zero_add]
      rw [if_pos (by omega), if_pos (by omega), open_eq _ ((frameS_bytes _ hbi (by omega)).append ht) (by rw [List.length_append]; omega) k (by omega), open_frame _ _ (by omega)]
      simp only [Option.bind_some, if_true]
      rw [same_eq _ _ (by omega) k (by omega)]
      simp only [Option.bind_some, decide_true, if_true]
      rw [if_pos (by omega), w1 i (by omega)]
      have e : framesS (ls.take i) ++ frameS ls[i] = framesS (ls.take (i + 1)) := by
        unfold framesS
        rw [List.take_succ_eq_append_getElem hlt, List.flatMap_append]
        simp only [List.flatMap_cons, List.flatMap_nil, List.append_nil]
      rw [e]
      refine ih (i + 1) k (by omega) (by omega) (fun x hx => ?_) (by omega)
      rw [List.take_succ_eq_append_getElem hlt] at hx
      rcases List.mem_append.1 hx with hx | hx
      · exact hok x hx
      · rw [List.mem_singleton.1 hx]; exact ⟨hbi, by omega⟩
theorem CrcRoundTrip : papermilllaw09_CrcRoundTrip.Pure := by
  intro l0 l1 h0 h1
  refine ⟨199999 + 1, ?_⟩
  have hb : ∀ l ∈ l0, Bytes l := fun l hl => bytes_of_wf l (h0.2 l hl).2
  have ht := bytes_of_wf l1 h1.2
  have key : papermilllaw09_CrcRoundTrip.j0 (199999 + 1) l0 l1 true = some true := by
    rw [papermilllaw09_CrcRoundTrip.j0, if_pos rfl, awake_true _ (by decide)]
    rfl
  unfold papermilllaw09_CrcRoundTrip.f
  split
  · exact key
  · by_cases hl : (l1.length : Int) > 600
    · rw [decide_eq_true hl]
      exact key
    · rw [decide_eq_false hl, papermilllaw09_CrcRoundTrip.j0, if_neg (by decide)]
      exact rt_l0 l0 l1 (by omega) hb ht (by omega) l0.length 0 199999 rfl (Nat.zero_le _) (fun _ h => by simp at h) (by omega)
end Go.Proofs.YtdnjbakhnnckbaaDoor.Pure
